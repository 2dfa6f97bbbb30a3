import Derived.Test.YtpnecknillpjkaaBkAlike
namespace Go.Proofs.Ytpnecknillpjkaa.Bk
open Go.RowKit Go.Proofs.YtpnecknillpjkaaW.PrintWords Go.Proofs.YtpnecknillpjkaaW.PrintLast

def plays.T13 : Bool × List (List Nat × List Nat) := (true, [([], []), ([], []), ([], []), ([1, 2], [1, 2]), ([3], [3]), ([4], [4]), ([], []), ([], []), ([6, 7], [6, 7]), ([8], [8]), ([9], [9]), ([0, 5, 10], [0, 5, 10]), ([], []), ([], []), ([], []), ([13, 14], [13, 14]), ([15], [15]), ([16], [16]), ([], []), ([], []), ([18, 19], [18, 19]), ([20], [20]), ([21], [21]), ([12, 17, 22, 11], [12, 17, 22]), ([11, 23], [11, 23])])
def plays.B13 : List Nat := [0, 0, 0, 6, 14, 30, 0, 0, 192, 448, 960, 2047, 0, 0, 0, 24576, 57344, 122880, 0, 0, 786432, 1835008, 3932160, 8388607, 16777215]
theorem plays.tab13 : rtab .any (opsOf Try.f7 13) = plays.T13 := by kernel_rfl
theorem plays.bits13 : waitsOk plays.T13.2 plays.B13 = true := by kernel_rfl

theorem ActsAt.below {w w' : World} {A : Option Addr} {l : List Actn} (h : ActsAt w A l) (hb : Below w.heap.size w w') : ActsAt w' A l :=
  ⟨h.ok, fun h0 => by
    obtain ⟨b, o, e, hlt, hr⟩ := h.at_ h0
    exact ⟨b, o, e, Nat.lt_of_lt_of_le hlt hb.size, fun i x hx j v hv => by rw [hb.cell hlt]; exact hr i x hx j v hv⟩⟩
theorem new_ref (w : World) (base : Nat) (hb : base ≤ w.heap.size) : RefAt (w.alloc (.cells #[.slice none 0 0, .int .i64 0] 41)) base w.heap.size (.slice none 0 0) [] 0 :=
  ⟨hb, heap_alloc_new _ _, World.ownsRow_nil _ _ _ _, (fun _ h => by cases h), by simp⟩

set_option maxRecDepth 100000 in
set_option maxHeartbeats 4000000 in
theorem plays_calls (A : Option Addr) (n c : Nat) (l : List Actn) (w : World) (hln : l.length = n) (hA : ActsAt w A l) :
    Calls Try.prog 7 #[.slice A n c] w fun r w' => r = .returned (.bool true) ∧ Below w.heap.size w w' := by
  by_cases h2 : 10000 < n
  · clear hA
    go_enter Try.func7, Try.ntmps7
    go_wp2
    go_ret
    exact ⟨rfl, Below.refl _ _⟩
  have HAc := Lib.hid hA
  have HLn := Lib.hid hln
  clear hA hln
  go_enter Try.func7, Try.ntmps7
  go_wp2_with fail
  refine (new_calls w).mono ?_
  rintro r w1 ⟨rfl, hw1⟩
  have hB1 : BookAt w1 w.heap.size w.heap.size (.slice none 0 0) [] ((0 : Nat) : Int) 0 := by rw [hw1]; exact new_book w
  have hb1 : Below w.heap.size w w1 := by rw [hw1]; exact (Below.refl _ _).alloc (Nat.le_refl _) _
  have HB2 : Hid (∃ v u es s fl, s ≤ es.length ∧ BookAt (w1.alloc (.cells #[.slice none 0 0, .int .i64 0] 41)) w.heap.size w.heap.size v es ((s : Nat) : Int) fl ∧ RefAt (w1.alloc (.cells #[.slice none 0 0, .int .i64 0] 41)) w.heap.size w1.heap.size u es ((s : Nat) : Int)) :=
    ⟨_, _, _, 0, 0, Nat.le_refl _, hB1.below ((Below.refl _ _).alloc (Nat.le_refl _) _), new_ref w1 _ hb1.size⟩
  have Hb : Hid (Below w.heap.size w (w1.alloc (.cells #[.slice none 0 0, .int .i64 0] 41))) := hb1.alloc hb1.size _
  clear hw1 hB1 hb1
  go_wp2
  go_loopw [3, 4, 5] (fun v3 v4 v wr => ∃ i g h : Nat, i ≤ n ∧ v = .int .i64 i ∧ v3 = .pointer (some ⟨g, 0, none⟩) ∧ v4 = .pointer (some ⟨h, 0, none⟩) ∧ Hid (∃ v u es s fl, s ≤ es.length ∧ BookAt wr w.heap.size g v es ((s : Nat) : Int) fl ∧ RefAt wr w.heap.size h u es ((s : Nat) : Int)) ∧ Hid (Below w.heap.size w wr)) (fun _ _ v _ => n - (intOf v).toNat)
  case atStart => exact ⟨0, w.heap.size, w1.heap.size, Nat.zero_le _, rfl, rfl, rfl, HB2.out, Hb.out⟩
  case round =>
    obtain ⟨i, g, h, hin, rfl, rfl, rfl, hB, hbl⟩ := hrel
    clear HB2 Hb
    by_cases hlt : i < n
    · by_cases h120 : i < 120
      · obtain ⟨b, o, rfl, hbA, hacts⟩ := HAc.out.at_ (by have := HLn.out; omega)
        obtain ⟨x, hx⟩ : ∃ x, l[i]? = some x := ⟨_, List.getElem?_eq_getElem (by have := HLn.out; omega)⟩
        have hxok := HAc.out.ok x (List.mem_of_getElem? hx)
        have hxr := hacts i x hx
        obtain ⟨kd, ep, pp⟩ := x
        have HbA := Lib.hid hbA
        have hkd : wr.cell? ⟨b, o + i * 34, none⟩ = some (.int .i64 kd) := by
          rw [hbl.out.cell hbA]
          exact hxr 0 _ rfl
        have HEp : Hid (w.cell? ⟨b, o + i * 34 + 1, none⟩ = some (.int .i64 ep)) := hxr 1 _ rfl
        have hep : wr.cell? ⟨b, o + i * 34 + 1, none⟩ = some (.int .i64 ep) := by
          rw [hbl.out.cell hbA]
          exact HEp.out
        have hpp : Hid (wr.rangeAt b (o + i * 34 + 2) (pc pp)) := fun j v hv => by
          rw [hbl.out.cell hbA]
          have := hxr (j + 2) v hv
          rw [show o + i * 34 + 2 + j = o + i * 34 + (j + 2) by omega]
          exact this
        have HPl : Hid (pp.length = 32) := hxok.len
        have HIp : Hid ((Try.prog.info? 27).map (·.size) = some (pc pp).length) := by show _ = _; rw [pc, List.length_map, hxok.len]; exact info27
        obtain ⟨v1, u1, es, s, fl, hs, hB, hR⟩ := hB.out
        have HB := Lib.hid hB
        have HR := Lib.hid hR
        have HS := Lib.hid hs
        clear hB hR hs hx hxok hxr hacts hbA
        by_cases hk1 : kd = 1
        · subst hk1
          obtain ⟨⟨code, es'⟩, hwr⟩ : ∃ y, writeOf es ep pp = y := ⟨_, rfl⟩
          have HWr := Lib.hid hwr
          have HS5 : Hid (s ≤ es'.length) := by
            obtain ⟨t, ht⟩ := write_grows hwr
            show s ≤ _
            rw [ht, List.length_append]
            have := HS.out
            omega
          clear hwr
          go_wp2_with fail
          refine start_ (n := 25) (S := fun w' => w'.cell? ⟨b, o + i * 34 + 1, none⟩ = some (.int .i64 ep) ∧ w'.rangeAt b (o + i * 34 + 2) (pc pp)) (ds := []) #[false, false, false, false, false, false, false, false, false, false, false, false, false, false, false, false, false, false, false, false, false, false, false, false, false] (by kernel_rfl) rfl rfl ?hS0 (fun hHeld => ?_)
          rotate_left
          refine with_tabW plays.tab13 plays.bits13 (fun HT_ HW_ => ?_)
          generalize hw3d : wr.drew = w3d at hHeld ⊢
          have HW3 := Lib.hid hw3d
          clear hw3d
          refine pure_ (i := 0) (N := some 54) (v := ?_) (a' := ?_) #[true, false, false, false, false, false, false, false, false, false, false, false, false, false, false, false, false, false, false, false, false, false, false, false, false] rfl rfl (any_of HT_.out (by kernel_rfl)) (fun _ _ _ h => h) (Or.inl ⟨by rfl, ?_⟩) ?_ ?_
          rotate_left
          · intro w'
            go_simp
            with_reducible rfl
          rotate_left
          · simp only [Act.put, List.setIfInBounds_toArray, List.set_cons_zero, List.set_cons_succ]
            rfl
          refine pure_ (i := 1) (N := some 55) (v := ?_) (a' := ?_) #[true, true, false, false, false, false, false, false, false, false, false, false, false, false, false, false, false, false, false, false, false, false, false, false, false] rfl rfl (any_of HT_.out (by kernel_rfl)) (fun _ _ _ h => h) (Or.inl ⟨by rfl, ?_⟩) ?_ ?_
          rotate_left
          · intro w'
            go_simp
            with_reducible rfl
          rotate_left
          · simp only [Act.put, List.setIfInBounds_toArray, List.set_cons_zero, List.set_cons_succ]
            rfl
          refine pure_ (i := 2) (N := some 56) (v := ?_) (a' := ?_) #[true, true, true, false, false, false, false, false, false, false, false, false, false, false, false, false, false, false, false, false, false, false, false, false, false] rfl rfl (any_of HT_.out (by kernel_rfl)) (fun _ _ _ h => h) (Or.inl ⟨by rfl, ?_⟩) ?_ ?_
          rotate_left
          · intro w'
            go_simp
            with_reducible rfl
          rotate_left
          · simp only [Act.put, List.setIfInBounds_toArray, List.set_cons_zero, List.set_cons_succ]
            rfl
          refine pure_ (i := 3) (N := some 57) (v := ?_) (a' := ?_) #[true, true, true, true, false, false, false, false, false, false, false, false, false, false, false, false, false, false, false, false, false, false, false, false, false] rfl rfl (any_of HT_.out (by kernel_rfl)) (fun _ _ _ h => h) (Or.inl ⟨by rfl, ?_⟩) ?_ ?_
          rotate_left
          · intro w'
            go_simp
            with_reducible rfl
          rotate_left
          · simp only [Act.put, List.setIfInBounds_toArray, List.set_cons_zero, List.set_cons_succ]
            rfl
          refine pure_ (i := 4) (N := some 58) (v := ?_) (a' := ?_) #[true, true, true, true, true, false, false, false, false, false, false, false, false, false, false, false, false, false, false, false, false, false, false, false, false] rfl rfl (any_of HT_.out (by kernel_rfl)) (fun _ _ _ h => h) (Or.inl ⟨by rfl, ?_⟩) ?_ ?_
          rotate_left
          · intro w'
            go_simp
            with_reducible rfl
          rotate_left
          · simp only [Act.put, List.setIfInBounds_toArray, List.set_cons_zero, List.set_cons_succ]
            rfl
          refine take_ (i := 5) (N := some 59) (v := ?_) (a' := ?_) #[true, true, true, true, true, true, false, false, false, false, false, false, false, false, false, false, false, false, false, false, false, false, false, false, false] rfl rfl (take_ofW HT_.out HW_.out (by kernel_rfl)) (fun _ _ _ h => h) (Or.inl ⟨by rfl, ?_⟩) hHeld ?_ ?_
          rotate_left
          · rintro w' ⟨s0, s1⟩
            go_simp
            with_reducible rfl
          rotate_left
          · simp only [Act.put, List.setIfInBounds_toArray, List.set_cons_zero, List.set_cons_succ]
            rfl
          refine pure_ (i := 6) (N := some 60) (v := ?_) (a' := ?_) #[true, true, true, true, true, true, true, false, false, false, false, false, false, false, false, false, false, false, false, false, false, false, false, false, false] rfl rfl (any_of HT_.out (by kernel_rfl)) (fun _ _ _ h => h) (Or.inl ⟨by rfl, ?_⟩) ?_ ?_
          rotate_left
          · intro w'
            go_simp
            with_reducible rfl
          rotate_left
          · simp only [Act.put, List.setIfInBounds_toArray, List.set_cons_zero, List.set_cons_succ]
            rfl
          refine pure_ (i := 7) (N := some 61) (v := ?_) (a' := ?_) #[true, true, true, true, true, true, true, true, false, false, false, false, false, false, false, false, false, false, false, false, false, false, false, false, false] rfl rfl (any_of HT_.out (by kernel_rfl)) (fun _ _ _ h => h) (Or.inl ⟨by rfl, ?_⟩) ?_ ?_
          rotate_left
          · intro w'
            go_simp
            with_reducible rfl
          rotate_left
          · simp only [Act.put, List.setIfInBounds_toArray, List.set_cons_zero, List.set_cons_succ]
            rfl
          refine pure_ (i := 8) (N := some 62) (v := ?_) (a' := ?_) #[true, true, true, true, true, true, true, true, true, false, false, false, false, false, false, false, false, false, false, false, false, false, false, false, false] rfl rfl (any_of HT_.out (by kernel_rfl)) (fun _ _ _ h => h) (Or.inl ⟨by rfl, ?_⟩) ?_ ?_
          rotate_left
          · intro w'
            go_simp
            with_reducible rfl
          rotate_left
          · simp only [Act.put, List.setIfInBounds_toArray, List.set_cons_zero, List.set_cons_succ]
            rfl
          refine pure_ (i := 9) (N := some 63) (v := ?_) (a' := ?_) #[true, true, true, true, true, true, true, true, true, true, false, false, false, false, false, false, false, false, false, false, false, false, false, false, false] rfl rfl (any_of HT_.out (by kernel_rfl)) (fun _ _ _ h => h) (Or.inl ⟨by rfl, ?_⟩) ?_ ?_
          rotate_left
          · intro w'
            go_simp
            with_reducible rfl
          rotate_left
          · simp only [Act.put, List.setIfInBounds_toArray, List.set_cons_zero, List.set_cons_succ]
            rfl
          refine take_ (i := 10) (N := some 64) (v := .agg (pc pp).toArray) (a' := ?_) #[true, true, true, true, true, true, true, true, true, true, true, false, false, false, false, false, false, false, false, false, false, false, false, false, false] rfl rfl (take_ofW HT_.out HW_.out (by kernel_rfl)) (fun _ _ _ h => h) (yieldsIf_load_mid (by rfl) 27 (.tmp 63) (by rfl) b (o + i * 34 + 2) (by rfl) (pc pp) _ (fun _ h => h.2) Try.underlying27 rfl HIp.out) hHeld ?_ ?_
          rotate_left
          · simp only [Act.put, List.setIfInBounds_toArray, List.set_cons_zero, List.set_cons_succ]
            rfl
          refine pure_ (i := 12) (N := some 66) (v := ?_) (a' := ?_) #[true, true, true, true, true, true, true, true, true, true, true, false, true, false, false, false, false, false, false, false, false, false, false, false, false] rfl rfl (any_of HT_.out (by kernel_rfl)) (fun _ _ _ h => h) (Or.inl ⟨by rfl, ?_⟩) ?_ ?_
          rotate_left
          · intro w'
            go_simp
            with_reducible rfl
          rotate_left
          · simp only [Act.put, List.setIfInBounds_toArray, List.set_cons_zero, List.set_cons_succ]
            rfl
          refine pure_ (i := 13) (N := some 67) (v := ?_) (a' := ?_) #[true, true, true, true, true, true, true, true, true, true, true, false, true, true, false, false, false, false, false, false, false, false, false, false, false] rfl rfl (any_of HT_.out (by kernel_rfl)) (fun _ _ _ h => h) (Or.inl ⟨by rfl, ?_⟩) ?_ ?_
          rotate_left
          · intro w'
            go_simp
            with_reducible rfl
          rotate_left
          · simp only [Act.put, List.setIfInBounds_toArray, List.set_cons_zero, List.set_cons_succ]
            rfl
          refine pure_ (i := 14) (N := some 68) (v := ?_) (a' := ?_) #[true, true, true, true, true, true, true, true, true, true, true, false, true, true, true, false, false, false, false, false, false, false, false, false, false] rfl rfl (any_of HT_.out (by kernel_rfl)) (fun _ _ _ h => h) (Or.inl ⟨by rfl, ?_⟩) ?_ ?_
          rotate_left
          · intro w'
            go_simp
            with_reducible rfl
          rotate_left
          · simp only [Act.put, List.setIfInBounds_toArray, List.set_cons_zero, List.set_cons_succ]
            rfl
          refine pure_ (i := 15) (N := some 69) (v := ?_) (a' := ?_) #[true, true, true, true, true, true, true, true, true, true, true, false, true, true, true, true, false, false, false, false, false, false, false, false, false] rfl rfl (any_of HT_.out (by kernel_rfl)) (fun _ _ _ h => h) (Or.inl ⟨by rfl, ?_⟩) ?_ ?_
          rotate_left
          · intro w'
            go_simp
            with_reducible rfl
          rotate_left
          · simp only [Act.put, List.setIfInBounds_toArray, List.set_cons_zero, List.set_cons_succ]
            rfl
          refine pure_ (i := 16) (N := some 70) (v := ?_) (a' := ?_) #[true, true, true, true, true, true, true, true, true, true, true, false, true, true, true, true, true, false, false, false, false, false, false, false, false] rfl rfl (any_of HT_.out (by kernel_rfl)) (fun _ _ _ h => h) (Or.inl ⟨by rfl, ?_⟩) ?_ ?_
          rotate_left
          · intro w'
            go_simp
            with_reducible rfl
          rotate_left
          · simp only [Act.put, List.setIfInBounds_toArray, List.set_cons_zero, List.set_cons_succ]
            rfl
          refine take_ (i := 17) (N := some 71) (v := ?_) (a' := ?_) #[true, true, true, true, true, true, true, true, true, true, true, false, true, true, true, true, true, true, false, false, false, false, false, false, false] rfl rfl (take_ofW HT_.out HW_.out (by kernel_rfl)) (fun _ _ _ h => h) (Or.inl ⟨by rfl, ?_⟩) hHeld ?_ ?_
          rotate_left
          · rintro w' ⟨s0, s1⟩
            go_simp
            with_reducible rfl
          rotate_left
          · simp only [Act.put, List.setIfInBounds_toArray, List.set_cons_zero, List.set_cons_succ]
            rfl
          refine pure_ (i := 18) (N := some 72) (v := ?_) (a' := ?_) #[true, true, true, true, true, true, true, true, true, true, true, false, true, true, true, true, true, true, true, false, false, false, false, false, false] rfl rfl (any_of HT_.out (by kernel_rfl)) (fun _ _ _ h => h) (Or.inl ⟨by rfl, ?_⟩) ?_ ?_
          rotate_left
          · intro w'
            go_simp
            with_reducible rfl
          rotate_left
          · simp only [Act.put, List.setIfInBounds_toArray, List.set_cons_zero, List.set_cons_succ]
            rfl
          refine pure_ (i := 19) (N := some 73) (v := ?_) (a' := ?_) #[true, true, true, true, true, true, true, true, true, true, true, false, true, true, true, true, true, true, true, true, false, false, false, false, false] rfl rfl (any_of HT_.out (by kernel_rfl)) (fun _ _ _ h => h) (Or.inl ⟨by rfl, ?_⟩) ?_ ?_
          rotate_left
          · intro w'
            go_simp
            with_reducible rfl
          rotate_left
          · simp only [Act.put, List.setIfInBounds_toArray, List.set_cons_zero, List.set_cons_succ]
            rfl
          refine pure_ (i := 20) (N := some 74) (v := ?_) (a' := ?_) #[true, true, true, true, true, true, true, true, true, true, true, false, true, true, true, true, true, true, true, true, true, false, false, false, false] rfl rfl (any_of HT_.out (by kernel_rfl)) (fun _ _ _ h => h) (Or.inl ⟨by rfl, ?_⟩) ?_ ?_
          rotate_left
          · intro w'
            go_simp
            with_reducible rfl
          rotate_left
          · simp only [Act.put, List.setIfInBounds_toArray, List.set_cons_zero, List.set_cons_succ]
            rfl
          refine pure_ (i := 21) (N := some 75) (v := ?_) (a' := ?_) #[true, true, true, true, true, true, true, true, true, true, true, false, true, true, true, true, true, true, true, true, true, true, false, false, false] rfl rfl (any_of HT_.out (by kernel_rfl)) (fun _ _ _ h => h) (Or.inl ⟨by rfl, ?_⟩) ?_ ?_
          rotate_left
          · intro w'
            go_simp
            with_reducible rfl
          rotate_left
          · simp only [Act.put, List.setIfInBounds_toArray, List.set_cons_zero, List.set_cons_succ]
            rfl
          refine take_ (i := 22) (N := some 76) (v := .agg (pc pp).toArray) (a' := ?_) #[true, true, true, true, true, true, true, true, true, true, true, false, true, true, true, true, true, true, true, true, true, true, true, false, false] rfl rfl (take_ofW HT_.out HW_.out (by kernel_rfl)) (fun _ _ _ h => h) (yieldsIf_load_mid (by rfl) 27 (.tmp 75) (by rfl) b (o + i * 34 + 2) (by rfl) (pc pp) _ (fun _ h => h.2) Try.underlying27 rfl HIp.out) hHeld ?_ ?_
          rotate_left
          · simp only [Act.put, List.setIfInBounds_toArray, List.set_cons_zero, List.set_cons_succ]
            rfl
          refine one_ (i := 11) (N := some 65) #[true, true, true, true, true, true, true, true, true, true, true, true, true, true, true, true, true, true, true, true, true, true, true, false, false] rfl rfl (one_of HT_.out (by kernel_rfl)) (by decide) (fun K hK => ?_)
          have HB3 : Hid (BookAt w3d w.heap.size g v1 es s fl) := by rw [← HW3.out]; exact HB.out.below (Below.refl _ _).drew
          have HR3 : Hid (RefAt w3d w.heap.size h u1 es s) := by rw [← HW3.out]; exact HR.out.below (Below.refl _ _).drew
          have hb3 : Below w.heap.size w w3d := by rw [← HW3.out]; exact hbl.out.drew
          refine goes_ Try.func13 (by kernel_rfl) rfl #[.pointer (some ⟨g, 0, none⟩), .int .i64 ep, .agg (papA pp)] (by rfl) rfl rfl (by (try simp only [List.map_toArray, List.map_cons, List.map_nil]); first | done | rfl) ?_
          refine (write_calls w.heap.size g v1 es s fl ep pp w3d HPl.out hb3.size HB3.out code es' HWr.out).mono ?_
          rintro r w4 ⟨rfl, v2, hB4, hC4, _⟩
          refine ⟨_, rfl, ?_⟩
          have HB4 := Lib.hid hB4
          have HR4 := Lib.hid (HR3.out.far HB3.out hC4)
          have hb4 : Below w.heap.size w3d w4 := hC4.below HB3.out.lo (fun k hk => (HB3.out.row_lo k hk).1) hb3.size
          have Hb4 := Lib.hid (hb3.trans hb4)
          refine hK.out _ _ ⟨(hb4.cell HbA.out).trans hHeld.1, fun j v hv => (hb4.cell HbA.out).trans (hHeld.2 j v hv)⟩ (fun hHeld => ?_)
          clear hK K hb3 hB4 hC4 hb4 HB3 HR3
          refine norm_ (a' := ?_) ?_ ?_
          rotate_left
          · show Act.put _ (some 65) _ = _
            simp only [Act.put, List.setIfInBounds_toArray, List.set_cons_zero, List.set_cons_succ]
            rfl
          refine one_ (i := 23) (N := some 77) #[true, true, true, true, true, true, true, true, true, true, true, true, true, true, true, true, true, true, true, true, true, true, true, true, false] rfl rfl (one_of HT_.out (by kernel_rfl)) (by decide) (fun K hK => ?_)
          refine goes_ Try.func19 (by kernel_rfl) rfl #[.pointer (some ⟨h, 0, none⟩), .int .i64 ep, .agg (papA pp)] (by rfl) rfl rfl (by (try simp only [List.map_toArray, List.map_cons, List.map_nil]); first | done | rfl) ?_
          refine (rwrite_calls w.heap.size h u1 es s ep pp w4 HPl.out Hb4.out.size HR4.out code es' HWr.out).mono ?_
          rintro r w5 ⟨rfl, u2, hR5, hC5⟩
          refine ⟨_, rfl, ?_⟩
          have HR5 := Lib.hid hR5
          have HB5 := Lib.hid (HB4.out.farRef HR4.out hC5)
          have hb5 : Below w.heap.size w4 w5 := hC5.below HR4.out.lo (fun k hk => (HR4.out.own.lt k hk).1) Hb4.out.size
          have Hb5 := Lib.hid (Hb4.out.trans hb5)
          refine hK.out _ _ ⟨(hb5.cell HbA.out).trans hHeld.1, fun j v hv => (hb5.cell HbA.out).trans (hHeld.2 j v hv)⟩ (fun hHeld => ?_)
          clear hK K hR5 hC5 hb5 HB4 HR4 Hb4
          refine norm_ (a' := ?_) ?_ ?_
          rotate_left
          · show Act.put _ (some 77) _ = _
            simp only [Act.put, List.setIfInBounds_toArray, List.set_cons_zero, List.set_cons_succ]
            rfl
          refine pure_ (i := 24) (N := some 78) (v := ?_) (a' := ?_) #[true, true, true, true, true, true, true, true, true, true, true, true, true, true, true, true, true, true, true, true, true, true, true, true, true] rfl rfl (any_of HT_.out (by kernel_rfl)) (fun _ _ _ h => h) (Or.inl ⟨by rfl, ?_⟩) ?_ ?_
          rotate_left
          · intro w'
            go_simp
            with_reducible rfl
          rotate_left
          · simp only [Act.put, List.setIfInBounds_toArray, List.set_cons_zero, List.set_cons_succ]
            rfl
          refine done_ (done_of HT_.out (by kernel_rfl)) ?_
          clear HT_ HW_ HW3 hHeld hkd hep
          go_wp2_with fail
          refine (alike_calls _ _ _ _ _ _ _ _ _ _ _ _ _ l w5 HLn.out (HAc.out.below Hb5.out) HB5.out HR5.out).mono ?_
          rintro r w9 ⟨rfl, hb9⟩
          have HB9 := Lib.hid (HB5.out.below hb9)
          have HR9 := Lib.hid (HR5.out.below hb9)
          have Hb9 := Lib.hid (Hb5.out.trans (hb9.mono Hb5.out.size))
          clear hb9
          go_wp2_with fail
          go_roundw
          case rel => exact ⟨i + 1, g, h, by omega, by go_num, rfl, rfl, ⟨_, _, _, _, _, HS5.out, HB9.out, HR9.out⟩, Hb9.out⟩
          case measure => simp [intOf]; omega
          case hS0 => exact ⟨hep, hpp.out⟩
        · have hk1' : (kd == 1) = false := beq_eq_false_iff_ne.2 hk1
          by_cases hk2 : kd = 2
          · subst hk2
            clear hk1 hk1'
            go_wp2_with fail
            refine (flush_calls _ _ _ _ _ _ wr HB.out).mono ?_
            rintro r w4 ⟨rfl, hB4, hC4⟩
            have HB4 := Lib.hid hB4
            have HR4 := Lib.hid (HR.out.far HB.out hC4.none_any)
            have Hb4 := Lib.hid (hbl.out.trans (hC4.below HB.out.lo (by simp) hbl.out.size))
            clear hB4 hC4
            go_wp2_with fail
            refine (rflush_calls _ _ _ _ _ w4 HR4.out).mono ?_
            rintro r w5 ⟨rfl, hR5, hC5⟩
            have HR5 := Lib.hid hR5
            have HB5 := Lib.hid (HB4.out.farRef HR4.out hC5.none_any)
            have Hb5 := Lib.hid (Hb4.out.trans (hC5.below HR4.out.lo (by simp) Hb4.out.size))
            have HS5 : Hid (es.length ≤ es.length) := Nat.le_refl _
            clear hR5 hC5 hkd hep HB4 HR4 Hb4
            go_wp2_with fail
            refine (alike_calls _ _ _ _ _ _ _ _ _ _ _ _ _ l w5 HLn.out (HAc.out.below Hb5.out) HB5.out HR5.out).mono ?_
            rintro r w9 ⟨rfl, hb9⟩
            have HB9 := Lib.hid (HB5.out.below hb9)
            have HR9 := Lib.hid (HR5.out.below hb9)
            have Hb9 := Lib.hid (Hb5.out.trans (hb9.mono Hb5.out.size))
            clear hb9
            go_wp2_with fail
            go_roundw
            case rel => exact ⟨i + 1, g, h, by omega, by go_num, rfl, rfl, ⟨_, _, _, _, _, HS5.out, HB9.out, HR9.out⟩, Hb9.out⟩
            case measure => simp [intOf]; omega
          · have hk2' : (kd == 2) = false := beq_eq_false_iff_ne.2 hk2
            clear hk1 hk2
            obtain ⟨nx, hnx⟩ : ∃ nx : Nat, (nx : Int) = (s : Int) + min (max ep 0) ((es.length : Int) - s) := ⟨((s : Int) + min (max ep 0) ((es.length : Int) - s)).toNat, by have := HS.out; omega⟩
            have HCR := Lib.hid (crash_calls w.heap.size g v1 es s fl ep wr HB.out HS.out nx hnx)
            have HRC : Hid (∀ w2, RefAt w2 w.heap.size h u1 es s → Calls Try.prog 23 #[.pointer (some ⟨h, 0, none⟩), .int .i64 ep] w2 fun r w' => ∃ g' v', r = .returned (.pointer (some ⟨g', 0, none⟩)) ∧ RefAt w' w2.heap.size g' v' (es.take nx) nx ∧ Below w2.heap.size w2 w') := fun w2 hR2 => rcrash_calls w.heap.size h u1 es s ep w2 hR2 HS.out nx hnx
            have HS5 : Hid (nx ≤ (es.take nx).length) := by have := HS.out; show _ ≤ _; rw [List.length_take]; omega
            clear hnx
            go_wp2_with fail
            refine HCR.out.mono ?_
            clear HCR
            rintro r w4 ⟨g2, v2, rfl, hB4, hb4⟩
            have HN4 := Lib.hid (hB4.lower hbl.out.size)
            have HB4 := Lib.hid (HB.out.below hb4)
            have HR4 := Lib.hid (HR.out.below hb4)
            have Hb4 := Lib.hid (hbl.out.trans (hb4.mono hbl.out.size))
            clear hB4 hb4
            go_wp2_with fail
            refine (alike_calls _ _ _ _ _ _ _ _ _ _ _ _ _ l w4 HLn.out (HAc.out.below Hb4.out) HB4.out HR4.out).mono ?_
            rintro r w6 ⟨rfl, hb6⟩
            have HN6 := Lib.hid (HN4.out.below hb6)
            have HR6 := Lib.hid (HR4.out.below hb6)
            have Hb6 := Lib.hid (Hb4.out.trans (hb6.mono Hb4.out.size))
            have hep6 : w6.cell? ⟨b, o + i * 34 + 1, none⟩ = some (.int .i64 ep) := by
              rw [Hb6.out.cell HbA.out]
              exact HEp.out
            clear hb6 hep hkd
            go_wp2_with fail
            refine (HRC.out w6 HR6.out).mono ?_
            clear HRC
            rintro r w7 ⟨h2, u2, rfl, hR7, hb7⟩
            have HR7 := Lib.hid (hR7.lower Hb6.out.size)
            have HN7 := Lib.hid (HN6.out.below hb7)
            have Hb7 := Lib.hid (Hb6.out.trans (hb7.mono Hb6.out.size))
            clear hR7 hb7 hep6
            go_wp2_with fail
            refine (alike_calls _ _ _ _ _ _ _ _ _ _ _ _ _ l w7 HLn.out (HAc.out.below Hb7.out) HN7.out HR7.out).mono ?_
            rintro r w9 ⟨rfl, hb9⟩
            have HB9 := Lib.hid (HN7.out.below hb9)
            have HR9 := Lib.hid (HR7.out.below hb9)
            have Hb9 := Lib.hid (Hb7.out.trans (hb9.mono Hb7.out.size))
            clear hb9
            go_wp2_with fail
            go_roundw
            case rel => exact ⟨i + 1, g2, h2, by omega, by go_num, rfl, rfl, ⟨_, _, _, _, _, HS5.out, HB9.out, HR9.out⟩, Hb9.out⟩
            case measure => simp [intOf]; omega
      · go_wp2_with fail
        refine (known_calls wr).mono ?_
        rintro r w4 ⟨rfl, hb4⟩
        have Hb4 := Lib.hid (hbl.out.trans (hb4.mono hbl.out.size))
        clear hb4
        go_wp2
        go_ret
        exact ⟨rfl, Hb4.out⟩
    · go_wp2_with fail
      refine (known_calls wr).mono ?_
      rintro r w4 ⟨rfl, hb4⟩
      have Hb4 := Lib.hid (hbl.out.trans (hb4.mono hbl.out.size))
      clear hb4
      go_wp2
      go_ret
      exact ⟨rfl, Hb4.out⟩
end Go.Proofs.Ytpnecknillpjkaa.Bk
