import Derived.Test.YtpnecknillpjkaaBkRefWrite
import Derived.Test.YtpnecknillpjkaaBkLawLocks
namespace Go.Proofs.Ytpnecknillpjkaa.Bk
open Go.RowKit Go.Proofs.YtpnecknillpjkaaW.PrintWords Go.Proofs.YtpnecknillpjkaaW.PrintLast

def alike.T1 : Bool × List (List Nat × List Nat) := (true, [([], []), ([0], [0]), ([1], [1]), ([2], [2]), ([3, 2, 2], [2, 3]), ([2], [2]), ([5, 2], [2, 5]), ([6, 2], [2, 6]), ([7, 2], [2, 7]), ([8, 2], [2, 8]), ([4, 9, 2], [2, 4, 9]), ([2, 10], [2, 10])])
def alike.B1 : List Nat := [0, 1, 3, 7, 15, 7, 39, 103, 231, 487, 1023, 2047]
theorem alike.tab1 : rtab .any (opsOf Try.f22 1) = alike.T1 := by kernel_rfl
theorem alike.bits1 : waitsOk alike.T1.2 alike.B1 = true := by kernel_rfl

theorem heldW_size (w : World) (p : List Int) : w.heap.size < (heldW w p).heap.size := by
  have h1 : w.heap.size < (w.alloc (.cells (papA zeros) 27)).heap.size := by show _ < (w.heap.push _).size; simp
  exact Nat.lt_of_lt_of_le h1 (below_setCells (B := 0) (Below.refl _ _) (Nat.zero_le _) _ _).size

set_option maxRecDepth 100000 in
set_option maxHeartbeats 2000000 in
theorem alike_calls (base base' g h : Nat) (v u : Value) (es : List (Int × List Int)) (st fl sr : Int) (A : Option Addr) (n c : Nat) (l : List Actn) (w : World) (hln : l.length = n) (hA : ActsAt w A l) (hB : BookAt w base g v es st fl) (hR : RefAt w base' h u es sr) :
    Calls Try.prog 22 #[.pointer (some ⟨g, 0, none⟩), .pointer (some ⟨h, 0, none⟩), .slice A n c] w fun r w' => r = .returned (.bool true) ∧ Below w.heap.size w w' := by
  obtain ⟨A1, c1, rfl, _, _⟩ := hB.own.reads
  obtain ⟨A2, c2, rfl, _, _, _⟩ := ref_reads hR
  have hcb : w.cell? ⟨g, 0, none⟩ = some (.slice A1 es.length c1) := by rw [hB.cell]; rfl
  have hcr : w.cell? ⟨h, 0, none⟩ = some (.slice A2 es.length c2) := by rw [hR.cell]; rfl
  have h100 := hB.len
  have HB := Lib.hid hB
  have HR := Lib.hid hR
  have HAc := Lib.hid hA
  have HLn := Lib.hid hln
  clear hB hR hA hln
  go_enter Try.func22, Try.ntmps22
  go_wp2_with fail
  refine start_ (n := 12) (S := fun w' => w'.cell? ⟨h, 0, none⟩ = some (.slice A2 es.length c2)) (ds := []) #[false, false, false, false, false, false, false, false, false, false, false, false] (by kernel_rfl) rfl rfl hcr (fun hHeld => ?_)
  rotate_left
  refine with_tabW alike.tab1 alike.bits1 (fun HT_ HW_ => ?_)
  generalize hw3d : w.drew = w3d at hHeld ⊢
  have HW3 := Lib.hid hw3d
  clear hw3d
  refine pure_ (i := 0) (N := some 12) (v := ?_) (a' := ?_) #[true, false, false, false, false, false, false, false, false, false, false, false] rfl rfl (any_of HT_.out (by kernel_rfl)) (fun _ _ _ h => h) (Or.inl ⟨by rfl, ?_⟩) ?_ ?_
  rotate_left
  · intro w'
    go_simp
    with_reducible rfl
  rotate_left
  · simp only [Act.put, List.setIfInBounds_toArray, List.set_cons_zero, List.set_cons_succ]
    rfl
  refine pure_ (i := 1) (N := some 13) (v := ?_) (a' := ?_) #[true, true, false, false, false, false, false, false, false, false, false, false] rfl rfl (any_of HT_.out (by kernel_rfl)) (fun _ _ _ h => h) (Or.inl ⟨by rfl, ?_⟩) ?_ ?_
  rotate_left
  · intro w'
    go_simp
    with_reducible rfl
  rotate_left
  · simp only [Act.put, List.setIfInBounds_toArray, List.set_cons_zero, List.set_cons_succ]
    rfl
  refine pure_ (i := 2) (N := some 14) (v := ?_) (a' := ?_) #[true, true, true, false, false, false, false, false, false, false, false, false] rfl rfl (any_of HT_.out (by kernel_rfl)) (fun _ _ _ h => h) (Or.inl ⟨by rfl, ?_⟩) ?_ ?_
  rotate_left
  · intro w'
    go_simp
    with_reducible rfl
  rotate_left
  · simp only [Act.put, List.setIfInBounds_toArray, List.set_cons_zero, List.set_cons_succ]
    rfl
  refine pure_ (i := 3) (N := some 15) (v := ?_) (a' := ?_) #[true, true, true, true, false, false, false, false, false, false, false, false] rfl rfl (any_of HT_.out (by kernel_rfl)) (fun _ _ _ h => h) (Or.inl ⟨by rfl, ?_⟩) ?_ ?_
  rotate_left
  · intro w'
    go_simp
    with_reducible rfl
  rotate_left
  · simp only [Act.put, List.setIfInBounds_toArray, List.set_cons_zero, List.set_cons_succ]
    rfl
  refine pure_ (i := 5) (N := some 17) (v := ?_) (a' := ?_) #[true, true, true, true, false, true, false, false, false, false, false, false] rfl rfl (any_of HT_.out (by kernel_rfl)) (fun _ _ _ h => h) (Or.inl ⟨by rfl, ?_⟩) ?_ ?_
  rotate_left
  · intro w'
    go_simp
    with_reducible rfl
  rotate_left
  · simp only [Act.put, List.setIfInBounds_toArray, List.set_cons_zero, List.set_cons_succ]
    rfl
  refine pure_ (i := 6) (N := some 18) (v := ?_) (a' := ?_) #[true, true, true, true, false, true, true, false, false, false, false, false] rfl rfl (any_of HT_.out (by kernel_rfl)) (fun _ _ _ h => h) (Or.inl ⟨by rfl, ?_⟩) ?_ ?_
  rotate_left
  · intro w'
    go_simp
    with_reducible rfl
  rotate_left
  · simp only [Act.put, List.setIfInBounds_toArray, List.set_cons_zero, List.set_cons_succ]
    rfl
  refine pure_ (i := 7) (N := some 19) (v := ?_) (a' := ?_) #[true, true, true, true, false, true, true, true, false, false, false, false] rfl rfl (any_of HT_.out (by kernel_rfl)) (fun _ _ _ h => h) (Or.inl ⟨by rfl, ?_⟩) ?_ ?_
  rotate_left
  · intro w'
    go_simp
    with_reducible rfl
  rotate_left
  · simp only [Act.put, List.setIfInBounds_toArray, List.set_cons_zero, List.set_cons_succ]
    rfl
  refine take_ (i := 8) (N := some 20) (v := ?_) (a' := ?_) #[true, true, true, true, false, true, true, true, true, false, false, false] rfl rfl (take_ofW HT_.out HW_.out (by kernel_rfl)) (fun _ _ _ h => h) (Or.inl ⟨by rfl, ?_⟩) hHeld ?_ ?_
  rotate_left
  · intro w' s0
    go_simp
    with_reducible rfl
  rotate_left
  · simp only [Act.put, List.setIfInBounds_toArray, List.set_cons_zero, List.set_cons_succ]
    rfl
  refine pure_ (i := 9) (N := some 21) (v := ?_) (a' := ?_) #[true, true, true, true, false, true, true, true, true, true, false, false] rfl rfl (any_of HT_.out (by kernel_rfl)) (fun _ _ _ h => h) (Or.inl ⟨by rfl, ?_⟩) ?_ ?_
  rotate_left
  · intro w'
    go_simp
    with_reducible rfl
  rotate_left
  · simp only [Act.put, List.setIfInBounds_toArray, List.set_cons_zero, List.set_cons_succ]
    rfl
  refine one_ (i := 4) (N := some 16) #[true, true, true, true, true, true, true, true, true, true, false, false] rfl rfl (one_of HT_.out (by kernel_rfl)) (by decide) (fun K hK => ?_)
  have hcg : w3d.cell? ⟨g, 0, none⟩ = some (.slice A1 es.length c1) := by rw [← HW3.out]; exact hcb
  refine goes_ Try.func14 (by kernel_rfl) rfl #[.pointer (some ⟨g, 0, none⟩)] (by rfl) rfl rfl (by (try simp only [List.map_toArray, List.map_cons, List.map_nil]); first | done | rfl) ?_
  refine (len_calls g A1 es.length c1 w3d hcg).mono ?_
  rintro r w4 ⟨rfl, rfl⟩
  refine ⟨_, rfl, ?_⟩
  refine hK.out _ _ hHeld (fun hHeld => ?_)
  clear hK K hcg
  refine norm_ (a' := ?_) ?_ ?_
  rotate_left
  · show Act.put _ (some 16) _ = _
    simp only [Act.put, List.setIfInBounds_toArray, List.set_cons_zero, List.set_cons_succ]
    rfl
  refine pure_ (i := 10) (N := some 22) (v := ?_) (a' := ?_) #[true, true, true, true, true, true, true, true, true, true, true, false] rfl rfl (any_of HT_.out (by kernel_rfl)) (fun _ _ _ h => h) (Or.inl ⟨by rfl, ?_⟩) ?_ ?_
  rotate_left
  · intro w'
    go_simp
    with_reducible rfl
  rotate_left
  · simp only [Act.put, List.setIfInBounds_toArray, List.set_cons_zero, List.set_cons_succ]
    rfl
  refine pure_ (i := 11) (N := some 23) (v := ?_) (a' := ?_) #[true, true, true, true, true, true, true, true, true, true, true, true] rfl rfl (any_of HT_.out (by kernel_rfl)) (fun _ _ _ h => h) (Or.inl ⟨by rfl, ?_⟩) ?_ ?_
  rotate_left
  · intro w'
    go_simp
    with_reducible rfl
  rotate_left
  · simp only [Act.put, List.setIfInBounds_toArray, List.set_cons_zero, List.set_cons_succ]
    rfl
  refine done_ (done_of HT_.out (by kernel_rfl)) ?_
  have Hb3 : Hid (Below w.heap.size w w3d) := by rw [← HW3.out]; exact (Below.refl _ _).drew
  clear HT_ HW_ hHeld hcb
  go_wp2_with fail
  go_loopw [7] (fun v wr => ∃ i : Nat, v = .int .i64 i ∧ Hid (Below w.heap.size w wr)) (fun v _ => 121 - (intOf v).toNat)
  case atStart => exact ⟨0, rfl, Hb3.out⟩
  case round =>
    obtain ⟨i, rfl, hbl⟩ := hrel
    clear HW3 Hb3
    by_cases hlt : i < n
    · by_cases h120 : i < 120
      · obtain ⟨b, o, rfl, hbA, hacts⟩ := HAc.out.at_ (by have := HLn.out; omega)
        obtain ⟨x, hx⟩ : ∃ x, l[i]? = some x := ⟨_, List.getElem?_eq_getElem (by have := HLn.out; omega)⟩
        have hxr := hacts i x hx
        obtain ⟨kd, ep, pp⟩ := x
        have HEp : Hid (w.cell? ⟨b, o + i * 34 + 1, none⟩ = some (.int .i64 ep)) := hxr 1 _ rfl
        have hep : wr.cell? ⟨b, o + i * 34 + 1, none⟩ = some (.int .i64 ep) := by rw [hbl.out.cell hbA]; exact HEp.out
        obtain ⟨⟨P, q⟩, hl⟩ : ∃ y, look es ep = y := ⟨_, rfl⟩
        have hP : P.length = 32 := by have := look_len HB.out.ok ep; rw [hl] at this; exact this
        have HI : Hid ((Try.prog.info? 27).map (·.size) = some (pc P).length) := by show _ = _; rw [pc, List.length_map, hP]; exact info27
        have HT : Hid (∀ w : World, (w.alloc (.cells (papA zeros) 27)).there w.heap.size 0 (papA P).size) := fun w => alloc_there w P hP
        have HL : Hid ((Try.prog.info? 27).map (·.size) = some (papA P).size) := by show _ = _; rw [papA_size hP]; exact info27
        have hnee : ∀ w : World, (binOp .neq 27 (.agg (pc P).toArray) (.agg (pc P).toArray)).run Try.prog w = .ok (.bool false) w := fun w => by
          have := run_ne_hash P P hP hP w
          simpa [papA] using this
        have HPl := Lib.hid hP
        have HHo := Lib.hid ((HB.out.below hbl.out).holds ep P q hl)
        have HHr : Hid (∀ w2, Below w.heap.size w w2 → Calls Try.prog 30 #[.pointer (some ⟨h, 0, none⟩), .int .i64 ep] w2 fun r w' => r = .returned (.tuple #[.agg (papA P), .bool q]) ∧ Below w2.heap.size w2 w') := fun w2 hb => by
          have := rholds_calls base' h _ es sr ep w2 (HR.out.below hb)
          rw [hl] at this
          exact this
        have HbA := Lib.hid hbA
        clear hx hxr hacts hbA hl hP
        go_wp2_with fail
        refine HHo.out.mono ?_
        clear HHo hep
        rintro r w2 ⟨rfl, hb2⟩
        obtain ⟨w3, hw3⟩ : ∃ w3, w3 = heldW w2 P := ⟨_, rfl⟩
        have HW3 := Lib.hid hw3
        have Hb2 := Lib.hid (hbl.out.trans (hb2.mono hbl.out.size))
        have Hb3 : Hid (Below w.heap.size w w3) := by rw [hw3]; exact Hb2.out.trans ((heldW_below w2 P).mono Hb2.out.size)
        have HR3 : Hid (w3.rangeAt w2.heap.size 0 (pc P)) := by rw [hw3]; exact heldW_reads w2 P HPl.out
        have HS3 : Hid (w2.heap.size < w3.heap.size) := by rw [hw3]; exact heldW_size w2 P
        have hep3 : w3.cell? ⟨b, o + i * 34 + 1, none⟩ = some (.int .i64 ep) := by rw [Hb3.out.cell HbA.out]; exact HEp.out
        clear hb2 hw3
        go_wp2_with ((refine wpList_store_mid rfl 27 (.tmp 8) (.tmp 42) (by rfl) w2.heap.size 0 (papA P) (by rfl) (by rfl) (HT.out w2) HL.out (papA_all _) ?_); change wpList _ _ _ _ _ (heldW w2 P); rw [← HW3.out])
        refine (HHr.out w3 Hb3.out).mono ?_
        rintro r w4 ⟨rfl, hb4⟩
        obtain ⟨w5, hw5⟩ : ∃ w5, w5 = heldW w4 P := ⟨_, rfl⟩
        have HW5 := Lib.hid hw5
        have Hb5 : Hid (Below w.heap.size w w5) := by rw [hw5]; exact Hb3.out.trans ((hb4.trans ((heldW_below w4 P).mono hb4.size)).mono Hb3.out.size)
        have HR5 : Hid (w5.rangeAt w2.heap.size 0 (pc P)) := fun j v hv => by
          rw [hw5, (hb4.trans ((heldW_below w4 P).mono hb4.size)).cell HS3.out]; exact HR3.out j v hv
        have HR6 : Hid (w5.rangeAt w4.heap.size 0 (pc P)) := by rw [hw5]; exact heldW_reads w4 P HPl.out
        clear hb4 hw5 hep3
        go_wp2_with (first
          | ((refine wpList_store_mid rfl 27 (.tmp 10) (.tmp 52) (by rfl) w4.heap.size 0 (papA P) (by rfl) (by rfl) (HT.out w4) HL.out (papA_all _) ?_); change wpList _ _ _ _ _ (heldW w4 P); rw [← HW5.out])
          | (refine wpList_load_mid rfl 27 (.tmp 8) (by rfl) w2.heap.size 0 (by rfl) (pc P) _ HR5.out Try.underlying27 rfl HI.out ?_)
          | (refine wpList_load_mid rfl 27 (.tmp 10) (by rfl) w4.heap.size 0 (by rfl) (pc P) _ HR6.out Try.underlying27 rfl HI.out ?_))
        go_roundw
        case rel => exact ⟨i + 1, by go_num, Hb5.out⟩
        case measure => simp [intOf]; omega
      · go_wp2_with fail
        go_ret
        exact ⟨rfl, hbl.out⟩
    · go_wp2_with fail
      go_ret
      exact ⟨rfl, hbl.out⟩
end Go.Proofs.Ytpnecknillpjkaa.Bk
