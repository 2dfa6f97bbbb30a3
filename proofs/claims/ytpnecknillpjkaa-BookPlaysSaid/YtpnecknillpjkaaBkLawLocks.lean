import Derived.Test.YtpnecknillpjkaaBkActs
import Derived.Test.YtpnecknillpjkaaBkLawNothing
namespace Go.Proofs.Ytpnecknillpjkaa.Bk
open Go.RowKit Go.Proofs.YtpnecknillpjkaaW.PrintWords Go.Proofs.YtpnecknillpjkaaW.PrintLast

def locks.T13 : Bool × List (List Nat × List Nat) := (true, [([], []), ([], []), ([], []), ([1, 2], [1, 2]), ([3], [3]), ([4], [4]), ([], []), ([], []), ([6, 7], [6, 7]), ([8], [8]), ([9], [9]), ([0, 5, 10], [0, 5, 10]), ([11, 11, 0, 1, 2, 3, 4, 5, 6, 7, 8, 9, 10, 11], [11])])
def locks.B13 : List Nat := [0, 0, 0, 6, 14, 30, 0, 0, 192, 448, 960, 2047, 4095]
theorem locks.tab13 : rtab .any (opsOf Try.f8 13) = locks.T13 := by kernel_rfl
theorem locks.bits13 : waitsOk locks.T13.2 locks.B13 = true := by kernel_rfl
def locks.T14 : Bool × List (List Nat × List Nat) := (true, [([], []), ([], []), ([0, 1], [0, 1]), ([2], [2]), ([3], [3]), ([], []), ([4, 5], [4, 5]), ([6], [6]), ([7], [7]), ([8, 7], [7, 8]), ([7], [7]), ([7], [7]), ([10, 11, 7], [7, 10, 11]), ([12, 7], [7, 12]), ([13, 7], [7, 13]), ([7], [7]), ([14, 15, 7], [7, 14, 15]), ([9, 16, 7], [7, 9, 16]), ([7, 17], [7, 17])])
def locks.B14 : List Nat := [0, 0, 3, 7, 15, 0, 63, 127, 255, 511, 255, 255, 3327, 7423, 15615, 255, 64767, 131071, 262143]
theorem locks.tab14 : rtab .any (opsOf Try.f8 14) = locks.T14 := by kernel_rfl
theorem locks.bits14 : waitsOk locks.T14.2 locks.B14 = true := by kernel_rfl

theorem look_prefix {a c : List (Int × List Int)} {e : Int} {p : List Int} (h : look a e = (p, true)) : look (a ++ c) e = (p, true) := by
  unfold look at h ⊢
  rw [List.find?_append]
  cases hf : a.find? (fun x => x.1 == e) with
  | none => rw [hf] at h; simp at h
  | some x => rw [hf] at h; simpa using h
theorem look_take {es : List (Int × List Int)} {e : Int} {p : List Int} {s n : Nat} (h : look (es.take s) e = (p, true)) (hs : s ≤ n) : look (es.take n) e = (p, true) := by
  have : es.take n = es.take s ++ (es.drop s).take (n - s) := by
    rw [show n = s + (n - s) by omega, List.take_add, show s + (n - s) - s = n - s by omega]
  rw [this]
  exact look_prefix h
theorem look_all {es : List (Int × List Int)} {e : Int} {p : List Int} {s : Nat} (h : look (es.take s) e = (p, true)) : look es e = (p, true) := by
  conv => lhs; arg 1; rw [← List.take_append_drop s es]
  exact look_prefix h
/-- What Write leaves: the same entries, or one more. -/
theorem write_grows {es : List (Int × List Int)} {x : Int} {q : List Int} {code : Int} {es' : List (Int × List Int)} (h : writeOf es x q = (code, es')) : ∃ t, es' = es ++ t := by
  unfold writeOf at h
  (repeat' split at h) <;> (obtain ⟨_, rfl⟩ := Prod.mk.inj h) <;> first | exact ⟨[], (List.append_nil _).symm⟩ | exact ⟨_, rfl⟩
theorem write_same {es : List (Int × List Int)} {x : Int} {q p : List Int} {code : Int} {es' : List (Int × List Int)} (h : writeOf es x q = (code, es')) (hl : look es x = (p, true)) (h0 : 0 ≤ x) (h1 : x ≤ 1099511627776) : code = if q = p then 0 else 9 := by
  unfold writeOf at h
  rw [if_neg (by omega), hl, if_pos rfl] at h
  by_cases hq : q = p
  · rw [if_pos hq]
    rw [if_pos hq.symm] at h
    exact (Prod.mk.inj h).1.symm
  · rw [if_neg hq]
    rw [if_neg (fun e => hq e.symm)] at h
    exact (Prod.mk.inj h).1.symm
theorem BookAt.lower {w : World} {base base' g : Nat} {v : Value} {es : List (Int × List Int)} {st fl : Int} (h : BookAt w base g v es st fl) (hb : base' ≤ base) : BookAt w base' g v es st fl :=
  ⟨Nat.le_trans hb h.lo, h.blk, ⟨h.own.1, h.own.2.imp id (fun ⟨k, cap, cur, h1, h2, h3⟩ => ⟨k, cap, cur, h1, Nat.le_trans hb h2, h3⟩)⟩, h.ok, h.len⟩

set_option maxRecDepth 100000 in
set_option maxHeartbeats 4000000 in
theorem locks_calls (e : Int) (p : List Int) (A : Option Addr) (n c : Nat) (l : List Actn) (w : World) (hp : p.length = 32) (hln : l.length = n) (hA : ActsAt w A l) :
    Calls Try.prog 8 #[.int .i64 e, .agg (papA p), .slice A n c] w fun r w' => r = .returned (.bool true) ∧ Below w.heap.size w w' := by
  by_cases h0 : e < 0
  · go_enter Try.func8, Try.ntmps8
    go_wp2
    go_ret
    exact ⟨rfl, (Below.refl _ _).alloc (Nat.le_refl _) _⟩
  by_cases h1 : 1099511627776 < e
  · go_enter Try.func8, Try.ntmps8
    go_wp2
    go_ret
    exact ⟨rfl, (Below.refl _ _).alloc (Nat.le_refl _) _⟩
  by_cases h2 : 10000 < n
  · clear hA
    go_enter Try.func8, Try.ntmps8
    go_wp2
    go_ret
    exact ⟨rfl, (Below.refl _ _).alloc (Nat.le_refl _) _⟩
  have HP := Lib.hid hp
  have HI : Hid ((Try.prog.info? 27).map (·.size) = some (pc p).length) := by show _ = _; rw [pc, List.length_map, hp]; exact info27
  have HAc := Lib.hid hA
  have HLn := Lib.hid hln
  have HW0 : Hid (writeOf [] e p = (0, [(e, p)])) := by
    show _ = _
    unfold writeOf
    rw [if_neg (by omega)]
    rfl
  have HT : Hid (∀ w : World, (w.alloc (.cells (papA zeros) 27)).there w.heap.size 0 (papA p).size) := fun w => alloc_there w p hp
  have HL : Hid ((Try.prog.info? 27).map (·.size) = some (papA p).size) := by show _ = _; rw [papA_size hp]; exact info27
  have hnee : ∀ w : World, (binOp .neq 27 (.agg (pc p).toArray) (.agg (pc p).toArray)).run Try.prog w = .ok (.bool false) w := fun w => by
    have := run_ne_hash p p HP.out HP.out w
    simpa [papA] using this
  clear hp hA hln
  go_enter Try.func8, Try.ntmps8
  go_wp2_with fail
  obtain ⟨W0, hW0⟩ : ∃ W0, W0 = w.alloc (.cells (papA p) 27) := ⟨_, rfl⟩
  have Hb0 : Hid (Below w.heap.size w W0) := by rw [hW0]; exact (Below.refl _ _).alloc (Nat.le_refl _) _
  have HBox : Hid (W0.heap[w.heap.size]? = some (.cells (papA p) 27)) := by rw [hW0]; exact heap_alloc_new _ _
  have HLT : Hid (w.heap.size < W0.heap.size) := by rw [hW0]; show _ < _; simp
  rw [← hW0]
  refine (new_calls W0).mono ?_
  rintro r w1 ⟨rfl, hw1⟩
  have HB : Hid (BookAt w1 W0.heap.size W0.heap.size (.slice none 0 0) [] ((0 : Nat) : Int) 0) := by rw [hw1]; exact new_book W0
  have Hb : Hid (Below W0.heap.size W0 w1) := by rw [hw1]; exact (Below.refl _ _).alloc (Nat.le_refl _) _
  have HR : Hid (w1.rangeAt w.heap.size 0 (pc p)) := range_of_block ((Hb.out.block _ HLT.out).trans HBox.out)
  clear hw1 hW0
  go_wp2_with ((refine unguard (by rfl) ?_); (refine wpList_load_mid rfl 27 (.tmp 4) (by rfl) w.heap.size 0 (by rfl) (pc p) _ HR.out Try.underlying27 rfl HI.out ?_))
  refine (write_calls' _ _ _ _ _ _ e p w1 HP.out Hb.out.size HB.out _ _ HW0.out).mono ?_
  clear HB HR
  rintro r w2 ⟨rfl, v1, hB, hb2⟩
  have HB := Lib.hid hB
  replace Hb := Lib.hid (Hb.out.trans hb2)
  clear hB hb2
  go_wp2_with fail
  refine (flush_calls _ _ _ _ _ _ w2 HB.out).mono ?_
  rintro r w3 ⟨rfl, hB, hC⟩
  have HB2 : Hid (∃ v es s fl, s ≤ es.length ∧ look (es.take s) e = (p, true) ∧ BookAt w3 W0.heap.size W0.heap.size v es ((s : Nat) : Int) fl) := ⟨v1, _, 1, _, by simp, by simp [look], hB⟩
  replace Hb := Lib.hid (Hb.out.trans (hC.below (Nat.le_refl _) (by simp) Hb.out.size))
  clear hB hC HB
  go_wp2
  go_loopw [7, 8] (fun v7 v wr => ∃ i g : Nat, i ≤ n ∧ v = .int .i64 i ∧ v7 = .pointer (some ⟨g, 0, none⟩) ∧ Hid (∃ v es s fl, s ≤ es.length ∧ look (es.take s) e = (p, true) ∧ BookAt wr W0.heap.size g v es ((s : Nat) : Int) fl) ∧ Hid (Below W0.heap.size W0 wr)) (fun _ v _ => n - (intOf v).toNat)
  case atStart => exact ⟨0, W0.heap.size, Nat.zero_le _, rfl, rfl, HB2.out, Hb.out⟩
  case round =>
    obtain ⟨i, g, hin, rfl, rfl, hB, hbl⟩ := hrel
    clear HB2 Hb
    by_cases hlt : i < n
    · by_cases h120 : i < 120
      · obtain ⟨b, o, rfl, hbA, hacts⟩ := HAc.out.at_ (by have := HLn.out; omega)
        obtain ⟨x, hx⟩ : ∃ x, l[i]? = some x := ⟨_, List.getElem?_eq_getElem (by have := HLn.out; omega)⟩
        have hxok := HAc.out.ok x (List.mem_of_getElem? hx)
        have hxr := hacts i x hx
        obtain ⟨kd, ep, pp⟩ := x
        have HbA : Hid (b < W0.heap.size) := Nat.lt_trans hbA HLT.out
        have hkd : wr.cell? ⟨b, o + i * 34, none⟩ = some (.int .i64 kd) := by
          rw [(Hb0.out.trans (hbl.out.mono Hb0.out.size)).cell hbA]
          exact hxr 0 _ rfl
        have hep : wr.cell? ⟨b, o + i * 34 + 1, none⟩ = some (.int .i64 ep) := by
          rw [(Hb0.out.trans (hbl.out.mono Hb0.out.size)).cell hbA]
          exact hxr 1 _ rfl
        have hpp : Hid (wr.rangeAt b (o + i * 34 + 2) (pc pp)) := fun j v hv => by
          rw [(Hb0.out.trans (hbl.out.mono Hb0.out.size)).cell hbA]
          have := hxr (j + 2) v hv
          rw [show o + i * 34 + 2 + j = o + i * 34 + (j + 2) by omega]
          exact this
        have HPl : Hid (pp.length = 32) := hxok.len
        have HIp : Hid ((Try.prog.info? 27).map (·.size) = some (pc pp).length) := by show _ = _; rw [pc, List.length_map, hxok.len]; exact info27
        obtain ⟨v1, es, s, fl, hs, hlk, hB⟩ := hB.out
        have HB := Lib.hid hB
        have HS := Lib.hid hs
        have HLk := Lib.hid hlk
        clear hB hs hlk hx hxok hxr hacts hbA
        by_cases hk1 : kd = 1
        · subst hk1
          obtain ⟨⟨code, es'⟩, hwr⟩ : ∃ y, writeOf es ep pp = y := ⟨_, rfl⟩
          have HWr := Lib.hid hwr
          clear hwr
          go_wp2_with fail
          refine start_ (n := 13) (S := fun w' => w'.cell? ⟨b, o + i * 34 + 1, none⟩ = some (.int .i64 ep) ∧ w'.rangeAt b (o + i * 34 + 2) (pc pp)) (ds := []) #[false, false, false, false, false, false, false, false, false, false, false, false, false] (by kernel_rfl) rfl rfl ?hS0 (fun hHeld => ?_)
          rotate_left
          refine with_tabW locks.tab13 locks.bits13 (fun HT_ HW_ => ?_)
          generalize hw3d : wr.drew = w3d at hHeld ⊢
          have HW3 := Lib.hid hw3d
          clear hw3d
          refine pure_ (i := 0) (N := some 63) (v := ?_) (a' := ?_) #[true, false, false, false, false, false, false, false, false, false, false, false, false] rfl rfl (any_of HT_.out (by kernel_rfl)) (fun _ _ _ h => h) (Or.inl ⟨by rfl, ?_⟩) ?_ ?_
          rotate_left
          · intro w'
            go_simp
            with_reducible rfl
          rotate_left
          · simp only [Act.put, List.setIfInBounds_toArray, List.set_cons_zero, List.set_cons_succ]
            rfl
          refine pure_ (i := 1) (N := some 64) (v := ?_) (a' := ?_) #[true, true, false, false, false, false, false, false, false, false, false, false, false] rfl rfl (any_of HT_.out (by kernel_rfl)) (fun _ _ _ h => h) (Or.inl ⟨by rfl, ?_⟩) ?_ ?_
          rotate_left
          · intro w'
            go_simp
            with_reducible rfl
          rotate_left
          · simp only [Act.put, List.setIfInBounds_toArray, List.set_cons_zero, List.set_cons_succ]
            rfl
          refine pure_ (i := 2) (N := some 65) (v := ?_) (a' := ?_) #[true, true, true, false, false, false, false, false, false, false, false, false, false] rfl rfl (any_of HT_.out (by kernel_rfl)) (fun _ _ _ h => h) (Or.inl ⟨by rfl, ?_⟩) ?_ ?_
          rotate_left
          · intro w'
            go_simp
            with_reducible rfl
          rotate_left
          · simp only [Act.put, List.setIfInBounds_toArray, List.set_cons_zero, List.set_cons_succ]
            rfl
          refine pure_ (i := 3) (N := some 66) (v := ?_) (a' := ?_) #[true, true, true, true, false, false, false, false, false, false, false, false, false] rfl rfl (any_of HT_.out (by kernel_rfl)) (fun _ _ _ h => h) (Or.inl ⟨by rfl, ?_⟩) ?_ ?_
          rotate_left
          · intro w'
            go_simp
            with_reducible rfl
          rotate_left
          · simp only [Act.put, List.setIfInBounds_toArray, List.set_cons_zero, List.set_cons_succ]
            rfl
          refine pure_ (i := 4) (N := some 67) (v := ?_) (a' := ?_) #[true, true, true, true, true, false, false, false, false, false, false, false, false] rfl rfl (any_of HT_.out (by kernel_rfl)) (fun _ _ _ h => h) (Or.inl ⟨by rfl, ?_⟩) ?_ ?_
          rotate_left
          · intro w'
            go_simp
            with_reducible rfl
          rotate_left
          · simp only [Act.put, List.setIfInBounds_toArray, List.set_cons_zero, List.set_cons_succ]
            rfl
          refine take_ (i := 5) (N := some 68) (v := ?_) (a' := ?_) #[true, true, true, true, true, true, false, false, false, false, false, false, false] rfl rfl (take_ofW HT_.out HW_.out (by kernel_rfl)) (fun _ _ _ h => h) (Or.inl ⟨by rfl, ?_⟩) hHeld ?_ ?_
          rotate_left
          · rintro w' ⟨s0, s1⟩
            go_simp
            with_reducible rfl
          rotate_left
          · simp only [Act.put, List.setIfInBounds_toArray, List.set_cons_zero, List.set_cons_succ]
            rfl
          refine pure_ (i := 6) (N := some 69) (v := ?_) (a' := ?_) #[true, true, true, true, true, true, true, false, false, false, false, false, false] rfl rfl (any_of HT_.out (by kernel_rfl)) (fun _ _ _ h => h) (Or.inl ⟨by rfl, ?_⟩) ?_ ?_
          rotate_left
          · intro w'
            go_simp
            with_reducible rfl
          rotate_left
          · simp only [Act.put, List.setIfInBounds_toArray, List.set_cons_zero, List.set_cons_succ]
            rfl
          refine pure_ (i := 7) (N := some 70) (v := ?_) (a' := ?_) #[true, true, true, true, true, true, true, true, false, false, false, false, false] rfl rfl (any_of HT_.out (by kernel_rfl)) (fun _ _ _ h => h) (Or.inl ⟨by rfl, ?_⟩) ?_ ?_
          rotate_left
          · intro w'
            go_simp
            with_reducible rfl
          rotate_left
          · simp only [Act.put, List.setIfInBounds_toArray, List.set_cons_zero, List.set_cons_succ]
            rfl
          refine pure_ (i := 8) (N := some 71) (v := ?_) (a' := ?_) #[true, true, true, true, true, true, true, true, true, false, false, false, false] rfl rfl (any_of HT_.out (by kernel_rfl)) (fun _ _ _ h => h) (Or.inl ⟨by rfl, ?_⟩) ?_ ?_
          rotate_left
          · intro w'
            go_simp
            with_reducible rfl
          rotate_left
          · simp only [Act.put, List.setIfInBounds_toArray, List.set_cons_zero, List.set_cons_succ]
            rfl
          refine pure_ (i := 9) (N := some 72) (v := ?_) (a' := ?_) #[true, true, true, true, true, true, true, true, true, true, false, false, false] rfl rfl (any_of HT_.out (by kernel_rfl)) (fun _ _ _ h => h) (Or.inl ⟨by rfl, ?_⟩) ?_ ?_
          rotate_left
          · intro w'
            go_simp
            with_reducible rfl
          rotate_left
          · simp only [Act.put, List.setIfInBounds_toArray, List.set_cons_zero, List.set_cons_succ]
            rfl
          refine take_ (i := 10) (N := some 73) (v := .agg (pc pp).toArray) (a' := ?_) #[true, true, true, true, true, true, true, true, true, true, true, false, false] rfl rfl (take_ofW HT_.out HW_.out (by kernel_rfl)) (fun _ _ _ h => h) (yieldsIf_load_mid (by rfl) 27 (.tmp 72) (by rfl) b (o + i * 34 + 2) (by rfl) (pc pp) _ (fun _ h => h.2) Try.underlying27 rfl HIp.out) hHeld ?_ ?_
          rotate_left
          · simp only [Act.put, List.setIfInBounds_toArray, List.set_cons_zero, List.set_cons_succ]
            rfl
          refine one_ (i := 11) (N := some 74) #[true, true, true, true, true, true, true, true, true, true, true, true, false] rfl rfl (one_of HT_.out (by kernel_rfl)) (by decide) (fun K hK => ?_)
          have HB3 : Hid (BookAt w3d W0.heap.size g v1 es s fl) := by rw [← HW3.out]; exact HB.out.below (Below.refl _ _).drew
          have hb3 : Below W0.heap.size W0 w3d := by rw [← HW3.out]; exact hbl.out.drew
          refine goes_ Try.func13 (by kernel_rfl) rfl #[.pointer (some ⟨g, 0, none⟩), .int .i64 ep, .agg (papA pp)] (by rfl) rfl rfl (by (try simp only [List.map_toArray, List.map_cons, List.map_nil]); first | done | rfl) ?_
          refine (write_calls' W0.heap.size g v1 es s fl ep pp w3d HPl.out hb3.size HB3.out code es' HWr.out).mono ?_
          rintro r w4 ⟨rfl, v2, hB4, hb4⟩
          refine ⟨_, rfl, ?_⟩
          have HB4 := Lib.hid hB4
          have Hb4 := Lib.hid (hb3.trans hb4)
          refine hK.out _ _ ⟨(hb4.cell HbA.out).trans hHeld.1, fun j v hv => (hb4.cell HbA.out).trans (hHeld.2 j v hv)⟩ (fun hHeld => ?_)
          clear hK K hb3 hB4 hb4
          refine norm_ (a' := ?_) ?_ ?_
          rotate_left
          · show Act.put _ (some 74) _ = _
            simp only [Act.put, List.setIfInBounds_toArray, List.set_cons_zero, List.set_cons_succ]
            rfl
          refine pure_ (i := 12) (N := some 9) (v := ?_) (a' := ?_) #[true, true, true, true, true, true, true, true, true, true, true, true, true] rfl rfl (any_of HT_.out (by kernel_rfl)) (fun _ _ _ h => h) (Or.inl ⟨by rfl, ?_⟩) ?_ ?_
          rotate_left
          · intro w'
            go_simp
            with_reducible rfl
          rotate_left
          · simp only [Act.put, List.setIfInBounds_toArray, List.set_cons_zero, List.set_cons_succ]
            rfl
          refine done_ (done_of HT_.out (by kernel_rfl)) ?_
          have hx1 : Hid (∃ t, es' = es ++ t) := write_grows HWr.out
          have HS1 : Hid (s ≤ es'.length) := by obtain ⟨t, ht⟩ := hx1.out; exact Nat.le_trans HS.out (by rw [ht, List.length_append]; exact Nat.le_add_right _ _)
          have HLk1 : Hid (look (es'.take s) e = (p, true)) := by obtain ⟨t, ht⟩ := hx1.out; rw [ht, List.take_append_of_le_length HS.out]; exact HLk.out
          have HR4 : Hid (w4.rangeAt w.heap.size 0 (pc p)) := range_of_block ((Hb4.out.block _ HLT.out).trans HBox.out)
          have hep4 := hHeld.1
          have hpp4 := hHeld.2
          clear HT_ HW_ HB3 HW3 hHeld
          by_cases hee : ep = e
          · subst hee
            have hcode := write_same HWr.out (look_all HLk.out) h0 h1
            by_cases hpe : pp = p
            · rw [if_pos hpe] at hcode
              subst hcode
              have heq : ∀ w : World, (binOp .eql 27 (.agg (pc pp).toArray) (.agg (pc p).toArray)).run Try.prog w = .ok (.bool true) w := fun w => by
                have := run_eq_hash pp p HPl.out HP.out w
                rw [hpe] at this ⊢
                simpa [papA] using this
              clear hpe
              go_wp2_with fail
              refine start_ (n := 19) (S := fun w' => w'.cell? ⟨b, o + i * 34 + 1, none⟩ = some (.int .i64 ep) ∧ w'.rangeAt b (o + i * 34 + 2) (pc pp) ∧ w'.rangeAt w.heap.size 0 (pc p)) (ds := []) #[false, false, false, false, false, false, false, false, false, false, false, false, false, false, false, false, false, false, false] (by kernel_rfl) rfl rfl ?hS1 (fun hHeld => ?_)
              rotate_left
              refine with_tabW locks.tab14 locks.bits14 (fun HT_ HW_ => ?_)
              refine pure_ (i := 0) (N := some 75) (v := ?_) (a' := ?_) #[true, false, false, false, false, false, false, false, false, false, false, false, false, false, false, false, false, false, false] rfl rfl (any_of HT_.out (by kernel_rfl)) (fun _ _ _ h => h) (Or.inl ⟨by rfl, ?_⟩) ?_ ?_
              rotate_left
              · intro w'
                go_simp
                with_reducible rfl
              rotate_left
              · simp only [Act.put, List.setIfInBounds_toArray, List.set_cons_zero, List.set_cons_succ]
                rfl
              refine pure_ (i := 1) (N := some 76) (v := ?_) (a' := ?_) #[true, true, false, false, false, false, false, false, false, false, false, false, false, false, false, false, false, false, false] rfl rfl (any_of HT_.out (by kernel_rfl)) (fun _ _ _ h => h) (Or.inl ⟨by rfl, ?_⟩) ?_ ?_
              rotate_left
              · intro w'
                go_simp
                with_reducible rfl
              rotate_left
              · simp only [Act.put, List.setIfInBounds_toArray, List.set_cons_zero, List.set_cons_succ]
                rfl
              refine pure_ (i := 2) (N := some 77) (v := ?_) (a' := ?_) #[true, true, true, false, false, false, false, false, false, false, false, false, false, false, false, false, false, false, false] rfl rfl (any_of HT_.out (by kernel_rfl)) (fun _ _ _ h => h) (Or.inl ⟨by rfl, ?_⟩) ?_ ?_
              rotate_left
              · intro w'
                go_simp
                with_reducible rfl
              rotate_left
              · simp only [Act.put, List.setIfInBounds_toArray, List.set_cons_zero, List.set_cons_succ]
                rfl
              refine pure_ (i := 3) (N := some 78) (v := ?_) (a' := ?_) #[true, true, true, true, false, false, false, false, false, false, false, false, false, false, false, false, false, false, false] rfl rfl (any_of HT_.out (by kernel_rfl)) (fun _ _ _ h => h) (Or.inl ⟨by rfl, ?_⟩) ?_ ?_
              rotate_left
              · intro w'
                go_simp
                with_reducible rfl
              rotate_left
              · simp only [Act.put, List.setIfInBounds_toArray, List.set_cons_zero, List.set_cons_succ]
                rfl
              refine take_ (i := 4) (N := some 79) (v := ?_) (a' := ?_) #[true, true, true, true, true, false, false, false, false, false, false, false, false, false, false, false, false, false, false] rfl rfl (take_ofW HT_.out HW_.out (by kernel_rfl)) (fun _ _ _ h => h) (Or.inl ⟨by rfl, ?_⟩) hHeld ?_ ?_
              rotate_left
              · rintro w' ⟨s0, s1, s2⟩
                go_simp
                with_reducible rfl
              rotate_left
              · simp only [Act.put, List.setIfInBounds_toArray, List.set_cons_zero, List.set_cons_succ]
                rfl
              refine pure_ (i := 5) (N := some 80) (v := ?_) (a' := ?_) #[true, true, true, true, true, true, false, false, false, false, false, false, false, false, false, false, false, false, false] rfl rfl (any_of HT_.out (by kernel_rfl)) (fun _ _ _ h => h) (Or.inl ⟨by rfl, ?_⟩) ?_ ?_
              rotate_left
              · intro w'
                go_simp
                with_reducible rfl
              rotate_left
              · simp only [Act.put, List.setIfInBounds_toArray, List.set_cons_zero, List.set_cons_succ]
                rfl
              refine pure_ (i := 6) (N := some 81) (v := ?_) (a' := ?_) #[true, true, true, true, true, true, true, false, false, false, false, false, false, false, false, false, false, false, false] rfl rfl (any_of HT_.out (by kernel_rfl)) (fun _ _ _ h => h) (Or.inl ⟨by rfl, ?_⟩) ?_ ?_
              rotate_left
              · intro w'
                go_simp
                with_reducible rfl
              rotate_left
              · simp only [Act.put, List.setIfInBounds_toArray, List.set_cons_zero, List.set_cons_succ]
                rfl
              refine pure_ (i := 7) (N := some 82) (v := ?_) (a' := ?_) #[true, true, true, true, true, true, true, true, false, false, false, false, false, false, false, false, false, false, false] rfl rfl (any_of HT_.out (by kernel_rfl)) (fun _ _ _ h => h) (Or.inl ⟨by rfl, ?_⟩) ?_ ?_
              rotate_left
              · intro w'
                go_simp
                with_reducible rfl
              rotate_left
              · simp only [Act.put, List.setIfInBounds_toArray, List.set_cons_zero, List.set_cons_succ]
                rfl
              refine pure_ (i := 8) (N := some 83) (v := ?_) (a' := ?_) #[true, true, true, true, true, true, true, true, true, false, false, false, false, false, false, false, false, false, false] rfl rfl (any_of HT_.out (by kernel_rfl)) (fun _ _ _ h => h) (Or.inl ⟨by rfl, ?_⟩) ?_ ?_
              rotate_left
              · intro w'
                go_simp
                with_reducible rfl
              rotate_left
              · simp only [Act.put, List.setIfInBounds_toArray, List.set_cons_zero, List.set_cons_succ]
                rfl
              refine pure_ (i := 9) (N := some 84) (v := ?_) (a' := ?_) #[true, true, true, true, true, true, true, true, true, true, false, false, false, false, false, false, false, false, false] rfl rfl (any_of HT_.out (by kernel_rfl)) (fun _ _ _ h => h) (Or.inl ⟨by rfl, ?_⟩) ?_ ?_
              rotate_left
              · intro w'
                go_simp
                with_reducible rfl
              rotate_left
              · simp only [Act.put, List.setIfInBounds_toArray, List.set_cons_zero, List.set_cons_succ]
                rfl
              refine pure_ (i := 10) (N := some 85) (v := ?_) (a' := ?_) #[true, true, true, true, true, true, true, true, true, true, true, false, false, false, false, false, false, false, false] rfl rfl (any_of HT_.out (by kernel_rfl)) (fun _ _ _ h => h) (Or.inl ⟨by rfl, ?_⟩) ?_ ?_
              rotate_left
              · intro w'
                go_simp
                with_reducible rfl
              rotate_left
              · simp only [Act.put, List.setIfInBounds_toArray, List.set_cons_zero, List.set_cons_succ]
                rfl
              refine pure_ (i := 11) (N := some 86) (v := ?_) (a' := ?_) #[true, true, true, true, true, true, true, true, true, true, true, true, false, false, false, false, false, false, false] rfl rfl (any_of HT_.out (by kernel_rfl)) (fun _ _ _ h => h) (Or.inl ⟨by rfl, ?_⟩) ?_ ?_
              rotate_left
              · intro w'
                go_simp
                with_reducible rfl
              rotate_left
              · simp only [Act.put, List.setIfInBounds_toArray, List.set_cons_zero, List.set_cons_succ]
                rfl
              refine pure_ (i := 12) (N := some 87) (v := ?_) (a' := ?_) #[true, true, true, true, true, true, true, true, true, true, true, true, true, false, false, false, false, false, false] rfl rfl (any_of HT_.out (by kernel_rfl)) (fun _ _ _ h => h) (Or.inl ⟨by rfl, ?_⟩) ?_ ?_
              rotate_left
              · intro w'
                go_simp
                with_reducible rfl
              rotate_left
              · simp only [Act.put, List.setIfInBounds_toArray, List.set_cons_zero, List.set_cons_succ]
                rfl
              refine pure_ (i := 13) (N := some 88) (v := ?_) (a' := ?_) #[true, true, true, true, true, true, true, true, true, true, true, true, true, true, false, false, false, false, false] rfl rfl (any_of HT_.out (by kernel_rfl)) (fun _ _ _ h => h) (Or.inl ⟨by rfl, ?_⟩) ?_ ?_
              rotate_left
              · intro w'
                go_simp
                with_reducible rfl
              rotate_left
              · simp only [Act.put, List.setIfInBounds_toArray, List.set_cons_zero, List.set_cons_succ]
                rfl
              refine take_ (i := 14) (N := some 89) (v := .agg (pc pp).toArray) (a' := ?_) #[true, true, true, true, true, true, true, true, true, true, true, true, true, true, true, false, false, false, false] rfl rfl (take_ofW HT_.out HW_.out (by kernel_rfl)) (fun _ _ _ h => h) (yieldsIf_load_mid (by rfl) 27 (.tmp 88) (by rfl) b (o + i * 34 + 2) (by rfl) (pc pp) _ (fun _ h => h.2.1) Try.underlying27 rfl HIp.out) hHeld ?_ ?_
              rotate_left
              · simp only [Act.put, List.setIfInBounds_toArray, List.set_cons_zero, List.set_cons_succ]
                rfl
              refine take_ (i := 15) (N := some 90) (v := .agg (pc p).toArray) (a' := ?_) #[true, true, true, true, true, true, true, true, true, true, true, true, true, true, true, true, false, false, false] rfl rfl (take_ofW HT_.out HW_.out (by kernel_rfl)) (fun _ _ _ h => h) (yieldsIf_load_mid (by rfl) 27 (.tmp 4) (by rfl) w.heap.size 0 (by rfl) (pc p) _ (fun _ h => h.2.2) Try.underlying27 rfl HI.out) hHeld ?_ ?_
              rotate_left
              · simp only [Act.put, List.setIfInBounds_toArray, List.set_cons_zero, List.set_cons_succ]
                rfl
              refine pure_ (i := 16) (N := some 91) (v := ?_) (a' := ?_) #[true, true, true, true, true, true, true, true, true, true, true, true, true, true, true, true, true, false, false] rfl rfl (any_of HT_.out (by kernel_rfl)) (fun _ _ _ h => h) (Or.inl ⟨by rfl, ?_⟩) ?_ ?_
              rotate_left
              · intro w'
                go_simp
                with_reducible rfl
              rotate_left
              · simp only [Act.put, List.setIfInBounds_toArray, List.set_cons_zero, List.set_cons_succ]
                rfl
              refine pure_ (i := 17) (N := some 92) (v := ?_) (a' := ?_) #[true, true, true, true, true, true, true, true, true, true, true, true, true, true, true, true, true, true, false] rfl rfl (any_of HT_.out (by kernel_rfl)) (fun _ _ _ h => h) (Or.inl ⟨by rfl, ?_⟩) ?_ ?_
              rotate_left
              · intro w'
                go_simp
                with_reducible rfl
              rotate_left
              · simp only [Act.put, List.setIfInBounds_toArray, List.set_cons_zero, List.set_cons_succ]
                rfl
              refine pure_ (i := 18) (N := some 93) (v := ?_) (a' := ?_) #[true, true, true, true, true, true, true, true, true, true, true, true, true, true, true, true, true, true, true] rfl rfl (any_of HT_.out (by kernel_rfl)) (fun _ _ _ h => h) (Or.inl ⟨by rfl, ?_⟩) ?_ ?_
              rotate_left
              · intro w'
                go_simp
                with_reducible rfl
              rotate_left
              · simp only [Act.put, List.setIfInBounds_toArray, List.set_cons_zero, List.set_cons_succ]
                rfl
              refine done_ (done_of HT_.out (by kernel_rfl)) ?_
              have HB5 : Hid (BookAt w4.drew W0.heap.size g v2 es' s fl) := HB4.out.below (Below.refl _ _).drew
              have Hb5 : Hid (Below W0.heap.size W0 w4.drew) := Hb4.out.drew
              generalize w4.drew = w5 at HB5 Hb5 hHeld ⊢
              clear HT_ HW_ hHeld
              have HS' : Hid (s ≤ (es').length) := HS1.out
              have HLk' : Hid (look ((es').take (s)) ep = (p, true)) := HLk1.out
              have HHo := Lib.hid (HB5.out.holds ep p true (look_all HLk'.out))
              go_wp2_with fail
              refine HHo.out.mono ?_
              clear HHo
              rintro r w6 ⟨rfl, hb6⟩
              obtain ⟨w7, hw7⟩ : ∃ w7, w7 = heldW w6 p := ⟨_, rfl⟩
              have HW7 := Lib.hid hw7
              have hb7 : Below (w5).heap.size (w5) w7 := by rw [HW7.out]; exact hb6.trans ((heldW_below w6 p).mono hb6.size)
              have HR7 : Hid (w7.rangeAt w6.heap.size 0 (pc p)) := by rw [HW7.out]; exact heldW_reads w6 p HP.out
              have HB7 := Lib.hid (HB5.out.below hb7)
              have Hb7 := Lib.hid (Hb5.out.trans (hb7.mono Hb5.out.size))
              have HR3 : Hid (w7.rangeAt w.heap.size 0 (pc p)) := range_of_block ((Hb7.out.block _ HLT.out).trans HBox.out)
              clear hb6 hb7 hw7
              go_wp2_with (first
                | ((refine wpList_store_mid rfl 27 (.tmp 10) (.tmp 102) (by rfl) w6.heap.size 0 (papA p) (by rfl) (by rfl) (HT.out w6) HL.out (papA_all _) ?_); change wpList _ _ _ _ _ (heldW w6 p); rw [← HW7.out])
                | ((refine unguard (by rfl) ?_); (refine wpList_load_mid rfl 27 (.tmp 10) (by rfl) w6.heap.size 0 (by rfl) (pc p) _ HR7.out Try.underlying27 rfl HI.out ?_))
                | ((refine unguard (by rfl) ?_); (refine wpList_load_mid rfl 27 (.tmp 4) (by rfl) w.heap.size 0 (by rfl) (pc p) _ HR3.out Try.underlying27 rfl HI.out ?_)))
              go_roundw
              case rel => exact ⟨i + 1, g, by omega, by go_num, rfl, ⟨_, _, _, _, HS'.out, HLk'.out, HB7.out⟩, Hb7.out⟩
              case measure => simp [intOf]; omega
              case hS1 => exact ⟨hep4, hpp4, HR4.out⟩
            · rw [if_neg hpe] at hcode
              subst hcode
              have heq : ∀ w : World, (binOp .eql 27 (.agg (pc pp).toArray) (.agg (pc p).toArray)).run Try.prog w = .ok (.bool false) w := fun w => by
                have := run_eq_hash pp p HPl.out HP.out w
                rw [beq_eq_false_iff_ne.2 hpe] at this
                simpa [papA] using this
              clear hpe
              go_wp2_with fail
              refine start_ (n := 19) (S := fun w' => w'.cell? ⟨b, o + i * 34 + 1, none⟩ = some (.int .i64 ep) ∧ w'.rangeAt b (o + i * 34 + 2) (pc pp) ∧ w'.rangeAt w.heap.size 0 (pc p)) (ds := []) #[false, false, false, false, false, false, false, false, false, false, false, false, false, false, false, false, false, false, false] (by kernel_rfl) rfl rfl ?hS2 (fun hHeld => ?_)
              rotate_left
              refine with_tabW locks.tab14 locks.bits14 (fun HT_ HW_ => ?_)
              refine pure_ (i := 0) (N := some 75) (v := ?_) (a' := ?_) #[true, false, false, false, false, false, false, false, false, false, false, false, false, false, false, false, false, false, false] rfl rfl (any_of HT_.out (by kernel_rfl)) (fun _ _ _ h => h) (Or.inl ⟨by rfl, ?_⟩) ?_ ?_
              rotate_left
              · intro w'
                go_simp
                with_reducible rfl
              rotate_left
              · simp only [Act.put, List.setIfInBounds_toArray, List.set_cons_zero, List.set_cons_succ]
                rfl
              refine pure_ (i := 1) (N := some 76) (v := ?_) (a' := ?_) #[true, true, false, false, false, false, false, false, false, false, false, false, false, false, false, false, false, false, false] rfl rfl (any_of HT_.out (by kernel_rfl)) (fun _ _ _ h => h) (Or.inl ⟨by rfl, ?_⟩) ?_ ?_
              rotate_left
              · intro w'
                go_simp
                with_reducible rfl
              rotate_left
              · simp only [Act.put, List.setIfInBounds_toArray, List.set_cons_zero, List.set_cons_succ]
                rfl
              refine pure_ (i := 2) (N := some 77) (v := ?_) (a' := ?_) #[true, true, true, false, false, false, false, false, false, false, false, false, false, false, false, false, false, false, false] rfl rfl (any_of HT_.out (by kernel_rfl)) (fun _ _ _ h => h) (Or.inl ⟨by rfl, ?_⟩) ?_ ?_
              rotate_left
              · intro w'
                go_simp
                with_reducible rfl
              rotate_left
              · simp only [Act.put, List.setIfInBounds_toArray, List.set_cons_zero, List.set_cons_succ]
                rfl
              refine pure_ (i := 3) (N := some 78) (v := ?_) (a' := ?_) #[true, true, true, true, false, false, false, false, false, false, false, false, false, false, false, false, false, false, false] rfl rfl (any_of HT_.out (by kernel_rfl)) (fun _ _ _ h => h) (Or.inl ⟨by rfl, ?_⟩) ?_ ?_
              rotate_left
              · intro w'
                go_simp
                with_reducible rfl
              rotate_left
              · simp only [Act.put, List.setIfInBounds_toArray, List.set_cons_zero, List.set_cons_succ]
                rfl
              refine take_ (i := 4) (N := some 79) (v := ?_) (a' := ?_) #[true, true, true, true, true, false, false, false, false, false, false, false, false, false, false, false, false, false, false] rfl rfl (take_ofW HT_.out HW_.out (by kernel_rfl)) (fun _ _ _ h => h) (Or.inl ⟨by rfl, ?_⟩) hHeld ?_ ?_
              rotate_left
              · rintro w' ⟨s0, s1, s2⟩
                go_simp
                with_reducible rfl
              rotate_left
              · simp only [Act.put, List.setIfInBounds_toArray, List.set_cons_zero, List.set_cons_succ]
                rfl
              refine pure_ (i := 5) (N := some 80) (v := ?_) (a' := ?_) #[true, true, true, true, true, true, false, false, false, false, false, false, false, false, false, false, false, false, false] rfl rfl (any_of HT_.out (by kernel_rfl)) (fun _ _ _ h => h) (Or.inl ⟨by rfl, ?_⟩) ?_ ?_
              rotate_left
              · intro w'
                go_simp
                with_reducible rfl
              rotate_left
              · simp only [Act.put, List.setIfInBounds_toArray, List.set_cons_zero, List.set_cons_succ]
                rfl
              refine pure_ (i := 6) (N := some 81) (v := ?_) (a' := ?_) #[true, true, true, true, true, true, true, false, false, false, false, false, false, false, false, false, false, false, false] rfl rfl (any_of HT_.out (by kernel_rfl)) (fun _ _ _ h => h) (Or.inl ⟨by rfl, ?_⟩) ?_ ?_
              rotate_left
              · intro w'
                go_simp
                with_reducible rfl
              rotate_left
              · simp only [Act.put, List.setIfInBounds_toArray, List.set_cons_zero, List.set_cons_succ]
                rfl
              refine pure_ (i := 7) (N := some 82) (v := ?_) (a' := ?_) #[true, true, true, true, true, true, true, true, false, false, false, false, false, false, false, false, false, false, false] rfl rfl (any_of HT_.out (by kernel_rfl)) (fun _ _ _ h => h) (Or.inl ⟨by rfl, ?_⟩) ?_ ?_
              rotate_left
              · intro w'
                go_simp
                with_reducible rfl
              rotate_left
              · simp only [Act.put, List.setIfInBounds_toArray, List.set_cons_zero, List.set_cons_succ]
                rfl
              refine pure_ (i := 8) (N := some 83) (v := ?_) (a' := ?_) #[true, true, true, true, true, true, true, true, true, false, false, false, false, false, false, false, false, false, false] rfl rfl (any_of HT_.out (by kernel_rfl)) (fun _ _ _ h => h) (Or.inl ⟨by rfl, ?_⟩) ?_ ?_
              rotate_left
              · intro w'
                go_simp
                with_reducible rfl
              rotate_left
              · simp only [Act.put, List.setIfInBounds_toArray, List.set_cons_zero, List.set_cons_succ]
                rfl
              refine pure_ (i := 9) (N := some 84) (v := ?_) (a' := ?_) #[true, true, true, true, true, true, true, true, true, true, false, false, false, false, false, false, false, false, false] rfl rfl (any_of HT_.out (by kernel_rfl)) (fun _ _ _ h => h) (Or.inl ⟨by rfl, ?_⟩) ?_ ?_
              rotate_left
              · intro w'
                go_simp
                with_reducible rfl
              rotate_left
              · simp only [Act.put, List.setIfInBounds_toArray, List.set_cons_zero, List.set_cons_succ]
                rfl
              refine pure_ (i := 10) (N := some 85) (v := ?_) (a' := ?_) #[true, true, true, true, true, true, true, true, true, true, true, false, false, false, false, false, false, false, false] rfl rfl (any_of HT_.out (by kernel_rfl)) (fun _ _ _ h => h) (Or.inl ⟨by rfl, ?_⟩) ?_ ?_
              rotate_left
              · intro w'
                go_simp
                with_reducible rfl
              rotate_left
              · simp only [Act.put, List.setIfInBounds_toArray, List.set_cons_zero, List.set_cons_succ]
                rfl
              refine pure_ (i := 11) (N := some 86) (v := ?_) (a' := ?_) #[true, true, true, true, true, true, true, true, true, true, true, true, false, false, false, false, false, false, false] rfl rfl (any_of HT_.out (by kernel_rfl)) (fun _ _ _ h => h) (Or.inl ⟨by rfl, ?_⟩) ?_ ?_
              rotate_left
              · intro w'
                go_simp
                with_reducible rfl
              rotate_left
              · simp only [Act.put, List.setIfInBounds_toArray, List.set_cons_zero, List.set_cons_succ]
                rfl
              refine pure_ (i := 12) (N := some 87) (v := ?_) (a' := ?_) #[true, true, true, true, true, true, true, true, true, true, true, true, true, false, false, false, false, false, false] rfl rfl (any_of HT_.out (by kernel_rfl)) (fun _ _ _ h => h) (Or.inl ⟨by rfl, ?_⟩) ?_ ?_
              rotate_left
              · intro w'
                go_simp
                with_reducible rfl
              rotate_left
              · simp only [Act.put, List.setIfInBounds_toArray, List.set_cons_zero, List.set_cons_succ]
                rfl
              refine pure_ (i := 13) (N := some 88) (v := ?_) (a' := ?_) #[true, true, true, true, true, true, true, true, true, true, true, true, true, true, false, false, false, false, false] rfl rfl (any_of HT_.out (by kernel_rfl)) (fun _ _ _ h => h) (Or.inl ⟨by rfl, ?_⟩) ?_ ?_
              rotate_left
              · intro w'
                go_simp
                with_reducible rfl
              rotate_left
              · simp only [Act.put, List.setIfInBounds_toArray, List.set_cons_zero, List.set_cons_succ]
                rfl
              refine take_ (i := 14) (N := some 89) (v := .agg (pc pp).toArray) (a' := ?_) #[true, true, true, true, true, true, true, true, true, true, true, true, true, true, true, false, false, false, false] rfl rfl (take_ofW HT_.out HW_.out (by kernel_rfl)) (fun _ _ _ h => h) (yieldsIf_load_mid (by rfl) 27 (.tmp 88) (by rfl) b (o + i * 34 + 2) (by rfl) (pc pp) _ (fun _ h => h.2.1) Try.underlying27 rfl HIp.out) hHeld ?_ ?_
              rotate_left
              · simp only [Act.put, List.setIfInBounds_toArray, List.set_cons_zero, List.set_cons_succ]
                rfl
              refine take_ (i := 15) (N := some 90) (v := .agg (pc p).toArray) (a' := ?_) #[true, true, true, true, true, true, true, true, true, true, true, true, true, true, true, true, false, false, false] rfl rfl (take_ofW HT_.out HW_.out (by kernel_rfl)) (fun _ _ _ h => h) (yieldsIf_load_mid (by rfl) 27 (.tmp 4) (by rfl) w.heap.size 0 (by rfl) (pc p) _ (fun _ h => h.2.2) Try.underlying27 rfl HI.out) hHeld ?_ ?_
              rotate_left
              · simp only [Act.put, List.setIfInBounds_toArray, List.set_cons_zero, List.set_cons_succ]
                rfl
              refine pure_ (i := 16) (N := some 91) (v := ?_) (a' := ?_) #[true, true, true, true, true, true, true, true, true, true, true, true, true, true, true, true, true, false, false] rfl rfl (any_of HT_.out (by kernel_rfl)) (fun _ _ _ h => h) (Or.inl ⟨by rfl, ?_⟩) ?_ ?_
              rotate_left
              · intro w'
                go_simp
                with_reducible rfl
              rotate_left
              · simp only [Act.put, List.setIfInBounds_toArray, List.set_cons_zero, List.set_cons_succ]
                rfl
              refine pure_ (i := 17) (N := some 92) (v := ?_) (a' := ?_) #[true, true, true, true, true, true, true, true, true, true, true, true, true, true, true, true, true, true, false] rfl rfl (any_of HT_.out (by kernel_rfl)) (fun _ _ _ h => h) (Or.inl ⟨by rfl, ?_⟩) ?_ ?_
              rotate_left
              · intro w'
                go_simp
                with_reducible rfl
              rotate_left
              · simp only [Act.put, List.setIfInBounds_toArray, List.set_cons_zero, List.set_cons_succ]
                rfl
              refine pure_ (i := 18) (N := some 93) (v := ?_) (a' := ?_) #[true, true, true, true, true, true, true, true, true, true, true, true, true, true, true, true, true, true, true] rfl rfl (any_of HT_.out (by kernel_rfl)) (fun _ _ _ h => h) (Or.inl ⟨by rfl, ?_⟩) ?_ ?_
              rotate_left
              · intro w'
                go_simp
                with_reducible rfl
              rotate_left
              · simp only [Act.put, List.setIfInBounds_toArray, List.set_cons_zero, List.set_cons_succ]
                rfl
              refine done_ (done_of HT_.out (by kernel_rfl)) ?_
              have HB5 : Hid (BookAt w4.drew W0.heap.size g v2 es' s fl) := HB4.out.below (Below.refl _ _).drew
              have Hb5 : Hid (Below W0.heap.size W0 w4.drew) := Hb4.out.drew
              generalize w4.drew = w5 at HB5 Hb5 hHeld ⊢
              clear HT_ HW_ hHeld
              have HS' : Hid (s ≤ (es').length) := HS1.out
              have HLk' : Hid (look ((es').take (s)) ep = (p, true)) := HLk1.out
              have HHo := Lib.hid (HB5.out.holds ep p true (look_all HLk'.out))
              go_wp2_with fail
              refine HHo.out.mono ?_
              clear HHo
              rintro r w6 ⟨rfl, hb6⟩
              obtain ⟨w7, hw7⟩ : ∃ w7, w7 = heldW w6 p := ⟨_, rfl⟩
              have HW7 := Lib.hid hw7
              have hb7 : Below (w5).heap.size (w5) w7 := by rw [HW7.out]; exact hb6.trans ((heldW_below w6 p).mono hb6.size)
              have HR7 : Hid (w7.rangeAt w6.heap.size 0 (pc p)) := by rw [HW7.out]; exact heldW_reads w6 p HP.out
              have HB7 := Lib.hid (HB5.out.below hb7)
              have Hb7 := Lib.hid (Hb5.out.trans (hb7.mono Hb5.out.size))
              have HR3 : Hid (w7.rangeAt w.heap.size 0 (pc p)) := range_of_block ((Hb7.out.block _ HLT.out).trans HBox.out)
              clear hb6 hb7 hw7
              go_wp2_with (first
                | ((refine wpList_store_mid rfl 27 (.tmp 10) (.tmp 102) (by rfl) w6.heap.size 0 (papA p) (by rfl) (by rfl) (HT.out w6) HL.out (papA_all _) ?_); change wpList _ _ _ _ _ (heldW w6 p); rw [← HW7.out])
                | ((refine unguard (by rfl) ?_); (refine wpList_load_mid rfl 27 (.tmp 10) (by rfl) w6.heap.size 0 (by rfl) (pc p) _ HR7.out Try.underlying27 rfl HI.out ?_))
                | ((refine unguard (by rfl) ?_); (refine wpList_load_mid rfl 27 (.tmp 4) (by rfl) w.heap.size 0 (by rfl) (pc p) _ HR3.out Try.underlying27 rfl HI.out ?_)))
              go_roundw
              case rel => exact ⟨i + 1, g, by omega, by go_num, rfl, ⟨_, _, _, _, HS'.out, HLk'.out, HB7.out⟩, Hb7.out⟩
              case measure => simp [intOf]; omega
              case hS2 => exact ⟨hep4, hpp4, HR4.out⟩
          · have hne : (ep == e) = false := beq_eq_false_iff_ne.2 hee
            clear hee
            go_wp2_with fail
            refine start_ (n := 19) (S := fun w' => w'.cell? ⟨b, o + i * 34 + 1, none⟩ = some (.int .i64 ep) ∧ w'.rangeAt b (o + i * 34 + 2) (pc pp) ∧ w'.rangeAt w.heap.size 0 (pc p)) (ds := []) #[false, false, false, false, false, false, false, false, false, false, false, false, false, false, false, false, false, false, false] (by kernel_rfl) rfl rfl ?hS3 (fun hHeld => ?_)
            rotate_left
            refine with_tabW locks.tab14 locks.bits14 (fun HT_ HW_ => ?_)
            refine pure_ (i := 0) (N := some 75) (v := ?_) (a' := ?_) #[true, false, false, false, false, false, false, false, false, false, false, false, false, false, false, false, false, false, false] rfl rfl (any_of HT_.out (by kernel_rfl)) (fun _ _ _ h => h) (Or.inl ⟨by rfl, ?_⟩) ?_ ?_
            rotate_left
            · intro w'
              go_simp
              with_reducible rfl
            rotate_left
            · simp only [Act.put, List.setIfInBounds_toArray, List.set_cons_zero, List.set_cons_succ]
              rfl
            refine pure_ (i := 1) (N := some 76) (v := ?_) (a' := ?_) #[true, true, false, false, false, false, false, false, false, false, false, false, false, false, false, false, false, false, false] rfl rfl (any_of HT_.out (by kernel_rfl)) (fun _ _ _ h => h) (Or.inl ⟨by rfl, ?_⟩) ?_ ?_
            rotate_left
            · intro w'
              go_simp
              with_reducible rfl
            rotate_left
            · simp only [Act.put, List.setIfInBounds_toArray, List.set_cons_zero, List.set_cons_succ]
              rfl
            refine pure_ (i := 2) (N := some 77) (v := ?_) (a' := ?_) #[true, true, true, false, false, false, false, false, false, false, false, false, false, false, false, false, false, false, false] rfl rfl (any_of HT_.out (by kernel_rfl)) (fun _ _ _ h => h) (Or.inl ⟨by rfl, ?_⟩) ?_ ?_
            rotate_left
            · intro w'
              go_simp
              with_reducible rfl
            rotate_left
            · simp only [Act.put, List.setIfInBounds_toArray, List.set_cons_zero, List.set_cons_succ]
              rfl
            refine pure_ (i := 3) (N := some 78) (v := ?_) (a' := ?_) #[true, true, true, true, false, false, false, false, false, false, false, false, false, false, false, false, false, false, false] rfl rfl (any_of HT_.out (by kernel_rfl)) (fun _ _ _ h => h) (Or.inl ⟨by rfl, ?_⟩) ?_ ?_
            rotate_left
            · intro w'
              go_simp
              with_reducible rfl
            rotate_left
            · simp only [Act.put, List.setIfInBounds_toArray, List.set_cons_zero, List.set_cons_succ]
              rfl
            refine take_ (i := 4) (N := some 79) (v := ?_) (a' := ?_) #[true, true, true, true, true, false, false, false, false, false, false, false, false, false, false, false, false, false, false] rfl rfl (take_ofW HT_.out HW_.out (by kernel_rfl)) (fun _ _ _ h => h) (Or.inl ⟨by rfl, ?_⟩) hHeld ?_ ?_
            rotate_left
            · rintro w' ⟨s0, s1, s2⟩
              go_simp
              with_reducible rfl
            rotate_left
            · simp only [Act.put, List.setIfInBounds_toArray, List.set_cons_zero, List.set_cons_succ]
              rfl
            refine pure_ (i := 5) (N := some 80) (v := ?_) (a' := ?_) #[true, true, true, true, true, true, false, false, false, false, false, false, false, false, false, false, false, false, false] rfl rfl (any_of HT_.out (by kernel_rfl)) (fun _ _ _ h => h) (Or.inl ⟨by rfl, ?_⟩) ?_ ?_
            rotate_left
            · intro w'
              go_simp
              with_reducible rfl
            rotate_left
            · simp only [Act.put, List.setIfInBounds_toArray, List.set_cons_zero, List.set_cons_succ]
              rfl
            refine pure_ (i := 6) (N := some 81) (v := ?_) (a' := ?_) #[true, true, true, true, true, true, true, false, false, false, false, false, false, false, false, false, false, false, false] rfl rfl (any_of HT_.out (by kernel_rfl)) (fun _ _ _ h => h) (Or.inl ⟨by rfl, ?_⟩) ?_ ?_
            rotate_left
            · intro w'
              go_simp
              with_reducible rfl
            rotate_left
            · simp only [Act.put, List.setIfInBounds_toArray, List.set_cons_zero, List.set_cons_succ]
              rfl
            refine pure_ (i := 7) (N := some 82) (v := ?_) (a' := ?_) #[true, true, true, true, true, true, true, true, false, false, false, false, false, false, false, false, false, false, false] rfl rfl (any_of HT_.out (by kernel_rfl)) (fun _ _ _ h => h) (Or.inl ⟨by rfl, ?_⟩) ?_ ?_
            rotate_left
            · intro w'
              go_simp
              with_reducible rfl
            rotate_left
            · simp only [Act.put, List.setIfInBounds_toArray, List.set_cons_zero, List.set_cons_succ]
              rfl
            refine pure_ (i := 8) (N := some 83) (v := undef) (a' := ?_) #[true, true, true, true, true, true, true, true, true, false, false, false, false, false, false, false, false, false, false] rfl rfl (any_of HT_.out (by kernel_rfl)) (fun _ _ _ h => h) (Or.inr ⟨by rfl, rfl⟩) ?_ ?_
            rotate_left
            · simp only [Act.put, List.setIfInBounds_toArray, List.set_cons_zero, List.set_cons_succ]
              rfl
            refine pure_ (i := 9) (N := some 84) (v := undef) (a' := ?_) #[true, true, true, true, true, true, true, true, true, true, false, false, false, false, false, false, false, false, false] rfl rfl (any_of HT_.out (by kernel_rfl)) (fun _ _ _ h => h) (Or.inr ⟨by rfl, rfl⟩) ?_ ?_
            rotate_left
            · simp only [Act.put, List.setIfInBounds_toArray, List.set_cons_zero, List.set_cons_succ]
              rfl
            refine pure_ (i := 10) (N := some 85) (v := undef) (a' := ?_) #[true, true, true, true, true, true, true, true, true, true, true, false, false, false, false, false, false, false, false] rfl rfl (any_of HT_.out (by kernel_rfl)) (fun _ _ _ h => h) (Or.inr ⟨by rfl, rfl⟩) ?_ ?_
            rotate_left
            · simp only [Act.put, List.setIfInBounds_toArray, List.set_cons_zero, List.set_cons_succ]
              rfl
            refine pure_ (i := 11) (N := some 86) (v := undef) (a' := ?_) #[true, true, true, true, true, true, true, true, true, true, true, true, false, false, false, false, false, false, false] rfl rfl (any_of HT_.out (by kernel_rfl)) (fun _ _ _ h => h) (Or.inr ⟨by rfl, rfl⟩) ?_ ?_
            rotate_left
            · simp only [Act.put, List.setIfInBounds_toArray, List.set_cons_zero, List.set_cons_succ]
              rfl
            refine pure_ (i := 12) (N := some 87) (v := undef) (a' := ?_) #[true, true, true, true, true, true, true, true, true, true, true, true, true, false, false, false, false, false, false] rfl rfl (any_of HT_.out (by kernel_rfl)) (fun _ _ _ h => h) (Or.inr ⟨by rfl, rfl⟩) ?_ ?_
            rotate_left
            · simp only [Act.put, List.setIfInBounds_toArray, List.set_cons_zero, List.set_cons_succ]
              rfl
            refine pure_ (i := 13) (N := some 88) (v := undef) (a' := ?_) #[true, true, true, true, true, true, true, true, true, true, true, true, true, true, false, false, false, false, false] rfl rfl (any_of HT_.out (by kernel_rfl)) (fun _ _ _ h => h) (Or.inr ⟨by rfl, rfl⟩) ?_ ?_
            rotate_left
            · simp only [Act.put, List.setIfInBounds_toArray, List.set_cons_zero, List.set_cons_succ]
              rfl
            refine pure_ (i := 14) (N := some 89) (v := undef) (a' := ?_) #[true, true, true, true, true, true, true, true, true, true, true, true, true, true, true, false, false, false, false] rfl rfl (any_of HT_.out (by kernel_rfl)) (fun _ _ _ h => h) (Or.inr ⟨by rfl, rfl⟩) ?_ ?_
            rotate_left
            · simp only [Act.put, List.setIfInBounds_toArray, List.set_cons_zero, List.set_cons_succ]
              rfl
            refine pure_ (i := 15) (N := some 90) (v := undef) (a' := ?_) #[true, true, true, true, true, true, true, true, true, true, true, true, true, true, true, true, false, false, false] rfl rfl (any_of HT_.out (by kernel_rfl)) (fun _ _ _ h => h) (Or.inr ⟨by rfl, rfl⟩) ?_ ?_
            rotate_left
            · simp only [Act.put, List.setIfInBounds_toArray, List.set_cons_zero, List.set_cons_succ]
              rfl
            refine pure_ (i := 16) (N := some 91) (v := undef) (a' := ?_) #[true, true, true, true, true, true, true, true, true, true, true, true, true, true, true, true, true, false, false] rfl rfl (any_of HT_.out (by kernel_rfl)) (fun _ _ _ h => h) (Or.inr ⟨by rfl, rfl⟩) ?_ ?_
            rotate_left
            · simp only [Act.put, List.setIfInBounds_toArray, List.set_cons_zero, List.set_cons_succ]
              rfl
            refine pure_ (i := 17) (N := some 92) (v := undef) (a' := ?_) #[true, true, true, true, true, true, true, true, true, true, true, true, true, true, true, true, true, true, false] rfl rfl (any_of HT_.out (by kernel_rfl)) (fun _ _ _ h => h) (Or.inr ⟨by rfl, rfl⟩) ?_ ?_
            rotate_left
            · simp only [Act.put, List.setIfInBounds_toArray, List.set_cons_zero, List.set_cons_succ]
              rfl
            refine pure_ (i := 18) (N := some 93) (v := ?_) (a' := ?_) #[true, true, true, true, true, true, true, true, true, true, true, true, true, true, true, true, true, true, true] rfl rfl (any_of HT_.out (by kernel_rfl)) (fun _ _ _ h => h) (Or.inl ⟨by rfl, ?_⟩) ?_ ?_
            rotate_left
            · intro w'
              go_simp
              with_reducible rfl
            rotate_left
            · simp only [Act.put, List.setIfInBounds_toArray, List.set_cons_zero, List.set_cons_succ]
              rfl
            refine done_ (done_of HT_.out (by kernel_rfl)) ?_
            have HB5 : Hid (BookAt w4.drew W0.heap.size g v2 es' s fl) := HB4.out.below (Below.refl _ _).drew
            have Hb5 : Hid (Below W0.heap.size W0 w4.drew) := Hb4.out.drew
            generalize w4.drew = w5 at HB5 Hb5 hHeld ⊢
            clear HT_ HW_ hHeld
            have HS' : Hid (s ≤ (es').length) := HS1.out
            have HLk' : Hid (look ((es').take (s)) e = (p, true)) := HLk1.out
            have HHo := Lib.hid (HB5.out.holds e p true (look_all HLk'.out))
            go_wp2_with fail
            refine HHo.out.mono ?_
            clear HHo
            rintro r w6 ⟨rfl, hb6⟩
            obtain ⟨w7, hw7⟩ : ∃ w7, w7 = heldW w6 p := ⟨_, rfl⟩
            have HW7 := Lib.hid hw7
            have hb7 : Below (w5).heap.size (w5) w7 := by rw [HW7.out]; exact hb6.trans ((heldW_below w6 p).mono hb6.size)
            have HR7 : Hid (w7.rangeAt w6.heap.size 0 (pc p)) := by rw [HW7.out]; exact heldW_reads w6 p HP.out
            have HB7 := Lib.hid (HB5.out.below hb7)
            have Hb7 := Lib.hid (Hb5.out.trans (hb7.mono Hb5.out.size))
            have HR3 : Hid (w7.rangeAt w.heap.size 0 (pc p)) := range_of_block ((Hb7.out.block _ HLT.out).trans HBox.out)
            clear hb6 hb7 hw7
            go_wp2_with (first
              | ((refine wpList_store_mid rfl 27 (.tmp 10) (.tmp 102) (by rfl) w6.heap.size 0 (papA p) (by rfl) (by rfl) (HT.out w6) HL.out (papA_all _) ?_); change wpList _ _ _ _ _ (heldW w6 p); rw [← HW7.out])
              | ((refine unguard (by rfl) ?_); (refine wpList_load_mid rfl 27 (.tmp 10) (by rfl) w6.heap.size 0 (by rfl) (pc p) _ HR7.out Try.underlying27 rfl HI.out ?_))
              | ((refine unguard (by rfl) ?_); (refine wpList_load_mid rfl 27 (.tmp 4) (by rfl) w.heap.size 0 (by rfl) (pc p) _ HR3.out Try.underlying27 rfl HI.out ?_)))
            go_roundw
            case rel => exact ⟨i + 1, g, by omega, by go_num, rfl, ⟨_, _, _, _, HS'.out, HLk'.out, HB7.out⟩, Hb7.out⟩
            case measure => simp [intOf]; omega
            case hS3 => exact ⟨hep4, hpp4, HR4.out⟩
          case hS0 => exact ⟨hep, hpp.out⟩
        · have hk1' : (kd == 1) = false := beq_eq_false_iff_ne.2 hk1
          by_cases hk2 : kd = 2
          · subst hk2
            clear hk1 hk1'
            go_wp2_with fail
            refine (flush_calls _ _ _ _ _ _ wr HB.out).mono ?_
            rintro r w5 ⟨rfl, hB5, hC5⟩
            have HB5 := Lib.hid hB5
            have Hb5 := Lib.hid (hbl.out.trans (hC5.below HB.out.lo (by simp) hbl.out.size))
            clear hB5 hC5
            have HS' : Hid (es.length ≤ (es).length) := Nat.le_refl _
            have HLk' : Hid (look ((es).take (es.length)) e = (p, true)) := (by show look _ _ = _; rw [List.take_length]; exact look_all HLk.out)
            have HHo := Lib.hid (HB5.out.holds e p true (look_all HLk'.out))
            go_wp2_with fail
            refine HHo.out.mono ?_
            clear HHo
            rintro r w6 ⟨rfl, hb6⟩
            obtain ⟨w7, hw7⟩ : ∃ w7, w7 = heldW w6 p := ⟨_, rfl⟩
            have HW7 := Lib.hid hw7
            have hb7 : Below (w5).heap.size (w5) w7 := by rw [HW7.out]; exact hb6.trans ((heldW_below w6 p).mono hb6.size)
            have HR7 : Hid (w7.rangeAt w6.heap.size 0 (pc p)) := by rw [HW7.out]; exact heldW_reads w6 p HP.out
            have HB7 := Lib.hid (HB5.out.below hb7)
            have Hb7 := Lib.hid (Hb5.out.trans (hb7.mono Hb5.out.size))
            have HR3 : Hid (w7.rangeAt w.heap.size 0 (pc p)) := range_of_block ((Hb7.out.block _ HLT.out).trans HBox.out)
            clear hb6 hb7 hw7
            go_wp2_with (first
              | ((refine wpList_store_mid rfl 27 (.tmp 10) (.tmp 102) (by rfl) w6.heap.size 0 (papA p) (by rfl) (by rfl) (HT.out w6) HL.out (papA_all _) ?_); change wpList _ _ _ _ _ (heldW w6 p); rw [← HW7.out])
              | ((refine unguard (by rfl) ?_); (refine wpList_load_mid rfl 27 (.tmp 10) (by rfl) w6.heap.size 0 (by rfl) (pc p) _ HR7.out Try.underlying27 rfl HI.out ?_))
              | ((refine unguard (by rfl) ?_); (refine wpList_load_mid rfl 27 (.tmp 4) (by rfl) w.heap.size 0 (by rfl) (pc p) _ HR3.out Try.underlying27 rfl HI.out ?_)))
            go_roundw
            case rel => exact ⟨i + 1, g, by omega, by go_num, rfl, ⟨_, _, _, _, HS'.out, HLk'.out, HB7.out⟩, Hb7.out⟩
            case measure => simp [intOf]; omega
          · have hk2' : (kd == 2) = false := beq_eq_false_iff_ne.2 hk2
            clear hk1 hk2
            obtain ⟨nx, hnx⟩ : ∃ nx : Nat, (nx : Int) = (s : Int) + min (max ep 0) ((es.length : Int) - s) := ⟨((s : Int) + min (max ep 0) ((es.length : Int) - s)).toNat, by have := HS.out; omega⟩
            have HCR := Lib.hid (crash_calls W0.heap.size g v1 es s fl ep wr HB.out HS.out nx hnx)
            have HNS : Hid (s ≤ nx ∧ nx ≤ es.length) := by have := HS.out; show _ ∧ _; omega
            clear hnx
            go_wp2_with fail
            refine HCR.out.mono ?_
            clear HCR
            rintro r w5 ⟨g2, v2, rfl, hB5, hb5⟩
            have HB5 := Lib.hid (hB5.lower hbl.out.size)
            have Hb5 := Lib.hid (hbl.out.trans (hb5.mono hbl.out.size))
            clear hB5 hb5
            have HS' : Hid (nx ≤ (es.take nx).length) := (by show _ ≤ _; rw [List.length_take]; have := HNS.out; omega)
            have HLk' : Hid (look ((es.take nx).take (nx)) e = (p, true)) := (by show look _ _ = _; rw [List.take_take, Nat.min_self]; exact look_take HLk.out HNS.out.1)
            have HHo := Lib.hid (HB5.out.holds e p true (look_all HLk'.out))
            go_wp2_with fail
            refine HHo.out.mono ?_
            clear HHo
            rintro r w6 ⟨rfl, hb6⟩
            obtain ⟨w7, hw7⟩ : ∃ w7, w7 = heldW w6 p := ⟨_, rfl⟩
            have HW7 := Lib.hid hw7
            have hb7 : Below (w5).heap.size (w5) w7 := by rw [HW7.out]; exact hb6.trans ((heldW_below w6 p).mono hb6.size)
            have HR7 : Hid (w7.rangeAt w6.heap.size 0 (pc p)) := by rw [HW7.out]; exact heldW_reads w6 p HP.out
            have HB7 := Lib.hid (HB5.out.below hb7)
            have Hb7 := Lib.hid (Hb5.out.trans (hb7.mono Hb5.out.size))
            have HR3 : Hid (w7.rangeAt w.heap.size 0 (pc p)) := range_of_block ((Hb7.out.block _ HLT.out).trans HBox.out)
            clear hb6 hb7 hw7
            go_wp2_with (first
              | ((refine wpList_store_mid rfl 27 (.tmp 10) (.tmp 102) (by rfl) w6.heap.size 0 (papA p) (by rfl) (by rfl) (HT.out w6) HL.out (papA_all _) ?_); change wpList _ _ _ _ _ (heldW w6 p); rw [← HW7.out])
              | ((refine unguard (by rfl) ?_); (refine wpList_load_mid rfl 27 (.tmp 10) (by rfl) w6.heap.size 0 (by rfl) (pc p) _ HR7.out Try.underlying27 rfl HI.out ?_))
              | ((refine unguard (by rfl) ?_); (refine wpList_load_mid rfl 27 (.tmp 4) (by rfl) w.heap.size 0 (by rfl) (pc p) _ HR3.out Try.underlying27 rfl HI.out ?_)))
            go_roundw
            case rel => exact ⟨i + 1, g2, by omega, by go_num, rfl, ⟨_, _, _, _, HS'.out, HLk'.out, HB7.out⟩, Hb7.out⟩
            case measure => simp [intOf]; omega
      · go_wp2_with fail
        refine (known_calls wr).mono ?_
        rintro r w4 ⟨rfl, hb4⟩
        have Hb4 := Lib.hid (hbl.out.trans (hb4.mono hbl.out.size))
        clear hb4
        go_wp2
        go_ret
        exact ⟨rfl, Hb0.out.trans (Hb4.out.mono Hb0.out.size)⟩
    · go_wp2_with fail
      refine (known_calls wr).mono ?_
      rintro r w4 ⟨rfl, hb4⟩
      have Hb4 := Lib.hid (hbl.out.trans (hb4.mono hbl.out.size))
      clear hb4
      go_wp2
      go_ret
      exact ⟨rfl, Hb0.out.trans (Hb4.out.mono Hb0.out.size)⟩
end Go.Proofs.Ytpnecknillpjkaa.Bk
