import Derived.Test.YtpnecknillpjkaaBkHash
namespace Go.Proofs.Ytpnecknillpjkaa.Bk
open Go.RowKit

theorem wc1 : writeOf [] 1 (hb 9) = (0, [(1, hb 9)]) := rfl
theorem wc2 (h p : List Int) (e : Int) (h0 : 2 ≤ e) (h1 : e ≤ 1099511627776) : writeOf [(1, h)] e p = (0, [(1, h), (e, p)]) := by
  unfold writeOf
  have : (look [(1, h)] e).2 = false := by
    unfold look
    rw [List.find?_eq_none.2 (by simp; omega)]
  rw [if_neg (by omega), if_neg (by rw [this]; simp), if_neg (by simp)]
  rfl
theorem lc2 (h p : List Int) (e : Int) (h0 : 2 ≤ e) : look [(1, h), (e, p)] e = (p, true) := by
  unfold look
  rw [List.find?_cons_of_neg (by simp; omega), List.find?_cons_of_pos (by simp)]

theorem BookAt.under {w w' : World} {base g : Nat} {v : Value} {es : List (Int × List Int)} {st fl : Int} {B : Nat} (h : BookAt w base g v es st fl) (hg : g < B) (hv : ∀ k, v.ownBlock = some k → k < B) (hb : Below B w w') : BookAt w' base g v es st fl := by
  refine ⟨h.lo, (hb.block g hg).trans h.blk, ?_, h.ok, h.len⟩
  refine ⟨h.own.1, ?_⟩
  rcases h.own.2 with h0 | ⟨k, cap, cur, rfl, hk, hgk, r1, r2, r3, r4⟩
  · exact Or.inl h0
  · exact Or.inr ⟨k, cap, cur, rfl, hk, (hb.block k (hv k rfl)).trans hgk, r1, r2, r3, r4⟩

set_option maxRecDepth 100000 in
set_option maxHeartbeats 1000000 in
theorem copy_calls (e : Int) (p : List Int) (w : World) (hp : p.length = 32) : Calls Try.prog 6 #[.int .i64 e, .agg (papA p)] w fun r w' => r = .returned (.bool true) ∧ Below w.heap.size w w' := by
  by_cases h0 : e < 2
  · go_enter Try.func6, Try.ntmps6
    go_wp2
    go_ret
    exact ⟨rfl, (Below.refl _ _).alloc (Nat.le_refl _) _⟩
  by_cases h1 : 1099511627776 < e
  · go_enter Try.func6, Try.ntmps6
    go_wp2
    go_ret
    exact ⟨rfl, (Below.refl _ _).alloc (Nat.le_refl _) _⟩
  have HP := Lib.hid hp
  have HI : Hid ((Try.prog.info? 27).map (·.size) = some (pc p).length) := by show _ = _; rw [pc, List.length_map, hp]; exact info27
  have HW1 : Hid (∀ h p, writeOf [(1, h)] e p = (0, [(1, h), (e, p)])) := fun h p => wc2 h p e (by omega) (by omega)
  have HL1 : Hid (∀ h p, look [(1, h), (e, p)] e = (p, true)) := fun h p => lc2 h p e (by omega)
  clear hp
  go_enter Try.func6, Try.ntmps6
  go_wp2_with fail
  obtain ⟨W0, hW0⟩ : ∃ W0, W0 = w.alloc (.cells (papA p) 27) := ⟨_, rfl⟩
  have Hb0 : Hid (Below w.heap.size w W0) := by rw [hW0]; exact (Below.refl _ _).alloc (Nat.le_refl _) _
  have HBox : Hid (W0.heap[w.heap.size]? = some (.cells (papA p) 27)) := by rw [hW0]; exact heap_alloc_new _ _
  have HLT : Hid (w.heap.size < W0.heap.size) := by rw [hW0]; show _ < _; simp
  rw [← hW0]
  refine (new_calls W0).mono ?_
  rintro r w1 ⟨rfl, hw1⟩
  have HB : Hid (BookAt w1 W0.heap.size W0.heap.size (.slice none 0 0) [] ((0 : Nat) : Int) 0) := by rw [hw1]; exact new_book W0
  have Hb : Hid (Below W0.heap.size W0 w1) := by rw [hw1]; exact (Below.refl _ _).alloc (Nat.le_refl _) _
  clear hw1 hW0
  go_wp2_with fail
  refine (write_calls' _ _ _ _ _ _ 1 (hb 9) w1 (hb_len 9) Hb.out.size HB.out _ _ wc1).mono ?_
  clear HB
  rintro r w2 ⟨rfl, v1, hB, hb2⟩
  obtain ⟨h9, hh9⟩ : ∃ h, h = hb 9 := ⟨_, rfl⟩
  rw [← hh9] at hB
  have HB := Lib.hid hB
  replace Hb := Lib.hid (Hb.out.trans hb2)
  have HCR := Lib.hid (crash_calls _ _ _ [(1, h9)] 0 0 1 w2 hB (by simp) 1 (by show (1 : Int) = 0 + min (max 1 0) (1 - 0); omega))
  clear hB hb2 hh9
  go_wp2_with fail
  refine HCR.out.mono ?_
  clear HCR
  rintro r w3 ⟨gc, vc, rfl, hC, hb3⟩
  have HC : Hid (BookAt w3 w2.heap.size gc vc [(1, h9)] ((1 : Nat) : Int) 0) := hC
  have HG : Hid (W0.heap.size < w2.heap.size ∧ ∀ k, v1.ownBlock = some k → k < w2.heap.size) := ⟨HB.out.lt, fun k hk => (HB.out.row_lo k hk).2⟩
  replace HB := Lib.hid (HB.out.below hb3)
  replace Hb := Lib.hid (Hb.out.trans (hb3.mono Hb.out.size))
  have HS : Hid (w2.heap.size ≤ w3.heap.size) := hb3.size
  generalize w2.heap.size = B1 at HC HG HS
  have HR : Hid (w3.rangeAt w.heap.size 0 (pc p)) := range_of_block ((Hb.out.block _ HLT.out).trans HBox.out)
  clear hC hb3
  go_wp2_with ((refine unguard (by rfl) ?_); (refine wpList_load_mid rfl 27 (.tmp 3) (by rfl) w.heap.size 0 (by rfl) (pc p) _ HR.out Try.underlying27 rfl HI.out ?_))
  refine (write_calls' B1 gc vc [(1, h9)] ((1 : Nat) : Int) 0 e p w3 HP.out HS.out HC.out _ _ (HW1.out h9 p)).mono ?_
  clear HC
  rintro r w4 ⟨rfl, vc2, hC, hb4⟩
  have HC := Lib.hid hC
  replace HB := Lib.hid (HB.out.under HG.out.1 HG.out.2 hb4)
  replace Hb := Lib.hid (Hb.out.trans (hb4.mono (Nat.le_of_lt HG.out.1)))
  have HS4 : Hid (B1 ≤ w4.heap.size) := Nat.le_trans HS.out hb4.size
  clear hC hb4 HR
  obtain ⟨P7, hP7⟩ : ∃ P, P = hb2 7 7 := ⟨_, rfl⟩
  have HP7 := Lib.hid hP7
  go_wp2_with fail
  refine (write_calls _ _ _ _ _ _ e (hb2 7 7) w4 (hb2_len 7 7) Hb.out.size HB.out _ _ (HW1.out h9 (hb2 7 7))).mono ?_
  rintro r w5 ⟨rfl, v2, hB, hch, _⟩
  rw [← hP7] at hB
  have hlo := HB.out.row_lo
  have hC5 : BookAt w5 B1 gc vc2 [(1, h9), (e, p)] ((1 : Nat) : Int) 0 := by
    have hglt := HG.out.1
    refine HC.out.far hch ?_ ?_ ?_ ?_
    · have := HC.out.lo; omega
    · intro h; have := HG.out.2 gc h.symm; have := HC.out.lo; omega
    · intro h; have := (HC.out.row_lo _ h).1; omega
    · by_cases hv : vc2.ownBlock = none
      · exact .inl hv
      · right
        intro h
        obtain ⟨k, hk⟩ := Option.ne_none_iff_exists'.1 hv
        have h1 := (HC.out.row_lo k hk).1
        have h2 := HG.out.2 k (by rw [← h, hk])
        omega
  replace Hb := Lib.hid (Hb.out.trans (hch.below (Nat.le_refl _) (fun k hk => (hlo k hk).1) Hb.out.size))
  clear HB HC
  have HB := Lib.hid hB
  have HC := Lib.hid hC5
  clear hB hch hlo hC5 hP7
  have HT7 : Hid (∀ w : World, (w.alloc (.cells (papA zeros) 27)).there w.heap.size 0 (papA P7).size) := fun w => alloc_there w P7 (by rw [HP7.out, hb2_len])
  have HL7 : Hid ((Try.prog.info? 27).map (·.size) = some (papA P7).size) := by show _ = _; rw [papA_size (by rw [HP7.out, hb2_len])]; exact info27
  have HI7 : Hid ((Try.prog.info? 27).map (·.size) = some (pc P7).length) := by show _ = _; rw [pc, List.length_map, HP7.out, hb2_len]; exact info27
  have HTp : Hid (∀ w : World, (w.alloc (.cells (papA zeros) 27)).there w.heap.size 0 (papA p).size) := fun w => alloc_there w p HP.out
  have HLp : Hid ((Try.prog.info? 27).map (·.size) = some (papA p).size) := by show _ = _; rw [papA_size HP.out]; exact info27
  have heq7 : ∀ w : World, (binOp .eql 27 (.agg (pc P7).toArray) (.agg (papA (hb2 7 7)))).run Try.prog w = .ok (.bool true) w := fun w => by
    have := run_eq_hash (hb2 7 7) (hb2 7 7) (hb2_len 7 7) (hb2_len 7 7) w
    rw [HP7.out]
    simpa [papA] using this
  have heqp : ∀ w : World, (binOp .eql 27 (.agg (pc p).toArray) (.agg (pc p).toArray)).run Try.prog w = .ok (.bool true) w := fun w => by
    have := run_eq_hash p p HP.out HP.out w
    simpa [papA] using this
  go_wp2_with fail
  refine (HB.out.holds e P7 true (HL1.out h9 P7)).mono ?_
  rintro r w6 ⟨rfl, hb6⟩
  obtain ⟨w7, hw7⟩ : ∃ w7, w7 = heldW w6 P7 := ⟨_, rfl⟩
  have HW7 := Lib.hid hw7
  have HR7 : Hid (w7.rangeAt w6.heap.size 0 (pc P7)) := by rw [HW7.out]; exact heldW_reads w6 P7 (by rw [HP7.out, hb2_len])
  have HS7 : Hid (w6.heap.size < w7.heap.size) := by
    rw [HW7.out]
    have h1 := (HT7.out w6)
    exact Nat.lt_of_lt_of_le (by simp : w6.heap.size < (w6.alloc (.cells (papA zeros) 27)).heap.size) (below_setCells (Below.refl 0 _) (Nat.zero_le _) _ _).size
  have hb7 : Below w5.heap.size w5 w7 := by rw [HW7.out]; exact hb6.trans ((heldW_below w6 P7).mono hb6.size)
  replace HC := Lib.hid (HC.out.below hb7)
  replace Hb := Lib.hid (Hb.out.trans (hb7.mono Hb.out.size))
  clear hb6 hb7 HB hw7
  go_wp2_with ((refine wpList_store_mid rfl 27 (.tmp 7) (.tmp 48) (by rfl) w6.heap.size 0 (papA P7) (by rfl) (by rfl) (HT7.out w6) HL7.out (papA_all _) ?_); change wpList _ _ _ _ _ (heldW w6 P7); rw [← HW7.out])
  refine (HC.out.holds e p true (HL1.out h9 p)).mono ?_
  rintro r w8 ⟨rfl, hb8⟩
  obtain ⟨w9, hw9⟩ : ∃ w9, w9 = heldW w8 p := ⟨_, rfl⟩
  have HW9 := Lib.hid hw9
  have hb9 : Below w7.heap.size w7 w9 := by rw [HW9.out]; exact hb8.trans ((heldW_below w8 p).mono hb8.size)
  have HR9 : Hid (w9.rangeAt w8.heap.size 0 (pc p)) := by rw [HW9.out]; exact heldW_reads w8 p HP.out
  replace HR7 : Hid (w9.rangeAt w6.heap.size 0 (pc P7)) := fun j v hv => by rw [hb9.cell HS7.out]; exact HR7.out j v hv
  replace Hb := Lib.hid (Hb.out.trans (hb9.mono Hb.out.size))
  have HR3 : Hid (w9.rangeAt w.heap.size 0 (pc p)) := range_of_block ((Hb.out.block _ HLT.out).trans HBox.out)
  clear hb8 hb9 hw9 HC
  go_wp2_with (first
    | ((refine wpList_store_mid rfl 27 (.tmp 9) (.tmp 54) (by rfl) w8.heap.size 0 (papA p) (by rfl) (by rfl) (HTp.out w8) HLp.out (papA_all _) ?_); change wpList _ _ _ _ _ (heldW w8 p); rw [← HW9.out])
    | ((refine unguard (by rfl) ?_); (refine wpList_load_mid rfl 27 (.tmp 7) (by rfl) w6.heap.size 0 (by rfl) (pc P7) _ HR7.out Try.underlying27 rfl HI7.out ?_))
    | ((refine unguard (by rfl) ?_); (refine wpList_load_mid rfl 27 (.tmp 9) (by rfl) w8.heap.size 0 (by rfl) (pc p) _ HR9.out Try.underlying27 rfl HI.out ?_))
    | ((refine unguard (by rfl) ?_); (refine wpList_load_mid rfl 27 (.tmp 3) (by rfl) w.heap.size 0 (by rfl) (pc p) _ HR3.out Try.underlying27 rfl HI.out ?_))
    | ((refine unguard (by rfl) ?_); (refine wpList_hb2 rfl 7 7 _ _ (by rfl) (by rfl) (by rfl) ?_))
    | (go_at_call 15; refine (known_calls _).mono ?_; rintro r w4 ⟨rfl, hb4⟩; replace Hb := Lib.hid (Hb.out.trans (hb4.mono Hb.out.size)); clear hb4))
  go_ret
  exact ⟨rfl, Hb0.out.trans (Hb.out.mono Hb0.out.size)⟩
end Go.Proofs.Ytpnecknillpjkaa.Bk
