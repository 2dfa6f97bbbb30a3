import Derived.Test.YtpnecknillpjkaaBkHash
namespace Go.Proofs.Ytpnecknillpjkaa.Bk
open Go.RowKit

theorem flush_nil (w : World) : Calls Try.prog 20 #[.pointer none] w fun r w' => r = .returned (.tuple #[]) ∧ w = w' := by
  go_enter Try.func20, Try.ntmps20
  go_wp2
  go_end0
  exact ⟨rfl, rfl⟩
theorem len_nil (w : World) : Calls Try.prog 14 #[.pointer none] w fun r w' => r = .returned (.int .i64 0) ∧ w = w' := by
  go_enter Try.func14, Try.ntmps14
  go_wp2
  go_ret
  exact ⟨rfl, rfl⟩
theorem flushes_nil (w : World) : Calls Try.prog 16 #[.pointer none] w fun r w' => r = .returned (.int .i64 0) ∧ w = w' := by
  go_enter Try.func16, Try.ntmps16
  go_wp2
  go_ret
  exact ⟨rfl, rfl⟩
theorem crash_nil (k : Int) (w : World) : Calls Try.prog 17 #[.pointer none, .int .i64 k] w fun r w' => r = .returned (.pointer none) ∧ w = w' := by
  go_enter Try.func17, Try.ntmps17
  go_wp2
  go_ret
  exact ⟨rfl, rfl⟩
theorem write_nil (e : Int) (p : List Int) (w : World) : Calls Try.prog 13 #[.pointer none, .int .i64 e, .agg (papA p)] w fun r w' => r = .returned (.int .i64 1) ∧ Below w.heap.size w w' := by
  go_enter Try.func13, Try.ntmps13
  go_wp2
  go_ret
  exact ⟨rfl, (Below.refl _ _).alloc (Nat.le_refl _) _⟩
set_option maxRecDepth 100000 in
theorem holds_nil (e : Int) (w : World) : Calls Try.prog 18 #[.pointer none, .int .i64 e] w fun r w' => r = .returned (.tuple #[.agg (papA zeros), .bool false]) ∧ Below w.heap.size w w' := by
  obtain ⟨w2, hw2⟩ : ∃ w2, w2 = holdsW w e := ⟨_, rfl⟩
  have HW := Lib.hid hw2
  have HB : Hid (Below w.heap.size w w2) := by rw [hw2]; exact holdsW_below w e
  have hth : w2.there (w.heap.size + 1) 0 (papA zeros).size := by rw [hw2]; exact there_of_block (holdsW_res w e)
  have HT := Lib.hid hth
  clear hw2 hth
  go_enter Try.func18, Try.ntmps18
  go_wp2_with ((first | (refine wpList_store_mid rfl 27 (.tmp 4) (.tmp 9) (by rfl) (w.heap.size + 1) 0 (papA zeros) (by rfl) (by rfl) (by have := HT.out; rw [HW.out] at this; exact this) info27 (papA_all _) ?_)); change wpList _ _ _ _ _ ((holdsW w e).setCells (w.heap.size + 1) 0 (papA zeros).toList); rw [← HW.out])
  have hst := HT.out
  have hload : (loadVar 27 ⟨w.heap.size + 1, 0, none⟩).run Try.prog (w2.setCells (w.heap.size + 1) 0 (papA zeros).toList) = .ok (.agg (papA zeros)) (w2.setCells (w.heap.size + 1) 0 (papA zeros).toList) :=
    run_loadVar_mid _ _ 0 27 (pc zeros) _ (World.rangeAt_setCells_same w2 _ 0 (pc zeros) hst) Try.underlying27 rfl info27
  refine bodyPost_ret (v := .tuple #[.agg (papA zeros), .bool false]) (by simp [results, Try.results18, asAddr, hload]) rfl ⟨rfl, ?_⟩
  exact below_setCells HB.out (by omega) _ _

theorem wpList_h0 {ops : Array Oper} {rest : List Oper} {o : Oper} {a : Act} {Q : Exit → Act → World → Prop} {w : World} (hg : o.guard = none) (ho : o.op = .build 27 #[]) (h : wpList Try.prog ops Q rest (a.put o.dst (.agg (papA zeros))) w) : wpList Try.prog ops Q (o :: rest) a w := by
  refine wpList_plain hg fun _ hK => ?_
  unfold Oper.wp execOp
  have hr := run_h0 w
  simp only [ho, Sem.run_bind, List.map_toArray, List.map_nil, hr, Result.andThen_ok]
  exact hK _ _ h

set_option maxRecDepth 100000 in
set_option maxHeartbeats 1000000 in
theorem nothing_calls (e : Int) (p : List Int) (w : World) (hp : p.length = 32) : Calls Try.prog 11 #[.int .i64 e, .agg (papA p)] w fun r w' => r = .returned (.bool true) ∧ Below w.heap.size w w' := by
  have HI : Hid ((Try.prog.info? 27).map (·.size) = some (pc p).length) := by show _ = _; rw [pc, List.length_map, hp]; exact info27
  clear hp
  obtain ⟨Z, hZ⟩ : ∃ Z, Z = zeros := ⟨_, rfl⟩
  have hZl : Z.length = 32 := by rw [hZ]; simp [zeros]
  have hHol := fun (w : World) => holds_nil e w
  rw [← hZ] at hHol
  have HHol := Lib.hid hHol
  have heq : ∀ w : World, (binOp .eql 27 (.agg (pc Z).toArray) (.agg (papA zeros))).run Try.prog w = .ok (.bool true) w := fun w => by
    have := run_eq_hash zeros zeros (by simp [zeros]) (by simp [zeros]) w
    rw [hZ]
    simpa [papA] using this
  have HT : Hid (∀ w : World, (w.alloc (.cells (papA zeros) 27)).there w.heap.size 0 (papA Z).size) := fun w => alloc_there w Z hZl
  have HL : Hid ((Try.prog.info? 27).map (·.size) = some (papA Z).size) := by show _ = _; rw [papA_size hZl]; exact info27
  have HIZ : Hid ((Try.prog.info? 27).map (·.size) = some (pc Z).length) := by show _ = _; rw [pc, List.length_map, hZl]; exact info27
  have HRZ : Hid (∀ w : World, (heldW w Z).rangeAt w.heap.size 0 (pc Z)) := fun w => heldW_reads w Z hZl
  clear hHol hZ hZl
  go_enter Try.func11, Try.ntmps11
  go_wp2_with fail
  obtain ⟨W0, hW0⟩ : ∃ W0, W0 = w.alloc (.cells (papA p) 27) := ⟨_, rfl⟩
  have Hb0 : Hid (Below w.heap.size w W0) := by rw [hW0]; exact (Below.refl _ _).alloc (Nat.le_refl _) _
  have HBox : Hid (W0.heap[w.heap.size]? = some (.cells (papA p) 27)) := by rw [hW0]; exact heap_alloc_new _ _
  have HLT : Hid (w.heap.size < W0.heap.size) := by rw [hW0]; show _ < _; simp
  rw [← hW0]
  clear hW0
  refine (flush_nil W0).mono ?_
  rintro r w1 ⟨rfl, rfl⟩
  go_wp2_with fail
  refine (HHol.out W0).mono ?_
  rintro r w2 ⟨rfl, hb2⟩
  obtain ⟨w3, hw3⟩ : ∃ w3, w3 = heldW w2 Z := ⟨_, rfl⟩
  have HW3 := Lib.hid hw3
  have HR3 : Hid (w3.rangeAt w2.heap.size 0 (pc Z)) := by rw [HW3.out]; exact HRZ.out w2
  have HS3 : Hid (w2.heap.size < w3.heap.size) := by
    rw [HW3.out]
    exact Nat.lt_of_lt_of_le (by simp : w2.heap.size < (w2.alloc (.cells (papA zeros) 27)).heap.size) (below_setCells (Below.refl 0 _) (Nat.zero_le _) _ _).size
  have Hb : Hid (Below W0.heap.size W0 w3) := by rw [HW3.out]; exact hb2.trans ((heldW_below w2 Z).mono hb2.size)
  have HRp : Hid (w3.rangeAt w.heap.size 0 (pc p)) := range_of_block ((Hb.out.block _ HLT.out).trans HBox.out)
  clear hb2 hw3
  go_wp2_with (first
    | ((refine wpList_store_mid rfl 27 (.tmp 6) (.tmp 14) (by rfl) w2.heap.size 0 (papA Z) (by rfl) (by rfl) (HT.out w2) HL.out (papA_all _) ?_); change wpList _ _ _ _ _ (heldW w2 Z); rw [← HW3.out])
    | (refine wpList_load_mid rfl 27 (.tmp 3) (by rfl) w.heap.size 0 (by rfl) (pc p) _ HRp.out Try.underlying27 rfl HI.out ?_))
  refine (write_nil e p w3).mono ?_
  rintro r w4 ⟨rfl, hb4⟩
  have HR4 : Hid (w4.rangeAt w2.heap.size 0 (pc Z)) := fun j v hv => by rw [hb4.cell HS3.out]; exact HR3.out j v hv
  replace Hb := Lib.hid (Hb.out.trans (hb4.mono Hb.out.size))
  clear hb4 HR3 HRp
  go_wp2_with (first
    | ((refine unguard (by rfl) ?_); (refine wpList_load_mid rfl 27 (.tmp 6) (by rfl) w2.heap.size 0 (by rfl) (pc Z) _ HR4.out Try.underlying27 rfl HIZ.out ?_))
    | ((refine unguard (by rfl) ?_); (refine wpList_h0 rfl (by rfl) ?_))
    | (go_at_call 14; refine (len_nil _).mono ?_; rintro r w5 ⟨rfl, rfl⟩)
    | (go_at_call 16; refine (flushes_nil _).mono ?_; rintro r w5 ⟨rfl, rfl⟩)
    | (go_at_call 17; refine (crash_nil _ _).mono ?_; rintro r w5 ⟨rfl, rfl⟩)
    | (go_at_call 15; refine (known_calls _).mono ?_; rintro r w5 ⟨rfl, hb5⟩; replace Hb := Lib.hid (Hb.out.trans (hb5.mono Hb.out.size)); clear hb5))
  go_ret
  exact ⟨rfl, Hb0.out.trans (Hb.out.mono Hb0.out.size)⟩
end Go.Proofs.Ytpnecknillpjkaa.Bk
