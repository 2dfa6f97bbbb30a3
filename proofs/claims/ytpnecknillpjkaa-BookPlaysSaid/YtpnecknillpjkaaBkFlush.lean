import Derived.Test.YtpnecknillpjkaaBkNew
namespace Go.Proofs.Ytpnecknillpjkaa.Bk
open Go.RowKit Go.Proofs.YtpnecknillpjkaaW.PrintWords Go.Proofs.YtpnecknillpjkaaW.PrintLast

def flush.T1 : Bool × List (List Nat × List Nat) := (true, [([], []), ([0], [0]), ([1], [1]), ([], []), ([3], [3]), ([4], [4]), ([5], [5]), ([6], [6]), ([2, 7], [2, 7])])
def flush.B1 : List Nat := [0, 1, 3, 0, 8, 24, 56, 120, 255]
theorem flush.tab1 : rtab .any (opsOf Try.f20 1) = flush.T1 := by kernel_rfl
theorem flush.bits1 : waitsOk flush.T1.2 flush.B1 = true := by kernel_rfl

theorem book_set1 {w : World} {g : Nat} {x y z v : Value} (h : w.heap[g]? = some (.cells #[x, y, z] 57 (0, 0))) : (w.setCell ⟨g, 1, none⟩ v).heap[g]? = some (.cells #[x, v, z] 57 (0, 0)) := by
  have hlt := lt_of_block h
  have h' : w.heap[g] = .cells #[x, y, z] 57 (0, 0) := by simpa [Array.getElem?_eq_getElem hlt] using h
  show (w.heap.modify g _)[g]? = _
  rw [Array.getElem?_eq_getElem (by simpa using hlt), Array.getElem_modify_self, h']
  rfl
theorem book_set2 {w : World} {g : Nat} {x y z v : Value} (h : w.heap[g]? = some (.cells #[x, y, z] 57 (0, 0))) : (w.setCell ⟨g, 2, none⟩ v).heap[g]? = some (.cells #[x, y, v] 57 (0, 0)) := by
  have hlt := lt_of_block h
  have h' : w.heap[g] = .cells #[x, y, z] 57 (0, 0) := by simpa [Array.getElem?_eq_getElem hlt] using h
  show (w.heap.modify g _)[g]? = _
  rw [Array.getElem?_eq_getElem (by simpa using hlt), Array.getElem_modify_self, h']
  rfl
theorem BookAt.setStays {w : World} {base g : Nat} {v : Value} {es : List (Int × List Int)} {st fl : Int} (h : BookAt w base g v es st fl) (x : Int) : BookAt (w.setCell ⟨g, 1, none⟩ (.int .i64 x)) base g v es x fl :=
  ⟨h.lo, book_set1 h.blk, ownsRow_setCell_other h.own h.apart _, h.ok, h.len⟩
theorem BookAt.setFlushes {w : World} {base g : Nat} {v : Value} {es : List (Int × List Int)} {st fl : Int} (h : BookAt w base g v es st fl) (x : Int) : BookAt (w.setCell ⟨g, 2, none⟩ (.int .i64 x)) base g v es st x :=
  ⟨h.lo, book_set2 h.blk, ownsRow_setCell_other h.own h.apart _, h.ok, h.len⟩
theorem Chg.refl (w : World) (g : Nat) (r : Option Nat) : Chg w w g r := ⟨rfl, rfl, rfl, Nat.le_refl _, fun _ _ _ _ => rfl⟩
theorem Chg.set {w w' : World} {g : Nat} {r : Option Nat} (h : Chg w w' g r) (o : Nat) (x : Value) : Chg w (w'.setCell ⟨g, o, none⟩ x) g r :=
  ⟨h.os, h.tape, h.output, Nat.le_trans h.size (by simp [World.setCell]), fun k hk h1 h2 => (Below.heap_setCell _ _ _ _ h1).trans (h.block k hk h1 h2)⟩

set_option maxRecDepth 100000 in
set_option maxHeartbeats 1000000 in
theorem flush_calls (base g : Nat) (v : Value) (es : List (Int × List Int)) (st fl : Int) (w : World) (hB : BookAt w base g v es st fl) :
    Calls Try.prog 20 #[.pointer (some ⟨g, 0, none⟩)] w fun r w' => r = .returned (.tuple #[]) ∧ BookAt w' base g v es es.length (wrap64 (fl + 1)) ∧ Chg w w' g none := by
  obtain ⟨A, c, rfl, _, hr⟩ := hB.own.reads
  have hcell : w.cell? ⟨g, 0, none⟩ = some (.slice A es.length c) := by rw [hB.cell]; rfl
  have HB := Lib.hid hB
  clear hB hr
  go_enter Try.func20, Try.ntmps20
  go_wp2_with fail
  refine start_ (n := 9) (S := fun w' => w'.cell? ⟨g, 0, none⟩ = some (.slice A es.length c)) (ds := [8]) #[false, false, false, false, false, false, false, false, false] (by kernel_rfl) rfl rfl ?hS0 (fun hHeld => ?_)
  rotate_left
  refine with_tabW flush.tab1 flush.bits1 (fun HT_ HW_ => ?_)
  generalize hw3d : w.drew = w3d at hHeld ⊢
  have HW3 := Lib.hid hw3d
  clear hw3d
  refine pure_ (i := 0) (N := some 4) (v := ?_) (a' := ?_) #[true, false, false, false, false, false, false, false, false] rfl rfl (any_of HT_.out (by kernel_rfl)) (fun _ _ _ h => h) (Or.inl ⟨by rfl, ?_⟩) ?_ ?_
  rotate_left
  · intro w'
    go_simp
    with_reducible rfl
  rotate_left
  · simp only [Act.put, List.setIfInBounds_toArray, List.set_cons_zero, List.set_cons_succ]
    rfl
  refine pure_ (i := 1) (N := some 5) (v := ?_) (a' := ?_) #[true, true, false, false, false, false, false, false, false] rfl rfl (any_of HT_.out (by kernel_rfl)) (fun _ _ _ h => h) (Or.inl ⟨by rfl, ?_⟩) ?_ ?_
  rotate_left
  · intro w'
    go_simp
    with_reducible rfl
  rotate_left
  · simp only [Act.put, List.setIfInBounds_toArray, List.set_cons_zero, List.set_cons_succ]
    rfl
  refine pure_ (i := 2) (N := some 6) (v := ?_) (a' := ?_) #[true, true, true, false, false, false, false, false, false] rfl rfl (any_of HT_.out (by kernel_rfl)) (fun _ _ _ h => h) (Or.inl ⟨by rfl, ?_⟩) ?_ ?_
  rotate_left
  · intro w'
    go_simp
    with_reducible rfl
  rotate_left
  · simp only [Act.put, List.setIfInBounds_toArray, List.set_cons_zero, List.set_cons_succ]
    rfl
  refine pure_ (i := 3) (N := some 7) (v := ?_) (a' := ?_) #[true, true, true, true, false, false, false, false, false] rfl rfl (any_of HT_.out (by kernel_rfl)) (fun _ _ _ h => h) (Or.inl ⟨by rfl, ?_⟩) ?_ ?_
  rotate_left
  · intro w'
    go_simp
    with_reducible rfl
  rotate_left
  · simp only [Act.put, List.setIfInBounds_toArray, List.set_cons_zero, List.set_cons_succ]
    rfl
  refine pure_ (i := 4) (N := some 8) (v := ?_) (a' := ?_) #[true, true, true, true, true, false, false, false, false] rfl rfl (any_of HT_.out (by kernel_rfl)) (fun _ _ _ h => h) (Or.inl ⟨by rfl, ?_⟩) ?_ ?_
  rotate_left
  · intro w'
    go_simp
    with_reducible rfl
  rotate_left
  · simp only [Act.put, List.setIfInBounds_toArray, List.set_cons_zero, List.set_cons_succ]
    rfl
  refine pure_ (i := 5) (N := some 9) (v := ?_) (a' := ?_) #[true, true, true, true, true, true, false, false, false] rfl rfl (any_of HT_.out (by kernel_rfl)) (fun _ _ _ h => h) (Or.inl ⟨by rfl, ?_⟩) ?_ ?_
  rotate_left
  · intro w'
    go_simp
    with_reducible rfl
  rotate_left
  · simp only [Act.put, List.setIfInBounds_toArray, List.set_cons_zero, List.set_cons_succ]
    rfl
  refine take_ (i := 6) (N := some 10) (v := ?_) (a' := ?_) #[true, true, true, true, true, true, true, false, false] rfl rfl (take_ofW HT_.out HW_.out (by kernel_rfl)) (fun _ _ _ h => h) (Or.inl ⟨by rfl, ?_⟩) hHeld ?_ ?_
  rotate_left
  · intro w' s0
    go_simp
    with_reducible rfl
  rotate_left
  · simp only [Act.put, List.setIfInBounds_toArray, List.set_cons_zero, List.set_cons_succ]
    rfl
  refine pure_ (i := 7) (N := some 11) (v := ?_) (a' := ?_) #[true, true, true, true, true, true, true, true, false] rfl rfl (any_of HT_.out (by kernel_rfl)) (fun _ _ _ h => h) (Or.inl ⟨by rfl, ?_⟩) ?_ ?_
  rotate_left
  · intro w'
    go_simp
    with_reducible rfl
  rotate_left
  · simp only [Act.put, List.setIfInBounds_toArray, List.set_cons_zero, List.set_cons_succ]
    rfl
  refine last_ (i := 8) (N := some 12) #[true, true, true, true, true, true, true, true, true] rfl rfl (one_of HT_.out (by kernel_rfl)) (by decide) (fun K hK => ?_)
  have HB3 : Hid (BookAt w3d base g (.slice A es.length c) es st fl) := by rw [← HW3.out]; exact HB.out.below (Below.refl _ _).drew
  refine goes_ Try.func26 (by kernel_rfl) rfl #[.pointer (some ⟨g, 1, none⟩), .int .i64 es.length] (by rfl) rfl rfl (by (try simp only [List.map_toArray, List.map_cons, List.map_nil]); first | done | rfl) ?_
  refine (store_calls g 1 es.length (.int .i64 st) w3d (by rw [HB3.out.cell]; rfl) (HB3.out.free 1)).mono ?_
  rintro r w4 ⟨rfl, hw4⟩
  refine ⟨_, rfl, ?_⟩
  refine hK.out _ _ ?_
  clear hK K
  refine norm_ (a' := ?_) ?_ ?_
  rotate_left
  · show Act.put _ (some 12) _ = _
    simp only [Act.put, List.setIfInBounds_toArray, List.set_cons_zero, List.set_cons_succ]
    rfl
  refine done_ (done_of HT_.out (by kernel_rfl)) ?_
  have HB4 : Hid (BookAt w4 base g (.slice A es.length c) es es.length fl) := by rw [← hw4]; exact HB3.out.setStays _
  have HC4 : Hid (Chg w w4 g none) := by rw [← hw4, ← HW3.out]; exact (Chg.of_below (Below.refl _ _).drew _ _).set _ _
  clear hw4
  have hc4 : w4.cell? ⟨g, 2, none⟩ = some (.int .i64 fl) := by rw [HB4.out.cell]; rfl
  go_wp2_with (go_at_call 29; refine (add_calls g 2 fl 1 w4 hc4 (HB4.out.free 2)).mono ?_; rintro r w5 ⟨rfl, hw5⟩)
  go_end0
  refine ⟨rfl, ?_, ?_⟩
  · rw [← hw5]; exact HB4.out.setFlushes _
  · rw [← hw5]; exact HC4.out.set _ _
  case hS0 => exact hcell
end Go.Proofs.Ytpnecknillpjkaa.Bk
