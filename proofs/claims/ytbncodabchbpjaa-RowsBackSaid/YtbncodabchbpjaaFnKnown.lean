import Derived.Test.YtbncodabchbpjaaFnPack
import Derived.Test.YtbncodabchbpjaaFnNum
import Derived.Test.YtbncodabchbpjaaFnAid
import Derived.Test.YtbncodabchbpjaaPlainNum
import Derived.Lib.SlBytesConst
namespace Go.Proofs.Ytbncodabchbpjaa.Fn
open Go.RowKit Go.Proofs.YtbncodabchbpjaaW.PrintWords Go.Proofs.YtbncodabchbpjaaW.PrintLast Go.Proofs.YtbncodabchbpjaaW.PrintMore
open Go.Proofs.Ytbncodabchbpjaa.Plain (numL)
attribute [local go_sem] max2_int min2_int max_two min_two max_three min_three max_four min_four

theorem num_some (n : Int) (k : Nat) : rows_Num.f (k + 9) n = some (numL n) := by
  simp [rows_Num.f, rows_Num.l0, wrap64, shr, numL, IntKind.bits]
theorem pack_known : rows_Pack.f 9 [[97], []] = some ([2, 0, 1, 97, 0, 0], 0) := by
  simp [rows_Pack.f, rows_Pack.l0, rd_L1, wrap64]

theorem known_reads (w : World) (w2 : World) (h2 : w2 = (w.alloc (.cells #[.int .u8 97] 5 (1, 2))).alloc (.cells #[.slice (some ⟨w.heap.size, 0, none⟩) 1 1, .slice none 0 0] 24)) :
    Kd.C (Kd.slice 5 (Kd.int .u8)) w2 (some ⟨w.heap.size + 1, 0, none⟩) [[97], ([] : List Int)].length [[97], []] := by
  have hb1 : w2.heap[w.heap.size]? = some (.cells #[.int .u8 97] 5 (1, 2)) := by rw [h2, heap_old _ _ _ (by simp)]; exact heap_last _ _ _ rfl
  have hb2 : w2.heap[w.heap.size + 1]? = some (.cells #[.slice (some ⟨w.heap.size, 0, none⟩) 1 1, .slice none 0 0] 24) := by rw [h2]; exact heap_last _ _ _ (by simp)
  refine C_rows hb2 (by decide) fun i xs hi => ?_
  match i with
  | 0 =>
    simp at hi
    subst hi
    refine ⟨_, _, rfl, by decide, C_ints hb1 (by decide) fun i x hx => ?_⟩
    match i with
    | 0 => simp at hx; subst hx; rfl
    | i + 1 => simp at hx
  | 1 =>
    simp at hi
    subst hi
    exact ⟨_, _, rfl, by decide, rfl, by decide, fun h => absurd h (by decide)⟩
  | i + 2 => simp at hi

set_option maxRecDepth 100000 in
theorem known_calls (w : World) : Calls Try.prog 14 #[] w fun e w' => e = .returned (.bool true) ∧ Below w.heap.size w w' := by
  have kc := fun (w : World) (C : Array Value) (n c : Nat) => Lib.run_convert_bytes_const (P := Try.prog) w 24 5 C n c Try.underlying24 Try.underlying5
  have HN := Aside0.mk (num_some 258 0)
  go_enter Try.func14, Try.ntmps14
  go_wp2_with fail
  clear kc
  refine (rows_Pack.calls 9 _ _ [[97], []] _ _ _ (known_reads w _ rfl) (by decide) pack_known).mono ?_
  rintro e w1 ⟨v1, rfl, ho, hb⟩
  have HS := own_string (P := Try.prog) Try.underlying24 Try.underlying5 Try.underlying9 (Kd.own_of_R ho)
  have HB : Aside0 (Below w.heap.size w w1) := ⟨by
    have h2 : Below w.heap.size w ((w.alloc (.cells #[.int .u8 97] 5 (1, 2))).alloc (.cells #[.slice (some ⟨w.heap.size, 0, none⟩) 1 1, .slice none 0 0] 24)) := below_alloc (below_alloc (Below.refl _ _) _) _
    exact h2.trans (hb.mono (by simp; omega))⟩
  clear ho hb
  have hs1 : ((strOfNums [2, 0, 1, 97, 0, 0]).toList == [2, 0, 1, 97, 0, 0]) = true := by rw [Lib.strOfNums_toList]; decide
  go_wp2_with fail
  clear hs1 HS
  refine (rows_Num.calls 9 258 (numL 258) _ HN.out).mono ?_
  rintro e w2 ⟨v2, rfl, ho, hb⟩
  have HS := own_string (P := Try.prog) Try.underlying24 Try.underlying5 Try.underlying9 (Kd.own_of_R ho)
  have HB2 : Aside0 (Below w.heap.size w w2) := ⟨HB.out.trans (hb.mono HB.out.size)⟩
  have hs2 : ((strOfNums (numL 258)).toList == [0, 0, 0, 0, 0, 0, 1, 2]) = true := by rw [Lib.strOfNums_toList]; decide
  clear ho hb HB HN
  go_wp2_with fail
  go_ret
  exact ⟨rfl, HB2.out⟩

/-- The function of the law's own check: it is true. -/
def curialaw6_known.f (_ : Nat) : Option Bool := some true
theorem curialaw6_known.mono : ∀ k, LeO (curialaw6_known.f k) (curialaw6_known.f (k + 1)) := fun _ => LeO.refl _
theorem curialaw6_known.calls (k : Nat) (r : Bool) (w : World) (h : curialaw6_known.f k = some r) :
    Calls Try.prog 14 #[] w fun e w' => e = .returned (.bool r) ∧ Below w.heap.size w w' := by
  obtain rfl := Option.some.inj h
  exact known_calls w

end Go.Proofs.Ytbncodabchbpjaa.Fn
