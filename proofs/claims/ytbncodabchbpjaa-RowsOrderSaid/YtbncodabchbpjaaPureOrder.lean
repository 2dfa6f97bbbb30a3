import Derived.Test.YtbncodabchbpjaaFnOrder
import Derived.OpenShut
namespace Go.Proofs.Ytbncodabchbpjaa.Pure
open Go.RowKit Go.Proofs.Ytbncodabchbpjaa.Fn Go.Proofs.YtbncodabchbpjaaW.PrintWords Go.Proofs.YtbncodabchbpjaaW.PrintLast

theorem wf_bd {a : Int} (h : (Lit.int .i64 a).wf = true) : -9223372036854775808 ≤ a ∧ a < 9223372036854775808 := by
  have := bounds_i64 h
  omega

theorem RowsOrder : curialaw6_RowsOrder.Pure := by
  intro a b wa wb
  have ha := wf_bd wa
  have hb := wf_bd wb
  refine ⟨10, ?_⟩
  unfold curialaw6_RowsOrder.f
  by_cases h1 : a < 0
  · rw [if_pos h1]; simp [curialaw6_RowsOrder.j0]
  rw [if_neg h1]
  by_cases h2 : b < 0
  · simp [curialaw6_RowsOrder.j0, h2]
  have e := Plain.num_less a b (by omega) (by omega) (by omega) (by omega)
  simp only [curialaw6_RowsOrder.j0, num_some _ 0, Option.bind_some, Lib.strOfNums_toList, e]
  simp [h2, Plain.numL, curialaw6_known.f]

end Go.Proofs.Ytbncodabchbpjaa.Pure
