import Derived.Test.YtbncodabchbpjaaNumsWalk
import Derived.OpenShut
namespace Go.Proofs.Ytbncodabchbpjaa.Pure
open Go.RowKit Go.Proofs.Ytbncodabchbpjaa.Fn Go.Proofs.YtbncodabchbpjaaW.PrintWords Go.Proofs.YtbncodabchbpjaaW.PrintLast

theorem RowsNums : curialaw6_RowsNums.Pure := by
  intro n b wn hmax _ hb
  have hn := bounds_i64 wn
  have hb' : ∀ x ∈ b, 0 ≤ x ∧ x < 256 := fun x hx => by
    have := bounds_u8 (hb x hx)
    omega
  unfold maxLen at hmax
  refine ⟨max 21 (b.length + 1) , ?_⟩
  unfold curialaw6_RowsNums.f
  by_cases h : (b.length : Int) > 20
  · rw [if_pos h]
  rw [if_neg h]
  have hk : max 21 (b.length + 1) = 12 + 9 := by omega
  rw [hk]
  rw [toNum_some b hb' (by omega) _ (by omega), refToNum_some b hb' _ (by omega), num_some]
  simp only [Option.bind_some]
  rw [toNum_some (Plain.numL n) (Plain.numL_bd n) (by simp [Plain.numL]) _ (by simp [Plain.numL]), refNum_some, toNum_num n (by omega)]
  simp only [Option.bind_some, curialaw6_known.f]
  by_cases h0 : n < 0
  · have e : decide (n ≥ 0) = false := by simp; omega
    simp [h0, e]
  · have e : decide (n ≥ 0) = true := by simp; omega
    simp [h0, e]

end Go.Proofs.Ytbncodabchbpjaa.Pure
