/-
The laws RowsTake, RowsOne and RowsOwn in plain lists: they are true.
-/
import Derived.Test.YtbncodabchbpjaaPureUnpack
import Derived.Test.YtbncodabchbpjaaFnTake
import Derived.OpenShut
namespace Go.Proofs.Ytbncodabchbpjaa.Fn
open Go.RowKit Go.Proofs.YtbncodabchbpjaaW.PrintWords Go.Proofs.YtbncodabchbpjaaW.PrintLast Go.Proofs.YtbncodabchbpjaaW.PrintMore

theorem By_of {l : List Int} (h : ∀ x ∈ l, (Lit.int .u8 x).wf = true) : By l := fun x hx => by
  have := bounds_u8 (h x hx)
  omega

theorem RowsTake_some : curialaw6_RowsTake.Pure := by
  intro b hmax hsz hb0
  have hb := By_of hb0
  refine ⟨600, ?_⟩
  unfold curialaw6_RowsTake.f
  by_cases h : (b.length : Int) > 5000
  · rw [if_pos h]
  rw [if_neg h]
  simp only [Option.bind_some, List.length_nil, Nat.zero_add, List.nil_append]
  rw [if_pos (by omega), unpack_some b hb (by omega) 600 (by omega), refUnpack_some b hb (by omega) 600 (by omega)]
  simp only [Option.bind_some]
  have := unpOf_length b hb
  rw [same_some _ (by omega) 600 (by omega)]
  simp [curialaw6_known.f]

end Go.Proofs.Ytbncodabchbpjaa.Fn
