/-
What rows.Pack computes, in plain lists: the bytes of rows, or a refusal. No condition.
-/
import Derived.Test.YtbncodabchbpjaaFnPack
namespace Go.Proofs.Ytbncodabchbpjaa.Fn
open Go.RowKit Go.Proofs.YtbncodabchbpjaaW.PrintWords Go.Proofs.YtbncodabchbpjaaW.PrintLast Go.Proofs.YtbncodabchbpjaaW.PrintMore

/-- One row as bytes. -/
def enc (p : List Int) : List Int := [(p.length : Int) / 256 % 256, (p.length : Int) % 256] ++ p
/-- Rows one behind the other, or none where one is too long. -/
def encs : List (List Int) → Option (List Int)
  | [] => some []
  | p :: l => if (p.length : Int) > 2000 then none else (encs l).map fun b => enc p ++ b
def packOf (l : List (List Int)) : List Int × Int :=
  if (l.length : Int) > 60 then ([], 1) else
  match encs l with
  | none => ([], 1)
  | some b => ((l.length : Int) % 256 :: b, 0)

theorem encs_len : ∀ {l : List (List Int)} {b : List Int}, encs l = some b → b.length ≤ l.length * 2002
  | [], b, h => by simp [encs] at h; subst h; simp
  | p :: l, b, h => by
    unfold encs at h
    by_cases hp : (p.length : Int) > 2000
    · rw [if_pos hp] at h; exact absurd h (by simp)
    · rw [if_neg hp] at h
      cases hb : encs l with
      | none => rw [hb] at h; exact absurd h (by simp)
      | some b' =>
        rw [hb] at h
        have := encs_len hb
        simp only [Option.map_some, Option.some.injEq] at h
        subst h
        simp only [List.length_append, enc, List.length_cons, List.length_nil]
        omega

theorem pack_loop (l : List (List Int)) (hl : l.length ≤ 60) : ∀ (m : Nat) (k i : Nat) (acc : List Int), l.length - i = m → i ≤ l.length → m < k → acc.length ≤ 1 + i * 2002 →
    rows_Pack.l0 k acc l (l.length : Int) (i : Int) = match encs (l.drop i) with | none => some ([], 1) | some b => some (acc ++ b, 0) := by
  intro m
  induction m with
  | zero =>
    intro k i acc hm hi hk _
    obtain ⟨k, rfl⟩ : ∃ q, k = q + 1 := ⟨k - 1, by omega⟩
    obtain rfl : i = l.length := by omega
    simp only [rows_Pack.l0]
    rw [if_neg (by omega), List.drop_length]
    simp [encs]
  | succ m ih =>
    intro k i acc hm hi hk hacc
    obtain ⟨k, rfl⟩ : ∃ q, k = q + 1 := ⟨k - 1, by omega⟩
    have hlt : i < l.length := by omega
    have hd : l.drop i = l[i] :: l.drop (i + 1) := List.drop_eq_getElem_cons hlt
    have hr : rd_L1 l (i : Int) = l[i] := by simp [rd_L1, List.getD_eq_getElem?_getD, List.getElem?_eq_getElem hlt]
    have hw : wrap64 ((i : Int) + 1) = ((i + 1 : Nat) : Int) := by unfold wrap64; omega
    simp only [rows_Pack.l0]
    rw [if_pos (by omega), if_pos (by omega), if_pos (by omega), hr, hd, encs]
    by_cases hp : (l[i].length : Int) > 2000
    · rw [if_pos hp, if_pos hp]
    · rw [if_neg hp, if_neg hp]
      simp only [Option.bind_some]
      rw [if_pos (by simp; omega), if_pos (by simp; omega), hw]
      have := ih k (i + 1) (acc ++ enc l[i]) (by omega) (by omega) (by omega) (by simp only [List.length_append, enc, List.length_cons, List.length_nil]; omega)
      have e : acc ++ [(l[i].length : Int) / 256 % 256, (l[i].length : Int) % 256] ++ l[i] = acc ++ enc l[i] := by simp [enc]
      rw [e, this]
      cases encs (l.drop (i + 1)) with
      | none => rfl
      | some b => simp

theorem pack_some (l : List (List Int)) (k : Nat) (hk : l.length < k) : rows_Pack.f k l = some (packOf l) := by
  unfold rows_Pack.f packOf
  by_cases h : (l.length : Int) > 60
  · rw [if_pos h, if_pos h]
  · rw [if_neg h, if_neg h]
    have := pack_loop l (by omega) l.length k 0 [(l.length : Int) % 256] (by omega) (by omega) hk (by simp)
    simp only [List.drop_zero] at this
    refine Eq.trans this ?_
    cases encs l with
    | none => rfl
    | some b => simp

end Go.Proofs.Ytbncodabchbpjaa.Fn
