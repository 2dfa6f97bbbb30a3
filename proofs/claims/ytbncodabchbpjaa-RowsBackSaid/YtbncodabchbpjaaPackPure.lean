/-
The law RowsPack in plain lists: it is true. No condition but the lists' own sizes.
-/
import Derived.Test.YtbncodabchbpjaaFnPackLaw
import Derived.Test.YtbncodabchbpjaaPurePack
namespace Go.Proofs.Ytbncodabchbpjaa.Fn
open Go.RowKit Go.Proofs.YtbncodabchbpjaaW.PrintWords Go.Proofs.YtbncodabchbpjaaW.PrintLast Go.Proofs.YtbncodabchbpjaaW.PrintMore

theorem long_loop (l : List (List Int)) (hl : l.length ≤ 9223372036854775807) : ∀ (m k i : Nat) (x : Int), l.length - i = m → i ≤ l.length → m < k → ∃ r, curialaw6_long.l0 k l x (i : Int) = some r := by
  intro m
  induction m with
  | zero =>
    intro k i x hm hi hk
    obtain ⟨k, rfl⟩ : ∃ q, k = q + 1 := ⟨k - 1, by omega⟩
    simp only [curialaw6_long.l0]
    rw [if_neg (by omega)]
    exact ⟨_, rfl⟩
  | succ m ih =>
    intro k i x hm hi hk
    obtain ⟨k, rfl⟩ : ∃ q, k = q + 1 := ⟨k - 1, by omega⟩
    have hw : wrap64 ((i : Int) + 1) = ((i + 1 : Nat) : Int) := by unfold wrap64; omega
    simp only [curialaw6_long.l0]
    rw [if_pos (by omega)]
    by_cases h : x ≤ 9000
    · rw [if_pos h, if_pos (by omega), hw]
      exact ih k (i + 1) _ (by omega) (by omega) (by omega)
    · rw [if_neg h]
      exact ⟨_, rfl⟩
theorem long_some (l : List (List Int)) (hl : l.length ≤ 9223372036854775807) (k : Nat) (hk : l.length < k) : ∃ r, curialaw6_long.f k l = some r :=
  long_loop l hl l.length k 0 0 (by omega) (by omega) hk

theorem refPack_loop (l : List (List Int)) (hl : l.length ≤ 60) : ∀ (m : Nat) (k i : Nat) (acc : List Int), l.length - i = m → i ≤ l.length → m < k → acc.length ≤ 1 + i * 2002 →
    curiaref6_Pack.l0 k l acc (i : Int) = match encs (l.drop i) with | none => some ([], 1) | some b => some (acc ++ b, 0) := by
  intro m
  induction m with
  | zero =>
    intro k i acc hm hi hk _
    obtain ⟨k, rfl⟩ : ∃ q, k = q + 1 := ⟨k - 1, by omega⟩
    obtain rfl : i = l.length := by omega
    simp only [curiaref6_Pack.l0]
    rw [if_neg (by omega), List.drop_length]
    simp [encs]
  | succ m ih =>
    intro k i acc hm hi hk hacc
    obtain ⟨k, rfl⟩ : ∃ q, k = q + 1 := ⟨k - 1, by omega⟩
    have hlt : i < l.length := by omega
    have hd : l.drop i = l[i] :: l.drop (i + 1) := List.drop_eq_getElem_cons hlt
    have hr : rd_L1 l (i : Int) = l[i] := by simp [rd_L1, List.getD_eq_getElem?_getD, List.getElem?_eq_getElem hlt]
    have hw : wrap64 ((i : Int) + 1) = ((i + 1 : Nat) : Int) := by unfold wrap64; omega
    simp only [curiaref6_Pack.l0]
    rw [if_pos (by omega), if_pos (by omega), hr, hd, encs]
    by_cases hp : (l[i].length : Int) > 2000
    · rw [if_pos hp, if_pos hp]
    · rw [if_neg hp, if_neg hp]
      simp only [Option.bind_some]
      rw [if_pos (by simp; omega), if_pos (by simp; omega), hw]
      have := ih k (i + 1) (acc ++ enc l[i]) (by omega) (by omega) (by omega) (by simp only [List.length_append, enc, List.length_cons, List.length_nil]; omega)
      have e : acc ++ [(l[i].length : Int) / 256 % 256, (l[i].length : Int) % 256] ++ l[i] = acc ++ enc l[i] := by simp [enc]
      rw [e, this]
      cases encs (l.drop (i + 1)) with
      | none => rfl
      | some b => simp

theorem refPack_some (l : List (List Int)) (k : Nat) (hk : l.length < k) : curiaref6_Pack.f k l = some (packOf l) := by
  unfold curiaref6_Pack.f packOf
  by_cases h : (l.length : Int) > 60
  · rw [if_pos h, if_pos h]
  · rw [if_neg h, if_neg h]
    have := refPack_loop l (by omega) l.length k 0 [(l.length : Int) % 256] (by omega) (by omega) hk (by simp)
    simp only [List.drop_zero] at this
    refine Eq.trans this ?_
    cases encs l with
    | none => rfl
    | some b => simp

theorem packLaw_some (l : List (List Int)) (hl : l.length ≤ 9223372036854775807) : curialaw6_RowsPack.f (l.length + 1) l = some true := by
  unfold curialaw6_RowsPack.f
  obtain ⟨r, hr⟩ := long_some l hl (l.length + 1) (by omega)
  rw [hr, pack_some l _ (by omega), refPack_some l _ (by omega)]
  simp [curialaw6_known.f]

end Go.Proofs.Ytbncodabchbpjaa.Fn
