/-
What rows.ToNum and the document's ToNum and Num compute, in plain lists. No condition but that bytes are bytes.
-/
import Derived.Test.YtbncodabchbpjaaFnToNum
import Derived.Test.YtbncodabchbpjaaPlainNum
import Derived.Laws.BitsLemmas
namespace Go.Proofs.Ytbncodabchbpjaa.Fn
open Go.RowKit Go.Proofs.YtbncodabchbpjaaW.PrintWords Go.Proofs.YtbncodabchbpjaaW.PrintLast Go.Proofs.YtbncodabchbpjaaW.PrintMore
open Go.Proofs.Ytbncodabchbpjaa.Plain

theorem val_snoc (c : Int) : ∀ a : List Int, val (a ++ [c]) = val a * 256 + c
  | [] => by simp [val]
  | x :: a => by
    simp only [List.cons_append, val, val_snoc c a, List.length_append, List.length_cons, List.length_nil, Nat.zero_add, Int.pow_succ]
    rw [Int.add_mul, ← Int.mul_assoc]
    omega

theorem or_byte (x c : Int) (h0 : 0 ≤ c) (h1 : c < 256) : Go.bits .or .i64 (wrap64 (x * 256)) (wrap64 c) = wrap64 (x * 256 + c) := by
  have hc : wrap64 c = c := by unfold wrap64; omega
  rw [hc]
  obtain ⟨n, rfl⟩ := Int.eq_ofNat_of_zero_le h0
  have hn : n < 2 ^ 8 := by omega
  have e1 : (BitVec.ofInt IntKind.i64.bits (wrap64 (x * 256))).toNat = 2 ^ 8 * (x % 72057594037927936).toNat := by
    rw [BitVec.toNat_ofInt]
    show ((wrap64 (x * 256)) % ((2 ^ 64 : Nat) : Int)).toNat = _
    unfold wrap64
    omega
  have e2 : (BitVec.ofInt IntKind.i64.bits (n : Int)).toNat = n := by
    rw [BitVec.toNat_ofInt]
    show ((n : Int) % ((2 ^ 64 : Nat) : Int)).toNat = _
    omega
  simp only [Go.bits, BitVec.toNat_or, e1, e2]
  rw [← Nat.two_pow_add_eq_or_of_lt hn, IntKind.wrap_i64]
  unfold wrap64
  omega

theorem rd_get (l : List Int) (i : Nat) (h : i < l.length) : rd l (i : Int) = l[i] := by
  simp [rd, List.getD_eq_getElem?_getD, List.getElem?_eq_getElem h]
theorem val_take (l : List Int) (i : Nat) (h : i < l.length) : val (l.take (i + 1)) = val (l.take i) * 256 + l[i] := by
  rw [List.take_succ_eq_append_getElem h, val_snoc]
theorem step_eq (l : List Int) (hb : ∀ x ∈ l, 0 ≤ x ∧ x < 256) (i : Nat) (h : i < l.length) :
    Go.bits .or .i64 (wrap64 (wrap64 (val (l.take i)) * 256)) (wrap64 (rd l (i : Int))) = wrap64 (val (l.take (i + 1))) := by
  have hx := hb l[i] (List.getElem_mem h)
  rw [rd_get l i h, or_byte _ _ hx.1 hx.2, val_take l i h]
  generalize val (l.take i) = v
  generalize l[i] = c at *
  unfold wrap64
  omega

theorem take_none (l : List Int) : wrap64 (val (l.take 0)) = 0 := by simp [val, wrap64]

/-- What ToNum answers. -/
def toNumOf (l : List Int) : Int × Bool := if (l.length : Int) = 8 then (if wrap64 (val l) < 0 then (0, false) else (wrap64 (val l), true)) else (0, false)

theorem toNum_loop (l : List Int) (hb : ∀ x ∈ l, 0 ≤ x ∧ x < 256) (hl : l.length ≤ 4611686018427387904) : ∀ (m k i : Nat), l.length - i = m → i ≤ l.length → m < k →
    rows_ToNum.l0 k l (wrap64 (val (l.take i))) l (l.length : Int) (i : Int) = some (toNumOf l) := by
  intro m
  induction m with
  | zero =>
    intro k i hm hi hk
    obtain ⟨k, rfl⟩ : ∃ q, k = q + 1 := ⟨k - 1, by omega⟩
    obtain rfl : i = l.length := by omega
    simp only [rows_ToNum.l0]
    rw [if_neg (by omega), List.take_length]
    unfold toNumOf
    split
    · split <;> rfl
    · rfl
  | succ m ih =>
    intro k i hm hi hk
    obtain ⟨k, rfl⟩ : ∃ q, k = q + 1 := ⟨k - 1, by omega⟩
    have hlt : i < l.length := by omega
    have hw : wrap64 ((i : Int) + 1) = ((i + 1 : Nat) : Int) := by unfold wrap64; omega
    simp only [rows_ToNum.l0]
    rw [if_pos (by omega), if_pos (by omega), if_pos (by omega), step_eq l hb i hlt, hw]
    exact ih k (i + 1) (by omega) (by omega) (by omega)

theorem toNum_some (l : List Int) (hb : ∀ x ∈ l, 0 ≤ x ∧ x < 256) (hl : l.length ≤ 4611686018427387904) (k : Nat) (hk : l.length < k) : rows_ToNum.f k l = some (toNumOf l) := by
  have := toNum_loop l hb hl l.length k 0 (by omega) (by omega) hk
  rw [take_none] at this
  exact this

theorem refToNum_loop (l : List Int) (hb : ∀ x ∈ l, 0 ≤ x ∧ x < 256) (hl : l.length = 8) : ∀ (m k i : Nat), 8 - i = m → i ≤ 8 → m < k →
    curiaref6_ToNum.l0 k l (wrap64 (val (l.take i))) (i : Int) = some (wrap64 (val l), true) := by
  intro m
  induction m with
  | zero =>
    intro k i hm hi hk
    obtain ⟨k, rfl⟩ : ∃ q, k = q + 1 := ⟨k - 1, by omega⟩
    obtain rfl : i = 8 := by omega
    simp only [curiaref6_ToNum.l0]
    rw [if_neg (by omega), ← hl, List.take_length]
  | succ m ih =>
    intro k i hm hi hk
    obtain ⟨k, rfl⟩ : ∃ q, k = q + 1 := ⟨k - 1, by omega⟩
    have hlt : i < l.length := by omega
    have hw : wrap64 ((i : Int) + 1) = ((i + 1 : Nat) : Int) := by unfold wrap64; omega
    simp only [curiaref6_ToNum.l0]
    rw [if_pos (by omega), if_pos (by omega), if_pos (by omega), step_eq l hb i hlt, hw]
    exact ih k (i + 1) (by omega) (by omega) (by omega)

theorem refToNum_some (l : List Int) (hb : ∀ x ∈ l, 0 ≤ x ∧ x < 256) (k : Nat) (hk : 10 < k) : curiaref6_ToNum.f k l = some (toNumOf l) := by
  obtain ⟨k, rfl⟩ : ∃ q, k = q + 1 := ⟨k - 1, by omega⟩
  unfold curiaref6_ToNum.f toNumOf
  by_cases h8 : (l.length : Int) = 8
  · rw [if_pos h8, if_pos h8, if_pos (by omega)]
    match l, h8, hb with
    | x :: l, h8, hb =>
      have hx := hb x (List.mem_cons_self ..)
      have hl : l.length = 7 := by simp at h8; omega
      have b := val_bd l (fun y hy => hb y (List.mem_cons_of_mem _ hy))
      rw [hl] at b
      have e : rd (x :: l) 0 = x := rfl
      have ev : val (x :: l) = x * 256 ^ 7 + val l := by simp only [val, hl]
      rw [e]
      simp only [curiaref6_ToNum.j0]
      have lp := refToNum_loop (x :: l) hb (by simp [hl]) 8 k 0 (by omega) (by omega) (by omega)
      by_cases hg : x ≥ 128
      · rw [decide_eq_true hg, if_pos rfl, if_pos (by rw [ev]; unfold wrap64; omega)]
      · rw [decide_eq_false hg, if_neg (by decide), if_neg (by rw [ev]; unfold wrap64; omega)]
        rw [take_none] at lp
        exact lp
  · rw [if_neg h8, if_neg h8]
    simp [curiaref6_ToNum.j0]

theorem refNum_some (n : Int) (k : Nat) : curiaref6_Num.f (k + 9) n = some (numL n) := by
  simp [curiaref6_Num.f, curiaref6_Num.l0, wrap64, shr, numL, IntKind.bits, IntKind.wrap, IntKind.signed]

theorem toNum_num (n : Int) (h : -9223372036854775808 ≤ n ∧ n < 9223372036854775808) : toNumOf (numL n) = if n < 0 then (0, false) else (n, true) := by
  have e : wrap64 (val (numL n)) = n := by
    simp only [numL, val, List.length_cons, List.length_nil]
    unfold wrap64
    omega
  unfold toNumOf
  rw [if_pos (by simp [numL]), e]

end Go.Proofs.Ytbncodabchbpjaa.Fn
