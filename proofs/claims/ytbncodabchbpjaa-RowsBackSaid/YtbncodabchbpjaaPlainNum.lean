/-
Plain mathematics about numbers as eight bytes: the bytes' order is the numbers' order. No condition.
-/
import Derived.Lib.Bytes
namespace Go.Proofs.Ytbncodabchbpjaa.Plain
open Go Go.Lib

def val : List Int → Int
  | [] => 0
  | x :: l => x * 256 ^ l.length + val l

theorem val_bd : ∀ l : List Int, (∀ x ∈ l, 0 ≤ x ∧ x < 256) → 0 ≤ val l ∧ val l < 256 ^ l.length
  | [], _ => by simp [val]
  | x :: l, h => by
    have ih := val_bd l (fun y hy => h y (List.mem_cons_of_mem _ hy))
    have hx := h x (List.mem_cons_self ..)
    have hp : (0 : Int) < 256 ^ l.length := Int.pow_pos (by decide)
    have e : (256 : Int) ^ (x :: l).length = 256 * 256 ^ l.length := by rw [List.length_cons, Int.pow_succ, Int.mul_comm]
    rw [e]
    simp only [val]
    have h1 : 0 ≤ x * 256 ^ l.length := Int.mul_nonneg hx.1 (Int.le_of_lt hp)
    have h2 : x * 256 ^ l.length ≤ 255 * 256 ^ l.length := Int.mul_le_mul_of_nonneg_right (by omega) (Int.le_of_lt hp)
    omega

theorem byte_lt {x y : Int} (hx : 0 ≤ x ∧ x < 256) (hy : 0 ≤ y ∧ y < 256) : (UInt8.ofNat x.toNat < UInt8.ofNat y.toNat) ↔ x < y := by
  rw [UInt8.lt_iff_toNat_lt, UInt8.toNat_ofNat', UInt8.toNat_ofNat']
  omega
theorem byte_eq {x y : Int} (hx : 0 ≤ x ∧ x < 256) (hy : 0 ≤ y ∧ y < 256) : (UInt8.ofNat x.toNat = UInt8.ofNat y.toNat) ↔ x = y := by
  constructor
  · intro h
    have := congrArg UInt8.toNat h
    rw [UInt8.toNat_ofNat', UInt8.toNat_ofNat'] at this
    omega
  · rintro rfl; rfl

theorem less_val : ∀ l m : List Int, l.length = m.length → (∀ x ∈ l, 0 ≤ x ∧ x < 256) → (∀ x ∈ m, 0 ≤ x ∧ x < 256) → Op.bytesLess (bytesOf l) (bytesOf m) = decide (val l < val m)
  | [], [], _, _, _ => by simp [Op.bytesLess, bytesOf, val]
  | [], _ :: _, h, _, _ => by simp at h
  | _ :: _, [], h, _, _ => by simp at h
  | x :: l, y :: m, h, hl, hm => by
    have hlen : l.length = m.length := by simpa using h
    have hl' : ∀ x ∈ l, 0 ≤ x ∧ x < 256 := fun z hz => hl z (List.mem_cons_of_mem _ hz)
    have hm' : ∀ x ∈ m, 0 ≤ x ∧ x < 256 := fun z hz => hm z (List.mem_cons_of_mem _ hz)
    have ih := less_val l m hlen hl' hm'
    have hx := hl x (List.mem_cons_self ..)
    have hy := hm y (List.mem_cons_self ..)
    have b1 := val_bd l hl'
    have b2 := val_bd m hm'
    rw [← hlen] at b2
    show Op.bytesLess (UInt8.ofNat x.toNat :: bytesOf l) (UInt8.ofNat y.toNat :: bytesOf m) = _
    rw [Bool.eq_iff_iff]
    simp only [Op.bytesLess, ih, val, ← hlen]
    generalize (256 : Int) ^ l.length = p at *
    simp only [Bool.or_eq_true, Bool.and_eq_true, decide_eq_true_eq, beq_iff_eq, byte_lt hx hy, byte_eq hx hy]
    constructor
    · rintro (h | ⟨rfl, h⟩)
      · have h1 : (x + 1) * p ≤ y * p := Int.mul_le_mul_of_nonneg_right (by omega) (by omega)
        rw [Int.add_mul] at h1
        omega
      · omega
    · intro h
      rcases Int.lt_trichotomy x y with hlt | heq | hgt
      · exact Or.inl hlt
      · subst heq
        exact Or.inr ⟨rfl, by omega⟩
      · have h1 : (y + 1) * p ≤ x * p := Int.mul_le_mul_of_nonneg_right (by omega) (by omega)
        rw [Int.add_mul] at h1
        omega

def numL (n : Int) : List Int := [n / 2^56 % 256, n / 2^48 % 256, n / 2^40 % 256, n / 2^32 % 256, n / 2^24 % 256, n / 2^16 % 256, n / 2^8 % 256, n % 256]

theorem numL_bd (n : Int) : ∀ x ∈ numL n, 0 ≤ x ∧ x < 256 := by
  intro x hx
  simp only [numL, List.mem_cons, List.not_mem_nil, or_false] at hx
  rcases hx with rfl | rfl | rfl | rfl | rfl | rfl | rfl | rfl <;> omega

theorem val_numL (n : Int) (h0 : 0 ≤ n) (h : n < 2 ^ 63) : val (numL n) = n := by
  simp only [numL, val, List.length_cons, List.length_nil]
  omega

theorem num_less (a b : Int) (ha : 0 ≤ a) (ha' : a < 2 ^ 63) (hb : 0 ≤ b) (hb' : b < 2 ^ 63) : Op.bytesLess (bytesOf (numL a)) (bytesOf (numL b)) = decide (a < b) := by
  rw [less_val (numL a) (numL b) rfl (numL_bd a) (numL_bd b), Bool.eq_iff_iff]
  simp only [decide_eq_true_eq]
  rw [val_numL a ha ha', val_numL b hb hb']

end Go.Proofs.Ytbncodabchbpjaa.Plain
