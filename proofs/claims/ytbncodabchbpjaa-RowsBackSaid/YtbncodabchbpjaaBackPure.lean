/-
The law RowsBack in plain lists: it is true.
-/
import Derived.Test.YtbncodabchbpjaaPureBack
import Derived.Test.YtbncodabchbpjaaFnBack
namespace Go.Proofs.Ytbncodabchbpjaa.Fn
open Go.RowKit Go.Proofs.YtbncodabchbpjaaW.PrintWords Go.Proofs.YtbncodabchbpjaaW.PrintLast Go.Proofs.YtbncodabchbpjaaW.PrintMore

theorem and_mask (a : Int) : 0 ≤ Go.bits .and .i64 a 65535 := by
  have e2 : (BitVec.ofInt IntKind.i64.bits (65535 : Int)).toNat = 2 ^ 16 - 1 := by decide
  simp only [Go.bits, BitVec.toNat_and, e2, Nat.and_two_pow_sub_one_eq_mod]
  rw [IntKind.wrap_i64]
  omega

theorem RowsBack_some (l : List (List Int)) (cut more : Int) (hl : l.length ≤ 9223372036854775807) (hb : ∀ p ∈ l, ∀ x ∈ p, (Lit.int .u8 x).wf = true) (hm : (Lit.int .u8 more).wf = true) : ∃ k, curialaw6_RowsBack.f k l cut more = some true := by
  have hB : ∀ p ∈ l, By p := fun p hp => By_of (hb p hp)
  obtain ⟨q, hq⟩ : ∃ q : Nat, l.length + 1000 ≤ q := ⟨_, Nat.le_refl _⟩
  obtain ⟨r, hr⟩ := long_some l hl q (by omega)
  refine ⟨q, ?_⟩
  unfold curialaw6_RowsBack.f
  rw [hr]
  simp only [Option.bind_some]
  by_cases h1 : r = true
  · rw [if_pos h1]
  rw [if_neg h1, pack_some l _ (by omega), refPack_some l _ (by omega)]
  simp only [Option.bind_some]
  rcases packOf_two l with h | h
  · rw [h]
    simp [curialaw6_known.f]
  · obtain ⟨b, hp⟩ : ∃ b, packOf l = (b, 0) := ⟨(packOf l).1, Prod.ext rfl h⟩
    have h3 := packOf_By l hB
    have h4 := packOf_length l
    have hlen : l.length ≤ 60 := by
      by_cases h60 : (l.length : Int) > 60
      · rw [packOf_many l h60] at hp; simp at hp
      · omega
    rw [hp] at h3 h4 ⊢
    simp only at h3 h4 ⊢
    obtain ⟨hu, c, e, hce, _⟩ := unp_pack l b hp
    have hb0 : 0 < b.length := by rw [hce]; simp
    have hmask := and_mask cut
    obtain ⟨i, hi⟩ : ∃ i : Nat, Int.tmod (Go.bits .and .i64 cut 65535) (b.length : Int) = (i : Int) ∧ i < b.length := by
      rw [Int.tmod_eq_emod_of_nonneg hmask]
      have g1 := Int.emod_nonneg (Go.bits .and .i64 cut 65535) (show (b.length : Int) ≠ 0 by omega)
      have g2 := Int.emod_lt_of_pos (Go.bits .and .i64 cut 65535) (show 0 < (b.length : Int) by omega)
      exact ⟨(Go.bits .and .i64 cut 65535 % (b.length : Int)).toNat, by omega, by omega⟩
    have hmo : By (b ++ [more]) := fun x hx => by
      rcases List.mem_append.1 hx with hx | hx
      · exact h3 x hx
      · have hx' : x = more := by simpa using hx
        subst hx'
        have := bounds_u8 hm
        omega
    rw [if_pos trivial, if_neg (by omega), unpack_some b h3 (by omega) _ (by omega), hu, hi.1, Int.toNat_natCast]
    simp only [Option.bind_some]
    rw [if_pos (by omega), if_pos (by omega), unpack_some (b.take i) (h3.take i) (by rw [List.length_take]; omega) _ (by omega), unp_cut l b hp i hi.2]
    simp only [Option.bind_some, List.length_nil, Nat.zero_add, List.nil_append]
    rw [if_pos (by omega), if_pos (by omega), unpack_some (b ++ [more]) hmo (by rw [List.length_append]; simp; omega) _ (by omega), unp_more l b hp more]
    simp only [Option.bind_some]
    rw [if_pos trivial, same_some l (by omega) _ (by omega)]
    simp [curialaw6_known.f]

end Go.Proofs.Ytbncodabchbpjaa.Fn
