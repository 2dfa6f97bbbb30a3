/-
The argument [][]byte of a law, read as rows of numbers.
-/
import Derived.Test.YtbncodabchbpjaaFnAid
import Derived.Deep.Matrix
import Derived.ProofKit
namespace Go.Proofs.Ytbncodabchbpjaa.Fn
open Go.RowKit Go.Deep Go.Proofs.YtbncodabchbpjaaW.PrintWords Go.Proofs.YtbncodabchbpjaaW.PrintLast Go.Proofs.YtbncodabchbpjaaW.PrintMore

theorem C_ints_at {w : World} {A : Option Addr} {k : IntKind} {xs : List Int} (hm : xs.length ≤ 9223372036854775807)
    (hc : 0 < xs.length → ∃ ad, A = some ad ∧ ∀ i x, xs[i]? = some x → w.cell? (ad.add i) = some (.int k x)) : (Kd.int k).C w A xs.length xs := by
  refine ⟨rfl, hm, fun h => ?_⟩
  obtain ⟨ad, e, hc⟩ := hc h
  refine ⟨ad, e, fun j p hj => ⟨[.int k p], rfl, rfl, fun i u hi => ?_⟩⟩
  match i with
  | 0 =>
    simp at hi
    subst hi
    have : (Kd.int k).sz = 1 := rfl
    rw [this, Nat.mul_one, Nat.add_zero]
    exact hc j p hj
  | i + 1 => simp at hi
theorem C_rows_at {w : World} {A : Option Addr} {e : Nat} {k : IntKind} {l : List (List Int)} (hm : l.length ≤ 9223372036854775807)
    (hc : 0 < l.length → ∃ ad, A = some ad ∧ ∀ i xs, l[i]? = some xs → ∃ B c, w.cell? (ad.add i) = some (.slice B xs.length c) ∧ xs.length ≤ c ∧ (Kd.int k).C w B xs.length xs) : (Kd.slice e (Kd.int k)).C w A l.length l := by
  refine ⟨rfl, hm, fun h => ?_⟩
  obtain ⟨ad, ea, hc⟩ := hc h
  refine ⟨ad, ea, fun j p hj => ?_⟩
  obtain ⟨B, c, h1, h2, h3⟩ := hc j p hj
  refine ⟨[.slice B p.length c], rfl, ⟨B, c, rfl, h2, h3⟩, fun i u hi => ?_⟩
  match i with
  | 0 =>
    simp at hi
    subst hi
    have : (Kd.slice e (Kd.int k)).sz = 1 := rfl
    rw [this, Nat.mul_one, Nat.add_zero]
    exact h1
  | i + 1 => simp at hi

theorem rows_arg {H : Type} {enc : TypeId × Value → H} {W : World} {base : Nat} {held : Bool} {a : Option Addr} {len cap : Nat} {d : DataW H} {ps : List MemPlace}
    (h : DataW.Trod enc Try.prog W base (fun _ => true) held 22 (.slice a len cap) d ps) :
    ∃ l : List (List Int), l.length = len ∧ len ≤ cap ∧ len ≤ 9223372036854775807 ∧ (Kd.slice 5 (Kd.int .u8)).C W a l.length l ∧ ∀ p ∈ l, ∀ x ∈ p, (Lit.int .u8 x).wf = true := by
  obtain ⟨fuel, hf⟩ := h
  rcases open_int_rows Try.underlying22 Try.underlying24 Try.underlying5 (by kernel_rfl) (by kernel_rfl) hf with ⟨hcs, _⟩ | ⟨x, l, c, A, L, C, Z, hcs, _, hl, hm, _, hr⟩
  · simp [Value.cells] at hcs
    obtain ⟨rfl, rfl, rfl⟩ := hcs
    exact ⟨[], rfl, Nat.le_refl _, by decide, C_rows_at (by decide) (fun h => absurd h (by decide)), by simp⟩
  · simp [Value.cells] at hcs
    obtain ⟨rfl, rfl, rfl⟩ := hcs
    have hlen : ((List.range len).map fun r => (Z r).take (L r)).length = len := by simp
    have hmax : len ≤ 9223372036854775807 := by unfold maxLen at hm; omega
    refine ⟨(List.range len).map fun r => (Z r).take (L r), hlen, hl, hmax, C_rows_at (by rw [hlen]; exact hmax) (fun _ => ⟨x, rfl, fun i xs hi => ?_⟩), fun p hp y hy => ?_⟩
    · rw [List.getElem?_map] at hi
      have hil : i < len := by
        rcases Nat.lt_or_ge i len with h | h
        · exact h
        · rw [List.getElem?_eq_none (by simpa using h)] at hi
          exact absurd hi (by simp)
      rw [List.getElem?_range hil] at hi
      simp only [Option.map_some, Option.some.injEq] at hi
      subst hi
      obtain ⟨h1, h2, h3, h4, h5, h6, h7⟩ := hr i (by omega)
      have e : ((Z i).take (L i)).length = L i := by rw [List.length_take, h4]; omega
      refine ⟨A i, C i, by rw [e]; exact h1, by rw [e]; exact h2, C_ints_at (by rw [e]; unfold maxLen at h3; omega) fun h0 => ?_⟩
      rw [e] at h0
      cases hA : A i with
      | none => have := h6 hA; omega
      | some a' =>
        refine ⟨a', rfl, fun j y hj => ?_⟩
        rw [List.getElem?_take] at hj
        by_cases hjl : j < L i
        · rw [if_pos hjl] at hj
          have := (h7 a' hA).2 j (by omega)
          rw [List.getD_eq_getElem?_getD, hj] at this
          exact this
        · rw [if_neg hjl] at hj
          exact absurd hj (by simp)
    · simp only [List.mem_map, List.mem_range] at hp
      obtain ⟨r, hrl, rfl⟩ := hp
      exact (hr r (by omega)).2.2.2.2.1 y (List.mem_of_mem_take hy)

end Go.Proofs.Ytbncodabchbpjaa.Fn
