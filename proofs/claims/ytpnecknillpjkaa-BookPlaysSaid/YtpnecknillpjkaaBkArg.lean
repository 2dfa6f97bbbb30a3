import Derived.Test.YtpnecknillpjkaaRows
import Derived.Test.YtpnecknillpjkaaBkBase
import Derived.OpenShut
import Derived.ChangeOld
namespace Go.Proofs.Ytpnecknillpjkaa.Bk
open Go.ChangeShapes Go.WideShapes Go.RowKit

/-- A byte's number. -/
def byteOf : Value → Int | .int _ n => n | _ => 0

theorem okWide_27 {w : World} {r : Reach} {b : Nat} {v : Value} (h : Value.okWide Try.prog w r b 27 v) : ∃ cs, v = .agg cs := by
  simp only [Value.okWide, Try.underlying27] at h
  obtain ⟨cs, h1, _⟩ := h
  exact ⟨cs, h1⟩

/-- A Hash's cells, opened: thirty-two bytes. -/
theorem open_bytes32 {H : Type} {enc : TypeId × Value → H} {w : World} {base : Nat} {sp : Nat → Bool} {hd : Bool} {fuel : Nat} {cs : List Value} {x : DataW H × List MemPlace} (h : DataW.trod enc Try.prog w base sp hd fuel 27 cs = some x) :
    ∃ p : List Int, cs = pc p ∧ p.length = 32 ∧ ∀ n ∈ p, 0 ≤ n ∧ n ≤ 255 := by
  obtain ⟨xs, m, _, ex, hlen, hl, hel⟩ := DataW.trod_array Try.underlying27 h
  have c5 : Try.prog.cellsOf 5 = 1 := by kernel_rfl
  have c27 : Try.prog.cellsOf 27 = 32 := by kernel_rfl
  rw [c27] at hlen
  have hcell : ∀ i, i < 32 → ∃ n : Int, cs[i]? = some (.int .u8 n) ∧ (Lit.int .u8 n).wf = true := by
    intro i hi
    have hE := hel i hi
    rw [c5, Nat.mul_one, List.getElem?_eq_getElem (by omega)] at hE
    obtain ⟨z, e1, _, e3⟩ := DataW.trod_int Try.underlying5 hE
    refine ⟨z, ?_, e3⟩
    have h0 : ((cs.drop i).take 1)[0]? = some (.int .u8 z) := by rw [e1]; rfl
    simpa using h0
  refine ⟨cs.map byteOf, ?_, by simpa using hlen, ?_⟩
  · apply List.ext_getElem
    · simp [pc]
    · intro i h1 h2
      obtain ⟨n, hn, _⟩ := hcell i (by omega)
      rw [List.getElem?_eq_getElem h1, Option.some.injEq] at hn
      simp [pc, hn, byteOf]
  · intro n hn
    obtain ⟨v, hv, rfl⟩ := List.mem_map.1 hn
    obtain ⟨i, hi, rfl⟩ := List.getElem_of_mem hv
    obtain ⟨z, hz, hw⟩ := hcell i (by omega)
    rw [List.getElem?_eq_getElem hi, Option.some.injEq] at hz
    rw [hz]
    simp only [Lit.wf, IntKind.min, IntKind.max, IntKind.signed, IntKind.bits] at hw
    simp [byteOf] at hw ⊢
    omega

theorem open_hash {H : Type} {enc : TypeId × Value → H} {w : World} {base : Nat} {r : Reach} {b : Nat} {sp : Nat → Bool} {hd : Bool} {v : Value} {d : DataW H} {ps : List MemPlace} (hval : Value.okWide Try.prog w r b 27 v) (h : DataW.Trod enc Try.prog w base sp hd 27 v d ps) :
    ∃ p : List Int, v = .agg (papA p) ∧ p.length = 32 ∧ ∀ n ∈ p, 0 ≤ n ∧ n ≤ 255 := by
  obtain ⟨cs, rfl⟩ := okWide_27 hval
  obtain ⟨fuel, hf⟩ := h
  obtain ⟨p, h1, h2, h3⟩ := open_bytes32 hf
  refine ⟨p, ?_, h2, h3⟩
  have : cs = papA p := by
    apply Array.ext'
    simpa [papA, Value.cells] using h1
  rw [this]
end Go.Proofs.Ytpnecknillpjkaa.Bk
