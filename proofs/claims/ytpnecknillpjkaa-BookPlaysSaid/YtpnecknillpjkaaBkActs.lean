import Derived.Test.YtpnecknillpjkaaBkArg
import Derived.Deep.Slices
namespace Go.Proofs.Ytpnecknillpjkaa.Bk
open Go.ChangeShapes Go.WideShapes Go.RowKit Go.Deep

/-- An act: its kind, its epoch, its paper. -/
structure Actn where
  kind : Int
  epoch : Int
  paper : List Int
deriving Inhabited
def i64ok (x : Int) : Prop := -9223372036854775808 ≤ x ∧ x ≤ 9223372036854775807
/-- The cells of an act. -/
def actc (x : Actn) : List Value := .int .i64 x.kind :: .int .i64 x.epoch :: pc x.paper
structure ActOk (x : Actn) : Prop where
  kind : i64ok x.kind
  epoch : i64ok x.epoch
  len : x.paper.length = 32

theorem wf_i64 {n : Int} (h : (Lit.int .i64 n).wf = true) : i64ok n := by
  simp only [Lit.wf, IntKind.min, IntKind.max, IntKind.signed, IntKind.bits] at h
  simp at h
  unfold i64ok
  omega

/-- The acts of an argument: each one's cells, one act behind another. -/
structure ActsAt (W : World) (A : Option Addr) (l : List Actn) : Prop where
  ok : ∀ x ∈ l, ActOk x
  at_ : 0 < l.length → ∃ b o, A = some ⟨b, o, none⟩ ∧ b < W.heap.size ∧ ∀ i x, l[i]? = some x → W.rangeAt b (o + i * 34) (actc x)

theorem one_act {H : Type} {enc : TypeId × Value → H} {W : World} {base : Nat} {sp : Nat → Bool} {held : Bool} {n : Nat} {cs : List Value} {x : DataW H × List MemPlace} (h : DataW.trod enc Try.prog W base sp held n 43 cs = some x) : ∃ y, ActOk y ∧ cs = actc y := by
  obtain ⟨xs, m, _, _, hlen, hl, hf⟩ := DataW.trod_struct Try.underlying43 h
  have c3 : Try.prog.cellsOf 3 = 1 := by kernel_rfl
  have c27 : Try.prog.cellsOf 27 = 32 := by kernel_rfl
  have c43 : Try.prog.cellsOf 43 = 34 := by kernel_rfl
  rw [c43] at hlen
  have hl3 : xs.length = 3 := hl
  have g0 : DataW.trod enc Try.prog W base sp held m 3 ((cs.drop 0).take (Try.prog.cellsOf 3)) = xs[0]? := hf 0 _ rfl
  have g1 : DataW.trod enc Try.prog W base sp held m 3 ((cs.drop 1).take (Try.prog.cellsOf 3)) = xs[1]? := hf 1 _ rfl
  have g2 : DataW.trod enc Try.prog W base sp held m 27 ((cs.drop 2).take (Try.prog.cellsOf 27)) = xs[2]? := hf 2 _ rfl
  rw [c3, List.getElem?_eq_getElem (by omega)] at g0
  rw [c3, List.getElem?_eq_getElem (by omega)] at g1
  rw [c27, List.getElem?_eq_getElem (by omega)] at g2
  obtain ⟨k, e1, _, w1⟩ := DataW.trod_int Try.underlying3 g0
  obtain ⟨e, e2, _, w2⟩ := DataW.trod_int Try.underlying3 g1
  obtain ⟨p, e3, l3, _⟩ := open_bytes32 g2
  refine ⟨⟨k, e, p⟩, ⟨wf_i64 w1, wf_i64 w2, l3⟩, ?_⟩
  have d1 : cs = cs.take 1 ++ (cs.drop 1).take 1 ++ (cs.drop 2) := by
    rw [List.append_assoc]
    conv => lhs; rw [← List.take_append_drop 1 cs]
    congr 1
    conv => lhs; rw [← List.take_append_drop 1 (cs.drop 1)]
    rw [List.drop_drop]
  have d2 : (cs.drop 2).take 32 = cs.drop 2 := List.take_of_length_le (by simp; omega)
  rw [List.drop_zero] at e1
  rw [d2] at e3
  rw [d1, e1, e2, e3]
  rfl

theorem acts_arg {H : Type} {enc : TypeId × Value → H} {W : World} {base : Nat} {held : Bool} {a : Option Addr} {len cap : Nat} {d : DataW H} {ps : List MemPlace}
    (h : DataW.Trod enc Try.prog W base (fun _ => true) held 37 (.slice a len cap) d ps) : ∃ l : List Actn, l.length = len ∧ len ≤ cap ∧ ActsAt W a l := by
  obtain ⟨fuel, hf⟩ := h
  rcases open_slice Try.underlying37 hf with ⟨hcs, _⟩ | ⟨x, l, c, m, n, D, Pl, hcs, _, hl, hm, hmm, _, hr⟩
  · simp [Value.cells] at hcs
    obtain ⟨rfl, rfl, rfl⟩ := hcs
    exact ⟨[], rfl, Nat.le_refl _, ⟨(by simp), fun h => absurd h (by decide)⟩⟩
  · simp [Value.cells] at hcs
    obtain ⟨rfl, rfl, rfl⟩ := hcs
    have c43 : Try.prog.cellsOf 43 = 34 := by kernel_rfl
    rw [c43] at hr
    simp only [if_true] at hmm
    have each : ∀ i, i < len → ∃ y : Actn, ActOk y ∧ ∀ j v, (actc y)[j]? = some v → W.cell? ((x.add (i * 34)).add j) = some v := by
      intro i hi
      obtain ⟨cs', h1, h2⟩ := hr i (by omega)
      obtain ⟨y, hy, rfl⟩ := one_act h2
      obtain ⟨_, hlen, hcell⟩ := World.cells?_some h1
      refine ⟨y, hy, fun j v hv => ?_⟩
      have hj : j < 34 := by rw [← hlen]; exact (List.getElem?_eq_some_iff.1 hv).1
      rw [hcell j hj, hv]
    obtain ⟨f, hfs⟩ := choose_lt each
    refine ⟨(List.range len).map f, by simp, hl, ⟨?_, fun h0 => ?_⟩⟩
    · intro y hy
      obtain ⟨i, hi, rfl⟩ := List.mem_map.1 hy
      exact (hfs i (List.mem_range.1 hi)).1
    · obtain ⟨b, o, spot⟩ := x
      have hlen0 : 0 < len := by simpa using h0
      have hc0 := (hfs 0 hlen0).2 0 (.int .i64 (f 0).kind) rfl
      have hspot : spot = none := by simpa [Addr.add] using World.cell?_spot hc0
      subst hspot
      refine ⟨b, o, rfl, ?_, ?_⟩
      · have : W.cell? ⟨b, o, none⟩ = some (.int .i64 (f 0).kind) := by simpa [Addr.add] using hc0
        rcases Nat.lt_or_ge b W.heap.size with h' | h'
        · exact h'
        · simp [World.cell?, Array.getElem?_eq_none h'] at this
      · intro i y hy
        rw [List.getElem?_map] at hy
        have hi : i < len := by
          rcases Nat.lt_or_ge i len with h | h
          · exact h
          · rw [List.getElem?_eq_none (by simpa using h)] at hy
            simp at hy
        rw [List.getElem?_range hi] at hy
        simp only [Option.map_some, Option.some.injEq] at hy
        subst hy
        intro j v hv
        have := (hfs i hi).2 j v hv
        rw [add_add, add_plain] at this
        rw [show o + i * 34 + j = o + (i * 34 + j) by omega]
        exact this
end Go.Proofs.Ytpnecknillpjkaa.Bk
