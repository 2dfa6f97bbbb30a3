import Derived.Test.YtpnecknillpjkaaBkHolds
import Derived.Maps.AppendAt
import Derived.Deep.AppendLies
namespace Go.Proofs.Ytpnecknillpjkaa.Bk
open Go.RowKit

theorem info59z : (Try.prog.info? 59).map (fun i => (i.zero, i.size, i.bytes)) = some (some (.agg (enA (0, zeros))), 33, 40) := by kernel_rfl
theorem rc_one (es : List (Int × List Int)) : ∀ v ∈ rc es, v.oneCell' = true := by
  intro v hv
  simp only [rc, List.mem_flatMap, ec, List.mem_cons] at hv
  obtain ⟨x, _, rfl | h⟩ := hv
  · rfl
  · exact papA_one _ v h

/-- A slice value that holds these entries, in memory of its own. -/
def Own (w : World) (base : Nat) (v : Value) (es : List (Int × List Int)) : Prop := w.ownsRow base 59 33 v es.length (rc es)

theorem Own.reads {w : World} {base : Nat} {v : Value} {es : List (Int × List Int)} (h : Own w base v es) : ∃ A c, v = .slice A es.length c ∧ es.length ≤ c ∧ Reads w A es := by
  unfold Own at h
  rcases h.2 with ⟨rfl, h0⟩ | ⟨g, cap, cur, rfl, hb, hg, hn, hm, hs, ht⟩
  · exact ⟨none, 0, by rw [h0], by omega, fun h => by omega⟩
  · refine ⟨_, cap, rfl, hn, fun _ => ⟨g, 0, rfl, (Array.getElem?_eq_some_iff.1 hg).1, fun j v hv => ?_⟩⟩
    have hj : j < (rc es).length := (List.getElem?_eq_some_iff.1 hv).1
    rw [h.1] at hj
    rw [Nat.zero_add, h.cellAt j hj]
    exact hv

theorem info_parts59 : ∃ i, Try.prog.info? 59 = some i ∧ i.zero = some (.agg (enA (0, zeros))) ∧ i.size = 33 ∧ i.bytes = 40 := by
  obtain ⟨i, hi, h0, h1, h2⟩ := info_parts info59z
  exact ⟨i, hi, h0, h1, h2⟩
theorem zero_size : (Value.agg (enA (0, zeros))).cells.size = 33 := by simp [Value.cells, enA, ec, pc, zeros]

set_option maxRecDepth 100000 in
theorem clone_calls (A : Option Addr) (n c : Nat) (es : List (Int × List Int)) (w : World) (hn : es.length = n) (hm : n ≤ 100) (hk : Ok32 es) (hr : Reads w A es) :
    Calls Try.prog 25 #[.slice A n c] w fun r w' => ∃ v, r = .returned v ∧ Own w' w.heap.size v es ∧ Below w.heap.size w w' := by
  have hq := fun (w : World) => Lib.run_eql_slice_nil (P := Try.prog) (w := w) 50 59 A n c 0 0 Try.underlying50
  cases A with
  | none =>
    have he : es = [] := by
      rcases Nat.eq_zero_or_pos es.length with h | h
      · exact List.eq_nil_of_length_eq_zero h
      · obtain ⟨b, o, e, _⟩ := hr h
        exact absurd e (by simp)
    subst he
    clear hr hk hm
    go_enter Try.func25, Try.ntmps25
    go_wp2
    go_ret
    exact ⟨_, rfl, World.ownsRow_nil _ _ _ _, Below.refl _ _⟩
  | some ad =>
    obtain ⟨i0, hi, hz0, hz1, hz2⟩ := info_parts59
    have hown : (w.alloc (.cells #[] 59)).ownsRow w.heap.size 59 33 (.slice (some ⟨w.heap.size, 0, none⟩) 0 0) 0 [] := World.ownsRow_lit w #[] 0 (Nat.le_refl _) (by unfold maxLen; omega) rfl
    have hnews : ∀ j u, (rc es)[j]? = some u → (w.alloc (.cells #[] 59)).cell? (ad.add j) = some u := fun j u hu => by
      rcases Nat.eq_zero_or_pos es.length with h | h
      · have : es = [] := List.eq_nil_of_length_eq_zero h
        subst this
        simp [rc] at hu
      · obtain ⟨b, o, e, hlt, hrg⟩ := hr h
        injection e with e
        subst e
        rw [Addr.add_mid, World.cell?_alloc_past _ _ _ hlt]
        exact hrg j u hu
    have HO := Lib.hid hown
    have HN := Lib.hid hnews
    have HL : Hid ((rc es).length = n * 33) := by show _ = _; rw [rc_len hk, hn]
    clear hown hnews hr hk
    go_enter Try.func25, Try.ntmps25
    go_wp2_with (at_builtin; refine wpList_append_own_at _ rfl (.tmp 5) (.tmp 6) 50 rfl w.heap.size 59 i0 (.agg (enA (0, zeros))) 33 40 Try.underlying50 hi hz0 hz1 hz2 zero_size (by omega) (.slice (some ⟨w.heap.size, 0, none⟩) 0 0) 0 [] rfl HO.out ad n c (rc es) rfl HL.out HN.out (rc_one es) (by unfold maxLen; omega) (by omega) (by simp) ?_; intro v' w1 hown1 hgrow hnil hat)
    go_ret
    refine ⟨_, rfl, ?_, ?_⟩
    · unfold Own
      rw [hn]
      simpa using hown1
    · exact ((Below.refl _ _).alloc (Nat.le_refl _) _).grown hgrow (by simp) (fun k h => by simp [Value.ownBlock] at h; omega)
end Go.Proofs.Ytpnecknillpjkaa.Bk
