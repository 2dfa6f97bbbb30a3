import Derived.Test.YtpnecknillpjkaaBkBase
namespace Go.Proofs.Ytpnecknillpjkaa.Bk
open Go.RowKit

def zeros : List Int := List.replicate 32 0
/-- The world in which Holds looks: its parameter's box, its result's variable. -/
def holdsW (w : World) (e : Int) : World := (w.alloc (.cells #[.int .i64 e] 3)).alloc (.cells (papA zeros) 27)
theorem holdsW_size (w : World) (e : Int) : (holdsW w e).heap.size = w.heap.size + 2 := by simp [holdsW]
theorem holdsW_below (w : World) (e : Int) : Below w.heap.size w (holdsW w e) := ((Below.refl _ _).alloc (Nat.le_refl _) _).alloc (by simp) _
theorem holdsW_res (w : World) (e : Int) : (holdsW w e).heap[w.heap.size + 1]? = some (.cells (papA zeros) 27) := by
  show ((w.heap.push _).push _)[w.heap.size + 1]? = _
  rw [Array.getElem?_push, if_pos (by simp)]
theorem holdsW_box (w : World) (e : Int) : (holdsW w e).cell? ⟨w.heap.size, 0, none⟩ = some (.int .i64 e) := by
  have : (holdsW w e).heap[w.heap.size]? = some (.cells #[.int .i64 e] 3) := by
    show ((w.heap.push _).push _)[w.heap.size]? = _
    rw [Array.getElem?_push, if_neg (by simp), Array.getElem?_push, if_pos rfl]
  rw [cell_of_row _ _ _ _ _ _ this]; rfl

theorem papA_one (p : List Int) : ∀ v ∈ pc p, v.oneCell' = true := by
  intro v hv
  simp only [pc, List.mem_map] at hv
  obtain ⟨n, _, rfl⟩ := hv
  rfl
theorem papA_all (p : List Int) : (papA p).all (·.oneCell') = true := all_oneCell_toArray (papA_one p)
theorem papA_size {p : List Int} (h : p.length = 32) : (papA p).size = 32 := by simp [papA, pc, h]

theorem there_of_block {w : World} {b : Nat} {cs : Array Value} {t : TypeId} (h : w.heap[b]? = some (.cells cs t (0, 0))) : w.there b 0 cs.size := fun j hj => by
  rw [Nat.zero_add, cell_of_row _ _ _ _ _ _ h]
  refine ⟨?_, by simp [World.frozen?, h]⟩
  rw [Array.getElem?_eq_getElem hj]
  rfl

theorem below_setCells {B b : Nat} {a w : World} (h : Below B a w) (hB : B ≤ b) : ∀ (o : Nat) (vs : List Value), Below B a (w.setCells b o vs) := by
  intro o vs
  induction vs generalizing o w with
  | nil => exact h
  | cons v vs ih => exact ih (h.setCell hB v) (o + 1)

/-- What Holds answers. -/
def look (es : List (Int × List Int)) (e : Int) : List Int × Bool := match es.find? (fun x => x.1 == e) with | some x => (x.2, true) | none => (zeros, false)

theorem look_none {es : List (Int × List Int)} {e : Int} (h : es.findIdx? (fun x => x.1 == e) = none) : look es e = (zeros, false) := by
  unfold look
  rw [List.findIdx?_eq_none_iff] at h
  rw [List.find?_eq_none.2 (fun x hx => by simp [h x hx])]
theorem look_some {es : List (Int × List Int)} {e : Int} {i : Nat} (h : es.findIdx? (fun x => x.1 == e) = some i) : ∃ x, es[i]? = some x ∧ look es e = (x.2, true) := by
  rw [List.findIdx?_eq_some_iff_getElem] at h
  obtain ⟨hi, h1, h2⟩ := h
  refine ⟨es[i], List.getElem?_eq_getElem hi, ?_⟩
  unfold look
  have : es.find? (fun x => x.1 == e) = some es[i] := by
    rw [List.find?_eq_some_iff_getElem]
    exact ⟨h1, i, hi, rfl, fun j hj => by simpa using h2 j hj⟩
  rw [this]

set_option maxRecDepth 100000 in
theorem holds_none (A : Option Addr) (c g : Nat) (es : List (Int × List Int)) (e : Int) (w : World) (hg : g < w.heap.size) (h0 : w.cell? ⟨g, 0, none⟩ = some (.slice A es.length c)) (hm : es.length ≤ 100) (hk : Ok32 es) (hr : Reads w A es)
    (hi : es.findIdx? (fun x => x.1 == e) = none) :
    Calls Try.prog 18 #[.pointer (some ⟨g, 0, none⟩), .int .i64 e] w fun r w' => r = .returned (.tuple #[.agg (papA zeros), .bool false]) ∧ Below w.heap.size w w' := by
  have HI : Hid (idx es e = -1) := by unfold idx; rw [hi]; rfl
  clear hi
  go_enter Try.func18, Try.ntmps18
  go_wp2_with fail
  have hf := find_calls A es.length c es e w.heap.size 0 (holdsW w e) rfl (by omega) hk (hr.below (holdsW_below w e)) (holdsW_box w e) (by rw [holdsW_size]; omega)
  refine hf.mono ?_
  clear hf hr h0
  rintro r w2 ⟨rfl, hb⟩
  rw [HI.out]
  have HB : Hid (Below w.heap.size w w2) := (holdsW_below w e).trans (hb.mono (holdsW_below w e).size)
  have hres : w2.heap[w.heap.size + 1]? = some (.cells (papA zeros) 27) := (hb.block _ (by rw [holdsW_size]; omega)).trans (holdsW_res w e)
  have hth := there_of_block hres
  have HT := Lib.hid hth
  clear hb hres hth HI
  go_wp2_with ((refine wpList_store_mid rfl 27 (.tmp 4) (.tmp 18) (by rfl) (w.heap.size + 1) 0 (papA zeros) (by rfl) (by rfl) HT.out info27 (papA_all _) ?_))
  have hst := HT.out
  have hload : (loadVar 27 ⟨w.heap.size + 1, 0, none⟩).run Try.prog (w2.setCells (w.heap.size + 1) 0 (papA zeros).toList) = .ok (.agg (papA zeros)) (w2.setCells (w.heap.size + 1) 0 (papA zeros).toList) :=
    run_loadVar_mid _ _ 0 27 (pc zeros) _ (World.rangeAt_setCells_same w2 _ 0 (pc zeros) hst) Try.underlying27 rfl info27
  refine bodyPost_ret (v := .tuple #[.agg (papA zeros), .bool false]) (by simp [results, Try.results18, asAddr, hload]) rfl ⟨rfl, ?_⟩
  exact below_setCells HB.out (by omega) _ _

set_option maxRecDepth 100000 in
theorem holds_some (A : Option Addr) (c g : Nat) (es : List (Int × List Int)) (e : Int) (w : World) (hg : g < w.heap.size) (h0 : w.cell? ⟨g, 0, none⟩ = some (.slice A es.length c)) (hm : es.length ≤ 100) (hk : Ok32 es) (hr : Reads w A es)
    (i : Nat) (hi : es.findIdx? (fun x => x.1 == e) = some i) (x : Int × List Int) (hx : es[i]? = some x) :
    Calls Try.prog 18 #[.pointer (some ⟨g, 0, none⟩), .int .i64 e] w fun r w' => r = .returned (.tuple #[.agg (papA x.2), .bool true]) ∧ Below w.heap.size w w' := by
  have HI : Hid (idx es e = i) := by unfold idx; rw [hi]; rfl
  have hil : i < es.length := (List.getElem?_eq_some_iff.1 hx).1
  have hx32 : x.2.length = 32 := hk x (List.mem_of_getElem? hx)
  obtain ⟨b, o, rfl, hbl, hrg⟩ := hr (by omega)
  have HX := Lib.hid hx
  clear hi hx
  go_enter Try.func18, Try.ntmps18
  go_wp2_with fail
  have hf := find_calls (some ⟨b, o, none⟩) es.length c es e w.heap.size 0 (holdsW w e) rfl (by omega) hk (hr.below (holdsW_below w e)) (holdsW_box w e) (by rw [holdsW_size]; omega)
  refine hf.mono ?_
  clear hf hr
  rintro r w2 ⟨rfl, hb⟩
  rw [HI.out]
  have HB : Hid (Below w.heap.size w w2) := (holdsW_below w e).trans (hb.mono (holdsW_below w e).size)
  have hres : w2.heap[w.heap.size + 1]? = some (.cells (papA zeros) 27) := (hb.block _ (by rw [holdsW_size]; omega)).trans (holdsW_res w e)
  have HT : Hid (w2.there (w.heap.size + 1) 0 (papA x.2).size) := by
    have := there_of_block hres
    rw [papA_size (by simp [zeros])] at this
    rw [papA_size hx32]
    exact this
  have HR : Hid (w2.rangeAt b (o + i * 33 + 1) (pc x.2)) := fun j v hv => by
    have h1 := Reads.entry (w := w2) (fun j v hv => by rw [HB.out.cell hbl]; exact hrg j v hv) hk HX.out (j + 1) v (by simpa [ec] using hv)
    rw [show o + i * 33 + 1 + j = o + i * 33 + (j + 1) by omega]
    exact h1
  have HL : Hid ((pc x.2).length = 32) := by show _ = _; simp [pc, hx32]
  have HS : Hid ((papA x.2).size = 32) := papA_size hx32
  have h0' : w2.cell? ⟨g, 0, none⟩ = some (.slice (some ⟨b, o, none⟩) es.length c) := by rw [HB.out.cell hg]; exact h0
  clear hb hres HI hrg HX hk hx32 h0
  go_wp2_with (first | ((refine wpList_load_mid rfl 27 (.tmp 25) (by rfl) b (o + i * 33 + 1) (by rfl) (pc x.2) _ HR.out Try.underlying27 rfl ?hi ?_); (case hi => (rw [HL.out]; exact info27))) | ((refine wpList_store_mid rfl 27 (.tmp 4) (.tmp 26) (by rfl) (w.heap.size + 1) 0 (papA x.2) (by rfl) (by rfl) HT.out ?hi (papA_all _) ?_); (case hi => (rw [HS.out]; exact info27))))
  have hst := HT.out
  have hload : (loadVar 27 ⟨w.heap.size + 1, 0, none⟩).run Try.prog (w2.setCells (w.heap.size + 1) 0 (papA x.2).toList) = .ok (.agg (papA x.2)) (w2.setCells (w.heap.size + 1) 0 (papA x.2).toList) :=
    run_loadVar_mid _ _ 0 27 (pc x.2) _ (World.rangeAt_setCells_same w2 _ 0 (pc x.2) hst) Try.underlying27 rfl (by rw [HL.out]; exact info27)
  refine bodyPost_ret (v := .tuple #[.agg (papA x.2), .bool true]) (by simp [results, Try.results18, asAddr, hload]) rfl ⟨rfl, ?_⟩
  exact below_setCells HB.out (by omega) _ _

/-- HOLDS: what is written of an epoch. -/
theorem holds_calls (A : Option Addr) (c g : Nat) (es : List (Int × List Int)) (e : Int) (w : World) (hg : g < w.heap.size) (h0 : w.cell? ⟨g, 0, none⟩ = some (.slice A es.length c)) (hm : es.length ≤ 100) (hk : Ok32 es) (hr : Reads w A es) :
    Calls Try.prog 18 #[.pointer (some ⟨g, 0, none⟩), .int .i64 e] w fun r w' => r = .returned (.tuple #[.agg (papA (look es e).1), .bool (look es e).2]) ∧ Below w.heap.size w w' := by
  cases hi : es.findIdx? (fun x => x.1 == e) with
  | none =>
    rw [look_none hi]
    exact holds_none A c g es e w hg h0 hm hk hr hi
  | some i =>
    obtain ⟨x, hx, hl⟩ := look_some hi
    rw [hl]
    exact holds_some A c g es e w hg h0 hm hk hr i hi x hx
end Go.Proofs.Ytpnecknillpjkaa.Bk
