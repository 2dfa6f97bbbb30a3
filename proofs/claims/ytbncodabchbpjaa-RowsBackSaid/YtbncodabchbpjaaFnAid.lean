import Derived.Test.YtbncodabchbpjaaFn0
import Derived.Lib.Bytes
import Derived.Lib.Hide
namespace Go.Proofs.Ytbncodabchbpjaa.Fn
open Go.RowKit Go.Proofs.YtbncodabchbpjaaW.PrintWords Go.Proofs.YtbncodabchbpjaaW.PrintLast Go.Proofs.YtbncodabchbpjaaW.PrintMore

theorem heap_last (w : World) (o : Obj) (n : Nat) (h : n = w.heap.size) : (w.alloc o).heap[n]? = some o := by
  subst h; show (w.heap.push o)[w.heap.size]? = _; simp
theorem heap_old (w : World) (o : Obj) (n : Nat) (h : n < w.heap.size) : (w.alloc o).heap[n]? = w.heap[n]? := by
  show (w.heap.push o)[n]? = _
  rw [Array.getElem?_push, if_neg (by omega)]
theorem cell_block {w : World} {g : Nat} {cs : Array Value} {t : TypeId} {fr : Nat × Nat} (h : w.heap[g]? = some (.cells cs t fr)) (i : Nat) : w.cell? ⟨g, i, none⟩ = cs[i]? := by simp [World.cell?, h]

/-- A block's cells, from o on, read as these numbers. -/
theorem C_ints {w : World} {g o : Nat} {cs : Array Value} {t : TypeId} {fr : Nat × Nat} {k : IntKind} {xs : List Int} (hb : w.heap[g]? = some (.cells cs t fr)) (hm : xs.length ≤ 9223372036854775807)
    (hc : ∀ i x, xs[i]? = some x → cs[o + i]? = some (.int k x)) : (Kd.int k).C w (some ⟨g, o, none⟩) xs.length xs := by
  refine ⟨rfl, hm, fun _ => ⟨_, rfl, fun j p hj => ⟨[.int k p], rfl, rfl, fun i u hi => ?_⟩⟩⟩
  match i with
  | 0 =>
    simp at hi
    subst hi
    have : (Kd.int k).sz = 1 := rfl
    rw [this, add_at, cell_block hb]
    simpa using hc j p hj
  | i + 1 => simp at hi

/-- A block's cells, from o on, read as these rows of numbers. -/
theorem C_rows {w : World} {g o e : Nat} {cs : Array Value} {t : TypeId} {fr : Nat × Nat} {k : IntKind} {l : List (List Int)} (hb : w.heap[g]? = some (.cells cs t fr)) (hm : l.length ≤ 9223372036854775807)
    (hc : ∀ i xs, l[i]? = some xs → ∃ A c, cs[o + i]? = some (.slice A xs.length c) ∧ xs.length ≤ c ∧ (Kd.int k).C w A xs.length xs) : (Kd.slice e (Kd.int k)).C w (some ⟨g, o, none⟩) l.length l := by
  refine ⟨rfl, hm, fun _ => ⟨_, rfl, fun j p hj => ?_⟩⟩
  obtain ⟨A, c, h1, h2, h3⟩ := hc j p hj
  refine ⟨[.slice A p.length c], rfl, ⟨A, c, rfl, h2, h3⟩, fun i u hi => ?_⟩
  match i with
  | 0 =>
    simp at hi
    subst hi
    have : (Kd.slice e (Kd.int k)).sz = 1 := rfl
    rw [this, add_at, cell_block hb]
    simpa using h1
  | i + 1 => simp at hi

end Go.Proofs.Ytbncodabchbpjaa.Fn
