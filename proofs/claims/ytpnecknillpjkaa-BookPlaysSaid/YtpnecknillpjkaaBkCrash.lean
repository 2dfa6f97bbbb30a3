import Derived.Test.YtpnecknillpjkaaBkFlush
namespace Go.Proofs.Ytpnecknillpjkaa.Bk
open Go.RowKit

theorem Reads.take {w : World} {A : Option Addr} {es : List (Int × List Int)} (h : Reads w A es) (hk : Ok32 es) (n : Nat) : Reads w A (es.take n) := fun hp => by
  obtain ⟨b, o, e, h1, h2⟩ := h (by rw [List.length_take] at hp; omega)
  refine ⟨b, o, e, h1, fun j v hv => h2 j v ?_⟩
  rw [rc_take n hk] at hv
  rw [List.getElem?_take] at hv
  split at hv
  · exact hv
  · cases hv
theorem Ok32.take {es : List (Int × List Int)} (h : Ok32 es) (n : Nat) : Ok32 (es.take n) := fun x hx => h x (List.mem_of_mem_take hx)

theorem own_slice {w : World} {base n : Nat} {v : Value} {es : List (Int × List Int)} (h : Own w base v es) (hn : es.length = n) : ∃ A c, v = .slice A n c := by
  obtain ⟨A, c, h1, _⟩ := h.reads
  exact ⟨A, c, by rw [h1, hn]⟩
theorem clone_at {n m c : Nat} {A : Option Addr} {w : World} {R : Ending → World → Prop} (h : m = n) (H : Calls Try.prog 25 #[.slice A n c] w R) : Calls Try.prog 25 #[.slice A m c] w R := h ▸ H
theorem store_at {n : Nat} {x : Int} {p : Value} {w : World} {R : Ending → World → Prop} (h : x = n) (H : Calls Try.prog 26 #[p, .int .i64 n] w R) : Calls Try.prog 26 #[p, .int .i64 x] w R := h ▸ H
theorem crash_book {w w2 : World} {v : Value} {es : List (Int × List Int)} {n : Nat} (ho : Own w2 w.heap.size v (es.take n)) (hb : Below w.heap.size w w2) (hk : Ok32 es) (hl : es.length ≤ 100) :
    BookAt (w2.alloc (.cells #[v, .int .i64 0, .int .i64 0] 57)) w.heap.size w2.heap.size v (es.take n) 0 0 :=
  ⟨hb.size, heap_alloc_new _ _, World.ownsRow.kept (row := none) ho (World.grownBy_alloc _ _ none) (by cases hv : v.ownBlock <;> simp), hk.take n, by rw [List.length_take]; omega⟩

set_option maxRecDepth 100000 in
set_option maxHeartbeats 1000000 in
theorem crash_calls (base g : Nat) (v : Value) (es : List (Int × List Int)) (s : Nat) (fl keep : Int) (w : World) (hB : BookAt w base g v es s fl) (hs : s ≤ es.length) (n : Nat) (hn : (n : Int) = s + min (max keep 0) (es.length - s)) :
    Calls Try.prog 17 #[.pointer (some ⟨g, 0, none⟩), .int .i64 keep] w fun r w' => ∃ g' v', r = .returned (.pointer (some ⟨g', 0, none⟩)) ∧ BookAt w' w.heap.size g' v' (es.take n) n 0 ∧ Below w.heap.size w w' := by
  obtain ⟨A, c, rfl, hlc, hr⟩ := hB.own.reads
  have hcell : w.cell? ⟨g, 0, none⟩ = some (.slice A es.length c) := by rw [hB.cell]; rfl
  have hst : w.cell? ⟨g, 1, none⟩ = some (.int .i64 s) := by rw [hB.cell]; rfl
  have hle : n ≤ es.length := by omega
  have h100 := hB.len
  have hcl := clone_calls A n c (es.take n) w (by rw [List.length_take]; omega) (by omega) (hB.ok.take n) (hr.take hB.ok n)
  have HCL := Lib.hid hcl
  have HB := Lib.hid hB
  clear hB hr hcl
  have Hn := Lib.hid hn
  clear hn
  go_enter Try.func17, Try.ntmps17
  go_wp2_with (first
    | (go_at_call 24; refine (load_calls g 1 _ _ hst).mono ?_; rintro r w2 ⟨rfl, rfl⟩)
    | (go_at_call 25; refine clone_at (n := n) (by have := Hn.out; omega) (HCL.out.mono ?_); rintro r w2 ⟨v2, rfl, hown, hb2⟩; obtain ⟨A2, c2, rfl⟩ := own_slice hown (n := n) (by rw [List.length_take]; omega); have HO := Lib.hid hown; have Hb2 := Lib.hid hb2; clear hown hb2)
    | (go_at_call 26; refine store_at (n := n) (by have := Hn.out; omega) ((store_calls _ 1 n (.int .i64 0) _ (by rw [(crash_book HO.out Hb2.out HB.out.ok HB.out.len).cell]; rfl) ((crash_book HO.out Hb2.out HB.out.ok HB.out.len).free 1)).mono ?_); rintro r w3 ⟨rfl, hw3⟩))
  all_goals
    go_ret
    refine ⟨w2.heap.size, rfl, ⟨.slice A2 n c2, ?_⟩, ?_⟩
    · rw [← hw3]; exact (crash_book HO.out Hb2.out HB.out.ok HB.out.len).setStays _
    · rw [← hw3]; exact (Hb2.out.alloc Hb2.out.size _).setCell Hb2.out.size _
end Go.Proofs.Ytpnecknillpjkaa.Bk
