import Derived.Test.YtpnecknillpjkaaBkEq
namespace Go.Proofs.Ytpnecknillpjkaa.Bk
open Go.RowKit

/-- A Book in memory: entries, how many stay, how many flushes. -/
structure BookAt (w : World) (base g : Nat) (v : Value) (es : List (Int × List Int)) (st fl : Int) : Prop where
  lo : base ≤ g
  blk : w.heap[g]? = some (.cells #[v, .int .i64 st, .int .i64 fl] 57 (0, 0))
  own : Own w base v es
  ok : Ok32 es
  len : es.length ≤ 100

/-- All that was there is as it was, but for block g and row r. -/
structure Chg (w w' : World) (g : Nat) (r : Option Nat) : Prop where
  os : w'.os = w.os
  tape : w'.tape = w.tape
  output : w'.output = w.output
  size : w.heap.size ≤ w'.heap.size
  block : ∀ k, k < w.heap.size → k ≠ g → some k ≠ r → w'.heap[k]? = w.heap[k]?

theorem Chg.of_below {w w' : World} (h : Below w.heap.size w w') (g : Nat) (r : Option Nat) : Chg w w' g r := ⟨h.os, h.tape, h.output, h.size, fun k hk _ _ => h.block k hk⟩

theorem BookAt.lt {w : World} {base g : Nat} {v : Value} {es : List (Int × List Int)} {st fl : Int} (h : BookAt w base g v es st fl) : g < w.heap.size := (Array.getElem?_eq_some_iff.1 h.blk).1
theorem BookAt.cell {w : World} {base g : Nat} {v : Value} {es : List (Int × List Int)} {st fl : Int} (h : BookAt w base g v es st fl) (i : Nat) : w.cell? ⟨g, i, none⟩ = #[v, .int .i64 st, .int .i64 fl][i]? := cell_of_row _ _ _ _ _ _ h.blk
theorem BookAt.free {w : World} {base g : Nat} {v : Value} {es : List (Int × List Int)} {st fl : Int} (h : BookAt w base g v es st fl) (i : Nat) : w.frozen? ⟨g, i, none⟩ = false := by simp [World.frozen?, h.blk]
theorem BookAt.below {w w' : World} {base g : Nat} {v : Value} {es : List (Int × List Int)} {st fl : Int} (h : BookAt w base g v es st fl) (hb : Below w.heap.size w w') : BookAt w' base g v es st fl :=
  ⟨h.lo, (hb.block g h.lt).trans h.blk, h.own.kept (row := none) ⟨hb.os, hb.tape, hb.output, hb.size, fun k hk _ => hb.block k hk⟩ (by cases hv : v.ownBlock <;> simp), h.ok, h.len⟩
theorem BookAt.apart {w : World} {base g : Nat} {v : Value} {es : List (Int × List Int)} {st fl : Int} (h : BookAt w base g v es st fl) : v.ownBlock ≠ some g := by
  intro e
  rcases h.own.2 with ⟨rfl, _⟩ | ⟨g', cap, cur, rfl, _, hg, _⟩
  · simp [Value.ownBlock] at e
  · simp only [Value.ownBlock, Option.some.injEq] at e
    subst e
    rw [h.blk] at hg
    simp at hg
theorem BookAt.far {w w' : World} {base g : Nat} {v : Value} {es : List (Int × List Int)} {st fl : Int} (h : BookAt w base g v es st fl) {g' : Nat} {r : Option Nat} (hc : Chg w w' g' r) (h1 : g ≠ g') (h2 : some g ≠ r) (h3 : v.ownBlock ≠ some g') (h4 : v.ownBlock = none ∨ v.ownBlock ≠ r) : BookAt w' base g v es st fl := by
  refine ⟨h.lo, (hc.block g h.lt h1 h2).trans h.blk, ?_, h.ok, h.len⟩
  refine ⟨h.own.1, ?_⟩
  rcases h.own.2 with h0 | ⟨k, cap, cur, rfl, hk, hg, r1, r2, r3, r4⟩
  · exact Or.inl h0
  · refine Or.inr ⟨k, cap, cur, rfl, hk, (hc.block k (Array.getElem?_eq_some_iff.1 hg).1 (fun e => h3 (by rw [← e]; rfl)) ?_).trans hg, r1, r2, r3, r4⟩
    rcases h4 with h4 | h4
    · simp [Value.ownBlock] at h4
    · exact h4

/-- What Write answers, and what is written then. -/
def writeOf (es : List (Int × List Int)) (e : Int) (p : List Int) : Int × List (Int × List Int) :=
  if e < 0 ∨ 1099511627776 < e then (1, es) else
  if (look es e).2 = true then (if (look es e).1 = p then (0, es) else (9, es)) else
  if 100 ≤ es.length then (12, es) else (0, es ++ [(e, p)])

theorem write_out (g : Nat) (e : Int) (p : List Int) (w : World) (he : e < 0 ∨ 1099511627776 < e) :
    Calls Try.prog 13 #[.pointer (some ⟨g, 0, none⟩), .int .i64 e, .agg (papA p)] w fun r w' => r = .returned (.int .i64 1) ∧ Below w.heap.size w w' := by
  by_cases h1 : e < 0
  · clear he
    go_enter Try.func13, Try.ntmps13
    go_wp2
    go_ret
    exact ⟨rfl, (Below.refl _ _).alloc (Nat.le_refl _) _⟩
  · have h2 : 1099511627776 < e := by omega
    clear he
    go_enter Try.func13, Try.ntmps13
    go_wp2
    go_ret
    exact ⟨rfl, (Below.refl _ _).alloc (Nat.le_refl _) _⟩

theorem look_len {es : List (Int × List Int)} (hk : Ok32 es) (e : Int) : (look es e).1.length = 32 := by
  unfold look
  split
  · rename_i x h
    exact hk x (List.mem_of_find?_eq_some h)
  · simp [zeros]

section
variable {P : Program} {ops : Array Oper} {rest : List Oper} {o : Oper} {a : Act} {Q : Exit → Act → World → Prop} {W : World}
/-- A guarded operation that is wanted: the same goal without its guard. -/
theorem unguard (hw : Region.wanted o (yielded ops a.tmps) = true) (h : wpList P ops Q ({ o with guard := none } :: rest) a W) : wpList P ops Q (o :: rest) a W := by
  have h1 : Region.wanted { o with guard := none } (yielded ops a.tmps) = true := rfl
  unfold wpList at h ⊢
  rw [if_pos h1] at h
  rw [if_pos hw]
  exact h
end

/-- The variable that a Hash is laid into: fresh, of nought; then it holds it. -/
def heldW (w : World) (h : List Int) : World := (w.alloc (.cells (papA zeros) 27)).setCells w.heap.size 0 (papA h).toList
theorem alloc_there (w : World) (h : List Int) (hh : h.length = 32) : (w.alloc (.cells (papA zeros) 27)).there w.heap.size 0 (papA h).size := by
  have := there_of_block (heap_alloc_new w (.cells (papA zeros) 27))
  rw [papA_size (by simp [zeros])] at this
  rw [papA_size hh]
  exact this
theorem heldW_below (w : World) (h : List Int) : Below w.heap.size w (heldW w h) := below_setCells ((Below.refl _ _).alloc (Nat.le_refl _) _) (Nat.le_refl _) _ _
theorem heldW_reads (w : World) (h : List Int) (hh : h.length = 32) : (heldW w h).rangeAt w.heap.size 0 (pc h) := World.rangeAt_setCells_same _ _ 0 (pc h) (alloc_there w h hh)
theorem range_of_block {w : World} {b : Nat} {cs : List Value} {t : TypeId} {fr : Nat × Nat} (h : w.heap[b]? = some (.cells cs.toArray t fr)) : w.rangeAt b 0 cs := fun j v hv => by
  rw [Nat.zero_add, cell_of_row _ _ _ _ _ _ h]
  simpa using hv

set_option maxRecDepth 100000 in
theorem write_found (base g : Nat) (v : Value) (es : List (Int × List Int)) (st fl e : Int) (p : List Int) (w : World) (hp : p.length = 32) (hB : BookAt w base g v es st fl) (h1 : 0 ≤ e) (h2 : e ≤ 1099511627776) (hl : (look es e).2 = true) (q : Bool) (hq : ((look es e).1 == p) = q) :
    Calls Try.prog 13 #[.pointer (some ⟨g, 0, none⟩), .int .i64 e, .agg (papA p)] w fun r w' => r = .returned (.int .i64 (if q = true then 0 else 9)) ∧ Below w.heap.size w w' := by
  obtain ⟨A, c, rfl, _, hr⟩ := hB.own.reads
  have hb1 : Below w.heap.size w (w.alloc (.cells (papA p) 27)) := (Below.refl _ _).alloc (Nat.le_refl _) _
  have hB1 := hB.below hb1
  have hh := holds_calls A c g es e (w.alloc (.cells (papA p) 27)) hB1.lt (by rw [hB1.cell]; rfl) hB.len hB.ok (hr.below hb1)
  rw [hl] at hh
  have h32 := look_len hB.ok e
  generalize (look es e).1 = h at *
  have HQ := Lib.hid hq
  have HH := Lib.hid hh
  have heq : ∀ w : World, (binOp .eql 27 (.agg (pc h).toArray) (.agg (pc p).toArray)).run Try.prog w = .ok (.bool q) w := fun w => by rw [← hq]; exact run_eq_hash h p h32 hp w
  have HL : Hid ((Try.prog.info? 27).map (·.size) = some (papA h).size) := by show _ = _; rw [papA_size h32]; exact info27
  have HLh : Hid ((Try.prog.info? 27).map (·.size) = some (pc h).length) := by show _ = _; rw [pc, List.length_map, h32]; exact info27
  have HLp : Hid ((Try.prog.info? 27).map (·.size) = some (pc p).length) := by show _ = _; rw [pc, List.length_map, hp]; exact info27
  have HT : Hid (∀ w : World, (w.alloc (.cells (papA zeros) 27)).there w.heap.size 0 (papA h).size) := fun w => alloc_there w h h32
  have HR1 : Hid (∀ w : World, (heldW w h).rangeAt w.heap.size 0 (pc h)) := fun w => heldW_reads w h h32
  clear hB hr hB1 hh hl hp hq hb1 h32
  go_enter Try.func13, Try.ntmps13
  go_wp2_with fail
  refine HH.out.mono ?_
  clear HH
  rintro r w2 ⟨rfl, hb⟩
  have HB : Hid (Below w.heap.size w w2) := ((Below.refl _ _).alloc (Nat.le_refl _) _).trans (hb.mono (by simp))
  have hres : w2.heap[w.heap.size]? = some (.cells (papA p) 27) := (hb.block _ (by simp)).trans (heap_alloc_new _ _)
  have hlt : w.heap.size < w2.heap.size := (Array.getElem?_eq_some_iff.1 hres).1
  have HR2 : Hid ((heldW w2 h).rangeAt w.heap.size 0 (pc p)) := range_of_block (((heldW_below w2 h).block _ hlt).trans hres)
  clear hb hres hlt
  cases q with
  | true =>
    go_wp2_with (first | (refine wpList_store_mid rfl 27 (.tmp 7) (.tmp 23) (by rfl) w2.heap.size 0 (papA h) (by rfl) (by rfl) (HT.out w2) HL.out (papA_all _) ?_) | ((refine unguard (by rfl) ?_); (refine wpList_load_mid rfl 27 (.tmp 7) (by rfl) w2.heap.size 0 (by rfl) (pc h) _ (HR1.out w2) Try.underlying27 rfl HLh.out ?_)) | ((refine unguard (by rfl) ?_); (refine wpList_load_mid rfl 27 (.tmp 5) (by rfl) w.heap.size 0 (by rfl) (pc p) _ HR2.out Try.underlying27 rfl HLp.out ?_)))
    go_ret
    exact ⟨rfl, HB.out.trans ((heldW_below _ _).mono HB.out.size)⟩
  | false =>
    go_wp2_with (first | (refine wpList_store_mid rfl 27 (.tmp 7) (.tmp 23) (by rfl) w2.heap.size 0 (papA h) (by rfl) (by rfl) (HT.out w2) HL.out (papA_all _) ?_) | ((refine unguard (by rfl) ?_); (refine wpList_load_mid rfl 27 (.tmp 7) (by rfl) w2.heap.size 0 (by rfl) (pc h) _ (HR1.out w2) Try.underlying27 rfl HLh.out ?_)) | ((refine unguard (by rfl) ?_); (refine wpList_load_mid rfl 27 (.tmp 5) (by rfl) w.heap.size 0 (by rfl) (pc p) _ HR2.out Try.underlying27 rfl HLp.out ?_)))
    go_ret
    exact ⟨rfl, HB.out.trans ((heldW_below _ _).mono HB.out.size)⟩

set_option maxRecDepth 100000 in
theorem write_full (base g : Nat) (v : Value) (es : List (Int × List Int)) (st fl e : Int) (p : List Int) (w : World) (hB : BookAt w base g v es st fl) (h1 : 0 ≤ e) (h2 : e ≤ 1099511627776) (hl : (look es e).2 = false) (h100 : 100 ≤ es.length) :
    Calls Try.prog 13 #[.pointer (some ⟨g, 0, none⟩), .int .i64 e, .agg (papA p)] w fun r w' => r = .returned (.int .i64 12) ∧ Below w.heap.size w w' := by
  obtain ⟨A, c, rfl, _, hr⟩ := hB.own.reads
  have hb1 : Below w.heap.size w (w.alloc (.cells (papA p) 27)) := (Below.refl _ _).alloc (Nat.le_refl _) _
  have hB1 := hB.below hb1
  have hh := holds_calls A c g es e (w.alloc (.cells (papA p) 27)) hB1.lt (by rw [hB1.cell]; rfl) hB.len hB.ok (hr.below hb1)
  rw [hl] at hh
  have h32 := look_len hB.ok e
  generalize (look es e).1 = hs at *
  have HH := Lib.hid hh
  have HL : Hid ((Try.prog.info? 27).map (·.size) = some (papA hs).size) := by show _ = _; rw [papA_size h32]; exact info27
  have HT : Hid (∀ w : World, (w.alloc (.cells (papA zeros) 27)).there w.heap.size 0 (papA hs).size) := fun w => alloc_there w hs h32
  have HBk := Lib.hid hB
  clear hB hr hB1 hh hl hb1 h32
  go_enter Try.func13, Try.ntmps13
  go_wp2_with fail
  refine HH.out.mono ?_
  clear HH
  rintro r w2 ⟨rfl, hb⟩
  have HB : Hid (Below w.heap.size w w2) := ((Below.refl _ _).alloc (Nat.le_refl _) _).trans (hb.mono (by simp))
  have hcell : (heldW w2 hs).cell? ⟨g, 0, none⟩ = some (.slice A es.length c) := by
    rw [(HB.out.trans ((heldW_below w2 hs).mono HB.out.size)).cell HBk.out.lt, HBk.out.cell]; rfl
  obtain ⟨w3, hw3⟩ : ∃ w3, w3 = heldW w2 hs := ⟨_, rfl⟩
  rw [← hw3] at hcell
  have HW := Lib.hid hw3
  clear hb hw3
  go_wp2_with (first | ((refine wpList_store_mid rfl 27 (.tmp 7) (.tmp 23) (by rfl) w2.heap.size 0 (papA hs) (by rfl) (by rfl) (HT.out w2) HL.out (papA_all _) ?_); change wpList _ _ _ _ _ (heldW w2 hs); rw [← HW.out]))
  go_ret
  exact ⟨rfl, by rw [HW.out]; exact HB.out.trans ((heldW_below _ _).mono HB.out.size)⟩
end Go.Proofs.Ytpnecknillpjkaa.Bk
