import Derived.Test.YtpnecknillpjkaaBkCrash
namespace Go.Proofs.Ytpnecknillpjkaa.Bk
open Go.RowKit Go.Proofs.YtpnecknillpjkaaW.PrintWords Go.Proofs.YtpnecknillpjkaaW.PrintLast


/-- A reference Book in memory: entries, how many stay. -/
structure RefAt (w : World) (base g : Nat) (v : Value) (es : List (Int × List Int)) (st : Int) : Prop where
  lo : base ≤ g
  blk : w.heap[g]? = some (.cells #[v, .int .i64 st] 41 (0, 0))
  own : w.ownsRow base 66 33 v es.length (rc es)
  ok : Ok32 es
  len : es.length ≤ 100

section
variable {w w' : World} {base g : Nat} {v : Value} {es : List (Int × List Int)} {st : Int}
theorem RefAt.lt (h : RefAt w base g v es st) : g < w.heap.size := (Array.getElem?_eq_some_iff.1 h.blk).1
theorem RefAt.cell (h : RefAt w base g v es st) (i : Nat) : w.cell? ⟨g, i, none⟩ = #[v, .int .i64 st][i]? := cell_of_row _ _ _ _ _ _ h.blk
theorem RefAt.free (h : RefAt w base g v es st) (i : Nat) : w.frozen? ⟨g, i, none⟩ = false := by simp [World.frozen?, h.blk]
theorem RefAt.below (h : RefAt w base g v es st) (hb : Below w.heap.size w w') : RefAt w' base g v es st :=
  ⟨h.lo, (hb.block g h.lt).trans h.blk, h.own.kept (row := none) ⟨hb.os, hb.tape, hb.output, hb.size, fun k hk _ => hb.block k hk⟩ (by cases hv : v.ownBlock <;> simp), h.ok, h.len⟩
theorem RefAt.apart (h : RefAt w base g v es st) : v.ownBlock ≠ some g := by
  intro e
  rcases h.own.2 with ⟨rfl, _⟩ | ⟨g', cap, cur, rfl, _, hg, _⟩
  · simp [Value.ownBlock] at e
  · simp only [Value.ownBlock, Option.some.injEq] at e
    subst e
    rw [h.blk] at hg
    simp at hg
theorem RefAt.lower {base' : Nat} (h : RefAt w base g v es st) (hb : base' ≤ base) : RefAt w base' g v es st :=
  ⟨Nat.le_trans hb h.lo, h.blk, ⟨h.own.1, h.own.2.imp id (fun ⟨k, cap, cur, h1, h2, h3⟩ => ⟨k, cap, cur, h1, Nat.le_trans hb h2, h3⟩)⟩, h.ok, h.len⟩
/-- A Book and a reference Book never share a block: their types differ. -/
theorem RefAt.far {base' h' : Nat} {u : Value} {fs : List (Int × List Int)} {s fl : Int} (h : RefAt w base g v es st) (hB : BookAt w base' h' u fs s fl) (hc : Chg w w' h' u.ownBlock) : RefAt w' base g v es st := by
  have e1 : g ≠ h' := by rintro rfl; have := h.blk; rw [hB.blk] at this; simp at this
  have e2 : some g ≠ u.ownBlock := by
    intro e
    rcases hB.own.2 with ⟨rfl, _⟩ | ⟨g', cap, cur, rfl, _, hg, _⟩
    · simp [Value.ownBlock] at e
    · simp only [Value.ownBlock, Option.some.injEq] at e
      subst e
      rw [h.blk] at hg
      simp at hg
  refine ⟨h.lo, (hc.block g h.lt e1 e2).trans h.blk, ⟨h.own.1, ?_⟩, h.ok, h.len⟩
  rcases h.own.2 with h0 | ⟨k, cap, cur, rfl, hk, hg, r1⟩
  · exact Or.inl h0
  · refine Or.inr ⟨k, cap, cur, rfl, hk, (hc.block k (Array.getElem?_eq_some_iff.1 hg).1 ?_ ?_).trans hg, r1⟩
    · rintro rfl
      rw [hB.blk] at hg
      simp at hg
    · intro e
      rcases hB.own.2 with ⟨rfl, _⟩ | ⟨g', cap', cur', rfl, _, hg', _⟩
      · simp [Value.ownBlock] at e
      · simp only [Value.ownBlock, Option.some.injEq] at e
        subst e
        rw [hg] at hg'
        simp at hg'
theorem BookAt.farRef {base' h' : Nat} {u : Value} {fs : List (Int × List Int)} {s fl : Int} (h : BookAt w base g v es st fl) (hB : RefAt w base' h' u fs s) (hc : Chg w w' h' u.ownBlock) : BookAt w' base g v es st fl := by
  refine h.far hc ?_ ?_ ?_ ?_
  · rintro rfl; have := h.blk; rw [hB.blk] at this; simp at this
  · intro e
    rcases hB.own.2 with ⟨rfl, _⟩ | ⟨g', cap, cur, rfl, _, hg, _⟩
    · simp [Value.ownBlock] at e
    · simp only [Value.ownBlock, Option.some.injEq] at e
      subst e
      rw [h.blk] at hg
      simp at hg
  · intro e
    rcases h.own.2 with ⟨rfl, _⟩ | ⟨g', cap, cur, rfl, _, hg, _⟩
    · simp [Value.ownBlock] at e
    · simp only [Value.ownBlock, Option.some.injEq] at e
      subst e
      rw [hB.blk] at hg
      simp at hg
  · rcases h.own.2 with ⟨rfl, _⟩ | ⟨k, cap, cur, rfl, _, hg, _⟩
    · exact .inl rfl
    · right
      intro e
      rcases hB.own.2 with ⟨rfl, _⟩ | ⟨g', cap', cur', rfl, _, hg', _⟩
      · simp [Value.ownBlock] at e
      · simp only [Value.ownBlock, Option.some.injEq] at e
        subst e
        rw [hg] at hg'
        simp at hg'
theorem Chg.none_any {r : Option Nat} (h : Chg w w' g none) : Chg w w' g r := ⟨h.os, h.tape, h.output, h.size, fun k hk h1 _ => h.block k hk h1 (by simp)⟩
theorem ref_reads (h : RefAt w base g v es st) : ∃ A c, v = .slice A es.length c ∧ es.length ≤ c ∧ c ≤ maxLen ∧ Reads w A es := by
  rcases h.own.2 with ⟨rfl, h0⟩ | ⟨g, cap, cur, rfl, hb, hg, hn, hm, hs, ht⟩
  · exact ⟨none, 0, by rw [h0], by omega, by unfold maxLen; omega, fun h => by omega⟩
  · refine ⟨_, cap, rfl, hn, hm, fun _ => ⟨g, 0, rfl, (Array.getElem?_eq_some_iff.1 hg).1, fun j v hv => ?_⟩⟩
    have hj : j < (rc es).length := (List.getElem?_eq_some_iff.1 hv).1
    rw [h.own.1] at hj
    rw [Nat.zero_add, h.own.cellAt j hj]
    exact hv
theorem ref_set0 {x y v : Value} (h : w.heap[g]? = some (.cells #[x, y] 41 (0, 0))) : (w.setCell ⟨g, 0, none⟩ v).heap[g]? = some (.cells #[v, y] 41 (0, 0)) := by
  have hlt := lt_of_block h
  have h' : w.heap[g] = .cells #[x, y] 41 (0, 0) := by simpa [Array.getElem?_eq_getElem hlt] using h
  show (w.heap.modify g _)[g]? = _
  rw [Array.getElem?_eq_getElem (by simpa using hlt), Array.getElem_modify_self, h']
  rfl
theorem ref_set1 {x y v : Value} (h : w.heap[g]? = some (.cells #[x, y] 41 (0, 0))) : (w.setCell ⟨g, 1, none⟩ v).heap[g]? = some (.cells #[x, v] 41 (0, 0)) := by
  have hlt := lt_of_block h
  have h' : w.heap[g] = .cells #[x, y] 41 (0, 0) := by simpa [Array.getElem?_eq_getElem hlt] using h
  show (w.heap.modify g _)[g]? = _
  rw [Array.getElem?_eq_getElem (by simpa using hlt), Array.getElem_modify_self, h']
  rfl
theorem RefAt.setStays (h : RefAt w base g v es st) (x : Int) : RefAt (w.setCell ⟨g, 1, none⟩ (.int .i64 x)) base g v es x :=
  ⟨h.lo, ref_set1 h.blk, ownsRow_setCell_other h.own h.apart _, h.ok, h.len⟩
end

set_option maxRecDepth 100000 in
set_option maxHeartbeats 1000000 in
theorem rflush_calls (base g : Nat) (v : Value) (es : List (Int × List Int)) (st : Int) (w : World) (hB : RefAt w base g v es st) :
    Calls Try.prog 21 #[.pointer (some ⟨g, 0, none⟩)] w fun r w' => r = .returned (.tuple #[]) ∧ RefAt w' base g v es es.length ∧ Chg w w' g none := by
  obtain ⟨A, c, rfl, _, _, hr⟩ := ref_reads hB
  have hcell : w.cell? ⟨g, 0, none⟩ = some (.slice A es.length c) := by rw [hB.cell]; rfl
  have c1 : w.cell? ⟨g, 1, none⟩ = some (.int .i64 st) := by rw [hB.cell]; rfl
  have c2 := hB.free 1
  have HB := Lib.hid hB
  clear hB hr
  go_enter Try.func21, Try.ntmps21
  go_wp2
  go_end0
  refine ⟨rfl, HB.out.setStays _, ?_⟩
  exact (Chg.of_below (Below.refl _ _) _ _).set _ _

theorem look_at {es : List (Int × List Int)} {e : Int} {k : Nat} {x : Int × List Int} (hx : es[k]? = some x) (hno : ∀ j, j < k → ∀ y, es[j]? = some y → (y.1 == e) = false) (hq : (x.1 == e) = true) : look es e = (x.2, true) := by
  have : es.findIdx? (fun x => x.1 == e) = some k := by
    rw [List.findIdx?_eq_some_iff_getElem]
    obtain ⟨hkl, hxe⟩ := List.getElem?_eq_some_iff.1 hx
    refine ⟨hkl, by rw [hxe]; exact hq, fun j hj => ?_⟩
    have := hno j hj es[j] (List.getElem?_eq_getElem (by omega))
    simpa using this
  obtain ⟨y, hy, hl⟩ := look_some this
  rw [hx] at hy
  simp only [Option.some.injEq] at hy
  rw [hl, hy]
theorem look_out {es : List (Int × List Int)} {e : Int} (hno : ∀ j, j < es.length → ∀ y, es[j]? = some y → (y.1 == e) = false) : look es e = (zeros, false) := by
  apply look_none
  rw [List.findIdx?_eq_none_iff]
  intro x hx
  obtain ⟨j, hj, rfl⟩ := List.getElem_of_mem hx
  exact hno j hj _ (List.getElem?_eq_getElem hj)
theorem no_next {es : List (Int × List Int)} {e : Int} {k : Nat} {x : Int × List Int} (hx : es[k]? = some x) (hno : ∀ j, j < k → ∀ y, es[j]? = some y → (y.1 == e) = false) (hq : (x.1 == e) = false) : ∀ j, j < k + 1 → ∀ y, es[j]? = some y → (y.1 == e) = false := by
  intro j hj y hy
  by_cases hjk : j = k
  · subst hjk
    rw [hx] at hy
    simp only [Option.some.injEq] at hy
    rw [← hy]
    exact hq
  · exact hno j (by omega) y hy

set_option maxRecDepth 100000 in
set_option maxHeartbeats 1000000 in
theorem rholds_calls (base g : Nat) (v : Value) (es : List (Int × List Int)) (st e : Int) (w : World) (hB : RefAt w base g v es st) :
    Calls Try.prog 30 #[.pointer (some ⟨g, 0, none⟩), .int .i64 e] w fun r w' => r = .returned (.tuple #[.agg (papA (look es e).1), .bool (look es e).2]) ∧ Below w.heap.size w w' := by
  obtain ⟨A, c, rfl, hlc, hcm, hr⟩ := ref_reads hB
  have h100 := hB.len
  obtain ⟨W1, hW1⟩ : ∃ W1, W1 = w.alloc (.cells (papA zeros) 27) := ⟨_, rfl⟩
  have Hb1 : Hid (Below w.heap.size w W1) := by rw [hW1]; exact (Below.refl _ _).alloc (Nat.le_refl _) _
  have HBlk : Hid (W1.heap[w.heap.size]? = some (.cells (papA zeros) 27)) := by rw [hW1]; exact heap_alloc_new _ _
  have hcell : W1.cell? ⟨g, 0, none⟩ = some (.slice A es.length c) := by rw [(hB.below Hb1.out).cell]; rfl
  have HK := Lib.hid hB.ok
  have HR := Lib.hid hr
  have HW1 := Lib.hid hW1
  clear hB hr
  go_enter Try.func30, Try.ntmps30
  go_wp2_with fail
  change Code.wp _ _ _ _ (w.alloc (.cells (papA zeros) 27))
  rw [← hW1]
  clear hW1
  go_loopw [6] (fun v wr => ∃ k : Nat, k ≤ es.length ∧ v = .int .i64 k ∧ Hid (∀ j, j < k → ∀ x, es[j]? = some x → (x.1 == e) = false) ∧ wr = W1) (fun v _ => es.length - (intOf v).toNat)
  case atStart => exact ⟨0, Nat.zero_le _, rfl, fun j h => by omega, rfl⟩
  case round =>
    obtain ⟨k, hkn, rfl, hno, rfl⟩ := hrel
    by_cases hlt2 : k < es.length
    · obtain ⟨b, o, rfl, hbl, hrg⟩ := HR.out (by omega)
      obtain ⟨x, hx⟩ : ∃ x, es[k]? = some x := ⟨_, List.getElem?_eq_getElem hlt2⟩
      have HX := Lib.hid hx
      have h32 : x.2.length = 32 := HK.out x (List.mem_of_getElem? hx)
      have hrange : wr.rangeAt b (o + k * 33) (ec x) := Reads.entry (fun j v hv => by rw [Hb1.out.cell hbl]; exact hrg j v hv) HK.out hx
      have hep : wr.cell? ⟨b, o + k * 33, none⟩ = some (.int .i64 x.1) := hrange 0 _ rfl
      have hpap : wr.rangeAt b (o + k * 33 + 1) (pc x.2) := fun j v hv => by
        have := hrange (j + 1) v (by simpa [ec] using hv)
        rw [show o + k * 33 + 1 + j = o + k * 33 + (j + 1) by omega]
        exact this
      have HPP := Lib.hid hpap
      have HLh : Hid ((Try.prog.info? 27).map (·.size) = some (pc x.2).length) := by show _ = _; rw [pc, List.length_map, h32]; exact info27
      have HL : Hid ((Try.prog.info? 27).map (·.size) = some (papA x.2).size) := by show _ = _; rw [papA_size h32]; exact info27
      have HT : Hid (wr.there w.heap.size 0 (papA x.2).size) := by
        have := there_of_block HBlk.out
        rw [papA_size (by simp [zeros])] at this
        rw [papA_size h32]
        exact this
      clear hx hrange hpap hrg
      cases hq : x.1 == e with
      | true =>
        have HQ := Lib.hid hq
        have HA := Lib.hid (look_at HX.out hno.out hq)
        go_wp2_with (first
          | ((refine wpList_load_mid rfl 27 (.tmp 32) (by rfl) b (o + k * 33 + 1) (by rfl) (pc x.2) _ HPP.out Try.underlying27 rfl HLh.out ?_))
          | ((refine wpList_store_mid rfl 27 (.tmp 4) (.tmp 33) (by rfl) w.heap.size 0 (papA x.2) (by rfl) (by rfl) HT.out HL.out (papA_all _) ?_)))
        have hst := HT.out
        have hload : (loadVar 27 ⟨w.heap.size, 0, none⟩).run Try.prog (wr.setCells w.heap.size 0 (papA x.2).toList) = .ok (.agg (papA x.2)) (wr.setCells w.heap.size 0 (papA x.2).toList) :=
          run_loadVar_mid _ _ 0 27 (pc x.2) _ (World.rangeAt_setCells_same wr _ 0 (pc x.2) hst) Try.underlying27 rfl HLh.out
        refine bodyPost_ret (v := .tuple #[.agg (papA x.2), .bool true]) (by simp [results, Try.results30, asAddr, hload]) rfl ⟨by rw [HA.out], ?_⟩
        exact below_setCells Hb1.out (Nat.le_refl _) _ _
      | false =>
        have HN := Lib.hid (no_next HX.out hno.out hq)
        go_wp2_with fail
        go_roundw
        case rel => exact ⟨k + 1, by omega, by go_num, HN, trivial⟩
        case measure => simp [intOf]; omega
    · have hke : k = es.length := by omega
      subst hke
      have HA := Lib.hid (look_out hno.out)
      have HT : Hid (wr.there w.heap.size 0 (papA zeros).size) := there_of_block HBlk.out
      clear hno
      go_wp2_with ((refine wpList_store_mid rfl 27 (.tmp 4) (.tmp 34) (by rfl) w.heap.size 0 (papA zeros) (by rfl) (by rfl) HT.out info27 (papA_all _) ?_))
      have hst := HT.out
      have hload : (loadVar 27 ⟨w.heap.size, 0, none⟩).run Try.prog (wr.setCells w.heap.size 0 (papA zeros).toList) = .ok (.agg (papA zeros)) (wr.setCells w.heap.size 0 (papA zeros).toList) :=
        run_loadVar_mid _ _ 0 27 (pc zeros) _ (World.rangeAt_setCells_same wr _ 0 (pc zeros) hst) Try.underlying27 rfl info27
      refine bodyPost_ret (v := .tuple #[.agg (papA zeros), .bool false]) (by simp [results, Try.results30, asAddr, hload]) rfl ⟨by rw [HA.out], ?_⟩
      exact below_setCells Hb1.out (Nat.le_refl _) _ _
end Go.Proofs.Ytpnecknillpjkaa.Bk
