import Derived.Test.YtpnecknillpjkaaBkRefCrash
import Derived.Deep.AppendLies
import Derived.Deep.RegionHeld3
import Derived.Deep.DrawnRows
namespace Go.Proofs.Ytpnecknillpjkaa.Bk
open Go.RowKit Go.Proofs.YtpnecknillpjkaaW.PrintWords Go.Proofs.YtpnecknillpjkaaW.PrintLast

theorem built66_at (e : Int) (a0 a1 a2 a3 a4 a5 a6 a7 a8 a9 a10 a11 a12 a13 a14 a15 a16 a17 a18 a19 a20 a21 a22 a23 a24 a25 a26 a27 a28 a29 a30 a31 : Int) : Try.prog.built 66 [(0, .int .i64 e), (1, .agg (papA [a0, a1, a2, a3, a4, a5, a6, a7, a8, a9, a10, a11, a12, a13, a14, a15, a16, a17, a18, a19, a20, a21, a22, a23, a24, a25, a26, a27, a28, a29, a30, a31]))] = some (enA (e, [a0, a1, a2, a3, a4, a5, a6, a7, a8, a9, a10, a11, a12, a13, a14, a15, a16, a17, a18, a19, a20, a21, a22, a23, a24, a25, a26, a27, a28, a29, a30, a31])) := by kernel_rfl
theorem run_build66 (e : Int) (p : List Int) (hp : p.length = 32) (w : World) : (Instr.build 66 #[(0, .int .i64 e), (1, .agg (papA p))]).run Try.prog w = .ok (.agg (enA (e, p))) w := by
  obtain ⟨a0, a1, a2, a3, a4, a5, a6, a7, a8, a9, a10, a11, a12, a13, a14, a15, a16, a17, a18, a19, a20, a21, a22, a23, a24, a25, a26, a27, a28, a29, a30, a31, rfl⟩ := list32 p hp
  exact run_build w 66 _ _ (built66_at e _ _ _ _ _ _ _ _ _ _ _ _ _ _ _ _ _ _ _ _ _ _ _ _ _ _ _ _ _ _ _ _)

theorem fill66_at (e : Int) (a0 a1 a2 a3 a4 a5 a6 a7 a8 a9 a10 a11 a12 a13 a14 a15 a16 a17 a18 a19 a20 a21 a22 a23 a24 a25 a26 a27 a28 a29 a30 a31 : Int) : Instr.fill (fun i => some (i * 33, 33)) ((Array.range (1 * 33)).map ((Value.agg (enA (0, zeros))).cells[· % (Value.agg (enA (0, zeros))).cells.size]!)) [(0, .agg (enA (e, [a0, a1, a2, a3, a4, a5, a6, a7, a8, a9, a10, a11, a12, a13, a14, a15, a16, a17, a18, a19, a20, a21, a22, a23, a24, a25, a26, a27, a28, a29, a30, a31])))] = some (enA (e, [a0, a1, a2, a3, a4, a5, a6, a7, a8, a9, a10, a11, a12, a13, a14, a15, a16, a17, a18, a19, a20, a21, a22, a23, a24, a25, a26, a27, a28, a29, a30, a31])) := by kernel_rfl
theorem run_bs66 (x : Int × List Int) (hp : x.2.length = 32) (w : World) : (Instr.buildSlice 39 1 #[(0, .agg (enA x))]).run Try.prog w = .ok (.slice (some ⟨w.heap.size, 0, none⟩) 1 1) (w.alloc (.cells (enA x) 66)) := by
  obtain ⟨e, p⟩ := x
  obtain ⟨a0, a1, a2, a3, a4, a5, a6, a7, a8, a9, a10, a11, a12, a13, a14, a15, a16, a17, a18, a19, a20, a21, a22, a23, a24, a25, a26, a27, a28, a29, a30, a31, rfl⟩ := list32 p hp
  obtain ⟨i, hi, hz, hs, _⟩ := info_parts66
  refine run_buildSlice w 39 66 1 _ _ i (.agg (enA (0, zeros))) Try.underlying39 hi hz (by rw [hs]; decide) (by rw [hs]; decide) ?_
  rw [hs]
  exact fill66_at e _ _ _ _ _ _ _ _ _ _ _ _ _ _ _ _ _ _ _ _ _ _ _ _ _ _ _ _ _ _ _ _
theorem run_build66' (e : Int) (f : Fin 32 → Int) (w : World) : (Instr.build 66 #[(0, .int .i64 e), (1, .agg (pc (mkP f)).toArray)]).run Try.prog w = .ok (.agg (enA (e, mkP f))) w := run_build66 e _ (mkP_len f) w
theorem run_bs66' (e : Int) (f : Fin 32 → Int) (w : World) : (Instr.buildSlice 39 1 #[(0, .agg (enA (e, mkP f)))]).run Try.prog w = .ok (.slice (some ⟨w.heap.size, 0, none⟩) 1 1) (w.alloc (.cells (enA (e, mkP f)) 66)) := run_bs66 (e, mkP f) (mkP_len f) w

attribute [local go_sem ↓] run_build66' run_bs66' Go.wp_at_zero Go.wp_at_succ
theorem yields_build66 {ops : Array Oper} {oi : Oper} {a : Act} (hgd : oi.guard = none) (e : Int) (f : Fin 32 → Int) (x y : Operand) (ho : oi.op = .build 66 #[(0, x), (1, y)]) (hx : a.eval x = .int .i64 e) (hy : a.eval y = .agg (pc (mkP f)).toArray) :
    Yields Try.prog ops oi (.agg (enA (e, mkP f))) a := by
  have hw : Region.wanted oi (yielded ops a.tmps) = true := by simp [Region.wanted, hgd]
  refine .inl ⟨hw, fun w => ?_⟩
  unfold execOp
  have hm : (#[(0, x), (1, y)] : Array (Nat × Operand)).map (fun y => (y.1, a.eval y.2)) = #[(0, .int .i64 e), (1, .agg (pc (mkP f)).toArray)] := by simp [hx, hy]
  have hr := run_build66' e f w
  rw [← hm] at hr
  simp only [ho, Sem.run_bind, hr, Result.andThen_ok]
  rfl

theorem step_bs66 {ops : Array Oper} {oi : Oper} {a : Act} {w : World} {K : Act → World → Prop} {Q : Exit → Act → World → Prop} {E : Prop} (hgd : oi.guard = none) (e : Int) (f : Fin 32 → Int) (x : Operand) (ho : oi.op = .buildSlice 39 1 #[(0, x)]) (hx : a.eval x = .agg (enA (e, mkP f)))
    (h : K (a.put oi.dst (.slice (some ⟨w.heap.size, 0, none⟩) 1 1)) (w.alloc (.cells (enA (e, mkP f)) 66))) : if Region.wanted oi (yielded ops a.tmps) = true then Oper.wp Try.prog oi a w K Q else E := by
  have hw : Region.wanted oi (yielded ops a.tmps) = true := by simp [Region.wanted, hgd]
  rw [if_pos hw]
  unfold Oper.wp execOp
  have hm : (#[(0, x)] : Array (Nat × Operand)).map (fun y => (y.1, a.eval y.2)) = #[(0, .agg (enA (e, mkP f)))] := by simp [hx]
  have hr := run_bs66' e f w
  rw [← hm] at hr
  simp only [ho, Sem.run_bind, hr, Result.andThen_ok]
  exact h


def rwrite.T7 : Bool × List (List Nat × List Nat) := (true, [([], []), ([0], [0]), ([1], [1]), ([2], [2]), ([], []), ([3, 4], [3, 4]), ([5], [5]), ([6], [6]), ([], []), ([7, 8], [7, 8])])
def rwrite.B7 : List Nat := [0, 1, 3, 7, 0, 31, 63, 127, 0, 511]
theorem rwrite.tab7 : rtab .any (opsOf Try.f19 7) = rwrite.T7 := by kernel_rfl
theorem rwrite.bits7 : waitsOk rwrite.T7.2 rwrite.B7 = true := by kernel_rfl
def rwrite.T12 : Bool × List (List Nat × List Nat) := (true, [([], []), ([], []), ([1], [1]), ([2], [2]), ([3], [3]), ([], []), ([], []), ([5, 6], [5, 6]), ([7], [7]), ([4, 8], [4, 8]), ([0, 0, 1, 2, 3, 4, 5, 6, 7, 8, 9], [0]), ([10, 0, 1, 2, 3, 4, 5, 6, 7, 8, 9], [10]), ([11, 9, 9, 0, 1, 2, 3, 4, 5, 6, 7, 8, 9], [9, 11])])
def rwrite.B12 : List Nat := [0, 0, 2, 6, 14, 0, 0, 96, 224, 510, 1023, 2047, 4095]
theorem rwrite.tab12 : rtab .any (opsOf Try.f19 12) = rwrite.T12 := by kernel_rfl
theorem rwrite.bits12 : waitsOk rwrite.T12.2 rwrite.B12 = true := by kernel_rfl

theorem rwrite_end {w w3 w4 w5 : World} {o : Obj} {base g gg cap : Nat} {v : Value} {es : List (Int × List Int)} {st : Int} {x : Int × List Int} (hB : RefAt w base g v es st) (hb : Below w.heap.size w w3) (h4 : w3.drew.alloc o = w4) (hgr : w4.grownBy w5 v.ownBlock)
    (hown : w5.ownsRow base 66 33 (.slice (some ⟨gg, 0, none⟩) (es.length + 1) cap) (es.length + 1) (rc es ++ ec x)) (hat : v.ownBlock = some gg ∨ gg = w4.heap.size) (hx : x.2.length = 32) (hl : es.length < 100) :
    ∃ v', RefAt (w5.setCell ⟨g, 0, none⟩ (.slice (some ⟨gg, 0, none⟩) (es.length + 1) cap)) base g v' (es ++ [x]) st ∧ Chg w (w5.setCell ⟨g, 0, none⟩ (.slice (some ⟨gg, 0, none⟩) (es.length + 1) cap)) g v.ownBlock := by
  have b4 : Below w.heap.size w w4 := by rw [← h4]; exact (Below.drew hb).alloc hb.size _
  have hne := hB.apart
  have hg5 : w5.heap[g]? = some (.cells #[v, .int .i64 st] 41 (0, 0)) := (hgr.block g (Nat.lt_of_lt_of_le hB.lt b4.size) hne.symm).trans ((b4.block g hB.lt).trans hB.blk)
  have hgg : gg ≠ g := by
    rintro rfl
    rcases hat with h | h
    · exact hne h
    · have := Nat.lt_of_lt_of_le hB.lt b4.size
      omega
  refine ⟨_, ⟨hB.lo, ref_set0 hg5, ?_, ?_, ?_⟩, ⟨?_, ?_, ?_, ?_, ?_⟩⟩
  · have e1 : (es ++ [x]).length = es.length + 1 := by simp
    have e2 : rc (es ++ [x]) = rc es ++ ec x := by simp [rc]
    rw [e1, e2]
    exact ownsRow_setCell_other hown (by intro e; exact hgg (by simpa [Value.ownBlock] using e)) _
  · intro y hy
    rcases List.mem_append.1 hy with h | h
    · exact hB.ok y h
    · rw [List.mem_singleton.1 h]; exact hx
  · simp; omega
  · exact hgr.os.trans b4.os
  · exact hgr.tape.trans b4.tape
  · exact hgr.output.trans b4.output
  · exact Nat.le_trans (Nat.le_trans b4.size hgr.size) (by simp [World.setCell])
  · intro k hk h1 h2
    rw [Below.heap_setCell _ _ _ _ h1, hgr.block k (Nat.lt_of_lt_of_le hk b4.size) h2, b4.block k hk]

theorem rwrite_out (g : Nat) (e : Int) (p : List Int) (w : World) (he : e < 0 ∨ 1099511627776 < e) :
    Calls Try.prog 19 #[.pointer (some ⟨g, 0, none⟩), .int .i64 e, .agg (papA p)] w fun r w' => r = .returned (.int .i64 1) ∧ Below w.heap.size w w' := by
  by_cases h1 : e < 0
  · clear he
    go_enter Try.func19, Try.ntmps19
    go_wp2
    go_ret
    exact ⟨rfl, (Below.refl _ _).alloc (Nat.le_refl _) _⟩
  · have h2 : 1099511627776 < e := by omega
    clear he
    go_enter Try.func19, Try.ntmps19
    go_wp2
    go_ret
    exact ⟨rfl, (Below.refl _ _).alloc (Nat.le_refl _) _⟩

theorem writeOf_at {es : List (Int × List Int)} {e : Int} {p q : List Int} (h1 : 0 ≤ e) (h2 : e ≤ 1099511627776) (hl : look es e = (q, true)) : writeOf es e p = if q = p then (0, es) else (9, es) := by
  unfold writeOf
  rw [if_neg (by omega), hl, if_pos rfl]
theorem writeOf_new {es : List (Int × List Int)} {e : Int} {p q : List Int} (h1 : 0 ≤ e) (h2 : e ≤ 1099511627776) (hl : look es e = (q, false)) : writeOf es e p = if 100 ≤ es.length then (12, es) else (0, es ++ [(e, p)]) := by
  unfold writeOf
  rw [if_neg (by omega), hl, if_neg (by simp)]

set_option maxRecDepth 100000 in
set_option maxHeartbeats 2000000 in
theorem rwrite_in (base g : Nat) (v : Value) (es : List (Int × List Int)) (st e : Int) (f : Fin 32 → Int) (w : World) (hbase : base ≤ w.heap.size) (hB : RefAt w base g v es st) (h1 : 0 ≤ e) (h2 : e ≤ 1099511627776) (code : Int) (es' : List (Int × List Int)) (hwr : writeOf es e (mkP f) = (code, es')) :
    Calls Try.prog 19 #[.pointer (some ⟨g, 0, none⟩), .int .i64 e, .agg (papA (mkP f))] w fun r w' => r = .returned (.int .i64 code) ∧ ∃ v', RefAt w' base g v' es' st ∧ Chg w w' g v.ownBlock := by
  have hp := mkP_len f
  obtain ⟨A, c, rfl, hlc, hcm, hr⟩ := ref_reads hB
  have h100 := hB.len
  obtain ⟨W1, hW1⟩ : ∃ W1, W1 = w.alloc (.cells (papA (mkP f)) 27) := ⟨_, rfl⟩
  have Hb1 : Hid (Below w.heap.size w W1) := by rw [hW1]; exact (Below.refl _ _).alloc (Nat.le_refl _) _
  have HBlk : Hid (W1.heap[w.heap.size]? = some (.cells (papA (mkP f)) 27)) := by rw [hW1]; exact heap_alloc_new _ _
  have HB1 : Hid (RefAt W1 base g (.slice A es.length c) es st) := hB.below Hb1.out
  have hcell : W1.cell? ⟨g, 0, none⟩ = some (.slice A es.length c) := by rw [HB1.out.cell]; rfl
  have HRp : Hid (W1.rangeAt w.heap.size 0 (pc (mkP f))) := range_of_block HBlk.out
  have HLp : Hid ((Try.prog.info? 27).map (·.size) = some (pc (mkP f)).length) := by show _ = _; rw [pc, List.length_map, hp]; exact info27
  have HP := Lib.hid hp
  have HB := Lib.hid hB
  have HWr := Lib.hid hwr
  have HR := Lib.hid hr
  have HW1 := Lib.hid hW1
  have HBs := Lib.hid hbase
  clear hB hr hp hwr hbase
  go_enter Try.func19, Try.ntmps19
  go_wp2_with fail
  change Code.wp _ _ _ _ (w.alloc (.cells (papA (mkP f)) 27))
  rw [← hW1]
  clear hW1
  go_loopw [7] (fun v wr => ∃ k : Nat, k ≤ es.length ∧ v = .int .i64 k ∧ Hid (∀ j, j < k → ∀ x, es[j]? = some x → (x.1 == e) = false) ∧ wr = W1) (fun v _ => es.length - (intOf v).toNat)
  case atStart => exact ⟨0, Nat.zero_le _, rfl, fun j h => by omega, rfl⟩
  case round =>
    obtain ⟨k, hkn, rfl, hno, rfl⟩ := hrel
    by_cases hlt2 : k < es.length
    · obtain ⟨b, o, rfl, hbl, hrg⟩ := HR.out (by omega)
      obtain ⟨x, hx⟩ : ∃ x, es[k]? = some x := ⟨_, List.getElem?_eq_getElem hlt2⟩
      have HX := Lib.hid hx
      have h32 : x.2.length = 32 := HB.out.ok x (List.mem_of_getElem? hx)
      have hrange : wr.rangeAt b (o + k * 33) (ec x) := Reads.entry (fun j v hv => by rw [Hb1.out.cell hbl]; exact hrg j v hv) HB.out.ok hx
      have hep : wr.cell? ⟨b, o + k * 33, none⟩ = some (.int .i64 x.1) := hrange 0 _ rfl
      have hpap : wr.rangeAt b (o + k * 33 + 1) (pc x.2) := fun j v hv => by
        have := hrange (j + 1) v (by simpa [ec] using hv)
        rw [show o + k * 33 + 1 + j = o + k * 33 + (j + 1) by omega]
        exact this
      have HPP := Lib.hid hpap
      have HLh : Hid ((Try.prog.info? 27).map (·.size) = some (pc x.2).length) := by show _ = _; rw [pc, List.length_map, h32]; exact info27
      have H32 := Lib.hid h32
      clear hx hrange hpap hrg h32
      cases hq : x.1 == e with
      | true =>
        have HQ := Lib.hid hq
        have HA := Lib.hid (look_at HX.out hno.out hq)
        have hcell' : wr.cell? ⟨g, 0, none⟩ = some (.slice (some ⟨b, o, none⟩) es.length c) := hcell
        obtain ⟨q, hq2⟩ : ∃ q, (x.2 == mkP f) = q := ⟨_, rfl⟩
        have heq : ∀ w : World, (binOp .eql 27 (.agg (pc x.2).toArray) (.agg (pc (mkP f)).toArray)).run Try.prog w = .ok (.bool q) w := fun w => by rw [← hq2]; exact run_eq_hash x.2 (mkP f) H32.out HP.out w
        have HQ2 := Lib.hid hq2
        clear hq2
        go_wp2_with fail
        refine start_ (n := 10) (S := fun w' => w'.cell? ⟨g, 0, none⟩ = some (.slice (some ⟨b, o, none⟩) es.length c) ∧ w'.rangeAt b (o + k * 33 + 1) (pc x.2) ∧ w'.rangeAt w.heap.size 0 (pc (mkP f))) (ds := []) #[false, false, false, false, false, false, false, false, false, false] (by kernel_rfl) rfl rfl ?hS7 (fun hHeld => ?_)
        rotate_left
        refine with_tabW rwrite.tab7 rwrite.bits7 (fun HT_ HW_ => ?_)
        generalize hw3d : wr.drew = w3d at hHeld ⊢
        have HW3 := Lib.hid hw3d
        clear hw3d
        refine pure_ (i := 0) (N := some 33) (v := ?_) (a' := ?_) #[true, false, false, false, false, false, false, false, false, false] rfl rfl (any_of HT_.out (by kernel_rfl)) (fun _ _ _ h => h) (Or.inl ⟨by rfl, ?_⟩) ?_ ?_
        rotate_left
        · intro w'
          go_simp
          with_reducible rfl
        rotate_left
        · simp only [Act.put, List.setIfInBounds_toArray, List.set_cons_zero, List.set_cons_succ]
          rfl
        refine pure_ (i := 1) (N := some 34) (v := ?_) (a' := ?_) #[true, true, false, false, false, false, false, false, false, false] rfl rfl (any_of HT_.out (by kernel_rfl)) (fun _ _ _ h => h) (Or.inl ⟨by rfl, ?_⟩) ?_ ?_
        rotate_left
        · intro w'
          go_simp
          with_reducible rfl
        rotate_left
        · simp only [Act.put, List.setIfInBounds_toArray, List.set_cons_zero, List.set_cons_succ]
          rfl
        refine pure_ (i := 2) (N := some 35) (v := ?_) (a' := ?_) #[true, true, true, false, false, false, false, false, false, false] rfl rfl (any_of HT_.out (by kernel_rfl)) (fun _ _ _ h => h) (Or.inl ⟨by rfl, ?_⟩) ?_ ?_
        rotate_left
        · intro w'
          go_simp
          with_reducible rfl
        rotate_left
        · simp only [Act.put, List.setIfInBounds_toArray, List.set_cons_zero, List.set_cons_succ]
          rfl
        refine take_ (i := 3) (N := some 36) (v := ?_) (a' := ?_) #[true, true, true, true, false, false, false, false, false, false] rfl rfl (take_ofW HT_.out HW_.out (by kernel_rfl)) (fun _ _ _ h => h) (Or.inl ⟨by rfl, ?_⟩) hHeld ?_ ?_
        rotate_left
        · rintro w' ⟨s0, s1, s2⟩
          go_simp
          with_reducible rfl
        rotate_left
        · simp only [Act.put, List.setIfInBounds_toArray, List.set_cons_zero, List.set_cons_succ]
          rfl
        refine pure_ (i := 4) (N := some 37) (v := ?_) (a' := ?_) #[true, true, true, true, true, false, false, false, false, false] rfl rfl (any_of HT_.out (by kernel_rfl)) (fun _ _ _ h => h) (Or.inl ⟨by rfl, ?_⟩) ?_ ?_
        rotate_left
        · intro w'
          go_simp
          with_reducible rfl
        rotate_left
        · simp only [Act.put, List.setIfInBounds_toArray, List.set_cons_zero, List.set_cons_succ]
          rfl
        refine pure_ (i := 5) (N := some 38) (v := ?_) (a' := ?_) #[true, true, true, true, true, true, false, false, false, false] rfl rfl (any_of HT_.out (by kernel_rfl)) (fun _ _ _ h => h) (Or.inl ⟨by rfl, ?_⟩) ?_ ?_
        rotate_left
        · intro w'
          go_simp
          with_reducible rfl
        rotate_left
        · simp only [Act.put, List.setIfInBounds_toArray, List.set_cons_zero, List.set_cons_succ]
          rfl
        refine pure_ (i := 6) (N := some 39) (v := ?_) (a' := ?_) #[true, true, true, true, true, true, true, false, false, false] rfl rfl (any_of HT_.out (by kernel_rfl)) (fun _ _ _ h => h) (Or.inl ⟨by rfl, ?_⟩) ?_ ?_
        rotate_left
        · intro w'
          go_simp
          with_reducible rfl
        rotate_left
        · simp only [Act.put, List.setIfInBounds_toArray, List.set_cons_zero, List.set_cons_succ]
          rfl
        refine take_ (i := 7) (N := some 40) (v := .agg (pc x.2).toArray) (a' := ?_) #[true, true, true, true, true, true, true, true, false, false] rfl rfl (take_ofW HT_.out HW_.out (by kernel_rfl)) (fun _ _ _ h => h) (yieldsIf_load_mid (by rfl) 27 (.tmp 39) (by rfl) b (o + k * 33 + 1) (by rfl) (pc x.2) _ (fun _ h => h.2.1) Try.underlying27 rfl HLh.out) hHeld ?_ ?_
        rotate_left
        · simp only [Act.put, List.setIfInBounds_toArray, List.set_cons_zero, List.set_cons_succ]
          rfl
        refine take_ (i := 8) (N := some 41) (v := .agg (pc (mkP f)).toArray) (a' := ?_) #[true, true, true, true, true, true, true, true, true, false] rfl rfl (take_ofW HT_.out HW_.out (by kernel_rfl)) (fun _ _ _ h => h) (yieldsIf_load_mid (by rfl) 27 (.tmp 5) (by rfl) w.heap.size 0 (by rfl) (pc (mkP f)) _ (fun _ h => h.2.2) Try.underlying27 rfl HLp.out) hHeld ?_ ?_
        rotate_left
        · simp only [Act.put, List.setIfInBounds_toArray, List.set_cons_zero, List.set_cons_succ]
          rfl
        refine pure_ (i := 9) (N := some 42) (v := ?_) (a' := ?_) #[true, true, true, true, true, true, true, true, true, true] rfl rfl (any_of HT_.out (by kernel_rfl)) (fun _ _ _ h => h) (Or.inl ⟨by rfl, ?_⟩) ?_ ?_
        rotate_left
        · intro w'
          go_simp
          with_reducible rfl
        rotate_left
        · simp only [Act.put, List.setIfInBounds_toArray, List.set_cons_zero, List.set_cons_succ]
          rfl
        refine done_ (done_of HT_.out (by kernel_rfl)) ?_
        have HB3 : Hid (RefAt w3d base g (.slice (some ⟨b, o, none⟩) es.length c) es st) := by rw [← HW3.out]; exact HB1.out.below (Below.refl _ _).drew
        have HC3 : Hid (Chg w w3d g (Value.slice (some ⟨b, o, none⟩) es.length c).ownBlock) := by rw [← HW3.out]; exact Chg.of_below Hb1.out.drew _ _
        have hwo := writeOf_at (p := mkP f) h1 h2 HA.out
        rw [HWr.out] at hwo
        clear HT_ HW_ hHeld heq HX
        cases q with
        | true =>
          rw [if_pos (by simpa using HQ2.out)] at hwo
          obtain ⟨rfl, rfl⟩ := Prod.mk.inj hwo
          clear hwo
          go_wp2_with fail
          go_ret
          exact ⟨rfl, _, HB3.out, HC3.out⟩
        | false =>
          rw [if_neg (by simpa using HQ2.out)] at hwo
          obtain ⟨rfl, rfl⟩ := Prod.mk.inj hwo
          clear hwo
          go_wp2_with fail
          go_ret
          exact ⟨rfl, _, HB3.out, HC3.out⟩
        case hS7 => exact ⟨hcell', HPP.out, HRp.out⟩
      | false =>
        have HN := Lib.hid (no_next HX.out hno.out hq)
        go_wp2_with fail
        go_roundw
        case rel => exact ⟨k + 1, by omega, by go_num, HN, trivial⟩
        case measure => simp [intOf]; omega
    · have hke : k = es.length := by omega
      subst hke
      have HA := Lib.hid (look_out hno.out)
      have hwo := writeOf_new (p := mkP f) h1 h2 HA.out
      rw [HWr.out] at hwo
      clear hno
      by_cases hfull : 100 ≤ es.length
      · rw [if_pos hfull] at hwo
        obtain ⟨rfl, rfl⟩ := Prod.mk.inj hwo
        clear hwo
        go_wp2_with fail
        go_ret
        exact ⟨rfl, _, HB1.out, Chg.of_below Hb1.out _ _⟩
      · rw [if_neg hfull] at hwo
        obtain ⟨rfl, rfl⟩ := Prod.mk.inj hwo
        clear hwo
        have hM : es.length < 100 := by omega
        have HM := Lib.hid hM
        have hfree : wr.frozen? ⟨g, 0, none⟩ = false := HB1.out.free 0
        have hgl : g < wr.heap.size := HB1.out.lt
        have hlt : w.heap.size < wr.heap.size := (Array.getElem?_eq_some_iff.1 HBlk.out).1
        have HOwn : Hid (wr.ownsRow base 66 33 (.slice A es.length c) es.length (rc es)) := HB1.out.own
        have HNg : Hid ((Value.slice A es.length c).ownBlock ≠ some g) := HB1.out.apart
        have HNn : Hid ((Value.slice A es.length c).ownBlock ≠ some w.heap.size) := by
          intro e
          obtain ⟨q1, q2⟩ := HB.out.own.lt w.heap.size e
          omega
        have HBase : Hid (base ≤ wr.heap.size) := Nat.le_trans HBs.out Hb1.out.size
        obtain ⟨i0, hi, hz0, hz1, hz2⟩ := info_parts66
        have HI0 := Lib.hid hi
        have HZ0 := Lib.hid hz0
        have HZ1 := Lib.hid hz1
        have HZ2 := Lib.hid hz2
        clear hi hz0 hz1 hz2 hfull h100
        go_wp2_with fail
        refine start_ (n := 13) (S := fun w' => w'.cell? ⟨g, 0, none⟩ = some (.slice A es.length c) ∧ w'.rangeAt w.heap.size 0 (pc (mkP f))) (ds := [12]) #[false, false, false, false, false, false, false, false, false, false, false, false, false] (by kernel_rfl) rfl rfl ?hS12 (fun hHeld => ?_)
        rotate_left
        refine with_tabW rwrite.tab12 rwrite.bits12 (fun HT_ HW_ => ?_)
        generalize hw3d : wr.drew = w3d at hHeld ⊢
        have HW3 := Lib.hid hw3d
        clear hw3d
        refine pure_ (i := 0) (N := some 49) (v := ?_) (a' := ?_) #[true, false, false, false, false, false, false, false, false, false, false, false, false] rfl rfl (any_of HT_.out (by kernel_rfl)) (fun _ _ _ h => h) (Or.inl ⟨by rfl, ?_⟩) ?_ ?_
        rotate_left
        · intro w'
          go_simp
          with_reducible rfl
        rotate_left
        · simp only [Act.put, List.setIfInBounds_toArray, List.set_cons_zero, List.set_cons_succ]
          rfl
        refine pure_ (i := 1) (N := some 50) (v := ?_) (a' := ?_) #[true, true, false, false, false, false, false, false, false, false, false, false, false] rfl rfl (any_of HT_.out (by kernel_rfl)) (fun _ _ _ h => h) (Or.inl ⟨by rfl, ?_⟩) ?_ ?_
        rotate_left
        · intro w'
          go_simp
          with_reducible rfl
        rotate_left
        · simp only [Act.put, List.setIfInBounds_toArray, List.set_cons_zero, List.set_cons_succ]
          rfl
        refine pure_ (i := 2) (N := some 51) (v := ?_) (a' := ?_) #[true, true, true, false, false, false, false, false, false, false, false, false, false] rfl rfl (any_of HT_.out (by kernel_rfl)) (fun _ _ _ h => h) (Or.inl ⟨by rfl, ?_⟩) ?_ ?_
        rotate_left
        · intro w'
          go_simp
          with_reducible rfl
        rotate_left
        · simp only [Act.put, List.setIfInBounds_toArray, List.set_cons_zero, List.set_cons_succ]
          rfl
        refine pure_ (i := 3) (N := some 52) (v := ?_) (a' := ?_) #[true, true, true, true, false, false, false, false, false, false, false, false, false] rfl rfl (any_of HT_.out (by kernel_rfl)) (fun _ _ _ h => h) (Or.inl ⟨by rfl, ?_⟩) ?_ ?_
        rotate_left
        · intro w'
          go_simp
          with_reducible rfl
        rotate_left
        · simp only [Act.put, List.setIfInBounds_toArray, List.set_cons_zero, List.set_cons_succ]
          rfl
        refine take_ (i := 4) (N := some 53) (v := ?_) (a' := ?_) #[true, true, true, true, true, false, false, false, false, false, false, false, false] rfl rfl (take_ofW HT_.out HW_.out (by kernel_rfl)) (fun _ _ _ h => h) (Or.inl ⟨by rfl, ?_⟩) hHeld ?_ ?_
        rotate_left
        · rintro w' ⟨s0, s1⟩
          go_simp
          with_reducible rfl
        rotate_left
        · simp only [Act.put, List.setIfInBounds_toArray, List.set_cons_zero, List.set_cons_succ]
          rfl
        refine pure_ (i := 5) (N := some 54) (v := ?_) (a' := ?_) #[true, true, true, true, true, true, false, false, false, false, false, false, false] rfl rfl (any_of HT_.out (by kernel_rfl)) (fun _ _ _ h => h) (Or.inl ⟨by rfl, ?_⟩) ?_ ?_
        rotate_left
        · intro w'
          go_simp
          with_reducible rfl
        rotate_left
        · simp only [Act.put, List.setIfInBounds_toArray, List.set_cons_zero, List.set_cons_succ]
          rfl
        refine take_ (i := 6) (N := some 55) (v := .agg (pc (mkP f)).toArray) (a' := ?_) #[true, true, true, true, true, true, true, false, false, false, false, false, false] rfl rfl (take_ofW HT_.out HW_.out (by kernel_rfl)) (fun _ _ _ h => h) (yieldsIf_load_mid (by rfl) 27 (.tmp 5) (by rfl) w.heap.size 0 (by rfl) (pc (mkP f)) _ (fun _ h => h.2) Try.underlying27 rfl HLp.out) hHeld ?_ ?_
        rotate_left
        · simp only [Act.put, List.setIfInBounds_toArray, List.set_cons_zero, List.set_cons_succ]
          rfl
        refine pure_ (i := 7) (N := some 56) (v := .agg (enA (e, mkP f))) (a' := ?_) #[true, true, true, true, true, true, true, true, false, false, false, false, false] rfl rfl (any_of HT_.out (by kernel_rfl)) (fun _ _ _ h => h) (yields_build66 rfl e f (.tmp 54) (.tmp 55) (by rfl) (by rfl) (by rfl)) ?_ ?_
        rotate_left
        · simp only [Act.put, List.setIfInBounds_toArray, List.set_cons_zero, List.set_cons_succ]
          rfl
        refine one_ (i := 8) (N := some 57) #[true, true, true, true, true, true, true, true, true, false, false, false, false] rfl rfl (one_of HT_.out (by kernel_rfl)) (by decide) (fun K hK => ?_)
        refine step_bs66 rfl e f (.tmp 56) (by rfl) (by rfl) ?_
        obtain ⟨c1, c2, c3⟩ := keepAlloc (o := .cells (enA (e, mkP f)) 66) hHeld.1 (by rw [← HW3.out]; exact hfree : w3d.frozen? ⟨g, 0, none⟩ = false) hHeld.2 (by rw [← HW3.out]; exact hgl) (by rw [← HW3.out]; exact hlt)
        refine hK.out _ _ ⟨c1, c3⟩ (fun hHeld => ?_)
        clear hK K
        generalize hw4 : w3d.alloc (.cells (enA (e, mkP f)) 66) = w4 at hHeld c2 ⊢
        have HW4 := Lib.hid hw4
        clear hw4 c1 c3
        refine norm_ (a' := ?_) ?_ ?_
        rotate_left
        · show Act.put _ (some 57) _ = _
          simp only [Act.put, List.setIfInBounds_toArray, List.set_cons_zero, List.set_cons_succ]
          rfl
        refine one_ (i := 9) (N := some 58) #[true, true, true, true, true, true, true, true, true, true, false, false, false] rfl rfl (one_of HT_.out (by kernel_rfl)) (by decide) (fun K hK => ?_)
        have hO4 : w4.ownsRow base 66 33 (.slice A es.length c) es.length (rc es) := by
          rw [← HW4.out, ← HW3.out]; exact (HOwn.out.drew).kept (row := none) (World.grownBy_alloc _ _ none) (by cases hv : Value.ownBlock (.slice A es.length c) <;> simp)
        have hg4 : g < w4.heap.size := by rw [← HW4.out, ← HW3.out]; exact Nat.lt_of_lt_of_le hgl (by simp [World.alloc])
        have hN4 : w.heap.size < w4.heap.size := by rw [← HW4.out, ← HW3.out]; exact Nat.lt_of_lt_of_le hlt (by simp [World.alloc])
        have hb4 : base ≤ w4.heap.size := by rw [← HW4.out, ← HW3.out]; exact Nat.le_trans HBase.out (by simp [World.alloc])
        have hnews : ∀ j u, (ec (e, mkP f))[j]? = some u → w4.cell? ((⟨w3d.heap.size, 0, none⟩ : Addr).add j) = some u := by rw [← HW4.out]; exact fun j u h => World.news_of_block (cs := enA (e, mkP f)) (heap_alloc_new _ _) j u (by simpa [enA] using h)
        have hlen : (ec (e, mkP f)).length = 1 * 33 := by simp [ec, pc, HP.out]
        have hone : ∀ u ∈ ec (e, mkP f), u.oneCell' = true := by intro u hu; rcases List.mem_cons.1 hu with rfl | hu; rfl; exact papA_one _ u hu
        have H100 := HM.out
        refine step_append_lies _ rfl _ _ _ (by rfl) base 66 i0 _ 33 40 Try.underlying39 HI0.out HZ0.out HZ1.out HZ2.out zero_size (by decide) (.slice A es.length c) es.length (rc es) (by rfl) hO4 ⟨w3d.heap.size, 0, none⟩ 1 1 (ec (e, mkP f)) (by rfl) hlen hnews hone (by decide) (by unfold maxLen; omega) (by omega) hb4 w4.heap.size rfl ?_
        intro gg cap w5 hown1 hgrow hat hlt5
        clear hnews hlen hone
        obtain ⟨c1, c4, c3⟩ := keepGrown hHeld.1 c2 hHeld.2 hg4 hN4 hgrow HNg.out HNn.out
        have HE : Hid (w5.ownsRow base 66 33 (.slice (some ⟨gg, 0, none⟩) (es.length + 1) cap) (es.length + 1) (rc es ++ ec (e, mkP f)) ∧ w4.grownBy w5 (Value.slice A es.length c).ownBlock ∧ ((Value.slice A es.length c).ownBlock = some gg ∨ gg = w4.heap.size) ∧ g < w4.heap.size ∧ w.heap.size < w4.heap.size) := ⟨hown1, hgrow, hat, hg4, hN4⟩
        refine hK.out _ _ ⟨c1, c3⟩ (fun hHeld => ?_)
        clear hK K hO4 hb4 hown1 hgrow hat hlt5 c1 c3 hg4 hN4 H100
        refine norm_ (a' := ?_) ?_ ?_
        rotate_left
        · show Act.put _ (some 58) _ = _
          simp only [Act.put, List.setIfInBounds_toArray, List.set_cons_zero, List.set_cons_succ]
          rfl
        refine pure_ (i := 10) (N := some 59) (v := ?_) (a' := ?_) #[true, true, true, true, true, true, true, true, true, true, true, false, false] rfl rfl (any_of HT_.out (by kernel_rfl)) (fun _ _ _ h => h) (Or.inl ⟨by rfl, ?_⟩) ?_ ?_
        rotate_left
        · intro w'
          go_simp
          with_reducible rfl
        rotate_left
        · simp only [Act.put, List.setIfInBounds_toArray, List.set_cons_zero, List.set_cons_succ]
          rfl
        refine pure_ (i := 11) (N := some 60) (v := ?_) (a' := ?_) #[true, true, true, true, true, true, true, true, true, true, true, true, false] rfl rfl (any_of HT_.out (by kernel_rfl)) (fun _ _ _ h => h) (Or.inl ⟨by rfl, ?_⟩) ?_ ?_
        rotate_left
        · intro w'
          go_simp
          with_reducible rfl
        rotate_left
        · simp only [Act.put, List.setIfInBounds_toArray, List.set_cons_zero, List.set_cons_succ]
          rfl
        refine last_ (i := 12) (N := none) #[true, true, true, true, true, true, true, true, true, true, true, true, true] rfl rfl (one_of HT_.out (by kernel_rfl)) (by decide) (fun K hK => ?_)
        have c1 := hHeld.1
        refine skip_ (w1 := w5.setCell ⟨g, 0, none⟩ (.slice (some ⟨gg, 0, none⟩) (es.length + 1) cap)) (by rfl) rfl ?_ ?_
        · go_simp
        refine hK.out _ _ ?_
        refine done_ (done_of HT_.out (by kernel_rfl)) ?_
        generalize hw6 : w5.setCell ⟨g, 0, none⟩ (.slice (some ⟨gg, 0, none⟩) (es.length + 1) cap) = w6
        have HW6 := Lib.hid hw6
        clear hw6 c1 hK K
        try go_wp2
        go_ret
        refine ⟨rfl, ?_⟩
        rw [← HW6.out]
        obtain ⟨q1, q2, q3, q4, q5⟩ := HE.out
        exact rwrite_end HB.out Hb1.out (by rw [HW3.out]; exact HW4.out) q2 q1 q3 HP.out HM.out
        case hS12 => exact ⟨hcell, HRp.out⟩

theorem rwrite_calls (base g : Nat) (v : Value) (es : List (Int × List Int)) (st e : Int) (p : List Int) (w : World) (hp : p.length = 32) (hbase : base ≤ w.heap.size) (hB : RefAt w base g v es st) (code : Int) (es' : List (Int × List Int)) (hwr : writeOf es e p = (code, es')) :
    Calls Try.prog 19 #[.pointer (some ⟨g, 0, none⟩), .int .i64 e, .agg (papA p)] w fun r w' => r = .returned (.int .i64 code) ∧ ∃ v', RefAt w' base g v' es' st ∧ Chg w w' g v.ownBlock := by
  by_cases h : e < 0 ∨ 1099511627776 < e
  · have hw := hwr
    unfold writeOf at hw
    rw [if_pos h] at hw
    obtain ⟨rfl, rfl⟩ := Prod.mk.inj hw
    refine (rwrite_out g e p w h).mono ?_
    rintro r w' ⟨rfl, hb⟩
    exact ⟨rfl, v, hB.below hb, Chg.of_below hb _ _⟩
  · obtain ⟨f, rfl⟩ := mkP_of p hp
    exact rwrite_in base g v es st e f w hbase hB (by omega) (by omega) code es' hwr
end Go.Proofs.Ytpnecknillpjkaa.Bk
