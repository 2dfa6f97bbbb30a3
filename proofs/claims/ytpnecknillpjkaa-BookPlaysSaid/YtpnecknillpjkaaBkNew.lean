import Derived.Test.YtpnecknillpjkaaBkWrite
import Derived.Test.YtpnecknillpjkaaBkBuild
import Derived.Outline
import Derived.Test.YtpnecknillpjkaaWTab
import Derived.Test.YtpnecknillpjkaaWMore
import Derived.Deep.AppendLies
import Derived.Deep.RegionHeld3
import Derived.Deep.DrawnRows
namespace Go.Proofs.Ytpnecknillpjkaa.Bk
open Go.RowKit Go.Proofs.YtpnecknillpjkaaW.PrintWords Go.Proofs.YtpnecknillpjkaaW.PrintLast
attribute [local go_sem ↓] run_build59' run_bs59' Go.wp_at_zero Go.wp_at_succ

def write.T10 : Bool × List (List Nat × List Nat) := (true, [([], []), ([], []), ([1], [1]), ([2], [2]), ([3], [3]), ([], []), ([], []), ([5, 6], [5, 6]), ([7], [7]), ([4, 8], [4, 8]), ([0, 0, 1, 2, 3, 4, 5, 6, 7, 8, 9], [0]), ([10, 0, 1, 2, 3, 4, 5, 6, 7, 8, 9], [10]), ([11, 9, 9, 0, 1, 2, 3, 4, 5, 6, 7, 8, 9], [9, 11])])
def write.B10 : List Nat := [0, 0, 2, 6, 14, 0, 0, 96, 224, 510, 1023, 2047, 4095]
theorem write.tab10 : rtab .any (opsOf Try.f13 10) = write.T10 := by kernel_rfl
theorem write.bits10 : waitsOk write.T10.2 write.B10 = true := by kernel_rfl






theorem yields_build59 {ops : Array Oper} {oi : Oper} {a : Act} (hgd : oi.guard = none) (e : Int) (f : Fin 32 → Int) (x y : Operand) (ho : oi.op = .build 59 #[(0, x), (1, y)]) (hx : a.eval x = .int .i64 e) (hy : a.eval y = .agg (pc (mkP f)).toArray) :
    Yields Try.prog ops oi (.agg (enA (e, mkP f))) a := by
  have hw : Region.wanted oi (yielded ops a.tmps) = true := by simp [Region.wanted, hgd]
  refine .inl ⟨hw, fun w => ?_⟩
  unfold execOp
  have hm : (#[(0, x), (1, y)] : Array (Nat × Operand)).map (fun y => (y.1, a.eval y.2)) = #[(0, .int .i64 e), (1, .agg (pc (mkP f)).toArray)] := by simp [hx, hy]
  have hr := run_build59' e f w
  rw [← hm] at hr
  simp only [ho, Sem.run_bind, hr, Result.andThen_ok]
  rfl

theorem step_bs59 {ops : Array Oper} {oi : Oper} {a : Act} {w : World} {K : Act → World → Prop} {Q : Exit → Act → World → Prop} {E : Prop} (hgd : oi.guard = none) (e : Int) (f : Fin 32 → Int) (x : Operand) (ho : oi.op = .buildSlice 50 1 #[(0, x)]) (hx : a.eval x = .agg (enA (e, mkP f)))
    (h : K (a.put oi.dst (.slice (some ⟨w.heap.size, 0, none⟩) 1 1)) (w.alloc (.cells (enA (e, mkP f)) 59))) : if Region.wanted oi (yielded ops a.tmps) = true then Oper.wp Try.prog oi a w K Q else E := by
  have hw : Region.wanted oi (yielded ops a.tmps) = true := by simp [Region.wanted, hgd]
  rw [if_pos hw]
  unfold Oper.wp execOp
  have hm : (#[(0, x)] : Array (Nat × Operand)).map (fun y => (y.1, a.eval y.2)) = #[(0, .agg (enA (e, mkP f)))] := by simp [hx]
  have hr := run_bs59' e f w
  rw [← hm] at hr
  simp only [ho, Sem.run_bind, hr, Result.andThen_ok]
  exact h

theorem book_set {w : World} {g : Nat} {x y z v : Value} (h : w.heap[g]? = some (.cells #[x, y, z] 57 (0, 0))) : (w.setCell ⟨g, 0, none⟩ v).heap[g]? = some (.cells #[v, y, z] 57 (0, 0)) := by
  have hlt := lt_of_block h
  have h' : w.heap[g] = .cells #[x, y, z] 57 (0, 0) := by simpa [Array.getElem?_eq_getElem hlt] using h
  show (w.heap.modify g _)[g]? = _
  rw [Array.getElem?_eq_getElem (by simpa using hlt), Array.getElem_modify_self, h']
  rfl

theorem write_end {w w3 w4 w5 : World} {o : Obj} {base g gg cap : Nat} {v : Value} {es : List (Int × List Int)} {st fl : Int} {x : Int × List Int} (hB : BookAt w base g v es st fl) (hb : Below w.heap.size w w3) (h4 : w3.drew.alloc o = w4) (hgr : w4.grownBy w5 v.ownBlock)
    (hown : w5.ownsRow base 59 33 (.slice (some ⟨gg, 0, none⟩) (es.length + 1) cap) (es.length + 1) (rc es ++ ec x)) (hat : v.ownBlock = some gg ∨ gg = w4.heap.size) (hx : x.2.length = 32) (hl : es.length < 100) :
    ∃ v', BookAt (w5.setCell ⟨g, 0, none⟩ (.slice (some ⟨gg, 0, none⟩) (es.length + 1) cap)) base g v' (es ++ [x]) st fl ∧ Chg w (w5.setCell ⟨g, 0, none⟩ (.slice (some ⟨gg, 0, none⟩) (es.length + 1) cap)) g v.ownBlock ∧ (v'.ownBlock = v.ownBlock ∨ ∃ k, v'.ownBlock = some k ∧ w.heap.size ≤ k) := by
  have b4 : Below w.heap.size w w4 := by rw [← h4]; exact (Below.drew hb).alloc hb.size _
  have hne := hB.apart
  have hg5 : w5.heap[g]? = some (.cells #[v, .int .i64 st, .int .i64 fl] 57 (0, 0)) := (hgr.block g (Nat.lt_of_lt_of_le hB.lt b4.size) hne.symm).trans ((b4.block g hB.lt).trans hB.blk)
  have hgg : gg ≠ g := by
    rintro rfl
    rcases hat with h | h
    · exact hne h
    · have := Nat.lt_of_lt_of_le hB.lt b4.size
      omega
  refine ⟨_, ⟨hB.lo, book_set hg5, ?_, ?_, ?_⟩, ⟨?_, ?_, ?_, ?_, ?_⟩, ?_⟩
  · unfold Own
    have e1 : (es ++ [x]).length = es.length + 1 := by simp
    have e2 : rc (es ++ [x]) = rc es ++ ec x := by simp [rc]
    rw [e1, e2]
    exact ownsRow_setCell_other hown (by intro e; exact hgg (by simpa [Value.ownBlock] using e)) _
  · intro y hy
    rcases List.mem_append.1 hy with h | h
    · exact hB.ok y h
    · rw [List.mem_singleton.1 h]; exact hx
  · simp; omega
  · exact hgr.os.trans b4.os
  · exact hgr.tape.trans b4.tape
  · exact hgr.output.trans b4.output
  · exact Nat.le_trans (Nat.le_trans b4.size hgr.size) (by simp [World.setCell])
  · intro k hk h1 h2
    rw [Below.heap_setCell _ _ _ _ h1, hgr.block k (Nat.lt_of_lt_of_le hk b4.size) h2, b4.block k hk]
  · rcases hat with h | h
    · exact .inl h.symm
    · exact .inr ⟨gg, rfl, by rw [h]; exact b4.size⟩

theorem keepDrew {w : World} {g N : Nat} {v : Value} {cs : List Value} (h1 : w.cell? ⟨g, 0, none⟩ = some v) (h2 : w.frozen? ⟨g, 0, none⟩ = false) (h3 : w.rangeAt N 0 cs) :
    w.drew.cell? ⟨g, 0, none⟩ = some v ∧ w.drew.frozen? ⟨g, 0, none⟩ = false ∧ w.drew.rangeAt N 0 cs := ⟨h1, h2, h3⟩
theorem keepAlloc {w : World} {g N : Nat} {v : Value} {cs : List Value} (h1 : w.cell? ⟨g, 0, none⟩ = some v) (h2 : w.frozen? ⟨g, 0, none⟩ = false) (h3 : w.rangeAt N 0 cs) (hg : g < w.heap.size) (hN : N < w.heap.size) (o : Obj) :
    (w.alloc o).cell? ⟨g, 0, none⟩ = some v ∧ (w.alloc o).frozen? ⟨g, 0, none⟩ = false ∧ (w.alloc o).rangeAt N 0 cs :=
  ⟨by rw [World.cell?_alloc_past _ _ _ hg]; exact h1, by rw [World.frozen?_alloc_past _ _ _ hg]; exact h2, fun j u hu => by rw [World.cell?_alloc_past _ _ _ hN]; exact h3 j u hu⟩
theorem keepGrown {w w1 : World} {g N : Nat} {v : Value} {cs : List Value} {r : Option Nat} (h1 : w.cell? ⟨g, 0, none⟩ = some v) (h2 : w.frozen? ⟨g, 0, none⟩ = false) (h3 : w.rangeAt N 0 cs) (hg : g < w.heap.size) (hN : N < w.heap.size)
    (hgr : w.grownBy w1 r) (r1 : r ≠ some g) (r2 : r ≠ some N) :
    w1.cell? ⟨g, 0, none⟩ = some v ∧ w1.frozen? ⟨g, 0, none⟩ = false ∧ w1.rangeAt N 0 cs :=
  ⟨by rw [hgr.cell_far _ hg r1.symm]; exact h1, by rw [hgr.frozen_far _ hg r1.symm]; exact h2, fun j u hu => by rw [hgr.cell_far _ hN r2.symm]; exact h3 j u hu⟩

set_option maxRecDepth 100000 in
set_option maxHeartbeats 1000000 in
theorem write_new (base g : Nat) (v : Value) (es : List (Int × List Int)) (st fl e : Int) (p : List Int) (w : World) (hp : p.length = 32) (hbase : base ≤ w.heap.size) (hB : BookAt w base g v es st fl) (h1 : 0 ≤ e) (h2 : e ≤ 1099511627776) (hl : (look es e).2 = false) (h100 : es.length < 100) :
    Calls Try.prog 13 #[.pointer (some ⟨g, 0, none⟩), .int .i64 e, .agg (papA p)] w fun r w' => r = .returned (.int .i64 0) ∧ ∃ v', BookAt w' base g v' (es ++ [(e, p)]) st fl ∧ Chg w w' g v.ownBlock ∧ (v'.ownBlock = v.ownBlock ∨ ∃ k, v'.ownBlock = some k ∧ w.heap.size ≤ k) := by
  obtain ⟨f, rfl⟩ := mkP_of p hp
  obtain ⟨A, c, rfl, _, hr⟩ := hB.own.reads
  have hb1 : Below w.heap.size w (w.alloc (.cells (papA (mkP f)) 27)) := (Below.refl _ _).alloc (Nat.le_refl _) _
  have hB1 := hB.below hb1
  have hh := holds_calls A c g es e (w.alloc (.cells (papA (mkP f)) 27)) hB1.lt (by rw [hB1.cell]; rfl) hB.len hB.ok (hr.below hb1)
  rw [hl] at hh
  have h32 := look_len hB.ok e
  generalize (look es e).1 = hs at *
  have HH := Lib.hid hh
  have HL : Hid ((Try.prog.info? 27).map (·.size) = some (papA hs).size) := by show _ = _; rw [papA_size h32]; exact info27
  have HT : Hid (∀ w : World, (w.alloc (.cells (papA zeros) 27)).there w.heap.size 0 (papA hs).size) := fun w => alloc_there w hs h32
  have HBk := Lib.hid hB
  have HLp : Hid ((Try.prog.info? 27).map (·.size) = some (pc (mkP f)).length) := by show _ = _; rw [pc, List.length_map, hp]; exact info27
  have HP := Lib.hid hp
  clear hB hr hB1 hh hl hb1 h32 hp
  go_enter Try.func13, Try.ntmps13
  go_wp2_with fail
  refine HH.out.mono ?_
  clear HH
  rintro r w2 ⟨rfl, hb⟩
  have HB : Hid (Below w.heap.size w w2) := ((Below.refl _ _).alloc (Nat.le_refl _) _).trans (hb.mono (by simp))
  obtain ⟨w3, hw3⟩ : ∃ w3, w3 = heldW w2 hs := ⟨_, rfl⟩
  have HB3 : Hid (Below w.heap.size w w3) := by rw [hw3]; exact HB.out.trans ((heldW_below w2 hs).mono HB.out.size)
  have HBk3 := Lib.hid (HBk.out.below HB3.out)
  have hcell : w3.cell? ⟨g, 0, none⟩ = some (.slice A es.length c) := by rw [HBk3.out.cell]; rfl
  have hfree : w3.frozen? ⟨g, 0, none⟩ = false := HBk3.out.free 0
  have hgl : g < w3.heap.size := HBk3.out.lt
  have hres : w2.heap[w.heap.size]? = some (.cells (papA (mkP f)) 27) := (hb.block _ (by simp)).trans (heap_alloc_new _ _)
  have hlt2 : w.heap.size < w2.heap.size := (Array.getElem?_eq_some_iff.1 hres).1
  have hlt : w.heap.size < w3.heap.size := Nat.lt_of_lt_of_le hlt2 (by rw [hw3]; exact (heldW_below w2 hs).size)
  have hrp : w3.rangeAt w.heap.size 0 (pc (mkP f)) := by rw [hw3]; exact range_of_block (((heldW_below w2 hs).block _ hlt2).trans hres)
  have HW := Lib.hid hw3
  clear hb hw3 hres hlt2
  have hu := Try.underlying27
  have HRP := Lib.hid hrp
  clear hrp
  go_wp2_with (first | ((refine wpList_store_mid rfl 27 (.tmp 7) (.tmp 23) (by rfl) w2.heap.size 0 (papA hs) (by rfl) (by rfl) (HT.out w2) HL.out (papA_all _) ?_); change wpList _ _ _ _ _ (heldW w2 hs); rw [← HW.out]))
  have hrp := HRP.out
  have hi27 := HLp.out
  have hl27 : (pc (mkP f)).length = 32 := by simp [pc, HP.out]
  have h1c : ∀ v ∈ pc (mkP f), v.oneCell' = true := papA_one (mkP f)
  have HOwn : Hid (w3.ownsRow base 59 33 (.slice A es.length c) es.length (rc es)) := HBk3.out.own
  have HNg : Hid ((Value.slice A es.length c).ownBlock ≠ some g) := HBk3.out.apart
  have HNn : Hid ((Value.slice A es.length c).ownBlock ≠ some w.heap.size) := by
    intro e
    obtain ⟨q1, q2⟩ := HBk.out.own.lt w.heap.size e
    omega
  obtain ⟨i0, hi, hz0, hz1, hz2⟩ := info_parts59
  have HI0 := Lib.hid hi
  have HZ0 := Lib.hid hz0
  have HZ1 := Lib.hid hz1
  have HZ2 := Lib.hid hz2
  have HM : Hid (es.length < 100) := h100
  have HBase : Hid (base ≤ w3.heap.size) := Nat.le_trans hbase HB3.out.size
  clear hi hz0 hz1 hz2 h100 hbase HLp HRP HT HL HB h1 h2
  refine start_ (n := 13) (S := fun w' => w'.cell? ⟨g, 0, none⟩ = some (.slice A es.length c) ∧ w'.rangeAt w.heap.size 0 (pc (mkP f))) (ds := [12]) #[false, false, false, false, false, false, false, false, false, false, false, false, false] (by kernel_rfl) rfl rfl ?hS0 (fun hHeld => ?_)
  rotate_left
  refine with_tabW write.tab10 write.bits10 (fun HT_ HW_ => ?_)
  generalize hw3d : w3.drew = w3d at hHeld ⊢
  have HW3 := Lib.hid hw3d
  have hHeld0 := hHeld
  clear hw3d
  refine pure_ (i := 0) (N := some 41) (v := ?_) (a' := ?_) #[true, false, false, false, false, false, false, false, false, false, false, false, false] rfl rfl (any_of HT_.out (by kernel_rfl)) (fun _ _ _ h => h) (Or.inl ⟨by rfl, ?_⟩) ?_ ?_
  rotate_left
  · intro w'
    go_simp
    with_reducible rfl
  rotate_left
  · simp only [Act.put, List.setIfInBounds_toArray, List.set_cons_zero, List.set_cons_succ]
    rfl
  refine pure_ (i := 1) (N := some 42) (v := ?_) (a' := ?_) #[true, true, false, false, false, false, false, false, false, false, false, false, false] rfl rfl (any_of HT_.out (by kernel_rfl)) (fun _ _ _ h => h) (Or.inl ⟨by rfl, ?_⟩) ?_ ?_
  rotate_left
  · intro w'
    go_simp
    with_reducible rfl
  rotate_left
  · simp only [Act.put, List.setIfInBounds_toArray, List.set_cons_zero, List.set_cons_succ]
    rfl
  refine pure_ (i := 2) (N := some 43) (v := ?_) (a' := ?_) #[true, true, true, false, false, false, false, false, false, false, false, false, false] rfl rfl (any_of HT_.out (by kernel_rfl)) (fun _ _ _ h => h) (Or.inl ⟨by rfl, ?_⟩) ?_ ?_
  rotate_left
  · intro w'
    go_simp
    with_reducible rfl
  rotate_left
  · simp only [Act.put, List.setIfInBounds_toArray, List.set_cons_zero, List.set_cons_succ]
    rfl
  refine pure_ (i := 3) (N := some 44) (v := ?_) (a' := ?_) #[true, true, true, true, false, false, false, false, false, false, false, false, false] rfl rfl (any_of HT_.out (by kernel_rfl)) (fun _ _ _ h => h) (Or.inl ⟨by rfl, ?_⟩) ?_ ?_
  rotate_left
  · intro w'
    go_simp
    with_reducible rfl
  rotate_left
  · simp only [Act.put, List.setIfInBounds_toArray, List.set_cons_zero, List.set_cons_succ]
    rfl
  refine take_ (i := 4) (N := some 45) (v := ?_) (a' := ?_) #[true, true, true, true, true, false, false, false, false, false, false, false, false] rfl rfl (take_ofW HT_.out HW_.out (by kernel_rfl)) (fun _ _ _ h => h) (Or.inl ⟨by rfl, ?_⟩) hHeld ?_ ?_
  rotate_left
  · rintro w' ⟨s0, s1⟩
    go_simp
    with_reducible rfl
  rotate_left
  · simp only [Act.put, List.setIfInBounds_toArray, List.set_cons_zero, List.set_cons_succ]
    rfl
  refine pure_ (i := 5) (N := some 46) (v := ?_) (a' := ?_) #[true, true, true, true, true, true, false, false, false, false, false, false, false] rfl rfl (any_of HT_.out (by kernel_rfl)) (fun _ _ _ h => h) (Or.inl ⟨by rfl, ?_⟩) ?_ ?_
  rotate_left
  · intro w'
    go_simp
    with_reducible rfl
  rotate_left
  · simp only [Act.put, List.setIfInBounds_toArray, List.set_cons_zero, List.set_cons_succ]
    rfl
  refine take_ (i := 6) (N := some 47) (v := .agg (pc (mkP f)).toArray) (a' := ?_) #[true, true, true, true, true, true, true, false, false, false, false, false, false] rfl rfl (take_ofW HT_.out HW_.out (by kernel_rfl)) (fun _ _ _ h => h) (yieldsIf_load_mid (by rfl) 27 (.tmp 5) (by rfl) w.heap.size 0 (by rfl) (pc (mkP f)) _ (fun _ h => h.2) Try.underlying27 rfl (by rw [hl27]; exact info27)) hHeld ?_ ?_
  rotate_left
  · simp only [Act.put, List.setIfInBounds_toArray, List.set_cons_zero, List.set_cons_succ]
    rfl
  refine pure_ (i := 7) (N := some 48) (v := .agg (enA (e, mkP f))) (a' := ?_) #[true, true, true, true, true, true, true, true, false, false, false, false, false] rfl rfl (any_of HT_.out (by kernel_rfl)) (fun _ _ _ h => h) (yields_build59 rfl e f (.tmp 46) (.tmp 47) (by rfl) (by rfl) (by rfl)) ?_ ?_
  rotate_left
  · simp only [Act.put, List.setIfInBounds_toArray, List.set_cons_zero, List.set_cons_succ]
    rfl
  refine one_ (i := 8) (N := some 49) #[true, true, true, true, true, true, true, true, true, false, false, false, false] rfl rfl (one_of HT_.out (by kernel_rfl)) (by decide) (fun K hK => ?_)
  refine step_bs59 rfl e f (.tmp 48) (by rfl) (by rfl) ?_
  obtain ⟨c1, c2, c3⟩ := keepAlloc (o := .cells (enA (e, mkP f)) 59) hHeld.1 (by rw [← HW3.out]; exact hfree : w3d.frozen? ⟨g, 0, none⟩ = false) hHeld.2 (by rw [← HW3.out]; exact hgl) (by rw [← HW3.out]; exact hlt)
  refine hK.out _ _ ⟨c1, c3⟩ (fun hHeld => ?_)
  clear hK K
  generalize hw4 : w3d.alloc (.cells (enA (e, mkP f)) 59) = w4 at hHeld c2 ⊢
  have HW4 := Lib.hid hw4
  clear hw4 c1 c3
  refine norm_ (a' := ?_) ?_ ?_
  rotate_left
  · show Act.put _ (some 49) _ = _
    simp only [Act.put, List.setIfInBounds_toArray, List.set_cons_zero, List.set_cons_succ]
    rfl
  refine one_ (i := 9) (N := some 50) #[true, true, true, true, true, true, true, true, true, true, false, false, false] rfl rfl (one_of HT_.out (by kernel_rfl)) (by decide) (fun K hK => ?_)
  have hO4 : w4.ownsRow base 59 33 (.slice A es.length c) es.length (rc es) := by
    rw [← HW4.out, ← HW3.out]; exact (HOwn.out.drew).kept (row := none) (World.grownBy_alloc _ _ none) (by cases hv : Value.ownBlock (.slice A es.length c) <;> simp)
  have hg4 : g < w4.heap.size := by rw [← HW4.out, ← HW3.out]; exact Nat.lt_of_lt_of_le hgl (by simp [World.alloc])
  have hN4 : w.heap.size < w4.heap.size := by rw [← HW4.out, ← HW3.out]; exact Nat.lt_of_lt_of_le hlt (by simp [World.alloc])
  have hb4 : base ≤ w4.heap.size := by rw [← HW4.out, ← HW3.out]; exact Nat.le_trans HBase.out (by simp [World.alloc])
  have hnews : ∀ j u, (ec (e, mkP f))[j]? = some u → w4.cell? ((⟨w3d.heap.size, 0, none⟩ : Addr).add j) = some u := by rw [← HW4.out]; exact fun j u h => World.news_of_block (cs := enA (e, mkP f)) (heap_alloc_new _ _) j u (by simpa [enA] using h)
  have hlen : (ec (e, mkP f)).length = 1 * 33 := by simp [ec, pc, HP.out]
  have hone : ∀ u ∈ ec (e, mkP f), u.oneCell' = true := by intro u hu; rcases List.mem_cons.1 hu with rfl | hu; rfl; exact papA_one _ u hu
  have H100 := HM.out
  refine step_append_lies _ rfl _ _ _ (by rfl) base 59 i0 _ 33 40 Try.underlying50 HI0.out HZ0.out HZ1.out HZ2.out zero_size (by decide) (.slice A es.length c) es.length (rc es) (by rfl) hO4 ⟨w3d.heap.size, 0, none⟩ 1 1 (ec (e, mkP f)) (by rfl) hlen hnews hone (by decide) (by unfold maxLen; omega) (by omega) hb4 w4.heap.size rfl ?_
  intro gg cap w5 hown1 hgrow hat hlt5
  clear hnews hlen hone
  obtain ⟨c1, c4, c3⟩ := keepGrown hHeld.1 c2 hHeld.2 hg4 hN4 hgrow HNg.out HNn.out
  have HE : Hid (w5.ownsRow base 59 33 (.slice (some ⟨gg, 0, none⟩) (es.length + 1) cap) (es.length + 1) (rc es ++ ec (e, mkP f)) ∧ w4.grownBy w5 (Value.slice A es.length c).ownBlock ∧ ((Value.slice A es.length c).ownBlock = some gg ∨ gg = w4.heap.size) ∧ g < w4.heap.size ∧ w.heap.size < w4.heap.size) := ⟨hown1, hgrow, hat, hg4, hN4⟩
  refine hK.out _ _ ⟨c1, c3⟩ (fun hHeld => ?_)
  clear hK K hO4 hb4 hown1 hgrow hat hlt5 c1 c3 hg4 hN4 H100
  refine norm_ (a' := ?_) ?_ ?_
  rotate_left
  · show Act.put _ (some 50) _ = _
    simp only [Act.put, List.setIfInBounds_toArray, List.set_cons_zero, List.set_cons_succ]
    rfl
  refine pure_ (i := 10) (N := some 51) (v := ?_) (a' := ?_) #[true, true, true, true, true, true, true, true, true, true, true, false, false] rfl rfl (any_of HT_.out (by kernel_rfl)) (fun _ _ _ h => h) (Or.inl ⟨by rfl, ?_⟩) ?_ ?_
  rotate_left
  · intro w'
    go_simp
    with_reducible rfl
  rotate_left
  · simp only [Act.put, List.setIfInBounds_toArray, List.set_cons_zero, List.set_cons_succ]
    rfl
  refine pure_ (i := 11) (N := some 52) (v := ?_) (a' := ?_) #[true, true, true, true, true, true, true, true, true, true, true, true, false] rfl rfl (any_of HT_.out (by kernel_rfl)) (fun _ _ _ h => h) (Or.inl ⟨by rfl, ?_⟩) ?_ ?_
  rotate_left
  · intro w'
    go_simp
    with_reducible rfl
  rotate_left
  · simp only [Act.put, List.setIfInBounds_toArray, List.set_cons_zero, List.set_cons_succ]
    rfl
  refine last_ (i := 12) (N := none) #[true, true, true, true, true, true, true, true, true, true, true, true, true] rfl rfl (one_of HT_.out (by kernel_rfl)) (by decide) (fun K hK => ?_)
  have c1 := hHeld.1
  refine skip_ (w1 := w5.setCell ⟨g, 0, none⟩ (.slice (some ⟨gg, 0, none⟩) (es.length + 1) cap)) (by rfl) rfl ?_ ?_
  · go_simp
  refine hK.out _ _ ?_
  refine done_ (done_of HT_.out (by kernel_rfl)) ?_
  generalize hw6 : w5.setCell ⟨g, 0, none⟩ (.slice (some ⟨gg, 0, none⟩) (es.length + 1) cap) = w6
  have HW6 := Lib.hid hw6
  clear hw6 c1 hK K
  try go_wp2
  go_ret
  refine ⟨rfl, ?_⟩
  rw [← HW6.out]
  obtain ⟨q1, q2, q3, q4, q5⟩ := HE.out
  exact write_end HBk.out HB3.out (by rw [HW3.out]; exact HW4.out) q2 q1 q3 HP.out HM.out
  case hS0 => exact ⟨hcell, hrp⟩

end Go.Proofs.Ytpnecknillpjkaa.Bk
