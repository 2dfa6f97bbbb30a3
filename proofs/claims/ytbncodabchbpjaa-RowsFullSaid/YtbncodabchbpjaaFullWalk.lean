/-
RowsFull answers true at whatever two numbers: the walk of the law's own text. No condition.
-/
import Derived.Test.YtbncodabchbpjaaFnKnown
import Derived.Test.YtbncodabchbpjaaPurePack
import Derived.Laws.MakeOwn
namespace Go.Proofs.Ytbncodabchbpjaa.Fn
open Go.RowKit Go.Proofs.YtbncodabchbpjaaW.PrintWords Go.Proofs.YtbncodabchbpjaaW.PrintLast Go.Proofs.YtbncodabchbpjaaW.PrintMore

theorem full_out (n size : Int) (w : World) (h : n < 0 ∨ 80 < n ∨ size < 0 ∨ 2100 < size) : Calls Try.prog 4 #[.int .i64 n, .int .i64 size] w fun e w' => e = .returned (.bool true) ∧ Below w.heap.size w w' := by
  by_cases h1 : n < 0
  · clear h
    go_enter Try.func4, Try.ntmps4
    go_wp2
    go_ret
    exact ⟨rfl, Below.refl _ _⟩
  by_cases h2 : 80 < n
  · clear h
    go_enter Try.func4, Try.ntmps4
    go_wp2
    go_ret
    exact ⟨rfl, Below.refl _ _⟩
  by_cases h3 : size < 0
  · clear h
    go_enter Try.func4, Try.ntmps4
    go_wp2
    go_ret
    exact ⟨rfl, Below.refl _ _⟩
  have h4 : 2100 < size := by omega
  clear h
  go_enter Try.func4, Try.ntmps4
  go_wp2
  go_ret
  exact ⟨rfl, Below.refl _ _⟩

theorem encs_app : ∀ (a b : List (List Int)), encs (a ++ b) = match encs a, encs b with | some x, some y => some (x ++ y) | _, _ => none
  | [], b => by cases h : encs b <;> simp [encs, h]
  | p :: a, b => by
    simp only [List.cons_append, encs, encs_app a b]
    by_cases hp : (p.length : Int) > 2000
    · rw [if_pos hp, if_pos hp]
    · rw [if_neg hp, if_neg hp]
      cases encs a <;> cases encs b <;> simp
theorem encs_nils : ∀ m : Nat, ∃ b, encs (List.replicate m ([] : List Int)) = some b ∧ b.length = 2 * m
  | 0 => ⟨[], rfl, rfl⟩
  | m + 1 => by
    obtain ⟨b, hb, hl⟩ := encs_nils m
    refine ⟨enc [] ++ b, ?_, by simp [enc, hl]; omega⟩
    rw [List.replicate_succ, encs, if_neg (by decide), hb]
    rfl

/-- The rows that RowsFull packs. -/
def fullRows (m s : Nat) : List (List Int) := List.replicate m [] ++ [List.replicate s 0]
theorem fullRows_length (m s : Nat) : (fullRows m s).length = m + 1 := by simp [fullRows]
theorem full_many (m s : Nat) (h : 60 < m + 1) : packOf (fullRows m s) = ([], 1) := by
  unfold packOf
  rw [fullRows_length, if_pos (by omega)]
theorem full_long (m s : Nat) (h : 2000 < s) : packOf (fullRows m s) = ([], 1) := by
  unfold packOf
  obtain ⟨b, hb, _⟩ := encs_nils m
  have : encs (fullRows m s) = none := by
    unfold fullRows
    rw [encs_app, hb]
    simp only [encs, List.length_replicate]
    rw [if_pos (by omega)]
  rw [this]
  split <;> rfl
theorem full_fits (m s : Nat) (h : m + 1 ≤ 60) (hs : s ≤ 2000) : ∃ b, packOf (fullRows m s) = (b, 0) ∧ b.length = 1 + 2 * (m + 1) + s := by
  unfold packOf
  obtain ⟨b, hb, hl⟩ := encs_nils m
  have : encs (fullRows m s) = some (b ++ enc (List.replicate s 0)) := by
    unfold fullRows
    rw [encs_app, hb]
    simp only [encs, List.length_replicate]
    rw [if_neg (by omega)]
    simp
  rw [this, fullRows_length, if_neg (by omega)]
  exact ⟨_, rfl, by simp [enc, hl]; omega⟩

def rowsBlock (m : Nat) : Obj := .cells (madeCells #[.slice none 0 0] (m + 1)) 24
def byteBlock (s : Nat) : Obj := .cells (madeCells #[.int .u8 0] s) 5

theorem made_get (z : Value) (n i : Nat) (h : i < n) : (madeCells #[z] n)[i]? = some z := by
  rw [← Array.getElem?_toList, toList_madeCells_one, List.getElem?_replicate, if_pos h]

theorem full_world (w : World) (m s : Nat) : ((w.alloc (rowsBlock m)).alloc (byteBlock s)).heap[w.heap.size]? = some (rowsBlock m) := by
  rw [heap_old _ _ _ (by simp)]; exact heap_last _ _ _ rfl

def fullWorld (w : World) (m s : Nat) : World := ((w.alloc (rowsBlock m)).setCell ⟨w.heap.size, m, none⟩ (.slice (some ⟨w.heap.size + 1, 0, none⟩) s s)).alloc (byteBlock s)
theorem fullWorld_below (w : World) (m s : Nat) : Below w.heap.size w (fullWorld w m s) :=
  below_alloc (((Below.refl _ _).alloc (Nat.le_refl _) _).setCell (by simp) _) _

theorem full_reads (w : World) (m s : Nat) (hm : m < 80) (hs : s ≤ 2100) :
    Kd.C (Kd.slice 5 (Kd.int .u8)) (fullWorld w m s) (some ⟨w.heap.size, 0, none⟩) (fullRows m s).length (fullRows m s) := by
  have hb1 : (fullWorld w m s).heap[w.heap.size]? = some (.cells ((madeCells #[.slice none 0 0] (m + 1)).setIfInBounds m (.slice (some ⟨w.heap.size + 1, 0, none⟩) s s)) 24 (0, 0)) := by
    unfold fullWorld
    rw [heap_old _ _ _ (by simp)]
    exact blk_set (t := 24) (heap_last _ _ _ rfl) m (.slice (some ⟨w.heap.size + 1, 0, none⟩) s s)
  have hb2 : (fullWorld w m s).heap[w.heap.size + 1]? = some (byteBlock s) := by
    unfold fullWorld
    exact heap_last _ _ _ (by simp)
  refine C_rows hb1 (by rw [fullRows_length]; omega) fun i xs hi => ?_
  have hsz : (madeCells #[Value.slice none 0 0] (m + 1)).size = m + 1 := size_madeCells _ _
  unfold fullRows at hi
  rcases Nat.lt_trichotomy i m with h | h | h
  · rw [List.getElem?_append_left (by simpa using h), List.getElem?_replicate, if_pos h] at hi
    simp only [Option.some.injEq] at hi
    subst hi
    refine ⟨none, 0, ?_, Nat.le_refl _, rfl, by decide, fun h => absurd h (by decide)⟩
    rw [Nat.zero_add, Array.getElem?_setIfInBounds, if_neg (by omega), made_get _ _ _ (by omega)]
    rfl
  · subst h
    rw [List.getElem?_append_right (by simp)] at hi
    simp at hi
    subst hi
    refine ⟨some ⟨w.heap.size + 1, 0, none⟩, s, ?_, by simp, C_ints hb2 (by simp; omega) fun j x hx => ?_⟩
    · rw [Nat.zero_add, Array.getElem?_setIfInBounds, if_pos rfl, hsz, if_pos (by omega)]
      simp
    · rw [List.getElem?_replicate] at hx
      by_cases hj : j < s
      · rw [if_pos hj] at hx
        simp only [Option.some.injEq] at hx
        subst hx
        rw [Nat.zero_add, made_get _ _ _ hj]
      · rw [if_neg hj] at hx
        exact absurd hx (by simp)
  · rw [List.getElem?_eq_none (by simp; omega)] at hi
    exact absurd hi (by simp)

theorem pack_calls_n (n : Nat) (A0 : Option Addr) (c0 : Nat) (l0 : List (List Int)) (r1 : List Int) (r2 : Int) (w : World) (hn : l0.length = n) (hr0 : Kd.C (Kd.slice 5 (Kd.int .u8)) w A0 l0.length l0) (hc0 : n ≤ c0) (h : packOf l0 = (r1, r2)) :
    Calls Try.prog 12 #[.slice A0 n c0] w fun e w' => ∃ v0_ : Value, e = .returned (.tuple #[v0_, .int .i64 r2]) ∧ Kd.R (Kd.int .u8) 5 w' w.heap.size (fun _ => True) v0_ r1 ∧ Below w.heap.size w w' := by
  subst hn
  exact rows_Pack.calls (l0.length + 1) A0 c0 l0 r1 r2 w hr0 hc0 (by rw [pack_some _ _ (Nat.lt_succ_self _), h])

set_option maxRecDepth 100000 in
theorem full_pos_many (m s : Nat) (w : World) (hm : m < 80) (hs : s ≤ 2100) (hg : 60 < m + 1) : Calls Try.prog 4 #[.int .i64 ((m : Int) + 1), .int .i64 (s : Int)] w fun e w' => e = .returned (.bool true) ∧ Below w.heap.size w w' := by
  have HP := Aside0.mk (full_many m s hg)
  obtain ⟨i0, hi, hz0, hz1, hz2⟩ := info_parts info24
  obtain ⟨j0, hj, hy0, hy1, hy2⟩ := info_parts info5
  have hm1 : ∀ w : World, (Instr.makeSlice 22 (.int .i64 ((m : Int) + 1)) (.int .i64 ((m : Int) + 1))).run Try.prog w = .ok (.slice (some ⟨w.heap.size, 0, none⟩) (m + 1) (m + 1)) (w.alloc (rowsBlock m)) := fun w => by
    have := run_make (P := Try.prog) w 22 24 i0 _ Try.underlying22 hi hz0 .i64 .i64 ((m : Int) + 1) ((m : Int) + 1) (by omega) (Int.le_refl _) (by rw [hz2]; omega) (by omega)
    rw [hz1, Nat.mul_one, show ((m : Int) + 1).toNat = m + 1 by omega] at this
    exact this
  have hm2 : ∀ w : World, (Instr.makeSlice 24 (.int .i64 (s : Int)) (.int .i64 (s : Int))).run Try.prog w = .ok (.slice (some ⟨w.heap.size, 0, none⟩) s s) (w.alloc (byteBlock s)) := fun w => by
    have := run_make (P := Try.prog) w 24 5 j0 _ Try.underlying24 hj hy0 .i64 .i64 (s : Int) (s : Int) (by omega) (Int.le_refl _) (by rw [hy2]; omega) (by omega)
    rw [hy1, Nat.mul_one, Int.toNat_natCast] at this
    exact this
  have hcell : ((w.alloc (rowsBlock m)).alloc (byteBlock s)).cell? ⟨w.heap.size, m, none⟩ = some (.slice none 0 0) := by
    rw [cell_block (full_world w m s)]; exact made_get _ _ _ (by omega)
  have hfr : ((w.alloc (rowsBlock m)).alloc (byteBlock s)).frozen? ⟨w.heap.size, m, none⟩ = false := blk_frozen (full_world w m s) m
  clear hi hz0 hz1 hz2 hj hy0 hy1 hy2
  have d1 : decide ((m : Int) + 1 < 0) = false := by simp; omega
  have d2 : decide (80 < (m : Int) + 1) = false := by simp; omega
  have d3 : decide ((s : Int) < 0) = false := by simp
  have d4 : decide (2100 < (s : Int)) = false := by simp; omega
  go_enter Try.func4, Try.ntmps4
  go_wp2_with fail
  clear hm1 hm2 hcell hfr d1 d2 d3 d4
  refine (pack_calls_n (m + 1) _ _ (fullRows m s) [] 1 (fullWorld w m s) (fullRows_length m s) (full_reads w m s hm hs) (Nat.le_refl _) HP.out).mono ?_
  rintro e w1 ⟨v1, rfl, ho, hb⟩
  have HB : Aside0 (Below w.heap.size w w1) := ⟨by
    have h2 := fullWorld_below w m s
    exact h2.trans (hb.mono h2.size)⟩
  obtain ⟨A1, c1, rfl⟩ := Kd.R_slice ho
  clear ho hb HP
  have e1 : decide ((m : Int) + 1 ≤ 60) = false := by simp; omega
  have e2 : ((1 : Int) == 0) = false := by decide
  go_wp2_with (go_at_call 14; refine (known_calls _).mono ?_; rintro e w2 ⟨rfl, hb⟩; have HB2 : Aside0 (Below w.heap.size w w2) := ⟨HB.out.trans (hb.mono HB.out.size)⟩; clear hb)
  go_ret
  exact ⟨rfl, HB2.out⟩

set_option maxRecDepth 100000 in
theorem full_pos_long (m s : Nat) (w : World) (hm : m < 80) (hs : s ≤ 2100) (hg : m + 1 ≤ 60) (hl : 2000 < s) : Calls Try.prog 4 #[.int .i64 ((m : Int) + 1), .int .i64 (s : Int)] w fun e w' => e = .returned (.bool true) ∧ Below w.heap.size w w' := by
  have HP := Aside0.mk (full_long m s hl)
  obtain ⟨i0, hi, hz0, hz1, hz2⟩ := info_parts info24
  obtain ⟨j0, hj, hy0, hy1, hy2⟩ := info_parts info5
  have hm1 : ∀ w : World, (Instr.makeSlice 22 (.int .i64 ((m : Int) + 1)) (.int .i64 ((m : Int) + 1))).run Try.prog w = .ok (.slice (some ⟨w.heap.size, 0, none⟩) (m + 1) (m + 1)) (w.alloc (rowsBlock m)) := fun w => by
    have := run_make (P := Try.prog) w 22 24 i0 _ Try.underlying22 hi hz0 .i64 .i64 ((m : Int) + 1) ((m : Int) + 1) (by omega) (Int.le_refl _) (by rw [hz2]; omega) (by omega)
    rw [hz1, Nat.mul_one, show ((m : Int) + 1).toNat = m + 1 by omega] at this
    exact this
  have hm2 : ∀ w : World, (Instr.makeSlice 24 (.int .i64 (s : Int)) (.int .i64 (s : Int))).run Try.prog w = .ok (.slice (some ⟨w.heap.size, 0, none⟩) s s) (w.alloc (byteBlock s)) := fun w => by
    have := run_make (P := Try.prog) w 24 5 j0 _ Try.underlying24 hj hy0 .i64 .i64 (s : Int) (s : Int) (by omega) (Int.le_refl _) (by rw [hy2]; omega) (by omega)
    rw [hy1, Nat.mul_one, Int.toNat_natCast] at this
    exact this
  have hcell : ((w.alloc (rowsBlock m)).alloc (byteBlock s)).cell? ⟨w.heap.size, m, none⟩ = some (.slice none 0 0) := by
    rw [cell_block (full_world w m s)]; exact made_get _ _ _ (by omega)
  have hfr : ((w.alloc (rowsBlock m)).alloc (byteBlock s)).frozen? ⟨w.heap.size, m, none⟩ = false := blk_frozen (full_world w m s) m
  clear hi hz0 hz1 hz2 hj hy0 hy1 hy2
  have d1 : decide ((m : Int) + 1 < 0) = false := by simp; omega
  have d2 : decide (80 < (m : Int) + 1) = false := by simp; omega
  have d3 : decide ((s : Int) < 0) = false := by simp
  have d4 : decide (2100 < (s : Int)) = false := by simp; omega
  go_enter Try.func4, Try.ntmps4
  go_wp2_with fail
  clear hm1 hm2 hcell hfr d1 d2 d3 d4
  refine (pack_calls_n (m + 1) _ _ (fullRows m s) [] 1 (fullWorld w m s) (fullRows_length m s) (full_reads w m s hm hs) (Nat.le_refl _) HP.out).mono ?_
  rintro e w1 ⟨v1, rfl, ho, hb⟩
  have HB : Aside0 (Below w.heap.size w w1) := ⟨by
    have h2 := fullWorld_below w m s
    exact h2.trans (hb.mono h2.size)⟩
  obtain ⟨A1, c1, rfl⟩ := Kd.R_slice ho
  clear ho hb HP
  have e1 : decide ((m : Int) + 1 ≤ 60) = true := by simp; omega
  have e0 : ((m : Int) + 1 == 0) = false := by simp; omega
  have e3 : decide ((s : Int) ≤ 2000) = false := by simp; omega
  have e2 : ((1 : Int) == 0) = false := by decide
  go_wp2_with (go_at_call 14; refine (known_calls _).mono ?_; rintro e w2 ⟨rfl, hb⟩; have HB2 : Aside0 (Below w.heap.size w w2) := ⟨HB.out.trans (hb.mono HB.out.size)⟩; clear hb)
  go_ret
  exact ⟨rfl, HB2.out⟩

set_option maxRecDepth 100000 in
theorem full_pos_fits (m s : Nat) (w : World) (hm : m < 80) (hs : s ≤ 2100) (hg : m + 1 ≤ 60) (hl : s ≤ 2000) : Calls Try.prog 4 #[.int .i64 ((m : Int) + 1), .int .i64 (s : Int)] w fun e w' => e = .returned (.bool true) ∧ Below w.heap.size w w' := by
  obtain ⟨b, hp, hbl⟩ := full_fits m s hg hl
  have HP := Aside0.mk hp
  have HL := Aside0.mk hbl
  clear hp hbl
  obtain ⟨i0, hi, hz0, hz1, hz2⟩ := info_parts info24
  obtain ⟨j0, hj, hy0, hy1, hy2⟩ := info_parts info5
  have hm1 : ∀ w : World, (Instr.makeSlice 22 (.int .i64 ((m : Int) + 1)) (.int .i64 ((m : Int) + 1))).run Try.prog w = .ok (.slice (some ⟨w.heap.size, 0, none⟩) (m + 1) (m + 1)) (w.alloc (rowsBlock m)) := fun w => by
    have := run_make (P := Try.prog) w 22 24 i0 _ Try.underlying22 hi hz0 .i64 .i64 ((m : Int) + 1) ((m : Int) + 1) (by omega) (Int.le_refl _) (by rw [hz2]; omega) (by omega)
    rw [hz1, Nat.mul_one, show ((m : Int) + 1).toNat = m + 1 by omega] at this
    exact this
  have hm2 : ∀ w : World, (Instr.makeSlice 24 (.int .i64 (s : Int)) (.int .i64 (s : Int))).run Try.prog w = .ok (.slice (some ⟨w.heap.size, 0, none⟩) s s) (w.alloc (byteBlock s)) := fun w => by
    have := run_make (P := Try.prog) w 24 5 j0 _ Try.underlying24 hj hy0 .i64 .i64 (s : Int) (s : Int) (by omega) (Int.le_refl _) (by rw [hy2]; omega) (by omega)
    rw [hy1, Nat.mul_one, Int.toNat_natCast] at this
    exact this
  have hcell : ((w.alloc (rowsBlock m)).alloc (byteBlock s)).cell? ⟨w.heap.size, m, none⟩ = some (.slice none 0 0) := by
    rw [cell_block (full_world w m s)]; exact made_get _ _ _ (by omega)
  have hfr : ((w.alloc (rowsBlock m)).alloc (byteBlock s)).frozen? ⟨w.heap.size, m, none⟩ = false := blk_frozen (full_world w m s) m
  clear hi hz0 hz1 hz2 hj hy0 hy1 hy2
  have d1 : decide ((m : Int) + 1 < 0) = false := by simp; omega
  have d2 : decide (80 < (m : Int) + 1) = false := by simp; omega
  have d3 : decide ((s : Int) < 0) = false := by simp
  have d4 : decide (2100 < (s : Int)) = false := by simp; omega
  go_enter Try.func4, Try.ntmps4
  go_wp2_with fail
  clear hm1 hm2 hcell hfr d1 d2 d3 d4
  refine (pack_calls_n (m + 1) _ _ (fullRows m s) b 0 (fullWorld w m s) (fullRows_length m s) (full_reads w m s hm hs) (Nat.le_refl _) HP.out).mono ?_
  rintro e w1 ⟨v1, rfl, ho, hb⟩
  have HB : Aside0 (Below w.heap.size w w1) := ⟨by
    have h2 := fullWorld_below w m s
    exact h2.trans (hb.mono h2.size)⟩
  obtain ⟨A1, c1, rfl⟩ := Kd.R_slice ho
  clear ho hb HP
  rw [HL.out]
  have e1 : decide ((m : Int) + 1 ≤ 60) = true := by simp; omega
  have e0 : ((m : Int) + 1 == 0) = false := by simp; omega
  have e3 : decide ((s : Int) ≤ 2000) = true := by simp; omega
  go_wp2_with (go_at_call 14; refine (known_calls _).mono ?_; rintro e w2 ⟨rfl, hb⟩; have HB2 : Aside0 (Below w.heap.size w w2) := ⟨HB.out.trans (hb.mono HB.out.size)⟩; clear hb)
  go_ret
  exact ⟨rfl, HB2.out⟩

set_option maxRecDepth 100000 in
theorem full_zero (s : Nat) (hs : s ≤ 2100) (w : World) : Calls Try.prog 4 #[.int .i64 0, .int .i64 (s : Int)] w fun e w' => e = .returned (.bool true) ∧ Below w.heap.size w w' := by
  obtain ⟨i0, hi, hz0, hz1, hz2⟩ := info_parts info24
  have hm1 : ∀ w : World, (Instr.makeSlice 22 (.int .i64 0) (.int .i64 0)).run Try.prog w = .ok (.slice (some ⟨w.heap.size, 0, none⟩) 0 0) (w.alloc (.cells #[] 24)) := fun w => by
    have := run_make (P := Try.prog) w 22 24 i0 _ Try.underlying22 hi hz0 .i64 .i64 0 0 (by omega) (Int.le_refl _) (by rw [hz2]; omega) (by omega)
    have e : madeCells (Value.slice none 0 0).cells (Int.toNat 0 * i0.size) = #[] := by
      apply Array.eq_empty_of_size_eq_zero
      rw [size_madeCells]
      simp
    rw [e] at this
    exact this
  have HP : Aside0 (packOf [] = ([0], 0)) := ⟨by decide⟩
  have d3 : decide ((s : Int) < 0) = false := by simp
  have d4 : decide (2100 < (s : Int)) = false := by simp; omega
  go_enter Try.func4, Try.ntmps4
  go_wp2_with fail
  clear hm1 d3 d4
  refine (pack_calls_n 0 _ _ [] [0] 0 _ rfl ⟨rfl, by decide, fun h => absurd h (by decide)⟩ (Nat.le_refl _) HP.out).mono ?_
  rintro e w1 ⟨v1, rfl, ho, hb⟩
  have HB : Aside0 (Below w.heap.size w w1) := ⟨by
    have h2 : Below w.heap.size w (w.alloc (.cells #[] 24)) := below_alloc (Below.refl _ _) _
    exact h2.trans (hb.mono h2.size)⟩
  obtain ⟨A1, c1, rfl⟩ := Kd.R_slice ho
  clear ho hb HP
  go_wp2_with (go_at_call 14; refine (known_calls _).mono ?_; rintro e w2 ⟨rfl, hb⟩; have HB2 : Aside0 (Below w.heap.size w w2) := ⟨HB.out.trans (hb.mono HB.out.size)⟩; clear hb)
  go_ret
  exact ⟨rfl, HB2.out⟩

/-- RowsFull answers true at whatever two numbers. -/
theorem full_calls (n size : Int) (w : World) : Calls Try.prog 4 #[.int .i64 n, .int .i64 size] w fun e w' => e = .returned (.bool true) ∧ Below w.heap.size w w' := by
  by_cases h : n < 0 ∨ 80 < n ∨ size < 0 ∨ 2100 < size
  · exact full_out n size w h
  obtain ⟨s, rfl⟩ := Int.eq_ofNat_of_zero_le (show 0 ≤ size by omega)
  rcases Int.lt_or_eq_of_le (show 0 ≤ n by omega) with h0 | h0
  · obtain ⟨m, rfl⟩ : ∃ m : Nat, n = (m : Int) + 1 := ⟨(n - 1).toNat, by omega⟩
    by_cases h1 : 60 < m + 1
    · exact full_pos_many m s w (by omega) (by omega) h1
    by_cases h2 : 2000 < s
    · exact full_pos_long m s w (by omega) (by omega) (by omega) h2
    · exact full_pos_fits m s w (by omega) (by omega) (by omega) (by omega)
  · subst h0
    exact full_zero s (by omega) w

end Go.Proofs.Ytbncodabchbpjaa.Fn
