import Derived.Test.YtpnecknillpjkaaBkKnown
namespace Go.Proofs.Ytpnecknillpjkaa.Bk
open Go.RowKit
attribute [local go_sem ↓] run_hb run_hb2 run_h0

/-- What is written behind k writes. -/
def fe (k : Nat) : List (Int × List Int) := (List.range (min k 100)).map (fun (i : Nat) => (2 * (i : Int), hb 1))
theorem fe_len (k : Nat) : (fe k).length = min k 100 := by simp [fe]
theorem fe_look (k : Nat) : (look (fe k) (2 * (k : Int))).2 = false := by
  unfold look
  have : (fe k).find? (fun x => x.1 == 2 * (k : Int)) = none := by
    rw [List.find?_eq_none]
    intro x hx
    simp only [fe, List.mem_map, List.mem_range] at hx
    obtain ⟨i, hi, rfl⟩ := hx
    simp only [beq_iff_eq]
    omega
  rw [this]
theorem fe_succ (k : Nat) (h : k < 100) : fe k ++ [(2 * (k : Int), hb 1)] = fe (k + 1) := by
  unfold fe
  rw [show min k 100 = k by omega, show min (k + 1) 100 = k + 1 by omega, List.range_succ]
  simp
theorem fe_full (k : Nat) (h : 100 ≤ k) : fe k = fe (k + 1) := by
  unfold fe
  rw [show min k 100 = 100 by omega, show min (k + 1) 100 = 100 by omega]
theorem fe_write (k : Nat) (h : k ≤ 130) : writeOf (fe k) (2 * (k : Int)) (hb 1) = (if k < 100 then 0 else 12, fe (k + 1)) := by
  unfold writeOf
  rw [if_neg (by omega), if_neg (by rw [fe_look]; simp), fe_len]
  by_cases h1 : k < 100
  · rw [if_neg (by omega), if_pos h1, fe_succ k h1]
  · rw [if_pos (by omega), if_neg h1, fe_full k (by omega)]
theorem write_lo (es : List (Int × List Int)) (p : List Int) : writeOf es (-1) p = (1, es) := by unfold writeOf; rw [if_pos (by omega)]
theorem write_hi (es : List (Int × List Int)) (p : List Int) : writeOf es 1099511627777 p = (1, es) := by unfold writeOf; rw [if_pos (by omega)]
theorem zeros_len : zeros.length = 32 := by simp [zeros]

set_option maxRecDepth 100000 in
set_option maxHeartbeats 1000000 in
theorem full_calls (n : Int) (w : World) : Calls Try.prog 3 #[.int .i64 n] w fun r w' => r = .returned (.bool true) ∧ Below w.heap.size w w' := by
  by_cases h0 : n < 0
  · go_enter Try.func3, Try.ntmps3
    go_wp2
    go_ret
    exact ⟨rfl, Below.refl _ _⟩
  by_cases h1 : 130 < n
  · go_enter Try.func3, Try.ntmps3
    go_wp2
    go_ret
    exact ⟨rfl, Below.refl _ _⟩
  obtain ⟨m, rfl⟩ : ∃ m : Nat, n = m := ⟨n.toNat, by omega⟩
  have hm : m ≤ 130 := by omega
  go_enter Try.func3, Try.ntmps3
  go_wp2_with fail
  refine (new_calls w).mono ?_
  rintro r w1 ⟨rfl, hw1⟩
  have hB : BookAt w1 w.heap.size w.heap.size (.slice none 0 0) (fe 0) 0 0 := by rw [hw1]; exact new_book w
  have hb : Below w.heap.size w w1 := by rw [hw1]; exact (Below.refl _ _).alloc (Nat.le_refl _) _
  have HB := Lib.hid hB
  have Hb := Lib.hid hb
  clear hw1 hB hb
  go_wp2
  go_loopw [4] (fun v wr => ∃ k : Nat, k ≤ m ∧ v = .int .i64 k ∧ (∃ v', BookAt wr w.heap.size w.heap.size v' (fe k) 0 0) ∧ Hid (Below w.heap.size w wr)) (fun v _ => m - (intOf v).toNat)
  case atStart => exact ⟨0, Nat.zero_le _, rfl, ⟨_, HB.out⟩, Hb.out⟩
  case round =>
    obtain ⟨k, hkn, rfl, ⟨v1, hB⟩, hbl⟩ := hrel
    clear HB Hb
    replace HB := Lib.hid hB
    clear hB
    by_cases hlt2 : k < m
    · have hw := fe_write k (by omega)
      have HW := Lib.hid hw
      clear hw
      by_cases h100 : k < 100
      · rw [if_pos h100] at HW
        go_wp2_with fail
        refine (write_calls' _ _ _ _ _ _ (2 * (k : Int)) (hb 1) wr (hb_len 1) hbl.out.size HB.out _ _ HW.out).mono ?_
        rintro r w2 ⟨rfl, v2, hB, hb2⟩
        go_wp2
        go_roundw
        case rel => exact ⟨k + 1, by omega, by go_num, ⟨v2, hB⟩, hbl.out.trans hb2⟩
        case measure => simp [intOf]; omega
      · rw [if_neg h100] at HW
        go_wp2_with fail
        refine (write_calls' _ _ _ _ _ _ (2 * (k : Int)) (hb 1) wr (hb_len 1) hbl.out.size HB.out _ _ HW.out).mono ?_
        rintro r w2 ⟨rfl, v2, hB, hb2⟩
        go_wp2
        go_roundw
        case rel => exact ⟨k + 1, by omega, by go_num, ⟨v2, hB⟩, hbl.out.trans hb2⟩
        case measure => simp [intOf]; omega
    · have hke : k = m := by omega
      subst hke
      obtain ⟨A, c, rfl, _, hr⟩ := HB.out.own.reads
      have hc : wr.cell? ⟨w.heap.size, 0, none⟩ = some (.slice A (min k 100) c) := by rw [HB.out.cell, ← fe_len k]; rfl
      clear hr
      by_cases h100 : k ≤ 100
      · rw [show min k 100 = k by omega] at hc
        go_wp2_with fail
        refine (len_calls w.heap.size A k c wr hc).mono ?_
        rintro r w5 ⟨rfl, rfl⟩
        go_wp2_with (first
          | (go_at_call 13; refine (write_calls' _ _ _ _ _ _ _ zeros _ zeros_len hbl.out.size HB.out _ _ (by first | exact write_lo _ _ | exact write_hi _ _)).mono ?_; clear HB; rintro r w2 ⟨rfl, v2, hB, hb2⟩; have HB := Lib.hid hB; replace hbl := Lib.hid (hbl.out.trans hb2); clear hB hb2)
          | (go_at_call 15; refine (known_calls _).mono ?_; rintro r w4 ⟨rfl, hb4⟩; replace hbl := Lib.hid (hbl.out.trans (hb4.mono hbl.out.size)); clear hb4))
        go_ret
        exact ⟨rfl, hbl.out⟩
      · rw [show min k 100 = 100 by omega] at hc
        go_wp2_with fail
        refine (len_calls w.heap.size A 100 c wr hc).mono ?_
        rintro r w5 ⟨rfl, rfl⟩
        go_wp2_with (first
          | (go_at_call 13; refine (write_calls' _ _ _ _ _ _ _ zeros _ zeros_len hbl.out.size HB.out _ _ (by first | exact write_lo _ _ | exact write_hi _ _)).mono ?_; clear HB; rintro r w2 ⟨rfl, v2, hB, hb2⟩; have HB := Lib.hid hB; replace hbl := Lib.hid (hbl.out.trans hb2); clear hB hb2)
          | (go_at_call 15; refine (known_calls _).mono ?_; rintro r w4 ⟨rfl, hb4⟩; replace hbl := Lib.hid (hbl.out.trans (hb4.mono hbl.out.size)); clear hb4))
        go_ret
        exact ⟨rfl, hbl.out⟩
end Go.Proofs.Ytpnecknillpjkaa.Bk
