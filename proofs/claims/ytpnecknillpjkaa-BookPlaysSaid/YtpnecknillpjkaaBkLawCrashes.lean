import Derived.Test.YtpnecknillpjkaaBkLawMany
namespace Go.Proofs.Ytpnecknillpjkaa.Bk
open Go.RowKit
attribute [local go_sem ↓] run_hb run_hb2 run_h0

/-- What is written behind k writes. -/
def ce (k : Nat) : List (Int × List Int) := (List.range k).map (fun (i : Nat) => ((i : Int), hb i))
theorem ce_len (k : Nat) : (ce k).length = k := by simp [ce]
theorem ce_succ (k : Nat) : ce k ++ [((k : Int), hb k)] = ce (k + 1) := by simp [ce, List.range_succ]
theorem ce_look (k : Nat) : (look (ce k) k).2 = false := by
  unfold look
  have : (ce k).find? (fun x => x.1 == (k : Int)) = none := by
    rw [List.find?_eq_none]
    intro x hx
    simp only [ce, List.mem_map, List.mem_range] at hx
    obtain ⟨i, hi, rfl⟩ := hx
    simp only [beq_iff_eq]
    omega
  rw [this]
theorem ce_write (k : Nat) (h : k < 100) : writeOf (ce k) k (hb k) = (0, ce (k + 1)) := by
  unfold writeOf
  rw [if_neg (by omega), if_neg (by rw [ce_look]; simp), ce_len, if_neg (by omega), ce_succ]

set_option maxRecDepth 100000 in
set_option maxHeartbeats 4000000 in
theorem crashes_calls (n flushed keep : Int) (w : World) : Calls Try.prog 9 #[.int .i64 n, .int .i64 flushed, .int .i64 keep] w fun r w' => r = .returned (.bool true) ∧ Below w.heap.size w w' := by
  by_cases h0 : n < 0
  · go_enter Try.func9, Try.ntmps9
    go_wp2
    go_ret
    exact ⟨rfl, Below.refl _ _⟩
  by_cases h1 : 40 < n
  · go_enter Try.func9, Try.ntmps9
    go_wp2
    go_ret
    exact ⟨rfl, Below.refl _ _⟩
  by_cases h2 : flushed < 0
  · go_enter Try.func9, Try.ntmps9
    go_wp2
    go_ret
    exact ⟨rfl, Below.refl _ _⟩
  by_cases h3 : n < flushed
  · go_enter Try.func9, Try.ntmps9
    go_wp2
    go_ret
    exact ⟨rfl, Below.refl _ _⟩
  obtain ⟨m, rfl⟩ : ∃ m : Nat, n = m := ⟨n.toNat, by omega⟩
  obtain ⟨fl, rfl⟩ : ∃ m : Nat, flushed = m := ⟨flushed.toNat, by omega⟩
  have hm : m ≤ 40 := by omega
  have hf : fl ≤ m := by omega
  go_enter Try.func9, Try.ntmps9
  go_wp2_with fail
  refine (new_calls w).mono ?_
  rintro r w1 ⟨rfl, hw1⟩
  have hB : BookAt w1 w.heap.size w.heap.size (.slice none 0 0) (ce 0) 0 0 := by rw [hw1]; exact new_book w
  have hb : Below w.heap.size w w1 := by rw [hw1]; exact (Below.refl _ _).alloc (Nat.le_refl _) _
  have HB := Lib.hid hB
  have Hb := Lib.hid hb
  clear hw1 hB hb
  go_wp2
  go_loopw [8] (fun v wr => ∃ k : Nat, k ≤ m ∧ v = .int .i64 k ∧ Hid (∃ v' s fz, (s = if k ≤ fl then 0 else fl) ∧ BookAt wr w.heap.size w.heap.size v' (ce k) (s : Nat) fz) ∧ Hid (Below w.heap.size w wr)) (fun v _ => m - (intOf v).toNat)
  case atStart => exact ⟨0, Nat.zero_le _, rfl, ⟨_, 0, 0, by simp, HB.out⟩, Hb.out⟩
  case round =>
    obtain ⟨k, hkn, rfl, hB, hbl⟩ := hrel
    obtain ⟨v1, s, fz, hs, hB⟩ := hB.out
    clear HB Hb
    replace HB := Lib.hid hB
    have Hs := Lib.hid hs
    clear hB hs
    by_cases hlt2 : k < m
    · have HW : Hid (writeOf (ce k) k (hb k) = (0, ce (k + 1))) := ce_write k (by omega)
      by_cases hkf : k = fl
      · subst hkf
        go_wp2_with fail
        refine (flush_calls w.heap.size w.heap.size v1 (ce k) s fz wr HB.out).mono ?_
        rintro r w2 ⟨rfl, hB, hC⟩
        replace HB := Lib.hid hB
        replace hbl := Lib.hid (hbl.out.trans (hC.below (Nat.le_refl _) (by simp) hbl.out.size))
        clear hB hC
        go_wp2_with fail
        refine (write_calls' _ _ _ _ _ _ (k : Int) (hb k) w2 (hb_len k) hbl.out.size HB.out _ _ HW.out).mono ?_
        clear HB
        rintro r w3 ⟨rfl, v2, hB, hb2⟩
        have HB := Lib.hid hB
        clear hB
        go_wp2
        go_roundw
        case rel =>
          refine ⟨k + 1, by omega, by go_num, ⟨v2, k, wrap64 (fz + 1), by rw [if_neg (by omega)], ?_⟩, hbl.out.trans hb2⟩
          have := HB.out
          rw [ce_len] at this
          exact this
        case measure => simp [intOf]; omega
      · go_wp2_with fail
        refine (write_calls' _ _ _ _ _ _ (k : Int) (hb k) wr (hb_len k) hbl.out.size HB.out _ _ HW.out).mono ?_
        clear HB
        rintro r w3 ⟨rfl, v2, hB, hb2⟩
        have HB := Lib.hid hB
        clear hB
        go_wp2
        go_roundw
        case rel =>
          refine ⟨k + 1, by omega, by go_num, ⟨v2, s, fz, ?_, HB.out⟩, hbl.out.trans hb2⟩
          rw [Hs.out]
          by_cases h : k ≤ fl
          · rw [if_pos h, if_pos (by omega)]
          · rw [if_neg h, if_neg (by omega)]
        case measure => simp [intOf]; omega
    · have hke : k = m := by omega
      subst hke
      by_cases hkf : fl = k
      · subst hkf
        go_wp2_with fail
        refine (flush_calls w.heap.size w.heap.size v1 (ce fl) s fz wr HB.out).mono ?_
        rintro r w2 ⟨rfl, hB, hC⟩
        rw [ce_len] at hB
        replace HB := Lib.hid hB
        replace hbl := Lib.hid (hbl.out.trans (hC.below (Nat.le_refl _) (by simp) hbl.out.size))
        clear hB hC Hs
        generalize wrap64 (fz + 1) = fz at HB
        by_cases hk0 : keep < 0
        · skip
          have hn : ((fl : Nat) : Int) = ((fl : Nat) : Int) + min (max (keep) 0) (((ce fl).length : Int) - ((fl : Nat) : Int)) := by rw [ce_len]; omega
          have hn2 : ((fl : Nat) : Int) = ((fl : Nat) : Int) + min (max 0 0) ((((ce fl).take (fl)).length : Int) - ((fl : Nat) : Int)) := by rw [List.length_take, ce_len]; omega
          have hl1 : ((ce fl).take (fl)).length = fl := by rw [List.length_take, ce_len]; omega
          have hl2 : (((ce fl).take (fl)).take (fl)).length = fl := by rw [List.length_take, hl1]; omega
          have HL1 := Lib.hid hl1
          have HL2 := Lib.hid hl2
          have HN2 := Lib.hid hn2
          have HCR := Lib.hid (crash_calls w.heap.size w.heap.size v1 (ce fl) fl fz (keep) w2 HB.out (by rw [ce_len]; omega) (fl) hn)
          clear hn hn2 hl1 hl2
          go_wp2_with fail
          refine HCR.out.mono ?_
          clear HCR
          rintro r w3 ⟨g', v', rfl, hX, hb3⟩
          have HX := Lib.hid hX
          have HB3 := Lib.hid (HB.out.below hb3)
          replace hbl := Lib.hid (hbl.out.trans (hb3.mono hbl.out.size))
          have HCR := Lib.hid (crash_calls _ g' v' _ (fl) 0 0 w3 hX (by rw [HL1.out]; exact Nat.le_refl _) (fl) HN2.out)
          clear hX hb3 HB
          go_wp2_with fail
          refine HCR.out.mono ?_
          clear HCR
          rintro r w4 ⟨g2, v2, rfl, hY, hb4⟩
          obtain ⟨A1, c1, hc1⟩ := (HB3.out.below hb4).len_cell (ce_len fl)
          obtain ⟨A2, c2, hc2⟩ := (HX.out.below hb4).len_cell HL1.out
          obtain ⟨A3, c3, hc3⟩ := hY.len_cell HL2.out
          replace hbl := Lib.hid (hbl.out.trans (hb4.mono hbl.out.size))
          clear hY hb4 HB3 HX
          try rw [show ((fl : Nat) : Int) + (((fl : Nat) : Int) - ((fl : Nat) : Int)) = ((fl : Nat) : Int) by omega]
          go_wp2_with fail
          refine (len_calls _ _ _ _ _ hc1).mono ?_
          rintro r w5 ⟨rfl, rfl⟩
          go_wp2_with fail
          refine (len_calls _ _ _ _ _ hc2).mono ?_
          rintro r w5 ⟨rfl, rfl⟩
          go_wp2_with fail
          refine (len_calls _ _ _ _ _ hc3).mono ?_
          rintro r w5 ⟨rfl, rfl⟩
          go_wp2_with fail
          refine (known_calls _).mono ?_
          rintro r w4 ⟨rfl, hb4⟩
          replace hbl := Lib.hid (hbl.out.trans (hb4.mono hbl.out.size))
          clear hb4
          go_wp2
          go_ret
          exact ⟨rfl, hbl.out⟩
        · obtain ⟨kq, rfl⟩ : ∃ kq : Nat, keep = kq := ⟨keep.toNat, by omega⟩
          by_cases hk1 : fl + kq ≤ fl
          · skip
            have hn : ((fl + kq : Nat) : Int) = ((fl : Nat) : Int) + min (max ((kq : Int)) 0) (((ce fl).length : Int) - ((fl : Nat) : Int)) := by rw [ce_len]; omega
            have hn2 : ((fl + kq : Nat) : Int) = ((fl + kq : Nat) : Int) + min (max 0 0) ((((ce fl).take (fl + kq)).length : Int) - ((fl + kq : Nat) : Int)) := by rw [List.length_take, ce_len]; omega
            have hl1 : ((ce fl).take (fl + kq)).length = fl + kq := by rw [List.length_take, ce_len]; omega
            have hl2 : (((ce fl).take (fl + kq)).take (fl + kq)).length = fl + kq := by rw [List.length_take, hl1]; omega
            have HL1 := Lib.hid hl1
            have HL2 := Lib.hid hl2
            have HN2 := Lib.hid hn2
            have HCR := Lib.hid (crash_calls w.heap.size w.heap.size v1 (ce fl) fl fz ((kq : Int)) w2 HB.out (by rw [ce_len]; omega) (fl + kq) hn)
            clear hn hn2 hl1 hl2
            go_wp2_with fail
            refine HCR.out.mono ?_
            clear HCR
            rintro r w3 ⟨g', v', rfl, hX, hb3⟩
            have HX := Lib.hid hX
            have HB3 := Lib.hid (HB.out.below hb3)
            replace hbl := Lib.hid (hbl.out.trans (hb3.mono hbl.out.size))
            have HCR := Lib.hid (crash_calls _ g' v' _ (fl + kq) 0 0 w3 hX (by rw [HL1.out]; exact Nat.le_refl _) (fl + kq) HN2.out)
            clear hX hb3 HB
            go_wp2_with fail
            refine HCR.out.mono ?_
            clear HCR
            rintro r w4 ⟨g2, v2, rfl, hY, hb4⟩
            obtain ⟨A1, c1, hc1⟩ := (HB3.out.below hb4).len_cell (ce_len fl)
            obtain ⟨A2, c2, hc2⟩ := (HX.out.below hb4).len_cell HL1.out
            obtain ⟨A3, c3, hc3⟩ := hY.len_cell HL2.out
            replace hbl := Lib.hid (hbl.out.trans (hb4.mono hbl.out.size))
            clear hY hb4 HB3 HX
            try rw [show ((fl : Nat) : Int) + (((fl : Nat) : Int) - ((fl : Nat) : Int)) = ((fl : Nat) : Int) by omega]
            go_wp2_with fail
            refine (len_calls _ _ _ _ _ hc1).mono ?_
            rintro r w5 ⟨rfl, rfl⟩
            go_wp2_with fail
            refine (len_calls _ _ _ _ _ hc2).mono ?_
            rintro r w5 ⟨rfl, rfl⟩
            go_wp2_with fail
            refine (len_calls _ _ _ _ _ hc3).mono ?_
            rintro r w5 ⟨rfl, rfl⟩
            go_wp2_with fail
            refine (known_calls _).mono ?_
            rintro r w4 ⟨rfl, hb4⟩
            replace hbl := Lib.hid (hbl.out.trans (hb4.mono hbl.out.size))
            clear hb4
            go_wp2
            go_ret
            exact ⟨rfl, hbl.out⟩
          · skip
            have hn : ((fl : Nat) : Int) = ((fl : Nat) : Int) + min (max ((kq : Int)) 0) (((ce fl).length : Int) - ((fl : Nat) : Int)) := by rw [ce_len]; omega
            have hn2 : ((fl : Nat) : Int) = ((fl : Nat) : Int) + min (max 0 0) ((((ce fl).take (fl)).length : Int) - ((fl : Nat) : Int)) := by rw [List.length_take, ce_len]; omega
            have hl1 : ((ce fl).take (fl)).length = fl := by rw [List.length_take, ce_len]; omega
            have hl2 : (((ce fl).take (fl)).take (fl)).length = fl := by rw [List.length_take, hl1]; omega
            have HL1 := Lib.hid hl1
            have HL2 := Lib.hid hl2
            have HN2 := Lib.hid hn2
            have HCR := Lib.hid (crash_calls w.heap.size w.heap.size v1 (ce fl) fl fz ((kq : Int)) w2 HB.out (by rw [ce_len]; omega) (fl) hn)
            clear hn hn2 hl1 hl2
            go_wp2_with fail
            refine HCR.out.mono ?_
            clear HCR
            rintro r w3 ⟨g', v', rfl, hX, hb3⟩
            have HX := Lib.hid hX
            have HB3 := Lib.hid (HB.out.below hb3)
            replace hbl := Lib.hid (hbl.out.trans (hb3.mono hbl.out.size))
            have HCR := Lib.hid (crash_calls _ g' v' _ (fl) 0 0 w3 hX (by rw [HL1.out]; exact Nat.le_refl _) (fl) HN2.out)
            clear hX hb3 HB
            go_wp2_with fail
            refine HCR.out.mono ?_
            clear HCR
            rintro r w4 ⟨g2, v2, rfl, hY, hb4⟩
            obtain ⟨A1, c1, hc1⟩ := (HB3.out.below hb4).len_cell (ce_len fl)
            obtain ⟨A2, c2, hc2⟩ := (HX.out.below hb4).len_cell HL1.out
            obtain ⟨A3, c3, hc3⟩ := hY.len_cell HL2.out
            replace hbl := Lib.hid (hbl.out.trans (hb4.mono hbl.out.size))
            clear hY hb4 HB3 HX
            try rw [show ((fl : Nat) : Int) + (((fl : Nat) : Int) - ((fl : Nat) : Int)) = ((fl : Nat) : Int) by omega]
            go_wp2_with fail
            refine (len_calls _ _ _ _ _ hc1).mono ?_
            rintro r w5 ⟨rfl, rfl⟩
            go_wp2_with fail
            refine (len_calls _ _ _ _ _ hc2).mono ?_
            rintro r w5 ⟨rfl, rfl⟩
            go_wp2_with fail
            refine (len_calls _ _ _ _ _ hc3).mono ?_
            rintro r w5 ⟨rfl, rfl⟩
            go_wp2_with fail
            refine (known_calls _).mono ?_
            rintro r w4 ⟨rfl, hb4⟩
            replace hbl := Lib.hid (hbl.out.trans (hb4.mono hbl.out.size))
            clear hb4
            go_wp2
            go_ret
            exact ⟨rfl, hbl.out⟩
      · obtain rfl : s = fl := by rw [Hs.out, if_neg (by omega)]
        clear Hs
        by_cases hk0 : keep < 0
        · skip
          have hn : ((s : Nat) : Int) = ((s : Nat) : Int) + min (max (keep) 0) (((ce k).length : Int) - ((s : Nat) : Int)) := by rw [ce_len]; omega
          have hn2 : ((s : Nat) : Int) = ((s : Nat) : Int) + min (max 0 0) ((((ce k).take (s)).length : Int) - ((s : Nat) : Int)) := by rw [List.length_take, ce_len]; omega
          have hl1 : ((ce k).take (s)).length = s := by rw [List.length_take, ce_len]; omega
          have hl2 : (((ce k).take (s)).take (s)).length = s := by rw [List.length_take, hl1]; omega
          have HL1 := Lib.hid hl1
          have HL2 := Lib.hid hl2
          have HN2 := Lib.hid hn2
          have HCR := Lib.hid (crash_calls w.heap.size w.heap.size v1 (ce k) s fz (keep) wr HB.out (by rw [ce_len]; omega) (s) hn)
          clear hn hn2 hl1 hl2
          go_wp2_with fail
          refine HCR.out.mono ?_
          clear HCR
          rintro r w3 ⟨g', v', rfl, hX, hb3⟩
          have HX := Lib.hid hX
          have HB3 := Lib.hid (HB.out.below hb3)
          replace hbl := Lib.hid (hbl.out.trans (hb3.mono hbl.out.size))
          have HCR := Lib.hid (crash_calls _ g' v' _ (s) 0 0 w3 hX (by rw [HL1.out]; exact Nat.le_refl _) (s) HN2.out)
          clear hX hb3 HB
          go_wp2_with fail
          refine HCR.out.mono ?_
          clear HCR
          rintro r w4 ⟨g2, v2, rfl, hY, hb4⟩
          obtain ⟨A1, c1, hc1⟩ := (HB3.out.below hb4).len_cell (ce_len k)
          obtain ⟨A2, c2, hc2⟩ := (HX.out.below hb4).len_cell HL1.out
          obtain ⟨A3, c3, hc3⟩ := hY.len_cell HL2.out
          replace hbl := Lib.hid (hbl.out.trans (hb4.mono hbl.out.size))
          clear hY hb4 HB3 HX
          try rw [show ((s : Nat) : Int) + (((k : Nat) : Int) - ((s : Nat) : Int)) = ((k : Nat) : Int) by omega]
          go_wp2_with fail
          refine (len_calls _ _ _ _ _ hc1).mono ?_
          rintro r w5 ⟨rfl, rfl⟩
          go_wp2_with fail
          refine (len_calls _ _ _ _ _ hc2).mono ?_
          rintro r w5 ⟨rfl, rfl⟩
          go_wp2_with fail
          refine (len_calls _ _ _ _ _ hc3).mono ?_
          rintro r w5 ⟨rfl, rfl⟩
          go_wp2_with fail
          refine (known_calls _).mono ?_
          rintro r w4 ⟨rfl, hb4⟩
          replace hbl := Lib.hid (hbl.out.trans (hb4.mono hbl.out.size))
          clear hb4
          go_wp2
          go_ret
          exact ⟨rfl, hbl.out⟩
        · obtain ⟨kq, rfl⟩ : ∃ kq : Nat, keep = kq := ⟨keep.toNat, by omega⟩
          by_cases hk1 : s + kq ≤ k
          · skip
            have hn : ((s + kq : Nat) : Int) = ((s : Nat) : Int) + min (max ((kq : Int)) 0) (((ce k).length : Int) - ((s : Nat) : Int)) := by rw [ce_len]; omega
            have hn2 : ((s + kq : Nat) : Int) = ((s + kq : Nat) : Int) + min (max 0 0) ((((ce k).take (s + kq)).length : Int) - ((s + kq : Nat) : Int)) := by rw [List.length_take, ce_len]; omega
            have hl1 : ((ce k).take (s + kq)).length = s + kq := by rw [List.length_take, ce_len]; omega
            have hl2 : (((ce k).take (s + kq)).take (s + kq)).length = s + kq := by rw [List.length_take, hl1]; omega
            have HL1 := Lib.hid hl1
            have HL2 := Lib.hid hl2
            have HN2 := Lib.hid hn2
            have HCR := Lib.hid (crash_calls w.heap.size w.heap.size v1 (ce k) s fz ((kq : Int)) wr HB.out (by rw [ce_len]; omega) (s + kq) hn)
            clear hn hn2 hl1 hl2
            go_wp2_with fail
            refine HCR.out.mono ?_
            clear HCR
            rintro r w3 ⟨g', v', rfl, hX, hb3⟩
            have HX := Lib.hid hX
            have HB3 := Lib.hid (HB.out.below hb3)
            replace hbl := Lib.hid (hbl.out.trans (hb3.mono hbl.out.size))
            have HCR := Lib.hid (crash_calls _ g' v' _ (s + kq) 0 0 w3 hX (by rw [HL1.out]; exact Nat.le_refl _) (s + kq) HN2.out)
            clear hX hb3 HB
            go_wp2_with fail
            refine HCR.out.mono ?_
            clear HCR
            rintro r w4 ⟨g2, v2, rfl, hY, hb4⟩
            obtain ⟨A1, c1, hc1⟩ := (HB3.out.below hb4).len_cell (ce_len k)
            obtain ⟨A2, c2, hc2⟩ := (HX.out.below hb4).len_cell HL1.out
            obtain ⟨A3, c3, hc3⟩ := hY.len_cell HL2.out
            replace hbl := Lib.hid (hbl.out.trans (hb4.mono hbl.out.size))
            clear hY hb4 HB3 HX
            try rw [show ((s : Nat) : Int) + (((k : Nat) : Int) - ((s : Nat) : Int)) = ((k : Nat) : Int) by omega]
            go_wp2_with fail
            refine (len_calls _ _ _ _ _ hc1).mono ?_
            rintro r w5 ⟨rfl, rfl⟩
            go_wp2_with fail
            refine (len_calls _ _ _ _ _ hc2).mono ?_
            rintro r w5 ⟨rfl, rfl⟩
            go_wp2_with fail
            refine (len_calls _ _ _ _ _ hc3).mono ?_
            rintro r w5 ⟨rfl, rfl⟩
            go_wp2_with fail
            refine (known_calls _).mono ?_
            rintro r w4 ⟨rfl, hb4⟩
            replace hbl := Lib.hid (hbl.out.trans (hb4.mono hbl.out.size))
            clear hb4
            go_wp2
            go_ret
            exact ⟨rfl, hbl.out⟩
          · skip
            have hn : ((k : Nat) : Int) = ((s : Nat) : Int) + min (max ((kq : Int)) 0) (((ce k).length : Int) - ((s : Nat) : Int)) := by rw [ce_len]; omega
            have hn2 : ((k : Nat) : Int) = ((k : Nat) : Int) + min (max 0 0) ((((ce k).take (k)).length : Int) - ((k : Nat) : Int)) := by rw [List.length_take, ce_len]; omega
            have hl1 : ((ce k).take (k)).length = k := by rw [List.length_take, ce_len]; omega
            have hl2 : (((ce k).take (k)).take (k)).length = k := by rw [List.length_take, hl1]; omega
            have HL1 := Lib.hid hl1
            have HL2 := Lib.hid hl2
            have HN2 := Lib.hid hn2
            have HCR := Lib.hid (crash_calls w.heap.size w.heap.size v1 (ce k) s fz ((kq : Int)) wr HB.out (by rw [ce_len]; omega) (k) hn)
            clear hn hn2 hl1 hl2
            go_wp2_with fail
            refine HCR.out.mono ?_
            clear HCR
            rintro r w3 ⟨g', v', rfl, hX, hb3⟩
            have HX := Lib.hid hX
            have HB3 := Lib.hid (HB.out.below hb3)
            replace hbl := Lib.hid (hbl.out.trans (hb3.mono hbl.out.size))
            have HCR := Lib.hid (crash_calls _ g' v' _ (k) 0 0 w3 hX (by rw [HL1.out]; exact Nat.le_refl _) (k) HN2.out)
            clear hX hb3 HB
            go_wp2_with fail
            refine HCR.out.mono ?_
            clear HCR
            rintro r w4 ⟨g2, v2, rfl, hY, hb4⟩
            obtain ⟨A1, c1, hc1⟩ := (HB3.out.below hb4).len_cell (ce_len k)
            obtain ⟨A2, c2, hc2⟩ := (HX.out.below hb4).len_cell HL1.out
            obtain ⟨A3, c3, hc3⟩ := hY.len_cell HL2.out
            replace hbl := Lib.hid (hbl.out.trans (hb4.mono hbl.out.size))
            clear hY hb4 HB3 HX
            try rw [show ((s : Nat) : Int) + (((k : Nat) : Int) - ((s : Nat) : Int)) = ((k : Nat) : Int) by omega]
            go_wp2_with fail
            refine (len_calls _ _ _ _ _ hc1).mono ?_
            rintro r w5 ⟨rfl, rfl⟩
            go_wp2_with fail
            refine (len_calls _ _ _ _ _ hc2).mono ?_
            rintro r w5 ⟨rfl, rfl⟩
            go_wp2_with fail
            refine (len_calls _ _ _ _ _ hc3).mono ?_
            rintro r w5 ⟨rfl, rfl⟩
            go_wp2_with fail
            refine (known_calls _).mono ?_
            rintro r w4 ⟨rfl, hb4⟩
            replace hbl := Lib.hid (hbl.out.trans (hb4.mono hbl.out.size))
            clear hb4
            go_wp2
            go_ret
            exact ⟨rfl, hbl.out⟩
end Go.Proofs.Ytpnecknillpjkaa.Bk
