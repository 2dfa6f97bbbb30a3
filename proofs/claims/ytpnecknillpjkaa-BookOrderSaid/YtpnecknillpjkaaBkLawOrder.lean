import Derived.Test.YtpnecknillpjkaaBkHash
namespace Go.Proofs.Ytpnecknillpjkaa.Bk
open Go.RowKit

/-- What is written behind k writes. -/
def oe (k : Nat) : List (Int × List Int) := (List.range k).map (fun (i : Nat) => (100 - (i : Int), hb i))
theorem oe_len (k : Nat) : (oe k).length = k := by simp [oe]
theorem oe_succ (k : Nat) : oe k ++ [(100 - (k : Int), hb k)] = oe (k + 1) := by simp [oe, List.range_succ]
theorem oe_take (n k : Nat) (h : k ≤ n) : (oe n).take k = oe k := by
  unfold oe
  rw [← List.map_take, List.take_range, Nat.min_eq_left h]
theorem oe_find (i : Nat) : ∀ k, (oe k).find? (fun x => x.1 == 100 - (i : Int)) = if i < k then some (100 - (i : Int), hb i) else none
  | 0 => by simp [oe]
  | k + 1 => by
    rw [← oe_succ, List.find?_append, oe_find i k]
    by_cases h : i < k
    · rw [if_pos h, if_pos (by omega)]; rfl
    · rw [if_neg h]
      by_cases h2 : i = k
      · subst h2
        rw [if_pos (by omega)]
        simp
      · rw [if_neg (by omega)]
        simp
        omega
theorem oe_look1 (i k : Nat) (h : i < k) : look (oe k) (100 - (i : Int)) = (hb i, true) := by
  unfold look
  rw [oe_find, if_pos h]
theorem oe_look0 (i k : Nat) (h : k ≤ i) : look (oe k) (100 - (i : Int)) = (zeros, false) := by
  unfold look
  rw [oe_find, if_neg (by omega)]
theorem oe_write (k : Nat) (h : k < 100) : writeOf (oe k) (100 - (k : Int)) (hb k) = (0, oe (k + 1)) := by
  unfold writeOf
  rw [if_neg (by omega), if_neg (by rw [oe_look0 k k (Nat.le_refl _)]; simp), oe_len, if_neg (by omega), oe_succ]

set_option maxRecDepth 100000 in
set_option maxHeartbeats 400000 in
theorem order_calls (n keep : Int) (w : World) : Calls Try.prog 5 #[.int .i64 n, .int .i64 keep] w fun r w' => r = .returned (.bool true) ∧ Below w.heap.size w w' := by
  by_cases h0 : n < 0
  · go_enter Try.func5, Try.ntmps5
    go_wp2
    go_ret
    exact ⟨rfl, Below.refl _ _⟩
  by_cases h1 : 30 < n
  · go_enter Try.func5, Try.ntmps5
    go_wp2
    go_ret
    exact ⟨rfl, Below.refl _ _⟩
  by_cases h2 : keep < 0
  · go_enter Try.func5, Try.ntmps5
    go_wp2
    go_ret
    exact ⟨rfl, Below.refl _ _⟩
  by_cases h3 : 40 < keep
  · go_enter Try.func5, Try.ntmps5
    go_wp2
    go_ret
    exact ⟨rfl, Below.refl _ _⟩
  obtain ⟨m, rfl⟩ : ∃ m : Nat, n = m := ⟨n.toNat, by omega⟩
  obtain ⟨kp, rfl⟩ : ∃ m : Nat, keep = m := ⟨keep.toNat, by omega⟩
  have hm : m ≤ 30 := by omega
  have hkp : kp ≤ 40 := by omega
  go_enter Try.func5, Try.ntmps5
  go_wp2_with fail
  refine (new_calls w).mono ?_
  rintro r w1 ⟨rfl, hw1⟩
  have hB : BookAt w1 w.heap.size w.heap.size (.slice none 0 0) (oe 0) 0 0 := by rw [hw1]; exact new_book w
  have hb1 : Below w.heap.size w w1 := by rw [hw1]; exact (Below.refl _ _).alloc (Nat.le_refl _) _
  have HB := Lib.hid hB
  have Hb := Lib.hid hb1
  clear hw1 hB hb1
  go_wp2
  go_loopw [6] (fun v wr => ∃ k : Nat, k ≤ m ∧ v = .int .i64 k ∧ Hid (∃ v', BookAt wr w.heap.size w.heap.size v' (oe k) ((0 : Nat) : Int) 0) ∧ Hid (Below w.heap.size w wr)) (fun v _ => m - (intOf v).toNat)
  case atStart => exact ⟨0, Nat.zero_le _, rfl, ⟨_, HB.out⟩, Hb.out⟩
  case round =>
    obtain ⟨k, hkn, rfl, hB, hbl⟩ := hrel
    obtain ⟨v1, hB⟩ := hB.out
    clear HB Hb
    replace HB := Lib.hid hB
    clear hB
    by_cases hlt2 : k < m
    · have HW : Hid (writeOf (oe k) (100 - (k : Int)) (hb k) = (0, oe (k + 1))) := oe_write k (by omega)
      go_wp2_with fail
      refine (write_calls' _ _ _ _ _ _ (100 - (k : Int)) (hb k) wr (hb_len k) hbl.out.size HB.out _ _ HW.out).mono ?_
      clear HB
      rintro r w3 ⟨rfl, v2, hB, hb2⟩
      have HB := Lib.hid hB
      clear hB
      go_wp2
      go_roundw
      case rel => exact ⟨k + 1, by omega, by go_num, ⟨v2, HB.out⟩, hbl.out.trans hb2⟩
      case measure => simp [intOf]; omega
    · have hke : k = m := by omega
      subst hke
      obtain ⟨nx, hnx⟩ : ∃ nx, nx = min kp k := ⟨_, rfl⟩
      have hn : ((nx : Nat) : Int) = ((0 : Nat) : Int) + min (max (kp : Int) 0) (((oe k).length : Int) - ((0 : Nat) : Int)) := by rw [oe_len]; omega
      have HCR := Lib.hid (crash_calls w.heap.size w.heap.size v1 (oe k) 0 0 (kp : Int) wr HB.out (by rw [oe_len]; omega) nx hn)
      have HNX := Lib.hid hnx
      clear hn hnx
      go_wp2_with fail
      refine HCR.out.mono ?_
      clear HCR
      rintro r w3 ⟨g', v', rfl, hX, hb3⟩
      rw [oe_take k nx (by rw [HNX.out]; omega)] at hX
      replace hbl := Lib.hid (hbl.out.trans (hb3.mono hbl.out.size))
      generalize wr.heap.size = B0 at hX
      have HX := Lib.hid hX
      clear hX hb3 HB
      go_wp2
      go_loopw [8] (fun v wq => ∃ i : Nat, i ≤ k ∧ v = .int .i64 i ∧ Hid (BookAt wq B0 g' v' (oe nx) nx 0) ∧ Hid (Below w.heap.size w wq)) (fun v _ => k - (intOf v).toNat)
      case atStart => exact ⟨0, Nat.zero_le _, rfl, HX, hbl⟩
      case round =>
        obtain ⟨i, hin, rfl, hX, hbr⟩ := hrel
        clear HX hbl
        by_cases hlt3 : i < k
        · by_cases hik : i < kp
          · obtain ⟨P, hP⟩ : ∃ P, P = hb i := ⟨_, rfl⟩
            have hPl : P.length = 32 := by rw [hP, hb_len]
            have HH := Lib.hid (hX.out.holds (100 - (i : Int)) P true (by rw [hP]; exact oe_look1 i nx (by rw [HNX.out]; omega)))
            have hne : ∀ w : World, (binOp .neq 27 (.agg (pc P).toArray) (.agg (papA (hb i)))).run Try.prog w = .ok (.bool false) w := fun w => by
              have := run_ne_hash (hb i) (hb i) (hb_len i) (hb_len i) w
              rw [hP]
              simpa [papA] using this
            have HT : Hid (∀ w : World, (w.alloc (.cells (papA zeros) 27)).there w.heap.size 0 (papA P).size) := fun w => alloc_there w P hPl
            have HL : Hid ((Try.prog.info? 27).map (·.size) = some (papA P).size) := by show _ = _; rw [papA_size hPl]; exact info27
            have HLh : Hid ((Try.prog.info? 27).map (·.size) = some (pc P).length) := by show _ = _; rw [pc, List.length_map, hPl]; exact info27
            have HR1 : Hid (∀ w : World, (heldW w P).rangeAt w.heap.size 0 (pc P)) := fun w => heldW_reads w P hPl
            clear hP hPl
            go_wp2_with fail
            refine HH.out.mono ?_
            clear HH
            rintro r w5 ⟨rfl, hb5⟩
            have HB5 := Lib.hid hb5
            clear hb5
            go_wp2_with (first
              | (refine wpList_store_mid rfl 27 (.tmp 9) (.tmp 55) (by rfl) w5.heap.size 0 (papA P) (by rfl) (by rfl) (HT.out w5) HL.out (papA_all _) ?_)
              | ((refine unguard (by rfl) ?_); (refine wpList_load_mid rfl 27 (.tmp 9) (by rfl) w5.heap.size 0 (by rfl) (pc P) _ (HR1.out w5) Try.underlying27 rfl HLh.out ?_))
              | ((refine unguard (by rfl) ?_); (refine wpList_hb rfl _ (.tmp 67) (by rfl) (by rfl) ?_)))
            have hbw : Below wr.heap.size wr (heldW w5 P) := HB5.out.trans ((heldW_below w5 P).mono HB5.out.size)
            go_roundw
            case rel => exact ⟨i + 1, by omega, by go_num, hX.out.below hbw, hbr.out.trans (hbw.mono hbr.out.size)⟩
            case measure => simp [intOf]; omega
          · obtain ⟨P, hP⟩ : ∃ P, P = zeros := ⟨_, rfl⟩
            have hPl : P.length = 32 := by rw [hP]; simp [zeros]
            have HH := Lib.hid (hX.out.holds (100 - (i : Int)) P false (by rw [hP]; exact oe_look0 i nx (by rw [HNX.out]; omega)))
            have HT : Hid (∀ w : World, (w.alloc (.cells (papA zeros) 27)).there w.heap.size 0 (papA P).size) := fun w => alloc_there w P hPl
            have HL : Hid ((Try.prog.info? 27).map (·.size) = some (papA P).size) := by show _ = _; rw [papA_size hPl]; exact info27
            clear hP hPl
            go_wp2_with fail
            refine HH.out.mono ?_
            clear HH
            rintro r w5 ⟨rfl, hb5⟩
            have HB5 := Lib.hid hb5
            clear hb5
            go_wp2_with (refine wpList_store_mid rfl 27 (.tmp 9) (.tmp 55) (by rfl) w5.heap.size 0 (papA P) (by rfl) (by rfl) (HT.out w5) HL.out (papA_all _) ?_)
            have hbw : Below wr.heap.size wr (heldW w5 P) := HB5.out.trans ((heldW_below w5 P).mono HB5.out.size)
            go_roundw
            case rel => exact ⟨i + 1, by omega, by go_num, hX.out.below hbw, hbr.out.trans (hbw.mono hbr.out.size)⟩
            case measure => simp [intOf]; omega
        · have hke : i = k := by omega
          subst hke
          go_wp2_with fail
          refine (known_calls wr).mono ?_
          rintro r w4 ⟨rfl, hb4⟩
          have HB4 := Lib.hid (hbr.out.trans (hb4.mono hbr.out.size))
          clear hb4
          go_wp2
          go_ret
          exact ⟨rfl, HB4.out⟩
end Go.Proofs.Ytpnecknillpjkaa.Bk
