import Derived.Test.YtpnecknillpjkaaBkKnown
import Derived.Test.YtpnecknillpjkaaBkCrash
namespace Go.Proofs.Ytpnecknillpjkaa.Bk
open Go.RowKit
attribute [local go_sem ↓] run_hb run_hb2 run_h0

theorem BookAt.len_cell {w : World} {base g : Nat} {v : Value} {es : List (Int × List Int)} {st fl : Int} (h : BookAt w base g v es st fl) {n : Nat} (hn : es.length = n) : ∃ A c, w.cell? ⟨g, 0, none⟩ = some (.slice A n c) := by
  obtain ⟨A, c, rfl⟩ := own_slice h.own hn
  exact ⟨A, c, by rw [h.cell]; rfl⟩

set_option maxRecDepth 100000 in
set_option maxHeartbeats 400000 in
theorem many_calls (n keep : Int) (w : World) : Calls Try.prog 10 #[.int .i64 n, .int .i64 keep] w fun r w' => r = .returned (.bool true) ∧ Below w.heap.size w w' := by
  by_cases h0 : n < 0
  · go_enter Try.func10, Try.ntmps10
    go_wp2
    go_ret
    exact ⟨rfl, Below.refl _ _⟩
  by_cases h1 : 30 < n
  · go_enter Try.func10, Try.ntmps10
    go_wp2
    go_ret
    exact ⟨rfl, Below.refl _ _⟩
  obtain ⟨m, rfl⟩ : ∃ m : Nat, n = m := ⟨n.toNat, by omega⟩
  have hm : m ≤ 30 := by omega
  go_enter Try.func10, Try.ntmps10
  go_wp2_with fail
  refine (new_calls w).mono ?_
  rintro r w1 ⟨rfl, hw1⟩
  have hB : BookAt w1 w.heap.size w.heap.size (.slice none 0 0) [] 0 0 := by rw [hw1]; exact new_book w
  have hb : Below w.heap.size w w1 := by rw [hw1]; exact (Below.refl _ _).alloc (Nat.le_refl _) _
  have HB := Lib.hid hB
  have Hb := Lib.hid hb
  clear hw1 hB hb
  go_wp2_with fail
  refine (write_calls' _ _ _ _ _ _ 1 (hb 1) w1 (hb_len 1) Hb.out.size HB.out _ _ wk1).mono ?_
  clear HB
  rintro r w2 ⟨rfl, v2, hB, hb⟩
  have HB := Lib.hid hB
  replace Hb := Lib.hid (Hb.out.trans hb)
  clear hB hb
  generalize hes : [((1 : Int), hb 1)] = es1 at HB
  have he1 : Hid (es1.length = 1) := by rw [← hes]; rfl
  clear hes
  go_wp2
  go_loopw [6] (fun v wr => ∃ k : Nat, k ≤ m ∧ v = .int .i64 k ∧ Hid (∃ v' s, (s = if k = 0 then 0 else 1) ∧ BookAt wr w.heap.size w.heap.size v' es1 (s : Nat) k) ∧ Hid (Below w.heap.size w wr)) (fun v _ => m - (intOf v).toNat)
  case atStart => exact ⟨0, Nat.zero_le _, rfl, ⟨_, 0, rfl, HB.out⟩, Hb.out⟩
  case round =>
    obtain ⟨k, hkn, rfl, hB, hbl⟩ := hrel
    obtain ⟨v1, s, hs, hB⟩ := hB.out
    clear HB Hb
    replace HB := Lib.hid hB
    have Hs := Lib.hid hs
    clear hB hs
    by_cases hlt2 : k < m
    · go_wp2_with (go_at_call 20; refine (flush_calls w.heap.size w.heap.size v1 es1 s k wr HB.out).mono ?_; rintro r w2 ⟨rfl, hB, hC⟩; have HB2 := Lib.hid hB; have HC := Lib.hid hC; clear hB hC)
      go_roundw
      case rel =>
        refine ⟨k + 1, by omega, by go_num, ⟨v1, 1, by rw [if_neg (by omega)], ?_⟩, hbl.out.trans (HC.out.below (Nat.le_refl _) (by simp) hbl.out.size)⟩
        have e1 : wrap64 ((k : Int) + 1) = ((k + 1 : Nat) : Int) := by unfold wrap64; omega
        rw [← e1, ← he1.out]
        exact HB2.out
      case measure => simp [intOf]; omega
    · have hke : k = m := by omega
      subst hke
      by_cases hz : k = 0
      · obtain rfl : s = 0 := by rw [Hs.out, if_pos hz]
        subst hz
        clear Hs
        by_cases hk : keep < 1
        · skip
          have hn : ((0 : Nat) : Int) = ((0 : Nat) : Int) + min (max keep 0) ((es1.length : Int) - ((0 : Nat) : Int)) := by rw [he1.out]; omega
          have Hn := Lib.hid hn
          clear hn
          have HCR := Lib.hid (crash_calls w.heap.size w.heap.size v1 es1 0 0 keep wr HB.out (by rw [he1.out]; omega) 0 Hn.out)
          go_wp2_with fail
          refine HCR.out.mono ?_
          clear HCR
          rintro r w3 ⟨g', v', rfl, hX, hb3⟩
          obtain ⟨Ab, cb, hlb⟩ := (HB.out.below hb3).len_cell he1.out
          obtain ⟨Ax, cx, hlx⟩ := hX.len_cell (n := 0) (by rw [List.length_take, he1.out]; rfl)
          have hfb : w3.cell? ⟨w.heap.size, 2, none⟩ = some (.int .i64 0) := (by rw [(HB.out.below hb3).cell]; rfl)
          have hfx : w3.cell? ⟨g', 2, none⟩ = some (.int .i64 0) := (by rw [hX.cell]; rfl)
          replace hbl := Lib.hid (hbl.out.trans (hb3.mono hbl.out.size))
          clear hX hb3 HB Hn
          go_wp2_with fail
          refine (flushes_calls _ _ _ hfb (by omega)).mono ?_
          rintro r w5 ⟨rfl, rfl⟩
          go_wp2_with fail
          refine (flushes_calls _ _ _ hfx (by omega)).mono ?_
          rintro r w5 ⟨rfl, rfl⟩
          go_wp2_with fail
          refine (len_calls _ _ _ _ _ hlx).mono ?_
          rintro r w5 ⟨rfl, rfl⟩
          go_wp2_with fail
          refine (len_calls _ _ _ _ _ hlb).mono ?_
          rintro r w5 ⟨rfl, rfl⟩
          go_wp2_with fail
          refine (known_calls _).mono ?_
          rintro r w4 ⟨rfl, hb4⟩
          replace hbl := Lib.hid (hbl.out.trans (hb4.mono hbl.out.size))
          clear hb4
          go_wp2
          go_ret
          exact ⟨rfl, hbl.out⟩
        · skip
          have hn : ((1 : Nat) : Int) = ((0 : Nat) : Int) + min (max keep 0) ((es1.length : Int) - ((0 : Nat) : Int)) := by rw [he1.out]; omega
          have Hn := Lib.hid hn
          clear hn
          have HCR := Lib.hid (crash_calls w.heap.size w.heap.size v1 es1 0 0 keep wr HB.out (by rw [he1.out]; omega) 1 Hn.out)
          go_wp2_with fail
          refine HCR.out.mono ?_
          clear HCR
          rintro r w3 ⟨g', v', rfl, hX, hb3⟩
          obtain ⟨Ab, cb, hlb⟩ := (HB.out.below hb3).len_cell he1.out
          obtain ⟨Ax, cx, hlx⟩ := hX.len_cell (n := 1) (by rw [List.length_take, he1.out]; rfl)
          have hfb : w3.cell? ⟨w.heap.size, 2, none⟩ = some (.int .i64 0) := (by rw [(HB.out.below hb3).cell]; rfl)
          have hfx : w3.cell? ⟨g', 2, none⟩ = some (.int .i64 0) := (by rw [hX.cell]; rfl)
          replace hbl := Lib.hid (hbl.out.trans (hb3.mono hbl.out.size))
          clear hX hb3 HB Hn
          go_wp2_with fail
          refine (flushes_calls _ _ _ hfb (by omega)).mono ?_
          rintro r w5 ⟨rfl, rfl⟩
          go_wp2_with fail
          refine (flushes_calls _ _ _ hfx (by omega)).mono ?_
          rintro r w5 ⟨rfl, rfl⟩
          go_wp2_with fail
          refine (len_calls _ _ _ _ _ hlx).mono ?_
          rintro r w5 ⟨rfl, rfl⟩
          go_wp2_with fail
          refine (len_calls _ _ _ _ _ hlb).mono ?_
          rintro r w5 ⟨rfl, rfl⟩
          go_wp2_with fail
          refine (known_calls _).mono ?_
          rintro r w4 ⟨rfl, hb4⟩
          replace hbl := Lib.hid (hbl.out.trans (hb4.mono hbl.out.size))
          clear hb4
          go_wp2
          go_ret
          exact ⟨rfl, hbl.out⟩
      · obtain rfl : s = 1 := by rw [Hs.out, if_neg hz]
        clear Hs
        have hn : ((1 : Nat) : Int) = ((1 : Nat) : Int) + min (max keep 0) ((es1.length : Int) - ((1 : Nat) : Int)) := by rw [he1.out]; omega
        have Hn := Lib.hid hn
        clear hn
        have HCR := Lib.hid (crash_calls w.heap.size w.heap.size v1 es1 1 k keep wr HB.out (by rw [he1.out]; omega) 1 Hn.out)
        go_wp2_with fail
        refine HCR.out.mono ?_
        clear HCR
        rintro r w3 ⟨g', v', rfl, hX, hb3⟩
        obtain ⟨Ab, cb, hlb⟩ := (HB.out.below hb3).len_cell he1.out
        obtain ⟨Ax, cx, hlx⟩ := hX.len_cell (n := 1) (by rw [List.length_take, he1.out]; rfl)
        have hfb : w3.cell? ⟨w.heap.size, 2, none⟩ = some (.int .i64 k) := (by rw [(HB.out.below hb3).cell]; rfl)
        have hfx : w3.cell? ⟨g', 2, none⟩ = some (.int .i64 0) := (by rw [hX.cell]; rfl)
        replace hbl := Lib.hid (hbl.out.trans (hb3.mono hbl.out.size))
        clear hX hb3 HB Hn
        go_wp2_with fail
        refine (flushes_calls _ _ _ hfb (by omega)).mono ?_
        rintro r w5 ⟨rfl, rfl⟩
        go_wp2_with fail
        refine (flushes_calls _ _ _ hfx (by omega)).mono ?_
        rintro r w5 ⟨rfl, rfl⟩
        go_wp2_with fail
        refine (len_calls _ _ _ _ _ hlx).mono ?_
        rintro r w5 ⟨rfl, rfl⟩
        go_wp2_with fail
        refine (len_calls _ _ _ _ _ hlb).mono ?_
        rintro r w5 ⟨rfl, rfl⟩
        go_wp2_with fail
        refine (known_calls _).mono ?_
        rintro r w4 ⟨rfl, hb4⟩
        replace hbl := Lib.hid (hbl.out.trans (hb4.mono hbl.out.size))
        clear hb4
        go_wp2
        go_ret
        exact ⟨rfl, hbl.out⟩
end Go.Proofs.Ytpnecknillpjkaa.Bk
