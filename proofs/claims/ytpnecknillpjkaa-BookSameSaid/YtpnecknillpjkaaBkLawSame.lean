import Derived.Test.YtpnecknillpjkaaBkKnown
namespace Go.Proofs.Ytpnecknillpjkaa.Bk
open Go.RowKit
attribute [local go_sem ↓] run_hb run_hb2 run_h0

theorem look_one (e : Int) (p : List Int) : look [(e, p)] e = (p, true) := by simp [look]
theorem look_nil (e : Int) : look [] e = (zeros, false) := rfl
def fs (e : Int) (p : List Int) (k : Nat) : List (Int × List Int) := if k = 0 then [] else [(e, p)]
theorem fs_write (e : Int) (p : List Int) (k : Nat) (h0 : 0 ≤ e) (h1 : e ≤ 1099511627776) : writeOf (fs e p k) e p = (0, fs e p (k + 1)) := by
  unfold writeOf
  rw [if_neg (by omega)]
  by_cases hk : k = 0
  · subst hk
    simp [fs, look_nil]
  · simp [fs, hk, look_one]

set_option maxRecDepth 100000 in
set_option maxHeartbeats 1000000 in
theorem same_calls (e : Int) (p : List Int) (n : Int) (w : World) (hp : p.length = 32) : Calls Try.prog 4 #[.int .i64 e, .agg (papA p), .int .i64 n] w fun r w' => r = .returned (.bool true) ∧ Below w.heap.size w w' := by
  by_cases h0 : e < 0
  · go_enter Try.func4, Try.ntmps4
    go_wp2
    go_ret
    exact ⟨rfl, (Below.refl _ _).alloc (Nat.le_refl _) _⟩
  by_cases h1 : 1099511627776 < e
  · go_enter Try.func4, Try.ntmps4
    go_wp2
    go_ret
    exact ⟨rfl, (Below.refl _ _).alloc (Nat.le_refl _) _⟩
  by_cases h2 : n < 1
  · go_enter Try.func4, Try.ntmps4
    go_wp2
    go_ret
    exact ⟨rfl, (Below.refl _ _).alloc (Nat.le_refl _) _⟩
  by_cases h3 : 20 < n
  · go_enter Try.func4, Try.ntmps4
    go_wp2
    go_ret
    exact ⟨rfl, (Below.refl _ _).alloc (Nat.le_refl _) _⟩
  obtain ⟨m, rfl⟩ : ∃ m : Nat, n = m := ⟨n.toNat, by omega⟩
  have hm : m ≤ 20 := by omega
  have hm1 : 1 ≤ m := by omega
  have HI : Hid ((Try.prog.info? 27).map (·.size) = some (pc p).length) := by show _ = _; rw [pc, List.length_map, hp]; exact info27
  have HP := Lib.hid hp
  have HE : Hid (∀ k, writeOf (fs e p k) e p = (0, fs e p (k + 1))) := fun k => fs_write e p k (by omega) (by omega)
  clear hp h2 h3
  go_enter Try.func4, Try.ntmps4
  go_wp2_with fail
  obtain ⟨W0, hW0⟩ : ∃ W0, W0 = w.alloc (.cells (papA p) 27) := ⟨_, rfl⟩
  have Hb0 : Hid (Below w.heap.size w W0) := by rw [hW0]; exact (Below.refl _ _).alloc (Nat.le_refl _) _
  have HBox : Hid (W0.heap[w.heap.size]? = some (.cells (papA p) 27)) := by rw [hW0]; exact heap_alloc_new _ _
  have hlt : w.heap.size < W0.heap.size := by rw [hW0]; simp
  have HLT := Lib.hid hlt
  rw [← hW0]
  clear hlt
  refine (new_calls W0).mono ?_
  rintro r w1 ⟨rfl, hw1⟩
  have hB : BookAt w1 W0.heap.size W0.heap.size (.slice none 0 0) (fs e p 0) 0 0 := by rw [hw1]; exact new_book W0
  have hb : Below W0.heap.size W0 w1 := by rw [hw1]; exact (Below.refl _ _).alloc (Nat.le_refl _) _
  have HB := Lib.hid hB
  have Hb := Lib.hid hb
  clear hw1 hB hb hW0
  go_wp2
  go_loopw [8] (fun v wr => ∃ k : Nat, k ≤ m ∧ v = .int .i64 k ∧ (∃ v', BookAt wr W0.heap.size W0.heap.size v' (fs e p k) 0 0) ∧ Hid (Below W0.heap.size W0 wr)) (fun v _ => m - (intOf v).toNat)
  case atStart => exact ⟨0, Nat.zero_le _, rfl, ⟨_, HB.out⟩, Hb.out⟩
  case round =>
    obtain ⟨k, hkn, rfl, ⟨v1, hB⟩, hbl⟩ := hrel
    clear HB Hb
    replace HB := Lib.hid hB
    clear hB
    by_cases hlt2 : k < m
    · have HR : Hid (wr.rangeAt w.heap.size 0 (pc p)) := range_of_block ((hbl.out.block _ HLT.out).trans HBox.out)
      go_wp2_with (first
        | (refine wpList_load_mid rfl 27 (.tmp 4) (by rfl) w.heap.size 0 (by rfl) (pc p) _ HR.out Try.underlying27 rfl HI.out ?_)
        | (go_at_call 13; refine (write_calls' _ _ _ _ _ _ e p wr HP.out hbl.out.size HB.out _ _ (HE.out k)).mono ?_; rintro r w2 ⟨rfl, v2, hB, hb2⟩))
      go_roundw
      case rel => exact ⟨k + 1, by omega, by go_num, ⟨v2, hB⟩, hbl.out.trans hb2⟩
      case measure => simp [intOf]; omega
    · have hke : k = m := by omega
      subst hke
      have hfs : fs e p k = [(e, p)] := by unfold fs; rw [if_neg (by omega)]
      rw [hfs] at HB
      obtain ⟨A, c, rfl, _, hr⟩ := HB.out.own.reads
      have hc : wr.cell? ⟨W0.heap.size, 0, none⟩ = some (.slice A 1 c) := by rw [HB.out.cell]; rfl
      have hc2 : wr.cell? ⟨W0.heap.size, 2, none⟩ = some (.int .i64 0) := by rw [HB.out.cell]; rfl
      clear hr
      go_wp2_with (first
          | (go_at_call 14; refine (len_calls _ _ _ _ _ hc).mono ?_; rintro r w5 ⟨rfl, rfl⟩)
          | (go_at_call 16; refine (flushes_calls _ 0 _ hc2 (by omega)).mono ?_; rintro r w5 ⟨rfl, rfl⟩)
          | (go_at_call 15; refine (known_calls _).mono ?_; rintro r w4 ⟨rfl, hb4⟩; replace hbl := Lib.hid (hbl.out.trans (hb4.mono hbl.out.size)); clear hb4))
      go_ret
      exact ⟨rfl, Hb0.out.trans (hbl.out.mono Hb0.out.size)⟩
end Go.Proofs.Ytpnecknillpjkaa.Bk
