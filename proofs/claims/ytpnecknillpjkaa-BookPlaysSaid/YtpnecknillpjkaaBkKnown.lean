import Derived.Test.YtpnecknillpjkaaBkFull
namespace Go.Proofs.Ytpnecknillpjkaa.Bk
open Go.RowKit
attribute [local go_sem ↓] run_hb run_hb2 run_h0

theorem wk1 : writeOf [] 1 (hb 1) = (0, [(1, hb 1)]) := rfl
theorem wk2 : writeOf [(1, hb 1)] 1 (hb 1) = (0, [(1, hb 1)]) := by decide
theorem wk3 : writeOf [(1, hb 1)] 1 (hb 2) = (9, [(1, hb 1)]) := by decide

set_option maxRecDepth 100000 in
theorem known_calls (w : World) : Calls Try.prog 15 #[] w fun r w' => r = .returned (.bool true) ∧ Below w.heap.size w w' := by
  go_enter Try.func15, Try.ntmps15
  go_wp2_with fail
  refine (new_calls w).mono ?_
  rintro r w1 ⟨rfl, hw1⟩
  have hB : BookAt w1 w.heap.size w.heap.size (.slice none 0 0) [] 0 0 := by rw [hw1]; exact new_book w
  have hb : Below w.heap.size w w1 := by rw [hw1]; exact (Below.refl _ _).alloc (Nat.le_refl _) _
  have HB := Lib.hid hB
  have Hb := Lib.hid hb
  clear hw1 hB hb
  go_wp2_with fail
  refine (write_calls' _ _ _ _ _ _ 1 (hb 1) w1 (hb_len 1) Hb.out.size HB.out _ _ wk1).mono ?_
  clear HB
  rintro r w2 ⟨rfl, v2, hB, hb⟩
  have HB := Lib.hid hB
  replace Hb := Lib.hid (Hb.out.trans hb)
  clear hB hb
  go_wp2_with fail
  refine (write_calls' _ _ _ _ _ _ 1 (hb 1) w2 (hb_len 1) Hb.out.size HB.out _ _ wk2).mono ?_
  clear HB
  rintro r w3 ⟨rfl, v3, hB, hb⟩
  have HB := Lib.hid hB
  replace Hb := Lib.hid (Hb.out.trans hb)
  clear hB hb
  go_wp2_with fail
  refine (write_calls' _ _ _ _ _ _ 1 (hb 2) w3 (hb_len 2) Hb.out.size HB.out _ _ wk3).mono ?_
  clear HB
  rintro r w4 ⟨rfl, v4, hB, hb⟩
  obtain ⟨A, c, rfl, _, hr⟩ := hB.own.reads
  have HB := Lib.hid hB
  replace Hb := Lib.hid (Hb.out.trans hb)
  have hc : w4.cell? ⟨w.heap.size, 0, none⟩ = some (.slice A 1 c) := by rw [HB.out.cell]; rfl
  clear hB hb hr
  go_wp2_with fail
  refine (len_calls w.heap.size A 1 c w4 hc).mono ?_
  rintro r w5 ⟨rfl, rfl⟩
  go_wp2
  go_ret
  exact ⟨rfl, Hb.out⟩
end Go.Proofs.Ytpnecknillpjkaa.Bk
