import Derived.Test.YtpnecknillpjkaaBkNew
namespace Go.Proofs.Ytpnecknillpjkaa.Bk
open Go.RowKit

theorem Chg.below {w w' : World} {g base : Nat} {r : Option Nat} (h : Chg w w' g r) (hg : base ≤ g) (hr : ∀ k, r = some k → base ≤ k) (hb : base ≤ w.heap.size) : Below base w w' :=
  ⟨h.os, h.tape, h.output, h.size, fun k hk => h.block k (Nat.lt_of_lt_of_le hk hb) (by omega) (fun e => by have := hr k e.symm; omega)⟩
theorem BookAt.row_lo {w : World} {base g : Nat} {v : Value} {es : List (Int × List Int)} {st fl : Int} (h : BookAt w base g v es st fl) : ∀ k, v.ownBlock = some k → base ≤ k ∧ k < w.heap.size := h.own.lt

theorem write_calls (base g : Nat) (v : Value) (es : List (Int × List Int)) (st fl e : Int) (p : List Int) (w : World) (hp : p.length = 32) (hbase : base ≤ w.heap.size) (hB : BookAt w base g v es st fl) (code : Int) (es' : List (Int × List Int)) (hw : writeOf es e p = (code, es')) :
    Calls Try.prog 13 #[.pointer (some ⟨g, 0, none⟩), .int .i64 e, .agg (papA p)] w fun r w' => r = .returned (.int .i64 code) ∧ ∃ v', BookAt w' base g v' es' st fl ∧ Chg w w' g v.ownBlock ∧ (v'.ownBlock = v.ownBlock ∨ ∃ k, v'.ownBlock = some k ∧ w.heap.size ≤ k) := by
  unfold writeOf at hw
  by_cases h1 : e < 0 ∨ 1099511627776 < e
  · rw [if_pos h1] at hw
    obtain ⟨rfl, rfl⟩ := Prod.mk.inj hw
    refine (write_out g e p w h1).mono ?_
    rintro r w' ⟨rfl, hb⟩
    exact ⟨rfl, v, hB.below hb, Chg.of_below hb _ _, .inl rfl⟩
  rw [if_neg h1] at hw
  have h2 : 0 ≤ e := by omega
  have h3 : e ≤ 1099511627776 := by omega
  by_cases hl : (look es e).2 = true
  · rw [if_pos hl] at hw
    refine (write_found base g v es st fl e p w hp hB h2 h3 hl _ rfl).mono ?_
    rintro r w' ⟨rfl, hb⟩
    by_cases hq : (look es e).1 = p
    · rw [if_pos hq] at hw
      obtain ⟨rfl, rfl⟩ := Prod.mk.inj hw
      exact ⟨by rw [beq_iff_eq.2 hq]; rfl, v, hB.below hb, Chg.of_below hb _ _, .inl rfl⟩
    · rw [if_neg hq] at hw
      obtain ⟨rfl, rfl⟩ := Prod.mk.inj hw
      exact ⟨by rw [beq_eq_false_iff_ne.2 hq]; rfl, v, hB.below hb, Chg.of_below hb _ _, .inl rfl⟩
  rw [if_neg hl] at hw
  have hl' : (look es e).2 = false := by simpa using hl
  by_cases h100 : 100 ≤ es.length
  · rw [if_pos h100] at hw
    obtain ⟨rfl, rfl⟩ := Prod.mk.inj hw
    refine (write_full base g v es st fl e p w hB h2 h3 hl' h100).mono ?_
    rintro r w' ⟨rfl, hb⟩
    exact ⟨rfl, v, hB.below hb, Chg.of_below hb _ _, .inl rfl⟩
  · rw [if_neg h100] at hw
    obtain ⟨rfl, rfl⟩ := Prod.mk.inj hw
    exact write_new base g v es st fl e p w hp hbase hB h2 h3 hl' (by omega)

/-- With one base for all: below it nothing has turned. -/
theorem write_calls' (base g : Nat) (v : Value) (es : List (Int × List Int)) (st fl e : Int) (p : List Int) (w : World) (hp : p.length = 32) (hbase : base ≤ w.heap.size) (hB : BookAt w base g v es st fl) (code : Int) (es' : List (Int × List Int)) (hw : writeOf es e p = (code, es')) :
    Calls Try.prog 13 #[.pointer (some ⟨g, 0, none⟩), .int .i64 e, .agg (papA p)] w fun r w' => r = .returned (.int .i64 code) ∧ ∃ v', BookAt w' base g v' es' st fl ∧ Below base w w' := by
  refine (write_calls base g v es st fl e p w hp hbase hB code es' hw).mono ?_
  rintro r w' ⟨rfl, v', h1, h2, _⟩
  exact ⟨rfl, v', h1, h2.below hB.lo (fun k hk => (hB.row_lo k hk).1) hbase⟩

theorem new_book (w : World) : BookAt (w.alloc (.cells #[.slice none 0 0, .int .i64 0, .int .i64 0] 57)) w.heap.size w.heap.size (.slice none 0 0) [] 0 0 :=
  ⟨Nat.le_refl _, heap_alloc_new _ _, World.ownsRow_nil _ _ _ _, (fun _ h => by cases h), by simp⟩

/-- A Hash that begins so, and is nought behind. -/
def hb (b : Int) : List Int := b :: List.replicate 31 0
def hb2 (a b : Int) : List Int := a :: b :: List.replicate 30 0
theorem hb_len (b : Int) : (hb b).length = 32 := by simp [hb]
theorem hb2_len (a b : Int) : (hb2 a b).length = 32 := by simp [hb2]
theorem built_hb (b : Int) : Try.prog.built 27 [(0, .int .u8 b)] = some (papA (hb b)) := by kernel_rfl
theorem built_hb2 (a b : Int) : Try.prog.built 27 [(0, .int .u8 a), (1, .int .u8 b)] = some (papA (hb2 a b)) := by kernel_rfl
theorem built_h0 : Try.prog.built 27 [] = some (papA zeros) := by kernel_rfl
theorem run_hb (b : Int) (w : World) : (Instr.build 27 #[(0, .int .u8 b)]).run Try.prog w = .ok (.agg (papA (hb b))) w := run_build w 27 _ _ (built_hb b)
theorem run_hb2 (a b : Int) (w : World) : (Instr.build 27 #[(0, .int .u8 a), (1, .int .u8 b)]).run Try.prog w = .ok (.agg (papA (hb2 a b))) w := run_build w 27 _ _ (built_hb2 a b)
theorem run_h0 (w : World) : (Instr.build 27 #[]).run Try.prog w = .ok (.agg (papA zeros)) w := run_build w 27 _ _ built_h0
end Go.Proofs.Ytpnecknillpjkaa.Bk
