import Derived.Test.YtpnecknillpjkaaBkLawCrashes
namespace Go.Proofs.Ytpnecknillpjkaa.Bk
open Go.RowKit

theorem run_ne_hash (p q : List Int) (hp : p.length = 32) (hq : q.length = 32) (w : World) : (binOp .neq 27 (.agg (papA p)) (.agg (papA q))).run Try.prog w = .ok (.bool (!(p == q))) w := by
  have h := run_eq_hash p q hp hq w
  simp only [binOp] at h ⊢
  simp only [Sem.run_bind] at h ⊢
  cases he : (Op.equal 27 (.agg (papA p)) (.agg (papA q))).run Try.prog w with
  | ok b w' => rw [he] at h; simp at h ⊢; exact ⟨h.1, h.2⟩
  | halt a b => rw [he] at h; simp at h

section
variable {ops : Array Oper} {rest : List Oper} {o : Oper} {a : Act} {Q : Exit → Act → World → Prop} {w : World}
theorem wpList_hb (hg : o.guard = none) (b : Int) (x : Operand) (ho : o.op = .build 27 #[(0, x)]) (hx : a.eval x = .int .u8 b) (h : wpList Try.prog ops Q rest (a.put o.dst (.agg (papA (hb b)))) w) : wpList Try.prog ops Q (o :: rest) a w := by
  refine wpList_plain hg fun _ hK => ?_
  unfold Oper.wp execOp
  have hm : (#[(0, x)] : Array (Nat × Operand)).map (fun y => (y.1, a.eval y.2)) = #[(0, .int .u8 b)] := by simp [hx]
  have hr := run_hb b w
  rw [← hm] at hr
  simp only [ho, Sem.run_bind, hr, Result.andThen_ok]
  exact hK _ _ h
theorem wpList_hb2 (hg : o.guard = none) (b c : Int) (x y : Operand) (ho : o.op = .build 27 #[(0, x), (1, y)]) (hx : a.eval x = .int .u8 b) (hy : a.eval y = .int .u8 c) (h : wpList Try.prog ops Q rest (a.put o.dst (.agg (papA (hb2 b c)))) w) : wpList Try.prog ops Q (o :: rest) a w := by
  refine wpList_plain hg fun _ hK => ?_
  unfold Oper.wp execOp
  have hm : (#[(0, x), (1, y)] : Array (Nat × Operand)).map (fun y => (y.1, a.eval y.2)) = #[(0, .int .u8 b), (1, .int .u8 c)] := by simp [hx, hy]
  have hr := run_hb2 b c w
  rw [← hm] at hr
  simp only [ho, Sem.run_bind, hr, Result.andThen_ok]
  exact hK _ _ h
end

theorem BookAt.holds {w : World} {base g : Nat} {v : Value} {es : List (Int × List Int)} {st fl : Int} (h : BookAt w base g v es st fl) (e : Int) (p : List Int) (b : Bool) (hl : look es e = (p, b)) :
    Calls Try.prog 18 #[.pointer (some ⟨g, 0, none⟩), .int .i64 e] w fun r w' => r = .returned (.tuple #[.agg (papA p), .bool b]) ∧ Below w.heap.size w w' := by
  obtain ⟨A, c, rfl, _, hr⟩ := h.own.reads
  have hh := holds_calls A c g es e w h.lt (by rw [h.cell]; rfl) h.len h.ok hr
  rw [hl] at hh
  exact hh
end Go.Proofs.Ytpnecknillpjkaa.Bk
