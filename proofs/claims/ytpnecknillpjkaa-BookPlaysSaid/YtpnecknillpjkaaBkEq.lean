import Derived.Test.YtpnecknillpjkaaBkClone
import Derived.ChangeKeysEq
namespace Go.Proofs.Ytpnecknillpjkaa.Bk
open Go.RowKit

theorem info5 : (Try.prog.info? 5).map (fun i => (i.zero, i.size, i.bytes)) = some (some (.int .u8 0), 1, 1) := by kernel_rfl
theorem papA_get (p : List Int) (j : Nat) (x : Int) (h : p[j]? = some x) : (papA p)[j]? = some (.int .u8 x) := by
  simp [papA, pc, h]
theorem run_part5 (w : World) (xs : Array Value) (j : Nat) (v : Value) (h : xs[j]? = some v) : (part 5 xs j).run Try.prog w = .ok v w :=
  run_part_plain w (by kernel_rfl) h

theorem run_items (d : Nat) (p q : List Int) (w : World) : ∀ is : List Nat, (∀ j ∈ is, j < p.length ∧ j < q.length) → (Op.eqItems (d + 1) 5 1 (papA p) (papA q) is).run Try.prog w = .ok (is.all fun j => p[j]? == q[j]?) w
  | [], _ => by simp [Op.eqItems]
  | j :: is, h => by
    obtain ⟨hp, hq⟩ := h j (List.mem_cons_self ..)
    have h1 : p[j]? = some p[j] := List.getElem?_eq_getElem hp
    have h2 : q[j]? = some q[j] := List.getElem?_eq_getElem hq
    have ih := run_items d p q w is (fun k hk => h k (List.mem_cons_of_mem _ hk))
    have e1 := run_part5 w (papA p) j _ (papA_get p j _ h1)
    have e2 := run_part5 w (papA q) j _ (papA_get q j _ h2)
    have e3 := run_equalIn_int (P := Try.prog) w d 5 .u8 .u8 p[j] q[j] Try.underlying5
    simp only [Op.eqItems, Nat.mul_one, Sem.run_bind, e1, e2, e3, Result.andThen_ok, List.all_cons, h1, h2]
    cases hpq : (p[j] == q[j]) with
    | true => simp [ih, hpq]
    | false => simp [hpq]

theorem run_eq_hash (p q : List Int) (hp : p.length = 32) (hq : q.length = 32) (w : World) : (binOp .eql 27 (.agg (papA p)) (.agg (papA q))).run Try.prog w = .ok (.bool (p == q)) w := by
  obtain ⟨i, hi, _, _, _⟩ := info_parts info5
  have hc : Try.prog.cellsOf 5 = 1 := by kernel_rfl
  have h := run_equalIn_array (P := Try.prog) w 9999 (papA p) (papA q) Try.underlying27 hi
  rw [hc, run_items 9998 p q w (List.range 32) (fun j hj => by simp at hj; omega)] at h
  have hall : ((List.range 32).all fun j => p[j]? == q[j]?) = (p == q) := by
    rw [Bool.eq_iff_iff, List.all_eq_true, beq_iff_eq]
    constructor
    · intro ha
      apply List.ext_getElem? 
      intro j
      by_cases hj : j < 32
      · simpa using ha j (by simpa using hj)
      · rw [List.getElem?_eq_none (by omega), List.getElem?_eq_none (by omega)]
    · rintro rfl j _
      simp
  rw [hall] at h
  simp only [binOp]
  simp [Op.equal, Op.maxDepth, h]
end Go.Proofs.Ytpnecknillpjkaa.Bk
