import Derived.Test.YtpnecknillpjkaaProg
import Derived.WalkKit
import Derived.WalkSpells
import Derived.Laws.LoneSync
import Derived.Deep.MidRow
import Derived.KernelRfl
import Derived.Lib.Hide
namespace Go.Proofs.Ytpnecknillpjkaa.Bk
open Go.RowKit

theorem new_calls (w : World) : Calls Try.prog 12 #[] w fun e w' => e = .returned (.pointer (some ⟨w.heap.size, 0, none⟩)) ∧ w' = w.alloc (.cells #[.slice none 0 0, .int .i64 0, .int .i64 0] 57) := by
  go_enter Try.func12, Try.ntmps12
  go_wp2
  go_ret
  exact ⟨rfl, rfl⟩

theorem load_calls (b o : Nat) (x : Int) (w : World) (h0 : w.cell? ⟨b, o, none⟩ = some (.int .i64 x)) :
    Calls Try.prog 24 #[.pointer (some ⟨b, o, none⟩)] w fun e w' => e = .returned (.int .i64 x) ∧ w = w' := by
  have hl := run_call_load (P := Try.prog) Try.func31 (by kernel_rfl) (by kernel_rfl) (by kernel_rfl) .i64 (by kernel_rfl) h0
  go_enter Try.func24, Try.ntmps24
  go_wp2
  go_ret
  exact ⟨rfl, rfl⟩

theorem store_calls (b o : Nat) (x : Int) (u : Value) (w : World) (h0 : w.cell? ⟨b, o, none⟩ = some u) (f0 : w.frozen? ⟨b, o, none⟩ = false) :
    Calls Try.prog 26 #[.pointer (some ⟨b, o, none⟩), .int .i64 x] w fun e w' => e = .returned (.tuple #[]) ∧ w.setCell ⟨b, o, none⟩ (.int .i64 x) = w' := by
  have hl := run_call_store (P := Try.prog) Try.func32 (by kernel_rfl) (by kernel_rfl) (by kernel_rfl) (by kernel_rfl) (k := .i64) (y := x) h0 f0
  go_enter Try.func26, Try.ntmps26
  go_wp2
  go_end0
  exact ⟨rfl, rfl⟩

theorem add_calls (b o : Nat) (x y : Int) (w : World) (h0 : w.cell? ⟨b, o, none⟩ = some (.int .i64 x)) (f0 : w.frozen? ⟨b, o, none⟩ = false) :
    Calls Try.prog 29 #[.pointer (some ⟨b, o, none⟩), .int .i64 y] w fun e w' => e = .returned (.int .i64 (wrap64 (x + y))) ∧ w.setCell ⟨b, o, none⟩ (.int .i64 (wrap64 (x + y))) = w' := by
  have hl := run_call_add (P := Try.prog) Try.func33 (by kernel_rfl) (by kernel_rfl) (by kernel_rfl) .i64 (by kernel_rfl) (y := y) (s := wrap64 (x + y)) h0 f0 (by simp [go_sem, wrap64, IntKind.wrap_i64])
  go_enter Try.func29, Try.ntmps29
  go_wp2
  go_ret
  exact ⟨rfl, rfl⟩

theorem len_calls (g : Nat) (A : Option Addr) (n c : Nat) (w : World) (h0 : w.cell? ⟨g, 0, none⟩ = some (.slice A n c)) :
    Calls Try.prog 14 #[.pointer (some ⟨g, 0, none⟩)] w fun e w' => e = .returned (.int .i64 n) ∧ w = w' := by
  go_enter Try.func14, Try.ntmps14
  go_wp2
  go_ret
  exact ⟨rfl, rfl⟩

theorem flushes_calls (g : Nat) (x : Int) (w : World) (h0 : w.cell? ⟨g, 2, none⟩ = some (.int .i64 x)) (_hx : -9223372036854775808 ≤ x ∧ x ≤ 9223372036854775807) :
    Calls Try.prog 16 #[.pointer (some ⟨g, 0, none⟩)] w fun e w' => e = .returned (.int .i64 x) ∧ w = w' := by
  go_enter Try.func16, Try.ntmps16
  go_wp2_with (go_at_call 24; refine (load_calls g 2 x _ h0).mono ?_; rintro e w' ⟨rfl, rfl⟩)
  go_ret
  exact ⟨rfl, rfl⟩

theorem eq_calls (cs : Array Value) (x y : Int) (b o : Nat) (w : World) (hb : w.cell? ⟨b, o, none⟩ = some (.int .i64 y)) (hlt : b < w.heap.size) (hsz : 0 < cs.size) (hcs : cs[0] = .int .i64 x) :
    Calls Try.prog 28 #[.agg cs, .pointer (some ⟨b, o, none⟩)] w fun e w' => e = .returned (.bool (x == y)) ∧ Below w.heap.size w w' := by
  go_enter Try.func28, Try.ntmps28
  go_wp2
  go_ret
  exact ⟨rfl, (Below.refl _ _).alloc (Nat.le_refl _) _⟩

/-! ### Papers, entries, rows of entries -/
/-- A paper's cells. -/
def pc (p : List Int) : List Value := p.map (Value.int .u8)
/-- A paper, as a value holds it. -/
def papA (p : List Int) : Array Value := (pc p).toArray
/-- An entry's cells. -/
def ec (x : Int × List Int) : List Value := .int .i64 x.1 :: pc x.2
def enA (x : Int × List Int) : Array Value := (ec x).toArray
/-- A row of entries, cell by cell. -/
def rc (es : List (Int × List Int)) : List Value := es.flatMap ec
/-- Papers are of thirty-two bytes. -/
def Ok32 (es : List (Int × List Int)) : Prop := ∀ x ∈ es, x.2.length = 32

theorem ec_len {x : Int × List Int} (h : x.2.length = 32) : (ec x).length = 33 := by simp [ec, pc, h]
theorem rc_len : ∀ {es : List (Int × List Int)}, Ok32 es → (rc es).length = es.length * 33
  | [], _ => rfl
  | x :: es, h => by
    have h1 := h x (List.mem_cons_self ..)
    have h2 := rc_len (es := es) (fun y hy => h y (List.mem_cons_of_mem _ hy))
    simp only [rc, List.flatMap_cons, List.length_append, List.length_cons] at h2 ⊢
    rw [h2, ec_len h1]
    omega
theorem rc_append (a b : List (Int × List Int)) : rc (a ++ b) = rc a ++ rc b := by simp [rc]
theorem rc_take : ∀ {es : List (Int × List Int)} (n : Nat), Ok32 es → rc (es.take n) = (rc es).take (n * 33)
  | [], n, _ => by simp [rc]
  | x :: es, 0, _ => by simp [rc]
  | x :: es, n + 1, h => by
    have h1 := ec_len (h x (List.mem_cons_self ..))
    have h2 := rc_take (es := es) n (fun y hy => h y (List.mem_cons_of_mem _ hy))
    simp only [rc, List.take_succ_cons, List.flatMap_cons] at h2 ⊢
    rw [h2, List.take_append, h1, List.take_of_length_le (by omega : (ec x).length ≤ (n + 1) * 33), show (n + 1) * 33 - 33 = n * 33 by omega]
theorem rc_get : ∀ {es : List (Int × List Int)} {i : Nat} {x : Int × List Int}, Ok32 es → es[i]? = some x → ∀ j v, (ec x)[j]? = some v → (rc es)[i * 33 + j]? = some v
  | [], i, x, _, h, _, _, _ => by simp at h
  | y :: es, 0, x, hk, h, j, v, hv => by
    simp only [List.getElem?_cons_zero, Option.some.injEq] at h
    subst h
    have h1 := ec_len (hk y (List.mem_cons_self ..))
    have hj : j < (ec y).length := (List.getElem?_eq_some_iff.1 hv).1
    simp only [rc, List.flatMap_cons]
    rw [Nat.zero_mul, Nat.zero_add, List.getElem?_append_left hj]
    exact hv
  | y :: es, i + 1, x, hk, h, j, v, hv => by
    simp only [List.getElem?_cons_succ] at h
    have h1 := ec_len (hk y (List.mem_cons_self ..))
    have h2 := rc_get (fun z hz => hk z (List.mem_cons_of_mem _ hz)) h j v hv
    simp only [rc, List.flatMap_cons] at h2 ⊢
    rw [List.getElem?_append_right (by omega), h1, show (i + 1) * 33 + j - 33 = i * 33 + j by omega]
    exact h2

/-- What a slice of entries reads as: n entries from address A on. -/
def Reads (w : World) (A : Option Addr) (es : List (Int × List Int)) : Prop :=
  0 < es.length → ∃ b o, A = some ⟨b, o, none⟩ ∧ b < w.heap.size ∧ w.rangeAt b o (rc es)

theorem Reads.below {w w' : World} {A : Option Addr} {es : List (Int × List Int)} (h : Reads w A es) (hb : Below w.heap.size w w') : Reads w' A es := fun hp => by
  obtain ⟨b, o, e, hlt, hr⟩ := h hp
  exact ⟨b, o, e, Nat.lt_of_lt_of_le hlt hb.size, fun j v hv => by rw [hb.cell hlt]; exact hr j v hv⟩

theorem Reads.entry {w : World} {b o : Nat} {es : List (Int × List Int)} {i : Nat} {x : Int × List Int} (h : w.rangeAt b o (rc es)) (hk : Ok32 es) (hi : es[i]? = some x) : w.rangeAt b (o + i * 33) (ec x) := fun j v hv => by
  have := h (i * 33 + j) v (rc_get hk hi j v hv)
  rw [show o + i * 33 + j = o + (i * 33 + j) by omega]
  exact this

/-- Where the first entry of an epoch stands. -/
def idx (es : List (Int × List Int)) (e : Int) : Int := match es.findIdx? (fun x => x.1 == e) with | some i => i | none => -1

theorem info59 : (Try.prog.info? 59).map (·.size) = some 33 := by kernel_rfl
theorem info27 : (Try.prog.info? 27).map (·.size) = some 32 := by kernel_rfl

theorem find_calls (A : Option Addr) (n c : Nat) (es : List (Int × List Int)) (e : Int) (cb co : Nat) (w : World) (hn : es.length = n) (hm : n ≤ 9223372036854775807) (hk : Ok32 es) (hr : Reads w A es)
    (hc : w.cell? ⟨cb, co, none⟩ = some (.int .i64 e)) (hlt : cb < w.heap.size) :
    Calls Try.prog 27 #[.slice A n c, .func (.func 28) #[] #[.pointer (some ⟨cb, co, none⟩)]] w fun r w' => r = .returned (.int .i64 (idx es e)) ∧ Below w.heap.size w w' := by
  go_enter Try.func27, Try.ntmps27
  go_wp2
  go_loopw [8] (fun v wr => ∃ k : Nat, k ≤ n ∧ v = .int .i64 k ∧ Hid (∀ j, j < k → ∀ x, es[j]? = some x → (x.1 == e) = false) ∧ Hid (Below w.heap.size w wr)) (fun v _ => n - (intOf v).toNat)
  case atStart => exact ⟨0, Nat.zero_le _, rfl, fun j h => by omega, Below.refl _ _⟩
  case round =>
    obtain ⟨k, hkn, rfl, hno, hb⟩ := hrel
    by_cases hlt2 : k < n
    · obtain ⟨b, o, rfl, hbl, hrg⟩ := hr (by omega)
      have hx : es[k]? = some es[k] := List.getElem?_eq_getElem (by omega)
      obtain ⟨x, hxe⟩ : ∃ x, es[k] = x := ⟨_, rfl⟩
      rw [hxe] at hx
      have HX := Lib.hid hx
      have hrange : wr.rangeAt b (o + k * 33) (ec x) := Reads.entry (fun j v hv => by rw [hb.out.cell hbl]; exact hrg j v hv) hk hx
      have hsz : (ec x).length = 33 := ec_len (hk x (by rw [← hxe]; exact List.getElem_mem _))
      have hc' : wr.cell? ⟨cb, co, none⟩ = some (.int .i64 e) := by rw [hb.out.cell hlt]; exact hc
      have hlt' : cb < wr.heap.size := Nat.lt_of_lt_of_le hlt hb.out.size
      have h0 : Hid (∀ h : 0 < (ec x).toArray.size, (ec x).toArray[0] = .int .i64 x.1) := fun _ => rfl
      have hsz0 : Hid (0 < (ec x).toArray.size) := by show 0 < _; simp [hsz]
      have HR := Lib.hid hrange
      have HS := Lib.hid hsz
      clear hx hxe hrange hsz hr hrg hn hk
      cases hq : x.1 == e with
      | true =>
        have HQ := Lib.hid hq
        clear hq
        go_wp2_with (first | ((refine wpList_load_mid rfl 59 (.tmp 14) (by rfl) b (o + k * 33) (by rfl) (ec x) _ HR.out Try.underlying59 rfl ?hi ?_); (case hi => (rw [HS.out]; exact info59))) | (go_at_call 28; refine (eq_calls _ x.1 e cb co _ hc' hlt' hsz0 (h0 hsz0)).mono ?_; rintro r w2 ⟨rfl, hb2⟩; rw [HQ.out]; have HB2 := Lib.hid hb2; clear hb2))
        go_ret
        refine ⟨?_, hb.out.trans (HB2.out.mono hb.out.size)⟩
        have : idx es e = (k : Int) := by
          unfold idx
          have : es.findIdx? (fun x => x.1 == e) = some k := by
            rw [List.findIdx?_eq_some_iff_getElem]
            have hkl : k < es.length := (List.getElem?_eq_some_iff.1 HX.out).1
            refine ⟨hkl, ?_, fun j hj => ?_⟩
            · rw [(List.getElem?_eq_some_iff.1 HX.out).2]; exact HQ.out
            · have := hno j hj es[j] (List.getElem?_eq_getElem (by omega))
              simpa using this
          rw [this]
        rw [this]
        rfl
      | false =>
        have HQ := Lib.hid hq
        clear hq
        go_wp2_with (first | ((refine wpList_load_mid rfl 59 (.tmp 14) (by rfl) b (o + k * 33) (by rfl) (ec x) _ HR.out Try.underlying59 rfl ?hi ?_); (case hi => (rw [HS.out]; exact info59))) | (go_at_call 28; refine (eq_calls _ x.1 e cb co _ hc' hlt' hsz0 (h0 hsz0)).mono ?_; rintro r w2 ⟨rfl, hb2⟩; rw [HQ.out]; have HB2 := Lib.hid hb2; clear hb2))
        go_roundw
        case rel =>
          refine ⟨k + 1, by omega, by go_num, ?_, hb.out.trans (HB2.out.mono hb.out.size)⟩
          intro j hj y hy
          by_cases hjk : j = k
          · subst hjk
            have := HX.out
            rw [this] at hy
            simp only [Option.some.injEq] at hy
            rw [← hy]
            exact HQ.out
          · exact hno j (by omega) y hy
        case measure => simp [intOf]; omega
    · have hke : k = n := by omega
      subst hke
      have hb' := hb.out
      have : idx es e = -1 := by
        unfold idx
        have : es.findIdx? (fun x => x.1 == e) = none := by
          rw [List.findIdx?_eq_none_iff]
          intro x hx
          obtain ⟨j, hj, rfl⟩ := List.getElem_of_mem hx
          exact hno j (by omega) _ (List.getElem?_eq_getElem hj)
        rw [this]
      have HI := Lib.hid this
      clear this hn hr
      go_wp2
      go_ret
      exact ⟨by rw [HI.out]; rfl, hb'⟩
end Go.Proofs.Ytpnecknillpjkaa.Bk
