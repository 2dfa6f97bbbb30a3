/-
What rows.Unpack and the document's Unpack compute, in plain lists: the same. No condition but that bytes are bytes.
-/
import Derived.Test.YtbncodabchbpjaaFnUnp
import Derived.Test.YtbncodabchbpjaaFnRefUnp
import Derived.Test.YtbncodabchbpjaaFnSame
import Derived.Test.YtbncodabchbpjaaPurePack
import Derived.Test.YtbncodabchbpjaaPureNums
namespace Go.Proofs.Ytbncodabchbpjaa.Fn
open Go.RowKit Go.Proofs.YtbncodabchbpjaaW.PrintWords Go.Proofs.YtbncodabchbpjaaW.PrintLast Go.Proofs.YtbncodabchbpjaaW.PrintMore

def By (l : List Int) : Prop := ∀ x ∈ l, 0 ≤ x ∧ x < 256
theorem By.drop {l : List Int} (h : By l) (n : Nat) : By (l.drop n) := fun x hx => h x (List.mem_of_mem_drop hx)
theorem By.take {l : List Int} (h : By l) (n : Nat) : By (l.take n) := fun x hx => h x (List.mem_of_mem_take hx)
theorem By.tail {a : Int} {l : List Int} (h : By (a :: l)) : By l := fun x hx => h x (List.mem_cons_of_mem _ hx)
theorem By.head {a : Int} {l : List Int} (h : By (a :: l)) : 0 ≤ a ∧ a < 256 := h a (List.mem_cons_self ..)

theorem bytes_inj : ∀ {l m : List Int}, By l → By m → (strOfNums l).toList = (strOfNums m).toList → l = m := by
  intro l m hl hm h
  rw [Lib.strOfNums_toList, Lib.strOfNums_toList] at h
  induction l generalizing m with
  | nil => cases m with
    | nil => rfl
    | cons y m => simp [Lib.bytesOf] at h
  | cons x l ih => cases m with
    | nil => simp [Lib.bytesOf] at h
    | cons y m =>
      simp only [Lib.bytesOf, List.map_cons, List.cons.injEq] at h
      rw [(Plain.byte_eq hl.head hm.head).1 h.1, ih hl.tail hm.tail h.2]

/-- So many rows from the bytes' head, and what is left. -/
def takeRows : Nat → List Int → Option (List (List Int) × List Int)
  | 0, r => some ([], r)
  | n + 1, a :: b :: r => if (a * 256 + b).toNat ≤ r.length then (takeRows n (r.drop (a * 256 + b).toNat)).map fun x => (r.take (a * 256 + b).toNat :: x.1, x.2) else none
  | _ + 1, _ => none

theorem takeRows_short (n : Nat) (r : List Int) (h : r.length < 2) : takeRows (n + 1) r = none := by
  match r, h with
  | [], _ => rfl
  | [_], _ => rfl
  | _ :: _ :: _, h => simp at h; omega

theorem rd_zero (a : Int) (l : List Int) : rd (a :: l) 0 = a := rfl
theorem rd_one (a b : Int) (l : List Int) : rd (a :: b :: l) 1 = b := rfl

theorem wrap_id (n : Int) (h : -9223372036854775808 ≤ n ∧ n < 9223372036854775808) : wrap64 n = n := by unfold wrap64; omega

/-- What stands behind the loop of Unpack. -/
def fin (x0 : List Int) (acc : List (List Int)) : List (List Int) × Int :=
  if (packOf acc).2 = 0 then (if (strOfNums (packOf acc).1).toList = (strOfNums x0).toList then (acc, 0) else ([], 2)) else ([], 2)

theorem unp_loop (x0 : List Int) : ∀ (n k : Nat) (x4 : List (List Int)) (x5 : List Int) (x16 x17 : Int), By x5 → x5.length ≤ 140737488351232 → x16 - x17 = n → 0 ≤ x17 → x16 ≤ 255 → x4.length + n ≤ 255 → n + 257 ≤ k →
    rows_Unpack.l0 k x0 x4 x5 x16 x17 = some (match takeRows n x5 with | none => ([], 2) | some (l, _) => fin x0 (x4 ++ l)) := by
  intro n
  induction n with
  | zero =>
    intro k x4 x5 x16 x17 _ _ hn _ _ hl hk
    obtain ⟨k, rfl⟩ : ∃ q, k = q + 1 := ⟨k - 1, by omega⟩
    simp only [rows_Unpack.l0]
    rw [if_neg (by omega), pack_some x4 k (by omega)]
    simp only [Option.bind_some, bytes_Equal.f, takeRows, List.append_nil, fin]
    by_cases h : (packOf x4).2 = 0
    · rw [if_pos h, if_pos h]
      by_cases h2 : (strOfNums (packOf x4).1).toList = (strOfNums x0).toList
      · rw [if_pos h2, if_pos (by simpa using h2)]
      · rw [if_neg h2, if_neg (by simpa using h2)]
    · rw [if_neg h, if_neg h]
  | succ n ih =>
    intro k x4 x5 x16 x17 hb hx hn h0 h255 hl hk
    obtain ⟨k, rfl⟩ : ∃ q, k = q + 1 := ⟨k - 1, by omega⟩
    simp only [rows_Unpack.l0]
    rw [if_pos (by omega)]
    by_cases hs : (x5.length : Int) < 2
    · rw [if_pos hs, takeRows_short n x5 (by omega)]
    rw [if_neg hs]
    match x5, hb, hx, hs with
    | [], _, _, hs => simp at hs
    | [_], _, _, hs => simp at hs
    | a :: b :: r, hb, hx, hs =>
      have ha := hb.head
      have hbb := hb.tail.head
      have hr := hb.tail.tail
      simp only [List.length_cons] at hx
      have e : wrap64 (wrap64 (2 + wrap64 (wrap64 a * 256)) + wrap64 b) = 2 + a * 256 + b := by unfold wrap64; omega
      rw [rd_zero, rd_one, e, if_pos (by simp; omega), if_pos (by simp; omega)]
      simp only [takeRows]
      by_cases hm : (a * 256 + b).toNat ≤ r.length
      · rw [if_neg (by simp; omega), if_pos (by omega), if_pos (by simp; omega), if_pos hm]
        have em : (2 + a * 256 + b).toNat = (a * 256 + b).toNat + 2 := by omega
        rw [em, List.take_succ_cons, List.take_succ_cons, List.drop_succ_cons, List.drop_succ_cons, List.drop_zero, List.drop_succ_cons, List.drop_succ_cons]
        have hc : (r.take (a * 256 + b).toNat).length ≤ 140737488351232 := by rw [List.length_take]; omega
        simp only [bytes_Clone.f, Option.bind_some, List.length_nil, Nat.zero_add, List.nil_append]
        rw [if_pos (by omega)]
        simp only [Option.bind_some]
        rw [if_pos (by omega), if_pos (by omega), ih k _ _ x16 ((x17 + 1) % 256) (hr.drop _) (by rw [List.length_drop]; omega) (by omega) (by omega) h255 (by simp; omega) (by omega)]
        cases takeRows n (r.drop (a * 256 + b).toNat) with
        | none => rfl
        | some y => simp
      · rw [if_pos (by simp; omega), if_neg hm]

theorem takeRows_length : ∀ (n : Nat) (r : List Int) (l : List (List Int)) (rest : List Int), takeRows n r = some (l, rest) → l.length = n
  | 0, r, l, rest, h => by simp [takeRows] at h; simp [← h.1]
  | n + 1, [], l, rest, h => by simp [takeRows] at h
  | n + 1, [_], l, rest, h => by simp [takeRows] at h
  | n + 1, a :: b :: r, l, rest, h => by
    simp only [takeRows] at h
    by_cases hm : (a * 256 + b).toNat ≤ r.length
    · rw [if_pos hm] at h
      cases ht : takeRows n (r.drop (a * 256 + b).toNat) with
      | none => rw [ht] at h; simp at h
      | some y =>
        rw [ht] at h
        simp only [Option.map_some, Option.some.injEq, Prod.mk.injEq] at h
        obtain ⟨rfl, rfl⟩ := h
        have := takeRows_length n _ y.1 y.2 ht
        simp [this]
    · rw [if_neg hm] at h
      exact absurd h (by simp)

/-- Rows that were taken, written again: what was read. -/
theorem takeRows_encs : ∀ (n : Nat) (r : List Int) (l : List (List Int)) (rest e : List Int), By r → takeRows n r = some (l, rest) → encs l = some e → r = e ++ rest
  | 0, r, l, rest, e, _, h, he => by
    simp only [takeRows, Option.some.injEq, Prod.mk.injEq] at h
    obtain ⟨rfl, rfl⟩ := h
    simp only [encs, Option.some.injEq] at he
    subst he
    rfl
  | n + 1, [], l, rest, e, _, h, _ => by simp [takeRows] at h
  | n + 1, [_], l, rest, e, _, h, _ => by simp [takeRows] at h
  | n + 1, a :: b :: r, l, rest, e, hb, h, he => by
    simp only [takeRows] at h
    have ha := hb.head
    have hbb := hb.tail.head
    by_cases hm : (a * 256 + b).toNat ≤ r.length
    · rw [if_pos hm] at h
      cases ht : takeRows n (r.drop (a * 256 + b).toNat) with
      | none => rw [ht] at h; simp at h
      | some y =>
        rw [ht] at h
        simp only [Option.map_some, Option.some.injEq, Prod.mk.injEq] at h
        obtain ⟨rfl, rfl⟩ := h
        have hlen : (r.take (a * 256 + b).toNat).length = (a * 256 + b).toNat := by rw [List.length_take]; omega
        unfold encs at he
        by_cases hp : ((r.take (a * 256 + b).toNat).length : Int) > 2000
        · rw [if_pos hp] at he; exact absurd he (by simp)
        · rw [if_neg hp] at he
          cases h2 : encs y.1 with
          | none => rw [h2] at he; simp at he
          | some e2 =>
            rw [h2] at he
            simp only [Option.map_some, Option.some.injEq] at he
            subst he
            have ih := takeRows_encs n _ y.1 y.2 e2 (hb.tail.tail.drop _) ht h2
            have d1 : ((a * 256 + b).toNat : Int) / 256 % 256 = a := by omega
            have d2 : ((a * 256 + b).toNat : Int) % 256 = b := by omega
            unfold enc
            rw [hlen, d1, d2]
            simp only [List.cons_append, List.nil_append, List.append_assoc]
            rw [← ih, List.take_append_drop]
    · rw [if_neg hm] at h
      exact absurd h (by simp)

/-- What Unpack answers. -/
def unpOf : List Int → List (List Int) × Int
  | [] => ([], 2)
  | c :: r => if c > 60 then ([], 2) else match takeRows c.toNat r with
    | some (l, []) => if (encs l).isSome then (l, 0) else ([], 2)
    | _ => ([], 2)

theorem encs_By : ∀ {l : List (List Int)} {e : List Int}, (∀ p ∈ l, By p) → encs l = some e → By e
  | [], e, _, h => by simp [encs] at h; subst h; intro x hx; simp at hx
  | p :: l, e, hp, h => by
    unfold encs at h
    by_cases hl : (p.length : Int) > 2000
    · rw [if_pos hl] at h; exact absurd h (by simp)
    · rw [if_neg hl] at h
      cases h2 : encs l with
      | none => rw [h2] at h; simp at h
      | some e2 =>
        rw [h2] at h
        simp only [Option.map_some, Option.some.injEq] at h
        subst h
        have ih := encs_By (fun q hq => hp q (List.mem_cons_of_mem _ hq)) h2
        intro x hx
        simp only [enc, List.mem_append, List.mem_cons, List.not_mem_nil, or_false] at hx
        rcases hx with ((rfl | rfl) | hx) | hx
        · omega
        · omega
        · exact hp p (List.mem_cons_self ..) x hx
        · exact ih x hx

theorem packOf_many (l : List (List Int)) (h : (l.length : Int) > 60) : packOf l = ([], 1) := by
  unfold packOf; rw [if_pos h]
theorem packOf_long (l : List (List Int)) (h : encs l = none) : packOf l = ([], 1) := by
  unfold packOf; rw [h]; split <;> rfl
theorem packOf_fits (l : List (List Int)) (e : List Int) (hl : ¬ (l.length : Int) > 60) (h : encs l = some e) : packOf l = ((l.length : Int) % 256 :: e, 0) := by
  unfold packOf; rw [if_neg hl, h]
theorem fin_refused (x0 : List Int) (l : List (List Int)) (h : packOf l = ([], 1)) : fin x0 l = ([], 2) := by
  unfold fin; rw [h, if_neg (by decide)]

theorem unpack_some (b : List Int) (hb : By b) (hl : b.length ≤ 140737488351232) (k : Nat) (hk : 600 ≤ k) : rows_Unpack.f k b = some (unpOf b) := by
  unfold rows_Unpack.f
  match b, hb, hl with
  | [], _, _ => rfl
  | c :: r, hb, hl =>
    have hc := hb.head
    simp only [List.length_cons] at hl
    rw [if_neg (by simp only [List.length_cons]; omega), if_pos (by simp only [List.length_cons]; omega), if_pos (by simp only [List.length_cons]; omega), rd_zero, List.drop_succ_cons, List.drop_zero,
      unp_loop (c :: r) c.toNat k [] r c 0 hb.tail (by omega) (by omega) (by omega) (by omega) (by simp only [List.length_nil]; omega) (by omega)]
    simp only [unpOf, List.nil_append]
    cases ht : takeRows c.toNat r with
    | none => by_cases h60 : c > 60 <;> simp [h60]
    | some y =>
      obtain ⟨l, rest⟩ := y
      have hlen := takeRows_length _ _ _ _ ht
      simp only
      by_cases h60 : c > 60
      · rw [if_pos h60, fin_refused _ _ (packOf_many l (by omega))]
      · rw [if_neg h60]
        cases he : encs l with
        | none =>
          rw [fin_refused _ _ (packOf_long l he)]
          cases rest <;> simp [he]
        | some e =>
          have hre := takeRows_encs _ _ _ _ _ hb.tail ht he
          have hc' : (l.length : Int) % 256 = c := by omega
          have hp := packOf_fits l e (by omega) he
          rw [hc'] at hp
          have hbe : By e := fun x hx => hb.tail x (by rw [hre]; exact List.mem_append_left _ hx)
          unfold fin
          rw [hp, if_pos rfl]
          cases rest with
          | nil =>
            rw [List.append_nil] at hre
            rw [hre, if_pos rfl]
            simp [he]
          | cons z zs =>
            rw [if_neg]
            intro h
            have := bytes_inj (l := c :: e) (m := c :: r) (fun x hx => by
              rcases List.mem_cons.1 hx with rfl | hx
              · exact hc
              · exact hbe x hx) hb h
            simp only [List.cons.injEq, true_and] at this
            rw [hre] at this
            have hh := congrArg List.length this
            simp at hh

theorem refUnp_step (k at_ m : Nat) (x0 : List Int) (x4 : List (List Int)) (x6 a b : Int) (hl : x0.length ≤ 140737488351232) (hat : at_ + 2 ≤ x0.length) (hlt : Aside0 (x6 < wrap64 (rd x0 0))) (h6 : 0 ≤ x6 ∧ x6 ≤ 255) (h4 : x4.length ≤ 255)
    (ra : rd x0 (at_ : Int) = a) (rb : rd x0 ((at_ + 1 : Nat) : Int) = b) (ba : 0 ≤ a ∧ a < 256) (bb : 0 ≤ b ∧ b < 256) (hm : a * 256 + b = (m : Int)) :
    curiaref6_Unpack.l0 (k + 1) x0 x4 (at_ : Int) x6 = if (m : Int) > 2000 then some ([], 2) else if at_ + 2 + m ≤ x0.length then curiaref6_Unpack.l0 k x0 (x4 ++ [(x0.drop (at_ + 2)).take m]) ((at_ + 2 + m : Nat) : Int) (x6 + 1) else some ([], 2) := by
  have e1 : Aside0 (wrap64 ((at_ : Int) + 1) = ((at_ + 1 : Nat) : Int)) := ⟨by rw [wrap_id _ (by omega)]; omega⟩
  have e2 : Aside0 (wrap64 ((at_ : Int) + 2) = ((at_ + 2 : Nat) : Int)) := ⟨by rw [wrap_id _ (by omega)]; omega⟩
  have e3 : Aside0 (wrap64 ((x0.length : Int) - (at_ : Int)) = (x0.length : Int) - (at_ : Int)) := ⟨by rw [wrap_id _ (by omega)]⟩
  have e4 : Aside0 (wrap64 a = a) := ⟨by rw [wrap_id _ (by omega)]⟩
  have e5 : Aside0 (Go.bits .or .i64 (wrap64 (a * 256)) (wrap64 b) = (m : Int)) := ⟨by rw [or_byte a b bb.1 bb.2, hm, wrap_id _ (by omega)]⟩
  have e6 : Aside0 (wrap64 (((at_ + 2 : Nat) : Int) + (m : Int)) = ((at_ + 2 + m : Nat) : Int)) := ⟨by rw [wrap_id _ (by omega)]; omega⟩
  have e7 : Aside0 (wrap64 ((x0.length : Int) - ((at_ + 2 : Nat) : Int)) = (x0.length : Int) - ((at_ + 2 : Nat) : Int)) := ⟨by rw [wrap_id _ (by omega)]⟩
  have e8 : Aside0 (wrap64 (x6 + 1) = x6 + 1) := ⟨by rw [wrap_id _ (by omega)]⟩
  have hcut : (x0.take (at_ + 2 + m)).drop (at_ + 2) = (x0.drop (at_ + 2)).take m := by rw [List.drop_take, Nat.add_sub_cancel_left]
  have p1 : 0 < (x0.length : Int) := by omega
  have p2 : ¬ (x0.length : Int) - (at_ : Int) < 2 := by omega
  have p3 : 0 ≤ (at_ : Int) := by omega
  have p4 : (at_ : Int) < (x0.length : Int) := by omega
  have p5 : 0 ≤ ((at_ + 1 : Nat) : Int) := by omega
  have p6 : ((at_ + 1 : Nat) : Int) < (x0.length : Int) := by omega
  simp only [curiaref6_Unpack.l0]
  rw [if_pos p1, if_pos hlt.out, e3.out, if_neg p2, if_pos p3, if_pos p4, e1.out, if_pos p5, if_pos p6, ra, rb, e4.out, e5.out, e2.out, e7.out, e6.out, e8.out]
  by_cases h2 : (m : Int) > 2000
  · rw [if_pos h2, if_pos h2]
  rw [if_neg h2, if_neg h2]
  by_cases h3 : at_ + 2 + m ≤ x0.length
  · rw [if_pos h3, if_neg (show ¬ (m : Int) > (x0.length : Int) - ((at_ + 2 : Nat) : Int) by omega)]
    simp only [Option.bind_some, List.length_nil, Nat.zero_add, List.nil_append, Int.toNat_natCast, hcut]
    have q1 : 0 ≤ ((at_ + 2 : Nat) : Int) := by omega
    have q2 : ((at_ + 2 : Nat) : Int) ≤ ((at_ + 2 + m : Nat) : Int) := by omega
    have q3 : ((at_ + 2 + m : Nat) : Int) ≤ (x0.length : Int) := by omega
    have q4 : ((x0.drop (at_ + 2)).take m).length < 140737488355328 := by rw [List.length_take, List.length_drop]; omega
    have q5 : x4.length < 5864062014805 := by omega
    rw [if_pos q1, if_pos q2, if_pos q3, if_pos q4, if_pos q5]
  · rw [if_neg h3, if_pos (show (m : Int) > (x0.length : Int) - ((at_ + 2 : Nat) : Int) by omega)]

theorem refUnp_loop (x0 : List Int) (hb : By x0) (hl : x0.length ≤ 140737488351232) : ∀ (n k at_ : Nat) (x4 : List (List Int)) (x6 : Int), 0 < x0.length → at_ ≤ x0.length → rd x0 0 - x6 = n → 0 ≤ x6 → x4.length + n ≤ 255 → n < k →
    curiaref6_Unpack.l0 k x0 x4 (at_ : Int) x6 = some (match takeRows n (x0.drop at_) with | some (l, []) => if (encs l).isSome then (x4 ++ l, 0) else ([], 2) | _ => ([], 2)) := by
  have hc0 : 0 < x0.length → 0 ≤ rd x0 0 ∧ rd x0 0 < 256 := fun h => by
    match x0, hb, h with
    | c :: r, hb, _ => exact hb.head
  intro n
  induction n with
  | zero =>
    intro k at_ x4 x6 h0 ha hn hx6 h255 hk
    obtain ⟨k, rfl⟩ : ∃ q, k = q + 1 := ⟨k - 1, by omega⟩
    have hc := hc0 h0
    have hw : wrap64 (rd x0 0) = rd x0 0 := by rw [wrap_id _ (by omega)]
    simp only [curiaref6_Unpack.l0, takeRows]
    rw [if_pos (by omega), hw, if_neg (by omega)]
    by_cases h : (at_ : Int) = (x0.length : Int)
    · rw [if_pos h, List.drop_eq_nil_of_le (by omega)]
      simp [encs]
    · rw [if_neg h]
      have : 0 < (x0.drop at_).length := by rw [List.length_drop]; omega
      cases hd : x0.drop at_ with
      | nil => rw [hd] at this; simp at this
      | cons => rfl
  | succ n ih =>
    intro k at_ x4 x6 h0 ha hn hx6 h255 hk
    obtain ⟨k, rfl⟩ : ∃ q, k = q + 1 := ⟨k - 1, by omega⟩
    have hc := hc0 h0
    by_cases hs : x0.length < at_ + 2
    · rw [takeRows_short n _ (by rw [List.length_drop]; omega)]
      have q1 : 0 < (x0.length : Int) := by omega
      have q2 : x6 < rd x0 0 := by omega
      have q3 : (x0.length : Int) - (at_ : Int) < 2 := by omega
      have e1 : Aside0 (wrap64 (rd x0 0) = rd x0 0) := ⟨by rw [wrap_id _ (by omega)]⟩
      have e2 : Aside0 (wrap64 ((x0.length : Int) - (at_ : Int)) = (x0.length : Int) - (at_ : Int)) := ⟨by rw [wrap_id _ (by omega)]⟩
      simp only [curiaref6_Unpack.l0]
      rw [if_pos q1, e1.out, if_pos q2, e2.out, if_pos q3]
    have hd : x0.drop at_ = x0[at_] :: x0[at_ + 1] :: x0.drop (at_ + 2) := by
      rw [List.drop_eq_getElem_cons (show at_ < x0.length by omega), List.drop_eq_getElem_cons (show at_ + 1 < x0.length by omega)]
    have ba := hb x0[at_] (List.getElem_mem _)
    have bb := hb x0[at_ + 1] (List.getElem_mem _)
    obtain ⟨m, hm⟩ : ∃ m : Nat, x0[at_] * 256 + x0[at_ + 1] = (m : Int) := ⟨(x0[at_] * 256 + x0[at_ + 1]).toNat, by omega⟩
    rw [refUnp_step k at_ m x0 x4 x6 x0[at_] x0[at_ + 1] hl (by omega) ⟨by rw [wrap_id _ (by omega)]; omega⟩ (by omega) (by omega) (rd_get x0 at_ (by omega)) (rd_get x0 (at_ + 1) (by omega)) ba bb hm, hd]
    simp only [takeRows, hm, Int.toNat_natCast]
    clear hd ba bb hm
    by_cases h2000 : (m : Int) > 2000
    · rw [if_pos h2000]
      by_cases hmr : m ≤ (x0.drop (at_ + 2)).length
      · rw [if_pos hmr]
        have hlen : ((x0.drop (at_ + 2)).take m).length = m := by rw [List.length_take]; omega
        cases takeRows n ((x0.drop (at_ + 2)).drop m) with
        | none => rfl
        | some y =>
          obtain ⟨l, rest⟩ := y
          have : encs ((x0.drop (at_ + 2)).take m :: l) = none := by
            unfold encs
            rw [hlen, if_pos h2000]
          cases rest <;> simp [this]
      · rw [if_neg hmr]
    · rw [if_neg h2000]
      by_cases hmr : m ≤ (x0.drop (at_ + 2)).length
      · rw [if_pos hmr]
        rw [List.length_drop] at hmr
        have hlen : ((x0.drop (at_ + 2)).take m).length = m := by rw [List.length_take, List.length_drop]; omega
        rw [if_pos (by omega), ih k (at_ + 2 + m) _ (x6 + 1) h0 (by omega) (by omega) (by omega) (by simp only [List.length_append, List.length_cons, List.length_nil]; omega) (by omega), List.drop_drop]
        cases takeRows n (x0.drop (at_ + 2 + m)) with
        | none => rfl
        | some y =>
          obtain ⟨l, rest⟩ := y
          have : encs ((x0.drop (at_ + 2)).take m :: l) = (encs l).map fun b => enc ((x0.drop (at_ + 2)).take m) ++ b := by
            rw [encs, hlen, if_neg h2000]
          cases rest with
          | nil => cases he : encs l <;> simp [this, he]
          | cons => rfl
      · rw [if_neg hmr]
        rw [List.length_drop] at hmr
        rw [if_neg (by omega)]

theorem refUnpack_some (b : List Int) (hb : By b) (hl : b.length ≤ 140737488351232) (k : Nat) (hk : 600 ≤ k) : curiaref6_Unpack.f k b = some (unpOf b) := by
  obtain ⟨k, rfl⟩ : ∃ q, k = q + 1 := ⟨k - 1, by omega⟩
  unfold curiaref6_Unpack.f
  match b, hb, hl with
  | [], _, _ => simp [curiaref6_Unpack.j0, unpOf]
  | c :: r, hb, hl =>
    have hc := hb.head
    simp only [List.length_cons] at hl
    have hw : wrap64 c = c := by unfold wrap64; omega
    rw [if_neg (by simp only [List.length_cons]; omega), if_pos (by simp only [List.length_cons]; omega), rd_zero, hw]
    simp only [curiaref6_Unpack.j0, unpOf]
    by_cases h60 : c > 60
    · rw [if_pos h60, if_pos (by simpa using h60)]
    · rw [if_neg h60, if_neg (by simpa using h60)]
      have := refUnp_loop (c :: r) hb (by simp; omega) c.toNat k 1 [] 0 (by simp) (by simp) (by rw [rd_zero]; omega) (by omega) (by simp only [List.length_nil]; omega) (by omega)
      simp only [List.drop_succ_cons, List.drop_zero, List.nil_append] at this
      exact this

theorem same_loop (x y : List (List Int)) (hxy : x = y) (hl : x.length ≤ 140737488351232) : ∀ (m k i : Nat), x.length - i = m → i ≤ x.length → m < k → curiaref6_Same.l0 k x y (i : Int) = some true := by
  subst hxy
  intro m
  induction m with
  | zero =>
    intro k i hm hi hk
    obtain ⟨k, rfl⟩ : ∃ q, k = q + 1 := ⟨k - 1, by omega⟩
    simp only [curiaref6_Same.l0]
    rw [if_neg (by omega)]
  | succ m ih =>
    intro k i hm hi hk
    obtain ⟨k, rfl⟩ : ∃ q, k = q + 1 := ⟨k - 1, by omega⟩
    have hw : wrap64 ((i : Int) + 1) = ((i + 1 : Nat) : Int) := by unfold wrap64; omega
    simp only [curiaref6_Same.l0]
    rw [if_pos (by omega), if_pos (by omega), if_pos (by omega), if_pos trivial, hw]
    exact ih k (i + 1) (by omega) (by omega) (by omega)
theorem same_some (x : List (List Int)) (hl : x.length ≤ 140737488351232) (k : Nat) (hk : x.length < k) : curiaref6_Same.f k x x = some true := by
  unfold curiaref6_Same.f
  rw [if_pos rfl]
  exact same_loop x x rfl hl x.length k 0 (by omega) (by omega) hk

theorem unpOf_length (b : List Int) (hb : By b) : (unpOf b).1.length ≤ 60 := by
  match b, hb with
  | [], _ => simp [unpOf]
  | c :: r, hb =>
    have hc := hb.head
    simp only [unpOf]
    by_cases h60 : c > 60
    · rw [if_pos h60]; simp
    · rw [if_neg h60]
      cases ht : takeRows c.toNat r with
      | none => simp
      | some y =>
        obtain ⟨l, rest⟩ := y
        have := takeRows_length _ _ _ _ ht
        cases rest with
        | nil =>
          simp only
          split
          · simp only; omega
          · simp
        | cons => simp

end Go.Proofs.Ytbncodabchbpjaa.Fn
