/-
Rows as bytes and back, in plain lists: what was packed comes back; what is cut or longer is none.
-/
import Derived.Test.YtbncodabchbpjaaPureUnpack
import Derived.Test.YtbncodabchbpjaaPackPure
import Derived.Test.YtbncodabchbpjaaFnOne
import Derived.Test.YtbncodabchbpjaaFnOwn
import Derived.OpenShut
namespace Go.Proofs.Ytbncodabchbpjaa.Fn
open Go.RowKit Go.Proofs.YtbncodabchbpjaaW.PrintWords Go.Proofs.YtbncodabchbpjaaW.PrintLast Go.Proofs.YtbncodabchbpjaaW.PrintMore

theorem unpOf_two (b : List Int) : (unpOf b).2 = 0 ∨ unpOf b = ([], 2) := by
  match b with
  | [] => exact Or.inr rfl
  | c :: r =>
    simp only [unpOf]
    by_cases h60 : c > 60
    · rw [if_pos h60]; exact Or.inr rfl
    · rw [if_neg h60]
      cases takeRows c.toNat r with
      | none => exact Or.inr rfl
      | some y =>
        obtain ⟨l, rest⟩ := y
        cases rest with
        | cons => exact Or.inr rfl
        | nil =>
          simp only
          split
          · exact Or.inl rfl
          · exact Or.inr rfl

/-- What is taken is written as it was. -/
theorem unpOf_ok (b : List Int) (hb : By b) (h : (unpOf b).2 = 0) : packOf (unpOf b).1 = (b, 0) := by
  match b, hb with
  | [], _ => simp [unpOf] at h
  | c :: r, hb =>
    have hc := hb.head
    simp only [unpOf] at h ⊢
    by_cases h60 : c > 60
    · rw [if_pos h60] at h; simp at h
    · rw [if_neg h60] at h ⊢
      cases ht : takeRows c.toNat r with
      | none => rw [ht] at h; simp at h
      | some y =>
        obtain ⟨l, rest⟩ := y
        rw [ht] at h
        cases rest with
        | cons => simp at h
        | nil =>
          simp only at h ⊢
          cases he : encs l with
          | none => rw [he] at h; simp at h
          | some e =>
            have hlen := takeRows_length _ _ _ _ ht
            have hre := takeRows_encs _ _ _ _ _ hb.tail ht he
            rw [List.append_nil] at hre
            simp only [Option.isSome_some, if_true]
            rw [packOf_fits l e (by omega) he, hre]
            have hc' : (l.length : Int) % 256 = c := by omega
            rw [hc']

theorem takeRows_app (s : List Int) : ∀ (n : Nat) (r : List Int) (l : List (List Int)) (rest : List Int), takeRows n r = some (l, rest) → takeRows n (r ++ s) = some (l, rest ++ s)
  | 0, r, l, rest, h => by
    simp only [takeRows, Option.some.injEq, Prod.mk.injEq] at h ⊢
    exact ⟨h.1, by rw [h.2]⟩
  | n + 1, [], l, rest, h => by simp [takeRows] at h
  | n + 1, [_], l, rest, h => by simp [takeRows] at h
  | n + 1, a :: b :: r, l, rest, h => by
    simp only [List.cons_append, takeRows] at h ⊢
    by_cases hm : (a * 256 + b).toNat ≤ r.length
    · rw [if_pos hm] at h
      rw [if_pos (by rw [List.length_append]; omega)]
      cases ht : takeRows n (r.drop (a * 256 + b).toNat) with
      | none => rw [ht] at h; simp at h
      | some y =>
        rw [ht] at h
        simp only [Option.map_some, Option.some.injEq, Prod.mk.injEq] at h
        obtain ⟨rfl, rfl⟩ := h
        have ih := takeRows_app s n _ y.1 y.2 ht
        rw [List.drop_append_of_le_length hm, ih, List.take_append_of_le_length hm]
        rfl
    · rw [if_neg hm] at h
      exact absurd h (by simp)

theorem takeRows_back : ∀ (l : List (List Int)) (e rest : List Int), encs l = some e → takeRows l.length (e ++ rest) = some (l, rest)
  | [], e, rest, h => by
    simp only [encs, Option.some.injEq] at h
    subst h
    rfl
  | p :: l, e, rest, h => by
    unfold encs at h
    by_cases hp : (p.length : Int) > 2000
    · rw [if_pos hp] at h; exact absurd h (by simp)
    · rw [if_neg hp] at h
      cases he : encs l with
      | none => rw [he] at h; simp at h
      | some e2 =>
        rw [he] at h
        simp only [Option.map_some, Option.some.injEq] at h
        subst h
        have ih := takeRows_back l e2 rest he
        have d : ((p.length : Int) / 256 % 256 * 256 + (p.length : Int) % 256).toNat = p.length := by omega
        simp only [enc, List.length_cons, List.cons_append, List.nil_append, List.append_assoc, takeRows, d]
        rw [if_pos (by rw [List.length_append]; omega), List.drop_left, List.take_left, ih]
        rfl

/-- What was packed comes back. -/
theorem unp_pack (l : List (List Int)) (b : List Int) (h : packOf l = (b, 0)) : unpOf b = (l, 0) ∧ ∃ c e, b = c :: e ∧ takeRows c.toNat e = some (l, []) ∧ ¬ c > 60 := by
  by_cases h60 : (l.length : Int) > 60
  · rw [packOf_many l h60] at h; simp at h
  cases he : encs l with
  | none => rw [packOf_long l he] at h; simp at h
  | some e =>
    rw [packOf_fits l e h60 he] at h
    simp only [Prod.mk.injEq, and_true] at h
    subst h
    have hb := takeRows_back l e [] he
    rw [List.append_nil] at hb
    have hc : ((l.length : Int) % 256).toNat = l.length := by omega
    refine ⟨?_, _, _, rfl, by rw [hc]; exact hb, by omega⟩
    simp only [unpOf]
    rw [if_neg (by omega), hc, hb]
    simp [he]

theorem unp_cut (l : List (List Int)) (b : List Int) (h : packOf l = (b, 0)) (n : Nat) (hn : n < b.length) : unpOf (b.take n) = ([], 2) := by
  obtain ⟨_, c, e, rfl, ht, h60⟩ := unp_pack l b h
  match n with
  | 0 => rfl
  | n + 1 =>
    simp only [List.take_succ_cons, unpOf]
    rw [if_neg h60]
    cases h2 : takeRows c.toNat (e.take n) with
    | none => rfl
    | some y =>
      obtain ⟨l', rest⟩ := y
      cases rest with
      | cons => rfl
      | nil =>
        have := takeRows_app (e.drop n) _ _ _ _ h2
        rw [List.take_append_drop, ht] at this
        simp only [Option.some.injEq, Prod.mk.injEq, List.nil_append] at this
        have hl := congrArg List.length this.2
        simp only [List.length_nil, List.length_drop, List.length_cons] at hl hn
        omega

theorem unp_more (l : List (List Int)) (b : List Int) (h : packOf l = (b, 0)) (x : Int) : unpOf (b ++ [x]) = ([], 2) := by
  obtain ⟨_, c, e, rfl, ht, h60⟩ := unp_pack l b h
  simp only [List.cons_append, unpOf]
  rw [if_neg h60, takeRows_app [x] _ _ _ _ ht]
  rfl

theorem By_of {l : List Int} (h : ∀ x ∈ l, (Lit.int .u8 x).wf = true) : By l := fun x hx => by
  have := bounds_u8 (h x hx)
  omega
theorem packOf_two (l : List (List Int)) : packOf l = ([], 1) ∨ (packOf l).2 = 0 := by
  by_cases h60 : (l.length : Int) > 60
  · exact Or.inl (packOf_many l h60)
  cases he : encs l with
  | none => exact Or.inl (packOf_long l he)
  | some e => rw [packOf_fits l e h60 he]; exact Or.inr rfl
theorem packOf_By (l : List (List Int)) (hl : ∀ p ∈ l, By p) : By (packOf l).1 := by
  by_cases h60 : (l.length : Int) > 60
  · rw [packOf_many l h60]; intro x hx; simp at hx
  cases he : encs l with
  | none => rw [packOf_long l he]; intro x hx; simp at hx
  | some e =>
    rw [packOf_fits l e h60 he]
    intro x hx
    rcases List.mem_cons.1 hx with rfl | hx
    · omega
    · exact encs_By hl he x hx
theorem packOf_length (l : List (List Int)) : (packOf l).1.length ≤ 122000 := by
  by_cases h60 : (l.length : Int) > 60
  · rw [packOf_many l h60]; simp
  cases he : encs l with
  | none => rw [packOf_long l he]; simp
  | some e =>
    rw [packOf_fits l e h60 he]
    have := encs_len he
    simp only [List.length_cons]
    omega

theorem RowsOne_some : curialaw6_RowsOne.Pure := by
  intro b hmax hsz hb0
  have hb := By_of hb0
  refine ⟨600, ?_⟩
  unfold curialaw6_RowsOne.f
  by_cases h : (b.length : Int) > 3000
  · rw [if_pos h]
  rw [if_neg h, unpack_some b hb (by omega) 600 (by omega), refUnpack_some b hb (by omega) 600 (by omega)]
  simp only [Option.bind_some]
  have hlen := unpOf_length b hb
  rcases unpOf_two b with h0 | h2
  · rw [if_pos h0, pack_some _ 600 (by omega), unpOf_ok b hb h0]
    simp [curialaw6_known.f]
  · rw [h2]
    simp [curialaw6_known.f]

theorem own_loop (x0 x5 : List (List Int)) (x6 : Int) (h6 : x6 = 0) (h5 : x5 = x0) (hl : x0.length ≤ 60) : ∀ (m k i : Nat) (x3 : List Int), x3.length ≤ 122000 → x3.length - i = m → i ≤ x3.length → m + 61 < k → curialaw6_RowsOwn.l0 k x0 x3 x5 x6 (i : Int) = some true := by
  subst h6 h5
  intro m
  induction m with
  | zero =>
    intro k i x3 hx hm hi hk
    obtain ⟨k, rfl⟩ : ∃ q, k = q + 1 := ⟨k - 1, by omega⟩
    simp only [curialaw6_RowsOwn.l0]
    rw [if_neg (by omega), if_pos trivial, same_some x5 (by omega) k (by omega)]
    simp [curialaw6_known.f]
  | succ m ih =>
    intro k i x3 hx hm hi hk
    obtain ⟨k, rfl⟩ : ∃ q, k = q + 1 := ⟨k - 1, by omega⟩
    have hw : wrap64 ((i : Int) + 1) = ((i + 1 : Nat) : Int) := by unfold wrap64; omega
    simp only [curialaw6_RowsOwn.l0]
    rw [if_pos (by omega), if_pos (by omega), hw]
    exact ih k (i + 1) _ (by rw [List.length_set]; omega) (by rw [List.length_set]; omega) (by rw [List.length_set]; omega) (by omega)

theorem RowsOwn_some (l : List (List Int)) (hl : l.length ≤ 9223372036854775807) (hb : ∀ p ∈ l, ∀ x ∈ p, (Lit.int .u8 x).wf = true) : ∃ k, curialaw6_RowsOwn.f k l = some true := by
  have hB : ∀ p ∈ l, By p := fun p hp => By_of (hb p hp)
  obtain ⟨q, hq⟩ : ∃ q : Nat, l.length + 122999 ≤ q := ⟨_, Nat.le_refl _⟩
  obtain ⟨r, hr⟩ := long_some l hl (q + 1) (by omega)
  refine ⟨q + 1, ?_⟩
  unfold curialaw6_RowsOwn.f
  rw [hr]
  simp only [Option.bind_some]
  have hdone : ∀ j, curialaw6_RowsOwn.j0 (j + 1) l true = some true := fun j => by simp [curialaw6_RowsOwn.j0]
  by_cases h1 : r = true
  · rw [if_pos h1]; exact hdone q
  rw [if_neg h1]
  by_cases h2 : (l.length : Int) > 60
  · rw [decide_eq_true h2]; exact hdone q
  rw [decide_eq_false h2]
  simp only [curialaw6_RowsOwn.j0]
  rw [if_neg (by decide), pack_some l _ (by omega)]
  simp only [Option.bind_some]
  rcases packOf_two l with h | h
  · rw [h]
    simp [curialaw6_known.f]
  · rw [if_pos h]
    obtain ⟨b, hp⟩ : ∃ b, packOf l = (b, 0) := ⟨(packOf l).1, Prod.ext rfl h⟩
    have h3 := packOf_By l hB
    have h4 := packOf_length l
    rw [hp] at h3 h4 ⊢
    rw [unpack_some b h3 (by simp only at h4; omega) _ (by omega), (unp_pack l b hp).1]
    exact own_loop l l 0 rfl rfl (by omega) b.length _ 0 b h4 (by omega) (by omega) (by simp only at h4; omega)

end Go.Proofs.Ytbncodabchbpjaa.Fn
