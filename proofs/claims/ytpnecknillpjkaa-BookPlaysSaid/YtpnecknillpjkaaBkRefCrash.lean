import Derived.Test.YtpnecknillpjkaaBkRef
namespace Go.Proofs.Ytpnecknillpjkaa.Bk
open Go.RowKit Go.Proofs.YtpnecknillpjkaaW.PrintWords Go.Proofs.YtpnecknillpjkaaW.PrintLast

def rcrash.T1 : Bool × List (List Nat × List Nat) := (true, [([], []), ([0], [0]), ([1], [1]), ([2], [2]), ([], []), ([4], [4]), ([], []), ([6], [6]), ([7], [7]), ([8], [8]), ([9], [9]), ([], []), ([11], [11]), ([12], [12]), ([13], [13]), ([10, 14], [10, 14]), ([5, 15], [5, 15]), ([3, 16], [3, 16]), ([17, 0, 1, 2, 3, 4, 5, 6, 7, 8, 9, 10, 11, 12, 13, 14, 15, 16, 17], [17])])
def rcrash.B1 : List Nat := [0, 1, 3, 7, 0, 16, 0, 64, 192, 448, 960, 0, 2048, 6144, 14336, 32704, 65520, 131071, 262143]
theorem rcrash.tab1 : rtab .any (opsOf Try.f23 1) = rcrash.T1 := by kernel_rfl
theorem rcrash.bits1 : waitsOk rcrash.T1.2 rcrash.B1 = true := by kernel_rfl

theorem info66z : (Try.prog.info? 66).map (fun i => (i.zero, i.size, i.bytes)) = some (some (.agg (enA (0, zeros))), 33, 40) := by kernel_rfl
theorem info_parts66 : ∃ i, Try.prog.info? 66 = some i ∧ i.zero = some (.agg (enA (0, zeros))) ∧ i.size = 33 ∧ i.bytes = 40 := by
  obtain ⟨i, hi, h0, h1, h2⟩ := info_parts info66z
  exact ⟨i, hi, h0, h1, h2⟩
theorem row_slice {w : World} {base n : Nat} {v : Value} {xs : List Value} (h : w.ownsRow base 66 33 v n xs) : ∃ A c, v = .slice A n c := by
  rcases h.2 with ⟨rfl, rfl⟩ | ⟨g, cap, _, rfl, _⟩
  · exact ⟨_, _, rfl⟩
  · exact ⟨_, _, rfl⟩
theorem rcrash_book {w w2 : World} {v : Value} {es : List (Int × List Int)} {n : Nat} (ho : w2.ownsRow w.heap.size 66 33 v n (rc (es.take n))) (hn : n ≤ es.length) (hb : Below w.heap.size w w2) (hk : Ok32 es) (hl : es.length ≤ 100) :
    RefAt (w2.alloc (.cells #[v, .int .i64 n] 41)) w.heap.size w2.heap.size v (es.take n) n := by
  have e : (es.take n).length = n := by rw [List.length_take]; omega
  refine ⟨hb.size, heap_alloc_new _ _, ?_, hk.take n, by omega⟩
  rw [e]
  exact World.ownsRow.kept (row := none) ho (World.grownBy_alloc _ _ none) (by cases hv : v.ownBlock <;> simp)

set_option maxRecDepth 100000 in
set_option maxHeartbeats 1000000 in
theorem rcrash_some (base g : Nat) (ad : Addr) (c m : Nat) (es : List (Int × List Int)) (s : Nat) (keep : Int) (w : World) (hB : RefAt w base g (.slice (some ad) m c) es s) (hm : es.length = m) (kk : Int) (hk0 : (if keep < 0 then 0 else keep) = kk) (d : Nat) (hw1 : IntKind.i64.wrap ((m : Int) - s) = d) (t : Nat) (hk2 : (if (d : Int) < kk then (d : Int) else kk) = t) (nx : Nat) (hk3 : IntKind.i64.wrap ((s : Int) + t) = nx) (hnx : nx ≤ m) :
    Calls Try.prog 23 #[.pointer (some ⟨g, 0, none⟩), .int .i64 keep] w fun r w' => ∃ g' v', r = .returned (.pointer (some ⟨g', 0, none⟩)) ∧ RefAt w' w.heap.size g' v' (es.take nx) nx ∧ Below w.heap.size w w' := by
  have hc0 : w.cell? ⟨g, 0, none⟩ = some (.slice (some ad) m c) := by rw [hB.cell]; rfl
  have hc1 : w.cell? ⟨g, 1, none⟩ = some (.int .i64 s) := by rw [hB.cell]; rfl
  have h100 := hB.len
  rw [hm] at h100
  obtain ⟨A', c', hv, hcc, _, hr⟩ := ref_reads hB
  rw [hm] at hv hcc
  obtain ⟨rfl, rfl⟩ : some ad = A' ∧ c = c' := by simpa using hv
  have HR := Lib.hid hr
  have HB := Lib.hid hB
  have Hm := Lib.hid hm
  obtain ⟨i0, hi, hz0, hz1, hz2⟩ := info_parts66
  clear hB hv hr hm
  go_enter Try.func23, Try.ntmps23
  go_wp2_with fail
  refine start_ (n := 19) (S := fun w' => w'.cell? ⟨g, 0, none⟩ = some (.slice (some ad) m c) ∧ w'.cell? ⟨g, 1, none⟩ = some (.int .i64 s)) (ds := []) #[false, false, false, false, false, false, false, false, false, false, false, false, false, false, false, false, false, false, false] (by kernel_rfl) rfl rfl ?hS0 (fun hHeld => ?_)
  rotate_left
  refine with_tabW rcrash.tab1 rcrash.bits1 (fun HT_ HW_ => ?_)
  generalize hw3d : w.drew = w3d at hHeld ⊢
  have HW3 := Lib.hid hw3d
  clear hw3d
  refine pure_ (i := 0) (N := some 6) (v := ?_) (a' := ?_) #[true, false, false, false, false, false, false, false, false, false, false, false, false, false, false, false, false, false, false] rfl rfl (any_of HT_.out (by kernel_rfl)) (fun _ _ _ h => h) (Or.inl ⟨by rfl, ?_⟩) ?_ ?_
  rotate_left
  · intro w'
    go_simp
    with_reducible rfl
  rotate_left
  · simp only [Act.put, List.setIfInBounds_toArray, List.set_cons_zero, List.set_cons_succ]
    rfl
  refine pure_ (i := 1) (N := some 7) (v := ?_) (a' := ?_) #[true, true, false, false, false, false, false, false, false, false, false, false, false, false, false, false, false, false, false] rfl rfl (any_of HT_.out (by kernel_rfl)) (fun _ _ _ h => h) (Or.inl ⟨by rfl, ?_⟩) ?_ ?_
  rotate_left
  · intro w'
    go_simp
    with_reducible rfl
  rotate_left
  · simp only [Act.put, List.setIfInBounds_toArray, List.set_cons_zero, List.set_cons_succ]
    rfl
  refine pure_ (i := 2) (N := some 8) (v := ?_) (a' := ?_) #[true, true, true, false, false, false, false, false, false, false, false, false, false, false, false, false, false, false, false] rfl rfl (any_of HT_.out (by kernel_rfl)) (fun _ _ _ h => h) (Or.inl ⟨by rfl, ?_⟩) ?_ ?_
  rotate_left
  · intro w'
    go_simp
    with_reducible rfl
  rotate_left
  · simp only [Act.put, List.setIfInBounds_toArray, List.set_cons_zero, List.set_cons_succ]
    rfl
  refine take_ (i := 3) (N := some 9) (v := ?_) (a' := ?_) #[true, true, true, true, false, false, false, false, false, false, false, false, false, false, false, false, false, false, false] rfl rfl (take_ofW HT_.out HW_.out (by kernel_rfl)) (fun _ _ _ h => h) (Or.inl ⟨by rfl, ?_⟩) hHeld ?_ ?_
  rotate_left
  · rintro w' ⟨s0, s1⟩
    go_simp
    with_reducible rfl
  rotate_left
  · simp only [Act.put, List.setIfInBounds_toArray, List.set_cons_zero, List.set_cons_succ]
    rfl
  refine pure_ (i := 4) (N := some 10) (v := ?_) (a' := ?_) #[true, true, true, true, true, false, false, false, false, false, false, false, false, false, false, false, false, false, false] rfl rfl (any_of HT_.out (by kernel_rfl)) (fun _ _ _ h => h) (Or.inl ⟨by rfl, ?_⟩) ?_ ?_
  rotate_left
  · intro w'
    go_simp
    with_reducible rfl
  rotate_left
  · simp only [Act.put, List.setIfInBounds_toArray, List.set_cons_zero, List.set_cons_succ]
    rfl
  refine pure_ (i := 5) (N := some 11) (v := ?_) (a' := ?_) #[true, true, true, true, true, true, false, false, false, false, false, false, false, false, false, false, false, false, false] rfl rfl (any_of HT_.out (by kernel_rfl)) (fun _ _ _ h => h) (Or.inl ⟨by rfl, ?_⟩) ?_ ?_
  rotate_left
  · intro w'
    go_simp
    with_reducible rfl
  rotate_left
  · simp only [Act.put, List.setIfInBounds_toArray, List.set_cons_zero, List.set_cons_succ]
    rfl
  refine pure_ (i := 6) (N := some 12) (v := ?_) (a' := ?_) #[true, true, true, true, true, true, true, false, false, false, false, false, false, false, false, false, false, false, false] rfl rfl (any_of HT_.out (by kernel_rfl)) (fun _ _ _ h => h) (Or.inl ⟨by rfl, ?_⟩) ?_ ?_
  rotate_left
  · intro w'
    go_simp
    with_reducible rfl
  rotate_left
  · simp only [Act.put, List.setIfInBounds_toArray, List.set_cons_zero, List.set_cons_succ]
    rfl
  refine pure_ (i := 7) (N := some 13) (v := ?_) (a' := ?_) #[true, true, true, true, true, true, true, true, false, false, false, false, false, false, false, false, false, false, false] rfl rfl (any_of HT_.out (by kernel_rfl)) (fun _ _ _ h => h) (Or.inl ⟨by rfl, ?_⟩) ?_ ?_
  rotate_left
  · intro w'
    go_simp
    with_reducible rfl
  rotate_left
  · simp only [Act.put, List.setIfInBounds_toArray, List.set_cons_zero, List.set_cons_succ]
    rfl
  refine pure_ (i := 8) (N := some 14) (v := ?_) (a' := ?_) #[true, true, true, true, true, true, true, true, true, false, false, false, false, false, false, false, false, false, false] rfl rfl (any_of HT_.out (by kernel_rfl)) (fun _ _ _ h => h) (Or.inl ⟨by rfl, ?_⟩) ?_ ?_
  rotate_left
  · intro w'
    go_simp
    with_reducible rfl
  rotate_left
  · simp only [Act.put, List.setIfInBounds_toArray, List.set_cons_zero, List.set_cons_succ]
    rfl
  refine take_ (i := 9) (N := some 15) (v := ?_) (a' := ?_) #[true, true, true, true, true, true, true, true, true, true, false, false, false, false, false, false, false, false, false] rfl rfl (take_ofW HT_.out HW_.out (by kernel_rfl)) (fun _ _ _ h => h) (Or.inl ⟨by rfl, ?_⟩) hHeld ?_ ?_
  rotate_left
  · rintro w' ⟨s0, s1⟩
    go_simp
    with_reducible rfl
  rotate_left
  · simp only [Act.put, List.setIfInBounds_toArray, List.set_cons_zero, List.set_cons_succ]
    rfl
  refine pure_ (i := 10) (N := some 16) (v := ?_) (a' := ?_) #[true, true, true, true, true, true, true, true, true, true, true, false, false, false, false, false, false, false, false] rfl rfl (any_of HT_.out (by kernel_rfl)) (fun _ _ _ h => h) (Or.inl ⟨by rfl, ?_⟩) ?_ ?_
  rotate_left
  · intro w'
    go_simp
    with_reducible rfl
  rotate_left
  · simp only [Act.put, List.setIfInBounds_toArray, List.set_cons_zero, List.set_cons_succ]
    rfl
  refine pure_ (i := 11) (N := some 17) (v := ?_) (a' := ?_) #[true, true, true, true, true, true, true, true, true, true, true, true, false, false, false, false, false, false, false] rfl rfl (any_of HT_.out (by kernel_rfl)) (fun _ _ _ h => h) (Or.inl ⟨by rfl, ?_⟩) ?_ ?_
  rotate_left
  · intro w'
    go_simp
    with_reducible rfl
  rotate_left
  · simp only [Act.put, List.setIfInBounds_toArray, List.set_cons_zero, List.set_cons_succ]
    rfl
  refine pure_ (i := 12) (N := some 18) (v := ?_) (a' := ?_) #[true, true, true, true, true, true, true, true, true, true, true, true, true, false, false, false, false, false, false] rfl rfl (any_of HT_.out (by kernel_rfl)) (fun _ _ _ h => h) (Or.inl ⟨by rfl, ?_⟩) ?_ ?_
  rotate_left
  · intro w'
    go_simp
    with_reducible rfl
  rotate_left
  · simp only [Act.put, List.setIfInBounds_toArray, List.set_cons_zero, List.set_cons_succ]
    rfl
  refine pure_ (i := 13) (N := some 19) (v := ?_) (a' := ?_) #[true, true, true, true, true, true, true, true, true, true, true, true, true, true, false, false, false, false, false] rfl rfl (any_of HT_.out (by kernel_rfl)) (fun _ _ _ h => h) (Or.inl ⟨by rfl, ?_⟩) ?_ ?_
  rotate_left
  · intro w'
    go_simp
    with_reducible rfl
  rotate_left
  · simp only [Act.put, List.setIfInBounds_toArray, List.set_cons_zero, List.set_cons_succ]
    rfl
  refine take_ (i := 14) (N := some 20) (v := ?_) (a' := ?_) #[true, true, true, true, true, true, true, true, true, true, true, true, true, true, true, false, false, false, false] rfl rfl (take_ofW HT_.out HW_.out (by kernel_rfl)) (fun _ _ _ h => h) (Or.inl ⟨by rfl, ?_⟩) hHeld ?_ ?_
  rotate_left
  · rintro w' ⟨s0, s1⟩
    go_simp
    with_reducible rfl
  rotate_left
  · simp only [Act.put, List.setIfInBounds_toArray, List.set_cons_zero, List.set_cons_succ]
    rfl
  refine pure_ (i := 15) (N := some 21) (v := ?_) (a' := ?_) #[true, true, true, true, true, true, true, true, true, true, true, true, true, true, true, true, false, false, false] rfl rfl (any_of HT_.out (by kernel_rfl)) (fun _ _ _ h => h) (Or.inl ⟨by rfl, ?_⟩) ?_ ?_
  rotate_left
  · intro w'
    go_simp
    with_reducible rfl
  rotate_left
  · simp only [Act.put, List.setIfInBounds_toArray, List.set_cons_zero, List.set_cons_succ]
    rfl
  refine pure_ (i := 16) (N := some 22) (v := ?_) (a' := ?_) #[true, true, true, true, true, true, true, true, true, true, true, true, true, true, true, true, true, false, false] rfl rfl (any_of HT_.out (by kernel_rfl)) (fun _ _ _ h => h) (Or.inl ⟨by rfl, ?_⟩) ?_ ?_
  rotate_left
  · intro w'
    go_simp
    with_reducible rfl
  rotate_left
  · simp only [Act.put, List.setIfInBounds_toArray, List.set_cons_zero, List.set_cons_succ]
    rfl
  refine pure_ (i := 17) (N := some 23) (v := ?_) (a' := ?_) #[true, true, true, true, true, true, true, true, true, true, true, true, true, true, true, true, true, true, false] rfl rfl (any_of HT_.out (by kernel_rfl)) (fun _ _ _ h => h) (Or.inl ⟨by rfl, ?_⟩) ?_ ?_
  rotate_left
  · intro w'
    go_simp
    with_reducible rfl
  rotate_left
  · simp only [Act.put, List.setIfInBounds_toArray, List.set_cons_zero, List.set_cons_succ]
    rfl
  refine pure_ (i := 18) (N := some 5) (v := ?_) (a' := ?_) #[true, true, true, true, true, true, true, true, true, true, true, true, true, true, true, true, true, true, true] rfl rfl (any_of HT_.out (by kernel_rfl)) (fun _ _ _ h => h) (Or.inl ⟨by rfl, ?_⟩) ?_ ?_
  rotate_left
  · intro w'
    go_simp
    with_reducible rfl
  rotate_left
  · simp only [Act.put, List.setIfInBounds_toArray, List.set_cons_zero, List.set_cons_succ]
    rfl
  refine done_ (done_of HT_.out (by kernel_rfl)) ?_
  have hc3 : w3d.cell? ⟨g, 0, none⟩ = some (.slice (some ad) m c) := hHeld.1
  have Hb3 : Hid (Below w.heap.size w w3d) := by rw [← HW3.out]; exact (Below.refl _ _).drew
  have hca : (w3d.alloc (.cells #[] 66)).cell? ⟨g, 0, none⟩ = some (.slice (some ad) m c) := by rw [World.cell?_alloc_past _ _ _ (Nat.lt_of_lt_of_le HB.out.lt Hb3.out.size)]; exact hc3
  have HO : Hid ((w3d.alloc (.cells #[] 66)).ownsRow w.heap.size 66 33 (.slice (some ⟨w3d.heap.size, 0, none⟩) 0 0) 0 []) := World.ownsRow_lit w3d #[] 0 Hb3.out.size (by unfold maxLen; omega) rfl
  have HN : Hid (∀ j u, (rc (es.take nx))[j]? = some u → (w3d.alloc (.cells #[] 66)).cell? (ad.add j) = some u) := fun j u hu => by
    rcases Nat.eq_zero_or_pos (es.take nx).length with h | h
    · have := List.eq_nil_of_length_eq_zero h
      rw [this] at hu
      simp [rc] at hu
    · obtain ⟨b, o, e, hlt, hrg⟩ := (HR.out.take HB.out.ok nx) h
      injection e with e
      subst e
      rw [Addr.add_mid, World.cell?_alloc_past _ _ _ (Nat.lt_of_lt_of_le hlt Hb3.out.size), Hb3.out.cell hlt]
      exact hrg j u hu
  have HL : Hid ((rc (es.take nx)).length = nx * 33) := by
    show _ = _
    rw [rc_len (HB.out.ok.take nx), List.length_take, Nat.min_eq_left (by rw [Hm.out]; exact hnx)]
  clear HT_ HW_ hHeld
  go_wp2_with (at_builtin; refine wpList_append_own_at _ rfl (.tmp 24) (.tmp 30) 39 rfl w.heap.size 66 i0 (.agg (enA (0, zeros))) 33 40 Try.underlying39 hi hz0 hz1 hz2 zero_size (by omega) (.slice (some ⟨w3d.heap.size, 0, none⟩) 0 0) 0 [] rfl HO.out ad nx c (rc (es.take nx)) rfl HL.out HN.out (rc_one _) (by unfold maxLen; omega) (by omega) (Nat.le_trans Hb3.out.size (by simp)) ?_; intro v' w1 hown1 hgrow hnil hat; obtain ⟨A2, c2, hv2⟩ := row_slice hown1; rw [Nat.zero_add] at hv2; subst hv2; have HOw := Lib.hid hown1; have HG := Lib.hid hgrow; clear hown1 hgrow hnil hat)
  go_ret
  have hb1 : Below w.heap.size w w1 := (Hb3.out.alloc Hb3.out.size _).grown HG.out (Nat.le_trans Hb3.out.size (by simp)) (fun k h => by have := Hb3.out.size; simp [Value.ownBlock] at h; omega)
  refine ⟨w1.heap.size, .slice A2 nx c2, rfl, ?_, hb1.alloc hb1.size _⟩
  exact rcrash_book (by simpa using HOw.out) (by rw [Hm.out]; exact hnx) hb1 HB.out.ok HB.out.len
  case hS0 => exact ⟨hc0, hc1⟩

set_option maxRecDepth 100000 in
set_option maxHeartbeats 1000000 in
theorem rcrash_none (base g : Nat) (es : List (Int × List Int)) (keep : Int) (w : World) (hB : RefAt w base g (.slice none 0 0) es 0) (kk : Int) (hk0 : (if keep < 0 then 0 else keep) = kk) (hk2 : (if (0 : Int) < kk then (0 : Int) else kk) = 0) :
    Calls Try.prog 23 #[.pointer (some ⟨g, 0, none⟩), .int .i64 keep] w fun r w' => ∃ g' v', r = .returned (.pointer (some ⟨g', 0, none⟩)) ∧ RefAt w' w.heap.size g' v' (es.take 0) 0 ∧ Below w.heap.size w w' := by
  have hc0 : w.cell? ⟨g, 0, none⟩ = some (.slice none 0 0) := by rw [hB.cell]; rfl
  have hc1 : w.cell? ⟨g, 1, none⟩ = some (.int .i64 0) := by rw [hB.cell]; rfl
  have HB := Lib.hid hB
  have hz : IntKind.i64.wrap 0 = 0 := by kernel_rfl
  clear hB
  go_enter Try.func23, Try.ntmps23
  go_wp2_with fail
  refine start_ (n := 19) (S := fun w' => w'.cell? ⟨g, 0, none⟩ = some (.slice none 0 0) ∧ w'.cell? ⟨g, 1, none⟩ = some (.int .i64 0)) (ds := []) #[false, false, false, false, false, false, false, false, false, false, false, false, false, false, false, false, false, false, false] (by kernel_rfl) rfl rfl ?hS0 (fun hHeld => ?_)
  rotate_left
  refine with_tabW rcrash.tab1 rcrash.bits1 (fun HT_ HW_ => ?_)
  generalize hw3d : w.drew = w3d at hHeld ⊢
  have HW3 := Lib.hid hw3d
  clear hw3d
  refine pure_ (i := 0) (N := some 6) (v := ?_) (a' := ?_) #[true, false, false, false, false, false, false, false, false, false, false, false, false, false, false, false, false, false, false] rfl rfl (any_of HT_.out (by kernel_rfl)) (fun _ _ _ h => h) (Or.inl ⟨by rfl, ?_⟩) ?_ ?_
  rotate_left
  · intro w'
    go_simp
    with_reducible rfl
  rotate_left
  · simp only [Act.put, List.setIfInBounds_toArray, List.set_cons_zero, List.set_cons_succ]
    rfl
  refine pure_ (i := 1) (N := some 7) (v := ?_) (a' := ?_) #[true, true, false, false, false, false, false, false, false, false, false, false, false, false, false, false, false, false, false] rfl rfl (any_of HT_.out (by kernel_rfl)) (fun _ _ _ h => h) (Or.inl ⟨by rfl, ?_⟩) ?_ ?_
  rotate_left
  · intro w'
    go_simp
    with_reducible rfl
  rotate_left
  · simp only [Act.put, List.setIfInBounds_toArray, List.set_cons_zero, List.set_cons_succ]
    rfl
  refine pure_ (i := 2) (N := some 8) (v := ?_) (a' := ?_) #[true, true, true, false, false, false, false, false, false, false, false, false, false, false, false, false, false, false, false] rfl rfl (any_of HT_.out (by kernel_rfl)) (fun _ _ _ h => h) (Or.inl ⟨by rfl, ?_⟩) ?_ ?_
  rotate_left
  · intro w'
    go_simp
    with_reducible rfl
  rotate_left
  · simp only [Act.put, List.setIfInBounds_toArray, List.set_cons_zero, List.set_cons_succ]
    rfl
  refine take_ (i := 3) (N := some 9) (v := ?_) (a' := ?_) #[true, true, true, true, false, false, false, false, false, false, false, false, false, false, false, false, false, false, false] rfl rfl (take_ofW HT_.out HW_.out (by kernel_rfl)) (fun _ _ _ h => h) (Or.inl ⟨by rfl, ?_⟩) hHeld ?_ ?_
  rotate_left
  · rintro w' ⟨s0, s1⟩
    go_simp
    with_reducible rfl
  rotate_left
  · simp only [Act.put, List.setIfInBounds_toArray, List.set_cons_zero, List.set_cons_succ]
    rfl
  refine pure_ (i := 4) (N := some 10) (v := ?_) (a' := ?_) #[true, true, true, true, true, false, false, false, false, false, false, false, false, false, false, false, false, false, false] rfl rfl (any_of HT_.out (by kernel_rfl)) (fun _ _ _ h => h) (Or.inl ⟨by rfl, ?_⟩) ?_ ?_
  rotate_left
  · intro w'
    go_simp
    with_reducible rfl
  rotate_left
  · simp only [Act.put, List.setIfInBounds_toArray, List.set_cons_zero, List.set_cons_succ]
    rfl
  refine pure_ (i := 5) (N := some 11) (v := ?_) (a' := ?_) #[true, true, true, true, true, true, false, false, false, false, false, false, false, false, false, false, false, false, false] rfl rfl (any_of HT_.out (by kernel_rfl)) (fun _ _ _ h => h) (Or.inl ⟨by rfl, ?_⟩) ?_ ?_
  rotate_left
  · intro w'
    go_simp
    with_reducible rfl
  rotate_left
  · simp only [Act.put, List.setIfInBounds_toArray, List.set_cons_zero, List.set_cons_succ]
    rfl
  refine pure_ (i := 6) (N := some 12) (v := ?_) (a' := ?_) #[true, true, true, true, true, true, true, false, false, false, false, false, false, false, false, false, false, false, false] rfl rfl (any_of HT_.out (by kernel_rfl)) (fun _ _ _ h => h) (Or.inl ⟨by rfl, ?_⟩) ?_ ?_
  rotate_left
  · intro w'
    go_simp
    with_reducible rfl
  rotate_left
  · simp only [Act.put, List.setIfInBounds_toArray, List.set_cons_zero, List.set_cons_succ]
    rfl
  refine pure_ (i := 7) (N := some 13) (v := ?_) (a' := ?_) #[true, true, true, true, true, true, true, true, false, false, false, false, false, false, false, false, false, false, false] rfl rfl (any_of HT_.out (by kernel_rfl)) (fun _ _ _ h => h) (Or.inl ⟨by rfl, ?_⟩) ?_ ?_
  rotate_left
  · intro w'
    go_simp
    with_reducible rfl
  rotate_left
  · simp only [Act.put, List.setIfInBounds_toArray, List.set_cons_zero, List.set_cons_succ]
    rfl
  refine pure_ (i := 8) (N := some 14) (v := ?_) (a' := ?_) #[true, true, true, true, true, true, true, true, true, false, false, false, false, false, false, false, false, false, false] rfl rfl (any_of HT_.out (by kernel_rfl)) (fun _ _ _ h => h) (Or.inl ⟨by rfl, ?_⟩) ?_ ?_
  rotate_left
  · intro w'
    go_simp
    with_reducible rfl
  rotate_left
  · simp only [Act.put, List.setIfInBounds_toArray, List.set_cons_zero, List.set_cons_succ]
    rfl
  refine take_ (i := 9) (N := some 15) (v := ?_) (a' := ?_) #[true, true, true, true, true, true, true, true, true, true, false, false, false, false, false, false, false, false, false] rfl rfl (take_ofW HT_.out HW_.out (by kernel_rfl)) (fun _ _ _ h => h) (Or.inl ⟨by rfl, ?_⟩) hHeld ?_ ?_
  rotate_left
  · rintro w' ⟨s0, s1⟩
    go_simp
    with_reducible rfl
  rotate_left
  · simp only [Act.put, List.setIfInBounds_toArray, List.set_cons_zero, List.set_cons_succ]
    rfl
  refine pure_ (i := 10) (N := some 16) (v := ?_) (a' := ?_) #[true, true, true, true, true, true, true, true, true, true, true, false, false, false, false, false, false, false, false] rfl rfl (any_of HT_.out (by kernel_rfl)) (fun _ _ _ h => h) (Or.inl ⟨by rfl, ?_⟩) ?_ ?_
  rotate_left
  · intro w'
    go_simp
    with_reducible rfl
  rotate_left
  · simp only [Act.put, List.setIfInBounds_toArray, List.set_cons_zero, List.set_cons_succ]
    rfl
  refine pure_ (i := 11) (N := some 17) (v := ?_) (a' := ?_) #[true, true, true, true, true, true, true, true, true, true, true, true, false, false, false, false, false, false, false] rfl rfl (any_of HT_.out (by kernel_rfl)) (fun _ _ _ h => h) (Or.inl ⟨by rfl, ?_⟩) ?_ ?_
  rotate_left
  · intro w'
    go_simp
    with_reducible rfl
  rotate_left
  · simp only [Act.put, List.setIfInBounds_toArray, List.set_cons_zero, List.set_cons_succ]
    rfl
  refine pure_ (i := 12) (N := some 18) (v := ?_) (a' := ?_) #[true, true, true, true, true, true, true, true, true, true, true, true, true, false, false, false, false, false, false] rfl rfl (any_of HT_.out (by kernel_rfl)) (fun _ _ _ h => h) (Or.inl ⟨by rfl, ?_⟩) ?_ ?_
  rotate_left
  · intro w'
    go_simp
    with_reducible rfl
  rotate_left
  · simp only [Act.put, List.setIfInBounds_toArray, List.set_cons_zero, List.set_cons_succ]
    rfl
  refine pure_ (i := 13) (N := some 19) (v := ?_) (a' := ?_) #[true, true, true, true, true, true, true, true, true, true, true, true, true, true, false, false, false, false, false] rfl rfl (any_of HT_.out (by kernel_rfl)) (fun _ _ _ h => h) (Or.inl ⟨by rfl, ?_⟩) ?_ ?_
  rotate_left
  · intro w'
    go_simp
    with_reducible rfl
  rotate_left
  · simp only [Act.put, List.setIfInBounds_toArray, List.set_cons_zero, List.set_cons_succ]
    rfl
  refine take_ (i := 14) (N := some 20) (v := ?_) (a' := ?_) #[true, true, true, true, true, true, true, true, true, true, true, true, true, true, true, false, false, false, false] rfl rfl (take_ofW HT_.out HW_.out (by kernel_rfl)) (fun _ _ _ h => h) (Or.inl ⟨by rfl, ?_⟩) hHeld ?_ ?_
  rotate_left
  · rintro w' ⟨s0, s1⟩
    go_simp
    with_reducible rfl
  rotate_left
  · simp only [Act.put, List.setIfInBounds_toArray, List.set_cons_zero, List.set_cons_succ]
    rfl
  refine pure_ (i := 15) (N := some 21) (v := ?_) (a' := ?_) #[true, true, true, true, true, true, true, true, true, true, true, true, true, true, true, true, false, false, false] rfl rfl (any_of HT_.out (by kernel_rfl)) (fun _ _ _ h => h) (Or.inl ⟨by rfl, ?_⟩) ?_ ?_
  rotate_left
  · intro w'
    go_simp
    with_reducible rfl
  rotate_left
  · simp only [Act.put, List.setIfInBounds_toArray, List.set_cons_zero, List.set_cons_succ]
    rfl
  refine pure_ (i := 16) (N := some 22) (v := ?_) (a' := ?_) #[true, true, true, true, true, true, true, true, true, true, true, true, true, true, true, true, true, false, false] rfl rfl (any_of HT_.out (by kernel_rfl)) (fun _ _ _ h => h) (Or.inl ⟨by rfl, ?_⟩) ?_ ?_
  rotate_left
  · intro w'
    go_simp
    with_reducible rfl
  rotate_left
  · simp only [Act.put, List.setIfInBounds_toArray, List.set_cons_zero, List.set_cons_succ]
    rfl
  refine pure_ (i := 17) (N := some 23) (v := ?_) (a' := ?_) #[true, true, true, true, true, true, true, true, true, true, true, true, true, true, true, true, true, true, false] rfl rfl (any_of HT_.out (by kernel_rfl)) (fun _ _ _ h => h) (Or.inl ⟨by rfl, ?_⟩) ?_ ?_
  rotate_left
  · intro w'
    go_simp
    with_reducible rfl
  rotate_left
  · simp only [Act.put, List.setIfInBounds_toArray, List.set_cons_zero, List.set_cons_succ]
    rfl
  refine pure_ (i := 18) (N := some 5) (v := ?_) (a' := ?_) #[true, true, true, true, true, true, true, true, true, true, true, true, true, true, true, true, true, true, true] rfl rfl (any_of HT_.out (by kernel_rfl)) (fun _ _ _ h => h) (Or.inl ⟨by rfl, ?_⟩) ?_ ?_
  rotate_left
  · intro w'
    go_simp
    with_reducible rfl
  rotate_left
  · simp only [Act.put, List.setIfInBounds_toArray, List.set_cons_zero, List.set_cons_succ]
    rfl
  refine done_ (done_of HT_.out (by kernel_rfl)) ?_
  have hc3 : w3d.cell? ⟨g, 0, none⟩ = some (.slice none 0 0) := hHeld.1
  have Hb3 : Hid (Below w.heap.size w w3d) := by rw [← HW3.out]; exact (Below.refl _ _).drew
  have hca : (w3d.alloc (.cells #[] 66)).cell? ⟨g, 0, none⟩ = some (.slice none 0 0) := by rw [World.cell?_alloc_past _ _ _ (Nat.lt_of_lt_of_le HB.out.lt Hb3.out.size)]; exact hc3
  have HO : Hid ((w3d.alloc (.cells #[] 66)).ownsRow w.heap.size 66 33 (.slice (some ⟨w3d.heap.size, 0, none⟩) 0 0) 0 []) := World.ownsRow_lit w3d #[] 0 Hb3.out.size (by unfold maxLen; omega) rfl
  clear HT_ HW_ hHeld
  go_wp2
  go_ret
  have hb1 : Below w.heap.size w (w3d.alloc (.cells #[] 66)) := Hb3.out.alloc Hb3.out.size _
  refine ⟨_, .slice (some ⟨w3d.heap.size, 0, none⟩) 0 0, rfl, ?_, hb1.alloc hb1.size _⟩
  have hq := rcrash_book (es := es) (n := 0) (by simpa [rc] using HO.out) (Nat.zero_le _) hb1 HB.out.ok HB.out.len
  simpa using hq
  case hS0 => exact ⟨hc0, hc1⟩

theorem rcrash_calls (base g : Nat) (v : Value) (es : List (Int × List Int)) (s : Nat) (keep : Int) (w : World) (hB : RefAt w base g v es s) (hs : s ≤ es.length) (nx : Nat) (hn : (nx : Int) = s + min (max keep 0) (es.length - s)) :
    Calls Try.prog 23 #[.pointer (some ⟨g, 0, none⟩), .int .i64 keep] w fun r w' => ∃ g' v', r = .returned (.pointer (some ⟨g', 0, none⟩)) ∧ RefAt w' w.heap.size g' v' (es.take nx) nx ∧ Below w.heap.size w w' := by
  have h100 := hB.len
  obtain ⟨A, c, rfl, _⟩ := ref_reads hB
  have h1 : IntKind.i64.wrap ((es.length : Int) - s) = ((es.length - s : Nat) : Int) := by simp only [IntKind.wrap_i64]; omega
  have h2 : (if ((es.length - s : Nat) : Int) < (if keep < 0 then 0 else keep) then ((es.length - s : Nat) : Int) else (if keep < 0 then 0 else keep)) = ((nx - s : Nat) : Int) := by
    (repeat' split) <;> omega
  have h3 : IntKind.i64.wrap ((s : Int) + ((nx - s : Nat) : Int)) = nx := by simp only [IntKind.wrap_i64]; omega
  cases A with
  | some ad => exact rcrash_some base g ad c _ es s keep w hB rfl _ rfl _ h1 _ h2 _ h3 (by omega)
  | none =>
    have he : es.length = 0 ∧ c = 0 := by
      rcases hB.own.2 with ⟨h, h0⟩ | ⟨g', cap, cur, h, _⟩
      · exact ⟨h0, by simp at h; exact h.2⟩
      · simp at h
    obtain ⟨e1, rfl⟩ := he
    rw [e1] at hB
    have hs0 : s = 0 := by omega
    have hn0 : nx = 0 := by omega
    subst hs0 hn0
    exact rcrash_none base g es keep w hB _ rfl (by (repeat' split) <;> omega)
end Go.Proofs.Ytpnecknillpjkaa.Bk
