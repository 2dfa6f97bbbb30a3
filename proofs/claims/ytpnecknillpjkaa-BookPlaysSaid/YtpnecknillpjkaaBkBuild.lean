import Derived.Test.YtpnecknillpjkaaBkClone
import Derived.Laws.Tables
import Derived.Great.BuildSlice
namespace Go.Proofs.Ytpnecknillpjkaa.Bk
open Go.RowKit

theorem list32 (p : List Int) (h : p.length = 32) : ∃ a0 a1 a2 a3 a4 a5 a6 a7 a8 a9 a10 a11 a12 a13 a14 a15 a16 a17 a18 a19 a20 a21 a22 a23 a24 a25 a26 a27 a28 a29 a30 a31 : Int, p = [a0, a1, a2, a3, a4, a5, a6, a7, a8, a9, a10, a11, a12, a13, a14, a15, a16, a17, a18, a19, a20, a21, a22, a23, a24, a25, a26, a27, a28, a29, a30, a31] := by
  match p, h with
  | [a0, a1, a2, a3, a4, a5, a6, a7, a8, a9, a10, a11, a12, a13, a14, a15, a16, a17, a18, a19, a20, a21, a22, a23, a24, a25, a26, a27, a28, a29, a30, a31], _ => exact ⟨_, _, _, _, _, _, _, _, _, _, _, _, _, _, _, _, _, _, _, _, _, _, _, _, _, _, _, _, _, _, _, _, rfl⟩

theorem built59_at (e : Int) (a0 a1 a2 a3 a4 a5 a6 a7 a8 a9 a10 a11 a12 a13 a14 a15 a16 a17 a18 a19 a20 a21 a22 a23 a24 a25 a26 a27 a28 a29 a30 a31 : Int) : Try.prog.built 59 [(0, .int .i64 e), (1, .agg (papA [a0, a1, a2, a3, a4, a5, a6, a7, a8, a9, a10, a11, a12, a13, a14, a15, a16, a17, a18, a19, a20, a21, a22, a23, a24, a25, a26, a27, a28, a29, a30, a31]))] = some (enA (e, [a0, a1, a2, a3, a4, a5, a6, a7, a8, a9, a10, a11, a12, a13, a14, a15, a16, a17, a18, a19, a20, a21, a22, a23, a24, a25, a26, a27, a28, a29, a30, a31])) := by kernel_rfl
theorem run_build59 (e : Int) (p : List Int) (hp : p.length = 32) (w : World) : (Instr.build 59 #[(0, .int .i64 e), (1, .agg (papA p))]).run Try.prog w = .ok (.agg (enA (e, p))) w := by
  obtain ⟨a0, a1, a2, a3, a4, a5, a6, a7, a8, a9, a10, a11, a12, a13, a14, a15, a16, a17, a18, a19, a20, a21, a22, a23, a24, a25, a26, a27, a28, a29, a30, a31, rfl⟩ := list32 p hp
  exact run_build w 59 _ _ (built59_at e _ _ _ _ _ _ _ _ _ _ _ _ _ _ _ _ _ _ _ _ _ _ _ _ _ _ _ _ _ _ _ _)

theorem fill59_at (e : Int) (a0 a1 a2 a3 a4 a5 a6 a7 a8 a9 a10 a11 a12 a13 a14 a15 a16 a17 a18 a19 a20 a21 a22 a23 a24 a25 a26 a27 a28 a29 a30 a31 : Int) : Instr.fill (fun i => some (i * 33, 33)) ((Array.range (1 * 33)).map ((Value.agg (enA (0, zeros))).cells[· % (Value.agg (enA (0, zeros))).cells.size]!)) [(0, .agg (enA (e, [a0, a1, a2, a3, a4, a5, a6, a7, a8, a9, a10, a11, a12, a13, a14, a15, a16, a17, a18, a19, a20, a21, a22, a23, a24, a25, a26, a27, a28, a29, a30, a31])))] = some (enA (e, [a0, a1, a2, a3, a4, a5, a6, a7, a8, a9, a10, a11, a12, a13, a14, a15, a16, a17, a18, a19, a20, a21, a22, a23, a24, a25, a26, a27, a28, a29, a30, a31])) := by kernel_rfl
theorem run_bs59 (x : Int × List Int) (hp : x.2.length = 32) (w : World) : (Instr.buildSlice 50 1 #[(0, .agg (enA x))]).run Try.prog w = .ok (.slice (some ⟨w.heap.size, 0, none⟩) 1 1) (w.alloc (.cells (enA x) 59)) := by
  obtain ⟨e, p⟩ := x
  obtain ⟨a0, a1, a2, a3, a4, a5, a6, a7, a8, a9, a10, a11, a12, a13, a14, a15, a16, a17, a18, a19, a20, a21, a22, a23, a24, a25, a26, a27, a28, a29, a30, a31, rfl⟩ := list32 p hp
  obtain ⟨i, hi, hz, hs, _⟩ := info_parts59
  refine run_buildSlice w 50 59 1 _ _ i (.agg (enA (0, zeros))) Try.underlying50 hi hz (by rw [hs]; decide) (by rw [hs]; decide) ?_
  rw [hs]
  exact fill59_at e _ _ _ _ _ _ _ _ _ _ _ _ _ _ _ _ _ _ _ _ _ _ _ _ _ _ _ _ _ _ _ _
/-- A paper out of its thirty-two numbers: no length is to be shown. -/
def mkP (f : Fin 32 → Int) : List Int := List.ofFn f
theorem mkP_len (f : Fin 32 → Int) : (mkP f).length = 32 := by simp only [mkP, List.length_ofFn]
theorem mkP_of (p : List Int) (h : p.length = 32) : ∃ f, p = mkP f := ⟨fun i => p[i.1]'(by omega), by
  apply List.ext_getElem
  · rw [mkP_len, h]
  · intro i h1 h2
    simp only [mkP, List.getElem_ofFn]⟩
theorem run_build59' (e : Int) (f : Fin 32 → Int) (w : World) : (Instr.build 59 #[(0, .int .i64 e), (1, .agg (pc (mkP f)).toArray)]).run Try.prog w = .ok (.agg (enA (e, mkP f))) w := run_build59 e _ (mkP_len f) w
theorem run_bs59' (e : Int) (f : Fin 32 → Int) (w : World) : (Instr.buildSlice 50 1 #[(0, .agg (enA (e, mkP f)))]).run Try.prog w = .ok (.slice (some ⟨w.heap.size, 0, none⟩) 1 1) (w.alloc (.cells (enA (e, mkP f)) 59)) := run_bs59 (e, mkP f) (mkP_len f) w
end Go.Proofs.Ytpnecknillpjkaa.Bk
