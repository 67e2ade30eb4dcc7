/- A point that came in, opened. -/
import Derived.Test.YtcbamiablkbeoaaFrameR
namespace Go.Proofs.Ytcbamiablkbeoaa
set_option linter.unusedVariables false
set_option linter.unusedSimpArgs false
open Go.ChangeShapes Go.WideShapes Go.ChangeAt Go.RowKit
section
variable {H : Type} {enc : TypeId × Value → H} {W : World} {spare : Nat → Bool} {held : Bool}
theorem cellsPoint : Try.prog.cellsOf 45 = 6 := by kernel_rfl

theorem point_of_arg {v : Value} {d : DataW H} {p : List MemPlace} {r : Reach} {b1 : Nat} (hv : Value.okWide Try.prog W r b1 45 v) (h : DataW.Trod enc Try.prog W 0 (fun _ => true) held 45 v d p) :
    ∃ n a c xs a2 c2 ds n' a3 c3 ys a4 c4 es, v = .agg #[.bool n, .slice a (List.length xs) c, .slice a2 (List.length ds) c2, .bool n', .slice a3 (List.length ys) c3, .slice a4 (List.length es) c4] ∧ IntsAt W a c xs ∧ IntsAt W a2 c2 ds ∧ IntsAt W a3 c3 ys ∧ IntsAt W a4 c4 es := by
  obtain ⟨cs, rfl, hsz⟩ := okWide_struct Try.underlying45 hv
  obtain ⟨fuel, hf⟩ := h
  obtain ⟨y0, y1, m, _, hl, h0, h1⟩ := trod_struct2 Try.underlying45 hf
  rw [cellsPoint] at hl
  obtain ⟨cs⟩ := cs
  simp only [Value.cells] at hl h0 h1
  match cs, hl with
  | [c0, c1, c2, c3, c4, c5], _ =>
    simp only [cellsRat] at h0 h1
    obtain ⟨n, a, c, xs, a2, d2, ds, e, hi, hi2⟩ := rat_of_trod (cs := [c0, c1, c2]) (by simpa using h0)
    obtain ⟨n', a3, d3, ys, a4, d4, es, e', hi3, hi4⟩ := rat_of_trod (cs := [c3, c4, c5]) (by simpa using h1)
    simp only [List.cons.injEq, and_true] at e e'
    exact ⟨n, a, c, xs, a2, d2, ds, n', a3, d3, ys, a4, d4, es, by rw [e.1, e.2.1, e.2.2, e'.1, e'.2.1, e'.2.2], hi, hi2, hi3, hi4⟩
end
end Go.Proofs.Ytcbamiablkbeoaa
