/- A fraction that came in, opened. -/
import Derived.Test.YtlpnhcoaidmiiaaFrameB
namespace Go.Proofs.Ytlpnhcoaidmiiaa
set_option linter.unusedVariables false
set_option linter.unusedSimpArgs false
open Go.ChangeShapes Go.WideShapes Go.ChangeAt Go.RowKit
section
variable {H : Type} {enc : TypeId × Value → H} {W : World} {spare : Nat → Bool} {held : Bool}
set_option maxRecDepth 100000 in
theorem cellsRat : Try.prog.cellsOf 39 = 3 := by kernel_rfl

set_option maxRecDepth 100000 in
theorem rat_of_trod {b0 : Nat} {fuel : Nat} {cs : List Value} {x : DataW H × List MemPlace} (hf : DataW.trod enc Try.prog W b0 (fun _ => true) held fuel 39 cs = some x) :
    ∃ n a c xs a2 c2 ds, cs = [.bool n, .slice a (List.length xs) c, .slice a2 (List.length ds) c2] ∧ IntsAt W a c xs ∧ IntsAt W a2 c2 ds := by
  obtain ⟨y0, y1, m, _, hl, h0, h1⟩ := trod_struct2 Try.underlying39 hf
  rw [cellsRat] at hl
  match cs, hl with
  | [c0, c1, c2], _ =>
    simp only [cellsBig, cellsInts] at h0 h1
    obtain ⟨n, a, c, xs, e, hi⟩ := bigInt_of_trod (cs := [c0, c1]) (by simpa using h0)
    obtain ⟨a2, c2', ds, hv, hi2⟩ := ints_of_trod (v := c2) (by simpa using h1)
    simp only [List.cons.injEq, and_true] at e
    exact ⟨n, a, c, xs, a2, c2', ds, by rw [e.1, e.2, hv], hi, hi2⟩

set_option maxRecDepth 100000 in
theorem rat_of_arg {v : Value} {d : DataW H} {p : List MemPlace} {r : Reach} {b1 : Nat} (hv : Value.okWide Try.prog W r b1 39 v) (h : DataW.Trod enc Try.prog W 0 (fun _ => true) held 39 v d p) :
    ∃ n a c xs a2 c2 ds, v = .agg #[.bool n, .slice a (List.length xs) c, .slice a2 (List.length ds) c2] ∧ IntsAt W a c xs ∧ IntsAt W a2 c2 ds := by
  obtain ⟨cs, rfl, hsz⟩ := okWide_struct Try.underlying39 hv
  obtain ⟨fuel, hf⟩ := h
  obtain ⟨n, a, c, xs, a2, c2, ds, e, hi, hi2⟩ := rat_of_trod hf
  refine ⟨n, a, c, xs, a2, c2, ds, ?_, hi, hi2⟩
  have : cs = #[.bool n, .slice a (List.length xs) c, .slice a2 (List.length ds) c2] := by
    cases cs; simp only [Value.cells] at e; subst e; rfl
  rw [this]
end
end Go.Proofs.Ytlpnhcoaidmiiaa
