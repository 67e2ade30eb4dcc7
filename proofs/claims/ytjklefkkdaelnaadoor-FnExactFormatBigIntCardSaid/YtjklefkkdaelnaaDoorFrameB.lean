/- A BigInt that came in, opened. -/
import Derived.Test.YtjklefkkdaelnaaDoorFrame
namespace Go.Proofs.YtjklefkkdaelnaaDoor
set_option linter.unusedVariables false
set_option linter.unusedSimpArgs false
open Go.ChangeShapes Go.WideShapes Go.ChangeAt Go.RowKit
section
variable {H : Type} {enc : TypeId × Value → H} {W : World} {spare : Nat → Bool} {held : Bool}
set_option maxRecDepth 100000 in
theorem cellsBool : Tryd.prog.cellsOf 4 = 1 := by kernel_rfl
set_option maxRecDepth 100000 in
theorem cellsInts : Tryd.prog.cellsOf 27 = 1 := by kernel_rfl
set_option maxRecDepth 100000 in
theorem cellsBig : Tryd.prog.cellsOf 36 = 2 := by kernel_rfl

set_option maxRecDepth 100000 in
theorem bigInt_of_trod {b0 : Nat} {fuel : Nat} {cs : List Value} {x : DataW H × List MemPlace} (hf : DataW.trod enc Tryd.prog W b0 (fun _ => true) held fuel 36 cs = some x) :
    ∃ n a c xs, cs = [.bool n, .slice a (List.length xs) c] ∧ IntsAt W a c xs := by
  obtain ⟨y0, y1, m, _, hl, h0, h1⟩ := trod_struct2 Tryd.underlying36 hf
  rw [cellsBig] at hl
  match cs, hl with
  | [c0, c1], _ =>
    simp only [cellsBool, cellsInts] at h0 h1
    obtain ⟨n, hb, _⟩ := DataW.trod_bool Tryd.underlying4 h0
    obtain ⟨a, c, xs, hv, hi⟩ := ints_of_trod (v := c1) (by simpa using h1)
    have hb' : c0 = .bool n := by simpa using hb
    exact ⟨n, a, c, xs, by rw [hb', hv], hi⟩

set_option maxRecDepth 100000 in
theorem bigInt_of_arg {v : Value} {d : DataW H} {p : List MemPlace} {r : Reach} {b1 : Nat} (hv : Value.okWide Tryd.prog W r b1 36 v) (h : DataW.Trod enc Tryd.prog W 0 (fun _ => true) held 36 v d p) :
    ∃ n a c xs, v = .agg #[.bool n, .slice a (List.length xs) c] ∧ IntsAt W a c xs := by
  obtain ⟨cs, rfl, hsz⟩ := okWide_struct Tryd.underlying36 hv
  obtain ⟨fuel, hf⟩ := h
  obtain ⟨n, a, c, xs, e, hi⟩ := bigInt_of_trod hf
  refine ⟨n, a, c, xs, ?_, hi⟩
  have : cs = #[.bool n, .slice a (List.length xs) c] := by
    cases cs; simp only [Value.cells] at e; subst e; rfl
  rw [this]
end
end Go.Proofs.YtjklefkkdaelnaaDoor
