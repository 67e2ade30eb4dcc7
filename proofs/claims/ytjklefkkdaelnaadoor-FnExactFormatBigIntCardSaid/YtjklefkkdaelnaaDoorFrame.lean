/- What every law's row wants: its arguments opened. -/
import Derived.Test.YtjklefkkdaelnaaDoorBase
import Derived.Test.YtjklefkkdaelnaaDoorProg2
import Derived.ProofKit
import Derived.OpenShut
import Derived.ShutString
import Derived.ChangeOld
import Derived.Below
namespace Go.Proofs.YtjklefkkdaelnaaDoor
set_option linter.unusedVariables false
set_option linter.unusedSimpArgs false
open Go.ChangeShapes Go.WideShapes Go.ChangeAt Go.RowKit
open Go.ChangeMaps (open_string shut_string)

set_option maxRecDepth 100000 in
theorem Tryd.own : ownKnob Tryd.prog.godebug = none := by kernel_rfl
set_option maxRecDepth 100000 in
theorem Tryd.laidOut : laidOutB Tryd.prog = true := by kernel_rfl

set_option maxRecDepth 100000 in
theorem in64_of_wf {n : Int} (h : (Lit.int .i64 n).wf = true) : In64 n := bounds_i64 h

section
variable {H : Type} {enc : TypeId × Value → H} {W : World} {spare : Nat → Bool} {held : Bool}

/-- A slice of ints that came in, by the reading of its cell. -/
theorem ints_of_trod {b0 : Nat} {fuel : Nat} {v : Value} {x : DataW H × List MemPlace} (hf : DataW.trod enc Tryd.prog W b0 (fun _ => true) held fuel 27 [v] = some x) :
    ∃ a cap xs, v = .slice a (List.length xs) cap ∧ IntsAt W a cap xs := by
  rcases open_ints Tryd.underlying27 Tryd.underlying3 (by kernel_rfl) hf with ⟨hcs, _⟩ | ⟨a, l, c, zs, hcs, _, hl, hm, hz, _, hcell, hwz⟩
  · simp at hcs
    exact ⟨none, 0, [], by simp [hcs], IntsAt.nil _⟩
  · simp at hcs hz
    have hlen : (zs.take l).length = l := by simp; omega
    refine ⟨some a, c, zs.take l, by rw [hlen, hcs], fun n hn => in64_of_wf (hwz n (List.mem_of_mem_take hn)), by rw [hlen]; exact hl, hm, (fun h => by cases h), ?_⟩
    by_cases h0 : l = 0
    · left; simp [h0]
    · right
      obtain ⟨b, off, rfl, hc⟩ := ints_at hcell (by omega)
      refine ⟨b, off, rfl, World.block_lt_of_cell? W _ (hc 0 (by omega)), fun j hj => ?_⟩
      rw [hlen] at hj
      rw [hc j (by omega)]
      simp [hj]

set_option maxRecDepth 100000 in
theorem ints_of_arg {v : Value} {d : DataW H} {p : List MemPlace} {r : Reach} {b1 : Nat} (hv : Value.okWide Tryd.prog W r b1 27 v) (h : DataW.Trod enc Tryd.prog W 0 (fun _ => true) held 27 v d p) :
    ∃ a cap xs, v = .slice a (List.length xs) cap ∧ IntsAt W a cap xs := by
  obtain ⟨a0, len0, cap0, rfl⟩ := okWide_slice Tryd.underlying27 hv
  obtain ⟨fuel, hf⟩ := h
  exact ints_of_trod hf
end
end Go.Proofs.YtjklefkkdaelnaaDoor
