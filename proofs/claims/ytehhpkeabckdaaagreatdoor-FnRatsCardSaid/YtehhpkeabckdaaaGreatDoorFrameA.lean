/- Joined: Prog2, Frame, FrameB, FrameR, FrameP. -/
import Derived.Test.YtehhpkeabckdaaaGreatDoorRows
import Derived.JoinedOf
import Derived.KernelRfl
import Derived.Test.YtehhpkeabckdaaaGreatDoorK1
import Derived.ProofKit
import Derived.OpenShut
import Derived.ShutString
import Derived.ChangeOld
import Derived.Below
namespace Go.Proofs.YtehhpkeabckdaaaGreatDoor
set_option linter.unusedVariables false
set_option linter.unusedSimpArgs false
section

def ioMain : List Nat := [104, 97, 114, 110, 101, 115, 115]
def ioSum : List Nat := [50, 97, 49, 53, 53, 57, 56, 57, 54, 51, 50, 56, 51, 98, 48, 55, 55, 49, 50, 56, 51, 52, 49, 48, 49, 55, 57, 101, 50, 51, 54, 102, 52, 97, 101, 98, 98, 100, 57, 54, 54, 101, 100, 98, 100, 56, 51, 48, 50, 54, 56, 57, 101, 56, 57, 97, 56, 51, 102, 56, 52, 50, 52, 51]
def ioCut : List Nat := [99, 117, 116]
def ioRest : List Nat := [97, 116, 32, 108, 111, 111, 112, 46, 101, 120, 97, 109, 112, 108, 101, 47, 103, 48, 48, 56, 49, 50, 47, 108, 97, 119, 115, 46, 70, 110, 82, 97, 116, 115]
def chars (l : List Nat) : List Char := l.map Char.ofNat
theorem toNat_ofNat {c : Nat} (h : c < 128) : (Char.ofNat c).toNat = c := by
  have : Nat.isValidChar c := by left; omega
  simp [Char.ofNat, this, Char.toNat, Char.ofNatAux]
theorem ofNat_ne {c : Nat} (h : c < 128) (hc : c ≠ 32) : Char.ofNat c ≠ Char.ofNat 32 := by
  intro e
  have h2 := congrArg Char.toNat e
  rw [toNat_ofNat h] at h2
  exact hc h2
theorem words_word (l : List Nat) (r : List Char) (h : l.all (fun c => Nat.blt c 128 && !(Nat.beq c 32)) = true) : wordsSigns (chars l ++ Char.ofNat 32 :: r) = chars l :: wordsSigns r := by
  induction l with
  | nil => rfl
  | cons c q ih =>
    simp only [List.all_cons, Bool.and_eq_true, Nat.blt_eq, Bool.not_eq_true'] at h
    have ih := ih h.2
    unfold chars at *
    rw [List.map_cons, List.cons_append, wordsSigns.eq_3 _ _ (fun e => ofNat_ne h.1.1 (Nat.ne_of_beq_eq_false h.1.2) e), ih]
theorem isSum_map (l : List Nat) (h : l.all (fun c => decide (c < 128)) = true) (h2 : (l.length == 64 && l.all fun c => (Nat.ble 48 c && Nat.ble c 57) || (Nat.ble 97 c && Nat.ble c 102)) = true) : isSumSigns (chars l) = true := by
  unfold isSumSigns chars
  simp only [Bool.and_eq_true, List.all_eq_true, List.length_map, List.mem_map, forall_exists_index, and_imp, forall_apply_eq_imp_iff₂, Bool.or_eq_true, decide_eq_true_eq, Nat.ble_eq] at *
  refine ⟨h2.1, fun c hc => ?_⟩
  have e := toNat_ofNat (h c hc)
  have := h2.2 c hc
  have k1 : ((48 : Nat) ≤ c ↔ Char.ofNat 48 ≤ Char.ofNat c) := by rw [Char.le_def, UInt32.le_iff_toNat_le]; show _ ↔ 48 ≤ (Char.ofNat c).toNat; rw [e]
  have k2 : (c ≤ 57 ↔ Char.ofNat c ≤ Char.ofNat 57) := by rw [Char.le_def, UInt32.le_iff_toNat_le]; show _ ↔ (Char.ofNat c).toNat ≤ 57; rw [e]
  have k3 : ((97 : Nat) ≤ c ↔ Char.ofNat 97 ≤ Char.ofNat c) := by rw [Char.le_def, UInt32.le_iff_toNat_le]; show _ ↔ 97 ≤ (Char.ofNat c).toNat; rw [e]
  have k4 : (c ≤ 102 ↔ Char.ofNat c ≤ Char.ofNat 102) := by rw [Char.le_def, UInt32.le_iff_toNat_le]; show _ ↔ (Char.ofNat c).toNat ≤ 102; rw [e]
  rw [k1, k2, k3, k4] at this
  exact this
theorem io_eq : Tryz.prog.initOrder = String.ofList (chars ioMain ++ Char.ofNat 32 :: (chars ioSum ++ Char.ofNat 32 :: (chars ioCut ++ Char.ofNat 32 :: chars ioRest))) := by
  unfold Tryz.prog Tryz.progTables
  simp only []
  kernel_rfl
theorem bm : behindMainWord (wordsSigns Tryz.prog.initOrder.toList) = chars ioCut :: wordsSigns (chars ioRest) := by
  rw [io_eq, String.toList_ofList, words_word _ _ (by kernel_rfl), words_word _ _ (by kernel_rfl), words_word _ _ (by kernel_rfl)]
  simp only [behindMainWord]
  rw [isSum_map _ (by kernel_rfl) (by kernel_rfl), if_pos (by kernel_rfl)]
theorem make_of {P : Program} {R : List (List Char)} (h : behindMainWord (wordsSigns P.initOrder.toList) = chars ioCut :: R) : P.make = some .cut := by
  have h2 : ∀ L : List String, (match chars ioCut :: R with
    | c :: rest => if c == "gc".toList || c == "spec".toList then some Make.whole else if c == "cut".toList || (c == "finals".toList && rest.head? == some "cut".toList) then some .cut else if c == "carried".toList then some .carried else if L.isEmpty then none else some (.lifted L)
    | [] => none) = some .cut := fun L => by kernel_rfl
  unfold Program.make
  rw [h]
  exact h2 _
theorem strip_of (R : List (List Char)) : stripLifts liftWords (chars ioCut :: R) = ([], chars ioCut :: R) := by kernel_rfl
theorem lifts_of {P : Program} {R : List (List Char)} (h : behindMainWord (wordsSigns P.initOrder.toList) = chars ioCut :: R) : P.headLifts = [] := by
  have h2 : (if (chars ioCut :: R).head? == some "cut".toList then ([] : List String) else []) = [] := by split <;> rfl
  unfold Program.headLifts
  rw [h, strip_of]
  exact h2
theorem final_of {P : Program} {R : List (List Char)} (h : behindMainWord (wordsSigns P.initOrder.toList) = chars ioCut :: R) : P.liftsFinal = false := by
  have h2 : (((chars ioCut :: R).head? == some "carried".toList && (chars ioCut :: R).take 3 != ["carried".toList, "gc".toList, "cut".toList]) || ([] : List String).contains "finals") = false := by kernel_rfl
  unfold Program.liftsFinal
  rw [lifts_of h]
  simp only [h]
  exact h2
theorem enter_of {P : Program} {R : List (List Char)} (h : behindMainWord (wordsSigns P.initOrder.toList) = chars ioCut :: R) (h3 : (!P.laysLater && !P.bearsReflect && P.doorFits []) = true) : P.mayEnter = true := by
  unfold Program.mayEnter
  rw [h]
  simp only [strip_of]
  simp only [Bool.and_eq_true] at h3
  have e : ((chars ioCut :: R).head? == some "cut".toList) = true := by kernel_rfl
  rw [e, h3.1.1, h3.1.2, h3.2]
  simp
theorem make_cut : (Tryz.prog.make == some .cut) = true := by rw [make_of bm]; rfl
theorem lifts_final : (false == Tryz.prog.liftsFinal) = true := by rw [final_of bm]; rfl
theorem may_enter : Tryz.prog.mayEnter = true := enter_of bm (by kernel_rfl)

/-- A row's closed facts, out of those of the program alone and those that speak of the row. -/
theorem closed_ofP {P : Program} (k1 : P.mayEnter = true) (k2 : (P.make == some .cut) = true) (k3 : (false == P.liftsFinal) = true) (f : FuncId) (fn : Func) (s : ChangeSpec) (c : OpenClaim) (h0 : (laidOutB P && mapsRowed P && (P.stops == []) && (P.stopKnobs == []) && P.stopsHeard) = true)
    (h1 : (c.wf (OpenSpec.ofChange s) && fn.params.all (P.readableRec ·) && namedTie P c.named s.vars && (c.stops == []) && (c.knobs == []) &&
      (c.inPlace == P.inPlace f) && (c.unfollowed == P.unfollowed f) && (c.recurses == P.recurses f) && (c.named == P.varsNamed f) &&
      (c.maps == (fn.params.toList ++ s.plain.varTypes P).any (P.mapsRec ·)) && (c.ifaces == (fn.params.toList ++ s.plain.varTypes P).any (P.ifacesRec ·)) && (c.mapsOut == P.mapsAmong fn.resultTypes.toList) &&
      (c.loops == (fn.params.toList ++ s.plain.varTypes P).any (P.loopsFrom ·)) && (c.wideKeys == (fn.params.toList ++ s.plain.varTypes P ++ fn.resultTypes.toList).any (P.wideKeysFrom ·)) &&
      s.vars.all (P.varReadable ·) && fn.resultTypes.all (fun t => P.readableRec t && decide (t < P.types.size)) && (c.ifacesOut == fn.resultTypes.toList.any (P.ifacesRec ·)) && (c.loopsOut == fn.resultTypes.toList.any (P.loopsFrom ·)) && (c.plainKeys == P.plainKeys) && c.shortTexts.isNone && (c.kinds == (if c.domain.isEmpty then [] else fn.params.toList.map fun t => match P.underlying t with | some (.int k) => some k | _ => none)) && (c.pinned == c.pinnedBy) &&
      (c.veiled == (fn.params.toList ++ s.plain.varTypes P ++ fn.resultTypes.toList).any (P.veiledRec ·)) && c.veiledFits P fn.params.toList (fn.params.toList ++ s.plain.varTypes P ++ fn.resultTypes.toList)) = true)
    (h2 : c.lifted = false) (h3 : c.make = .cut) : joinedFacts P f fn s c = true := by
  unfold joinedFacts
  rw [h2, h3]
  simp only [Bool.and_eq_true] at h0 h1 ⊢
  obtain ⟨⟨⟨⟨a1, a2⟩, a3⟩, a4⟩, a5⟩ := h0
  obtain ⟨⟨⟨⟨⟨⟨⟨⟨⟨⟨⟨⟨⟨⟨⟨⟨⟨⟨⟨⟨⟨⟨⟨b1, b2⟩, b3⟩, b4⟩, b5⟩, b6⟩, b7⟩, b8⟩, b9⟩, b10⟩, b11⟩, b12⟩, b13⟩, b14⟩, b15⟩, b16⟩, b17⟩, b18⟩, b19⟩, b20⟩, b21⟩, b22⟩, b23⟩, b24⟩ := h1
  exact ⟨⟨⟨⟨⟨⟨⟨⟨⟨⟨⟨⟨⟨⟨⟨⟨⟨⟨⟨⟨⟨⟨⟨⟨⟨⟨⟨⟨⟨⟨⟨b1, a1⟩, a2⟩, b2⟩, b3⟩, b4⟩, a3⟩, b5⟩, a4⟩, b6⟩, b7⟩, b8⟩, b9⟩, b10⟩, b11⟩, b12⟩, b13⟩, b14⟩, b15⟩, b16⟩, b17⟩, b18⟩, b19⟩, b20⟩, a5⟩, k1⟩, k3⟩, k2⟩, b21⟩, b22⟩, b23⟩, b24⟩
theorem prog_facts : (laidOutB Tryz.prog && mapsRowed Tryz.prog && (Tryz.prog.stops == []) && (Tryz.prog.stopKnobs == []) && Tryz.prog.stopsHeard) = true := by kernel_rfl
end
section
open Go.ChangeShapes Go.WideShapes Go.ChangeAt Go.RowKit
open Go.ChangeMaps (open_string shut_string)

set_option maxRecDepth 100000 in
theorem Tryz.own : ownKnob Tryz.prog.godebug = none := by kernel_rfl
set_option maxRecDepth 100000 in
theorem Tryz.laidOut : laidOutB Tryz.prog = true := by kernel_rfl

set_option maxRecDepth 100000 in
theorem in64_of_wf {n : Int} (h : (Lit.int .i64 n).wf = true) : In64 n := bounds_i64 h

section
variable {H : Type} {enc : TypeId × Value → H} {W : World} {spare : Nat → Bool} {held : Bool}

/-- A slice of ints that came in, by the reading of its cell. -/
theorem ints_of_trod {b0 : Nat} {fuel : Nat} {v : Value} {x : DataW H × List MemPlace} (hf : DataW.trod enc Tryz.prog W b0 (fun _ => true) held fuel 23 [v] = some x) :
    ∃ a cap xs, v = .slice a (List.length xs) cap ∧ IntsAt W a cap xs := by
  rcases open_ints Tryz.underlying23 Tryz.underlying3 (by kernel_rfl) hf with ⟨hcs, _⟩ | ⟨a, l, c, zs, hcs, _, hl, hm, hz, _, hcell, hwz⟩
  · simp at hcs
    exact ⟨none, 0, [], by simp [hcs], IntsAt.nil _⟩
  · simp at hcs hz
    have hlen : (zs.take l).length = l := by simp; omega
    refine ⟨some a, c, zs.take l, by rw [hlen, hcs], fun n hn => in64_of_wf (hwz n (List.mem_of_mem_take hn)), by rw [hlen]; exact hl, hm, (fun h => by cases h), ?_⟩
    by_cases h0 : l = 0
    · left; simp [h0]
    · right
      obtain ⟨b, off, rfl, hc⟩ := ints_at hcell (by omega)
      refine ⟨b, off, rfl, World.block_lt_of_cell? W _ (hc 0 (by omega)), fun j hj => ?_⟩
      rw [hlen] at hj
      rw [hc j (by omega)]
      simp [hj]

set_option maxRecDepth 100000 in
theorem ints_of_arg {v : Value} {d : DataW H} {p : List MemPlace} {r : Reach} {b1 : Nat} (hv : Value.okWide Tryz.prog W r b1 23 v) (h : DataW.Trod enc Tryz.prog W 0 (fun _ => true) held 23 v d p) :
    ∃ a cap xs, v = .slice a (List.length xs) cap ∧ IntsAt W a cap xs := by
  obtain ⟨a0, len0, cap0, rfl⟩ := okWide_slice Tryz.underlying23 hv
  obtain ⟨fuel, hf⟩ := h
  exact ints_of_trod hf
end
end
section
open Go.ChangeShapes Go.WideShapes Go.ChangeAt Go.RowKit
section
variable {H : Type} {enc : TypeId × Value → H} {W : World} {spare : Nat → Bool} {held : Bool}
set_option maxRecDepth 100000 in
theorem cellsBool : Tryz.prog.cellsOf 4 = 1 := by kernel_rfl
set_option maxRecDepth 100000 in
theorem cellsInts : Tryz.prog.cellsOf 23 = 1 := by kernel_rfl
end
end
section
open Go.ChangeShapes Go.WideShapes Go.ChangeAt Go.RowKit
section
variable {H : Type} {enc : TypeId × Value → H} {W : World} {spare : Nat → Bool} {held : Bool}
end
end
section
open Go.ChangeShapes Go.WideShapes Go.ChangeAt Go.RowKit
section
variable {H : Type} {enc : TypeId × Value → H} {W : World} {spare : Nat → Bool} {held : Bool}
end
end
end Go.Proofs.YtehhpkeabckdaaaGreatDoor
