/- ParseInt: the program. -/
import Derived.Test.YtjklefkkdaelnaaDoorPInt
import Derived.Lib.AtoiErrMem
namespace Go.Proofs.YtjklefkkdaelnaaDoor
set_option linter.unusedVariables false
set_option linter.unusedSimpArgs false
open Go.RowKit
/-- a variable that holds an error -/
def ErrVar (w : World) (n : String) : Prop := ∃ (tp : TypeId) (p : Value), w.var? Tryd.prog n = some #[.iface tp p]
theorem var_below {w w' : World} {n : String} {cs : Array Value} (h : w.var? Tryd.prog n = some cs) (b : Below w.heap.size w w') : w'.var? Tryd.prog n = some cs := by
  unfold World.var? at *
  rcases hg : Tryd.prog.globalNamed n with _ | g
  · simp [hg] at h
  · simp only [hg, Option.bind_some] at h ⊢
    have hlt : g < w.heap.size := by
      rcases Nat.lt_or_ge g w.heap.size with h' | h'
      · exact h'
      · rw [Array.getElem?_eq_none h'] at h; cases h
    rw [b.block g hlt]
    exact h
theorem ErrVar.below {w w' : World} {n : String} (h : ErrVar w n) (b : Below w.heap.size w w') : ErrVar w' n := by
  obtain ⟨tp, p, h⟩ := h
  exact ⟨tp, p, var_below h b⟩
set_option maxRecDepth 100000 in
set_option maxHeartbeats 1000000 in
theorem implParseInt_any (s : ByteArray) (w : World) (hs : s.size ≤ 1048576) (htab : Tab w) (hsy : ErrVar w "strconv.ErrSyntax") (hrg : ErrVar w "strconv.ErrRange") :
    Calls Tryd.prog 32 #[.string s] w fun e w' => e = .returned (.tuple #[.int .i64 (piV s), .bool (piOk s)]) ∧ Below w.heap.size w w' := by
  have HT := Lib.hid htab
  have HS := Lib.hid hsy
  have HR := Lib.hid hrg
  clear htab hsy hrg
  cases hA : Lib.atoiAll s.data.toList with
  | ok v =>
    have hv : In64 v := by unfold In64; exact Lib.atoiAll_bounds hA
    have HV := Lib.hid hv
    have HA := Lib.hid hA
    clear hv hA
    go_enter Tryd.func32, Tryd.ntmps32
    go_wp2_with fail
    refine (Tryd.strconv_Atoi_ok s (by omega) v HA.out _).mono ?_
    rintro e W1 ⟨rfl, hW⟩
    have HB1 : Hid (Below w.heap.size w W1) := by
      rcases hW with rfl | ⟨t, rfl⟩
      · exact Below.refl _ _
      · exact Lib.bytesWorld_below _ _ _
    clear hW
    go_wp2_with fail
    refine (implFormatInt_any v _ HV.out (tabB HT.out HB1.out)).mono ?_
    rintro e W3 ⟨rfl, b3⟩
    have HB3 := Lib.hid (bstep HB1.out b3)
    clear b3
    by_cases he : itoaB v = s
    · have HK := Lib.hid (atoi_same HA.out he)
      rw [he]
      clear he
      go_wp2
      go_ret2
      rw [pi_yes HK.out.1, HK.out.1, HK.out.2]
      exact ⟨rfl, HB3.out⟩
    · have HK := Lib.hid (atoi_other HA.out he)
      obtain ⟨u, hu⟩ : ∃ u, u = itoaB v := ⟨_, rfl⟩
      rw [← hu] at he ⊢
      have hne2 := str_ne he
      clear hu
      go_wp2
      go_ret2
      rw [pi_no HK.out, HK.out]
      exact ⟨rfl, HB3.out⟩
  | «syntax» =>
    have HK := Lib.hid (atoi_no (s := s) (fun v => by rw [hA]; intro h; cases h))
    have HA := Lib.hid hA
    clear hA
    obtain ⟨tp, p, hvar⟩ := HS.out
    have HVR := Lib.hid hvar
    clear hvar
    rw [pi_no HK.out, HK.out]
    go_enter Tryd.func32, Tryd.ntmps32
    go_wp2_with fail
    refine (Tryd.strconv_Atoi_syntax_var s (by omega) HA.out tp p _ HVR.out).mono ?_
    rintro e W1 ⟨N, rfl, -, -, b1⟩
    go_wp2
    go_ret2
    exact ⟨rfl, b1⟩
  | range =>
    have HK := Lib.hid (atoi_no (s := s) (fun v => by rw [hA]; intro h; cases h))
    have HA := Lib.hid hA
    clear hA
    obtain ⟨tp, p, hvar⟩ := HR.out
    have HVR := Lib.hid hvar
    clear hvar
    rw [pi_no HK.out, HK.out]
    go_enter Tryd.func32, Tryd.ntmps32
    go_wp2_with fail
    refine (Tryd.strconv_Atoi_range_var s (by omega) HA.out tp p _ HVR.out).mono ?_
    rintro e W1 ⟨N, rfl, -, -, b1⟩
    go_wp2
    go_ret2
    exact ⟨rfl, b1⟩
end Go.Proofs.YtjklefkkdaelnaaDoor
