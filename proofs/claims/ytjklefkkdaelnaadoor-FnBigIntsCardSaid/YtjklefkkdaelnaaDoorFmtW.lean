/- FormatNat: the text of a natural number. The reference. -/
import Derived.Test.YtjklefkkdaelnaaDoorDecT
import Derived.Test.YtjklefkkdaelnaaDoorK2
import Derived.Test.YtjklefkkdaelnaaDoorK3
namespace Go.Proofs.YtjklefkkdaelnaaDoor
set_option linter.unusedVariables false
set_option linter.unusedSimpArgs false
open Go.RowKit
def fmtNat (xs : List Int) : ByteArray := if natOkB xs then ⟨(Lib.decDigits (val xs)).toArray⟩ else ByteArray.empty
/-- the text of the limbs from place k on -/
def dT (xs : List Int) (k : Nat) : ByteArray := ⟨(Lib.decDigits (val (xs.drop k))).toArray⟩
theorem fmtNat_ok {xs : List Int} (h : natOkB xs = true) : fmtNat xs = dT xs 0 := by
  unfold fmtNat dT
  rw [if_pos h, List.drop_zero]
theorem fmtNat_no {xs : List Int} (h : natOkB xs = false) : fmtNat xs = ByteArray.empty := by
  unfold fmtNat
  rw [if_neg (by rw [h]; exact Bool.false_ne_true)]
theorem fmtNat_nil : fmtNat [] = ⟨#[48]⟩ := by
  rw [fmtNat_ok rfl]
  unfold dT
  rw [List.drop_nil, show val [] = 0 from rfl, decDigits_small (by decide)]
  rfl
theorem ok_last {xs : List Int} (h : natOkB xs = true) (hl : 0 < xs.length) : xs[xs.length - 1] ≠ 0 := by
  have h2 : lastOk xs = true := by
    unfold natOkB at h
    simp only [Bool.and_eq_true] at h
    exact h.1.2
  rw [lastOk_at hl] at h2
  simpa using h2
theorem val_drop_pos {xs : List Int} (h : natOkB xs = true) {k : Nat} (hk : k < xs.length) : 0 < val (xs.drop k) := by
  rcases Nat.eq_zero_or_pos (val (xs.drop k)) with h0 | h0
  · exfalso
    have hz := val_rng_zero ((ok_rng h).drop k) h0
    refine ok_last h (by omega) (hz _ ?_)
    rw [List.mem_iff_getElem]
    exact ⟨xs.length - 1 - k, by rw [List.length_drop]; omega, by rw [List.getElem_drop]; congr 1; omega⟩
  · exact h0
theorem dT_last {xs : List Int} (h : natOkB xs = true) (hl : 0 < xs.length) : itoaB xs[xs.length - 1] = dT xs (xs.length - 1) := by
  have hr := (ok_rng h).at (k := xs.length - 1) (by omega)
  unfold dT
  rw [val_drop (k := xs.length - 1) (by omega), show xs.length - 1 + 1 = xs.length by omega, List.drop_length, show val [] = 0 from rfl, Nat.mul_zero, Nat.add_zero]
  obtain ⟨n, hn⟩ : ∃ n : Nat, xs[xs.length - 1] = n := ⟨xs[xs.length - 1].toNat, by omega⟩
  rw [hn, itoaB_nat, Int.toNat_natCast]
theorem dT_step {xs : List Int} (h : natOkB xs = true) {q : Nat} (hq : q + 1 < xs.length) : dT xs (q + 1) ++ padB (itoaB xs[q]) 9 = dT xs q := by
  have hr := (ok_rng h).at (k := q) (by omega)
  unfold dT
  rw [dec_limb _ _ (val_drop_pos h hq) hr.1 hr.2, ← val_drop (by omega)]
theorem pw_ten (k : Nat) : pw k = 10 ^ (9 * k) := by
  unfold pw
  rw [show (1000000000 : Nat) = 10 ^ 9 from rfl, ← Nat.pow_mul]
theorem dT_size {xs : List Int} (h : natOkB xs = true) (k : Nat) : (dT xs k).size ≤ 541 := by
  have h60 : xs.length ≤ 60 := by
    unfold natOkB at h
    simp only [Bool.and_eq_true, decide_eq_true_eq] at h
    exact h.1.1
  have h1 := val_lt ((ok_rng h).drop k)
  rw [pw_ten, List.length_drop] at h1
  have h2 : val (xs.drop k) < 10 ^ (9 * (xs.length - k) + 1) := Nat.lt_of_lt_of_le h1 (Nat.pow_le_pow_right (by decide) (by omega))
  have h3 := dec_len _ _ (by omega) h2
  show (Lib.decDigits (val (xs.drop k))).toArray.size ≤ 541
  rw [List.size_toArray]; omega
theorem fmtNat_size (xs : List Int) : (fmtNat xs).size ≤ 541 := by
  cases h : natOkB xs with
  | true => rw [fmtNat_ok h]; exact dT_size h 0
  | false => rw [fmtNat_no h]; exact Nat.zero_le _
set_option maxRecDepth 100000 in
set_option maxHeartbeats 2000000 in
theorem specFormatNat_any (a : Option Addr) (ca : Nat) (xs : List Int) (w : World) (ha : IntsAt w a ca xs) (hn : xs.length ≤ 1048576) :
    Calls Tryd.prog 18 #[.slice a xs.length ca] w fun e w' => e = .returned (.string (fmtNat xs)) ∧ Below w.heap.size w w' := by
  have HA := Lib.hid ha
  clear ha
  by_cases hok : natOkB xs = true
  case neg =>
    have hno := Bool.eq_false_iff.2 hok
    rw [fmtNat_no hno]
    go_enter Tryd.func18, Tryd.ntmps18
    go_wp2_with fail
    refine (specNatOk_q _ _ _ _ HA.out hn).mono ?_
    rintro e w' ⟨rfl, rfl⟩
    rw [hno]
    go_wp2
    go_ret
    exact ⟨rfl, Below.refl _ _⟩
  have HR := Lib.hid (ok_rng hok)
  have HN := Lib.hid (fun W (hW : IntsAt W a ca xs) => (show Calls Tryd.prog 62 #[.slice a xs.length ca] W fun e w' => e = .returned (.bool true) ∧ W = w' from (specNatOk_q _ _ _ _ hW hn).mono fun _ _ ⟨h1, h2⟩ => ⟨by rw [h1, hok], h2⟩))
  by_cases hl : 0 < xs.length
  case neg =>
    have : xs = [] := List.eq_nil_of_length_eq_zero (by omega)
    subst this
    rw [fmtNat_nil]
    go_enter Tryd.func18, Tryd.ntmps18
    go_wp2_with fail
    refine (HN.out _ HA.out).mono ?_
    rintro e w' ⟨rfl, rfl⟩
    go_wp2
    go_ret
    exact ⟨rfl, Below.refl _ _⟩
  rw [fmtNat_ok hok]
  have HOK := Lib.hid hok
  clear hok
  have h0' : ((xs.length : Int) == 0) = false := beq_eq_false_iff_ne.2 (by omega)
  obtain ⟨b, off, rfl, hc⟩ := HA.out.get (k := xs.length - 1) (by omega)
  have hi := HA.out.in64 (k := xs.length - 1) (by omega)
  go_enter Tryd.func18, Tryd.ntmps18
  go_wp2_with fail
  refine (HN.out _ HA.out).mono ?_
  rintro e w' ⟨rfl, rfl⟩
  go_wp2_with fail
  refine (specFormatInt_any _ _ hi).mono ?_
  rintro e W1 ⟨rfl, b1⟩
  have HB1 := Lib.hid b1
  clear b1 hc hi
  rw [dT_last HOK.out hl]
  go_wp2
  go_loopw [3, 4] (fun s i wr => ∃ (k : Nat) (z : Int) (u : ByteArray), k < xs.length ∧ i = .int .i64 z ∧ z = (k : Int) - 1 ∧ s = .string u ∧ Hid (u = dT xs k) ∧ u.size ≤ 541 ∧ Hid (Below w.heap.size w wr)) (fun _ i _ => (intOf i + 1).toNat)
  case atStart => exact ⟨xs.length - 1, _, _, by omega, rfl, by omega, rfl, rfl, dT_size HOK.out _, HB1.out⟩
  case round =>
    obtain ⟨k, z, u, hk, rfl, hz, rfl, HU, hu, HB⟩ := hrel
    cases k with
    | zero =>
      have hz0 : z < 0 := by omega
      have hge : decide (0 ≤ z) = false := decide_eq_false (by omega)
      clear hz
      go_wp2
      go_ret
      refine ⟨?_, HB.out⟩
      show Ending.returned (.string u) = _
      rw [HU.out]
    | succ q =>
      have hzq : z = q := by omega
      subst hzq
      have hq : q < xs.length := by omega
      have hge : decide ((0 : Int) ≤ q) = true := decide_eq_true (by omega)
      obtain ⟨b2, off2, hbo, hc⟩ := (HA.out.below HB.out).get (k := q) hq
      obtain ⟨rfl, rfl⟩ : b2 = b ∧ off2 = off := by simpa using hbo.symm
      have hi := HA.out.in64 (k := q) hq
      have hr := HR.out.at hq
      have HS := Lib.hid (dT_step HOK.out (q := q) hk)
      have hz9 := itoa_size xs[q] hr.1 hr.2
      have hl9 := limb_size xs[q] hr.1 hr.2
      have hno : ¬ 9223372036854775807 < u.size + (padB (itoaB xs[q]) 9).size := by omega
      have hus := dT_size HOK.out q
      have HUS := Lib.hid hus
      clear hus hz
      go_wp2_with fail
      refine (specFormatInt_any _ _ hi).mono ?_
      rintro e W2 ⟨rfl, b2⟩
      have HB2 := Lib.hid (bstep HB.out b2)
      clear b2
      go_wp2_with fail
      refine (specPadZeros_any _ _ _ (by omega) (by unfold In64; omega)).mono ?_
      rintro e W3 ⟨rfl, b3⟩
      have HB3 := Lib.hid (bstep HB2.out b3)
      clear b3
      go_wp2
      go_roundw
      case rel => exact ⟨q, _, _, by omega, rfl, by omega, rfl, by unfold Hid; rw [HU.out]; exact HS.out, by rw [HU.out, HS.out]; exact HUS.out, HB3.out⟩
      case measure => simp [intOf]
end Go.Proofs.YtjklefkkdaelnaaDoor
