import Derived.Test.YtjklefkkdaelnaaDoorSmall
namespace Go.Proofs.YtjklefkkdaelnaaDoor
set_option linter.unusedVariables false
set_option linter.unusedSimpArgs false
open Go.RowKit

def digB (d : Int) : Bool := inB d 0 999999999
def lastOk (xs : List Int) : Bool := xs.isEmpty || decide (xs.getLastD 0 ≠ 0)
def natOkB (xs : List Int) : Bool := decide (xs.length ≤ 60) && lastOk xs && xs.all digB

theorem lastOk_at {xs : List Int} (h : 0 < xs.length) : lastOk xs = decide (xs[xs.length - 1] ≠ 0) := by
  have hne : xs ≠ [] := by intro h'; simp [h'] at h
  have h1 : xs.isEmpty = false := by simp [hne]
  rw [lastOk, h1, Bool.false_or, List.getLastD_eq_getLast?, List.getLast?_eq_getElem?, List.getElem?_eq_getElem (by omega)]
  rfl

theorem all_false {xs : List Int} {k : Nat} (hk : k < xs.length) (h : digB xs[k] = false) : natOkB xs = false := by
  have : xs.all digB = false := by rw [List.all_eq_false]; exact ⟨_, List.getElem_mem hk, by rw [h]; exact Bool.false_ne_true⟩
  simp [natOkB, this]

theorem all_snoc {xs : List Int} {k : Nat} (hk : k < xs.length) (h : digB xs[k] = true) (ht : (xs.take k).all digB = true) : (xs.take (k + 1)).all digB = true := by
  rw [List.take_succ_eq_append_getElem hk, List.all_append, ht]; simp [h]

set_option maxHeartbeats 800000 in
theorem specNatOk_q (a : Option Addr) (cap : Nat) (xs : List Int) (w : World) (ha : IntsAt w a cap xs) (hn : xs.length ≤ 1048576) :
    Calls Tryd.prog 62 #[.slice a xs.length cap] w fun e w' => e = .returned (.bool (natOkB xs)) ∧ w = w' := by
  have HA := Lib.hid ha
  clear ha
  go_enter Tryd.func62, Tryd.ntmps62
  go_wp2
  go_loop [7] (fun i => ∃ k : Nat, k ≤ xs.length ∧ i = .int .i64 k ∧ (xs.take k).all digB = true) (fun i => xs.length - (intOf i).toNat)
  case atStart => exact ⟨0, Nat.zero_le _, rfl, rfl⟩
  case round =>
    obtain ⟨k, hk, rfl, hall⟩ := hrel
    have HT := Lib.hid hall
    clear hall
    by_cases hlt : k < xs.length
    · obtain ⟨b, off, rfl, hc⟩ := HA.out.get hlt
      have hi := HA.out.in64 hlt
      by_cases hd : digB xs[k] = true
      · have hd' : inB xs[k] 0 999999999 = true := hd
        have HD := Lib.hid hd
        clear hd
        go_wp2_with (go_at_call 106; refine (l01In_any _ _ _ _).mono ?_; rintro e w' ⟨rfl, rfl⟩)
        go_round
        case rel => exact ⟨k + 1, by omega, by go_num, all_snoc hlt HD.out HT.out⟩
        case measure => simp [intOf]; omega
      · have hd' : inB xs[k] 0 999999999 = false := Bool.eq_false_iff.2 hd
        have HD := Lib.hid (all_false hlt (by simpa using hd))
        clear hd
        go_wp2_with (go_at_call 106; refine (l01In_any _ _ _ _).mono ?_; rintro e w' ⟨rfl, rfl⟩)
        go_ret
        exact ⟨ret_bool HD.out.symm, rfl⟩
    · have hall : xs.all digB = true := by have := HT.out; rwa [List.take_of_length_le (by omega)] at this
      have HT2 := Lib.hid hall
      clear hall
      by_cases h60 : xs.length ≤ 60
      · have h60' : decide ((xs.length : Int) ≤ 60) = true := decide_eq_true (by omega)
        by_cases h0 : 0 < xs.length
        · have h0' : ((xs.length : Int) == 0) = false := beq_eq_false_iff_ne.2 (by omega)
          obtain ⟨b, off, rfl, hc⟩ := HA.out.get (k := xs.length - 1) (by omega)
          have hl := Lib.hid (lastOk_at h0)
          go_wp2
          go_ret
          refine ⟨ret_bool ?_, rfl⟩
          rw [natOkB, HT2.out, hl.out]; simp [h60]
          rw [Bool.eq_iff_iff]; simp
        · have h0' : ((xs.length : Int) == 0) = true := beq_iff_eq.2 (by omega)
          go_wp2
          go_ret
          refine ⟨ret_bool ?_, rfl⟩
          have : xs = [] := List.eq_nil_of_length_eq_zero (by omega)
          subst this
          rfl
      · have h60' : decide ((xs.length : Int) ≤ 60) = false := decide_eq_false (by omega)
        go_wp2
        go_ret
        exact ⟨ret_bool (by simp [natOkB, h60]), rfl⟩

theorem natOkFn_any (n : Int) (w : World) : Calls Tryd.prog 108 #[.int .i64 n] w fun e w' => e = .returned (.bool (!digB n)) ∧ w = w' := by
  go_enter Tryd.func108, Tryd.ntmps108
  go_wp2_with (go_at_call 100; refine (within_any _ _ _ _).mono ?_; rintro e w' ⟨rfl, rfl⟩)
  go_ret
  exact ⟨rfl, rfl⟩

set_option maxHeartbeats 400000 in
theorem natOkFind_any (a : Option Addr) (cap : Nat) (xs : List Int) (w : World) (ha : IntsAt w a cap xs) (hn : xs.length ≤ 1048576) :
    Calls Tryd.prog 137 #[.slice a xs.length cap, .func (.func 108) #[] #[]] w fun e w' => (∃ k : Int, e = .returned (.int .i64 k) ∧ decide (0 ≤ k) = !xs.all digB) ∧ w = w' := by
  have HA := Lib.hid ha
  clear ha
  go_enter Tryd.func137, Tryd.ntmps137
  go_wp2
  go_loop [8] (fun i => ∃ k : Nat, k ≤ xs.length ∧ i = .int .i64 k ∧ (xs.take k).all digB = true) (fun i => xs.length - (intOf i).toNat)
  case atStart => exact ⟨0, Nat.zero_le _, rfl, rfl⟩
  case round =>
    obtain ⟨k, hk, rfl, hall⟩ := hrel
    have HT := Lib.hid hall
    clear hall
    by_cases hlt : k < xs.length
    · obtain ⟨b, off, rfl, hc⟩ := HA.out.get hlt
      have hi := HA.out.in64 hlt
      by_cases hd : digB xs[k] = true
      · have HD := Lib.hid hd
        go_wp2_with (go_at_call 108; refine (natOkFn_any _ _).mono ?_; rintro e w' ⟨rfl, rfl⟩)
        go_round
        case rel => exact ⟨k + 1, by omega, by go_num, all_snoc hlt HD.out HT.out⟩
        case measure => simp [intOf]; omega
      · have hd' : digB xs[k] = false := Bool.eq_false_iff.2 hd
        have HD : Hid (xs.all digB = false) := by rw [Hid, List.all_eq_false]; exact ⟨_, List.getElem_mem hlt, by rw [hd']; exact Bool.false_ne_true⟩
        clear hd
        go_wp2_with (go_at_call 108; refine (natOkFn_any _ _).mono ?_; rintro e w' ⟨rfl, rfl⟩)
        go_ret
        exact ⟨⟨k, rfl, by rw [HD.out]; simp⟩, rfl⟩
    · have hall : xs.all digB = true := by have := HT.out; rwa [List.take_of_length_le (by omega)] at this
      have HT2 := Lib.hid hall
      clear hall
      go_wp2
      go_ret
      exact ⟨⟨-1, rfl, by rw [HT2.out]; rfl⟩, rfl⟩

theorem natOkHas_any (a : Option Addr) (cap : Nat) (xs : List Int) (w : World) (ha : IntsAt w a cap xs) (hn : xs.length ≤ 1048576) :
    Calls Tryd.prog 107 #[.slice a xs.length cap, .func (.func 108) #[] #[]] w fun e w' => e = .returned (.bool (!xs.all digB)) ∧ w = w' := by
  have HA := Lib.hid ha
  clear ha
  go_enter Tryd.func107, Tryd.ntmps107
  go_wp2_with (go_at_call 137; refine (natOkFind_any _ _ _ _ HA.out hn).mono ?_; rintro e w' ⟨⟨k, rfl, hk⟩, rfl⟩)
  go_ret
  exact ⟨rfl, rfl⟩

set_option maxHeartbeats 800000 in
theorem implNatOk_q (a : Option Addr) (cap : Nat) (xs : List Int) (w : World) (ha : IntsAt w a cap xs) (hn : xs.length ≤ 1048576) :
    Calls Tryd.prog 65 #[.slice a xs.length cap] w fun e w' => e = .returned (.bool (natOkB xs)) ∧ w = w' := by
  have HA := Lib.hid ha
  clear ha
  by_cases h60 : xs.length ≤ 60
  · have h60' : decide ((xs.length : Int) ≤ 60) = true := decide_eq_true (by omega)
    by_cases h0 : 0 < xs.length
    · have h0' : ((xs.length : Int) == 0) = false := beq_eq_false_iff_ne.2 (by omega)
      obtain ⟨b, off, rfl, hc⟩ := HA.out.get (k := xs.length - 1) (by omega)
      have hl := Lib.hid (lastOk_at h0)
      by_cases hz : xs[xs.length - 1] = 0
      · have hz' : (xs[xs.length - 1] != 0) = false := by simp [hz]
        have HZ := Lib.hid hz
        clear hz
        go_enter Tryd.func65, Tryd.ntmps65
        go_wp2
        go_ret
        refine ⟨ret_bool ?_, rfl⟩
        rw [natOkB, hl.out, HZ.out]; simp
      · have hz' : (xs[xs.length - 1] != 0) = true := by simp [hz]
        have HZ := Lib.hid hz
        clear hz
        go_enter Tryd.func65, Tryd.ntmps65
        go_wp2_with (go_at_call 107; refine (natOkHas_any _ _ _ _ HA.out hn).mono ?_; rintro e w' ⟨rfl, rfl⟩)
        go_ret
        refine ⟨ret_bool ?_, rfl⟩
        rw [natOkB, hl.out]; simp [HZ.out, h60]
    · have h0' : ((xs.length : Int) == 0) = true := beq_iff_eq.2 (by omega)
      have he : xs = [] := List.eq_nil_of_length_eq_zero (by omega)
      have HE := Lib.hid he
      clear he
      go_enter Tryd.func65, Tryd.ntmps65
      go_wp2_with (go_at_call 107; refine (natOkHas_any _ _ _ _ HA.out hn).mono ?_; rintro e w' ⟨rfl, rfl⟩)
      go_ret
      refine ⟨ret_bool ?_, rfl⟩
      rw [HE.out]; rfl
  · have h60' : decide ((xs.length : Int) ≤ 60) = false := decide_eq_false (by omega)
    go_enter Tryd.func65, Tryd.ntmps65
    go_wp2
    go_ret
    exact ⟨ret_bool (by simp [natOkB, h60]), rfl⟩

theorem specNatOk_any (a : Option Addr) (cap : Nat) (xs : List Int) (w : World) (ha : IntsAt w a cap xs) (hn : xs.length ≤ 1048576) :
    Calls Tryd.prog 62 #[.slice a xs.length cap] w fun e w' => e = .returned (.bool (natOkB xs)) ∧ Below w.heap.size w w' :=
  (specNatOk_q a cap xs w ha hn).mono fun _ _ ⟨h1, h2⟩ => ⟨h1, h2 ▸ Below.refl _ _⟩
theorem implNatOk_any (a : Option Addr) (cap : Nat) (xs : List Int) (w : World) (ha : IntsAt w a cap xs) (hn : xs.length ≤ 1048576) :
    Calls Tryd.prog 65 #[.slice a xs.length cap] w fun e w' => e = .returned (.bool (natOkB xs)) ∧ Below w.heap.size w w' :=
  (implNatOk_q a cap xs w ha hn).mono fun _ _ ⟨h1, h2⟩ => ⟨h1, h2 ▸ Below.refl _ _⟩
end Go.Proofs.YtjklefkkdaelnaaDoor
