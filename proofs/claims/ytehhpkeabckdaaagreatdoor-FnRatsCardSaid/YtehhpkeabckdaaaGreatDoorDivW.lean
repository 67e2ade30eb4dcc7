/- Quotients: the walks of the program's parts. -/
import Derived.Test.YtehhpkeabckdaaaGreatDoorK3
import Derived.Test.YtehhpkeabckdaaaGreatDoorK4
namespace Go.Proofs.YtehhpkeabckdaaaGreatDoor
set_option linter.unusedVariables false
set_option linter.unusedSimpArgs false
open Go.RowKit

theorem take_set_succ {os : List Int} {k : Nat} (h : k < os.length) (v : Int) : (os.set k v).take (k + 1) = os.take k ++ [v] := by
  rw [List.take_succ_eq_append_getElem (by simpa using h), List.take_set, List.set_eq_of_length_le (by simp; omega)]
  simp
theorem drop_set_at {os : List Int} {k : Nat} (h : k < os.length) (v : Int) : (os.set k v).drop k = v :: os.drop (k + 1) := by
  rw [List.drop_eq_getElem_cons (by simpa using h), List.drop_set_of_lt (by omega)]
  simp
theorem small_fits {q x d : Int} (h0 : 0 ≤ q) (h1 : q < d) (h2 : 0 ≤ x) (h3 : x ≤ 999999999) : 0 ≤ (q * 1000000000 + x) / d ∧ (q * 1000000000 + x) / d ≤ 999999999 ∧ 0 ≤ (q * 1000000000 + x) % d ∧ (q * 1000000000 + x) % d < d := by
  have hd : 0 < d := by omega
  refine ⟨Int.ediv_nonneg (by omega) (by omega), ?_, Int.emod_nonneg _ (by omega), Int.emod_lt_of_pos _ hd⟩
  have : (q * 1000000000 + x) / d < 1000000000 := Int.ediv_lt_of_lt_mul hd (by omega)
  omega
theorem small_base (b q x d : Nat) : (((q : Int) * (b : Int) + (x : Int)) / (d : Int)).toNat = (q * b + x) / d ∧ (((q : Int) * (b : Int) + (x : Int)) % (d : Int)).toNat = (q * b + x) % d := by
  rw [← Int.natCast_mul, ← Int.natCast_add, ← Int.natCast_ediv, ← Int.natCast_emod, Int.toNat_natCast, Int.toNat_natCast]
  exact ⟨rfl, rfl⟩
theorem small_rel {q x d : Int} {V : Nat} (h0 : 0 ≤ q) (h1 : q < d) (h2 : 0 ≤ x) (hq : q.toNat = V % d.toNat) :
    (x.toNat + 1000000000 * V) / d.toNat = ((q * 1000000000 + x) / d).toNat + 1000000000 * (V / d.toNat) ∧ ((q * 1000000000 + x) % d).toNat = (x.toNat + 1000000000 * V) % d.toNat := by
  have h := small_step V d.toNat x.toNat (by omega)
  rw [h.1, h.2, ← hq]
  obtain ⟨qn, rfl⟩ := Int.eq_ofNat_of_zero_le h0
  obtain ⟨xn, rfl⟩ := Int.eq_ofNat_of_zero_le h2
  obtain ⟨dn, rfl⟩ := Int.eq_ofNat_of_zero_le (show 0 ≤ d by omega)
  have k := small_base 1000000000 qn xn dn
  rw [show ((1000000000 : Nat) : Int) = 1000000000 from rfl] at k
  rw [k.1, k.2, Int.toNat_natCast, Int.toNat_natCast, Int.toNat_natCast]
  exact ⟨Eq.refl _, Eq.refl _⟩

set_option maxHeartbeats 2000000 in
theorem divSmall_any (a : Option Addr) (ca : Nat) (xs : List Int) (d : Int) (w : World) (ha : IntsAt w a ca xs) (hn : xs.length ≤ 1048576) (hx : Rng xs) (hd0 : 0 < d) (hd1 : d ≤ 999999999) :
    Calls Tryz.prog 80 #[.slice a xs.length ca, .int .i64 d] w fun e w' => ∃ v q, e = .returned (.tuple #[v, .int .i64 q]) ∧ 0 ≤ q ∧ q < d ∧ q.toNat = val xs % d.toNat ∧ Own 3 w' w.heap.size v (digs (val xs / d.toNat)) ∧ Below w.heap.size w w' := by
  have HA := Lib.hid ha
  have HX := Lib.hid hx
  clear ha hx
  have hmk := run_make_ints xs.length (by omega)
  have hdz : (d == 0) = false := beq_eq_false_iff_ne.2 (by omega)
  go_enter Tryz.func80, Tryz.ntmps80
  go_wp2
  go_loopw [7, 8] (fun r i wr => ∃ (os : List Int) (q : Int) (k : Nat), i = .int .i64 ((k : Int) - 1) ∧ r = .int .i64 q ∧ 0 ≤ q ∧ q < d ∧ k ≤ xs.length ∧ os.length = xs.length ∧ RowAt wr w.heap.size os ∧ Below w.heap.size w wr ∧ Rng os ∧ q.toNat = val (xs.drop k) % d.toNat ∧ val (os.drop k) = val (xs.drop k) / d.toNat) (fun _ i _ => (intOf i + 1).toNat)
  case atStart => exact ⟨List.replicate xs.length 0, 0, xs.length, rfl, rfl, by omega, by omega, by omega, by simp, RowAt.made w _ (by omega), (Below.refl _ _).alloc (Nat.le_refl _) _, fun x hx => by rw [(List.mem_replicate.1 hx).2]; omega, by simp [val], by simp [val]⟩
  case round =>
    obtain ⟨os, q, k, rfl, rfl, hq0, hq1, hk, hlen, hown, hbl, hrng, hqv, hval⟩ := hrel
    have HL := Lib.hid hlen
    have HO := Lib.hid hown
    have HBL := Lib.hid hbl
    have HR := Lib.hid hrng
    have HQ := Lib.hid hqv
    have HV := Lib.hid hval
    clear hlen hown hbl hrng hqv hval
    cases k with
    | zero =>
      have HT := Lib.hid (trimmed_any (some ⟨w.heap.size, 0, none⟩) os.length os wr HO.out.ints (by have := HL.out; omega) HR.out)
      have HF : Hid (∀ j, j ≤ os.length → os.take j = digs (val os) → j = (digs (val xs / d.toNat)).length ∧ Own 3 wr w.heap.size (.slice (some ⟨w.heap.size, 0, none⟩) j xs.length) (digs (val xs / d.toNat))) := by
        intro j hj ht
        have h3 := HV.out
        rw [List.drop_zero, List.drop_zero] at h3
        rw [h3] at ht
        have h4 := own_take HO.out hj
        rw [HL.out, ht] at h4
        have h5 : (os.take j).length = j := by simp; omega
        rw [ht] at h5
        rw [h5] at h4
        exact ⟨h5.symm, h4⟩
      have HQ2 : Hid (q.toNat = val xs % d.toNat) := by have := HQ.out; rw [List.drop_zero] at this; exact this
      go_wp2_with fail
      have hcall := HT.out
      rw [HL.out] at hcall
      refine hcall.mono ?_
      rintro e w' ⟨⟨j, hj, rfl, ht⟩, rfl⟩
      have HG := Lib.hid (HF.out j (by have := HL.out; omega) ht)
      clear hcall ht
      go_wp2
      go_ret2
      exact ⟨_, q, rfl, hq0, hq1, HQ2.out, HG.out.2, HBL.out⟩
    | succ k =>
      have hk2 : k < xs.length := by omega
      have hk3 : k < os.length := by have := HL.out; omega
      obtain ⟨b1, off1, rfl, hc1⟩ := (HA.out.below HBL.out).get hk2
      have hc3 := HO.out.cell hk3
      have hf3 := HO.out.frozen k
      have r1 := HX.out.at hk2
      have r2 := small_fits hq0 hq1 r1.1 r1.2
      have S := Lib.hid (small_rel (V := val (xs.drop (k + 1))) hq0 hq1 r1.1 HQ.out)
      have D1 := Lib.hid (val_drop hk2)
      have ek : ((k + 1 : Nat) : Int) - 1 = (k : Int) := by omega
      rw [ek]
      clear ek
      go_wp2
      go_roundw
      case rel =>
        refine ⟨os.set k ((q * 1000000000 + xs[k]) / d), (q * 1000000000 + xs[k]) % d, k, rfl, rfl, r2.2.2.1, r2.2.2.2, by omega, by rw [List.length_set]; exact HL.out, HO.out.set k (by unfold In64; omega), HBL.out.setCell (Nat.le_refl _) _, rng_set HR.out _ r2.1 r2.2.1, ?_, ?_⟩
        · rw [S.out.2, D1.out]
        · rw [drop_set_at hk3, val, HV.out, D1.out, S.out.1]
      case measure => simp [intOf] <;> omega

theorem RowAt.lt {w : World} {B : Nat} {os : List Int} (h : RowAt w B os) : B < w.heap.size := (h.2.lt B rfl).2
theorem RowAt.below {w w' : World} {B : Nat} {os : List Int} (h : RowAt w B os) (b : Below w.heap.size w w') : RowAt w' B os := Own.below h b
theorem RowAt.kept {w w' : World} {B g : Nat} {os : List Int} (h : RowAt w B os) (k : w.grownBy w' (some g)) (hne : B ≠ g) : RowAt w' B os :=
  ⟨h.1, h.2.kept k (.inr (by simp [Value.ownBlock]; omega))⟩
theorem RowAt.grow {w : World} {B : Nat} {os : List Int} (h : RowAt w B os) (k : Nat) (v : Value) : w.grownBy (w.setCell ⟨B, k, none⟩ v) (some B) := (h.2.stored k v).2
theorem grown_refl (w : World) (g : Option Nat) : w.grownBy w g := ⟨rfl, rfl, rfl, Nat.le_refl _, fun _ _ _ => rfl⟩
theorem grown_trans {a b c : World} {g : Option Nat} (h1 : a.grownBy b g) (h2 : b.grownBy c g) : a.grownBy c g :=
  ⟨h2.os.trans h1.os, h2.tape.trans h1.tape, h2.output.trans h1.output, Nat.le_trans h1.size h2.size, fun q hq hne => (h2.block q (Nat.lt_of_lt_of_le hq h1.size) hne).trans (h1.block q hq hne)⟩

/-- 'scaled': a product with a digit, in so many places -/
theorem scaled_step {os : List Int} {k : Nat} {x y c t : Int} {X : Nat} (hk : k < os.length) (hx : 0 ≤ x) (hy : 0 ≤ y) (hc : 0 ≤ c) (ht : t = c + x * y) (h : val (os.take k) + pw k * c.toNat = X * y.toNat) :
    val ((os.set k (t % 1000000000)).take (k + 1)) + pw (k + 1) * (t / 1000000000).toNat = (X + pw k * x.toNat) * y.toNat := by
  have hxy : 0 ≤ x * y := Int.mul_nonneg hx hy
  rw [take_set_succ hk, add_step (by simp; omega) hc hxy ht h, Int.toNat_mul hx hy, Nat.add_mul]
  ac_rfl

set_option maxHeartbeats 2000000 in
theorem scaled_any (a : Option Addr) (ca : Nat) (xs : List Int) (d : Int) (n : Nat) (w : World) (ha : IntsAt w a ca xs) (hx : Rng xs) (hd0 : 0 ≤ d) (hd1 : d ≤ 999999999) (hn : n ≤ 1048576) (hxn : xs.length ≤ n) (hfit : val xs * d.toNat < pw n) :
    Calls Tryz.prog 81 #[.slice a xs.length ca, .int .i64 d, .int .i64 n] w fun e w' => ∃ g os, e = .returned (.slice (some ⟨g, 0, none⟩) n n) ∧ w.heap.size ≤ g ∧ os.length = n ∧ Rng os ∧ val os = val xs * d.toNat ∧ RowAt w' g os ∧ Below w.heap.size w w' := by
  have HA := Lib.hid ha
  have HX := Lib.hid hx
  have HF := Lib.hid hfit
  clear ha hx hfit
  have hmk := run_make_ints n (by omega)
  go_enter Tryz.func81, Tryz.ntmps81
  go_wp2
  go_loopw [8, 15] (fun c i wr => ∃ (os : List Int) (q : Int) (k : Nat), i = .int .i64 k ∧ c = .int .i64 q ∧ 0 ≤ q ∧ q ≤ 999999999 ∧ k ≤ n ∧ os.length = n ∧ RowAt wr w.heap.size os ∧ Below w.heap.size w wr ∧ Rng os ∧ val (os.take k) + pw k * q.toNat = val (xs.take k) * d.toNat) (fun _ i _ => n - (intOf i).toNat)
  case atStart => exact ⟨List.replicate n 0, 0, 0, rfl, rfl, by omega, by omega, by omega, by simp, RowAt.made w _ (by omega), (Below.refl _ _).alloc (Nat.le_refl _) _, fun x hx => by rw [(List.mem_replicate.1 hx).2]; omega, by simp [val]⟩
  case round =>
    obtain ⟨os, q, k, rfl, rfl, hq0, hq1, hk, hlen, hown, hbl, hrng, hval⟩ := hrel
    have HL := Lib.hid hlen
    have HO := Lib.hid hown
    have HBL := Lib.hid hbl
    have HR := Lib.hid hrng
    have HV := Lib.hid hval
    clear hlen hown hbl hrng hval
    by_cases h1 : k < n
    · have hk3 : k < os.length := by have := HL.out; omega
      have hc3 := HO.out.cell hk3
      have hf3 := HO.out.frozen k
      by_cases h2 : k < xs.length
      · obtain ⟨b1, off1, rfl, hc1⟩ := (HA.out.below HBL.out).get h2
        have r1 := HX.out.at h2
        have r4 := prod_bound r1 ⟨hd0, hd1⟩
        go_wp2
        go_roundw
        case rel =>
          refine ⟨_, (q + xs[k] * d) / 1000000000, k + 1, by go_num, rfl, by omega, by omega, by omega, by rw [List.length_set]; exact HL.out, HO.out.set k (by unfold In64; omega), HBL.out.setCell (Nat.le_refl _) _, rng_set HR.out _ (by omega) (by omega), ?_⟩
          rw [val_take_succ h2]
          exact scaled_step hk3 r1.1 hd0 hq0 rfl HV.out
        case measure => simp [intOf] <;> omega
      · go_wp2
        go_roundw
        case rel =>
          refine ⟨_, q / 1000000000, k + 1, by go_num, rfl, by omega, by omega, by omega, by rw [List.length_set]; exact HL.out, HO.out.set k (d := q % 1000000000) (by unfold In64; omega), HBL.out.setCell (Nat.le_refl _) _, rng_set HR.out _ (by omega) (by omega), ?_⟩
          have h3 := HV.out
          rw [List.take_of_length_le (show xs.length ≤ k by omega)] at h3
          rw [List.take_of_length_le (show xs.length ≤ k + 1 by omega)]
          have := scaled_step (x := 0) (t := q) hk3 (by omega) hd0 hq0 (by omega) h3
          simpa using this
        case measure => simp [intOf] <;> omega
    · have hkx : Hid (k = n) := by unfold Hid; omega
      have HE : Hid (val os = val xs * d.toNat) := by
        have h3 := HV.out
        have h4 := HF.out
        rw [hkx.out, List.take_of_length_le (Nat.le_of_eq HL.out), List.take_of_length_le hxn] at h3
        unfold Hid
        rcases Nat.eq_zero_or_pos q.toNat with h5 | h5
        · rw [h5] at h3; omega
        · have : pw n * 1 ≤ pw n * q.toNat := Nat.mul_le_mul_left _ h5
          omega
      go_wp2
      go_ret
      exact ⟨_, os, rfl, Nat.le_refl _, HL.out, HR.out, HE.out, HO.out, HBL.out⟩

/-- one place of 'subtract' -/
theorem sub_place {ps : List Int} {m : Nat} {c y c' t : Int} {Z S : Nat} (hm : m < ps.length) (h0 : 0 ≤ ps[m]) (hc : 0 ≤ c) (hy : 0 ≤ y) (hc' : 0 ≤ c') (ht0 : 0 ≤ t) (ht : t = ps[m] - c - y + 1000000000 * c') (h : val ps + Z = S + pw m * c.toNat) :
    val (ps.set m t) + (Z + pw m * y.toNat) = S + pw (m + 1) * c'.toNat := by
  have h1 := val_set hm t
  have e : t.toNat + c.toNat + y.toNat = ps[m].toNat + 1000000000 * c'.toNat := by omega
  have h2 : pw m * t.toNat + pw m * c.toNat + pw m * y.toNat = pw m * ps[m].toNat + pw (m + 1) * c'.toNat := by
    rw [← Nat.mul_add, ← Nat.mul_add, e, Nat.mul_add, pw_succ, Nat.mul_comm 1000000000 (pw m), Nat.mul_assoc]
  omega

set_option maxHeartbeats 4000000 in
theorem subtract_any (g j : Nat) (us : List Int) (cu gv : Nat) (vs : List Int) (d : Int) (w : World) (hu : RowAt w g us) (hv : RowAt w gv vs) (hne : gv ≠ g) (hj : j + vs.length + 1 ≤ us.length) (hul : us.length ≤ 1048577) (hru : Rng us) (hrv : Rng vs) (hd0 : 0 ≤ d) (hd1 : d ≤ 999999999) :
    Calls Tryz.prog 82 #[.slice (some ⟨g, j, none⟩) (vs.length + 1) cu, .slice (some ⟨gv, 0, none⟩) vs.length vs.length, .int .i64 d] w fun e w' => ∃ (ps : List Int) (f : Int), e = .returned (.int .i64 f) ∧ (f = 0 ∨ f = 1) ∧ ps.length = us.length ∧ Rng ps ∧
      ps.drop (j + vs.length + 1) = us.drop (j + vs.length + 1) ∧ val ps + pw j * (d.toNat * val vs) = val us + pw (j + vs.length + 1) * f.toNat ∧ RowAt w' g ps ∧ w.grownBy w' (some g) := by
  have HU := Lib.hid hu
  have HVV := Lib.hid hv
  have HRU := Lib.hid hru
  have HRV := Lib.hid hrv
  clear hu hv hru hrv
  go_enter Tryz.func82, Tryz.ntmps82
  go_wp2
  go_loopw [7, 14] (fun bo i wr => ∃ (ps : List Int) (c : Int) (k : Nat), i = .int .i64 k ∧ bo = .int .i64 c ∧ 0 ≤ c ∧ c ≤ 999999999 ∧ k ≤ vs.length ∧ ps.length = us.length ∧ RowAt wr g ps ∧ w.grownBy wr (some g) ∧ Rng ps ∧ ps.drop (j + k) = us.drop (j + k) ∧ val ps + pw j * (d.toNat * val (vs.take k)) = val us + pw (j + k) * c.toNat) (fun _ i _ => vs.length - (intOf i).toNat)
  case atStart => exact ⟨us, 0, 0, rfl, rfl, by omega, by omega, by omega, rfl, HU.out, grown_refl _ _, HRU.out, rfl, by simp [val]⟩
  case round =>
    obtain ⟨ps, c, k, rfl, rfl, hc0, hc1, hk, hlen, hown, hgr, hrng, hdrop, hval⟩ := hrel
    have HL := Lib.hid hlen
    have HO := Lib.hid hown
    have HG := Lib.hid hgr
    have HR := Lib.hid hrng
    have HD := Lib.hid hdrop
    have HV := Lib.hid hval
    clear hlen hown hgr hrng hdrop hval
    have hm : j + k < ps.length := by have := HL.out; omega
    have hc3 := HO.out.cell hm
    have hf3 := HO.out.frozen (j + k)
    have r3 := HR.out.at hm
    by_cases h1 : k < vs.length
    · have hc1' := (HVV.out.kept HG.out hne).cell h1
      have r1 := HRV.out.at h1
      have r4 := prod_bound r1 ⟨hd0, hd1⟩
      have V1 : Hid (pw j * (d.toNat * val (vs.take (k + 1))) = pw j * (d.toNat * val (vs.take k)) + pw (j + k) * (vs[k] * d).toNat) := by
        unfold Hid
        rw [val_take_succ h1, Nat.mul_add, Nat.mul_add, Int.toNat_mul r1.1 hd0, pw_add]
        congr 1
        ac_rfl
      have DS : ∀ v : Int, Hid ((ps.set (j + k) v).drop (j + (k + 1)) = us.drop (j + (k + 1))) := by
        intro v
        unfold Hid
        rw [List.drop_set_of_lt (by omega)]
        have := congrArg (List.drop 1) HD.out
        simpa [List.drop_drop, Nat.add_assoc] using this
      by_cases h3 : ps[j + k] - c - vs[k] * d < 0
      · go_wp2
        go_roundw
        case rel =>
          refine ⟨_, (-(ps[j + k] - c - vs[k] * d) + 1000000000 - 1) / 1000000000, k + 1, by go_num, rfl, by omega, by omega, by omega, by rw [List.length_set]; exact HL.out, HO.out.set (j + k) (by unfold In64; omega), grown_trans HG.out (HO.out.grow _ _), rng_set HR.out _ (by omega) (by omega), (DS _).out, ?_⟩
          rw [V1.out]
          exact sub_place hm r3.1 hc0 r4.1 (by omega) (by omega) (by omega) HV.out
        case measure => simp [intOf] <;> omega
      · go_wp2
        go_roundw
        case rel =>
          refine ⟨_, 0, k + 1, by go_num, rfl, by omega, by omega, by omega, by rw [List.length_set]; exact HL.out, HO.out.set (j + k) (by unfold In64; omega), grown_trans HG.out (HO.out.grow _ _), rng_set HR.out _ (by omega) (by omega), (DS _).out, ?_⟩
          rw [V1.out]
          exact sub_place hm r3.1 hc0 r4.1 (by omega) (by omega) (by omega) HV.out
        case measure => simp [intOf] <;> omega
    · obtain rfl : k = vs.length := by omega
      have DS : ∀ v : Int, Hid ((ps.set (j + vs.length) v).drop (j + vs.length + 1) = us.drop (j + vs.length + 1)) := by
        intro v
        unfold Hid
        rw [List.drop_set_of_lt (by omega)]
        have := congrArg (List.drop 1) HD.out
        simpa [List.drop_drop, Nat.add_assoc] using this
      have HT : Hid (∀ (t f : Int), 0 ≤ f → 0 ≤ t → t = ps[j + vs.length] - c + 1000000000 * f → val (ps.set (j + vs.length) t) + pw j * (d.toNat * val vs) = val us + pw (j + vs.length + 1) * f.toNat) := by
        intro t f hf ht0 ht
        have h5 := HV.out
        rw [List.take_of_length_le (Nat.le_refl _)] at h5
        have := sub_place (y := 0) hm r3.1 hc0 (by omega) hf ht0 (by omega) h5
        simpa using this
      have HS : ∀ u v, Hid (RowAt ((wr.setCell ⟨g, j + vs.length, none⟩ (.int .i64 u)).setCell ⟨g, j + vs.length, none⟩ (.int .i64 v)) g ((ps.set (j + vs.length) u).set (j + vs.length) v) → RowAt ((wr.setCell ⟨g, j + vs.length, none⟩ (.int .i64 u)).setCell ⟨g, j + vs.length, none⟩ (.int .i64 v)) g (ps.set (j + vs.length) v)) := by
        intro u v
        unfold Hid
        rw [List.set_set]
        exact id
      by_cases h3 : ps[j + vs.length] - c < 0
      · go_wp2
        go_ret
        exact ⟨_, 1, rfl, .inr rfl, by rw [List.length_set]; exact HL.out, rng_set HR.out (j + vs.length) (d := ps[j + vs.length] - c + 1000000000) (by omega) (by omega), (DS _).out, HT.out _ 1 (by omega) (by omega) (by omega), (HS _ _).out ((HO.out.set (j + vs.length) (by unfold In64; omega)).set (j + vs.length) (by unfold In64; omega)), grown_trans HG.out (grown_trans (HO.out.grow _ _) ((HO.out.set (j + vs.length) (d := ps[j + vs.length] - c) (by unfold In64; omega)).grow _ _))⟩
      · go_wp2
        go_ret
        exact ⟨_, 0, rfl, .inl rfl, by rw [List.length_set]; exact HL.out, rng_set HR.out (j + vs.length) (d := ps[j + vs.length] - c) (by omega) (by omega), (DS _).out, HT.out _ 0 (by omega) (by omega) (by omega), HO.out.set (j + vs.length) (by unfold In64; omega), grown_trans HG.out (HO.out.grow _ _)⟩

/-- one place of 'addBack' -/
theorem add_place {ps : List Int} {m : Nat} {c y t : Int} {S : Nat} (hm : m < ps.length) (h0 : 0 ≤ ps[m]) (hc : 0 ≤ c) (hy : 0 ≤ y) (ht : t = ps[m] + c + y) (h : val ps + pw m * c.toNat = S) :
    val (ps.set m (t % 1000000000)) + pw (m + 1) * (t / 1000000000).toNat = S + pw m * y.toNat := by
  have h1 := val_set hm (t % 1000000000)
  have h2 := digit_split (pw m) (n := t) (by omega)
  rw [pw_succ]
  have e : t.toNat = ps[m].toNat + c.toNat + y.toNat := by omega
  rw [e, Nat.mul_add, Nat.mul_add] at h2
  omega

set_option maxHeartbeats 4000000 in
theorem addBack_any (g j : Nat) (us : List Int) (cu gv : Nat) (vs : List Int) (w : World) (hu : RowAt w g us) (hv : RowAt w gv vs) (hne : gv ≠ g) (hj : j + vs.length + 1 ≤ us.length) (hul : us.length ≤ 1048577) (hru : Rng us) (hrv : Rng vs) :
    Calls Tryz.prog 83 #[.slice (some ⟨g, j, none⟩) (vs.length + 1) cu, .slice (some ⟨gv, 0, none⟩) vs.length vs.length] w fun e w' => ∃ (v : Value) (ps : List Int) (f : Int), e = .returned v ∧ 0 ≤ f ∧ f ≤ 1 ∧ ps.length = us.length ∧ Rng ps ∧
      ps.drop (j + vs.length + 1) = us.drop (j + vs.length + 1) ∧ val ps + pw (j + vs.length + 1) * f.toNat = val us + pw j * val vs ∧ RowAt w' g ps ∧ w.grownBy w' (some g) := by
  have HU := Lib.hid hu
  have HVV := Lib.hid hv
  have HRU := Lib.hid hru
  have HRV := Lib.hid hrv
  clear hu hv hru hrv
  go_enter Tryz.func83, Tryz.ntmps83
  go_wp2
  go_loopw [4, 9] (fun bo i wr => ∃ (ps : List Int) (c : Int) (k : Nat), i = .int .i64 k ∧ bo = .int .i64 c ∧ 0 ≤ c ∧ c ≤ 1 ∧ k ≤ vs.length + 1 ∧ ps.length = us.length ∧ RowAt wr g ps ∧ w.grownBy wr (some g) ∧ Rng ps ∧ ps.drop (j + k) = us.drop (j + k) ∧ val ps + pw (j + k) * c.toNat = val us + pw j * val (vs.take k)) (fun _ i _ => vs.length + 1 - (intOf i).toNat)
  case atStart => exact ⟨us, 0, 0, rfl, rfl, by omega, by omega, by omega, rfl, HU.out, grown_refl _ _, HRU.out, rfl, by simp [val]⟩
  case round =>
    obtain ⟨ps, c, k, rfl, rfl, hc0, hc1, hk, hlen, hown, hgr, hrng, hdrop, hval⟩ := hrel
    have HL := Lib.hid hlen
    have HO := Lib.hid hown
    have HG := Lib.hid hgr
    have HR := Lib.hid hrng
    have HD := Lib.hid hdrop
    have HV := Lib.hid hval
    clear hlen hown hgr hrng hdrop hval
    by_cases h0 : k < vs.length + 1
    · have hm : j + k < ps.length := by have := HL.out; omega
      have hc3 := HO.out.cell hm
      have hf3 := HO.out.frozen (j + k)
      have r3 := HR.out.at hm
      have DS : ∀ v : Int, Hid ((ps.set (j + k) v).drop (j + (k + 1)) = us.drop (j + (k + 1))) := by
        intro v
        unfold Hid
        rw [List.drop_set_of_lt (by omega)]
        have := congrArg (List.drop 1) HD.out
        simpa [List.drop_drop, Nat.add_assoc] using this
      by_cases h1 : k < vs.length
      · have hc1' := (HVV.out.kept HG.out hne).cell h1
        have r1 := HRV.out.at h1
        have V1 : Hid (pw j * val (vs.take (k + 1)) = pw j * val (vs.take k) + pw (j + k) * vs[k].toNat) := by
          unfold Hid
          rw [val_take_succ h1, Nat.mul_add, pw_add, Nat.mul_assoc]
        go_wp2
        go_roundw
        case rel =>
          refine ⟨_, (ps[j + k] + c + vs[k]) / 1000000000, k + 1, by go_num, rfl, by omega, by omega, by omega, by rw [List.length_set]; exact HL.out, HO.out.set (j + k) (by unfold In64; omega), grown_trans HG.out (HO.out.grow _ _), rng_set HR.out _ (by omega) (by omega), (DS _).out, ?_⟩
          rw [V1.out, ← Nat.add_assoc, ← Nat.add_assoc]
          exact add_place hm r3.1 hc0 r1.1 rfl HV.out
        case measure => simp [intOf] <;> omega
      · have V1 : Hid (val (vs.take (k + 1)) = val (vs.take k)) := by unfold Hid; rw [List.take_of_length_le (by omega), List.take_of_length_le (by omega)]
        go_wp2
        go_roundw
        case rel =>
          refine ⟨_, (ps[j + k] + c) / 1000000000, k + 1, by go_num, rfl, by omega, by omega, by omega, by rw [List.length_set]; exact HL.out, HO.out.set (j + k) (d := (ps[j + k] + c) % 1000000000) (by unfold In64; omega), grown_trans HG.out (HO.out.grow _ _), rng_set HR.out _ (by omega) (by omega), (DS _).out, ?_⟩
          rw [V1.out, ← Nat.add_assoc]
          have := add_place (y := 0) hm r3.1 hc0 (by omega) (t := ps[j + k] + c) (by omega) HV.out
          simpa using this
        case measure => simp [intOf] <;> omega
    · have hkx : Hid (k = vs.length + 1) := by unfold Hid; omega
      have HE : Hid (val ps + pw (j + vs.length + 1) * c.toNat = val us + pw j * val vs) := by
        have h3 := HV.out
        rw [hkx.out, List.take_of_length_le (by omega)] at h3
        exact h3
      have HE2 : Hid (ps.drop (j + vs.length + 1) = us.drop (j + vs.length + 1)) := by
        have h3 := HD.out
        rw [hkx.out] at h3
        exact h3
      go_wp2
      go_end0
      exact ⟨_, ps, c, rfl, hc0, hc1, HL.out, HR.out, HE2.out, HE.out, HO.out, HG.out⟩
end Go.Proofs.YtehhpkeabckdaaaGreatDoor
