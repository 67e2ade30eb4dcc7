/- MakeNat, and what FnNats says. -/
import Derived.Test.YtjklefkkdaelnaaDoorDrawW
import Derived.Test.YtjklefkkdaelnaaDoorK2
import Derived.Test.YtjklefkkdaelnaaDoorParI
import Derived.Test.YtjklefkkdaelnaaDoorNatDivW
import Derived.Test.YtjklefkkdaelnaaDoorGcdW
import Derived.Test.YtjklefkkdaelnaaDoorK3
namespace Go.Proofs.YtjklefkkdaelnaaDoor
set_option linter.unusedVariables false
set_option linter.unusedSimpArgs false
open Go.RowKit
theorem own_step {w w' : World} {base C : Nat} {v : Value} {xs : List Int} (h : Own 3 w base v xs) (s : Step C w w') (hC : C < base) : Own 3 w' base v xs := by
  refine ⟨h.1, h.2.kept s ?_⟩
  cases hv : v.ownBlock with
  | none => exact .inl rfl
  | some k =>
    right
    intro e
    have h1 := (h.2.lt k hv).1
    have h2 := Option.some.inj e
    omega
set_option maxRecDepth 100000 in
set_option maxHeartbeats 1000000 in
theorem l01Pick_any {lo : Nat} {a : Option Addr} {cap : Nat} {xs : List Int} {W : World} {C : Nat} (h : CurAt lo a cap xs W C) (G : Nat) (ys : List Int) (hG : G ≠ C) (hlt : G < W.heap.size)
    (hc : ∀ j, j < ys.length → W.cell? ⟨G, j, none⟩ = some (.int .i64 (ys.getD j 0))) (hp : 0 < ys.length) (hl : ys.length ≤ 1000) :
    Calls Tryd.prog 114 #[.pointer (some ⟨C, 0, none⟩), .slice (some ⟨G, 0, none⟩) ys.length ys.length] W fun e W' => ∃ k : Nat, k < ys.length ∧ e = .returned (.int .i64 (ys.getD k 0)) ∧ CurAt lo a cap xs W' C ∧ Step C W W' := by
  have HC := Lib.hid h
  have HY := Lib.hid hc
  clear h hc
  go_enter Tryd.func114, Tryd.ntmps114
  go_wp2_with fail
  refine (l01Below_any HC.out ys.length (by omega) (by omega)).mono ?_
  rintro e W1 ⟨x, rfl, hx0, hx1, h1, s1⟩
  obtain ⟨k, rfl⟩ : ∃ k : Nat, x = k := ⟨x.toNat, by omega⟩
  have hk : k < ys.length := by omega
  have hcell : W1.cell? ⟨G, k, none⟩ = some (.int .i64 (ys.getD k 0)) := (World.cell?_of_block (s1.block G hlt (fun e => hG (Option.some.inj e)))).trans (HY.out k hk)
  have H1 := Lib.hid h1
  have S1 := Lib.hid s1
  obtain ⟨y, hy⟩ : ∃ y, y = ys.getD k 0 := ⟨_, rfl⟩
  rw [← hy] at hcell
  have HYY := Lib.hid hy
  clear h1 s1 hy
  go_wp2
  go_ret
  exact ⟨k, hk, by (try rw [HYY.out]); rfl, H1.out, S1.out⟩
def picks (x y : Int) : List Int := [0, 1, 2, 999999999, 500000000, x, y]
theorem picks_rng {x y : Int} (hx : 0 ≤ x ∧ x < 1000000000) (hy : 0 ≤ y ∧ y < 1000000000) : ∀ k, k < 7 → 0 ≤ (picks x y).getD k 0 ∧ (picks x y).getD k 0 ≤ 999999999 := by
  intro k hk
  match k, hk with
  | 0, _ => exact ⟨by show (0 : Int) ≤ 0; omega, by show (0 : Int) ≤ 999999999; omega⟩
  | 1, _ => exact ⟨by show (0 : Int) ≤ 1; omega, by show (1 : Int) ≤ 999999999; omega⟩
  | 2, _ => exact ⟨by show (0 : Int) ≤ 2; omega, by show (2 : Int) ≤ 999999999; omega⟩
  | 3, _ => exact ⟨by show (0 : Int) ≤ 999999999; omega, by show (999999999 : Int) ≤ 999999999; omega⟩
  | 4, _ => exact ⟨by show (0 : Int) ≤ 500000000; omega, by show (500000000 : Int) ≤ 999999999; omega⟩
  | 5, _ => exact ⟨hx.1, by show x ≤ _; omega⟩
  | 6, _ => exact ⟨hy.1, by show y ≤ _; omega⟩
set_option maxRecDepth 100000 in
set_option maxHeartbeats 2000000 in
theorem l02Nat_any {lo : Nat} {a : Option Addr} {cap : Nat} {xs : List Int} {W : World} {C : Nat} (h : CurAt lo a cap xs W C) (hlw : lo ≤ W.heap.size) :
    Calls Tryd.prog 78 #[.pointer (some ⟨C, 0, none⟩), .int .i64 3] W fun e W' => ∃ m p c, e = .returned (.slice p (digs m).length c) ∧ (digs m).length ≤ 3 ∧ Own 3 W' W.heap.size (.slice p (digs m).length c) (digs m) ∧ CurAt lo a cap xs W' C ∧ Step C W W' := by
  have hCl : C < W.heap.size := by obtain ⟨i, hh, hi, hb⟩ := h.box; exact hb.lt
  have HC := Lib.hid h
  clear h
  go_enter Tryd.func78, Tryd.ntmps78
  go_wp2_with fail
  refine (l01Below_any (HC.out.keep (ba1 _ _)) 4 (by omega) (by omega)).mono ?_
  rintro e W1 ⟨x, rfl, hx0, hx1, h1, s1⟩
  have H1 := Lib.hid h1
  have S1 : Hid (Step C W W1) := (Step.of_below (ba1 _ _)).trans s1
  have O1 := Lib.hid (own_step (own_empty W) s1 hCl)
  clear h1 s1
  go_wp2
  go_loopw [5, 6] (fun o n wr => ∃ (ys : List Int) (z : Int), n = .int .i64 z ∧ 0 ≤ z ∧ (ys.length : Int) + z ≤ 3 ∧ Hid (Rng ys) ∧ Hid (Own 3 wr W.heap.size o ys) ∧ Hid (CurAt lo a cap xs wr C) ∧ Hid (Step C W wr)) (fun _ n _ => (intOf n).toNat)
  case atStart => exact ⟨[], x, rfl, hx0, by show (0 : Int) + x ≤ 3; omega, Rng.nil, O1, H1, S1⟩
  case round =>
    obtain ⟨ys, z, rfl, hz0, hyz, HR, HO, HK, HS⟩ := hrel
    obtain ⟨p, c, rfl, hform⟩ := HO.out.form
    have HF := Lib.hid hform
    clear hform
    by_cases hp : 0 < z
    · have hsz := HS.out.size
      go_wp2_with fail
      refine (l01Below_any HK.out 1000000000 (by omega) (by omega)).mono ?_
      rintro e W2 ⟨u, rfl, hu0, hu1, h2, s2⟩
      have H2 := Lib.hid h2
      have S2 := Lib.hid (HS.out.trans s2)
      have O2 := Lib.hid (own_step HO.out s2 hCl)
      clear h2 s2
      go_wp2_with fail
      refine (l01Below_any H2.out 1000000000 (by omega) (by omega)).mono ?_
      rintro e W3 ⟨v, rfl, hv0, hv1, h3, s3⟩
      have H3 := Lib.hid h3
      have S3 := Lib.hid (S2.out.trans s3)
      have O3 := Lib.hid (own_step O2.out s3 hCl)
      clear h3 s3
      have hsz3 := S3.out.size
      have hcells : ∀ j, j < (picks u v).length → (W3.alloc (.cells #[.int .i64 0, .int .i64 1, .int .i64 2, .int .i64 999999999, .int .i64 500000000, .int .i64 u, .int .i64 v] 3)).cell? ⟨W3.heap.size, j, none⟩ = some (.int .i64 ((picks u v).getD j 0)) := by
        intro j hj
        rw [World.cell?_alloc_at _ _ _ _ rfl]
        have hj5 : j < 7 := hj
        match j, hj5 with
        | 0, _ => rfl
        | 1, _ => rfl
        | 2, _ => rfl
        | 3, _ => rfl
        | 4, _ => rfl
        | 5, _ => rfl
        | 6, _ => rfl
      have HCE := Lib.hid hcells
      clear hcells
      go_wp2_with fail
      refine (l01Pick_any (H3.out.keep (ba1 _ _)) W3.heap.size (picks u v) (by omega) (by simp) HCE.out (by show 0 < 7; omega) (by show 7 ≤ 1000; omega)).mono ?_
      rintro e W4 ⟨k, hk, rfl, h4, s4⟩
      have hy2 := picks_rng (x := u) (y := v) ⟨hu0, hu1⟩ ⟨hv0, hv1⟩ k hk
      obtain ⟨y, hy⟩ : ∃ y, y = (picks u v).getD k 0 := ⟨_, rfl⟩
      rw [← hy] at hy2 ⊢
      have H4 := Lib.hid h4
      have S4 : Hid (Step C W W4) := (S3.out.trans (Step.of_below (ba1 _ _))).trans s4
      have O4 : Hid (Own 3 W4 W.heap.size (.slice p ys.length c) ys) := own_step (O3.out.below (ba1 _ _)) s4 hCl
      clear h4 s4 hy
      have hyl : ys.length + 1 ≤ 16777216 := by omega
      go_wp2_with (at_builtin; go_must (refine append_int O4.out (n := y) (by unfold In64; omega) hyl S4.out.size rfl _ _ rfl rfl rfl ?_); intro v' w1 hown1 hb1 hg1)
      have HO1 := Lib.hid hown1
      have hcn : (Value.slice p ys.length c).ownBlock ≠ some C := by
        intro e
        have := (O4.out.2.lt C e).1
        omega
      have HK1 : Hid (CurAt lo a cap xs w1 C) := by
        obtain ⟨i, hh, hi, t, hb⟩ := H4.out.box
        have hbl : C < W4.heap.size := (Array.getElem?_eq_some_iff.1 hb).1
        have hS := S4.out.size
        refine ⟨H4.out.low, ⟨i, hh, hi, t, ?_⟩, H4.out.bytes.step (lo := lo) ⟨hg1.os, hg1.tape, hg1.output, hg1.size, fun q hq => hg1.block q (by omega) (fun e => by have := (O4.out.2.lt q e.symm).1; omega)⟩ H4.out.apart, H4.out.apart, H4.out.few⟩
        rw [hg1.block C hbl (fun e => hcn e.symm)]; exact hb
      have HS1 : Hid (Step C W w1) := ⟨hg1.os.trans S4.out.os, hg1.tape.trans S4.out.tape, hg1.output.trans S4.out.output, Nat.le_trans S4.out.size hg1.size, fun q hq hn => (hg1.block q (Nat.lt_of_lt_of_le hq S4.out.size) (fun e => by have := (O4.out.2.lt q e.symm).1; omega)).trans (S4.out.block q hq hn)⟩
      clear hown1 hb1 hg1
      go_wp2
      go_roundw
      case rel => exact ⟨_, z - 1, rfl, by omega, by rw [List.length_append]; simp; omega, HR.out.app (Rng.cons hy2 Rng.nil), HO1, HK1, HS1⟩
      case measure => simp [intOf]; omega
    · go_wp2_with fail
      refine (l02Trim_any p c ys _ HF.out (by omega) HR.out).mono ?_
      rintro e w' ⟨⟨k, hk, rfl, htk⟩, rfl⟩
      have HT := Lib.hid htk
      clear htk
      go_wp2
      go_ret
      have h2 := own_take HO.out hk
      rw [HT.out] at h2
      have h3 := congrArg List.length HT.out
      rw [List.length_take, Nat.min_eq_left hk] at h3
      exact ⟨val ys, p, c, by rw [h3]; rfl, by omega, h2, HK.out, HS.out⟩
set_option maxRecDepth 100000 in
set_option maxHeartbeats 1000000 in
theorem makeNat_any (a : Option Addr) (cap : Nat) (xs : List Int) (w : World) (h : BytesAt w a cap xs) (hl : xs.length ≤ 1048576) (n : Nat) (hn : n ≤ 100) :
    Calls Tryd.prog 37 #[.slice a xs.length cap, .int .i64 n] w fun e W' => ∃ m p c, e = .returned (.slice p (digs m).length c) ∧ (digs m).length ≤ 3 ∧ Own 3 W' w.heap.size (.slice p (digs m).length c) (digs m) ∧ Below w.heap.size w W' := by
  have hmul : (4 : Int) * n = ((4 * n : Nat) : Int) := by omega
  have HM := Lib.hid hmul
  clear hmul
  go_enter Tryd.func37, Tryd.ntmps37
  go_wp2_with fail
  try rw [HM.out]
  refine (l31New_any a cap xs _ h hl (4 * n) (by omega)).mono ?_
  rintro e W1 ⟨C, rfl, h1, b1⟩
  have H1 := Lib.hid h1
  have B1 := Lib.hid b1
  clear h1 b1
  go_wp2_with fail
  refine (l02Nat_any H1.out B1.out.size).mono ?_
  rintro e W2 ⟨m, p, c, rfl, hm, o2, _, s2⟩
  have B2 : Hid (Below w.heap.size w W2) := B1.out.trans (s2.below H1.out.low B1.out.size)
  have O2 := Lib.hid (o2.rebase B1.out.size)
  clear o2 s2
  go_wp2
  go_ret
  exact ⟨m, p, c, rfl, hm, O2.out, B2.out⟩
/-- the second number: not zero -/
theorem six_ok {m : Nat} (h : (digs m).length ≤ 3) : natOkB (digs m ++ [6]) = true := by
  unfold natOkB
  have h1 : decide ((digs m ++ [6]).length ≤ 60) = true := decide_eq_true (by rw [List.length_append, List.length_singleton]; omega)
  have h2 : lastOk (digs m ++ [6]) = true := by
    rw [lastOk_at (by rw [List.length_append, List.length_singleton]; omega)]
    refine decide_eq_true ?_
    have e : (digs m ++ [6])[(digs m ++ [6]).length - 1]'(by rw [List.length_append, List.length_singleton]; omega) = 6 := by
      rw [List.getElem_append_right (by rw [List.length_append, List.length_singleton]; omega)]
      simp
    rw [e]; decide
  have h3 : (digs m ++ [6]).all digB = true := by
    rw [List.all_append]
    have h4 : (digs m).all digB = true := by
      rw [List.all_eq_true]
      intro x hx
      have := digs_rng m x hx
      unfold digB inB
      simp
      omega
    rw [h4]; rfl
  rw [h1, h2, h3]; rfl
theorem fmt_parse {m : Nat} (h : (digs m).length ≤ 3) : pnOk (fmtNat (digs m)) = true ∧ pnD (fmtNat (digs m)) = digs m := by
  have hok : natOkB (digs m) = true := digs_ok (by omega)
  have e : fmtNat (digs m) = ⟨(Lib.decDigits m).toArray⟩ := by
    rw [fmtNat_ok hok]
    unfold dT
    rw [List.drop_zero, val_digs]
  have hlt : m < 10 ^ (9 * 3) := by rw [← pw_ten]; exact digs_lt_pw h
  have hlen := dec_len 27 m (by omega) hlt
  have hk : pnOk ⟨(Lib.decDigits m).toArray⟩ = true := by
    have hd : isDigits ⟨(Lib.decDigits m).toArray⟩ = true := by
      unfold isDigits
      have h1 := allDig_dec m
      have h2 := dec_pos_len m
      rw [show (⟨(Lib.decDigits m).toArray⟩ : ByteArray).size = (Lib.decDigits m).length from List.size_toArray, decide_eq_true h2]
      simpa using h1
    have hs : (⟨(Lib.decDigits m).toArray⟩ : ByteArray).size = (Lib.decDigits m).length := List.size_toArray
    unfold pnOk
    rw [hd, hs, decide_eq_true (show (Lib.decDigits m).length ≤ 540 by omega)]
    rcases Nat.eq_zero_or_pos m with h0 | h0
    · rw [h0, decDigits_small (by decide)]; rfl
    · rw [decide_eq_true (show (⟨(Lib.decDigits m).toArray⟩ : ByteArray).data.toList.head? ≠ some 48 from dec_head h0)]; simp
  rw [e]
  refine ⟨hk, ?_⟩
  rw [pnD_yes hk]
  show digs (rd (Lib.decDigits m)) = _
  rw [rd_dec]
section
variable {m : Nat} {ys : List Int} (hm : (digs m).length ≤ 3) (hy : natOkB ys = true) (hp : 0 < ys.length)
include hm hy hp
theorem nats_facts : natDivQ (digs m) ys = digs (m / val ys) ∧ natDivR (digs m) ys = digs (m % val ys) ∧ (digs (m / val ys)).length ≤ 3 ∧ (digs (m % val ys)).length ≤ 3 ∧
    natMulL (digs (m / val ys)) ys = digs (m / val ys * val ys) ∧ (digs (m / val ys * val ys)).length ≤ 3 ∧ natAddL (digs (m / val ys * val ys)) (digs (m % val ys)) = digs m ∧
    natCmpI (digs m) (digs m) = 0 ∧ natCmpI (digs (m % val ys)) ys = -1 ∧ natGcdL ys (digs m) = natGcdL (digs m) ys ∧ natCmpI (natGcdL (digs m) ys) (natGcdL (digs m) ys) = 0 := by
  have hv : 0 < val ys := by
    have := val_drop_pos hy hp
    rwa [List.drop_zero] at this
  obtain ⟨V, hV⟩ : ∃ V, V = val ys := ⟨_, rfl⟩
  rw [← hV] at hv ⊢
  have hle : ∀ q, q ≤ m → (digs q).length ≤ 3 := fun q hq => digs_len_le (Nat.lt_of_le_of_lt hq (digs_lt_pw hm))
  have hok : ∀ q, q ≤ m → natOkB (digs q) = true := fun q hq => digs_ok (by have := hle q hq; omega)
  have hq : m / V ≤ m := Nat.div_le_self _ _
  have hr : m % V ≤ m := Nat.mod_le _ _
  have hmul : m / V * V ≤ m := Nat.div_mul_le_self _ _
  have hB : natDivB (digs m) ys = true := by unfold natDivB; rw [hok m (Nat.le_refl _), hy, decide_eq_true hp]; rfl
  have hsame : ∀ zs, natCmpI zs zs = 0 := by
    intro zs
    unfold natCmpI
    split
    · rename_i hz
      simp only [Bool.and_eq_true] at hz
      rw [cmp_lt hz.1 hz.1]
      unfold cmpN
      rw [if_neg (Nat.lt_irrefl _), if_neg (Nat.lt_irrefl _)]
    · rfl
  refine ⟨by unfold natDivQ; rw [if_pos hB, val_digs, ← hV], by unfold natDivR; rw [if_pos hB, val_digs, ← hV], hle _ hq, hle _ hr, ?_, hle _ hmul, ?_, hsame _, ?_, ?_, hsame _⟩
  · unfold natMulL
    rw [hok _ hq, hy, val_digs, ← hV]
    show capD _ = _
    exact capD_digs (by have := hle _ hmul; omega)
  · unfold natAddL
    rw [hok _ hmul, hok _ hr, val_digs, val_digs, Nat.div_add_mod']
    show capD _ = _
    exact capD_digs (by omega)
  · unfold natCmpI
    rw [hok _ hr, hy]
    show cmpL _ _ = _
    rw [cmp_lt (hok _ hr) hy, val_digs, ← hV]
    unfold cmpN
    rw [if_pos (Nat.mod_lt _ hv)]
  · unfold natGcdL
    rw [hok m (Nat.le_refl _), hy, Nat.gcd_comm]
end
end Go.Proofs.YtjklefkkdaelnaaDoor
