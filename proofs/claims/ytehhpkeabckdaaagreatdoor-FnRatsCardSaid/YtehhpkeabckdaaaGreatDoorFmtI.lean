/- FormatNat of the program: a strings.Builder within a range over slices.Backward. -/
import Derived.Test.YtehhpkeabckdaaaGreatDoorFmtW
import Derived.Test.YtehhpkeabckdaaaGreatDoorNatInt2
namespace Go.Proofs.YtehhpkeabckdaaaGreatDoor
set_option linter.unusedVariables false
set_option linter.unusedSimpArgs false
open Go.RowKit Go.Shelf
attribute [local go_sem] Oper.semAt_some
/-- the top limb, and what has come behind it -/
def vq (t : Nat) (l : List (Nat × Dig)) : Nat := l.foldl (fun n x => n * 1000000000 + x.2.1.toNat) t
theorem vq_snoc (t : Nat) (l : List (Nat × Dig)) (x : Nat × Dig) : vq t (l ++ [x]) = vq t l * 1000000000 + x.2.1.toNat := by simp [vq]
theorem vq_pos {t : Nat} (ht : 0 < t) (l : List (Nat × Dig)) : 0 < vq t l := by
  induction l using snoc_ind with
  | nil => exact ht
  | snoc l x ih => rw [vq_snoc]; omega
theorem vq_eq (t : Nat) (l : List (Nat × Dig)) : vq t l = t * pw l.length + vp l := by
  induction l using snoc_ind with
  | nil => simp [vq, vp, pw]
  | snoc l x ih =>
    rw [vq_snoc, ih, vp_snoc, List.length_append, List.length_singleton, pw_succ, Nat.add_mul, Nat.mul_assoc, Nat.mul_comm (pw l.length), Nat.add_assoc]
theorem vq_lt {t : Nat} (ht : t < 1000000000) (l : List (Nat × Dig)) : vq t l < 10 ^ (9 * (l.length + 1)) := by
  rw [← pw_ten]
  induction l using snoc_ind with
  | nil => simp [vq, pw]; exact ht
  | snoc l x ih =>
    have := x.2.2
    rw [vq_snoc, List.length_append, List.length_singleton, pw_succ]
    omega
/-- the text of the top limb and what has come -/
def qT (t : Nat) (l : List (Nat × Dig)) : List UInt8 := Lib.decDigits (vq t l)
theorem qT_snoc {t : Nat} (ht : 0 < t) (l : List (Nat × Dig)) (x : Nat × Dig) : qT t (l ++ [x]) = qT t l ++ padD 9 x.2.1.toNat := by
  have hx := x.2.2
  unfold qT
  rw [vq_snoc, ← dec_split 9 _ _ (vq_pos ht l) (by omega)]
  congr 1
  omega
theorem qT_len {t : Nat} (ht : t < 1000000000) (l : List (Nat × Dig)) : (qT t l).length ≤ 9 * (l.length + 1) := dec_len _ _ (by omega) (vq_lt ht l)
theorem qT_all {xs : List Int} (hok : natOkB xs = true) (hl : 0 < xs.length) {zs : List Dig} (hz : zs.map (·.1) = xs.take (xs.length - 1)) {t : Nat} (ht : (t : Int) = xs[xs.length - 1]) :
    (⟨(qT t (bwd zs 0)).toArray⟩ : ByteArray) = dT xs 0 := by
  have hzl : zs.length = xs.length - 1 := by
    have := congrArg List.length hz
    simp at this; omega
  unfold qT dT
  rw [vq_eq, vp_bwd zs _ 0 rfl (Nat.zero_le _), List.drop_zero, hz, bwd_length, List.drop_zero, Nat.sub_zero, hzl]
  have e : xs = xs.take (xs.length - 1) ++ [xs[xs.length - 1]] := by
    conv => lhs; rw [← List.take_append_drop (xs.length - 1) xs]
    congr 1
    rw [List.drop_eq_getElem_cons (by omega), show xs.length - 1 + 1 = xs.length by omega, List.drop_length]
  have hv := congrArg val e
  rw [val_append, List.length_take, Nat.min_eq_left (by omega)] at hv
  rw [hv]
  have h1 : val [xs[xs.length - 1]] = t := by
    rw [← ht]
    simp [val]
  rw [h1, Nat.mul_comm, Nat.add_comm]

theorem writeString_k (B b : Nat) (bs : List Value) (s : ByteArray) (w : World) (h : Lib.IsBuilderF 72 5 B b bs w) (hlen : bs.length + s.size ≤ 140737488355328) (hBw : B ≤ w.heap.size) :
    Calls Tryz.prog 50 #[.pointer (some ⟨b, 0, none⟩), .string s] w fun e w' => e = .returned (.tuple #[.int .i64 s.size, .nilIface]) ∧ (Lib.BuilderAtF 72 5 B b (.pointer (some ⟨b, 0, none⟩)) (bs ++ Lib.strCells s) w' ∧ Below B w w' ∧ Lib.OthersKept 5 (some b) w w') :=
  Any.Builder_WriteString_k (P := Tryz.prog) (ρ := Tryz.lays105_ren) { Tryz.lays105 with } Tryz.Builder_Extra_105 B b bs s w h hlen hBw
theorem builderString_k (B b : Nat) (l : List UInt8) (w : World) (h : Lib.IsBuilderF 72 5 B b (Lib.byteCells l) w) (hBw : B ≤ w.heap.size) :
    Calls Tryz.prog 54 #[.pointer (some ⟨b, 0, none⟩)] w fun e w' => e = .returned (.string ⟨l.toArray⟩) ∧ (Lib.IsBuilderF 72 5 B b (Lib.byteCells l) w' ∧ Below B w w' ∧ Lib.OthersKept 5 (some b) w w') :=
  Any.Builder_String_any_k (P := Tryz.prog) (ρ := Tryz.lays105_ren) { Tryz.lays105 with } Tryz.Builder_Extra_105 B b l w h hBw
theorem keeps_of_below {W W' : World} (h : Below W.heap.size W W') : KeepsOthers W W' := ⟨h.size, fun k o hk _ => (h.block k (Array.getElem?_eq_some_iff.1 hk).1).trans hk⟩
theorem bf_same {T e : TypeId} {B b : Nat} {bs : List Value} {W W' : World} (h : Lib.IsBuilderF T e B b bs W) (hs : ∀ (k : Nat) (o : Obj), W.heap[k]? = some o → o.isCells = true → W'.heap[k]? = some o) : Lib.IsBuilderF T e B b bs W' := by
  have key : ∀ p, Lib.BuilderAtF T e B b p bs W → Lib.BuilderAtF T e B b p bs W' := by
    rintro p ⟨hB, v, hb, hown, hne⟩
    refine ⟨hB, v, hs _ _ hb rfl, ⟨hown.1, ?_⟩, hne⟩
    rcases hown.2 with hn | ⟨g, cap, cur, fz, hv, hbg, hg, rest⟩
    · exact .inl hn
    · exact .inr ⟨g, cap, cur, fz, hv, hbg, hs _ _ hg rfl, rest⟩
  exact Or.imp (key _) (key _) h
theorem bf_below {T e : TypeId} {B b : Nat} {bs : List Value} {W W' : World} (h : Lib.IsBuilderF T e B b bs W) (hb : Below W.heap.size W W') : Lib.IsBuilderF T e B b bs W' :=
  bf_same h fun k o hk _ => (hb.block k (Array.getElem?_eq_some_iff.1 hk).1).trans hk
theorem bf_block {T e : TypeId} {B b : Nat} {bs : List Value} {W : World} (h : Lib.IsBuilderF T e B b bs W) : ∃ cs, W.heap[b]? = some (.cells cs T (0, 0)) := by
  rcases h with ⟨_, v, hb, _⟩ | ⟨_, v, hb, _⟩ <;> exact ⟨_, hb⟩
theorem keeps_of_others {T e : TypeId} {B b : Nat} {bs : List Value} {W W' : World} (h : Lib.IsBuilderF T e B b bs W) (ho : Lib.OthersKept e (some b) W W') (hsz : W.heap.size ≤ W'.heap.size) : KeepsOthers W W' :=
  ⟨hsz, fun k o hk hc => ho k o hk (fun e1 => by
    obtain ⟨cs, hb⟩ := bf_block h
    obtain rfl := Option.some.inj e1
    rw [hb] at hk
    obtain rfl := Option.some.inj hk
    cases hc) (fun c fz e1 => by subst e1; cases hc)⟩

section
variable (a : Option Addr) (ca : Nat) (xs : List Int) (w : World) (ha : IntsAt w a ca xs) (hn : xs.length ≤ 1048576) (htab : Lib.TabIs Tryz.prog w "internal/strconv.uint64pow10" .u64 Lib.pow10Tab)
include ha hn htab
set_option maxRecDepth 100000 in
set_option maxHeartbeats 8000000 in
theorem formatNat_in (hok : natOkB xs = true) (hl : 0 < xs.length) :
    CallsIn Fence.wide 7 Tryz.prog 24 #[.slice a xs.length ca] w fun e w' => e = .returned (.string (dT xs 0)) ∧ Below w.heap.size w w' := by
  obtain ⟨b, off, rfl, hc⟩ := ha.get (k := xs.length - 1) (by omega)
  obtain ⟨zs, hz⟩ := digs_of_rng ((ok_rng hok).take (xs.length - 1))
  have hzl : zs.length = xs.length - 1 := by
    have := congrArg List.length hz
    simp at this; omega
  have hr := (ok_rng hok).at (k := xs.length - 1) (by omega)
  obtain ⟨t, ht⟩ : ∃ t : Nat, (t : Int) = xs[xs.length - 1] := ⟨xs[xs.length - 1].toNat, by omega⟩
  have htp : 0 < t := by have := ok_last hok hl; omega
  have htl : t < 1000000000 := by omega
  have hb : b < w.heap.size := World.block_lt_of_cell? w _ hc
  have hcells : ∀ j (h : j < zs.length), w.cell? ⟨b, off + j, none⟩ = some (.int .i64 zs[j].1) := by
    intro j h
    obtain ⟨b2, off2, hbo, hc2⟩ := ha.get (k := j) (by omega)
    obtain ⟨rfl, rfl⟩ : b2 = b ∧ off2 = off := by simpa using hbo.symm
    rw [hc2]
    have : xs[j]'(by omega) = zs[j].1 := by
      have h2 : (zs.map (·.1))[j]'(by simpa using h) = (xs.take (xs.length - 1))[j]'(by simp; omega) := by simp only [hz]
      simpa using h2.symm
    rw [this]
  have hNok : ∀ W : World, IntsAt W (some ⟨b, off, none⟩) ca xs → CallsIn Fence.wide (7 - 1) Tryz.prog 47 #[.slice (some ⟨b, off, none⟩) xs.length ca] W fun e w' => e = .returned (.bool true) ∧ W = w' := fun W hW => callsIn_wide.2 ((implNatOk_q _ _ _ _ hW hn).mono fun _ _ ⟨h1, h2⟩ => ⟨by rw [h1, hok], h2⟩)
  have hFmt : ∀ (n : Nat) (W : World) (x : Int), Below w.heap.size w W → In64 x → CallsIn Fence.wide n Tryz.prog 51 #[.int .i64 x] W fun e W' => e = .returned (.string (itoaB x)) ∧ Below W.heap.size W W' := fun n W x hW hx => callsIn_wide.2 (implFormatInt_any x W hx (tabB htab hW))
  have hin : In64 xs[xs.length - 1] := by unfold In64; omega
  have hc1 : (w.alloc (.cells #[.pointer none, .slice none 0 0] 72)).cell? ⟨b, off + (xs.length - 1), none⟩ = some (.int .i64 xs[xs.length - 1]) := (ba1 w _).cell (p := ⟨b, off + (xs.length - 1), none⟩) hb |>.trans hc
  have h0' : ((xs.length : Int) == 0) = false := beq_eq_false_iff_ne.2 (by omega)
  have hroom : xs.length ≤ ca := ha.room
  have HA := Lib.hid ha
  have HC := Lib.hid hcells
  have HN := Lib.hid hNok
  have HF := Lib.hid hFmt
  have HZ := Lib.hid hz
  have HZL := Lib.hid hzl
  have HOK := Lib.hid hok
  have HT := Lib.hid ht
  clear ha hz hcells hok hNok hFmt hzl hr ht htab
  refine callsIn_of_wp_marks Tryz.func24 rfl trivial ?_ rfl
  simp only [Tryz.ntmps24, List.size_toArray, List.length_cons, List.length_nil, Nat.reduceAdd, Nat.reduceSub, Array.replicate_succ, Array.replicate_zero, List.push_toArray, List.append_toArray, List.nil_append, List.cons_append]
  gi_wp2_with (refine ⟨trivial, ?_⟩; gi_at_call 47; refine (HN.out _ HA.out).mono ?_; rintro e w' ⟨rfl, rfl⟩)
  refine ⟨trivial, ?_⟩
  refine (HF.out _ _ _ (ba1 w _) hin).mono ?_
  rintro e W1 ⟨rfl, b1⟩
  have h1 : Lib.IsBuilderF 72 5 w.heap.size w.heap.size [] W1 := bf_below (Lib.IsBuilderF.of (Lib.fresh_isBuilder 72 5 w)) b1
  have hB1 : Below w.heap.size w W1 := bstep (ba1 _ _) b1
  have hz9 := itoa_size xs[xs.length - 1] (by have := HT.out; omega) (by have := HT.out; omega)
  clear hc hc1 b1 hin
  have H1 := Lib.hid h1
  have HB1 := Lib.hid hB1
  clear h1 hB1
  gi_wp2_with (refine ⟨trivial, ?_⟩; gi_at_call 50; refine (callsIn_wide.2 (writeString_k w.heap.size w.heap.size [] (itoaB xs[xs.length - 1]) _ H1.out (by simp; omega) HB1.out.size)).mono ?_; rintro e W2 ⟨rfl, h2, b2, o2⟩)
  have hB2 : Below w.heap.size w W2 := HB1.out.trans b2
  have h2' : Lib.IsBuilderF 72 5 w.heap.size w.heap.size (Lib.byteCells (qT t [])) W2 := by
    refine .inr ?_
    have e1 : itoaB xs[xs.length - 1] = ⟨(qT t []).toArray⟩ := by rw [← HT.out, itoaB_nat]; rfl
    rw [e1, List.nil_append, Lib.strCells_eq] at h2
    exact h2
  clear h2 b2 o2
  have H2 := Lib.hid h2'
  have HB2 := Lib.hid hB2
  clear h2' hB2
  refine ⟨trivial, ?_⟩
  refine (backward_in Fence.wide (7 - 1) trivial rfl _ _ _ _).mono ?_
  rintro e w' ⟨rfl, rfl⟩
  gi_wp2
  obtain ⟨A, hA⟩ : ∃ A, A = W2.alloc (.cells #[.slice (some ⟨b, off, none⟩) (xs.length - 1) ca] 23) := ⟨_, rfl⟩
  have hAs : A.heap.size = W2.heap.size + 1 := by rw [hA]; simp
  have hB0 : Below w.heap.size w A := by rw [hA]; exact HB2.out.alloc HB2.out.size _
  have hbx : A.heap[W2.heap.size]? = some (.cells #[.slice (some ⟨b, off, none⟩) (xs.length - 1) ca] 23 (0, 0)) := by rw [hA]; exact World.alloc_heap_new W2 _
  have hc3 : A.cell? ⟨W2.heap.size, 0, none⟩ = some (.slice (some ⟨b, off, none⟩) zs.length ca) := by rw [Lib.cell_of_heap hbx, HZL.out]; rfl
  have hI0 : Lib.IsBuilderF 72 5 w.heap.size w.heap.size (Lib.byteCells (qT t [])) A := by rw [hA]; exact bf_below H2.out (ba1 _ _)
  have hwA : w.heap.size < W2.heap.size := by
    obtain ⟨cs, hcs⟩ := bf_block H2.out
    exact (Array.getElem?_eq_some_iff.1 hcs).1
  rw [← hA]
  clear hA
  refine wpIn_rangeFunc_ownG (n := 7) rfl (by omega) (gf := 74) (lb := #[.pointer (some ⟨W2.heap.size, 0, none⟩)]) rfl trivial (enters_of Tryz.func74 (by kernel_rfl) rfl)
    (backward_stops Fence.wide (7 - 1) trivial rfl (by omega) W2.heap.size w.heap.size (some ⟨b, off, none⟩) ca zs (by rw [HZL.out]; omega) A (by omega) (by omega) hc3 (.inr ⟨b, off, rfl, hb, fun j h => (hB0.cell (p := ⟨b, off + j, none⟩) hb).trans (HC.out j h)⟩))
    (fun h k => KB.trans h k)
    (fun W l o o' hl' h1 h2 h3 => ⟨belowK_b (n₀ := w.heap.size) (w := A) (by omega) W l o o' hl' h1 h2 h3, (belowK_b (n₀ := A.heap.size) (w := A) (Nat.le_refl _) W l o o' hl' h1 h2 h3).cell (p := ⟨W2.heap.size, 0, none⟩) (by show W2.heap.size < _; omega)⟩)
    (Below.refl _ _) (fun _ => rfl)
    (fun pre W => (Lib.IsBuilderF 72 5 w.heap.size w.heap.size (Lib.byteCells (qT t pre)) W ∧ W.heap[W2.heap.size]? = some (.cells #[.slice (some ⟨b, off, none⟩) (xs.length - 1) ca] 23 (0, 0))) ∧ Below w.heap.size w W)
    (fun _ _ _ => False)
    (OwnFrom.and (fun s W W' row hs hg hr => ⟨bf_same hs.1 (fun k o hk ho => (grownBy_keeps_cells hg (fun r e => (hr r e).2) hk ho).trans hk), (grownBy_keeps_cells hg (fun r e => (hr r e).2) hs.2 rfl).trans hs.2⟩) (ownFrom_below (Nat.le_refl _) (by omega)))
    (fun c => fun s W W' row hs _ _ => hs)
    ⟨⟨hI0, hbx⟩, hB0⟩
    (fun x => { tmps := #[.slice (some ⟨b, off, none⟩) xs.length ca, undef, .string ⟨#[]⟩, .pointer (some ⟨w.heap.size, 0, none⟩), .int .i64 (↑xs.length - 1), undef, .int .i64 x.2.1, .slice (some ⟨b, off, none⟩) xs.length ca, .bool true, .bool false, .slice (some ⟨b, off, none⟩) xs.length ca, .int .i64 ↑xs.length, .bool false, .agg #[.pointer none, .slice none 0 0], .slice (some ⟨b, off, none⟩) xs.length ca, .int .i64 ↑xs.length, .int .i64 (↑xs.length - 1), .slice (some ⟨b, off, none⟩) xs.length ca, .int .i64 (↑xs.length - 1), .pointer (some ⟨b, off + (xs.length - 1), none⟩), .int .i64 xs[xs.length - 1], .string (itoaB xs[xs.length - 1]), .tuple #[.int .i64 ↑(itoaB xs[xs.length - 1]).size, .nilIface], .slice (some ⟨b, off, none⟩) xs.length ca, .int .i64 (↑xs.length - 1), .slice (some ⟨b, off, none⟩) (xs.length - 1) ca, .func (.func 74) #[] #[.pointer (some ⟨W2.heap.size, 0, none⟩)], .int .i64 (x.1 : Int), .int .i64 x.2.1, undef, undef, undef, undef, undef], defers := [] }) ?assign ?body ?done ?stop
  case assign =>
    intro l x W K hK
    gi_wp2
    exact hK
  case body =>
    rintro l pre x W ⟨⟨hb1, hbx1⟩, hBW⟩ hlen
    have hx0 := x.2.2.1
    have hx1 := x.2.2.2
    have H1 := Lib.hid hb1
    have HX1 := Lib.hid hbx1
    have HBW := Lib.hid hBW
    clear hb1 hbx1 hBW hbx hc3 hI0 hB0
    have hz9 := itoa_size x.2.1 hx0 hx1
    have hl9 := limb_size x.2.1 hx0 hx1
    have hq9 := qT_len htl pre
    have hzz := HZL.out
    gi_wp2_with (refine ⟨trivial, ?_⟩; gi_at_call 51; refine (CallsIn.inRound l (HF.out _ _ x.2.1 HBW.out (by unfold In64; omega))).mono ?_; rintro e W3 ⟨rfl, b3⟩)
    refine ⟨trivial, ?_⟩
    refine (CallsIn.inRound l (callsIn_wide.2 (implPadZeros_any (itoaB x.2.1) 9 _ (by omega) (by unfold In64; omega)))).mono ?_
    rintro e W4 ⟨rfl, b4⟩
    have h34 : Below W.heap.size W W4 := b3.trans (b4.mono b3.size)
    have h4 : Lib.IsBuilderF 72 5 w.heap.size w.heap.size (Lib.byteCells (qT t pre)) W4 := bf_below H1.out h34
    have hB4 : Below w.heap.size w W4 := HBW.out.trans (h34.mono HBW.out.size)
    have hx4 := (h34.block W2.heap.size (Array.getElem?_eq_some_iff.1 HX1.out).1).trans HX1.out
    have H34 := Lib.hid h34
    have H4 := Lib.hid h4
    have HB4 := Lib.hid hB4
    have HX4 := Lib.hid hx4
    clear b3 b4 h34 h4 hB4 hx4
    gi_wp2_with (refine ⟨trivial, ?_⟩; gi_at_call 50; refine (CallsIn.inRound l (callsIn_wide.2 (writeString_k w.heap.size w.heap.size _ (padB (itoaB x.2.1) 9) _ H4.out (by rw [Lib.byteCells_length]; omega) HB4.out.size))).mono ?_; rintro e W5 ⟨rfl, h5, b5, o5⟩)
    have hx5 := o5 W2.heap.size _ HX4.out (by intro e1; have := Option.some.inj e1; omega) (by intro c fz e1; cases e1)
    refine ⟨((keeps_of_below H34.out).trans (keeps_of_others H4.out o5 b5.size)).from _, ⟨(H34.out.mono HBW.out.size).trans b5, World.cell?_of_block (hx5.trans HX1.out.symm)⟩, ⟨?_, hx5⟩, HB4.out.trans b5⟩
    refine .inr ?_
    have e1 : padB (itoaB x.2.1) 9 = ⟨(padD 9 x.2.1.toNat).toArray⟩ := limb_text _ hx0 hx1
    rw [e1, Lib.strCells_eq, ← Lib.byteCells_append, ← qT_snoc htp pre x] at h5
    exact h5
  case done =>
    rintro D ys W hD rfl ⟨⟨hb1, hbx1⟩, hBW⟩ hK
    have HQ := Lib.hid (qT_all HOK.out hl HZ.out HT.out)
    gi_wp2_with (refine ⟨trivial, ?_⟩; gi_at_call 54; refine (callsIn_wide.2 (builderString_k w.heap.size w.heap.size _ _ hb1 hBW.size)).mono ?_; rintro e W6 ⟨rfl, -, b6, o6⟩)
    have hK6 := o6 D _ hK (by intro e1; have := Option.some.inj e1; omega) (by intro c fz e1; cases e1)
    refine ⟨by simp, .inl ⟨_, _, rfl, run_takeDeferred hK6, ?_⟩⟩
    refine ⟨.string ⟨(qT t (bwd zs 0)).toArray⟩, ?_, by rw [HQ.out], (hBW.trans b6).trans (belowK_b (n₀ := w.heap.size) (w := A) (by omega) _ D _ _ hD hK6 rfl rfl)⟩
    simp [results, Tryz.results24, go_sem]
  case stop =>
    rintro D c pre W hD _ h
    exact h.elim
set_option maxRecDepth 100000 in
set_option maxHeartbeats 2000000 in
theorem implFormatNat_any : Calls Tryz.prog 24 #[.slice a xs.length ca] w fun e w' => e = .returned (.string (fmtNat xs)) ∧ Below w.heap.size w w' := by
  have HA := Lib.hid ha
  by_cases hok : natOkB xs = true
  case neg =>
    have hno := Bool.eq_false_iff.2 hok
    clear ha
    rw [fmtNat_no hno]
    go_enter Tryz.func24, Tryz.ntmps24
    go_wp2_with fail
    refine (implNatOk_q _ _ _ _ HA.out hn).mono ?_
    rintro e w' ⟨rfl, rfl⟩
    rw [hno]
    go_wp2
    go_ret
    exact ⟨rfl, Below.refl _ _⟩
  by_cases hl : 0 < xs.length
  case neg =>
    have : xs = [] := List.eq_nil_of_length_eq_zero (by omega)
    subst this
    clear ha
    have HN : Hid (Calls Tryz.prog 47 #[.slice a ([] : List Int).length ca] w fun e w' => e = .returned (.bool true) ∧ w = w') := (implNatOk_q _ _ _ _ HA.out hn).mono fun _ _ ⟨h1, h2⟩ => ⟨by rw [h1, hok], h2⟩
    rw [fmtNat_nil]
    go_enter Tryz.func24, Tryz.ntmps24
    go_wp2_with fail
    refine HN.out.mono ?_
    rintro e w' ⟨rfl, rfl⟩
    go_wp2
    go_ret
    exact ⟨rfl, Below.refl _ _⟩
  rw [fmtNat_ok hok]
  exact callsIn_wide.1 (formatNat_in a ca xs w ha hn htab hok hl)
end
end Go.Proofs.YtehhpkeabckdaaaGreatDoor
