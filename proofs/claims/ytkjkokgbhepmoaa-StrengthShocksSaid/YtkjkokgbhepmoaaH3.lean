import Derived.Test.YtkjkokgbhepmoaaH2
import Derived.Deep.RegionWith
import Derived.Deep.DeepCutAuto
import Derived.Shelf.Abstract
import Derived.KernelRfl
import Derived.Laws.EntriesVeiled
import Derived.RangeFuncNested
import Derived.RangeFuncBound
import Derived.RangeFuncCalls
import Derived.RangeFuncLeaves
import Derived.Shelf.RegionOpen
import Derived.WalkKit
import Derived.OwnWalkIn
import Derived.TacticsInMore
import Derived.LoopNIn
import Derived.LoopIn
set_option linter.unusedVariables false
set_option linter.unusedSimpArgs false
namespace Go.Proofs.Ytkjkokgbhepmoaa.PB
open Go.RowKit Go.Proofs.YtkjkokgbhepmoaaW.PrintWords Go.Proofs.YtkjkokgbhepmoaaW.PrintLast Go.Proofs.YtkjkokgbhepmoaaW.PrintMore
theorem sumTo_congr {f g : Nat → Int} : ∀ n, (∀ j, j < n → f j = g j) → sumTo f n = sumTo g n := by
  intro n
  induction n with
  | zero => intro _; rfl
  | succ n ih => intro h; simp only [sumTo]; rw [ih fun j hj => h j (by omega), h n (by omega)]
theorem sumTo_le {f g : Nat → Int} : ∀ n, (∀ j, j < n → f j ≤ g j) → sumTo f n ≤ sumTo g n := by
  intro n
  induction n with
  | zero => intro _; exact Int.le_refl _
  | succ n ih => intro h; have := ih fun j hj => h j (by omega); have := h n (by omega); simp only [sumTo]; omega
theorem sumTo_zero : ∀ n, sumTo (fun _ => 0) n = 0 := by
  intro n
  induction n with
  | zero => rfl
  | succ n ih => simp only [sumTo, ih]; omega
theorem iotaA_at {n j : Nat} (h : j < n) : (iotaA n)[j]! = (j : Int) := by
  rw [getElem!_pos _ j (by rw [iotaA_size]; exact h)]; simp [iotaA]
theorem lsum_sumTo (f : Int → Int) (n : Nat) : MeanMath.lsum f (iotaA n).toList = sumTo (fun j => f (j : Int)) n := by
  have h := sumTo_lsum f (iotaA n) n (by rw [iotaA_size]; exact Nat.le_refl _)
  rw [List.take_of_length_le (by rw [Array.length_toList, iotaA_size]; exact Nat.le_refl _)] at h
  rw [← h]
  exact sumTo_congr n fun j hj => by rw [iotaA_at hj]
structure GOk (l : List S27) : Prop where
  n12 : l.length ≤ 12
  at_ : ∀ j : Nat, j < l.length → 0 ≤ (rd_T27 l (j : Int)).f0 ∧ (rd_T27 l (j : Int)).f0 ≤ (rd_T27 l (j : Int)).f1 ∧ (rd_T27 l (j : Int)).f1 ≤ 120000000
def wS (F : S27 → Int) (l : List S27) (i : Nat) : Int := sumTo (fun j => F (rd_T27 l (j : Int))) i
theorem wS_lsum (l : List S27) : wS S27.f0 l l.length = MeanMath.lsum S27.f0 l := by
  rw [← lsum_iota (fun k => (rd_T27 l k).f0) l (fun _ _ => rfl), lsum_sumTo]
  rfl
theorem wS_bounds {l : List S27} (H : GOk l) : ∀ i, i ≤ l.length → (0 ≤ wS S27.f0 l i ∧ wS S27.f0 l i ≤ 120000000 * i) ∧ (0 ≤ wS S27.f1 l i ∧ wS S27.f1 l i ≤ 120000000 * i) ∧ wS S27.f0 l i ≤ wS S27.f1 l i := by
  intro i
  induction i with
  | zero => intro _; simp [wS, sumTo]
  | succ i ih => intro hi; have h1 := ih (by omega); have h2 := H.at_ i (by omega); simp only [wS, sumTo] at *; omega
theorem bweight_l0 {l : List S27} (H : GOk l) : ∀ (m i : Nat), i + m = l.length → Ev (fun k => batch_weight.l0 k l (l.length : Int) (i : Int) (wS S27.f0 l i) (wS S27.f1 l i)) (wS S27.f0 l l.length, wS S27.f1 l l.length)
  | 0, i, hi => by
    apply Ev.step
    simp only [batch_weight.l0, if_neg (show ¬ (i : Int) < (l.length : Int) by omega)]
    rw [show i = l.length by omega]
    exact Ev.const _
  | m + 1, i, hi => by
    have ih := bweight_l0 H m (i + 1) (by omega)
    have hn := H.n12
    have hb := wS_bounds H i (by omega)
    have hc := H.at_ i (by omega)
    apply Ev.step
    simp only [batch_weight.l0, if_pos (show (i : Int) < (l.length : Int) by omega), if_pos (i_pos i), wrap_succ (i_pos i) (show (i : Int) ≤ 1000000000 by omega)]
    rw [wrap_id (x := wS S27.f0 l i + (rd_T27 l (i : Int)).f0) (by omega) (by omega), wrap_id (x := wS S27.f1 l i + (rd_T27 l (i : Int)).f1) (by omega) (by omega)]
    exact ih
theorem bweight {l : List S27} (H : GOk l) : Ev (fun k => batch_weight.f k l) (wS S27.f0 l l.length, wS S27.f1 l l.length) := bweight_l0 H l.length 0 (by omega)
structure CfOk (cf : Int → Int) (n : Nat) : Prop where
  at_ : ∀ j : Nat, j < n → -10000 ≤ cf (j : Int) ∧ cf (j : Int) ≤ 10000
theorem meanOk_of {cf : Int → Int} {l : List S27} (H : GOk l) (C : CfOk cf l.length) (hp : 0 < wS S27.f0 l l.length) : MeanOk cf l := by
  have key : ∀ k : Int, 0 ≤ k → k < l.length → ∃ j : Nat, j < l.length ∧ k = j := fun k h0 h1 => ⟨k.toNat, by omega, by omega⟩
  refine ⟨H.n12, ?_, ?_, ?_, ?_, ?_, by rw [← wS_lsum]; exact hp⟩ <;> intro k h0 hl <;> obtain ⟨j, hj, rfl⟩ := key k h0 hl <;> have h1 := H.at_ j hj <;> have h2 := C.at_ j hj <;> omega
def bT (cf : Int → Int) (l : List S27) (m : Int) (j : Nat) : Int := max ((m - cf j) * (rd_T27 l (j : Int)).f0) ((m - cf j) * (rd_T27 l (j : Int)).f1)
theorem belowS_sum (cf : Int → Int) (l : List S27) (m : Int) : belowS cf l m = sumTo (bT cf l m) l.length := lsum_sumTo _ _
def aT (cf : Int → Int) (l : List S27) (m : Int) (j : Nat) : Int := max ((cf j - m) * (rd_T27 l (j : Int)).f0) ((cf j - m) * (rd_T27 l (j : Int)).f1)
theorem aboveS_sum (cf : Int → Int) (l : List S27) (m : Int) : aboveS cf l m = sumTo (aT cf l m) l.length := by
  refine (lsum_sumTo _ _).trans (sumTo_congr _ fun j _ => ?_)
  unfold aT loF hiF
  dsimp only
  rw [show -m - -cf (j : Int) = cf (j : Int) - m by omega]
theorem mulb {c x : Int} (h1 : -30000 ≤ c) (h2 : c ≤ 30000) (h3 : 0 ≤ x) (h4 : x ≤ 120000000) : -3600000000000 ≤ c * x ∧ c * x ≤ 3600000000000 := by
  have e1 := Int.mul_le_mul_of_nonneg_right h1 h3
  have e2 := Int.mul_le_mul_of_nonneg_right h2 h3
  omega
theorem mean_range {cf : Int → Int} {l : List S27} (H : GOk l) (C : CfOk cf l.length) (hp : 0 < wS S27.f0 l l.length) : (-10000 ≤ meanLo cf l ∧ meanLo cf l ≤ 10000) ∧ (-10000 ≤ meanHi cf l ∧ meanHi cf l ≤ 10000) := by
  have M := meanOk_of H C hp
  have one : ∀ (c x : Int), 1 ≤ c → 0 ≤ x → x ≤ c * x := by
    intro c x h1 h2
    have := Int.mul_le_mul_of_nonneg_right h1 h2
    omega
  have neg : ∀ (c x : Int), c ≤ 0 → 0 ≤ x → c * x ≤ 0 := by
    intro c x h1 h2
    have := Int.mul_le_mul_of_nonneg_right h1 h2
    omega
  refine ⟨⟨?_, ?_⟩, ?_, ?_⟩
  · refine (meanLo_iff M _).1 ?_
    rw [belowS_sum, ← sumTo_zero l.length]
    refine sumTo_le _ fun j hj => ?_
    have a1 := H.at_ j hj
    have a2 := C.at_ j hj
    have b1 := neg (-10000 - cf j) (rd_T27 l (j : Int)).f0 (by omega) (by omega)
    have b2 := neg (-10000 - cf j) (rd_T27 l (j : Int)).f1 (by omega) (by omega)
    unfold bT; omega
  · apply Int.not_lt.1
    intro h
    have h1 := (meanLo_iff M 10001).2 (by omega)
    rw [belowS_sum] at h1
    have h2 : wS S27.f0 l l.length ≤ sumTo (bT cf l 10001) l.length := by
      refine sumTo_le _ fun j hj => ?_
      have a1 := H.at_ j hj
      have a2 := C.at_ j hj
      have b1 := one (10001 - cf j) (rd_T27 l (j : Int)).f0 (by omega) (by omega)
      unfold bT; omega
    omega
  · apply Int.not_lt.1
    intro h
    have h1 := (meanHi_iff M (-10001)).2 (by omega)
    rw [aboveS_sum] at h1
    have h2 : wS S27.f0 l l.length ≤ sumTo (aT cf l (-10001)) l.length := by
      refine sumTo_le _ fun j hj => ?_
      have a1 := H.at_ j hj
      have a2 := C.at_ j hj
      have b1 := one (cf j - -10001) (rd_T27 l (j : Int)).f0 (by omega) (by omega)
      unfold aT; omega
    omega
  · refine (meanHi_iff M _).1 ?_
    rw [aboveS_sum, ← sumTo_zero l.length]
    refine sumTo_le _ fun j hj => ?_
    have a1 := H.at_ j hj
    have a2 := C.at_ j hj
    have b1 := neg (cf j - 10000) (rd_T27 l (j : Int)).f0 (by omega) (by omega)
    have b2 := neg (cf j - 10000) (rd_T27 l (j : Int)).f1 (by omega) (by omega)
    unfold aT; omega
section
variable {cf : Int → Int} {l : List S27} {c : List Int} (H : GOk l) (C : CfOk cf l.length) (hp : 0 < wS S27.f0 l l.length) (hl : l.length ≤ c.length) (hc : ∀ j : Nat, j < l.length → rd c (j : Int) = cf (j : Int))
include H C hp hl hc
end
end Go.Proofs.Ytkjkokgbhepmoaa.PB

namespace Go.Proofs.Ytkjkokgbhepmoaa.PB
open Go.RowKit Go.Proofs.YtkjkokgbhepmoaaW.PrintWords Go.Proofs.YtkjkokgbhepmoaaW.PrintLast Go.Proofs.YtkjkokgbhepmoaaW.PrintMore
attribute [local go_sem] max2_int min2_int max_two min_two max_three min_three max_four min_four
def batch_Grams.f (k : Nat) (l0_0 : List ByteArray) (l0_1 : List (S63)) (l0_2 : List (S27)) (l0_3 : List (S65)) (a0_4 : Int) (a0_5 : Int) (a0_6 : Int) (l1 : List Int) : Option ((List (S27)) × Int) := (batch_asked.f k l0_0 l0_1 l0_2 l0_3 a0_4 a0_5 a0_6 l1).bind fun t169 => (if t169 = 0 then ((batch_grams.f k l0_0 l0_1 l0_2 l0_3 a0_4 a0_5 a0_6 l1).bind fun t170 => (some (t170, 0))) else (some (([] : List (S27)), t169)))
set_option maxHeartbeats 8000000 in
set_option maxRecDepth 100000 in
theorem batch_Grams.calls (k : Nat) (A0_0 : Option Addr) (c0_0 : Nat) (l0_0 : List ByteArray) (A0_1 : Option Addr) (c0_1 : Nat) (l0_1 : List (S63)) (A0_2 : Option Addr) (c0_2 : Nat) (l0_2 : List (S27)) (A0_3 : Option Addr) (c0_3 : Nat) (l0_3 : List (S65)) (a0_4 : Int) (a0_5 : Int) (a0_6 : Int) (A1 : Option Addr) (c1 : Nat) (l1 : List Int) (r1 : List (S27)) (r2 : Int) (w : World) (hr0_0 : Kd.C Kd.string w A0_0 l0_0.length l0_0) (hc0_0 : l0_0.length ≤ c0_0) (hr0_1 : Kd.C k63 w A0_1 l0_1.length l0_1) (hc0_1 : l0_1.length ≤ c0_1) (hr0_2 : Kd.C k27 w A0_2 l0_2.length l0_2) (hc0_2 : l0_2.length ≤ c0_2) (hr0_3 : Kd.C k65 w A0_3 l0_3.length l0_3) (hc0_3 : l0_3.length ≤ c0_3) (hr1 : Kd.C (Kd.int .i64) w A1 l1.length l1) (hc1 : l1.length ≤ c1) (h : batch_Grams.f k l0_0 l0_1 l0_2 l0_3 a0_4 a0_5 a0_6 l1 = some (r1, r2)) :
  Calls Try.prog 15 #[.agg #[.slice A0_0 l0_0.length c0_0, .slice A0_1 l0_1.length c0_1, .slice A0_2 l0_2.length c0_2, .slice A0_3 l0_3.length c0_3, .int .i64 a0_4, .int .i64 a0_5, .int .i64 a0_6], .slice A1 l1.length c1] w fun e w' => ∃ v0_ : Value, e = .returned (.tuple #[v0_, .int .i64 r2]) ∧ Kd.R k27 27 w' w.heap.size (fun _ => True) v0_ r1 ∧ Below w.heap.size w w' := by
 have hu29 := Try.underlying29; have HR0_0 := Sd.mk hr0_0; have HC0_0 := Sd.mk hc0_0; clear hr0_0 hc0_0; have HR0_1 := Sd.mk hr0_1; have HC0_1 := Sd.mk hc0_1; clear hr0_1 hc0_1; have HR0_2 := Sd.mk hr0_2; have HC0_2 := Sd.mk hc0_2; clear hr0_2 hc0_2; have HR0_3 := Sd.mk hr0_3; have HC0_3 := Sd.mk hc0_3; clear hr0_3 hc0_3; have HR1 := Sd.mk hr1; have HC1 := Sd.mk hc1; clear hr1 hc1; have HB := Sd.mk (Below.refl w.heap.size w)
 have H : ((batch_asked.f k l0_0 l0_1 l0_2 l0_3 a0_4 a0_5 a0_6 l1).bind fun t169 => (if t169 = 0 then ((batch_grams.f k l0_0 l0_1 l0_2 l0_3 a0_4 a0_5 a0_6 l1).bind fun t170 => (some (t170, 0))) else (some (([] : List (S27)), t169)))) = some (r1, r2) := h
 clear h; replace H := Option.bind_eq_some_iff.mp H; obtain ⟨t169, A30, H⟩ := H
 try dsimp only at H
 have A3 := Sd.mk A30; clear A30
 by_cases c4 : t169 = 0
 ·rw [if_pos c4] at H
  have c4b0 : (t169 == 0) = true := beq_iff_eq.mpr c4
  have c4b1 : (t169 != 0) = false := bne_eq_false_iff_eq.mpr c4
  clear c4; replace H := Option.bind_eq_some_iff.mp H; obtain ⟨t170, A50, H⟩ := H
  try dsimp only at H
  have A5 := Sd.mk A50; clear A50
  simp only [Option.some.injEq, Prod.mk.injEq] at H
  obtain ⟨rfl, rfl⟩ := H
  go_enter Try.func15, Try.ntmps15
  go_wp2_with (first | ((with_reducible refine gate_dst (N := 2) rfl ?_); refine box_event ?hg (N := 2) ?hd (cs := #[.slice A0_0 l0_0.length c0_0, .slice A0_1 l0_1.length c0_1, .slice A0_2 l0_2.length c0_2, .slice A0_3 l0_3.length c0_3, .int .i64 a0_4, .int .i64 a0_5, .int .i64 a0_6]) (t := 29) ?hr ?_; (case hd => rfl); (case hg => rfl); (case hr => exact tG); intro gb168 hg w6 hbox hb; have BK168 := Sd.mk (hbox); have GW168 := Sd.mk (bSz hg (bBl HB.out)); have GE168 := Sd.mk (bSz hg (bBl HB.out)); replace HB := Sd.mk (below_step (bBl HB.out) hb); clear hb hbox hg; obtain ⟨u7_0, u7_1, u7_2, u7_3, u7_4, u7_5, u7_6, o7_0, o7_1, o7_2, o7_3, o7_4, o7_5, o7_6⟩ := bc7 (w := w6) BK168.out) | ((with_reducible refine gate_callee (f := 46) rfl ?_); refine goesL_ (some 9) rfl rfl Try.func46 (by kernel_rfl) rfl #[.agg #[.slice A0_0 l0_0.length c0_0, .slice A0_1 l0_1.length c0_1, .slice A0_2 l0_2.length c0_2, .slice A0_3 l0_3.length c0_3, .int .i64 a0_4, .int .i64 a0_5, .int .i64 a0_6], .slice A1 l1.length c1] rfl tM ?_; (with_reducible refine (batch_asked.calls k _ _ l0_0 _ _ l0_1 _ _ l0_2 _ _ l0_3 a0_4 a0_5 a0_6 _ _ l1 t169 _ (cS (Kd.C_below HR0_0.out HB.out)) HC0_0.out (cS (Kd.C_below HR0_1.out HB.out)) HC0_1.out (cS (Kd.C_below HR0_2.out HB.out)) HC0_2.out (cS (Kd.C_below HR0_3.out HB.out)) HC0_3.out (cS (Kd.C_below HR1.out HB.out)) HC1.out A3.out).mono ?_); rintro e w8 ⟨rfl, hb⟩; refine ⟨_, rfl, ?_⟩; replace BK168 := Sd.mk (blk_below (bkA BK168.out) hb); replace HB := Sd.mk (below_step (bBl HB.out) hb); (try clear hb); (try clear hb2); (try clear hk); (try clear hi); obtain ⟨u9_0, u9_1, u9_2, u9_3, u9_4, u9_5, u9_6, o9_0, o9_1, o9_2, o9_3, o9_4, o9_5, o9_6⟩ := bc7 (w := w8) BK168.out) | ((with_reducible refine gate_callee (f := 47) rfl ?_); refine goesL_ (some 15) rfl rfl Try.func47 (by kernel_rfl) rfl #[.agg #[.slice A0_0 l0_0.length c0_0, .slice A0_1 l0_1.length c0_1, .slice A0_2 l0_2.length c0_2, .slice A0_3 l0_3.length c0_3, .int .i64 a0_4, .int .i64 a0_5, .int .i64 a0_6], .slice A1 l1.length c1] rfl tM ?_; (with_reducible refine (batch_grams.calls k _ _ l0_0 _ _ l0_1 _ _ l0_2 _ _ l0_3 a0_4 a0_5 a0_6 _ _ l1 t170 _ (cS (Kd.C_below HR0_0.out HB.out)) HC0_0.out (cS (Kd.C_below HR0_1.out HB.out)) HC0_1.out (cS (Kd.C_below HR0_2.out HB.out)) HC0_2.out (cS (Kd.C_below HR0_3.out HB.out)) HC0_3.out (cS (Kd.C_below HR1.out HB.out)) HC1.out A5.out).mono ?_); rintro e w10 ⟨v171, rfl, ho0, hb⟩; refine ⟨_, rfl, ?_⟩; have HO172 := Sd.mk (Kd.R_lower ho0 (below_size (bBl HB.out))); replace BK168 := Sd.mk (blk_below (bkA BK168.out) hb); replace HB := Sd.mk (below_step (bBl HB.out) hb); (try clear hb); (try clear hb2); (try clear hk); (try clear hi); (try clear ho0)))
  go_ret2
  exact ⟨_, tE, by (with_reducible repeat (first | apply Kd.R_alloc | apply Kd.R_drewN | apply Kd.R_drew)); exact HO172.out, bBl HB.out⟩
 ·rw [if_neg c4] at H
  have c4b0 : (t169 == 0) = false := beq_eq_false_iff_ne.mpr c4
  have c4b1 : (t169 != 0) = true := bne_iff_ne.mpr c4
  simp only [Option.some.injEq, Prod.mk.injEq] at H
  obtain ⟨rfl, rfl⟩ := H
  go_enter Try.func15, Try.ntmps15
  go_wp2_with (first | ((with_reducible refine gate_dst (N := 2) rfl ?_); refine box_event ?hg (N := 2) ?hd (cs := #[.slice A0_0 l0_0.length c0_0, .slice A0_1 l0_1.length c0_1, .slice A0_2 l0_2.length c0_2, .slice A0_3 l0_3.length c0_3, .int .i64 a0_4, .int .i64 a0_5, .int .i64 a0_6]) (t := 29) ?hr ?_; (case hd => rfl); (case hg => rfl); (case hr => exact tG); intro gb168 hg w11 hbox hb; have BK168 := Sd.mk (hbox); have GW168 := Sd.mk (bSz hg (bBl HB.out)); have GE168 := Sd.mk (bSz hg (bBl HB.out)); replace HB := Sd.mk (below_step (bBl HB.out) hb); clear hb hbox hg; obtain ⟨u12_0, u12_1, u12_2, u12_3, u12_4, u12_5, u12_6, o12_0, o12_1, o12_2, o12_3, o12_4, o12_5, o12_6⟩ := bc7 (w := w11) BK168.out) | ((with_reducible refine gate_callee (f := 46) rfl ?_); refine goesL_ (some 9) rfl rfl Try.func46 (by kernel_rfl) rfl #[.agg #[.slice A0_0 l0_0.length c0_0, .slice A0_1 l0_1.length c0_1, .slice A0_2 l0_2.length c0_2, .slice A0_3 l0_3.length c0_3, .int .i64 a0_4, .int .i64 a0_5, .int .i64 a0_6], .slice A1 l1.length c1] rfl tM ?_; (with_reducible refine (batch_asked.calls k _ _ l0_0 _ _ l0_1 _ _ l0_2 _ _ l0_3 a0_4 a0_5 a0_6 _ _ l1 t169 _ (cS (Kd.C_below HR0_0.out HB.out)) HC0_0.out (cS (Kd.C_below HR0_1.out HB.out)) HC0_1.out (cS (Kd.C_below HR0_2.out HB.out)) HC0_2.out (cS (Kd.C_below HR0_3.out HB.out)) HC0_3.out (cS (Kd.C_below HR1.out HB.out)) HC1.out A3.out).mono ?_); rintro e w13 ⟨rfl, hb⟩; refine ⟨_, rfl, ?_⟩; replace BK168 := Sd.mk (blk_below (bkA BK168.out) hb); replace HB := Sd.mk (below_step (bBl HB.out) hb); (try clear hb); (try clear hb2); (try clear hk); (try clear hi)))
  go_ret2
  exact ⟨_, tE, by first | exact Kd.R_nil _ _ _ _ _ | exact Kd.N_nil _ _ _ _ _ | exact Kd.V_nil _ _ _ _ _ | exact Kd.Q_nil _ _ _ _ _ | exact Kd.S_nil _ _ _ _ _, bBl HB.out⟩
end Go.Proofs.Ytkjkokgbhepmoaa.PB

namespace Go.Proofs.Ytkjkokgbhepmoaa.PB
open Go.RowKit Go.Proofs.YtkjkokgbhepmoaaW.PrintWords Go.Proofs.YtkjkokgbhepmoaaW.PrintLast Go.Proofs.YtkjkokgbhepmoaaW.PrintMore
def x_glass.f (k : Nat) (l0_0 : List ByteArray) (l0_1 : List (S63)) (l0_2 : List (S27)) (l0_3 : List (S65)) (a0_4 : Int) (a0_5 : Int) (a0_6 : Int) (l1 : List Int) : Option ((List (S27)) × Int) := (batch_Grams.f k l0_0 l0_1 l0_2 l0_3 a0_4 a0_5 a0_6 l1).bind fun p => if p.2 = 0 then ((batch_weight.f k p.1).bind fun q => if q.1 = 0 then some ([], 8) else some (p.1, p.2)) else some (p.1, p.2)
theorem field27_0 (w : World) (a b : Int) : (Instr.field 27 (.agg #[.int .i64 a, .int .i64 b]) 0).run Try.prog w = .ok (.int .i64 a) w := by kernel_rfl
set_option maxHeartbeats 4000000 in
set_option maxRecDepth 100000 in
theorem x_glass.calls (k : Nat) (A0_0 : Option Addr) (c0_0 : Nat) (l0_0 : List ByteArray) (A0_1 : Option Addr) (c0_1 : Nat) (l0_1 : List (S63)) (A0_2 : Option Addr) (c0_2 : Nat) (l0_2 : List (S27)) (A0_3 : Option Addr) (c0_3 : Nat) (l0_3 : List (S65)) (a0_4 : Int) (a0_5 : Int) (a0_6 : Int) (A1 : Option Addr) (c1 : Nat) (l1 : List Int) (r1 : List (S27)) (r2 : Int) (w : World) (hr0_0 : Kd.C Kd.string w A0_0 l0_0.length l0_0) (hc0_0 : l0_0.length ≤ c0_0) (hr0_1 : Kd.C k63 w A0_1 l0_1.length l0_1) (hc0_1 : l0_1.length ≤ c0_1) (hr0_2 : Kd.C k27 w A0_2 l0_2.length l0_2) (hc0_2 : l0_2.length ≤ c0_2) (hr0_3 : Kd.C k65 w A0_3 l0_3.length l0_3) (hc0_3 : l0_3.length ≤ c0_3) (hr1 : Kd.C (Kd.int .i64) w A1 l1.length l1) (hc1 : l1.length ≤ c1) (h : x_glass.f k l0_0 l0_1 l0_2 l0_3 a0_4 a0_5 a0_6 l1 = some (r1, r2)) :
    Calls Try.prog 49 #[.agg #[.slice A0_0 l0_0.length c0_0, .slice A0_1 l0_1.length c0_1, .slice A0_2 l0_2.length c0_2, .slice A0_3 l0_3.length c0_3, .int .i64 a0_4, .int .i64 a0_5, .int .i64 a0_6], .slice A1 l1.length c1] w fun e w' => ∃ v0_ : Value, e = .returned (.tuple #[v0_, .int .i64 r2]) ∧ Kd.R k27 27 w' w.heap.size (fun _ => True) v0_ r1 ∧ Below w.heap.size w w' := by
  unfold x_glass.f at h
  obtain ⟨p, hp, H⟩ := Option.bind_eq_some_iff.mp h
  have hG := fun (W : World) (hb : Below w.heap.size w W) => batch_Grams.calls k A0_0 c0_0 l0_0 A0_1 c0_1 l0_1 A0_2 c0_2 l0_2 A0_3 c0_3 l0_3 a0_4 a0_5 a0_6 A1 c1 l1 p.1 p.2 W (Kd.C_below hr0_0 hb) hc0_0 (Kd.C_below hr0_1 hb) hc0_1 (Kd.C_below hr0_2 hb) hc0_2 (Kd.C_below hr0_3 hb) hc0_3 (Kd.C_below hr1 hb) hc1 hp
  have HG := Sd.mk hG
  clear hG h hp hr0_0 hr0_1 hr0_2 hr0_3 hr1
  obtain ⟨pl, pe⟩ := p
  dsimp only at H HG
  have hb0 : Below w.heap.size w (w.alloc (.cells #[.slice A0_0 l0_0.length c0_0, .slice A0_1 l0_1.length c0_1, .slice A0_2 l0_2.length c0_2, .slice A0_3 l0_3.length c0_3, .int .i64 a0_4, .int .i64 a0_5, .int .i64 a0_6] 29)) := below_alloc (Below.refl _ _) _
  have hgo := HG.out _ hb0
  have HB0 := Sd.mk hb0
  clear hb0 HG
  have HH := Sd.mk H
  clear H
  have hfld := field27_0
  go_enter Try.func49, Try.ntmps49
  go_wp2_with fail
  refine hgo.mono ?_
  clear hgo
  rintro e w1 ⟨v, rfl, hR, hb⟩
  have hR0 := Kd.R_lower (base' := w.heap.size) hR (by simp)
  obtain ⟨A, c, rfl, hlc, hC⟩ := Kd.R_reads hR
  have HR := Sd.mk hR0
  have HB := Sd.mk (below_trans' HB0.out hb)
  have HC := Sd.mk hC
  have H := HH.out
  clear hR hb HB0 hR0 hC HH
  by_cases he : pe = 0
  · rw [if_pos he] at H
    obtain ⟨q, hq, H⟩ := Option.bind_eq_some_iff.mp H
    have hW := fun (W : World) (hb : Below w1.heap.size w1 W) => batch_weight.calls k A c pl q.1 q.2 W (Kd.C_below HC.out hb) hlc hq
    have HW := Sd.mk (hW w1 (Below.refl _ _))
    clear hW hq
    have heb : (pe == 0) = true := beq_iff_eq.mpr he
    obtain ⟨q1, q2⟩ := q
    dsimp only at H HW
    have HH := Sd.mk H
    have HE := Sd.mk he
    clear H he
    go_wp2_with fail
    refine HW.out.mono ?_
    clear HW
    rintro e w2 ⟨rfl, hb2⟩
    have HB2 := Sd.mk (below_trans' HB.out hb2)
    have HR2 := Sd.mk (Kd.R_below HR.out hb2)
    clear hb2 HR HB
    have H := HH.out
    by_cases hq0 : q1 = 0
    · rw [if_pos hq0] at H
      have hqb : (q1 == 0) = true := beq_iff_eq.mpr hq0
      simp only [Option.some.injEq, Prod.mk.injEq] at H
      obtain ⟨rfl, rfl⟩ := H
      clear hq0 HH
      go_wp2
      go_ret2
      exact ⟨_, rfl, Kd.R_nil _ _ _ _ _, HB2.out⟩
    · rw [if_neg hq0] at H
      have hqb : (q1 == 0) = false := beq_eq_false_iff_ne.mpr hq0
      simp only [Option.some.injEq, Prod.mk.injEq] at H
      obtain ⟨rfl, rfl⟩ := H
      clear hq0 HH
      go_wp2
      go_ret2
      exact ⟨_, rfl, HR2.out, HB2.out⟩
  · rw [if_neg he] at H
    have heb : (pe == 0) = false := beq_eq_false_iff_ne.mpr he
    simp only [Option.some.injEq, Prod.mk.injEq] at H
    obtain ⟨rfl, rfl⟩ := H
    go_wp2
    go_ret2
    exact ⟨_, rfl, HR.out, HB.out⟩
end Go.Proofs.Ytkjkokgbhepmoaa.PB

namespace Go.Proofs.Ytkjkokgbhepmoaa.PB
open Go.RowKit Go.Proofs.YtkjkokgbhepmoaaW.PrintWords Go.Proofs.YtkjkokgbhepmoaaW.PrintLast Go.Proofs.YtkjkokgbhepmoaaW.PrintMore
open Go.Sort (putRow Holds)
attribute [local go_sem] max2_int min2_int max_two min_two
set_option maxHeartbeats 4000000 in
set_option maxRecDepth 100000 in
theorem mean_calls (cf : Int → Int) (A0 : Option Addr) (c0 : Nat) (l0 : List S27) (g : Nat) (lb : Array Value) (w : World) (eg : ∀ args w, (callFunc g args).run Try.prog w = .ok (.enter g args) w)
  (hr0 : Kd.C k27 w A0 l0.length l0) (hc0 : l0.length ≤ c0) (hq : CoefQ g lb cf l0.length w) (hok : MeanOk cf l0) :
  Calls Try.prog 51 #[.slice A0 l0.length c0, .func (.func g) #[] lb] w fun e w' => e = .returned (.agg #[.int .i64 (meanLo cf l0), .int .i64 (meanHi cf l0)]) ∧ Below w.heap.size w w' := by
 have hn := hok.n12
 have HR0 := Sd.mk hr0
 have HQ := Sd.mk hq
 have HOK := Sd.mk hok
 have HMK := print_make 30 3 .i64 8 Try.underlying30 info3 (by decide) l0.length (by omega)
 have hpos : 0 < l0.length := by
  rcases Nat.eq_zero_or_pos l0.length with h | h
  ·have := List.eq_nil_of_length_eq_zero h
   subst this
   exact absurd hok.pos (by simp)
  ·exact h
 have HN := Sd.mk hn
 clear hr0 hq hok
 go_enter Try.func51, Try.ntmps51
 go_wp2
 have hz0 : (madeCells #[Value.int .i64 0] l0.length) = (Array.ofFn fun _ : Fin l0.length => Value.int .i64 0) := by
  apply Array.ext
  ·simp [madeCells]
  ·intro i h1 h2; simp [madeCells, Nat.mod_one]
 rw [hz0]
 have hzb : (((w.alloc (.cells #[.func (.func g) #[] lb] 103)).alloc (.cells #[.int .i64 0, .int .i64 0] 27)).alloc (.cells (Array.ofFn fun _ : Fin l0.length => Value.int .i64 0) 3)).heap[w.heap.size + 1 + 1]? = some (.cells (Array.ofFn fun _ : Fin l0.length => Value.int .i64 0) 3 (0, 0)) := by
  have := blk_new ((w.alloc (.cells #[.func (.func g) #[] lb] 103)).alloc (.cells #[.int .i64 0, .int .i64 0] 27)) (.cells (Array.ofFn fun _ : Fin l0.length => Value.int .i64 0) 3)
  simpa using this
 have hrb : (((w.alloc (.cells #[.func (.func g) #[] lb] 103)).alloc (.cells #[.int .i64 0, .int .i64 0] 27)).alloc (.cells (Array.ofFn fun _ : Fin l0.length => Value.int .i64 0) 3)).heap[w.heap.size + 1]? = some (.cells #[.int .i64 0, .int .i64 0] 27 (0, 0)) := by
  have := blk_alloc (blk_new (w.alloc (.cells #[.func (.func g) #[] lb] 103)) (.cells #[.int .i64 0, .int .i64 0] 27)) (.cells (Array.ofFn fun _ : Fin l0.length => Value.int .i64 0) 3)
  simpa using this
 have hfb : (((w.alloc (.cells #[.func (.func g) #[] lb] 103)).alloc (.cells #[.int .i64 0, .int .i64 0] 27)).alloc (.cells (Array.ofFn fun _ : Fin l0.length => Value.int .i64 0) 3)).heap[w.heap.size]? = some (.cells #[.func (.func g) #[] lb] 103 (0, 0)) :=
  blk_alloc (blk_alloc (blk_new w (.cells #[.func (.func g) #[] lb] 103)) _) _
 have hbe : Below w.heap.size w (((w.alloc (.cells #[.func (.func g) #[] lb] 103)).alloc (.cells #[.int .i64 0, .int .i64 0] 27)).alloc (.cells (Array.ofFn fun _ : Fin l0.length => Value.int .i64 0) 3)) := below_alloc (below_alloc (below_alloc (Below.refl _ _) _) _) _
 generalize ((w.alloc (.cells #[.func (.func g) #[] lb] 103)).alloc (.cells #[.int .i64 0, .int .i64 0] 27)).alloc (.cells (Array.ofFn fun _ : Fin l0.length => Value.int .i64 0) 3) = w1 at *
 have hH : Holds (Value.int .i64) w1 (w.heap.size + 1 + 1) 0 (fillTo l0.length 0) := by
  intro j hj
  rw [fillTo_size] at hj
  rw [blk_cell hzb, blk_frozen hzb, getElem!_pos _ j (by rw [fillTo_size]; exact hj)]
  simp [fillTo, hj]
 have HH := Sd.mk hH
 have HZB := Sd.mk hzb
 have HRB := Sd.mk hrb
 have HFB := Sd.mk hfb
 have HBE := Sd.mk hbe
 clear hH hzb hrb hfb hbe hz0 HMK
 have hself : w1 = putRow (Value.int .i64) w1 (w.heap.size + 1 + 1) 0 (fillTo l0.length 0) := (Go.Sort.putRow_self _ _ _ _ _ HH.out).symm
 have HSELF := Sd.mk hself
 clear hself
 go_loopg [22] l0.length (fun gq v22 wr => ∃ k : Nat, v22 = .int .i64 k ∧ k ≤ l0.length ∧ l0.length - k ≤ gq ∧ wr = putRow (Value.int .i64) w1 (w.heap.size + 1 + 1) 0 (fillTo l0.length k))
 case atStart => exact ⟨0, rfl, Nat.zero_le _, by omega, HSELF.out⟩
 case round =>
  obtain ⟨k, rfl, hk, hgk, rfl⟩ := hrel
  by_cases hlt : k < l0.length
  ·have hltz : (k : Int) < (l0.length : Int) := by omega
   have hcell := (Go.Sort.holds_putRow (Value.int .i64) w1 (w.heap.size + 1 + 1) 0 (fillTo l0.length 0) (fillTo l0.length k) HH.out (by rw [fillTo_size, fillTo_size])) k (by rw [fillTo_size]; exact hlt)
   have hset := Go.Sort.putRow_set (Value.int .i64) w1 (w.heap.size + 1 + 1) 0 (fillTo l0.length k) k (k : Int) (by rw [fillTo_size]; exact hlt)
   rw [fillTo_step _ _ hlt] at hset
   simp only [Nat.zero_add] at hcell hset
   obtain ⟨hc1, hc2⟩ := hcell
   have HSET := Sd.mk hset
   clear hset
   generalize putRow (Value.int .i64) w1 (w.heap.size + 1 + 1) 0 (fillTo l0.length k) = wq at hc1 hc2 HSET ⊢
   generalize (fillTo l0.length k)[k]! = z at hc1
   go_wp2
   go_roundg (l0.length - (k + 1))
   case measure => omega
   case rel => exact ⟨k + 1, by go_num, by omega, by omega, HSET.out⟩
  ·have hltz : ¬ (k : Int) < (l0.length : Int) := by omega
   obtain rfl : k = l0.length := by omega
   rw [fillTo_all]
   have hio : Holds (Value.int .i64) (putRow (Value.int .i64) w1 (w.heap.size + 1 + 1) 0 (iotaA l0.length)) (w.heap.size + 1 + 1) 0 (iotaA l0.length) :=
    Go.Sort.holds_putRow (Value.int .i64) w1 (w.heap.size + 1 + 1) 0 (fillTo l0.length 0) (iotaA l0.length) HH.out (by rw [fillTo_size, iotaA_size])
   have hb2 : Below w.heap.size w (putRow (Value.int .i64) w1 (w.heap.size + 1 + 1) 0 (iotaA l0.length)) := below_putRow HBE.out (by omega) _
   have hf2 : (putRow (Value.int .i64) w1 (w.heap.size + 1 + 1) 0 (iotaA l0.length)).heap[w.heap.size]? = some (.cells #[.func (.func g) #[] lb] 103 (0, 0)) := blk_putRow HFB.out (by omega) _
   have hr2 : (putRow (Value.int .i64) w1 (w.heap.size + 1 + 1) 0 (iotaA l0.length)).heap[w.heap.size + 1]? = some (.cells #[.int .i64 0, .int .i64 0] 27 (0, 0)) := blk_putRow HRB.out (by omega) _
   generalize putRow (Value.int .i64) w1 (w.heap.size + 1 + 1) 0 (iotaA l0.length) = w2 at hio hb2 hf2 hr2 ⊢
   clear HH HZB HRB HFB HBE HSELF
   have hsort := sortFunc_calls (fun a b => cf a - cf b) l0.length 114 #[.pointer (some ⟨w.heap.size, 0, none⟩)] rfl (w.heap.size + 1 + 1) 0 l0.length (iotaA l0.length) w2 (enters_of Try.func114 (by kernel_rfl) rfl)
    (fun m dk _ x y hx0 hx1 hy0 hy1 => meanCmp_calls w.heap.size g lb cf l0.length w ((putRow (Value.int .i64) w2 (w.heap.size + 1 + 1) 0 dk).drewN m) eg HQ.out
     (pw_below_drewN (below_putRow hb2 (by omega) dk) m) ((blk_cell (blk_drewN (blk_putRow hf2 (by omega) dk) m) 0).trans rfl) x y hx0 hx1 hy0 hy1 (HOK.out.c1 x hx0 hx1) (HOK.out.c2 x hx0 hx1) (HOK.out.c1 y hy0 hy1) (HOK.out.c2 y hy0 hy1))
    hio (fun j hj => by rw [iotaA_size] at hj; rw [getElem!_pos _ j (by rw [iotaA_size]; exact hj)]; simp [iotaA]; omega) (by rw [iotaA_size]; exact HN.out)
   rw [iotaA_size] at hsort
   have HSORT := Sd.mk hsort
   have HB2 := Sd.mk hb2
   have HF2 := Sd.mk hf2
   have HR2 := Sd.mk hr2
   have HIO2 := Sd.mk hio
   clear hsort hb2 hf2 hr2 hio hltz
   go_wp2_with (go_at_call 113; refine HSORT.out.mono ?_; rintro e w3 ⟨rfl, m3, rfl⟩)
   have hD : orderOf cf l0.length = Sort.insertionSort (ltC fun a b => cf a - cf b) (iotaA l0.length) 0 l0.length := rfl
   rw [← hD]
   have hholds := Go.Sort.holds_putRow (Value.int .i64) w2 (w.heap.size + 1 + 1) 0 (iotaA l0.length) (orderOf cf l0.length) HIO2.out (by rw [order_size, iotaA_size])
   have hsz : (putRow (Value.int .i64) w2 (w.heap.size + 1 + 1) 0 (orderOf cf l0.length)).heap.size = w2.heap.size := Go.Sort.size_putRow _ _ _ _ _
   have h5lt : w.heap.size + 1 + 1 < w2.heap.size := by
    have := World.block_lt_of_cell? _ _ ((hholds 0 (by rw [order_size]; exact hpos)).1)
    rw [hsz] at this; exact this
   have hout : OutW w w.heap.size (w.heap.size + 1) (w.heap.size + 1 + 1) w2.heap.size g lb (orderOf cf l0.length)
     (((putRow (Value.int .i64) w2 (w.heap.size + 1 + 1) 0 (orderOf cf l0.length)).drewN m3).alloc (.cells #[.int .i64 0, .int .i64 0] 27)) 0 0 := by
    refine ⟨below_alloc (pw_below_drewN (below_putRow HB2.out (by omega) _) m3) _, blk_alloc (blk_drewN (blk_putRow HF2.out (by omega) _) m3) _, blk_alloc (blk_drewN (blk_putRow HR2.out (by omega) _) m3) _, fun j hj => ?_, ?_⟩
    ·have := (hholds j hj).1
     simp only [Nat.zero_add] at this
     exact pw_cell_below (below_alloc (pw_below_drewN (Below.refl _ _) m3) _) this
    ·have := blk_new ((putRow (Value.int .i64) w2 (w.heap.size + 1 + 1) 0 (orderOf cf l0.length)).drewN m3) (.cells #[.int .i64 0, .int .i64 0] 27)
     simpa [hsz] using this
   generalize ((putRow (Value.int .i64) w2 (w.heap.size + 1 + 1) 0 (orderOf cf l0.length)).drewN m3).alloc (.cells #[.int .i64 0, .int .i64 0] 27) = w4 at hout ⊢
   generalize w2.heap.size = Bo at hout h5lt ⊢
   have HOUT := Sd.mk hout
   have hsD := order_size cf l0.length
   have hAll := order_in cf l0.length
   have HSD := Sd.mk hsD
   have HALL := Sd.mk hAll
   have HPERM := Sd.mk (order_perm cf l0.length)
   have HFIN : Sd (meanLo cf l0 = minF (lowQ cf l0 (orderOf cf l0.length)) l0.length ∧ meanHi cf l0 = maxF (highQ cf l0 (orderOf cf l0.length)) l0.length) := ⟨⟨rfl, rfl⟩⟩
   clear hout hholds hsz hD HSORT HB2 HF2 HR2 HIO2 hsD hAll
   generalize orderOf cf l0.length = D at HOUT HSD HALL HFIN HPERM
   go_loopg [8] (l0.length + 1) (fun gq v8 wr => ∃ cut : Nat, v8 = .int .i64 cut ∧ cut ≤ l0.length + 1 ∧ l0.length + 1 - cut ≤ gq ∧ Sd (OutW w w.heap.size (w.heap.size + 1) (w.heap.size + 1 + 1) Bo g lb D wr (atCut (lowQ cf l0 D) minF cut) (atCut (highQ cf l0 D) maxF cut)))
   case atStart => exact ⟨0, rfl, by omega, by omega, HOUT⟩
   case round =>
    obtain ⟨cut, rfl, hcut, hgq, HO⟩ := hrel
    by_cases hle : cut ≤ l0.length
    ·have hlez : (cut : Int) ≤ (l0.length : Int) := by omega
     go_wp2
     have hsz2 : wr.heap.size + 1 = (wr.alloc (.cells #[.int .i64 0, .int .i64 0] 149)).heap.size := by simp
     have hmw : MeanW wr ((wr.alloc (.cells #[.int .i64 0, .int .i64 0] 149)).alloc (.cells #[.int .i64 0, .int .i64 0] 149)) wr.heap.size (wr.heap.size + 1) 0 0 0 0 :=
      ⟨below_alloc (below_alloc (Below.refl _ _) _) _, blk_alloc (blk_new wr _) _, by rw [hsz2]; exact blk_new _ _⟩
     have HMW := Sd.mk hmw
     clear hmw hsz2
     generalize (wr.alloc (.cells #[.int .i64 0, .int .i64 0] 149)).alloc (.cells #[.int .i64 0, .int .i64 0] 149) = w5 at HMW ⊢
     obtain ⟨wo, rfl⟩ : ∃ wo : World, wo = wr := ⟨_, rfl⟩
     go_loopg [41] l0.length (fun gq2 v41 wr2 => ∃ at_ : Nat, v41 = .int .i64 at_ ∧ at_ ≤ l0.length ∧ l0.length - at_ ≤ gq2 ∧ Sd (MeanW wo wr2 wo.heap.size (wo.heap.size + 1) (lowN cf l0 D cut at_) (lowD l0 D cut at_) (highN cf l0 D cut at_) (highD l0 D cut at_)))
     case atStart => exact ⟨0, rfl, by omega, by omega, HMW⟩
     case round =>
      obtain ⟨at_, rfl, hat, hgq2, HM⟩ := hrel
      by_cases hlt2 : at_ < l0.length
      ·have hltz2 : (at_ : Int) < (l0.length : Int) := by omega
       have hm := HM.out
       have ho := HO.out.later hm.below
       have hj := HALL.out at_ (by rw [HSD.out]; exact hlt2)
       have hord := ho.row at_ (by rw [HSD.out]; exact hlt2)
       have hfn : wr.cell? ⟨w.heap.size, 0, none⟩ = some (.func (.func g) #[] lb) := (blk_cell ho.fn 0).trans rfl
       have hrg := mean_ranges HOK.out D HALL.out HSD.out cut at_ hlt2
       have hb1 := mean_sums HOK.out D HALL.out HSD.out cut at_ hat
       have hstep : lowN cf l0 D cut (at_ + 1) = lowN cf l0 D cut at_ + cf D[at_]! * wX l0 D cut at_ ∧ lowD l0 D cut (at_ + 1) = lowD l0 D cut at_ + wX l0 D cut at_ ∧ highN cf l0 D cut (at_ + 1) = highN cf l0 D cut at_ + cf D[at_]! * wY l0 D cut at_ ∧ highD l0 D cut (at_ + 1) = highD l0 D cut at_ + wY l0 D cut at_ := ⟨rfl, rfl, rfl, rfl⟩
       have HSTEP := Sd.mk hstep
       clear hstep
       have hX : wX l0 D cut at_ = if (at_ : Int) < (cut : Int) then (rd_T27 l0 D[at_]!).f1 else (rd_T27 l0 D[at_]!).f0 := rfl
       have hY : wY l0 D cut at_ = if (at_ : Int) < (cut : Int) then (rd_T27 l0 D[at_]!).f0 else (rd_T27 l0 D[at_]!).f1 := rfl
       have hcoef : ∀ W, Below wo.heap.size wo W → Calls Try.prog g (#[.int .i64 D[at_]!] ++ lb) W fun e w' => e = .returned (.int .i64 (cf D[at_]!)) ∧ ∃ q, w' = W.drewN q := fun W hW => HQ.out W (below_trans' HO.out.below hW) _ hj.1 hj.2
       obtain ⟨hj0, hj1⟩ := hj
       obtain ⟨ads, es, hs0, hs1⟩ := at_T27 (Kd.C_below HR0.out ho.below) D[at_]! hj0 hj1
       cases es
       generalize wX l0 D cut at_ = X at *
       generalize wY l0 D cut at_ = Y at *
       generalize cf D[at_]! = ck at *
       generalize rd_T27 l0 D[at_]! = sp at *
       generalize D[at_]! = kk at *
       have HC := Sd.mk hcoef
       have HX := Sd.mk hX
       have HY := Sd.mk hY
       have HRG := Sd.mk hrg
       have HB1 := Sd.mk hb1
       have hlen12 := HN.out
       clear hcoef hX hY hrg hb1 ho hm
       go_upto_region 16 with (fail)
       go_quiet (fail)
       go_upto_if 58 with (fail)
       go_cut [13, 14] (fun v13 v14 wx => v13 = .int .i64 X ∧ v14 = .int .i64 Y ∧ wr.drewN nq = wx)
       case first =>
        by_cases hac : (at_ : Int) < (cut : Int)
        ·go_wp2
         go_meet
         exact ⟨by rw [HX.out, if_pos hac], by rw [HY.out, if_pos hac], rfl⟩
        ·go_wp2
         go_meet
         exact ⟨by rw [HX.out, if_neg (show ¬ (at_ : Int) < (cut : Int) by omega)], by rw [HY.out, if_neg (show ¬ (at_ : Int) < (cut : Int) by omega)], rfl⟩
       case rest =>
        obtain ⟨rfl, rfl, rfl⟩ := hcut
        have hm := HM.out.drewN nq
        clear hfn hord hs0 hs1 HM HX HY
        obtain ⟨hX1, hY1, hp1, hp2⟩ := HRG.out
        obtain ⟨hs1, hs2, hs3, hs4⟩ := HB1.out
        obtain ⟨es1, es2, es3, es4⟩ := HSTEP.out
        have HW1 := Sd.mk (wrap_two es1 hs1.1 hs1.2 hp1.1 hp1.2)
        have HW2 := Sd.mk (wrap_one es2 hs2.1 hs2.2 hX1.1 hX1.2)
        have HW3 := Sd.mk (wrap_two es3 hs3.1 hs3.2 hp2.1 hp2.2)
        have HW4 := Sd.mk (wrap_one es4 hs4.1 hs4.2 hY1.1 hY1.2)
        clear hX1 hY1 hp1 hp2 hs1 hs2 hs3 hs4 es1 es2 es3 es4 HSTEP HRG HB1
        generalize wr.drewN nq = wn at hm ⊢
        have HM2 := Sd.mk hm
        have h90 : wn.cell? ⟨wo.heap.size, 0, none⟩ = some (.int .i64 (lowN cf l0 D cut at_)) := (blk_cell hm.b9 0).trans rfl
        have h91 : wn.cell? ⟨wo.heap.size, 1, none⟩ = some (.int .i64 (lowD l0 D cut at_)) := (blk_cell hm.b9 1).trans rfl
        have h92 := blk_frozen hm.b9 0
        have h93 := blk_frozen hm.b9 1
        have hfn : wn.cell? ⟨w.heap.size, 0, none⟩ = some (.func (.func g) #[] lb) := (blk_cell (HO.out.later hm.below).fn 0).trans rfl
        have hc1 := HC.out wn.drew (below_drew hm.below)
        clear hm
        go_upto_region 19 with (fail)
        go_cut [12] (fun v12 wx => v12 = .int .i64 kk ∧ Sd (MeanW wo wx wo.heap.size (wo.heap.size + 1) (lowN cf l0 D cut (at_ + 1)) (lowD l0 D cut (at_ + 1)) (highN cf l0 D cut at_) (highD l0 D cut at_)))
        case first =>
         clear HSD HALL HFIN HOUT HN HO HC HQ HR0 HOK
         go_region_with (go_at_fn g; refine hc1.mono ?_; rintro e w' ⟨rfl, q, rfl⟩)
         all_goals
          go_wp2_with fail
          go_meet
          refine ⟨rfl, ⟨?_⟩⟩
          rw [HW1.out, HW2.out]
          exact (HM2.out.drewN _).put9 (Nat.le_refl _) (by omega) _ _
        case rest =>
         clear h90 h91 h92 h93 hfn hc1 HM2
         rename_i wn2
         obtain ⟨rfl, HM2⟩ := hcut
         have hm := HM2.out
         have h90 : wc.cell? ⟨wo.heap.size + 1, 0, none⟩ = some (.int .i64 (highN cf l0 D cut at_)) := (blk_cell hm.b10 0).trans rfl
         have h91 : wc.cell? ⟨wo.heap.size + 1, 1, none⟩ = some (.int .i64 (highD l0 D cut at_)) := (blk_cell hm.b10 1).trans rfl
         have h92 := blk_frozen hm.b10 0
         have h93 := blk_frozen hm.b10 1
         have hfn : wc.cell? ⟨w.heap.size, 0, none⟩ = some (.func (.func g) #[] lb) := (blk_cell (HO.out.later hm.below).fn 0).trans rfl
         have hc1 := HC.out wc.drew (below_drew hm.below)
         clear hm
         go_upto_region 20 with (fail)
         go_region_with (go_at_fn g; refine hc1.mono ?_; rintro e w' ⟨rfl, q, rfl⟩)
         all_goals
          have hm4 : MeanW wo (((wc.drewN (1 + q)).setCell ⟨wo.heap.size + 1, 0, none⟩ (.int .i64 (IntKind.i64.wrap (highN cf l0 D cut at_ + IntKind.i64.wrap (ck * Y))))).setCell ⟨wo.heap.size + 1, 1, none⟩ (.int .i64 (IntKind.i64.wrap (highD l0 D cut at_ + Y)))) wo.heap.size (wo.heap.size + 1) (lowN cf l0 D cut (at_ + 1)) (lowD l0 D cut (at_ + 1)) (highN cf l0 D cut (at_ + 1)) (highD l0 D cut (at_ + 1)) := by
           rw [HW3.out, HW4.out]
           exact (HM2.out.drewN _).put10 (by omega) (by omega) _ _
          have HM4 := Sd.mk hm4
          clear hm4 h90 h91 h92 h93 hfn hc1
          generalize ((wc.drewN (1 + q)).setCell ⟨wo.heap.size + 1, 0, none⟩ (.int .i64 (IntKind.i64.wrap (highN cf l0 D cut at_ + IntKind.i64.wrap (ck * Y))))).setCell ⟨wo.heap.size + 1, 1, none⟩ (.int .i64 (IntKind.i64.wrap (highD l0 D cut at_ + Y))) = w9 at HM4 ⊢
          go_wp2
          go_roundg (l0.length - (at_ + 1))
          case measure => omega
          case rel => exact ⟨at_ + 1, by go_num, by omega, by omega, HM4⟩
      ·have hltz2 : ¬ (at_ : Int) < (l0.length : Int) := by omega
       obtain rfl : at_ = l0.length := by omega
       have hm := HM.out
       have ho := HO.out.later hm.below
       have hsm := mean_sums HOK.out D HALL.out HSD.out cut l0.length (Nat.le_refl _)
       have hpl : 0 < lowD l0 D cut l0.length ∧ 0 < highD l0 D cut l0.length := mean_pos HOK.out D HALL.out HSD.out HPERM.out cut
       have hq58 : ∀ W, Calls Try.prog 58 #[.int .i64 (lowN cf l0 D cut l0.length), .int .i64 (lowD l0 D cut l0.length)] W fun e w' => e = .returned (.int .i64 (lowQ cf l0 D cut)) ∧ ∃ q, w' = W.drewN q := fun W =>
        (batch_down.calls _ _ _ W (down_f _ _ hpl.1 (by omega) (by omega))).mono fun e w' ⟨h1, h2⟩ => ⟨h1, h2.out⟩
       have hq59 : ∀ W, Calls Try.prog 59 #[.int .i64 (highN cf l0 D cut l0.length), .int .i64 (highD l0 D cut l0.length)] W fun e w' => e = .returned (.int .i64 (highQ cf l0 D cut)) ∧ ∃ q, w' = W.drewN q := fun W =>
        (batch_up.calls _ _ _ W (up_f _ _ hpl.2 (by omega) (by omega))).mono fun e w' ⟨h1, h2⟩ => ⟨h1, h2.out⟩
       have h90 : wr.cell? ⟨wo.heap.size, 0, none⟩ = some (.int .i64 (lowN cf l0 D cut l0.length)) := (blk_cell hm.b9 0).trans rfl
       have h91 : wr.cell? ⟨wo.heap.size, 1, none⟩ = some (.int .i64 (lowD l0 D cut l0.length)) := (blk_cell hm.b9 1).trans rfl
       have h92 : wr.cell? ⟨wo.heap.size + 1, 0, none⟩ = some (.int .i64 (highN cf l0 D cut l0.length)) := (blk_cell hm.b10 0).trans rfl
       have h93 : wr.cell? ⟨wo.heap.size + 1, 1, none⟩ = some (.int .i64 (highD l0 D cut l0.length)) := (blk_cell hm.b10 1).trans rfl
       have H58 := Sd.mk hq58
       have H59 := Sd.mk hq59
       have HO2 := Sd.mk ho
       have ho0 : wr.cell? ⟨Bo, 0, none⟩ = some (.int .i64 (atCut (lowQ cf l0 D) minF cut)) := (blk_cell ho.out 0).trans rfl
       have ho1 : wr.cell? ⟨Bo, 1, none⟩ = some (.int .i64 (atCut (highQ cf l0 D) maxF cut)) := (blk_cell ho.out 1).trans rfl
       have ho2 := blk_frozen ho.out 0
       have ho3 := blk_frozen ho.out 1
       clear hq58 hq59 hm ho hsm hpl
       go_upto_region 22 with (fail)
       go_quiet (first | (go_at_call 58; exact Calls.quiet_of (H58.out _)) | (go_at_call 59; exact Calls.quiet_of (H59.out _)))
       have ho4 := HO2.out.drewN nq
       have HO4 := Sd.mk ho4
       have hBo : w.heap.size ≤ Bo := by omega
       cases cut with
       | zero =>
        have hcb : (((0 : Nat) : Int) == 0) = true := rfl
        have e1 : atCut (lowQ cf l0 D) minF (0 + 1) = lowQ cf l0 D 0 := rfl
        have e2 : atCut (highQ cf l0 D) maxF (0 + 1) = highQ cf l0 D 0 := rfl
        have E12 := Sd.mk (And.intro e1 e2)
        clear e1 e2 H58 H59 ho4
        generalize lowQ cf l0 D 0 = q1 at *
        generalize highQ cf l0 D 0 = q2 at *
        have hcz : ((0 : Nat) : Int) = 0 := rfl
        rw [hcz]
        generalize wr.drewN nq = w8 at *
        have ho0' : w8.cell? ⟨Bo, 0, none⟩ = some (.int .i64 0) := (blk_cell HO4.out.out 0).trans rfl
        have ho1' : w8.cell? ⟨Bo, 1, none⟩ = some (.int .i64 0) := (blk_cell HO4.out.out 1).trans rfl
        have ho2' := blk_frozen HO4.out.out 0
        have ho3' := blk_frozen HO4.out.out 1
        go_wp2
        go_roundg l0.length
        case measure => omega
        case rel => exact ⟨1, by first | rfl | go_num, by omega, by omega, ⟨by rw [E12.out.1, E12.out.2]; exact (HO4.out.put hBo (by omega) (by omega) (by omega) q1 q2).put hBo (by omega) (by omega) (by omega) q1 q2⟩⟩
       | succ cc =>
        have hcb : (((cc : Int) + 1) == 0) = false := by simp; omega
        have e1 : atCut (lowQ cf l0 D) minF (cc + 1 + 1) = if lowQ cf l0 D (cc + 1) < atCut (lowQ cf l0 D) minF (cc + 1) then lowQ cf l0 D (cc + 1) else atCut (lowQ cf l0 D) minF (cc + 1) := rfl
        have e2 : atCut (highQ cf l0 D) maxF (cc + 1 + 1) = if atCut (highQ cf l0 D) maxF (cc + 1) < highQ cf l0 D (cc + 1) then highQ cf l0 D (cc + 1) else atCut (highQ cf l0 D) maxF (cc + 1) := rfl
        have E12 := Sd.mk (And.intro e1 e2)
        clear e1 e2 H58 H59 ho4
        generalize lowQ cf l0 D (cc + 1) = q1 at *
        generalize highQ cf l0 D (cc + 1) = q2 at *
        generalize atCut (lowQ cf l0 D) minF (cc + 1) = x1 at *
        generalize atCut (highQ cf l0 D) maxF (cc + 1) = y1 at *
        rw [show ((cc + 1 : Nat) : Int) = (cc : Int) + 1 from by omega]
        generalize wr.drewN nq = w8 at *
        have ho0' : w8.cell? ⟨Bo, 0, none⟩ = some (.int .i64 x1) := (blk_cell HO4.out.out 0).trans rfl
        have ho1' : w8.cell? ⟨Bo, 1, none⟩ = some (.int .i64 y1) := (blk_cell HO4.out.out 1).trans rfl
        have ho2' := blk_frozen HO4.out.out 0
        have ho3' := blk_frozen HO4.out.out 1
        have hr1 : (cc : Int) + 1 ≤ 12 := by have := HN.out; omega
        have hr0 : 0 ≤ (cc : Int) := by omega
        go_wp2
        all_goals
         go_roundg (l0.length - (cc + 1))
         case measure => omega
         case rel => exact ⟨cc + 1 + 1, by first | rfl | go_num, by omega, by omega, ⟨by rw [E12.out.1, E12.out.2]; (first | rw [if_pos (show q1 < x1 by assumption)] | rw [if_neg (show ¬ q1 < x1 by omega)]); (first | rw [if_pos (show y1 < q2 by assumption)] | rw [if_neg (show ¬ y1 < q2 by omega)]); exact HO4.out.put hBo (by omega) (by omega) (by omega) _ _⟩⟩
    ·have hlez : ¬ (cut : Int) ≤ (l0.length : Int) := by omega
     obtain rfl : cut = l0.length + 1 := by omega
     have ho := HO.out
     have c0 : wr.cell? ⟨Bo, 0, none⟩ = some (.int .i64 (meanLo cf l0)) := by rw [HFIN.out.1]; exact (blk_cell ho.out 0).trans rfl
     have c1 : wr.cell? ⟨Bo, 1, none⟩ = some (.int .i64 (meanHi cf l0)) := by rw [HFIN.out.2]; exact (blk_cell ho.out 1).trans rfl
     have r0 : wr.cell? ⟨w.heap.size + 1, 0, none⟩ = some (.int .i64 0) := (blk_cell ho.res 0).trans rfl
     have r1 : wr.cell? ⟨w.heap.size + 1, 1, none⟩ = some (.int .i64 0) := (blk_cell ho.res 1).trans rfl
     have f0 := blk_frozen ho.res 0
     have f1 := blk_frozen ho.res 1
     clear ho
     go_wp2
     refine bodyPost_ret (results_cell_row rfl _ _ (w.heap.size + 1) 27 #[.int .i64 (meanLo cf l0), .int .i64 (meanHi cf l0)] (0, 0) _ rfl (blk_put (cs := #[.int .i64 (meanLo cf l0), .int .i64 0]) (blk_put (cs := #[.int .i64 0, .int .i64 0]) HO.out.res 0 _ rfl) 1 _ rfl) Try.underlying27 (by decide) (by kernel_rfl)) rfl ?_
     exact ⟨rfl, below_set (below_set HO.out.below (by omega)) (by omega)⟩
end Go.Proofs.Ytkjkokgbhepmoaa.PB

namespace Go.Proofs.Ytkjkokgbhepmoaa.PB
open Go.RowKit Go.Proofs.YtkjkokgbhepmoaaW.PrintWords Go.Proofs.YtkjkokgbhepmoaaW.PrintLast Go.Proofs.YtkjkokgbhepmoaaW.PrintMore
def meanOkB (cf : Int → Int) (l : List S27) : Bool :=
 decide (l.length ≤ 12) && ((List.range l.length).all fun j => decide (0 ≤ (rd_T27 l (j : Int)).f0) && decide ((rd_T27 l (j : Int)).f0 ≤ (rd_T27 l (j : Int)).f1) && decide ((rd_T27 l (j : Int)).f1 ≤ 1000000000) && decide (-100000 ≤ cf j) && decide (cf j ≤ 100000)) && decide (0 < MeanMath.lsum S27.f0 l)
theorem meanOkB_iff {cf : Int → Int} {l : List S27} : meanOkB cf l = true ↔ MeanOk cf l := by
 unfold meanOkB
 simp only [Bool.and_eq_true, decide_eq_true_eq, List.all_eq_true, List.mem_range]
 constructor
 ·rintro ⟨⟨h1, h2⟩, h3⟩
  have key : ∀ k : Int, 0 ≤ k → k < l.length → ∃ j : Nat, j < l.length ∧ k = j := fun k h0 h1 => ⟨k.toNat, by omega, by omega⟩
  refine ⟨h1, ?_, ?_, ?_, ?_, ?_, h3⟩ <;> intro k h0 hl <;> obtain ⟨j, hj, rfl⟩ := key k h0 hl <;> have := h2 j hj <;> omega
 ·intro h
  refine ⟨⟨h.n12, fun j hj => ?_⟩, h.pos⟩
  have h0 : (0 : Int) ≤ j := by omega
  have hl : (j : Int) < l.length := by omega
  exact ⟨⟨⟨⟨h.lo _ h0 hl, h.le _ h0 hl⟩, h.hi _ h0 hl⟩, h.c1 _ h0 hl⟩, h.c2 _ h0 hl⟩
set_option maxHeartbeats 1000000 in
theorem value1_calls (H P : Nat) (A0_0 : Option Addr) (c0_0 : Nat) (l0_0 : List ByteArray) (A0_1 : Option Addr) (c0_1 : Nat) (l0_1 : List (S63)) (A0_2 : Option Addr) (c0_2 : Nat) (l0_2 : List (S27)) (A0_3 : Option Addr) (c0_3 : Nat) (l0_3 : List (S65)) (a0_4 : Int) (a0_5 : Int) (a0_6 : Int) (a2 : Int) (W : World) (hH : W.heap[H]? = some (.cells #[.slice A0_0 l0_0.length c0_0, .slice A0_1 l0_1.length c0_1, .slice A0_2 l0_2.length c0_2, .slice A0_3 l0_3.length c0_3, .int .i64 a0_4, .int .i64 a0_5, .int .i64 a0_6] 29 (0, 0))) (hP : W.heap[P]? = some (.cells #[.int .i64 a2] 3 (0, 0)))
  (hr : Kd.C k65 W A0_3 l0_3.length l0_3) (h0 : 0 ≤ a2) (h1 : a2 < l0_3.length) (x : Int) (hx0 : 0 ≤ x) (hx1 : x < (rd_T65 l0_3 a2).f1.length) :
  Calls Try.prog 56 #[.int .i64 x, .pointer (some ⟨H, 0, none⟩), .pointer (some ⟨P, 0, none⟩)] W fun e w' => e = .returned (.int .i64 (rd (rd_T65 l0_3 a2).f1 x)) ∧ ∃ q, w' = W.drewN q := by
 obtain ⟨ad, A1, c1, rfl, hq0, hq1, hq2, hq3, hl, hC⟩ := at_T65 hr a2 h0 h1
 obtain ⟨ae, rfl, hqx⟩ := Kd.at_int hC x hx0 hx1
 have hH3 : W.cell? ⟨H, 0 + 3, none⟩ = some (.slice (some ad) l0_3.length c0_3) := (blk_cell hH 3).trans rfl
 have hP0 : W.cell? ⟨P, 0, none⟩ = some (.int .i64 a2) := (blk_cell hP 0).trans rfl
 clear hr
 go_enter Try.func56, Try.ntmps56
 go_wp2
 go_ret
 exact ⟨rfl, 0, rfl⟩
def x_Value.f (k : Nat) (l0_0 : List ByteArray) (l0_1 : List (S63)) (l0_2 : List (S27)) (l0_3 : List (S65)) (a0_4 : Int) (a0_5 : Int) (a0_6 : Int) (l1 : List Int) (a2 : Int) : Option (Int × Int × Int) := (batch_asked.f k l0_0 l0_1 l0_2 l0_3 a0_4 a0_5 a0_6 l1).bind fun e => if e = 0 then ((batch_within.f a2 0 (wrap64 ((l0_3.length : Int) - 1))).bind fun b => if b = true then ((x_glass.f k l0_0 l0_1 l0_2 l0_3 a0_4 a0_5 a0_6 l1).bind fun p => if p.2 = 0 then (if 0 ≤ a2 ∧ a2 < l0_3.length ∧ p.1.length ≤ (rd_T65 l0_3 a2).f1.length ∧ meanOkB (rd (rd_T65 l0_3 a2).f1) p.1 = true then some (meanLo (rd (rd_T65 l0_3 a2).f1) p.1, meanHi (rd (rd_T65 l0_3 a2).f1) p.1, 0) else none) else some (0, 0, p.2)) else some (0, 0, 7)) else some (0, 0, e)
set_option maxHeartbeats 4000000 in
set_option maxRecDepth 100000 in
theorem x_Value.calls (k : Nat) (A0_0 : Option Addr) (c0_0 : Nat) (l0_0 : List ByteArray) (A0_1 : Option Addr) (c0_1 : Nat) (l0_1 : List (S63)) (A0_2 : Option Addr) (c0_2 : Nat) (l0_2 : List (S27)) (A0_3 : Option Addr) (c0_3 : Nat) (l0_3 : List (S65)) (a0_4 : Int) (a0_5 : Int) (a0_6 : Int) (A1 : Option Addr) (c1 : Nat) (l1 : List Int) (a2 : Int) (r1 : Int) (r2 : Int) (r3 : Int) (w : World) (hr0_0 : Kd.C Kd.string w A0_0 l0_0.length l0_0) (hc0_0 : l0_0.length ≤ c0_0) (hr0_1 : Kd.C k63 w A0_1 l0_1.length l0_1) (hc0_1 : l0_1.length ≤ c0_1) (hr0_2 : Kd.C k27 w A0_2 l0_2.length l0_2) (hc0_2 : l0_2.length ≤ c0_2) (hr0_3 : Kd.C k65 w A0_3 l0_3.length l0_3) (hc0_3 : l0_3.length ≤ c0_3) (hr1 : Kd.C (Kd.int .i64) w A1 l1.length l1) (hc1 : l1.length ≤ c1) (h : x_Value.f k l0_0 l0_1 l0_2 l0_3 a0_4 a0_5 a0_6 l1 a2 = some (r1, r2, r3)) :
  Calls Try.prog 20 #[.agg #[.slice A0_0 l0_0.length c0_0, .slice A0_1 l0_1.length c0_1, .slice A0_2 l0_2.length c0_2, .slice A0_3 l0_3.length c0_3, .int .i64 a0_4, .int .i64 a0_5, .int .i64 a0_6], .slice A1 l1.length c1, .int .i64 a2] w fun e w' => e = .returned (.tuple #[.agg #[.int .i64 r1, .int .i64 r2], .int .i64 r3]) ∧ Below w.heap.size w w' := by
 unfold x_Value.f at h
 obtain ⟨ea, ha, H⟩ := Option.bind_eq_some_iff.mp h
 have hb0 : Below w.heap.size w (((w.alloc (.cells #[.slice A0_0 l0_0.length c0_0, .slice A0_1 l0_1.length c0_1, .slice A0_2 l0_2.length c0_2, .slice A0_3 l0_3.length c0_3, .int .i64 a0_4, .int .i64 a0_5, .int .i64 a0_6] 29)).alloc (.cells #[.int .i64 a2] 3)).alloc (.cells #[.int .i64 0, .int .i64 0] 27)) := below_alloc (below_alloc (below_alloc (Below.refl _ _) _) _) _
 have hH : (((w.alloc (.cells #[.slice A0_0 l0_0.length c0_0, .slice A0_1 l0_1.length c0_1, .slice A0_2 l0_2.length c0_2, .slice A0_3 l0_3.length c0_3, .int .i64 a0_4, .int .i64 a0_5, .int .i64 a0_6] 29)).alloc (.cells #[.int .i64 a2] 3)).alloc (.cells #[.int .i64 0, .int .i64 0] 27)).heap[w.heap.size]? = some (.cells #[.slice A0_0 l0_0.length c0_0, .slice A0_1 l0_1.length c0_1, .slice A0_2 l0_2.length c0_2, .slice A0_3 l0_3.length c0_3, .int .i64 a0_4, .int .i64 a0_5, .int .i64 a0_6] 29 (0, 0)) := blk_alloc (blk_alloc (blk_new w _) _) _
 have hP : (((w.alloc (.cells #[.slice A0_0 l0_0.length c0_0, .slice A0_1 l0_1.length c0_1, .slice A0_2 l0_2.length c0_2, .slice A0_3 l0_3.length c0_3, .int .i64 a0_4, .int .i64 a0_5, .int .i64 a0_6] 29)).alloc (.cells #[.int .i64 a2] 3)).alloc (.cells #[.int .i64 0, .int .i64 0] 27)).heap[w.heap.size + 1]? = some (.cells #[.int .i64 a2] 3 (0, 0)) := by
  have := blk_alloc (blk_new (w.alloc (.cells #[.slice A0_0 l0_0.length c0_0, .slice A0_1 l0_1.length c0_1, .slice A0_2 l0_2.length c0_2, .slice A0_3 l0_3.length c0_3, .int .i64 a0_4, .int .i64 a0_5, .int .i64 a0_6] 29)) (.cells #[.int .i64 a2] 3)) (.cells #[.int .i64 0, .int .i64 0] 27)
  simpa using this
 have hZ : (((w.alloc (.cells #[.slice A0_0 l0_0.length c0_0, .slice A0_1 l0_1.length c0_1, .slice A0_2 l0_2.length c0_2, .slice A0_3 l0_3.length c0_3, .int .i64 a0_4, .int .i64 a0_5, .int .i64 a0_6] 29)).alloc (.cells #[.int .i64 a2] 3)).alloc (.cells #[.int .i64 0, .int .i64 0] 27)).heap[w.heap.size + 1 + 1]? = some (.cells #[.int .i64 0, .int .i64 0] 27 (0, 0)) := by
  have := blk_new ((w.alloc (.cells #[.slice A0_0 l0_0.length c0_0, .slice A0_1 l0_1.length c0_1, .slice A0_2 l0_2.length c0_2, .slice A0_3 l0_3.length c0_3, .int .i64 a0_4, .int .i64 a0_5, .int .i64 a0_6] 29)).alloc (.cells #[.int .i64 a2] 3)) (.cells #[.int .i64 0, .int .i64 0] 27)
  simpa using this
 have hgo := batch_asked.calls k A0_0 c0_0 l0_0 A0_1 c0_1 l0_1 A0_2 c0_2 l0_2 A0_3 c0_3 l0_3 a0_4 a0_5 a0_6 A1 c1 l1 ea (((w.alloc (.cells #[.slice A0_0 l0_0.length c0_0, .slice A0_1 l0_1.length c0_1, .slice A0_2 l0_2.length c0_2, .slice A0_3 l0_3.length c0_3, .int .i64 a0_4, .int .i64 a0_5, .int .i64 a0_6] 29)).alloc (.cells #[.int .i64 a2] 3)).alloc (.cells #[.int .i64 0, .int .i64 0] 27)) (Kd.C_below hr0_0 hb0) hc0_0 (Kd.C_below hr0_1 hb0) hc0_1 (Kd.C_below hr0_2 hb0) hc0_2 (Kd.C_below hr0_3 hb0) hc0_3 (Kd.C_below hr1 hb0) hc1 ha
 clear h ha
 have HR0_0 := Sd.mk hr0_0
 have HC0_0 := Sd.mk hc0_0
 clear hr0_0 hc0_0
 have HR0_1 := Sd.mk hr0_1
 have HC0_1 := Sd.mk hc0_1
 clear hr0_1 hc0_1
 have HR0_2 := Sd.mk hr0_2
 have HC0_2 := Sd.mk hc0_2
 clear hr0_2 hc0_2
 have HR0_3 := Sd.mk hr0_3
 have HC0_3 := Sd.mk hc0_3
 clear hr0_3 hc0_3
 have HR1 := Sd.mk hr1
 have HC1 := Sd.mk hc1
 clear hr1 hc1
 have HB := Sd.mk hb0
 have HH := Sd.mk H
 have BH := Sd.mk hH
 have BP := Sd.mk hP
 have BZ := Sd.mk hZ
 clear hb0 H hH hP hZ
 go_enter Try.func20, Try.ntmps20
 go_wp2_with fail
 generalize (((w.alloc (.cells #[.slice A0_0 l0_0.length c0_0, .slice A0_1 l0_1.length c0_1, .slice A0_2 l0_2.length c0_2, .slice A0_3 l0_3.length c0_3, .int .i64 a0_4, .int .i64 a0_5, .int .i64 a0_6] 29)).alloc (.cells #[.int .i64 a2] 3)).alloc (.cells #[.int .i64 0, .int .i64 0] 27)) = w0 at *
 refine hgo.mono ?_
 clear hgo
 rintro e w1 ⟨rfl, hb⟩
 have HB1 := Sd.mk (below_trans' HB.out hb)
 have BH1 := Sd.mk (blk_below BH.out hb)
 have BP1 := Sd.mk (blk_below BP.out hb)
 have BZ1 := Sd.mk (blk_below BZ.out hb)
 clear hb HB BH BP BZ w0
 have hz0 : w1.cell? ⟨w.heap.size + 1 + 1, 0, none⟩ = some (.int .i64 0) := (blk_cell BZ1.out 0).trans rfl
 have hz1 : w1.cell? ⟨w.heap.size + 1 + 1, 1, none⟩ = some (.int .i64 0) := (blk_cell BZ1.out 1).trans rfl
 have hzf0 := blk_frozen BZ1.out 0
 have hzf1 := blk_frozen BZ1.out 1
 have H := HH.out
 clear HH
 by_cases he : ea = 0
 ·rw [if_pos he] at H
  have heb : (ea != 0) = false := by simp [he]
  obtain ⟨bw, hbw, H⟩ := Option.bind_eq_some_iff.mp H
  have hgo := batch_within.calls a2 0 (wrap64 ((l0_3.length : Int) - 1)) bw w1 hbw
  have hh3 : w1.cell? ⟨w.heap.size, 0 + 3, none⟩ = some (.slice A0_3 l0_3.length c0_3) := (blk_cell BH1.out 3).trans rfl
  have hp0 : w1.cell? ⟨w.heap.size + 1, 0, none⟩ = some (.int .i64 a2) := (blk_cell BP1.out 0).trans rfl
  have HH := Sd.mk H
  have HE := Sd.mk he
  clear H he hbw
  clear hz0 hz1 hzf0 hzf1
  go_wp2_with fail
  refine hgo.mono ?_
  clear hgo
  rintro e w2 ⟨rfl, hd⟩
  have hb := hd.below
  clear hd
  clear hh3 hp0
  have HB2 := Sd.mk (below_trans' HB1.out hb)
  have BH2 := Sd.mk (blk_below BH1.out hb)
  have BP2 := Sd.mk (blk_below BP1.out hb)
  have BZ2 := Sd.mk (blk_below BZ1.out hb)
  clear hb HB1 BH1 BP1 BZ1
  have H := HH.out
  clear HH
  cases hbb : bw with
  | true =>
   rw [if_pos hbb] at H
   obtain ⟨p, hp, H⟩ := Option.bind_eq_some_iff.mp H
   obtain ⟨pl, pe⟩ := p
   dsimp only at H
   have hgo := x_glass.calls k A0_0 c0_0 l0_0 A0_1 c0_1 l0_1 A0_2 c0_2 l0_2 A0_3 c0_3 l0_3 a0_4 a0_5 a0_6 A1 c1 l1 pl pe w2 (Kd.C_below HR0_0.out HB2.out) HC0_0.out (Kd.C_below HR0_1.out HB2.out) HC0_1.out (Kd.C_below HR0_2.out HB2.out) HC0_2.out (Kd.C_below HR0_3.out HB2.out) HC0_3.out (Kd.C_below HR1.out HB2.out) HC1.out hp
   have hc_0 : w2.cell? ⟨w.heap.size, 0, none⟩ = some (.slice A0_0 l0_0.length c0_0) := (blk_cell BH2.out 0).trans rfl
   have hc_1 : w2.cell? ⟨w.heap.size, 1, none⟩ = some (.slice A0_1 l0_1.length c0_1) := (blk_cell BH2.out 1).trans rfl
   have hc_2 : w2.cell? ⟨w.heap.size, 2, none⟩ = some (.slice A0_2 l0_2.length c0_2) := (blk_cell BH2.out 2).trans rfl
   have hc_3 : w2.cell? ⟨w.heap.size, 3, none⟩ = some (.slice A0_3 l0_3.length c0_3) := (blk_cell BH2.out 3).trans rfl
   have hc_4 : w2.cell? ⟨w.heap.size, 4, none⟩ = some (.int .i64 a0_4) := (blk_cell BH2.out 4).trans rfl
   have hc_5 : w2.cell? ⟨w.heap.size, 5, none⟩ = some (.int .i64 a0_5) := (blk_cell BH2.out 5).trans rfl
   have hc_6 : w2.cell? ⟨w.heap.size, 6, none⟩ = some (.int .i64 a0_6) := (blk_cell BH2.out 6).trans rfl
   clear hp hbb
   have HH := Sd.mk H
   clear H
   go_wp2_with fail
   refine hgo.mono ?_
   clear hgo hc_0 hc_1 hc_2 hc_3 hc_4 hc_5 hc_6
   rintro e w3 ⟨v, rfl, hR, hb⟩
   obtain ⟨A, c, rfl, hlc, hC⟩ := Kd.R_reads hR
   clear hR
   have HB3 := Sd.mk (below_trans' HB2.out hb)
   have BH3 := Sd.mk (blk_below BH2.out hb)
   have BP3 := Sd.mk (blk_below BP2.out hb)
   have BZ3 := Sd.mk (blk_below BZ2.out hb)
   clear hb HB2 BH2 BP2 BZ2
   have H := HH.out
   clear HH
   by_cases hpe : pe = 0
   ·rw [if_pos hpe] at H
    have hpb : (pe != 0) = false := by simp [hpe]
    have hif : (0 ≤ a2 ∧ a2 < l0_3.length ∧ pl.length ≤ (rd_T65 l0_3 a2).f1.length ∧ meanOkB (rd (rd_T65 l0_3 a2).f1) pl = true) := by
     by_cases hh : (0 ≤ a2 ∧ a2 < l0_3.length ∧ pl.length ≤ (rd_T65 l0_3 a2).f1.length ∧ meanOkB (rd (rd_T65 l0_3 a2).f1) pl = true)
     ·exact hh
     ·rw [if_neg hh] at H; cases H
    rw [if_pos hif] at H
    obtain ⟨h0, h1, h2, h3⟩ := hif
    simp only [Option.some.injEq, Prod.mk.injEq] at H
    obtain ⟨rfl, rfl, rfl⟩ := H
    have hq : CoefQ 56 #[.pointer (some ⟨w.heap.size, 0, none⟩), .pointer (some ⟨w.heap.size + 1, 0, none⟩)] (rd (rd_T65 l0_3 a2).f1) pl.length w3 := fun W hbW x hx0 hx1 =>
     value1_calls w.heap.size (w.heap.size + 1) A0_0 c0_0 l0_0 A0_1 c0_1 l0_1 A0_2 c0_2 l0_2 A0_3 c0_3 l0_3 a0_4 a0_5 a0_6 a2 W (blk_below BH3.out hbW) (blk_below BP3.out hbW) (Kd.C_below (Kd.C_below HR0_3.out HB3.out) hbW) h0 h1 x hx0 (by omega)
    have hgo := mean_calls (rd (rd_T65 l0_3 a2).f1) A c pl 56 #[.pointer (some ⟨w.heap.size, 0, none⟩), .pointer (some ⟨w.heap.size + 1, 0, none⟩)] w3 (enters_of Try.func56 (by kernel_rfl) rfl) hC hlc hq (meanOkB_iff.mp h3)
    clear hq
    go_wp2_with fail
    refine hgo.mono ?_
    clear hgo
    rintro e w4 ⟨rfl, hb⟩
    have HB4 := Sd.mk (below_trans' HB3.out hb)
    have BZ4 := Sd.mk (blk_below BZ3.out hb)
    clear hb HB3 BH3 BP3 BZ3
    have hz0 : w4.cell? ⟨w.heap.size + 1 + 1, 0, none⟩ = some (.int .i64 0) := (blk_cell BZ4.out 0).trans rfl
    have hz1 : w4.cell? ⟨w.heap.size + 1 + 1, 1, none⟩ = some (.int .i64 0) := (blk_cell BZ4.out 1).trans rfl
    have hzf0 := blk_frozen BZ4.out 0
    have hzf1 := blk_frozen BZ4.out 1
    go_wp2
    refine bodyPost_ret (results_ct rfl _ _ (w.heap.size + 1 + 1) 27 #[.int .i64 (meanLo (rd (rd_T65 l0_3 a2).f1) pl), .int .i64 (meanHi (rd (rd_T65 l0_3 a2).f1) pl)] (0, 0) _ rfl (by (with_reducible repeat (first | refine blk_drewN ?_ _ | refine blk_drew ?_ | refine blk_alloc ?_ _)); refine blk_put (cs := #[.int .i64 (meanLo (rd (rd_T65 l0_3 a2).f1) pl), .int .i64 0]) ?_ 1 _ rfl; (with_reducible repeat (first | refine blk_drewN ?_ _ | refine blk_drew ?_ | refine blk_alloc ?_ _)); refine blk_put (cs := #[.int .i64 0, .int .i64 0]) ?_ 0 _ rfl; exact BZ4.out) Try.underlying27 rfl (by kernel_rfl)) rfl ?_
    refine ⟨rfl, ?_⟩
    repeat (first | exact HB4.out | apply below_alloc | apply pw_below_drewN | apply below_drew1 | refine below_set ?_ (by omega))
   ·rw [if_neg hpe] at H
    have hpb : (pe != 0) = true := by simp [hpe]
    simp only [Option.some.injEq, Prod.mk.injEq] at H
    obtain ⟨rfl, rfl, rfl⟩ := H
    have hz0 : w3.cell? ⟨w.heap.size + 1 + 1, 0, none⟩ = some (.int .i64 0) := (blk_cell BZ3.out 0).trans rfl
    have hz1 : w3.cell? ⟨w.heap.size + 1 + 1, 1, none⟩ = some (.int .i64 0) := (blk_cell BZ3.out 1).trans rfl
    have hzf0 := blk_frozen BZ3.out 0
    have hzf1 := blk_frozen BZ3.out 1
    go_wp2
    refine bodyPost_ret (results_ct rfl _ _ (w.heap.size + 1 + 1) 27 #[.int .i64 0, .int .i64 0] (0, 0) _ rfl (by (with_reducible repeat (first | refine blk_drewN ?_ _ | refine blk_drew ?_ | refine blk_alloc ?_ _)); refine blk_put (cs := #[.int .i64 0, .int .i64 0]) ?_ 1 _ rfl; (with_reducible repeat (first | refine blk_drewN ?_ _ | refine blk_drew ?_ | refine blk_alloc ?_ _)); refine blk_put (cs := #[.int .i64 0, .int .i64 0]) ?_ 0 _ rfl; exact BZ3.out) Try.underlying27 rfl (by kernel_rfl)) rfl ?_
    refine ⟨rfl, ?_⟩
    repeat (first | exact HB3.out | apply below_alloc | apply pw_below_drewN | apply below_drew1 | refine below_set ?_ (by omega))
  | false =>
   rw [if_neg (by simp [hbb])] at H
   simp only [Option.some.injEq, Prod.mk.injEq] at H
   obtain ⟨rfl, rfl, rfl⟩ := H
   have hz0 : w2.cell? ⟨w.heap.size + 1 + 1, 0, none⟩ = some (.int .i64 0) := (blk_cell BZ2.out 0).trans rfl
   have hz1 : w2.cell? ⟨w.heap.size + 1 + 1, 1, none⟩ = some (.int .i64 0) := (blk_cell BZ2.out 1).trans rfl
   have hzf0 := blk_frozen BZ2.out 0
   have hzf1 := blk_frozen BZ2.out 1
   go_wp2
   refine bodyPost_ret (results_ct rfl _ _ (w.heap.size + 1 + 1) 27 #[.int .i64 0, .int .i64 0] (0, 0) _ rfl (by (with_reducible repeat (first | refine blk_drewN ?_ _ | refine blk_drew ?_ | refine blk_alloc ?_ _)); refine blk_put (cs := #[.int .i64 0, .int .i64 0]) ?_ 1 _ rfl; (with_reducible repeat (first | refine blk_drewN ?_ _ | refine blk_drew ?_ | refine blk_alloc ?_ _)); refine blk_put (cs := #[.int .i64 0, .int .i64 0]) ?_ 0 _ rfl; exact BZ2.out) Try.underlying27 rfl (by kernel_rfl)) rfl ?_
   refine ⟨rfl, ?_⟩
   repeat (first | exact HB2.out | apply below_alloc | apply pw_below_drewN | apply below_drew1 | refine below_set ?_ (by omega))
 ·rw [if_neg he] at H
  have heb : (ea != 0) = true := by simp [he]
  simp only [Option.some.injEq, Prod.mk.injEq] at H
  obtain ⟨rfl, rfl, rfl⟩ := H
  go_wp2
  refine bodyPost_ret (results_ct rfl _ _ (w.heap.size + 1 + 1) 27 #[.int .i64 0, .int .i64 0] (0, 0) _ rfl (by (with_reducible repeat (first | refine blk_drewN ?_ _ | refine blk_drew ?_ | refine blk_alloc ?_ _)); refine blk_put (cs := #[.int .i64 0, .int .i64 0]) ?_ 1 _ rfl; (with_reducible repeat (first | refine blk_drewN ?_ _ | refine blk_drew ?_ | refine blk_alloc ?_ _)); refine blk_put (cs := #[.int .i64 0, .int .i64 0]) ?_ 0 _ rfl; exact BZ1.out) Try.underlying27 rfl (by kernel_rfl)) rfl ?_
  refine ⟨rfl, ?_⟩
  repeat (first | exact HB1.out | apply below_alloc | apply pw_below_drewN | apply below_drew1 | refine below_set ?_ (by omega))
end Go.Proofs.Ytkjkokgbhepmoaa.PB

namespace Go.Proofs.Ytkjkokgbhepmoaa.PB
open Go.RowKit Go.Proofs.YtkjkokgbhepmoaaW.PrintWords Go.Proofs.YtkjkokgbhepmoaaW.PrintLast Go.Proofs.YtkjkokgbhepmoaaW.PrintMore
structure F105 where
 fn : Nat
 lb : Array Value
 tg : S27
def kfn : Kd (Nat × Array Value) := Kd.scalar (fun x => .func (.func x.1) #[] x.2) (fun _ => rfl)
def k105 : Kd F105 := Kd.iso (Kd.pair kfn k27) (fun x : F105 => ((x.fn, x.lb), x.tg))
set_option maxHeartbeats 1000000 in
theorem forms1_calls (I : Nat) (i : Int) (W : World) (hI : W.heap[I]? = some (.cells #[.int .i64 i] 3 (0, 0))) (x : Int) :
  Calls Try.prog 111 #[.int .i64 x, .pointer (some ⟨I, 0, none⟩)] W fun e w' => e = .returned (.int .i64 (if x = i then 1000 else 0)) ∧ ∃ q, w' = W.drewN q := by
 have h0 : W.cell? ⟨I, 0, none⟩ = some (.int .i64 i) := (blk_cell hI 0).trans rfl
 go_enter Try.func111, Try.ntmps111
 by_cases he : x = i
 ·have heb : (x == i) = true := beq_iff_eq.mpr he
  go_wp2
  go_ret
  exact ⟨by simp [he], 0, rfl⟩
 ·have heb : (x == i) = false := beq_eq_false_iff_ne.mpr he
  go_wp2
  go_ret
  exact ⟨by simp [he], 0, rfl⟩
set_option maxHeartbeats 1000000 in
theorem forms2_calls (P n : Nat) (s : ByteArray) (A1 : Option Addr) (c1 : Nat) (xs : List Int) (lo hi : Int) (W : World) (hP : W.heap[P]? = some (.cells #[.string s, .slice A1 xs.length c1, .int .i64 lo, .int .i64 hi] 65 (0, 0)))
  (hr : Kd.C (Kd.int .i64) W A1 xs.length xs) (x : Int) (hx0 : 0 ≤ x) (hx1 : x < xs.length) :
  Calls Try.prog 112 #[.int .i64 x, .pointer (some ⟨P, 0, none⟩)] W fun e w' => e = .returned (.int .i64 (rd xs x)) ∧ ∃ q, w' = W.drewN q := by
 obtain ⟨ae, rfl, hqx⟩ := Kd.at_int hr x hx0 hx1
 have h1 : W.cell? ⟨P, 0 + 1, none⟩ = some (.slice (some ae) xs.length c1) := (blk_cell hP 1).trans rfl
 go_enter Try.func112, Try.ntmps112
 go_wp2
 go_ret
 exact ⟨rfl, 0, rfl⟩
def FormAt (w W : World) (l2 : List S27) (l3 : List S65) (j : Nat) (f : F105) : Prop :=
 (j < l2.length → ∃ I, f = ⟨111, #[.pointer (some ⟨I, 0, none⟩)], rd_T27 l2 j⟩ ∧ W.heap[I]? = some (.cells #[.int .i64 j] 3 (0, 0))) ∧
 (l2.length ≤ j → ∃ P A1 c1, f = ⟨112, #[.pointer (some ⟨P, 0, none⟩)], (rd_T65 l3 ((j - l2.length : Nat) : Int)).f2⟩ ∧
  W.heap[P]? = some (.cells #[.string (rd_T65 l3 ((j - l2.length : Nat) : Int)).f0, .slice A1 (rd_T65 l3 ((j - l2.length : Nat) : Int)).f1.length c1, .int .i64 (rd_T65 l3 ((j - l2.length : Nat) : Int)).f2.f0, .int .i64 (rd_T65 l3 ((j - l2.length : Nat) : Int)).f2.f1] 65 (0, 0)) ∧
  Kd.C (Kd.int .i64) w A1 (rd_T65 l3 ((j - l2.length : Nat) : Int)).f1.length (rd_T65 l3 ((j - l2.length : Nat) : Int)).f1)
theorem FormAt.below {w W W' : World} {l2 : List S27} {l3 : List S65} {j : Nat} {f : F105} (h : FormAt w W l2 l3 j f) (hb : Below W.heap.size W W') : FormAt w W' l2 l3 j f := by
 refine ⟨fun hj => ?_, fun hj => ?_⟩
 ·obtain ⟨I, e, hI⟩ := h.1 hj
  exact ⟨I, e, blk_below hI hb⟩
 ·obtain ⟨P, A1, c1, e, hP, hC⟩ := h.2 hj
  exact ⟨P, A1, c1, e, blk_below hP hb, hC⟩
theorem FormAt.other {w W W' : World} {l2 : List S27} {l3 : List S65} {j : Nat} {f : F105} {H : Nat} {v : Value} (h : FormAt w W l2 l3 j f) (hH : W.heap[H]? = some (.cells #[v] 101 (0, 0)))
  (ho : ∀ g cs t, W.heap[g]? = some (.cells cs t (0, 0)) → t ≠ 105 → g ≠ H → W'.heap[g]? = some (.cells cs t (0, 0))) : FormAt w W' l2 l3 j f := by
 refine ⟨fun hj => ?_, fun hj => ?_⟩
 ·obtain ⟨I, e, hI⟩ := h.1 hj
  exact ⟨I, e, ho _ _ _ hI (by decide) (by rintro rfl; rw [hH] at hI; simp at hI)⟩
 ·obtain ⟨P, A1, c1, e, hP, hC⟩ := h.2 hj
  exact ⟨P, A1, c1, e, ho _ _ _ hP (by decide) (by rintro rfl; rw [hH] at hP; simp at hP), hC⟩
def coefOf (l2 : List S27) (l3 : List S65) (j : Nat) : Int → Int := if j < l2.length then (fun k => if k = j then 1000 else 0) else rd (rd_T65 l3 ((j - l2.length : Nat) : Int)).f1
theorem FormAt.coef {w W : World} {l2 : List S27} {l3 : List S65} {j : Nat} {f : F105} (h : FormAt w W l2 l3 j f) (hb : Below w.heap.size w W) (N : Int) (hN : l2.length ≤ j → N ≤ (rd_T65 l3 ((j - l2.length : Nat) : Int)).f1.length) :
  CoefQ f.fn f.lb (coefOf l2 l3 j) N W := by
 intro W' hb' x hx0 hx1
 unfold coefOf
 by_cases hj : j < l2.length
 ·obtain ⟨I, rfl, hI⟩ := h.1 hj
  rw [if_pos hj]
  exact forms1_calls I j W' (blk_below hI hb') x
 ·obtain ⟨P, A1, c1, rfl, hP, hC⟩ := h.2 (by omega)
  rw [if_neg hj]
  exact forms2_calls P 0 _ A1 c1 _ _ _ W' (blk_below hP hb') (Kd.C_below (Kd.C_below hC hb) hb') x hx0 (by have := hN (by omega); omega)
structure FormsW (wp w W : World) (cs : Array Value) (l2 : List S27) (l3 : List S65) (k : Nat) : Prop where
 below : Below w.heap.size w W
 batch : W.heap[w.heap.size]? = some (.cells cs 29 (0, 0))
 list : ∃ A c, ∃ xs : List F105, W.heap[w.heap.size + 1]? = some (.cells #[.slice A xs.length c] 101 (0, 0)) ∧ Kd.R k105 105 W w.heap.size (fun _ => True) (.slice A xs.length c) xs ∧ xs.length = k ∧ ∀ j (hj : j < xs.length), FormAt wp W l2 l3 j xs[j]
theorem FormsW.step {wp w wr W2 w3 : World} {cs : Array Value} {l2 : List S27} {l3 : List S65} {k : Nat} {A : Option Addr} {c : Nat} {xs : List F105} {x : F105} (h : FormsW wp w wr cs l2 l3 k)
  (hO : wr.heap[w.heap.size + 1]? = some (.cells #[.slice A xs.length c] 101 (0, 0))) (hxl : xs.length = k) (hF : ∀ j (hj : j < xs.length), FormAt wp wr l2 l3 j xs[j]) (hb2 : Below wr.heap.size wr W2)
  (hb3 : Below w.heap.size w w3) {v1 : Value} (hv1 : w3.heap[w.heap.size + 1]? = some (.cells #[v1] 101 (0, 0))) (hr1 : Kd.R k105 105 w3 w.heap.size (fun _ => True) v1 (xs ++ [x]))
  (hoth : ∀ g cs t, W2.heap[g]? = some (.cells cs t (0, 0)) → t ≠ 105 → g ≠ w.heap.size + 1 → w3.heap[g]? = some (.cells cs t (0, 0))) (hx : FormAt wp W2 l2 l3 k x) : FormsW wp w w3 cs l2 l3 (k + 1) := by
 obtain ⟨A1, c1, rfl⟩ := Kd.R_slice hr1
 have hO2 := blk_below hO hb2
 refine ⟨hb3, hoth _ _ _ (blk_below h.batch hb2) (by decide) (by omega), A1, c1, xs ++ [x], hv1, hr1, by simp [hxl], fun j hj => ?_⟩
 by_cases hjx : j < xs.length
 ·rw [List.getElem_append_left hjx]
  exact ((hF j hjx).below hb2).other hO2 hoth
 ·have hjk : j = k := by simp at hj; omega
  subst hjk
  rw [List.getElem_append_right (by omega)]
  simp only [hxl, Nat.sub_self, List.getElem_cons_zero]
  exact hx.other hO2 hoth
end Go.Proofs.Ytkjkokgbhepmoaa.PB

namespace Go.Proofs.Ytkjkokgbhepmoaa.PB
open Go.RowKit Go.Proofs.YtkjkokgbhepmoaaW.PrintWords Go.Proofs.YtkjkokgbhepmoaaW.PrintLast Go.Proofs.YtkjkokgbhepmoaaW.PrintMore
attribute [local go_sem] max2_int min2_int max_two min_two max_three min_three max_four min_four
end Go.Proofs.Ytkjkokgbhepmoaa.PB

namespace Go.Proofs.Ytkjkokgbhepmoaa.PB
open Go.RowKit Go.Proofs.YtkjkokgbhepmoaaW.PrintWords Go.Proofs.YtkjkokgbhepmoaaW.PrintLast Go.Proofs.YtkjkokgbhepmoaaW.PrintMore
attribute [local go_sem] max2_int min2_int max_two min_two max_three min_three max_four min_four
end Go.Proofs.Ytkjkokgbhepmoaa.PB

namespace Go.Proofs.Ytkjkokgbhepmoaa.PB
open Go.RowKit Go.Proofs.YtkjkokgbhepmoaaW.PrintWords Go.Proofs.YtkjkokgbhepmoaaW.PrintLast Go.Proofs.YtkjkokgbhepmoaaW.PrintMore
attribute [local go_sem] max2_int min2_int max_two min_two max_three min_three max_four min_four
end Go.Proofs.Ytkjkokgbhepmoaa.PB

namespace Go.Proofs.Ytkjkokgbhepmoaa.PB
open Go.RowKit Go.Proofs.YtkjkokgbhepmoaaW.PrintWords Go.Proofs.YtkjkokgbhepmoaaW.PrintLast Go.Proofs.YtkjkokgbhepmoaaW.PrintMore
attribute [local go_sem] max2_int min2_int max_two min_two max_three min_three max_four min_four
end Go.Proofs.Ytkjkokgbhepmoaa.PB

namespace Go.Proofs.Ytkjkokgbhepmoaa.PB
open Go.RowKit Go.Proofs.YtkjkokgbhepmoaaW.PrintWords Go.Proofs.YtkjkokgbhepmoaaW.PrintLast Go.Proofs.YtkjkokgbhepmoaaW.PrintMore
attribute [local go_sem] max2_int min2_int max_two min_two max_three min_three max_four min_four
end Go.Proofs.Ytkjkokgbhepmoaa.PB

namespace Go.Proofs.Ytkjkokgbhepmoaa.PB
open Go.RowKit Go.Proofs.YtkjkokgbhepmoaaW.PrintWords Go.Proofs.YtkjkokgbhepmoaaW.PrintLast Go.Proofs.YtkjkokgbhepmoaaW.PrintMore
attribute [local go_sem] max2_int min2_int max_two min_two max_three min_three max_four min_four
end Go.Proofs.Ytkjkokgbhepmoaa.PB

namespace Go.Proofs.Ytkjkokgbhepmoaa.PB
open Go.RowKit Go.Proofs.YtkjkokgbhepmoaaW.PrintWords Go.Proofs.YtkjkokgbhepmoaaW.PrintLast Go.Proofs.YtkjkokgbhepmoaaW.PrintMore
attribute [local go_sem] max2_int min2_int max_two min_two max_three min_three max_four min_four
end Go.Proofs.Ytkjkokgbhepmoaa.PB

namespace Go.Proofs.Ytkjkokgbhepmoaa.PB
open Go.RowKit Go.Proofs.YtkjkokgbhepmoaaW.PrintWords Go.Proofs.YtkjkokgbhepmoaaW.PrintLast Go.Proofs.YtkjkokgbhepmoaaW.PrintMore
theorem Ev.of_mono {α : Type} {f : Nat → Option α} {v : α} (hm : ∀ k, LeO (f k) (f (k + 1))) {K : Nat} (h : f K = some v) : Ev f v := by
  refine ⟨K, fun k hk => ?_⟩
  obtain ⟨d, rfl⟩ : ∃ d, k = K + d := ⟨k - K, by omega⟩
  induction d with
  | zero => exact h
  | succ d ih => exact hm (K + d) v (ih (by omega))
section
variable (o : List ByteArray) (mt : List S63) (s : List S27) (p : List S65) (a4 a5 a6 : Int) (r : List Int)
def gramsV : List S27 × Int := if askV o mt s p a4 a5 a6 r = 0 then (gramL o.length mt r, 0) else ([], askV o mt s p a4 a5 a6 r)
theorem bGrams : Ev (fun k => batch_Grams.f k o mt s p a4 a5 a6 r) (gramsV o mt s p a4 a5 a6 r) := by
  unfold batch_Grams.f gramsV
  refine Ev.bind (basked o mt s p a4 a5 a6 r) ?_
  by_cases h : askV o mt s p a4 a5 a6 r = 0
  · simp only [if_pos h]
    obtain ⟨H, hr⟩ := ask_ok h
    exact Ev.bind (bgrams H hr) (Ev.const _)
  · simp only [if_neg h]; exact Ev.const _
end
section
variable {o : List ByteArray} {mt : List S63} {s : List S27} {p : List S65} {a4 a5 a6 : Int} {r : List Int}
theorem gramL_ok (H : BatchOk o mt s p a4 a5 a6) (hr : RecOk mt r) : GOk (gramL o.length mt r) :=
  ⟨by rw [gramL_len]; exact H.o12, fun j hj => by rw [gramL_len] at hj; exact gram_bounds H hr hj⟩
def lowW (n : Nat) (mt : List S63) (r : List Int) : Int := wS S27.f0 (gramL n mt r) (gramL n mt r).length
def weighV (n : Nat) (mt : List S63) (r : List Int) : List S27 × Int := if lowW n mt r = 0 then ([], 8) else (gramL n mt r, 0)
theorem lowW_pos (H : BatchOk o mt s p a4 a5 a6) (hr : RecOk mt r) (h : ¬ lowW o.length mt r = 0) : 0 < wS S27.f0 (gramL o.length mt r) (gramL o.length mt r).length := by
  have := wS_bounds (gramL_ok H hr) (gramL o.length mt r).length (Nat.le_refl _)
  unfold lowW at h
  omega
end
section
variable (o : List ByteArray) (mt : List S63) (s : List S27) (p : List S65) (a4 a5 a6 : Int) (r : List Int)
def glassV : List S27 × Int := if askV o mt s p a4 a5 a6 r = 0 then weighV o.length mt r else ([], askV o mt s p a4 a5 a6 r)
theorem bglass : Ev (fun k => x_glass.f k o mt s p a4 a5 a6 r) (glassV o mt s p a4 a5 a6 r) := by
  unfold x_glass.f glassV
  refine Ev.bind (bGrams o mt s p a4 a5 a6 r) ?_
  unfold gramsV
  by_cases h : askV o mt s p a4 a5 a6 r = 0
  · obtain ⟨H, hr⟩ := ask_ok h
    simp only [if_pos h, if_true]
    refine Ev.bind (bweight (gramL_ok H hr)) ?_
    unfold weighV
    by_cases h2 : lowW o.length mt r = 0
    · simp only [if_pos h2, if_pos (show wS S27.f0 (gramL o.length mt r) (gramL o.length mt r).length = 0 from h2)]; exact Ev.const _
    · simp only [if_neg h2, if_neg (show ¬ wS S27.f0 (gramL o.length mt r) (gramL o.length mt r).length = 0 from h2)]; exact Ev.const _
  · simp only [if_neg h]; exact Ev.const _
end
section
variable {o : List ByteArray} {mt : List S63} {s : List S27} {p : List S65} {a4 a5 a6 : Int} {r : List Int}
end
section
variable (o : List ByteArray) (mt : List S63) (s : List S27) (p : List S65) (a4 a5 a6 : Int) (r : List Int)
def ValV (n : Int) : Int × Int × Int := if askV o mt s p a4 a5 a6 r = 0 then (if 0 ≤ n ∧ n < (p.length : Int) then (if lowW o.length mt r = 0 then (0, 0, 8) else (meanLo (rd (rd_T65 p n).f1) (gramL o.length mt r), meanHi (rd (rd_T65 p n).f1) (gramL o.length mt r), 0)) else (0, 0, 7)) else (0, 0, askV o mt s p a4 a5 a6 r)
theorem pro_cf {o : List ByteArray} {mt : List S63} {s : List S27} {p : List S65} {a4 a5 a6 : Int} (H : BatchOk o mt s p a4 a5 a6) {n : Int} (hn : 0 ≤ n ∧ n < (p.length : Int)) : CfOk (rd (rd_T65 p n).f1) o.length ∧ (rd_T65 p n).f1.length = o.length := by
  obtain ⟨j, hj, rfl⟩ : ∃ j : Nat, j < p.length ∧ n = j := ⟨n.toNat, by omega, by omega⟩
  have h := H.pros j hj
  exact ⟨⟨h.coef⟩, h.len⟩
theorem bValue (n : Int) : Ev (fun k => x_Value.f k o mt s p a4 a5 a6 r n) (ValV o mt s p a4 a5 a6 r n) := by
  unfold x_Value.f ValV
  refine Ev.bind (basked o mt s p a4 a5 a6 r) ?_
  by_cases h : askV o mt s p a4 a5 a6 r = 0
  · obtain ⟨H, hr⟩ := ask_ok h
    have hp := H.p6
    simp only [if_pos h, within_f, Option.bind_some, Bool.and_eq_true, decide_eq_true_eq]
    rw [wrap_id (x := (p.length : Int) - 1) (by omega) (by omega)]
    by_cases h1 : 0 ≤ n ∧ n < (p.length : Int)
    · obtain ⟨C, hl⟩ := pro_cf H h1
      simp only [if_pos h1, if_pos (show 0 ≤ n ∧ n ≤ (p.length : Int) - 1 by omega)]
      refine Ev.bind (bglass o mt s p a4 a5 a6 r) ?_
      unfold glassV
      rw [if_pos h]
      unfold weighV
      by_cases h2 : lowW o.length mt r = 0
      · simp only [if_pos h2, if_neg (show ¬ (8 : Int) = 0 by decide)]; exact Ev.const _
      · simp only [if_neg h2, if_true]
        have hg := gramL_len o.length mt r
        rw [if_pos ⟨h1.1, h1.2, by omega, meanOkB_iff.2 (meanOk_of (gramL_ok H hr) (by rw [hg]; exact C) (lowW_pos H hr h2))⟩]
        exact Ev.const _
    · simp only [if_neg h1, if_neg (show ¬ (0 ≤ n ∧ n ≤ (p.length : Int) - 1) by omega)]
      exact Ev.const _
  · simp only [if_neg h]; exact Ev.const _
end
end Go.Proofs.Ytkjkokgbhepmoaa.PB

namespace Go.Proofs.Ytkjkokgbhepmoaa.PB
open Go.RowKit Go.Proofs.YtkjkokgbhepmoaaW.PrintWords Go.Proofs.YtkjkokgbhepmoaaW.PrintLast Go.Proofs.YtkjkokgbhepmoaaW.PrintMore
attribute [local go_sem] max2_int min2_int max_two min_two max_three min_three max_four min_four
mutual
def lw_Great.j0 : Nat → Bool → List ByteArray → List (S63) → List (S27) → List (S65) → Int → Int → Int → Option (Bool)
 | 0, _, _, _, _, _, _, _, _ => none
 | k + 1, x28, x102q0, x102q1, x102q2, x102q3, x102q4, x102q5, x102q6 => if x28 = true then (some true) else (lw_Great.l0 k 0 0 x102q0 x102q1 x102q2 x102q3 x102q4 x102q5 x102q6)
def lw_Great.l0 : Nat → Int → Int → List ByteArray → List (S63) → List (S27) → List (S65) → Int → Int → Int → Option (Bool)
 | 0, _, _, _, _, _, _, _, _, _ => none
 | k + 1, x3, x4, x102q0, x102q1, x102q2, x102q3, x102q4, x102q5, x102q6 => if x4 < (x102q0.length : Int) then (if 0 ≤ x4 then (lw_Great.l0 k (wrap64 (x3 + ((rdOf ByteArray.empty x102q0 x4).size : Int))) (wrap64 (x4 + 1)) x102q0 x102q1 x102q2 x102q3 x102q4 x102q5 x102q6) else (none)) else (lw_Great.l1 k x3 0 x102q0 x102q1 x102q2 x102q3 x102q4 x102q5 x102q6)
def lw_Great.l1 : Nat → Int → Int → List ByteArray → List (S63) → List (S27) → List (S65) → Int → Int → Int → Option (Bool)
 | 0, _, _, _, _, _, _, _, _, _ => none
 | k + 1, x3, x5, x102q0, x102q1, x102q2, x102q3, x102q4, x102q5, x102q6 => if x5 < (x102q1.length : Int) then (if 0 ≤ x5 then (if (((rd_T63 x102q1 x5).f6).length : Int) > 20 then (some true) else (lw_Great.l1 k (wrap64 (x3 + (((rd_T63 x102q1 x5).f0).size : Int))) (wrap64 (x5 + 1)) x102q0 x102q1 x102q2 x102q3 x102q4 x102q5 x102q6)) else (none)) else (lw_Great.l2 k x3 0 x102q0 x102q1 x102q2 x102q3 x102q4 x102q5 x102q6)
def lw_Great.l2 : Nat → Int → Int → List ByteArray → List (S63) → List (S27) → List (S65) → Int → Int → Int → Option (Bool)
 | 0, _, _, _, _, _, _, _, _, _ => none
 | k + 1, x3, x6, x102q0, x102q1, x102q2, x102q3, x102q4, x102q5, x102q6 => if x6 < (x102q3.length : Int) then (if 0 ≤ x6 then (if (((rd_T65 x102q3 x6).f1).length : Int) > 20 then (some true) else (lw_Great.l2 k (wrap64 (x3 + (((rd_T65 x102q3 x6).f0).size : Int))) (wrap64 (x6 + 1)) x102q0 x102q1 x102q2 x102q3 x102q4 x102q5 x102q6)) else (none)) else (some (decide (x3 > 2000)))
end
def lw_Great.f (k : Nat) (l0_0 : List ByteArray) (l0_1 : List (S63)) (l0_2 : List (S27)) (l0_3 : List (S65)) (a0_4 : Int) (a0_5 : Int) (a0_6 : Int) : Option (Bool) := if (l0_0.length : Int) > 20 then (lw_Great.j0 k true l0_0 l0_1 l0_2 l0_3 a0_4 a0_5 a0_6) else (if (l0_1.length : Int) > 20 then (lw_Great.j0 k true l0_0 l0_1 l0_2 l0_3 a0_4 a0_5 a0_6) else (if (l0_2.length : Int) > 20 then (lw_Great.j0 k true l0_0 l0_1 l0_2 l0_3 a0_4 a0_5 a0_6) else (lw_Great.j0 k (decide ((l0_3.length : Int) > 20)) l0_0 l0_1 l0_2 l0_3 a0_4 a0_5 a0_6)))
set_option maxHeartbeats 8000000 in
set_option maxRecDepth 100000 in
theorem lw_Great.calls (k : Nat) (A0_0 : Option Addr) (c0_0 : Nat) (l0_0 : List ByteArray) (A0_1 : Option Addr) (c0_1 : Nat) (l0_1 : List (S63)) (A0_2 : Option Addr) (c0_2 : Nat) (l0_2 : List (S27)) (A0_3 : Option Addr) (c0_3 : Nat) (l0_3 : List (S65)) (a0_4 : Int) (a0_5 : Int) (a0_6 : Int) (r : Bool) (w : World) (hr0_0 : Kd.C Kd.string w A0_0 l0_0.length l0_0) (hc0_0 : l0_0.length ≤ c0_0) (hr0_1 : Kd.C k63 w A0_1 l0_1.length l0_1) (hc0_1 : l0_1.length ≤ c0_1) (hr0_2 : Kd.C k27 w A0_2 l0_2.length l0_2) (hc0_2 : l0_2.length ≤ c0_2) (hr0_3 : Kd.C k65 w A0_3 l0_3.length l0_3) (hc0_3 : l0_3.length ≤ c0_3) (h : lw_Great.f k l0_0 l0_1 l0_2 l0_3 a0_4 a0_5 a0_6 = some r) :
  Calls Try.prog 12 #[.agg #[.slice A0_0 l0_0.length c0_0, .slice A0_1 l0_1.length c0_1, .slice A0_2 l0_2.length c0_2, .slice A0_3 l0_3.length c0_3, .int .i64 a0_4, .int .i64 a0_5, .int .i64 a0_6]] w fun e w' => e = .returned (.bool r) ∧ Below w.heap.size w w' := by
 have hu29 := Try.underlying29; have HR0_0 := Sd.mk hr0_0; have HC0_0 := Sd.mk hc0_0; clear hr0_0 hc0_0; have HR0_1 := Sd.mk hr0_1; have HC0_1 := Sd.mk hc0_1; clear hr0_1 hc0_1; have HR0_2 := Sd.mk hr0_2; have HC0_2 := Sd.mk hc0_2; clear hr0_2 hc0_2; have HR0_3 := Sd.mk hr0_3; have HC0_3 := Sd.mk hc0_3; clear hr0_3 hc0_3; have HB := Sd.mk (Below.refl w.heap.size w)
 have H : (if (l0_0.length : Int) > 20 then (lw_Great.j0 k true l0_0 l0_1 l0_2 l0_3 a0_4 a0_5 a0_6) else (if (l0_1.length : Int) > 20 then (lw_Great.j0 k true l0_0 l0_1 l0_2 l0_3 a0_4 a0_5 a0_6) else (if (l0_2.length : Int) > 20 then (lw_Great.j0 k true l0_0 l0_1 l0_2 l0_3 a0_4 a0_5 a0_6) else (lw_Great.j0 k (decide ((l0_3.length : Int) > 20)) l0_0 l0_1 l0_2 l0_3 a0_4 a0_5 a0_6)))) = some r := h
 clear h; have HC2 := Sd.mk H; clear H
 go_enter Try.func12, Try.ntmps12
 go_upto_region 1 with (first | ((with_reducible refine gate_dst (N := 1) rfl ?_); (try (refine gate_guard (by rfl) ?_; dsimp only)); refine box_event ?hg (N := 1) ?hd (cs := #[.slice A0_0 l0_0.length c0_0, .slice A0_1 l0_1.length c0_1, .slice A0_2 l0_2.length c0_2, .slice A0_3 l0_3.length c0_3, .int .i64 a0_4, .int .i64 a0_5, .int .i64 a0_6]) (t := 29) ?hr ?_; (case hd => rfl); (case hg => rfl); (case hr => exact tG); intro gb101 hg w3 hbox hb; have BK101 := Sd.mk (hbox); have GW101 := Sd.mk (bSz hg (bBl HB.out)); have GE101 := Sd.mk (bSz hg (bBl HB.out)); replace HB := Sd.mk (below_step (bBl HB.out) hb); clear hb hbox hg))
 (try simp only [Act.put, List.setIfInBounds_toArray, List.set_cons_zero, List.set_cons_succ])
 go_cut [28] (fun v28 wc => ∃ (kq : Nat) (x28_1 : Bool), v28 = .bool x28_1 ∧ Sd (lw_Great.j0 kq x28_1 l0_0 l0_1 l0_2 l0_3 a0_4 a0_5 a0_6 = some r) ∧ Sd (kq ≤ k) ∧ Sd (wc.heap[gb101]? = some (.cells #[(.slice A0_0 l0_0.length c0_0), (.slice A0_1 l0_1.length c0_1), (.slice A0_2 l0_2.length c0_2), (.slice A0_3 l0_3.length c0_3), .int .i64 a0_4, .int .i64 a0_5, .int .i64 a0_6] 29 (0, 0))) ∧ Sd (Below w.heap.size w wc))
 case first =>
  have H := HC2.out; clear HC2
  by_cases c4 : (l0_0.length : Int) > 20
  ·rw [if_pos c4] at H
   have c4b0 : decide (20 < (l0_0.length : Int)) = true := decide_eq_true c4
   have c4b1 : decide (20 < l0_0.length) = true := decide_eq_true (by omega)
   clear c4
   (first | rw [c4b0] | (simp only [i64_w, i32_w]; rw [c4b0]) | skip)
   have H' := Sd.mk H; clear H; obtain ⟨u5_0, u5_1, u5_2, u5_3, u5_4, u5_5, u5_6, o5_0, o5_1, o5_2, o5_3, o5_4, o5_5, o5_6⟩ := bc7 (w := w3) BK101.out
   go_wp2
   go_meet
   case rel => exact ⟨_, (true), tS, H', ⟨by first | omega | exact Nat.le_refl _⟩, ⟨bkA BK101.out⟩, ⟨bBl HB.out⟩⟩
  ·rw [if_neg c4] at H
   have c4b0 : decide (20 < (l0_0.length : Int)) = false := decide_eq_false c4
   have c4b1 : decide (20 < l0_0.length) = false := decide_eq_false (by omega)
   clear c4
   (first | rw [c4b0] | (simp only [i64_w, i32_w]; rw [c4b0]) | skip)
   by_cases c6 : (l0_1.length : Int) > 20
   ·rw [if_pos c6] at H
    have c6b0 : decide (20 < (l0_1.length : Int)) = true := decide_eq_true c6
    have c6b1 : decide (20 < l0_1.length) = true := decide_eq_true (by omega)
    clear c6; have H' := Sd.mk H; clear H; obtain ⟨u7_0, u7_1, u7_2, u7_3, u7_4, u7_5, u7_6, o7_0, o7_1, o7_2, o7_3, o7_4, o7_5, o7_6⟩ := bc7 (w := w3) BK101.out
    go_wp2
    go_meet
    case rel => exact ⟨_, (true), tS, H', ⟨by first | omega | exact Nat.le_refl _⟩, ⟨bkA BK101.out⟩, ⟨bBl HB.out⟩⟩
   ·rw [if_neg c6] at H
    have c6b0 : decide (20 < (l0_1.length : Int)) = false := decide_eq_false c6
    have c6b1 : decide (20 < l0_1.length) = false := decide_eq_false (by omega)
    clear c6
    by_cases c8 : (l0_2.length : Int) > 20
    ·rw [if_pos c8] at H
     have c8b0 : decide (20 < (l0_2.length : Int)) = true := decide_eq_true c8
     have c8b1 : decide (20 < l0_2.length) = true := decide_eq_true (by omega)
     clear c8; have H' := Sd.mk H; clear H; obtain ⟨u9_0, u9_1, u9_2, u9_3, u9_4, u9_5, u9_6, o9_0, o9_1, o9_2, o9_3, o9_4, o9_5, o9_6⟩ := bc7 (w := w3) BK101.out
     go_wp2
     go_meet
     case rel => exact ⟨_, (true), tS, H', ⟨by first | omega | exact Nat.le_refl _⟩, ⟨bkA BK101.out⟩, ⟨bBl HB.out⟩⟩
    ·rw [if_neg c8] at H
     have c8b0 : decide (20 < (l0_2.length : Int)) = false := decide_eq_false c8
     have c8b1 : decide (20 < l0_2.length) = false := decide_eq_false (by omega)
     clear c8; have H' := Sd.mk H; clear H; obtain ⟨u10_0, u10_1, u10_2, u10_3, u10_4, u10_5, u10_6, o10_0, o10_1, o10_2, o10_3, o10_4, o10_5, o10_6⟩ := bc7 (w := w3) BK101.out
     go_wp2
     go_meet
     case rel => exact ⟨_, (decide ((l0_3.length : Int) > 20)), tS, H', ⟨by first | omega | exact Nat.le_refl _⟩, ⟨bkA BK101.out⟩, ⟨bBl HB.out⟩⟩
 case rest =>
  clear HC2; (try clear c1); (try clear p2); (try clear c4); (try clear c4b0); (try clear c4b1); (try clear c6); (try clear c6b0); (try clear c6b1); (try clear c8); (try clear c8b0); (try clear c8b1); (try clear u10_0 u10_1 u10_2 u10_3 u10_4 u10_5 u10_6); (try clear u5_0 u5_1 u5_2 u5_3 u5_4 u5_5 u5_6); (try clear u7_0 u7_1 u7_2 u7_3 u7_4 u7_5 u7_6); (try clear u9_0 u9_1 u9_2 u9_3 u9_4 u9_5 u9_6); (try clear o10_0 o10_1 o10_2 o10_3 o10_4 o10_5 o10_6); (try clear o5_0 o5_1 o5_2 o5_3 o5_4 o5_5 o5_6); (try clear o7_0 o7_1 o7_2 o7_3 o7_4 o7_5 o7_6); (try clear o9_0 o9_1 o9_2 o9_3 o9_4 o9_5 o9_6); obtain ⟨kq, x28_1, rfl, HA, HJ1, BK101, HB⟩ := hcut
  cases kq with
  | zero => exact absurd HA.out (by simp [lw_Great.j0])
  | succ kj1 =>
   have H := HA.out; clear HA
   simp only [lw_Great.j0] at H
   by_cases c11 : x28_1 = true
   ·subst c11
    have H1 : (some true) = some r := by rw [if_pos rfl] at H; exact H
    clear H; have H := H1; clear H1; obtain rfl := Option.some.inj H
    go_wp2
    go_ret
    exact ⟨tE, bBl HB.out⟩
   ·replace c11 := Bool.eq_false_iff.mpr c11
    subst c11
    have H1 : (lw_Great.l0 kj1 0 0 l0_0 l0_1 l0_2 l0_3 a0_4 a0_5 a0_6) = some r := by rw [if_neg (show ¬ (false = true) by decide)] at H; exact H
    clear H; have H := H1; clear H1; have H' := Sd.mk H; clear H
    go_wp2
    go_loopg [3, 4] kj1 (fun kq v3 v4 w' => ∃ (x3_2 : Int) (x4_2 : Int), v3 = .int .i64 x3_2 ∧ v4 = .int .i64 x4_2 ∧ Sd (lw_Great.l0 kq x3_2 x4_2 l0_0 l0_1 l0_2 l0_3 a0_4 a0_5 a0_6 = some r) ∧ Sd (kq ≤ kj1) ∧ Sd (w'.heap[gb101]? = some (.cells #[(.slice A0_0 l0_0.length c0_0), (.slice A0_1 l0_1.length c0_1), (.slice A0_2 l0_2.length c0_2), (.slice A0_3 l0_3.length c0_3), .int .i64 a0_4, .int .i64 a0_5, .int .i64 a0_6] 29 (0, 0))) ∧ Sd (Below w.heap.size w w'))
    case atStart => exact ⟨(0), (0), tS, tS, H', ⟨Nat.le_refl _⟩, ⟨bkA BK101.out⟩, ⟨bBl HB.out⟩⟩
    case round =>
     clear H'; (try clear c1); (try clear p2 p2); (try clear c4); (try clear c4b0); (try clear c4b1); (try clear c6); (try clear c6b0); (try clear c6b1); (try clear c8); (try clear c8b0); (try clear c8b1); (try clear c11); (try clear u10_0 u10_1 u10_2 u10_3 u10_4 u10_5 u10_6); (try clear u5_0 u5_1 u5_2 u5_3 u5_4 u5_5 u5_6); (try clear u7_0 u7_1 u7_2 u7_3 u7_4 u7_5 u7_6); (try clear u9_0 u9_1 u9_2 u9_3 u9_4 u9_5 u9_6); (try clear o10_0 o10_1 o10_2 o10_3 o10_4 o10_5 o10_6); (try clear o5_0 o5_1 o5_2 o5_3 o5_4 o5_5 o5_6); (try clear o7_0 o7_1 o7_2 o7_3 o7_4 o7_5 o7_6); (try clear o9_0 o9_1 o9_2 o9_3 o9_4 o9_5 o9_6); obtain ⟨x3_2, x4_2, rfl, rfl, HA, HK2, BK101, HB⟩ := hrel
     cases gk with
     | zero => exact absurd HA.out (by simp [lw_Great.l0])
     | succ k2 =>
      have H := HA.out; clear HA
      simp only [lw_Great.l0] at H
      by_cases c12 : x4_2 < (l0_0.length : Int)
      ·rw [if_pos c12] at H
       have c12b0 : decide (x4_2 < (l0_0.length : Int)) = true := decide_eq_true c12
       clear c12
       by_cases c13 : 0 ≤ x4_2
       ·rw [if_pos c13] at H
        have c13b0 : decide (0 ≤ x4_2) = true := decide_eq_true c13
        clear c13; have H' := Sd.mk H; clear H; obtain ⟨u14_0, u14_1, u14_2, u14_3, u14_4, u14_5, u14_6, o14_0, o14_1, o14_2, o14_3, o14_4, o14_5, o14_6⟩ := bc7 (w := wr) BK101.out
        have p102 : 0 ≤ (x4_2 : Int) := tB
        have q102 : x4_2 < (l0_0.length : Int) := tB
        obtain ⟨ad102, e102, hx102_0⟩ := Kd.at_string HR0_0.out x4_2 p102 q102; cases e102; replace hx102_0 := cU HB hx102_0; replace p102 := eq_true p102; replace q102 := eq_true q102
        go_wp2
        go_roundg k2
        case measure => have := HJ1.out; have := HK2.out; omega
        case rel => exact ⟨(wrap64 (x3_2 + ((rdOf ByteArray.empty l0_0 x4_2).size : Int))), (wrap64 (x4_2 + 1)), tS, tS, H', ⟨by have := HJ1.out; have := HK2.out; omega⟩, ⟨bkA BK101.out⟩, ⟨bBl HB.out⟩⟩
       ·rw [if_neg c13] at H
        exact absurd H (by simp)
      ·rw [if_neg c12] at H
       have c12b0 : decide (x4_2 < (l0_0.length : Int)) = false := decide_eq_false c12
       clear c12; have H' := Sd.mk H; clear H; obtain ⟨u15_0, u15_1, u15_2, u15_3, u15_4, u15_5, u15_6, o15_0, o15_1, o15_2, o15_3, o15_4, o15_5, o15_6⟩ := bc7 (w := wr) BK101.out
       go_wp2
       go_loopg [3, 5] k2 (fun kq v3 v5 w' => ∃ (x3_3 : Int) (x5_3 : Int), v3 = .int .i64 x3_3 ∧ v5 = .int .i64 x5_3 ∧ Sd (lw_Great.l1 kq x3_3 x5_3 l0_0 l0_1 l0_2 l0_3 a0_4 a0_5 a0_6 = some r) ∧ Sd (kq ≤ k2) ∧ Sd (w'.heap[gb101]? = some (.cells #[(.slice A0_0 l0_0.length c0_0), (.slice A0_1 l0_1.length c0_1), (.slice A0_2 l0_2.length c0_2), (.slice A0_3 l0_3.length c0_3), .int .i64 a0_4, .int .i64 a0_5, .int .i64 a0_6] 29 (0, 0))) ∧ Sd (Below w.heap.size w w'))
       case atStart => exact ⟨(x3_2), (0), tS, tS, H', ⟨Nat.le_refl _⟩, ⟨bkA BK101.out⟩, ⟨bBl HB.out⟩⟩
       case round =>
        clear H'; (try clear c1); (try clear p1); (try clear q1); (try clear hx1); (try clear p2 p2); (try clear c4); (try clear c4b0); (try clear c4b1); (try clear c6); (try clear c6b0); (try clear c6b1); (try clear p6); (try clear c8); (try clear c8b0); (try clear c8b1); (try clear p10); (try clear q10); (try clear hx10); (try clear c11); (try clear c12); (try clear c12b0); (try clear c13); (try clear c13b0); (try clear u10_0 u10_1 u10_2 u10_3 u10_4 u10_5 u10_6); (try clear u14_0 u14_1 u14_2 u14_3 u14_4 u14_5 u14_6); (try clear u15_0 u15_1 u15_2 u15_3 u15_4 u15_5 u15_6); (try clear u5_0 u5_1 u5_2 u5_3 u5_4 u5_5 u5_6); (try clear u7_0 u7_1 u7_2 u7_3 u7_4 u7_5 u7_6); (try clear u9_0 u9_1 u9_2 u9_3 u9_4 u9_5 u9_6); (try clear o10_0 o10_1 o10_2 o10_3 o10_4 o10_5 o10_6); (try clear o14_0 o14_1 o14_2 o14_3 o14_4 o14_5 o14_6); (try clear o15_0 o15_1 o15_2 o15_3 o15_4 o15_5 o15_6); (try clear o5_0 o5_1 o5_2 o5_3 o5_4 o5_5 o5_6); (try clear o7_0 o7_1 o7_2 o7_3 o7_4 o7_5 o7_6); (try clear o9_0 o9_1 o9_2 o9_3 o9_4 o9_5 o9_6); (try clear hx102_0); (try clear p102); (try clear q102); obtain ⟨x3_3, x5_3, rfl, rfl, HA, HK3, BK101, HB⟩ := hrel
        cases gk with
        | zero => exact absurd HA.out (by simp [lw_Great.l1])
        | succ k3 =>
         have H := HA.out; clear HA
         simp only [lw_Great.l1] at H
         by_cases c16 : x5_3 < (l0_1.length : Int)
         ·rw [if_pos c16] at H
          have c16b0 : decide (x5_3 < (l0_1.length : Int)) = true := decide_eq_true c16
          clear c16
          by_cases c17 : 0 ≤ x5_3
          ·rw [if_pos c17] at H
           have c17b0 : decide (0 ≤ x5_3) = true := decide_eq_true c17
           clear c17
           by_cases c18 : (((rd_T63 l0_1 x5_3).f6).length : Int) > 20
           ·rw [if_pos c18] at H
            have c18b0 : decide (20 < (((rd_T63 l0_1 x5_3).f6).length : Int)) = true := decide_eq_true c18
            have c18b1 : decide (20 < ((rd_T63 l0_1 x5_3).f6).length) = true := decide_eq_true (by omega)
            clear c18; obtain rfl := Option.some.inj H; obtain ⟨u19_0, u19_1, u19_2, u19_3, u19_4, u19_5, u19_6, o19_0, o19_1, o19_2, o19_3, o19_4, o19_5, o19_6⟩ := bc7 (w := wr) BK101.out
            have p103 : 0 ≤ (x5_3 : Int) := tB
            have q103 : x5_3 < (l0_1.length : Int) := tB
            obtain ⟨ad103, A103_6, c103_6, e103, hx103_0, hx103_1, hx103_2, hx103_3, hx103_4, hx103_5, hx103_6, hl103_6, hi103_6⟩ := at_T63 HR0_1.out x5_3 p103 q103; cases e103; replace hx103_0 := cU HB hx103_0; replace hx103_1 := cU HB hx103_1; replace hx103_2 := cU HB hx103_2; replace hx103_3 := cU HB hx103_3; replace hx103_4 := cU HB hx103_4; replace hx103_5 := cU HB hx103_5; replace hx103_6 := cU HB hx103_6; have HR103_6 := Sd.mk hi103_6; have HC103_6 := Sd.mk hl103_6; clear hi103_6 hl103_6; replace p103 := eq_true p103; replace q103 := eq_true q103
            have p104 : 0 ≤ (x5_3 : Int) := tB
            have q104 : x5_3 < (l0_1.length : Int) := tB
            obtain ⟨ad104, A104_6, c104_6, e104, hx104_0, hx104_1, hx104_2, hx104_3, hx104_4, hx104_5, hx104_6, hl104_6, hi104_6⟩ := at_T63 HR0_1.out x5_3 p104 q104
            obtain rfl : ad103 = ad104 := (by injection e104)
            replace hx104_0 := cU HB hx104_0; replace hx104_1 := cU HB hx104_1; replace hx104_2 := cU HB hx104_2; replace hx104_3 := cU HB hx104_3; replace hx104_4 := cU HB hx104_4; replace hx104_5 := cU HB hx104_5; replace hx104_6 := cU HB hx104_6; have HR104_6 := Sd.mk hi104_6; have HC104_6 := Sd.mk hl104_6; clear hi104_6 hl104_6; replace p104 := eq_true p104; replace q104 := eq_true q104; have ea_ := Option.some.inj (hx103_6.symm.trans hx104_6)
            injection ea_ with ea_ en_ ec_
            subst ea_; subst ec_; clear en_
            go_wp2
            go_ret
            exact ⟨tE, bBl HB.out⟩
           ·rw [if_neg c18] at H
            have c18b0 : decide (20 < (((rd_T63 l0_1 x5_3).f6).length : Int)) = false := decide_eq_false c18
            have c18b1 : decide (20 < ((rd_T63 l0_1 x5_3).f6).length) = false := decide_eq_false (by omega)
            clear c18; have H' := Sd.mk H; clear H; obtain ⟨u20_0, u20_1, u20_2, u20_3, u20_4, u20_5, u20_6, o20_0, o20_1, o20_2, o20_3, o20_4, o20_5, o20_6⟩ := bc7 (w := wr) BK101.out
            have p103 : 0 ≤ (x5_3 : Int) := tB
            have q103 : x5_3 < (l0_1.length : Int) := tB
            obtain ⟨ad103, A103_6, c103_6, e103, hx103_0, hx103_1, hx103_2, hx103_3, hx103_4, hx103_5, hx103_6, hl103_6, hi103_6⟩ := at_T63 HR0_1.out x5_3 p103 q103; cases e103; replace hx103_0 := cU HB hx103_0; replace hx103_1 := cU HB hx103_1; replace hx103_2 := cU HB hx103_2; replace hx103_3 := cU HB hx103_3; replace hx103_4 := cU HB hx103_4; replace hx103_5 := cU HB hx103_5; replace hx103_6 := cU HB hx103_6; have HR103_6 := Sd.mk hi103_6; have HC103_6 := Sd.mk hl103_6; clear hi103_6 hl103_6; replace p103 := eq_true p103; replace q103 := eq_true q103
            have p104 : 0 ≤ (x5_3 : Int) := tB
            have q104 : x5_3 < (l0_1.length : Int) := tB
            obtain ⟨ad104, A104_6, c104_6, e104, hx104_0, hx104_1, hx104_2, hx104_3, hx104_4, hx104_5, hx104_6, hl104_6, hi104_6⟩ := at_T63 HR0_1.out x5_3 p104 q104
            obtain rfl : ad103 = ad104 := (by injection e104)
            replace hx104_0 := cU HB hx104_0; replace hx104_1 := cU HB hx104_1; replace hx104_2 := cU HB hx104_2; replace hx104_3 := cU HB hx104_3; replace hx104_4 := cU HB hx104_4; replace hx104_5 := cU HB hx104_5; replace hx104_6 := cU HB hx104_6; have HR104_6 := Sd.mk hi104_6; have HC104_6 := Sd.mk hl104_6; clear hi104_6 hl104_6; replace p104 := eq_true p104; replace q104 := eq_true q104; have ea_ := Option.some.inj (hx103_6.symm.trans hx104_6)
            injection ea_ with ea_ en_ ec_
            subst ea_; subst ec_; clear en_
            go_wp2
            go_roundg k3
            case measure => have := HJ1.out; have := HK2.out; have := HK3.out; omega
            case rel => exact ⟨(wrap64 (x3_3 + (((rd_T63 l0_1 x5_3).f0).size : Int))), (wrap64 (x5_3 + 1)), tS, tS, H', ⟨by have := HJ1.out; have := HK2.out; have := HK3.out; omega⟩, ⟨bkA BK101.out⟩, ⟨bBl HB.out⟩⟩
          ·rw [if_neg c17] at H
           exact absurd H (by simp)
         ·rw [if_neg c16] at H
          have c16b0 : decide (x5_3 < (l0_1.length : Int)) = false := decide_eq_false c16
          clear c16; have H' := Sd.mk H; clear H; obtain ⟨u21_0, u21_1, u21_2, u21_3, u21_4, u21_5, u21_6, o21_0, o21_1, o21_2, o21_3, o21_4, o21_5, o21_6⟩ := bc7 (w := wr) BK101.out
          go_wp2
          go_loopg [3, 6] k3 (fun kq v3 v6 w' => ∃ (x3_4 : Int) (x6_4 : Int), v3 = .int .i64 x3_4 ∧ v6 = .int .i64 x6_4 ∧ Sd (lw_Great.l2 kq x3_4 x6_4 l0_0 l0_1 l0_2 l0_3 a0_4 a0_5 a0_6 = some r) ∧ Sd (kq ≤ k3) ∧ Sd (w'.heap[gb101]? = some (.cells #[(.slice A0_0 l0_0.length c0_0), (.slice A0_1 l0_1.length c0_1), (.slice A0_2 l0_2.length c0_2), (.slice A0_3 l0_3.length c0_3), .int .i64 a0_4, .int .i64 a0_5, .int .i64 a0_6] 29 (0, 0))) ∧ Sd (Below w.heap.size w w'))
          case atStart => exact ⟨(x3_3), (0), tS, tS, H', ⟨Nat.le_refl _⟩, ⟨bkA BK101.out⟩, ⟨bBl HB.out⟩⟩
          case round =>
           clear H'; (try clear c1); (try clear p1 p1); (try clear q1 q1); (try clear hx1); (try clear p2 p2); (try clear c4); (try clear c4b0); (try clear c4b1); (try clear c6); (try clear c6b0); (try clear c6b1); (try clear p6 p6); (try clear c8); (try clear c8b0); (try clear c8b1); (try clear c10); (try clear p10 p10); (try clear q10 q10); (try clear hx10); (try clear c11); (try clear c12); (try clear c12b0); (try clear c13); (try clear c13b0); (try clear c16); (try clear c16b0); (try clear c17); (try clear c17b0); (try clear c18); (try clear c18b0); (try clear c18b1); (try clear u10_0 u10_1 u10_2 u10_3 u10_4 u10_5 u10_6); (try clear u14_0 u14_1 u14_2 u14_3 u14_4 u14_5 u14_6); (try clear u15_0 u15_1 u15_2 u15_3 u15_4 u15_5 u15_6); (try clear u19_0 u19_1 u19_2 u19_3 u19_4 u19_5 u19_6); (try clear u20_0 u20_1 u20_2 u20_3 u20_4 u20_5 u20_6); (try clear u21_0 u21_1 u21_2 u21_3 u21_4 u21_5 u21_6); (try clear u5_0 u5_1 u5_2 u5_3 u5_4 u5_5 u5_6); (try clear u7_0 u7_1 u7_2 u7_3 u7_4 u7_5 u7_6); (try clear u9_0 u9_1 u9_2 u9_3 u9_4 u9_5 u9_6); (try clear o10_0 o10_1 o10_2 o10_3 o10_4 o10_5 o10_6); (try clear o14_0 o14_1 o14_2 o14_3 o14_4 o14_5 o14_6); (try clear o15_0 o15_1 o15_2 o15_3 o15_4 o15_5 o15_6); (try clear o19_0 o19_1 o19_2 o19_3 o19_4 o19_5 o19_6); (try clear o20_0 o20_1 o20_2 o20_3 o20_4 o20_5 o20_6); (try clear o21_0 o21_1 o21_2 o21_3 o21_4 o21_5 o21_6); (try clear o5_0 o5_1 o5_2 o5_3 o5_4 o5_5 o5_6); (try clear o7_0 o7_1 o7_2 o7_3 o7_4 o7_5 o7_6); (try clear o9_0 o9_1 o9_2 o9_3 o9_4 o9_5 o9_6); (try clear hx102_0); (try clear hx103_0); (try clear hx103_1); (try clear hx103_2); (try clear hx103_3); (try clear hx103_4); (try clear hx103_5); (try clear hx103_6); (try clear hx104_0); (try clear hx104_1); (try clear hx104_2); (try clear hx104_3); (try clear hx104_4); (try clear hx104_5); (try clear hx104_6); (try clear p102); (try clear p103); (try clear p104); (try clear q102); (try clear q103); (try clear q104); obtain ⟨x3_4, x6_4, rfl, rfl, HA, HK4, BK101, HB⟩ := hrel
           cases gk with
           | zero => exact absurd HA.out (by simp [lw_Great.l2])
           | succ k4 =>
            have H := HA.out; clear HA
            simp only [lw_Great.l2] at H
            by_cases c22 : x6_4 < (l0_3.length : Int)
            ·rw [if_pos c22] at H
             have c22b0 : decide (x6_4 < (l0_3.length : Int)) = true := decide_eq_true c22
             clear c22
             by_cases c23 : 0 ≤ x6_4
             ·rw [if_pos c23] at H
              have c23b0 : decide (0 ≤ x6_4) = true := decide_eq_true c23
              clear c23
              by_cases c24 : (((rd_T65 l0_3 x6_4).f1).length : Int) > 20
              ·rw [if_pos c24] at H
               have c24b0 : decide (20 < (((rd_T65 l0_3 x6_4).f1).length : Int)) = true := decide_eq_true c24
               have c24b1 : decide (20 < ((rd_T65 l0_3 x6_4).f1).length) = true := decide_eq_true (by omega)
               clear c24; obtain rfl := Option.some.inj H; obtain ⟨u25_0, u25_1, u25_2, u25_3, u25_4, u25_5, u25_6, o25_0, o25_1, o25_2, o25_3, o25_4, o25_5, o25_6⟩ := bc7 (w := wr) BK101.out
               have p105 : 0 ≤ (x6_4 : Int) := tB
               have q105 : x6_4 < (l0_3.length : Int) := tB
               obtain ⟨ad105, A105_1, c105_1, e105, hx105_0, hx105_1, hx105_2, hx105_3, hl105_1, hi105_1⟩ := at_T65 HR0_3.out x6_4 p105 q105; cases e105; replace hx105_0 := cU HB hx105_0; replace hx105_1 := cU HB hx105_1; replace hx105_2 := cU HB hx105_2; replace hx105_3 := cU HB hx105_3; have HR105_1 := Sd.mk hi105_1; have HC105_1 := Sd.mk hl105_1; clear hi105_1 hl105_1; replace p105 := eq_true p105; replace q105 := eq_true q105
               have p106 : 0 ≤ (x6_4 : Int) := tB
               have q106 : x6_4 < (l0_3.length : Int) := tB
               obtain ⟨ad106, A106_1, c106_1, e106, hx106_0, hx106_1, hx106_2, hx106_3, hl106_1, hi106_1⟩ := at_T65 HR0_3.out x6_4 p106 q106
               obtain rfl : ad105 = ad106 := (by injection e106)
               replace hx106_0 := cU HB hx106_0; replace hx106_1 := cU HB hx106_1; replace hx106_2 := cU HB hx106_2; replace hx106_3 := cU HB hx106_3; have HR106_1 := Sd.mk hi106_1; have HC106_1 := Sd.mk hl106_1; clear hi106_1 hl106_1; replace p106 := eq_true p106; replace q106 := eq_true q106; have ea_ := Option.some.inj (hx105_1.symm.trans hx106_1)
               injection ea_ with ea_ en_ ec_
               subst ea_; subst ec_; clear en_
               go_wp2
               go_ret
               exact ⟨tE, bBl HB.out⟩
              ·rw [if_neg c24] at H
               have c24b0 : decide (20 < (((rd_T65 l0_3 x6_4).f1).length : Int)) = false := decide_eq_false c24
               have c24b1 : decide (20 < ((rd_T65 l0_3 x6_4).f1).length) = false := decide_eq_false (by omega)
               clear c24; have H' := Sd.mk H; clear H; obtain ⟨u26_0, u26_1, u26_2, u26_3, u26_4, u26_5, u26_6, o26_0, o26_1, o26_2, o26_3, o26_4, o26_5, o26_6⟩ := bc7 (w := wr) BK101.out
               have p105 : 0 ≤ (x6_4 : Int) := tB
               have q105 : x6_4 < (l0_3.length : Int) := tB
               obtain ⟨ad105, A105_1, c105_1, e105, hx105_0, hx105_1, hx105_2, hx105_3, hl105_1, hi105_1⟩ := at_T65 HR0_3.out x6_4 p105 q105; cases e105; replace hx105_0 := cU HB hx105_0; replace hx105_1 := cU HB hx105_1; replace hx105_2 := cU HB hx105_2; replace hx105_3 := cU HB hx105_3; have HR105_1 := Sd.mk hi105_1; have HC105_1 := Sd.mk hl105_1; clear hi105_1 hl105_1; replace p105 := eq_true p105; replace q105 := eq_true q105
               have p106 : 0 ≤ (x6_4 : Int) := tB
               have q106 : x6_4 < (l0_3.length : Int) := tB
               obtain ⟨ad106, A106_1, c106_1, e106, hx106_0, hx106_1, hx106_2, hx106_3, hl106_1, hi106_1⟩ := at_T65 HR0_3.out x6_4 p106 q106
               obtain rfl : ad105 = ad106 := (by injection e106)
               replace hx106_0 := cU HB hx106_0; replace hx106_1 := cU HB hx106_1; replace hx106_2 := cU HB hx106_2; replace hx106_3 := cU HB hx106_3; have HR106_1 := Sd.mk hi106_1; have HC106_1 := Sd.mk hl106_1; clear hi106_1 hl106_1; replace p106 := eq_true p106; replace q106 := eq_true q106; have ea_ := Option.some.inj (hx105_1.symm.trans hx106_1)
               injection ea_ with ea_ en_ ec_
               subst ea_; subst ec_; clear en_
               go_wp2
               go_roundg k4
               case measure => have := HJ1.out; have := HK2.out; have := HK3.out; have := HK4.out; omega
               case rel => exact ⟨(wrap64 (x3_4 + (((rd_T65 l0_3 x6_4).f0).size : Int))), (wrap64 (x6_4 + 1)), tS, tS, H', ⟨by have := HJ1.out; have := HK2.out; have := HK3.out; have := HK4.out; omega⟩, ⟨bkA BK101.out⟩, ⟨bBl HB.out⟩⟩
             ·rw [if_neg c23] at H
              exact absurd H (by simp)
            ·rw [if_neg c22] at H
             have c22b0 : decide (x6_4 < (l0_3.length : Int)) = false := decide_eq_false c22
             clear c22; obtain rfl := Option.some.inj H; obtain ⟨u27_0, u27_1, u27_2, u27_3, u27_4, u27_5, u27_6, o27_0, o27_1, o27_2, o27_3, o27_4, o27_5, o27_6⟩ := bc7 (w := wr) BK101.out
             go_wp2
             go_ret
             exact ⟨tE, bBl HB.out⟩
end Go.Proofs.Ytkjkokgbhepmoaa.PB

namespace Go.Proofs.Ytkjkokgbhepmoaa.PB
open Go.RowKit Go.Proofs.YtkjkokgbhepmoaaW.PrintWords Go.Proofs.YtkjkokgbhepmoaaW.PrintLast Go.Proofs.YtkjkokgbhepmoaaW.PrintMore
attribute [local go_sem] max2_int min2_int max_two min_two max_three min_three max_four min_four
theorem eqA27 (d : Nat) (w : World) (x0 y0 : Int) (x1 y1 : Int) :
  (Op.equalIn (d + 2) 27 (.agg #[.int .i64 x0, .int .i64 x1]) (.agg #[.int .i64 y0, .int .i64 y1])).run Try.prog w = .ok (x0 == y0 && (x1 == y1)) w := by
 refine eqA_of Try.underlying27 (by kernel_rfl) ?_
 refine eqf_cons (by rfl) (by go_simp; rfl) (by go_simp; rfl) (by go_simp) ?_
 exact eqf_last (by rfl) (by go_simp; rfl) (by go_simp; rfl) (by go_simp)
end Go.Proofs.Ytkjkokgbhepmoaa.PB

namespace Go.Proofs.Ytkjkokgbhepmoaa.PB
open Go.RowKit Go.Proofs.YtkjkokgbhepmoaaW.PrintWords Go.Proofs.YtkjkokgbhepmoaaW.PrintLast Go.Proofs.YtkjkokgbhepmoaaW.PrintMore
attribute [local go_sem] max2_int min2_int max_two min_two max_three min_three max_four min_four
attribute [local go_sem high] eqA27
def lw_SameSpans.l0 : Nat → List (S27) → List (S27) → Int → Option (Bool)
 | 0, _, _, _ => none
 | k + 1, x0, x1, x5 => if x5 < (x0.length : Int) then (if 0 ≤ x5 then (if x5 < (x1.length : Int) then (if (!(((rd_T27 x0 x5).f0) == ((rd_T27 x1 x5).f0)) || (!(((rd_T27 x0 x5).f1) == ((rd_T27 x1 x5).f1)))) = true then (some false) else (lw_SameSpans.l0 k x0 x1 (wrap64 (x5 + 1)))) else (none)) else (none)) else (some true)
def lw_SameSpans.f (k : Nat) (l0 : List (S27)) (l1 : List (S27)) : Option (Bool) := if (l0.length : Int) = (l1.length : Int) then (lw_SameSpans.l0 k l0 l1 0) else (some false)
theorem lw_SameSpans.mono_l : ∀ k, (∀ y0 y1 y2, LeO (lw_SameSpans.l0 k y0 y1 y2) (lw_SameSpans.l0 (k + 1) y0 y1 y2))
 | 0 => fun _ _ _ r h => by simp [lw_SameSpans.l0] at h
 | k + 1 => by
  have ih0 := lw_SameSpans.mono_l k
  ·intro y0 y1 y2
   unfold lw_SameSpans.l0
   repeat' first
   | (with_reducible exact ih0 _ _ _)
   | (with_reducible exact LeO.refl _)
   | (with_reducible exact LeO.none _)
   | (with_reducible refine LeO.ite ?_ ?_)
   | (with_reducible refine LeO.bind ?_ (fun _ => ?_))
   | exact LeO.none _
   | refine LeO.ite ?_ ?_
   | refine LeO.bind ?_ (fun _ => ?_)
theorem lw_SameSpans.mono : ∀ a0 a1 k, LeO (lw_SameSpans.f k a0 a1) (lw_SameSpans.f (k + 1) a0 a1) := by
 intro a0 a1 k
 have ih0 := lw_SameSpans.mono_l k
 unfold lw_SameSpans.f
 repeat' first
   | (with_reducible exact ih0 _ _ _)
   | (with_reducible exact LeO.refl _)
   | (with_reducible exact LeO.none _)
   | (with_reducible refine LeO.ite ?_ ?_)
   | (with_reducible refine LeO.bind ?_ (fun _ => ?_))
   | exact LeO.none _
   | refine LeO.ite ?_ ?_
   | refine LeO.bind ?_ (fun _ => ?_)
set_option maxHeartbeats 8000000 in
set_option maxRecDepth 100000 in
theorem lw_SameSpans.calls (k : Nat) (A0 : Option Addr) (c0 : Nat) (l0 : List (S27)) (A1 : Option Addr) (c1 : Nat) (l1 : List (S27)) (r : Bool) (w : World) (hr0 : Kd.C k27 w A0 l0.length l0) (hc0 : l0.length ≤ c0) (hr1 : Kd.C k27 w A1 l1.length l1) (hc1 : l1.length ≤ c1) (h : lw_SameSpans.f k l0 l1 = some r) :
  Calls Try.prog 17 #[.slice A0 l0.length c0, .slice A1 l1.length c1] w fun e w' => e = .returned (.bool r) ∧ Drawn0 w w' := by
 have hu27 := Try.underlying27; have HR0 := Sd.mk hr0; have HC0 := Sd.mk hc0; clear hr0 hc0; have HR1 := Sd.mk hr1; have HC1 := Sd.mk hc1; clear hr1 hc1
 have H : (if (l0.length : Int) = (l1.length : Int) then (lw_SameSpans.l0 k l0 l1 0) else (some false)) = some r := h
 clear h
 by_cases c3 : (l0.length : Int) = (l1.length : Int)
 ·rw [if_pos c3] at H
  have c3b0 : ((l0.length : Int) == (l1.length : Int)) = true := beq_iff_eq.mpr c3
  have c3b1 : ((l0.length : Int) != (l1.length : Int)) = false := bne_eq_false_iff_eq.mpr c3
  have c3b2 : (l0.length == l1.length) = true := by first | simpa using c3 | (simp at c3 ⊢; omega)
  clear c3; have H' := Sd.mk H; clear H
  go_enter Try.func17, Try.ntmps17
  go_wp2
  repeat (go_quiet (fail); try go_wp2)
  go_loopg [5] k (fun kq v5 w' => ∃ (x5_1 : Int), v5 = .int .i64 x5_1 ∧ Sd (lw_SameSpans.l0 kq l0 l1 x5_1 = some r) ∧ Sd (kq ≤ k) ∧ Drawn0 w w')
  case atStart => exact ⟨(0), tS, H', ⟨Nat.le_refl _⟩, by repeat (first | exact Drawn0.refl _ | apply Drawn0.step)⟩
  case round =>
   clear H'; (try clear c1); (try clear p2); (try clear c3); (try clear c3b0); (try clear c3b1); (try clear c3b2)
   obtain ⟨x5_1, rfl, HA, HK1, ⟨m1, rfl⟩⟩ := hrel
   cases gk with
   | zero => exact absurd HA.out (by simp [lw_SameSpans.l0])
   | succ k1 =>
    have H := HA.out; clear HA
    simp only [lw_SameSpans.l0] at H
    by_cases c4 : x5_1 < (l0.length : Int)
    ·rw [if_pos c4] at H
     have c4b0 : decide (x5_1 < (l0.length : Int)) = true := decide_eq_true c4
     clear c4
     by_cases c5 : 0 ≤ x5_1
     ·rw [if_pos c5] at H
      have c5b0 : decide (0 ≤ x5_1) = true := decide_eq_true c5
      clear c5
      by_cases c6 : x5_1 < (l1.length : Int)
      ·rw [if_pos c6] at H
       have c6b0 : decide (x5_1 < (l1.length : Int)) = true := decide_eq_true c6
       clear c6
       by_cases c7 : (!(((rd_T27 l0 x5_1).f0) == ((rd_T27 l1 x5_1).f0)) || (!(((rd_T27 l0 x5_1).f1) == ((rd_T27 l1 x5_1).f1)))) = true
       ·rw [if_pos c7] at H
        have c7b0 : (!(((rd_T27 l0 x5_1).f0) == ((rd_T27 l1 x5_1).f0)) || (!(((rd_T27 l0 x5_1).f1) == ((rd_T27 l1 x5_1).f1)))) = true := c7
        clear c7; obtain rfl := Option.some.inj H
        have p108 : 0 ≤ (x5_1 : Int) := tB
        have q108 : x5_1 < (l0.length : Int) := tB
        obtain ⟨ad108, e108, hx108_0, hx108_1⟩ := at_T27 HR0.out x5_1 p108 q108; cases e108; replace p108 := eq_true p108; replace q108 := eq_true q108
        have p109 : 0 ≤ (x5_1 : Int) := tB
        have q109 : x5_1 < (l1.length : Int) := tB
        obtain ⟨ad109, e109, hx109_0, hx109_1⟩ := at_T27 HR1.out x5_1 p109 q109; cases e109; replace p109 := eq_true p109; replace q109 := eq_true q109
        go_wp2
        repeat (go_quiet (fail); try go_wp2)
        go_ret
        exact ⟨by first | rfl | (simp; done) | (simp [*]; done), by repeat (first | exact Drawn0.refl _ | apply Drawn0.step)⟩
       ·rw [if_neg c7] at H
        have c7b0 : (!(((rd_T27 l0 x5_1).f0) == ((rd_T27 l1 x5_1).f0)) || (!(((rd_T27 l0 x5_1).f1) == ((rd_T27 l1 x5_1).f1)))) = false := by simpa using c7
        clear c7; have H' := Sd.mk H; clear H
        have p108 : 0 ≤ (x5_1 : Int) := tB
        have q108 : x5_1 < (l0.length : Int) := tB
        obtain ⟨ad108, e108, hx108_0, hx108_1⟩ := at_T27 HR0.out x5_1 p108 q108; cases e108; replace p108 := eq_true p108; replace q108 := eq_true q108
        have p109 : 0 ≤ (x5_1 : Int) := tB
        have q109 : x5_1 < (l1.length : Int) := tB
        obtain ⟨ad109, e109, hx109_0, hx109_1⟩ := at_T27 HR1.out x5_1 p109 q109; cases e109; replace p109 := eq_true p109; replace q109 := eq_true q109
        go_wp2
        repeat (go_quiet (fail); try go_wp2)
        go_roundg k1
        case measure => have := HK1.out; omega
        case rel => exact ⟨(wrap64 (x5_1 + 1)), tS, H', ⟨by have := HK1.out; omega⟩, by repeat (first | exact Drawn0.refl _ | apply Drawn0.step)⟩
      ·rw [if_neg c6] at H
       exact absurd H (by simp)
     ·rw [if_neg c5] at H
      exact absurd H (by simp)
    ·rw [if_neg c4] at H
     have c4b0 : decide (x5_1 < (l0.length : Int)) = false := decide_eq_false c4
     clear c4; obtain rfl := Option.some.inj H
     go_wp2
     repeat (go_quiet (fail); try go_wp2)
     go_ret
     exact ⟨by first | rfl | (simp; done) | (simp [*]; done), by repeat (first | exact Drawn0.refl _ | apply Drawn0.step)⟩
 ·rw [if_neg c3] at H
  have c3b0 : ((l0.length : Int) == (l1.length : Int)) = false := beq_eq_false_iff_ne.mpr c3
  have c3b1 : ((l0.length : Int) != (l1.length : Int)) = true := bne_iff_ne.mpr c3
  have c3b2 : (l0.length == l1.length) = false := by first | simpa using c3 | (simp at c3 ⊢; omega)
  obtain rfl := Option.some.inj H
  go_enter Try.func17, Try.ntmps17
  go_wp2
  repeat (go_quiet (fail); try go_wp2)
  go_ret
  exact ⟨by first | rfl | (simp; done) | (simp [*]; done), by repeat (first | exact Drawn0.refl _ | apply Drawn0.step)⟩
end Go.Proofs.Ytkjkokgbhepmoaa.PB

namespace Go.Proofs.Ytkjkokgbhepmoaa.PB
open Go.RowKit Go.Proofs.YtkjkokgbhepmoaaW.PrintWords Go.Proofs.YtkjkokgbhepmoaaW.PrintLast Go.Proofs.YtkjkokgbhepmoaaW.PrintMore
attribute [local go_sem] max2_int min2_int max_two min_two max_three min_three max_four min_four
end Go.Proofs.Ytkjkokgbhepmoaa.PB

namespace Go.Proofs.Ytkjkokgbhepmoaa.PB
open Go.RowKit Go.Proofs.YtkjkokgbhepmoaaW.PrintWords Go.Proofs.YtkjkokgbhepmoaaW.PrintLast Go.Proofs.YtkjkokgbhepmoaaW.PrintMore
attribute [local go_sem] max2_int min2_int max_two min_two max_three min_three max_four min_four
end Go.Proofs.Ytkjkokgbhepmoaa.PB

namespace Go.Proofs.Ytkjkokgbhepmoaa.PB
open Go.RowKit Go.Proofs.YtkjkokgbhepmoaaW.PrintWords Go.Proofs.YtkjkokgbhepmoaaW.PrintLast Go.Proofs.YtkjkokgbhepmoaaW.PrintMore
attribute [local go_sem] max2_int min2_int max_two min_two max_three min_three max_four min_four
end Go.Proofs.Ytkjkokgbhepmoaa.PB

namespace Go.Proofs.Ytkjkokgbhepmoaa.PB
open Go.RowKit Go.Proofs.YtkjkokgbhepmoaaW.PrintWords Go.Proofs.YtkjkokgbhepmoaaW.PrintLast Go.Proofs.YtkjkokgbhepmoaaW.PrintMore
attribute [local go_sem] max2_int min2_int max_two min_two max_three min_three max_four min_four
end Go.Proofs.Ytkjkokgbhepmoaa.PB

namespace Go.Proofs.Ytkjkokgbhepmoaa.PB
open Go.RowKit Go.Proofs.YtkjkokgbhepmoaaW.PrintWords Go.Proofs.YtkjkokgbhepmoaaW.PrintLast Go.Proofs.YtkjkokgbhepmoaaW.PrintMore
attribute [local go_sem] max2_int min2_int max_two min_two max_three min_three max_four min_four
end Go.Proofs.Ytkjkokgbhepmoaa.PB

namespace Go.Proofs.Ytkjkokgbhepmoaa.PB
open Go.RowKit Go.Proofs.YtkjkokgbhepmoaaW.PrintWords Go.Proofs.YtkjkokgbhepmoaaW.PrintLast Go.Proofs.YtkjkokgbhepmoaaW.PrintMore
attribute [local go_sem] max2_int min2_int max_two min_two max_three min_three max_four min_four
attribute [local go_sem high] eqA27
end Go.Proofs.Ytkjkokgbhepmoaa.PB

namespace Go.Proofs.Ytkjkokgbhepmoaa.PB
open Go.RowKit Go.Proofs.YtkjkokgbhepmoaaW.PrintWords Go.Proofs.YtkjkokgbhepmoaaW.PrintLast Go.Proofs.YtkjkokgbhepmoaaW.PrintMore
section
variable {o : List ByteArray} {mt : List S63} {s : List S27} {p : List S65} {a4 a5 a6 : Int} {r : List Int}
end
section
variable (o : List ByteArray) (mt : List S63) (s : List S27) (p : List S65) (a4 a5 a6 : Int) (r : List Int)
end
section
variable (o : List ByteArray) (mt : List S63) (s : List S27) (p : List S65) (a4 a5 a6 : Int)
theorem great_l2 (hp : p.length ≤ 20) : ∀ (m i : Nat) (x : Int), i + m = p.length → ∃ b, Ev (fun k => lw_Great.l2 k x (i : Int) o mt s p a4 a5 a6) b
  | 0, i, x, hi => by
    refine ⟨decide (x > 2000), ?_⟩
    apply Ev.step
    simp only [lw_Great.l2, if_neg (show ¬ (i : Int) < (p.length : Int) by omega)]
    exact Ev.const _
  | m + 1, i, x, hi => by
    obtain ⟨b, ih⟩ := great_l2 hp m (i + 1) (wrap64 (x + ((rd_T65 p (i : Int)).f0.size : Int))) (by omega)
    by_cases h : (((rd_T65 p (i : Int)).f1).length : Int) > 20
    · refine ⟨true, ?_⟩
      apply Ev.step
      simp only [lw_Great.l2, if_pos (show (i : Int) < (p.length : Int) by omega), if_pos (i_pos i), if_pos h]
      exact Ev.const _
    · refine ⟨b, ?_⟩
      apply Ev.step
      simp only [lw_Great.l2, if_pos (show (i : Int) < (p.length : Int) by omega), if_pos (i_pos i), if_neg h, wrap_succ (i_pos i) (show (i : Int) ≤ 1000000000 by omega)]
      exact ih
theorem great_l1 (hm : mt.length ≤ 20) (hp : p.length ≤ 20) : ∀ (m i : Nat) (x : Int), i + m = mt.length → ∃ b, Ev (fun k => lw_Great.l1 k x (i : Int) o mt s p a4 a5 a6) b
  | 0, i, x, hi => by
    obtain ⟨b, hb⟩ := great_l2 o mt s p a4 a5 a6 hp p.length 0 x (by omega)
    refine ⟨b, ?_⟩
    apply Ev.step
    simp only [lw_Great.l1, if_neg (show ¬ (i : Int) < (mt.length : Int) by omega)]
    exact hb
  | m + 1, i, x, hi => by
    obtain ⟨b, ih⟩ := great_l1 hm hp m (i + 1) (wrap64 (x + ((rd_T63 mt (i : Int)).f0.size : Int))) (by omega)
    by_cases h : (((rd_T63 mt (i : Int)).f6).length : Int) > 20
    · refine ⟨true, ?_⟩
      apply Ev.step
      simp only [lw_Great.l1, if_pos (show (i : Int) < (mt.length : Int) by omega), if_pos (i_pos i), if_pos h]
      exact Ev.const _
    · refine ⟨b, ?_⟩
      apply Ev.step
      simp only [lw_Great.l1, if_pos (show (i : Int) < (mt.length : Int) by omega), if_pos (i_pos i), if_neg h, wrap_succ (i_pos i) (show (i : Int) ≤ 1000000000 by omega)]
      exact ih
theorem great_l0 (ho : o.length ≤ 20) (hm : mt.length ≤ 20) (hp : p.length ≤ 20) : ∀ (m i : Nat) (x : Int), i + m = o.length → ∃ b, Ev (fun k => lw_Great.l0 k x (i : Int) o mt s p a4 a5 a6) b
  | 0, i, x, hi => by
    obtain ⟨b, hb⟩ := great_l1 o mt s p a4 a5 a6 hm hp mt.length 0 x (by omega)
    refine ⟨b, ?_⟩
    apply Ev.step
    simp only [lw_Great.l0, if_neg (show ¬ (i : Int) < (o.length : Int) by omega)]
    exact hb
  | m + 1, i, x, hi => by
    obtain ⟨b, ih⟩ := great_l0 ho hm hp m (i + 1) (wrap64 (x + ((rdOf ByteArray.empty o (i : Int)).size : Int))) (by omega)
    refine ⟨b, ?_⟩
    apply Ev.step
    simp only [lw_Great.l0, if_pos (show (i : Int) < (o.length : Int) by omega), if_pos (i_pos i), wrap_succ (i_pos i) (show (i : Int) ≤ 1000000000 by omega)]
    exact ih
theorem great : ∃ b, Ev (fun k => lw_Great.f k o mt s p a4 a5 a6) b := by
  have ht : Ev (fun k => lw_Great.j0 k true o mt s p a4 a5 a6) true := by
    apply Ev.step
    simp only [lw_Great.j0, if_true]
    exact Ev.const _
  unfold lw_Great.f
  by_cases h1 : (o.length : Int) > 20
  · simp only [if_pos h1]; exact ⟨_, ht⟩
  by_cases h2 : (mt.length : Int) > 20
  · simp only [if_neg h1, if_pos h2]; exact ⟨_, ht⟩
  by_cases h3 : (s.length : Int) > 20
  · simp only [if_neg h1, if_neg h2, if_pos h3]; exact ⟨_, ht⟩
  simp only [if_neg h1, if_neg h2, if_neg h3]
  by_cases h4 : (p.length : Int) > 20
  · rw [show decide ((p.length : Int) > 20) = true by simpa using h4]; exact ⟨_, ht⟩
  · rw [show decide ((p.length : Int) > 20) = false by simpa using h4]
    obtain ⟨b, hb⟩ := great_l0 o mt s p a4 a5 a6 (by omega) (by omega) (by omega) o.length 0 0 (by omega)
    refine ⟨b, ?_⟩
    apply Ev.step
    simp only [lw_Great.j0, Bool.false_eq_true, if_false]
    exact hb
end
section
variable (o : List ByteArray) (mt : List S63) (s : List S27) (p : List S65) (a4 a5 a6 : Int) (r l1 : List Int) (n b3 b4 : Int) (l5 : List Int)
end
end Go.Proofs.Ytkjkokgbhepmoaa.PB

namespace Go.Proofs.Ytkjkokgbhepmoaa.PB
open Go.RowKit Go.Proofs.YtkjkokgbhepmoaaW.PrintWords Go.Proofs.YtkjkokgbhepmoaaW.PrintLast Go.Proofs.YtkjkokgbhepmoaaW.PrintMore
attribute [local go_sem] max2_int min2_int max_two min_two max_three min_three max_four min_four
end Go.Proofs.Ytkjkokgbhepmoaa.PB

namespace Go.Proofs.Ytkjkokgbhepmoaa.PB
open Go.RowKit Go.Proofs.YtkjkokgbhepmoaaW.PrintWords Go.Proofs.YtkjkokgbhepmoaaW.PrintLast Go.Proofs.YtkjkokgbhepmoaaW.PrintMore
attribute [local go_sem] max2_int min2_int max_two min_two
end Go.Proofs.Ytkjkokgbhepmoaa.PB

namespace Go.Proofs.Ytkjkokgbhepmoaa.PB
open Go.RowKit Go.Proofs.YtkjkokgbhepmoaaW.PrintWords Go.Proofs.YtkjkokgbhepmoaaW.PrintLast Go.Proofs.YtkjkokgbhepmoaaW.PrintMore
attribute [local go_sem] max2_int min2_int max_two min_two
end Go.Proofs.Ytkjkokgbhepmoaa.PB

namespace Go.Proofs.Ytkjkokgbhepmoaa.PB
open Go.RowKit Go.Proofs.YtkjkokgbhepmoaaW.PrintWords Go.Proofs.YtkjkokgbhepmoaaW.PrintLast Go.Proofs.YtkjkokgbhepmoaaW.PrintMore
attribute [local go_sem] max2_int min2_int max_two min_two
section
variable {o : List ByteArray} {mt : List S63} {s : List S27} {p : List S65} {a4 a5 a6 : Int}
end
structure LinesW (w W : World) (cs : Array Value) (xs : List S51) (v : Value) : Prop where
  below : Below w.heap.size w W
  box : W.heap[w.heap.size]? = some (.cells cs 29 (0, 0))
  list : k51.R 51 W w.heap.size (fun _ => True) v xs
theorem LinesW.later {w W W' : World} {cs : Array Value} {xs : List S51} {v : Value} (h : LinesW w W cs xs v) (hb : Below W.heap.size W W') : LinesW w W' cs xs v :=
  ⟨below_step h.below hb, blk_below h.box hb, Kd.R_below h.list hb⟩
structure FormsOk (w W : World) (s : List S27) (p : List S65) (A : Option Addr) (c : Nat) (fs : List F105) : Prop where
  row : k105.R 105 W w.heap.size (fun _ => True) (.slice A fs.length c) fs
  at_ : ∀ j (hj : j < fs.length), FormAt w W s p j fs[j]
theorem FormsOk.reads {w W : World} {s : List S27} {p : List S65} {A : Option Addr} {c : Nat} {fs : List F105} (h : FormsOk w W s p A c fs) : Kd.C k105 W A fs.length fs := by
  obtain ⟨A', c', he, _, hC⟩ := Kd.R_reads h.row
  cases he
  exact hC
theorem FormsOk.later {w W W' : World} {s : List S27} {p : List S65} {A : Option Addr} {c : Nat} {fs : List F105} (h : FormsOk w W s p A c fs) (hb : Below W.heap.size W W') : FormsOk w W' s p A c fs :=
  ⟨Kd.R_below h.row hb, fun j hj => (h.at_ j hj).below hb⟩
theorem FormsOk.grown {w W W' : World} {s : List S27} {p : List S65} {A : Option Addr} {c : Nat} {fs : List F105} {base : Nat} {v3 : Value} {xs : List S51} (h : FormsOk w W s p A c fs) (HL : k51.R 51 W base (fun _ => True) v3 xs) (hx : 0 < xs.length) (hg : W.grownBy W' v3.ownBlock) : FormsOk w W' s p A c fs := by
  refine ⟨?_, fun j hj => ⟨fun hh => ?_, fun hh => ?_⟩⟩
  · obtain ⟨g, cap, rfl, _, hlt, cells, hgb⟩ := Kd.R_form HL hx
    refine Kd.R_mono (Kd.R_grown (Kd.R_types (t := 51) h.row hgb (by decide)) hg (fun k hk he => hk.2 ?_)) (fun _ _ => trivial)
    have : g = k := by simpa [Value.ownBlock] using he.symm
    exact this.symm
  · obtain ⟨I, e, hI⟩ := (h.at_ j hj).1 hh
    exact ⟨I, e, blk_grown hI hg (Kd.R_ne HL hI (by decide))⟩
  · obtain ⟨P, A1, c1, e, hP, hC⟩ := (h.at_ j hj).2 hh
    exact ⟨P, A1, c1, e, blk_grown hP hg (Kd.R_ne HL hP (by decide)), hC⟩
end Go.Proofs.Ytkjkokgbhepmoaa.PB

namespace Go.Proofs.Ytkjkokgbhepmoaa.PB
open Go.RowKit Go.Proofs.YtkjkokgbhepmoaaW.PrintWords Go.Proofs.YtkjkokgbhepmoaaW.PrintLast Go.Proofs.YtkjkokgbhepmoaaW.PrintMore
attribute [local go_sem] max2_int min2_int max_two min_two max_three min_three max_four min_four
end Go.Proofs.Ytkjkokgbhepmoaa.PB

namespace Go.Proofs.Ytkjkokgbhepmoaa.PB
open Go.RowKit Go.Proofs.YtkjkokgbhepmoaaW.PrintWords Go.Proofs.YtkjkokgbhepmoaaW.PrintLast Go.Proofs.YtkjkokgbhepmoaaW.PrintMore
attribute [local go_sem] max2_int min2_int max_two min_two max_three min_three max_four min_four
end Go.Proofs.Ytkjkokgbhepmoaa.PB

namespace Go.Proofs.Ytkjkokgbhepmoaa.PB
open Go.RowKit Go.Proofs.YtkjkokgbhepmoaaW.PrintWords Go.Proofs.YtkjkokgbhepmoaaW.PrintLast Go.Proofs.YtkjkokgbhepmoaaW.PrintMore
section
variable {o : List ByteArray} {mt : List S63} {s : List S27} {p : List S65} {a4 a5 a6 : Int} {r : List Int}
def HI (n : Nat) (mt : List S63) (r : List Int) : Int := wS S27.f1 (gramL n mt r) (gramL n mt r).length
end
section
variable (o : List ByteArray) (mt : List S63) (s : List S27) (p : List S65) (a4 a5 a6 : Int) (r : List Int)
variable (H : BatchOk o mt s p a4 a5 a6) (hr : RecOk mt r)
include H hr in
include H hr in
include H hr in
include H hr in
include H in
end
end Go.Proofs.Ytkjkokgbhepmoaa.PB

namespace Go.Proofs.Ytkjkokgbhepmoaa.PB
open Go.RowKit Go.Proofs.YtkjkokgbhepmoaaW.PrintWords Go.Proofs.YtkjkokgbhepmoaaW.PrintLast Go.Proofs.YtkjkokgbhepmoaaW.PrintMore
attribute [local go_sem] max2_int min2_int max_two min_two max_three min_three max_four min_four
def strength_up.f (a0 : Int) (a1 : Int) : Option (Int) := if a1 = 0 then (none) else (some (wrap64 (Int.tdiv (wrap64 ((wrap64 (a0 + a1)) - 1)) a1)))
set_option maxHeartbeats 8000000 in
set_option maxRecDepth 100000 in
theorem strength_up.calls (a0 : Int) (a1 : Int) (r : Int) (w : World) (h : strength_up.f a0 a1 = some r) :
  Calls Try.prog 145 #[.int .i64 a0, .int .i64 a1] w fun e w' => e = .returned (.int .i64 r) ∧ Drawn0 w w' := by
 have H : (if a1 = 0 then (none) else (some (wrap64 (Int.tdiv (wrap64 ((wrap64 (a0 + a1)) - 1)) a1)))) = some r := h
 clear h
 by_cases c3 : a1 = 0
 ·rw [if_pos c3] at H
  exact absurd H (by simp)
 ·rw [if_neg c3] at H
  have c3b0 : (a1 == 0) = false := beq_eq_false_iff_ne.mpr c3
  have c3b1 : (a1 != 0) = true := bne_iff_ne.mpr c3
  obtain rfl := Option.some.inj H
  go_enter Try.func145, Try.ntmps145
  go_wp2
  go_ret
  exact ⟨by first | rfl | (simp; done) | (simp [*]; done), by repeat (first | exact Drawn0.refl _ | apply Drawn0.step)⟩
end Go.Proofs.Ytkjkokgbhepmoaa.PB

namespace Go.Proofs.Ytkjkokgbhepmoaa.PB
open Go.RowKit Go.Proofs.YtkjkokgbhepmoaaW.PrintWords Go.Proofs.YtkjkokgbhepmoaaW.PrintLast Go.Proofs.YtkjkokgbhepmoaaW.PrintMore
attribute [local go_sem] max2_int min2_int max_two min_two max_three min_three max_four min_four
end Go.Proofs.Ytkjkokgbhepmoaa.PB

namespace Go.Proofs.Ytkjkokgbhepmoaa.PB
open Go.RowKit Go.Proofs.YtkjkokgbhepmoaaW.PrintWords Go.Proofs.YtkjkokgbhepmoaaW.PrintLast Go.Proofs.YtkjkokgbhepmoaaW.PrintMore
attribute [local go_sem] max2_int min2_int max_two min_two max_three min_three max_four min_four
end Go.Proofs.Ytkjkokgbhepmoaa.PB

namespace Go.Proofs.Ytkjkokgbhepmoaa.PB
open Go.RowKit Go.Proofs.YtkjkokgbhepmoaaW.PrintWords Go.Proofs.YtkjkokgbhepmoaaW.PrintLast Go.Proofs.YtkjkokgbhepmoaaW.PrintMore
attribute [local go_sem] max2_int min2_int max_two min_two max_three min_three max_four min_four
end Go.Proofs.Ytkjkokgbhepmoaa.PB

namespace Go.Proofs.Ytkjkokgbhepmoaa.PB
open Go.RowKit Go.Proofs.YtkjkokgbhepmoaaW.PrintWords Go.Proofs.YtkjkokgbhepmoaaW.PrintLast Go.Proofs.YtkjkokgbhepmoaaW.PrintMore
attribute [local go_sem] max2_int min2_int max_two min_two max_three min_three max_four min_four
end Go.Proofs.Ytkjkokgbhepmoaa.PB

namespace Go.Proofs.Ytkjkokgbhepmoaa.PB
open Go.RowKit Go.Proofs.YtkjkokgbhepmoaaW.PrintWords Go.Proofs.YtkjkokgbhepmoaaW.PrintLast Go.Proofs.YtkjkokgbhepmoaaW.PrintMore
theorem blk_four (w : World) (o1 o2 o3 o4 : Obj) : ((((w.alloc o1).alloc o2).alloc o3).alloc o4).heap[w.heap.size]? = some o1 ∧ ((((w.alloc o1).alloc o2).alloc o3).alloc o4).heap[w.heap.size + 1]? = some o2 ∧ ((((w.alloc o1).alloc o2).alloc o3).alloc o4).heap[w.heap.size + 1 + 1]? = some o3 ∧ ((((w.alloc o1).alloc o2).alloc o3).alloc o4).heap[w.heap.size + 1 + 1 + 1]? = some o4 ∧ Below w.heap.size w ((((w.alloc o1).alloc o2).alloc o3).alloc o4) ∧ ((((w.alloc o1).alloc o2).alloc o3).alloc o4).heap.size = w.heap.size + 1 + 1 + 1 + 1 :=
  ⟨blk_alloc (blk_three w o1 o2 o3).1 o4, blk_alloc (blk_three w o1 o2 o3).2.1 o4, blk_alloc (blk_three w o1 o2 o3).2.2.1 o4, by simpa using blk_new (((w.alloc o1).alloc o2).alloc o3) o4, below_alloc (blk_three w o1 o2 o3).2.2.2.1 o4, by simp⟩
end Go.Proofs.Ytkjkokgbhepmoaa.PB

namespace Go.Proofs.Ytkjkokgbhepmoaa.PB
open Go.RowKit Go.Proofs.YtkjkokgbhepmoaaW.PrintWords Go.Proofs.YtkjkokgbhepmoaaW.PrintLast Go.Proofs.YtkjkokgbhepmoaaW.PrintMore
attribute [local go_sem] max2_int min2_int max_two min_two max_three min_three max_four min_four
def strength_floored.f (a0 : Int) (a1 : Int) : Option (Int) := if a1 = 0 then (none) else (if (Int.tmod a0 a1) < 0 then (some (wrap64 ((wrap64 (Int.tdiv a0 a1)) - 1))) else (some (wrap64 (Int.tdiv a0 a1))))
end Go.Proofs.Ytkjkokgbhepmoaa.PB

namespace Go.Proofs.Ytkjkokgbhepmoaa.PB
open Go.RowKit Go.Proofs.YtkjkokgbhepmoaaW.PrintWords Go.Proofs.YtkjkokgbhepmoaaW.PrintLast Go.Proofs.YtkjkokgbhepmoaaW.PrintMore
attribute [local go_sem] max2_int min2_int max_two min_two max_three min_three max_four min_four
def strength_raised.f (a0 : Int) (a1 : Int) : Option (Int) := (strength_floored.f (wrap64 (-a0)) a1).bind fun t702 => (some (wrap64 (-t702)))
end Go.Proofs.Ytkjkokgbhepmoaa.PB

namespace Go.Proofs.Ytkjkokgbhepmoaa.PB
open Go.RowKit Go.Proofs.YtkjkokgbhepmoaaW.PrintWords Go.Proofs.YtkjkokgbhepmoaaW.PrintLast Go.Proofs.YtkjkokgbhepmoaaW.PrintMore
attribute [local go_sem] max2_int min2_int max_two min_two
def x_Shock.f (k : Nat) (l0_0 : List ByteArray) (l0_1 : List (S63)) (l0_2 : List (S27)) (l0_3 : List (S65)) (a0_4 : Int) (a0_5 : Int) (a0_6 : Int) (l1 : List Int) (a2 a3 : Int) : Option (Int × Int × Int) :=
  (x_Value.f k l0_0 l0_1 l0_2 l0_3 a0_4 a0_5 a0_6 l1 a2).bind fun v => if v.2.2 = 0 then (if inB a3 0 1000 = true then (strength_floored.f (wrap64 (wrap64 (35 * v.1) * a3)) 78).bind fun lo => (strength_raised.f (wrap64 (wrap64 (35 * v.2.1) * a3)) 78).bind fun hi => some (if lo < 0 then 0 else lo, if hi < 0 then 0 else hi, 0) else some (0, 0, 1)) else some (0, 0, v.2.2)
theorem errno_ne (e : Int) (h : e ≠ 0) : (e == 0) = false := by simp [h]
theorem floored_still (n d r : Int) (w : World) (h : strength_floored.f n d = some r) (hd : (d == 0) = false) : Calls Try.prog 103 #[.int .i64 n, .int .i64 d] w fun e w' => e = .returned (.int .i64 r) ∧ w' = w := by
  unfold strength_floored.f at h
  have hd' : ¬ d = 0 := by simpa using hd
  rw [if_neg hd'] at h
  by_cases hn : Int.tmod n d < 0
  · rw [if_pos hn] at h
    have H := Sd.mk (Option.some.inj h)
    clear h
    go_enter Try.func103, Try.ntmps103
    go_wp2
    go_ret
    exact ⟨by rw [← H.out]; rfl, rfl⟩
  · rw [if_neg hn] at h
    have H := Sd.mk (Option.some.inj h)
    clear h
    go_enter Try.func103, Try.ntmps103
    go_wp2
    go_ret
    exact ⟨by rw [← H.out]; rfl, rfl⟩
theorem raised_still (n d r : Int) (w : World) (h : strength_raised.f n d = some r) (hd : (d == 0) = false) : Calls Try.prog 104 #[.int .i64 n, .int .i64 d] w fun e w' => e = .returned (.int .i64 r) ∧ w' = w := by
  unfold strength_raised.f at h
  obtain ⟨q, hq, h⟩ := Option.bind_eq_some_iff.mp h
  have H := Sd.mk (Option.some.inj h)
  have HQ := Sd.mk hq
  clear h hq
  go_enter Try.func104, Try.ntmps104
  go_wp2_with (go_at_call 103; refine (floored_still _ _ _ _ HQ.out hd).mono ?_; rintro e w' ⟨rfl, rfl⟩)
  go_ret
  exact ⟨by rw [← H.out]; rfl, rfl⟩
set_option maxHeartbeats 4000000 in
set_option maxRecDepth 100000 in
theorem x_Shock.calls (k : Nat) (A0_0 : Option Addr) (c0_0 : Nat) (l0_0 : List ByteArray) (A0_1 : Option Addr) (c0_1 : Nat) (l0_1 : List (S63)) (A0_2 : Option Addr) (c0_2 : Nat) (l0_2 : List (S27)) (A0_3 : Option Addr) (c0_3 : Nat) (l0_3 : List (S65)) (a0_4 : Int) (a0_5 : Int) (a0_6 : Int) (A1 : Option Addr) (c1 : Nat) (l1 : List Int) (a2 a3 : Int) (r1 : Int) (r2 : Int) (r3 : Int) (w : World) (hr0_0 : Kd.C Kd.string w A0_0 l0_0.length l0_0) (hc0_0 : l0_0.length ≤ c0_0) (hr0_1 : Kd.C k63 w A0_1 l0_1.length l0_1) (hc0_1 : l0_1.length ≤ c0_1) (hr0_2 : Kd.C k27 w A0_2 l0_2.length l0_2) (hc0_2 : l0_2.length ≤ c0_2) (hr0_3 : Kd.C k65 w A0_3 l0_3.length l0_3) (hc0_3 : l0_3.length ≤ c0_3) (hr1 : Kd.C (Kd.int .i64) w A1 l1.length l1) (hc1 : l1.length ≤ c1) (h : x_Shock.f k l0_0 l0_1 l0_2 l0_3 a0_4 a0_5 a0_6 l1 a2 a3 = some (r1, r2, r3)) :
    Calls Try.prog 43 #[.agg #[.slice A0_0 l0_0.length c0_0, .slice A0_1 l0_1.length c0_1, .slice A0_2 l0_2.length c0_2, .slice A0_3 l0_3.length c0_3, .int .i64 a0_4, .int .i64 a0_5, .int .i64 a0_6], .slice A1 l1.length c1, .int .i64 a2, .int .i64 a3] w fun e w' => e = .returned (.tuple #[.agg #[.int .i64 r1, .int .i64 r2], .int .i64 r3]) ∧ Below w.heap.size w w' := by
  have hmf := run_makeFunc_
  obtain ⟨b1, b2, b3, hb0, hsz⟩ := blk_three w (.cells #[.slice A0_0 l0_0.length c0_0, .slice A0_1 l0_1.length c0_1, .slice A0_2 l0_2.length c0_2, .slice A0_3 l0_3.length c0_3, .int .i64 a0_4, .int .i64 a0_5, .int .i64 a0_6] 29) (.cells #[.int .i64 0, .int .i64 0] 27) (.cells #[.int .i64 0] 38)
  have BR := Sd.mk b2
  have BE := Sd.mk b3
  have HSZ := Sd.mk hsz
  have HB := Sd.mk hb0
  unfold x_Shock.f at h
  obtain ⟨⟨v1, v2, ve⟩, hv, H⟩ := Option.bind_eq_some_iff.mp h
  have HV := Sd.mk (x_Value.calls k A0_0 c0_0 l0_0 A0_1 c0_1 l0_1 A0_2 c0_2 l0_2 A0_3 c0_3 l0_3 a0_4 a0_5 a0_6 A1 c1 l1 a2 v1 v2 ve _ (Kd.C_below hr0_0 hb0) hc0_0 (Kd.C_below hr0_1 hb0) hc0_1 (Kd.C_below hr0_2 hb0) hc0_2 (Kd.C_below hr0_3 hb0) hc0_3 (Kd.C_below hr1 hb0) hc1 hv)
  clear b1 b2 b3 hsz hb0 hr0_0 hr0_1 hr0_2 hr0_3 hr1 h hv hc0_0 hc0_1 hc0_2 hc0_3 hc1
  simp only at H
  by_cases hve : ve = 0
  · subst hve
    rw [if_pos rfl] at H
    cases hi : inB a3 0 1000 with
    | true =>
      rw [if_pos hi] at H
      obtain ⟨lo, hlo, H⟩ := Option.bind_eq_some_iff.mp H
      obtain ⟨hh, hhi, H⟩ := Option.bind_eq_some_iff.mp H
      simp only [Option.some.injEq, Prod.mk.injEq] at H
      obtain ⟨hy1, hy2, rfl⟩ := H
      have HY1 := Sd.mk hy1
      have HY2 := Sd.mk hy2
      clear hy1 hy2
      have HI := Sd.mk hi
      have HLO := Sd.mk hlo
      have HHI := Sd.mk hhi
      clear hi hlo hhi
      have h78 : ((78 : Int) == 0) = false := rfl
      go_enter_defers Try.func43, Try.ntmps43
      go_upto_region 5 with (first | (go_at_call 20; refine HV.out.mono ?_; rintro e w1 ⟨rfl, hb1⟩; have BR1 := Sd.mk (blk_below BR.out hb1); have BE1 := Sd.mk (blk_below BE.out hb1); have HB1 := Sd.mk (below_then HB.out (by have := HSZ.out; omega) hb1); have BE2 := Sd.mk (blk_alloc BE1.out (.cells #[.int .i64 v1, .int .i64 v2] 27)); have BV2 := Sd.mk (blk_new w1 (.cells #[.int .i64 v1, .int .i64 v2] 27)); have he0 : (w1.alloc (.cells #[.int .i64 v1, .int .i64 v2] 27)).cell? ⟨w.heap.size + 1 + 1, 0, none⟩ = some (.int .i64 0) := (blk_cell BE2.out 0).trans rfl; have he1 := blk_frozen BE2.out 0) | (go_at_call 90; refine (must_ok _).mono ?_; rintro e w2 ⟨rfl, rfl⟩) | (go_at_call 92; refine (swithin_f _ _ _ _).mono ?_; rw [HI.out]; rintro e w2 ⟨rfl, q, rfl⟩) | (go_at_call 91; (with_reducible refine (demand_ok _ _).mono ?_); rintro e w' ⟨rfl, rfl⟩))
      have BVx := Sd.mk (fun q : Nat => blk_drewN (blk_far BV2.out (show w1.heap.size ≠ (⟨w.heap.size + 1 + 1, 0, none⟩ : Addr).block by have := blk_lt BE1.out; show _ ≠ w.heap.size + 1 + 1; omega) (.int .i64 0)) q)
      have BRx := Sd.mk (fun q : Nat => blk_drewN (blk_far (blk_alloc BR1.out (.cells #[.int .i64 v1, .int .i64 v2] 27)) (show w.heap.size + 1 ≠ (⟨w.heap.size + 1 + 1, 0, none⟩ : Addr).block by show _ ≠ _; simp) (.int .i64 0)) q)
      have BEx := Sd.mk (fun q : Nat => blk_drewN (blk_put BE2.out 0 (.int .i64 0) rfl) q)
      have HBx := Sd.mk (fun q : Nat => pw_below_drewN (below_set (below_alloc HB1.out (.cells #[.int .i64 v1, .int .i64 v2] 27)) (g := w.heap.size + 1 + 1) (j := 0) (v := .int .i64 0) (by omega)) q)
      have HNE := Sd.mk (show w.heap.size + 1 + 1 < w1.heap.size from blk_lt BE1.out)
      clear he0 he1
      generalize hWY : World.drewN _ q = WY
      have BV := Sd.mk (hWY ▸ BVx.out q)
      have BRy := Sd.mk (hWY ▸ BRx.out q)
      have BEy := Sd.mk (hWY ▸ BEx.out q)
      have HBy := Sd.mk (hWY ▸ HBx.out q)
      clear hWY BVx BRx BEx HBx BE2 BV2 BE1 BR1 HB1
      generalize w1.heap.size = X at BV HNE ⊢
      refine wp_region_still_tail 15 (by kernel_rfl) (by kernel_rfl) ?_
      simp only [List.take_succ_cons, List.take_zero, List.drop_succ_cons, List.drop_zero]
      change wpStill Try.prog _ WY.drew _ _ _
      have hd0 : WY.drew.cell? ⟨X, 0, none⟩ = some (.int .i64 v1) := (blk_cell BV.out 0).trans rfl
      have hd1 : WY.drew.cell? ⟨X, 1, none⟩ = some (.int .i64 v2) := (blk_cell BV.out 1).trans rfl
      generalize hWD : WY.drew = WD at hd0 hd1 ⊢
      have HWD := Sd.mk hWD
      clear hWD
      repeat still_step
      have HLO' : strength_floored.f (IntKind.i64.wrap (IntKind.i64.wrap (35 * v1) * a3)) 78 = some lo := by simp only [i64_w]; exact HLO.out
      have HHI' : strength_raised.f (IntKind.i64.wrap (IntKind.i64.wrap (35 * v2) * a3)) 78 = some hh := by simp only [i64_w]; exact HHI.out
      have HLOx := Sd.mk HLO'
      have HHIx := Sd.mk HHI'
      clear HLO' HHI'
      still_call (floored_still _ _ _ _ HLOx.out h78)
      repeat still_step
      still_call (raised_still _ _ _ _ HHIx.out h78)
      repeat still_step
      refine wpStill_nil ?_
      change wpList _ _ _ _ _ WY.drew
      rw [HWD.out]
      have BRd := Sd.mk (HWD.out ▸ blk_drew BRy.out)
      have BEd := Sd.mk (HWD.out ▸ blk_drew BEy.out)
      have HBd := Sd.mk (HWD.out ▸ below_drew1 HBy.out)
      clear HWD BRy BEy HBy hd0 hd1
      have he0 : WD.cell? ⟨w.heap.size + 1 + 1, 0, none⟩ = some (.int .i64 0) := (blk_cell BEd.out 0).trans rfl
      have he1 := blk_frozen BEd.out 0
      have hq0 : WD.cell? ⟨w.heap.size + 1, 0, none⟩ = some (.int .i64 0) := (blk_cell BRd.out 0).trans rfl
      have hq1 : WD.cell? ⟨w.heap.size + 1, 0 + 1, none⟩ = some (.int .i64 0) := (blk_cell BRd.out 1).trans rfl
      have hq2 := blk_frozen BRd.out 0
      have hq3 := blk_frozen BRd.out 1
      rw [HY1.out, HY2.out]
      go_wp2
      refine leaves_cons (f := 102) (args := #[.pointer (some ⟨w.heap.size + 1 + 1, 0, none⟩)]) (by simp) (by simp [go_sem]) ?_
      refine (door102_ok _ _).mono ?_
      rintro e u' w'' ⟨rfl, rfl, rfl⟩
      have BRf := blk_far (blk_put (blk_put BRd.out 0 (.int .i64 r1) rfl) 1 (.int .i64 r2) rfl) (show w.heap.size + 1 ≠ (⟨w.heap.size + 1 + 1, 0, none⟩ : Addr).block by show _ ≠ _; simp) (.int .i64 0)
      have BEf := blk_put (blk_far (blk_far BEd.out (show w.heap.size + 1 + 1 ≠ (⟨w.heap.size + 1, 0, none⟩ : Addr).block by show _ ≠ _; simp) (.int .i64 r1)) (show w.heap.size + 1 + 1 ≠ (⟨w.heap.size + 1, 1, none⟩ : Addr).block by show _ ≠ _; simp) (.int .i64 r2)) 0 (.int .i64 0) rfl
      exact ⟨_, results_ce rfl _ _ (w.heap.size + 1) (w.heap.size + 1 + 1) _ _ rfl (run_loadVar_row _ _ 27 27 _ (0, 0) _ BRf Try.underlying27 rfl (by kernel_rfl)) rfl BEf, rfl, below_set (below_set (below_set HBd.out (by omega)) (by omega)) (by omega)⟩
    | false =>
      rw [if_neg (by rw [hi]; simp)] at H
      simp only [Option.some.injEq, Prod.mk.injEq] at H
      obtain ⟨rfl, rfl, rfl⟩ := H
      have HI := Sd.mk hi
      clear hi
      go_enter_defers Try.func43, Try.ntmps43
      go_wp2_with (first | (go_at_call 20; refine HV.out.mono ?_; rintro e w1 ⟨rfl, hb1⟩; have BR1 := Sd.mk (blk_below BR.out hb1); have BE1 := Sd.mk (blk_below BE.out hb1); have HB1 := Sd.mk (below_then HB.out (by have := HSZ.out; omega) hb1); have BE2 := Sd.mk (blk_alloc BE1.out (.cells #[.int .i64 v1, .int .i64 v2] 27)); have he0 : (w1.alloc (.cells #[.int .i64 v1, .int .i64 v2] 27)).cell? ⟨w.heap.size + 1 + 1, 0, none⟩ = some (.int .i64 0) := (blk_cell BE2.out 0).trans rfl; have he1 := blk_frozen BE2.out 0) | (go_at_call 90; refine (must_ok _).mono ?_; rintro e w2 ⟨rfl, rfl⟩) | (go_at_call 92; refine (swithin_f _ _ _ _).mono ?_; rw [HI.out]; rintro e w2 ⟨rfl, q, rfl⟩) | (go_at_call 91; (with_reducible refine (demand_no _ _).mono ?_); rintro e w' ⟨rfl, rfl⟩))
      refine leaves_cons (f := 102) (args := #[.pointer (some ⟨w.heap.size + 1 + 1, 0, none⟩)]) (by simp) (by simp [go_sem]) ?_
      refine (door102_fail _ _ 0 [] _ (blk_drewN (blk_put BE2.out 0 (.int .i64 0) rfl) q)).mono ?_
      rintro e u' w'' ⟨rfl, rfl, rfl⟩
      have BRf := blk_far (blk_alloc (blk_drewN (blk_far (blk_alloc BR1.out (.cells #[.int .i64 v1, .int .i64 v2] 27)) (show w.heap.size + 1 ≠ (⟨w.heap.size + 1 + 1, 0, none⟩ : Addr).block by show _ ≠ _; simp) (.int .i64 0)) q) (.cells #[.int .i64 1] 174)) (show w.heap.size + 1 ≠ (⟨w.heap.size + 1 + 1, 0, none⟩ : Addr).block by show _ ≠ _; simp) (.int .i64 1)
      exact ⟨_, results_ce rfl _ _ (w.heap.size + 1) (w.heap.size + 1 + 1) _ _ rfl (run_loadVar_row _ _ 27 27 _ (0, 0) _ BRf Try.underlying27 rfl (by kernel_rfl)) rfl (blk_put (blk_alloc (blk_drewN (blk_put BE2.out 0 (.int .i64 0) rfl) q) _) 0 _ rfl), rfl, below_set (below_alloc (pw_below_drewN (below_set (below_alloc HB1.out _) (by omega)) q) _) (by omega)⟩
  · rw [if_neg hve] at H
    simp only [Option.some.injEq, Prod.mk.injEq] at H
    obtain ⟨rfl, rfl, rfl⟩ := H
    have HVE := Sd.mk (errno_ne ve hve)
    clear hve
    go_enter_defers Try.func43, Try.ntmps43
    go_wp2_with (first | (go_at_call 20; refine HV.out.mono ?_; rintro e w1 ⟨rfl, hb1⟩; have BR1 := Sd.mk (blk_below BR.out hb1); have BE1 := Sd.mk (blk_below BE.out hb1); have HB1 := Sd.mk (below_then HB.out (by have := HSZ.out; omega) hb1); have BE2 := Sd.mk (blk_alloc BE1.out (.cells #[.int .i64 v1, .int .i64 v2] 27)); have BV2 := Sd.mk (blk_new w1 (.cells #[.int .i64 v1, .int .i64 v2] 27)); have he0 : (w1.alloc (.cells #[.int .i64 v1, .int .i64 v2] 27)).cell? ⟨w.heap.size + 1 + 1, 0, none⟩ = some (.int .i64 0) := (blk_cell BE2.out 0).trans rfl; have he1 := blk_frozen BE2.out 0) | (go_at_call 90; refine (must_no _ HVE.out _).mono ?_; rintro e w2 ⟨rfl, rfl⟩))
    refine leaves_cons (f := 102) (args := #[.pointer (some ⟨w.heap.size + 1 + 1, 0, none⟩)]) (by simp) (by simp [go_sem]) ?_
    refine (door102_fail _ _ ve [] _ (blk_put BE2.out 0 (.int .i64 ve) rfl)).mono ?_
    rintro e u' w'' ⟨rfl, rfl, rfl⟩
    have BRf := blk_far (blk_alloc (blk_far (blk_alloc BR1.out (.cells #[.int .i64 v1, .int .i64 v2] 27)) (show w.heap.size + 1 ≠ (⟨w.heap.size + 1 + 1, 0, none⟩ : Addr).block by show _ ≠ _; simp) (.int .i64 ve)) (.cells #[.int .i64 ve] 174)) (show w.heap.size + 1 ≠ (⟨w.heap.size + 1 + 1, 0, none⟩ : Addr).block by show _ ≠ _; simp) (.int .i64 ve)
    exact ⟨_, results_ce rfl _ _ (w.heap.size + 1) (w.heap.size + 1 + 1) _ _ rfl (run_loadVar_row _ _ 27 27 _ (0, 0) _ BRf Try.underlying27 rfl (by kernel_rfl)) rfl (blk_put (blk_alloc (blk_put BE2.out 0 (.int .i64 ve) rfl) _) 0 _ rfl), rfl, below_set (below_alloc (below_set (below_alloc HB1.out _) (by omega)) _) (by omega)⟩
end Go.Proofs.Ytkjkokgbhepmoaa.PB

namespace Go.Proofs.Ytkjkokgbhepmoaa.PB
open Go.RowKit Go.Proofs.YtkjkokgbhepmoaaW.PrintWords Go.Proofs.YtkjkokgbhepmoaaW.PrintLast Go.Proofs.YtkjkokgbhepmoaaW.PrintMore
theorem mean_le {cf : Int → Int} {l : List S27} (H : MeanOk cf l) : meanLo cf l ≤ meanHi cf l := by
  have h1 := (meanLo_iff H _).2 (Int.le_refl _)
  have h2 := (meanHi_iff H _).2 (Int.le_refl _)
  unfold belowS MeanMath.below at h1
  unfold aboveS MeanMath.below at h2
  generalize meanLo cf l = L at *
  generalize meanHi cf l = M at *
  have a1 := MeanMath.lsum_le (l := (iotaA l.length).toList) (f := fun a => (L - cf a) * loF l a) (g := fun a => max ((L - cf a) * loF l a) ((L - cf a) * hiF l a)) (fun x _ => Int.le_max_left _ _)
  have a2 := MeanMath.lsum_le (l := (iotaA l.length).toList) (f := fun a => (-M - -cf a) * loF l a) (g := fun a => max ((-M - -cf a) * loF l a) ((-M - -cf a) * hiF l a)) (fun x _ => Int.le_max_left _ _)
  have s := MeanMath.lsum_add (fun a => (L - cf a) * loF l a) (fun a => (-M - -cf a) * loF l a) (iotaA l.length).toList
  have e := MeanMath.lsum_congr (l := (iotaA l.length).toList) (f := fun a => (L - cf a) * loF l a + (-M - -cf a) * loF l a) (g := fun a => (L - M) * loF l a) (fun a _ => by
    show (L - cf a) * loF l a + (-M - -cf a) * loF l a = (L - M) * loF l a
    rw [← Int.add_mul]; congr 1; omega)
  rw [e, MeanMath.lsum_mul, lsum_iota (loF l) l (fun _ _ => rfl)] at s
  have hp := H.pos
  have h3 := Int.le_trans a2 h2
  apply Int.not_lt.1
  intro hlt
  have : 0 < (L - M) * MeanMath.lsum S27.f0 l := Int.mul_pos (by omega) hp
  omega
theorem wsmall {x : Int} (h1 : -1000000000000000000 ≤ x) (h2 : x ≤ 1000000000000000000) : wrap64 x = x := wrap_id (by omega) (by omega)
end Go.Proofs.Ytkjkokgbhepmoaa.PB

namespace Go.Proofs.Ytkjkokgbhepmoaa.PB
open Go.RowKit Go.Proofs.YtkjkokgbhepmoaaW.PrintWords Go.Proofs.YtkjkokgbhepmoaaW.PrintLast Go.Proofs.YtkjkokgbhepmoaaW.PrintMore
def LeQ (p q : Int × Int) : Prop := p.1 * q.2 ≤ q.1 * p.2
theorem LeQ.refl (p : Int × Int) : LeQ p p := Int.le_refl _
theorem LeQ.trans {p q r : Int × Int} (hp : 0 < p.2) (hq : 0 < q.2) (hr : 0 < r.2) (h : LeQ p q) (k : LeQ q r) : LeQ p r := by
  unfold LeQ at *
  apply Int.le_of_mul_le_mul_right (a := q.2) _ hq
  have e1 : p.1 * r.2 * q.2 = p.1 * q.2 * r.2 := by rw [Int.mul_assoc, Int.mul_comm r.2, ← Int.mul_assoc]
  have e2 : r.1 * p.2 * q.2 = r.1 * q.2 * p.2 := by rw [Int.mul_assoc, Int.mul_comm p.2, ← Int.mul_assoc]
  have e3 : q.1 * p.2 * r.2 = q.1 * r.2 * p.2 := by rw [Int.mul_assoc, Int.mul_comm p.2, ← Int.mul_assoc]
  rw [e1, e2]
  refine Int.le_trans (Int.mul_le_mul_of_nonneg_right h (by omega)) ?_
  rw [e3]
  exact Int.mul_le_mul_of_nonneg_right k (by omega)
end Go.Proofs.Ytkjkokgbhepmoaa.PB

namespace Go.Proofs.Ytkjkokgbhepmoaa.PB
open Go.RowKit Go.Proofs.YtkjkokgbhepmoaaW.PrintWords Go.Proofs.YtkjkokgbhepmoaaW.PrintLast Go.Proofs.YtkjkokgbhepmoaaW.PrintMore
attribute [local go_sem] max2_int min2_int max_two min_two max_three min_three max_four min_four
def culletlaw05_exact.f (a0 : Int) : Option (Int × Int) := some (a0, a0)
set_option maxHeartbeats 8000000 in
set_option maxRecDepth 100000 in
theorem culletlaw05_exact.calls (a0 : Int) (r1 : Int) (r2 : Int) (w : World) (h : culletlaw05_exact.f a0 = some (r1, r2)) :
  Calls Try.prog 144 #[.int .i64 a0] w fun e w' => e = .returned (.agg #[.int .i64 r1, .int .i64 r2]) ∧ Below w.heap.size w w' := by
 have hu27 := Try.underlying27; have HB := Sd.mk (Below.refl w.heap.size w)
 have H : (some (a0, a0)) = some (r1, r2) := h
 clear h
 simp only [Option.some.injEq, Prod.mk.injEq] at H
 obtain ⟨rfl, rfl⟩ := H
 go_enter Try.func144, Try.ntmps144
 go_wp2_with (first | ((with_reducible refine gate_dst (N := 2) rfl ?_); refine box_event ?hg (N := 2) ?hd (cs := #[.int .i64 0, .int .i64 0]) (t := 27) ?hr ?_; (case hd => rfl); (case hg => rfl); (case hr => exact tG); intro gb634 hg w2 hbox hb; have BK634 := Sd.mk (hbox); have GW634 := Sd.mk (bSz hg (bBl HB.out)); have GE634 := Sd.mk (bSz hg (bBl HB.out)); replace HB := Sd.mk (below_step (bBl HB.out) hb); clear hb hbox hg; obtain ⟨u3_0, u3_1, o3_0, o3_1⟩ := bc2 (w := w2) BK634.out))
 refine bodyPost_ret (results_cell_row rfl _ _ gb634 27 #[.int .i64 a0, .int .i64 a0] (0, 0) _ rfl (by (with_reducible repeat (first | refine blk_drewN ?_ _ | refine blk_drew ?_ | refine blk_alloc ?_ _)); refine blk_put (cs := #[.int .i64 a0, .int .i64 0]) ?_ 1 _ rfl; (with_reducible repeat (first | refine blk_drewN ?_ _ | refine blk_drew ?_ | refine blk_alloc ?_ _)); refine blk_put (cs := #[.int .i64 0, .int .i64 0]) ?_ 0 _ rfl; (with_reducible repeat (first | refine blk_drewN ?_ _ | refine blk_drew ?_ | refine blk_alloc ?_ _)); exact BK634.out) Try.underlying27 rfl (by kernel_rfl)) rfl ?_
 exact ⟨tE, bBl HB.out⟩
end Go.Proofs.Ytkjkokgbhepmoaa.PB

namespace Go.Proofs.Ytkjkokgbhepmoaa.PB
open Go.RowKit Go.Proofs.YtkjkokgbhepmoaaW.PrintWords Go.Proofs.YtkjkokgbhepmoaaW.PrintLast Go.Proofs.YtkjkokgbhepmoaaW.PrintMore
attribute [local go_sem] max2_int min2_int max_two min_two max_three min_three max_four min_four
def culletlaw05_Example.f  : Option ((List (S170)) × Int × Int) := (culletlaw05_exact.f 300).bind fun bt636 => ((culletlaw05_exact.f 1000).bind fun bt638 => ((culletlaw05_exact.f 1000).bind fun bt640 => ((culletlaw05_exact.f 1000).bind fun bt642 => ((culletlaw05_exact.f 500).bind fun bt644 => (some ((([(⟨(⟨bt636.1, bt636.2⟩ : S27), (⟨bt638.1, bt638.2⟩ : S27), (⟨bt640.1, bt640.2⟩ : S27), (⟨bt642.1, bt642.2⟩ : S27), (⟨bt644.1, bt644.2⟩ : S27)⟩ : S170)] : List (S170))), 10, 40000000000))))))
set_option maxHeartbeats 8000000 in
set_option maxRecDepth 100000 in
theorem culletlaw05_Example.calls  (r1 : List (S170)) (r2 : Int) (r3 : Int) (w : World) (h : culletlaw05_Example.f  = some (r1, r2, r3)) :
  Calls Try.prog 86 #[] w fun e w' => ∃ v0_ : Value, e = .returned (.agg #[v0_, .int .i64 r2, .int .i64 r3]) ∧ Kd.R k170 170 w' w.heap.size (fun _ => True) v0_ r1 ∧ Below w.heap.size w w' := by
 have hu92 := Try.underlying92; have hu170 := Try.underlying170; have HB := Sd.mk (Below.refl w.heap.size w)
 have H : ((culletlaw05_exact.f 300).bind fun bt636 => ((culletlaw05_exact.f 1000).bind fun bt638 => ((culletlaw05_exact.f 1000).bind fun bt640 => ((culletlaw05_exact.f 1000).bind fun bt642 => ((culletlaw05_exact.f 500).bind fun bt644 => (some ((([(⟨(⟨bt636.1, bt636.2⟩ : S27), (⟨bt638.1, bt638.2⟩ : S27), (⟨bt640.1, bt640.2⟩ : S27), (⟨bt642.1, bt642.2⟩ : S27), (⟨bt644.1, bt644.2⟩ : S27)⟩ : S170)] : List (S170))), 10, 40000000000))))))) = some (r1, r2, r3) := h
 clear h; replace H := Option.bind_eq_some_iff.mp H
 obtain ⟨⟨t636, t637⟩, A10, H⟩ := H
 try dsimp only at H
 have A1 := Sd.mk A10; clear A10; replace H := Option.bind_eq_some_iff.mp H
 obtain ⟨⟨t638, t639⟩, A20, H⟩ := H
 try dsimp only at H
 have A2 := Sd.mk A20; clear A20; replace H := Option.bind_eq_some_iff.mp H
 obtain ⟨⟨t640, t641⟩, A30, H⟩ := H
 try dsimp only at H
 have A3 := Sd.mk A30; clear A30; replace H := Option.bind_eq_some_iff.mp H
 obtain ⟨⟨t642, t643⟩, A40, H⟩ := H
 try dsimp only at H
 have A4 := Sd.mk A40; clear A40; replace H := Option.bind_eq_some_iff.mp H
 obtain ⟨⟨t644, t645⟩, A50, H⟩ := H
 try dsimp only at H
 have A5 := Sd.mk A50; clear A50
 obtain ⟨y646, hy646⟩ : ∃ y_ : List (S170), y_ = (([(⟨(⟨t636, t637⟩ : S27), (⟨t638, t639⟩ : S27), (⟨t640, t641⟩ : S27), (⟨t642, t643⟩ : S27), (⟨t644, t645⟩ : S27)⟩ : S170)] : List (S170))) := ⟨_, rfl⟩
 replace H : (some (y646, 10, 40000000000)) = some (r1, r2, r3) := by first | (rw [hy646]; with_reducible exact H) | (have H2_ := (Option.bind_some _ _).symm.trans H; rw [hy646]; with_reducible exact H2_) | (have H2_ := (Option.bind_some _ _).symm.trans H; with_reducible exact H2_) | with_reducible exact H | (rw [hy646]; exact H) | exact H
 have Ny646 := Sd.mk hy646; clear hy646
 simp only [Option.some.injEq, Prod.mk.injEq] at H
 obtain ⟨rfl, rfl, rfl⟩ := H
 go_enter Try.func86, Try.ntmps86
 go_wp2_with (first | ((with_reducible refine gate_dst (N := 0) rfl ?_); refine box_event ?hg (N := 0) ?hd (cs := #[.slice none 0 0, .int .i64 0, .int .i64 0]) (t := 92) ?hr ?_; (case hd => rfl); (case hg => rfl); (case hr => exact tG); intro gb635 hg w6 hbox hb; have BK635 := Sd.mk (hbox); have GW635 := Sd.mk (bSz hg (bBl HB.out)); have GE635 := Sd.mk (bSz hg (bBl HB.out)); replace HB := Sd.mk (below_step (bBl HB.out) hb); clear hb hbox hg) | ((with_reducible refine gate_callee (f := 144) rfl ?_); refine goesL_ (some 1) rfl rfl Try.func144 (by kernel_rfl) rfl #[.int .i64 300] rfl tM ?_; (with_reducible refine (culletlaw05_exact.calls 300 t636 t637 _ A1.out).mono ?_); rintro e w7 ⟨rfl, hb⟩; refine ⟨_, rfl, ?_⟩; replace BK635 := Sd.mk (blk_below (bkA BK635.out) hb); replace HB := Sd.mk (below_step (bBl HB.out) hb); (try clear hb); (try clear hb2); (try clear hk); (try clear hi)) | ((with_reducible refine gate_callee (f := 144) rfl ?_); refine goesL_ (some 2) rfl rfl Try.func144 (by kernel_rfl) rfl #[.int .i64 1000] rfl tM ?_; (with_reducible refine (culletlaw05_exact.calls 1000 t638 t639 _ A2.out).mono ?_); rintro e w8 ⟨rfl, hb⟩; refine ⟨_, rfl, ?_⟩; replace BK635 := Sd.mk (blk_below (bkA BK635.out) hb); replace HB := Sd.mk (below_step (bBl HB.out) hb); (try clear hb); (try clear hb2); (try clear hk); (try clear hi)) | ((with_reducible refine gate_callee (f := 144) rfl ?_); refine goesL_ (some 3) rfl rfl Try.func144 (by kernel_rfl) rfl #[.int .i64 1000] rfl tM ?_; (with_reducible refine (culletlaw05_exact.calls 1000 t640 t641 _ A3.out).mono ?_); rintro e w9 ⟨rfl, hb⟩; refine ⟨_, rfl, ?_⟩; replace BK635 := Sd.mk (blk_below (bkA BK635.out) hb); replace HB := Sd.mk (below_step (bBl HB.out) hb); (try clear hb); (try clear hb2); (try clear hk); (try clear hi)) | ((with_reducible refine gate_callee (f := 144) rfl ?_); refine goesL_ (some 4) rfl rfl Try.func144 (by kernel_rfl) rfl #[.int .i64 1000] rfl tM ?_; (with_reducible refine (culletlaw05_exact.calls 1000 t642 t643 _ A4.out).mono ?_); rintro e w10 ⟨rfl, hb⟩; refine ⟨_, rfl, ?_⟩; replace BK635 := Sd.mk (blk_below (bkA BK635.out) hb); replace HB := Sd.mk (below_step (bBl HB.out) hb); (try clear hb); (try clear hb2); (try clear hk); (try clear hi)) | ((with_reducible refine gate_callee (f := 144) rfl ?_); refine goesL_ (some 5) rfl rfl Try.func144 (by kernel_rfl) rfl #[.int .i64 500] rfl tM ?_; (with_reducible refine (culletlaw05_exact.calls 500 t644 t645 _ A5.out).mono ?_); rintro e w11 ⟨rfl, hb⟩; refine ⟨_, rfl, ?_⟩; replace BK635 := Sd.mk (blk_below (bkA BK635.out) hb); replace HB := Sd.mk (below_step (bBl HB.out) hb); (try clear hb); (try clear hb2); (try clear hk); (try clear hi)) | ((with_reducible refine gate_dst (N := 7) rfl ?_); refine Kd.R_lit k170 _ 170 ?hg (N := 7) ?hd (xs := ([(⟨(⟨t636, t637⟩ : S27), (⟨t638, t639⟩ : S27), (⟨t640, t641⟩ : S27), (⟨t642, t643⟩ : S27), (⟨t644, t645⟩ : S27)⟩ : S170)] : List (S170))) (inner := [.int .i64 t636, .int .i64 t637, .int .i64 t638, .int .i64 t639, .int .i64 t640, .int .i64 t641, .int .i64 t642, .int .i64 t643, .int .i64 t644, .int .i64 t645]) (ok := fun _ => True) (okp := fun _ => True) ?hr ?hp (fun _ hk => hk) trivial (Below.refl _ _) (Nat.le_refl _) (by simp) ?_; (case hd => rfl); (case hg => rfl); (case hr => exact tG); (case hp => exact (Reps.c10 (show Kd.M k170 _ _ _ (⟨(⟨t636, t637⟩ : S27), (⟨t638, t639⟩ : S27), (⟨t640, t641⟩ : S27), (⟨t642, t643⟩ : S27), (⟨t644, t645⟩ : S27)⟩ : S170) [.int .i64 t636, .int .i64 t637, .int .i64 t638, .int .i64 t639, .int .i64 t640, .int .i64 t641, .int .i64 t642, .int .i64 t643, .int .i64 t644, .int .i64 t645] from (k170_mkM _ _ _ (⟨(⟨t636, t637⟩ : S27), (⟨t638, t639⟩ : S27), (⟨t640, t641⟩ : S27), (⟨t642, t643⟩ : S27), (⟨t644, t645⟩ : S27)⟩ : S170) )) (Reps.none _ _))); intro v647 w12 ho13 hb hg_ hnew_; clear hg_ hnew_; (first | rw [← Ny646.out] at ho13 | (simp only [Int.reduceToNat] at ho13; rw [← Ny646.out] at ho13)); have HO648 := Sd.mk (Kd.R_lower ho13 (below_size (bBl HB.out))); replace BK635 := Sd.mk (blk_below (bkA BK635.out) hb); replace HB := Sd.mk (below_step (bBl HB.out) hb); clear hb ho13; obtain ⟨Ao14, co14, eo14⟩ := Kd.R_slice HO648.out; subst eo14; obtain ⟨u15_0, u15_1, u15_2, o15_0, o15_1, o15_2⟩ := bc3 (w := w12) BK635.out))
 refine bodyPost_ret (results_cell_row rfl _ _ gb635 92 #[.slice Ao14 y646.length co14, .int .i64 10, .int .i64 40000000000] (0, 0) _ rfl (by (with_reducible repeat (first | refine blk_drewN ?_ _ | refine blk_drew ?_ | refine blk_alloc ?_ _)); refine blk_put (cs := #[.slice Ao14 y646.length co14, .int .i64 10, .int .i64 0]) ?_ 2 _ rfl; (with_reducible repeat (first | refine blk_drewN ?_ _ | refine blk_drew ?_ | refine blk_alloc ?_ _)); refine blk_put (cs := #[.slice Ao14 y646.length co14, .int .i64 0, .int .i64 0]) ?_ 1 _ rfl; (with_reducible repeat (first | refine blk_drewN ?_ _ | refine blk_drew ?_ | refine blk_alloc ?_ _)); refine blk_put (cs := #[.slice none 0 0, .int .i64 0, .int .i64 0]) ?_ 0 _ rfl; (with_reducible repeat (first | refine blk_drewN ?_ _ | refine blk_drew ?_ | refine blk_alloc ?_ _)); exact BK635.out) Try.underlying92 rfl (by kernel_rfl)) rfl ?_
 exact ⟨_, tE, by (with_reducible repeat (first | apply Kd.R_alloc | apply Kd.R_drewN | apply Kd.R_drew)); exact Kd.R_mono (Kd.R_far (p := ⟨gb635, 2, none⟩) (Kd.R_far (p := ⟨gb635, 1, none⟩) (Kd.R_far (p := ⟨gb635, 0, none⟩) (Kd.R_types HO648.out BK635.out (by decide)) (fun _ hk => hk.2) (.slice Ao14 y646.length co14)) (fun _ hk => hk.2) (.int .i64 10)) (fun _ hk => hk.2) (.int .i64 40000000000)) (fun _ hk => trivial), bBl HB.out⟩
end Go.Proofs.Ytkjkokgbhepmoaa.PB

namespace Go.Proofs.Ytkjkokgbhepmoaa.PB
open Go.RowKit Go.Proofs.YtkjkokgbhepmoaaW.PrintWords Go.Proofs.YtkjkokgbhepmoaaW.PrintLast Go.Proofs.YtkjkokgbhepmoaaW.PrintMore
variable {F : Fence} {n : Nat} {P : Program}
def roundPostP (P : Program) (l : Nat) (R : Ending → World → Prop) : Exit → Act → World → Prop
  | .normal, _, w => ∃ v w', (Instr.endRound l none).run P w = .ok v w' ∧ R (.returned v) w'
  | .panic ch, a, w => a.defers = [] ∧ R (.panicked ch) w
  | _, _, _ => False
theorem roundIn_of_wpInP {l : Nat} {f : FuncId} {tmps : Array Value} {assign body : Code} {w : World} {R : Ending → World → Prop} (hF : F.fn f) (hPf : (∃ ch w', R (.panicked ch) w') → ∃ fn, P.funcs[f]? = some fn)
    (h : assign.wpIn (F.inRound l) n P (Exit.then (fun a₁ w₁ => ∃ w₂, (Instr.beginRound l).run P w₁ = .ok () w₂ ∧ body.wpIn (F.inRound l) n P (roundPostP P l R) a₁ w₂) (fun _ _ _ => False))
      { tmps := tmps, defers := [] } w) :
    RoundIn F n P l f tmps assign body w R := by
  refine ⟨hF, fun c cs hr => ?_⟩
  let b : Frame := { (default : Frame) with fn := f, kind := .normal, roundOf := some l }
  have hb0 : Frame.round l f tmps assign body .normal = b.atR { tmps := tmps, defers := [] } [.code assign, .beginRound, .code body] := by
    simp [Frame.round, Frame.atR, b]
  have hr' : (F.inRound l).room ((c :: cs).length + 1 + n) := hr
  have hF' : (F.inRound l).fn b.fn := hF
  obtain ⟨e, a₁, w₁, hq, harr⟩ := h b [.beginRound, .code body] (c :: cs) rfl hF' hr'
  rw [← hb0] at harr
  cases e with
  | normal =>
    obtain ⟨w₂, hbr, hbody⟩ := hq
    have s1 : StepsIn (Machine.fenced P (F.inRound l)) P (lone (b.atR a₁ [.beginRound, .code body]) (c :: cs) w₁) (lone (b.atR a₁ [.code body]) (c :: cs) w₂) :=
      .one (fenced_calm (fr := b.atR a₁ [.beginRound, .code body]) hF' hr' rfl) (stepR_beginRound rfl hbr)
    obtain ⟨e₂, a₂, w₃, hq₂, harr₂⟩ := hbody b [] (c :: cs) rfl hF' hr'
    cases e₂ with
    | normal =>
      obtain ⟨v, w₄, hend, hR⟩ := hq₂
      exact ⟨.returned v, w₄, hR, (StepsIn.trans harr s1).trans (StepsIn.trans harr₂ (.one (fenced_calm (fr := b.atR a₂ []) hF' hr' rfl) (stepR_round_end rfl rfl hend)))⟩
    | panic chain =>
      obtain ⟨hd, hR⟩ := hq₂
      obtain ⟨todo, hs⟩ := harr₂
      have hleave : Frame.leaving P { b.atR a₂ todo with mode := .panicking chain } w₃ (.panicked chain) := ⟨rfl, hd, hPf ⟨_, _, hR⟩⟩
      have hl : (lone { b.atR a₂ todo with mode := .panicking chain } (c :: cs) w₃).fenced P (F.inRound l) := fenced_leaving (n := n) hF' hr' hleave
      exact ⟨.panicked chain, w₃, hR, (StepsIn.trans harr s1).trans (StepsIn.trans hs (.one hl (step_leave_panicked hleave)))⟩
    | ret => exact hq₂.elim
    | exit id => exact hq₂.elim
    | goto t => exact hq₂.elim
    | outgrown => exact hq₂.elim
  | exit id => exact hq.elim
  | goto t => exact hq.elim
  | ret => exact hq.elim
  | panic chain => exact hq.elim
  | outgrown => exact hq.elim
def bodyPostP (B : Nat) (I : Nat → World → Prop) (Ip : List PanicEntry → World → Prop) (k : Nat) (W : World) : Exit → Act → World → Prop
  | .normal, _, W' => W.heap.size ≤ W'.heap.size ∧ (∀ j, B ≤ j → j < B + 2 → W'.heap[j]? = W.heap[j]?) ∧ I k W'
  | .panic ch, a, W' => a.defers = [] ∧ W.heap.size ≤ W'.heap.size ∧ (∀ j, B ≤ j → j < B + 2 → W'.heap[j]? = W.heap[j]?) ∧ Ip ch W'
  | _, _, _ => False
theorem wpIn_rangeFuncP {g : Operand} {ps : Array Tmp} {assign body : Code} {Q : Exit → Act → World → Prop} {a : Act} {w : World} {N : Nat} {encs : Nat → Array Value}
    (hro : F.round = none) (h1 : 1 ≤ n) {gf : Nat} {lb : Array Value} (hg : a.eval g = .func (.func gf) #[] lb) (hFg : F.fn gf) (eg : ∀ args w, (callFunc gf args).run P w = .ok (.enter gf args) w)
    (hps : ∀ k, (encs k).size = ps.size) (I : Nat → World → Prop) (Ip : List PanicEntry → World → Prop)
    (hIa : ∀ k W o, I k W → I k (W.alloc o)) (hIp : ∀ k W o (r : Loop), W.heap[w.heap.size + 1]? = some (.loop r) → I k W → I k (W.putObj (w.heap.size + 1) o)) (h0 : I 0 w)
    (hseq : ∀ (l : Nat) (J : Nat → World → Prop) (Jp : List PanicEntry → World → Prop) (W : World), (∀ k W o, J k W → J k (W.alloc o)) → (∀ k W, J k W → I k W) →
      (∀ k W1, k < N → J k W1 → YieldAt F (n - 1 - 1) P l (encs k) W1 fun e W' => (e = .returned (.bool true) ∧ J (k + 1) W') ∨ (∃ ch, e = .panicked ch ∧ Jp ch W')) → J 0 W →
      CallsIn F (n - 1) P gf (#[.func (.yield l) #[] #[]] ++ lb) W fun e W' => (∃ v, e = .returned v ∧ J N W') ∨ (∃ ch, e = .panicked ch ∧ Jp ch W'))
    (hround : ∀ (l : Nat) (k : Nat) (W : World), w.heap.size + 1 < W.heap.size → (∃ r : Loop, W.heap[w.heap.size + 1]? = some (.loop r)) → k < N → I k W → ∀ (st : Act → World → Prop),
      (∀ a' W', W.heap.size ≤ W'.heap.size → (∀ j, w.heap.size ≤ j → j < w.heap.size + 2 → W'.heap[j]? = W.heap[j]?) →
        (∀ o, body.wpIn (F.inRound l) (n - 1 - 1) P (bodyPostP w.heap.size I Ip (k + 1) (W'.putObj (w.heap.size + 1) o)) a' (W'.putObj (w.heap.size + 1) o)) → st a' W') →
      assign.wpIn (F.inRound l) (n - 1 - 1) P (Exit.then st (fun _ _ _ => False)) { tmps := (ps.zip (encs k)).foldl (fun t (p, v) => t.setIfInBounds p v) a.tmps, defers := [] } W)
    (hfn : (∃ ch W, Ip ch W) → ∀ fn, F.fn fn → ∃ c, P.funcs[fn]? = some c)
    (hdone : ∀ W, I N W → W.heap[w.heap.size]? = some (.deferred (some [])) → Q .normal { a with defers := { target := .collected w.heap.size, args := #[] } :: a.defers } W)
    (hpanic : ∀ ch W, Ip ch W → W.heap[w.heap.size]? = some (.deferred (some [])) → Q (.panic ch) { a with defers := { target := .collected w.heap.size, args := #[] } :: a.defers } W) :
    (Code.rangeFunc g ps assign body).wpIn F n P Q a w := by
  refine wpIn_rangeFunc ?_
  intro fn hfn'
  rw [hro]
  obtain ⟨rec, hrec⟩ : ∃ rec : LoopState → Option Code → Loop, rec = fun st pe => { state := st, pending := pe, fn, tmps := a.tmps, params := ps, assign, body, defers := w.heap.size } := ⟨_, rfl⟩
  obtain ⟨W1, hW1⟩ : ∃ W1, (w.alloc (.deferred (some []))).alloc (.loop (rec .ready none)) = W1 := ⟨_, rfl⟩
  have hL1 : W1.heap[w.heap.size + 1]? = some (.loop (rec .ready none)) := by
    rw [← hW1]; have := World.alloc_heap_new (w.alloc (.deferred (some []))) (.loop (rec .ready none)); rwa [World.size_alloc] at this
  have hK1 : W1.heap[w.heap.size]? = some (.deferred (some [])) := by
    rw [← hW1]; exact (Below.heap_alloc _ _ _ (by simp)).trans (World.alloc_heap_new w _)
  have hI1 : I 0 W1 := by rw [← hW1]; exact hIa _ _ _ (hIa _ _ _ h0)
  refine ⟨w.heap.size + 1, [{ target := .collected w.heap.size, args := #[] }], W1, { target := .fn (.func gf) lb, args := #[.func (.yield (w.heap.size + 1)) #[] #[]] }, W1, gf,
    #[.func (.yield (w.heap.size + 1)) #[] #[]] ++ lb, W1, ?_, ?_, ?_, ?_, fun _ => h1, ?_⟩
  · rw [← hW1, hrec]; exact run_enterLoop_outer _ _ _ _ _
  · simp only [resolve, hg]
    simp [go_sem]
  · intro f' hf'; simp [Target.leads] at hf'; subst hf'; exact hFg
  · simp [invoke, go_sem, eg]
  · have hal : ∀ (W : World) (j : Nat) (x : Obj) (o : Obj), W.heap[j]? = some x → (W.alloc o).heap[j]? = some x := fun W j x o h =>
      (Below.heap_alloc W o j (Array.getElem?_eq_some_iff.1 h).1).trans h
    refine (hseq (w.heap.size + 1)
      (fun k W => I k W ∧ W.heap[w.heap.size + 1]? = some (.loop (rec .ready none)) ∧ W.heap[w.heap.size]? = some (.deferred (some [])))
      (fun ch W => Ip ch W ∧ W.heap[w.heap.size]? = some (.deferred (some [])))
      W1 (fun k W o h => ⟨hIa _ _ _ h.1, hal _ _ _ _ h.2.1, hal _ _ _ _ h.2.2⟩) (fun k W h => h.1) ?_ ⟨hI1, hL1, hK1⟩).mono ?_
    · rintro k W hk ⟨hi, hl, hd⟩
      have hlt : w.heap.size + 1 < W.heap.size := (Array.getElem?_eq_some_iff.1 hl).1
      have hy := run_yield (P := P) (args := encs k) hl (by rw [hrec]; exact hps k)
      rw [hrec] at hy
      refine ⟨fn, _, assign, body, hy, roundIn_of_wpInP hfn' (fun ⟨ch, W', h⟩ => hfn (by rcases h with ⟨h, _⟩ | ⟨ch', _, h, _⟩; cases h; exact ⟨_, _, h⟩) fn hfn') (hround _ k W hlt ⟨_, hl⟩ hk hi _ ?_)⟩
      clear hy
      intro a' Wa hsz hsame hb
      have hla : Wa.heap[w.heap.size + 1]? = some (.loop (rec .ready none)) := (hsame _ (by omega) (by omega)).trans hl
      have hda : Wa.heap[w.heap.size]? = some (.deferred (some [])) := (hsame _ (by omega) (by omega)).trans hd
      have hlta : w.heap.size + 1 < Wa.heap.size := by omega
      refine ⟨_, run_beginRound hla (by rw [hrec]), ?_⟩
      refine wpIn_mono (hb _) ?_
      have hl2 : (Wa.putObj (w.heap.size + 1) (.loop { rec .ready none with state := .busy })).heap[w.heap.size + 1]? = some (.loop { rec .ready none with state := .busy }) := World.putObj_heap_same hlta
      have hk2 : (Wa.putObj (w.heap.size + 1) (.loop { rec .ready none with state := .busy })).heap[w.heap.size]? = some (.deferred (some [])) := (World.putObj_heap_other (by omega)).trans hda
      rintro e a3 W3 hp
      cases e with
      | normal =>
        obtain ⟨hs3, hsame3, hi3⟩ := hp
        have hl3 := (hsame3 _ (by omega) (by omega)).trans hl2
        have hk3 := (hsame3 _ (by omega) (by omega)).trans hk2
        have hr := run_endRound (P := P) none hl3
        have hlt3 := (Array.getElem?_eq_some_iff.1 hl3).1
        rw [hrec] at hr ⊢
        exact ⟨_, _, hr, .inl ⟨rfl, hIp _ _ _ _ hl3 hi3, World.putObj_heap_same hlt3, (World.putObj_heap_other (by omega)).trans hk3⟩⟩
      | panic ch =>
        obtain ⟨hd3, hs3, hsame3, hi3⟩ := hp
        exact ⟨hd3, .inr ⟨ch, rfl, hi3, (hsame3 _ (by omega) (by omega)).trans hk2⟩⟩
      | ret => exact hp.elim
      | exit id => exact hp.elim
      | goto t => exact hp.elim
      | outgrown => exact hp.elim
    · rintro e W2 (⟨v, rfl, hi, hl, hk⟩ | ⟨ch, rfl, hi, hk⟩)
      · have hlt := (Array.getElem?_eq_some_iff.1 hl).1
        exact ⟨none, _, by have := run_endLoop (P := P) hl (by rw [hrec]; simp); rw [hrec] at this; exact this, hdone _ (hIp _ _ _ _ hl hi) ((World.putObj_heap_other (by omega)).trans hk)⟩
      · exact hpanic ch _ hi hk
end Go.Proofs.Ytkjkokgbhepmoaa.PB

namespace Go.Proofs.Ytkjkokgbhepmoaa.PB
open Go.RowKit Go.Shelf Go.Proofs.YtkjkokgbhepmoaaW.PrintWords Go.Proofs.YtkjkokgbhepmoaaW.PrintLast Go.Proofs.YtkjkokgbhepmoaaW.PrintMore
attribute [local go_sem] Oper.semAt_some
def ringV (x : S170) : Value := .agg #[.int .i64 x.f0.f0, .int .i64 x.f0.f1, .int .i64 x.f1.f0, .int .i64 x.f1.f1, .int .i64 x.f2.f0, .int .i64 x.f2.f1, .int .i64 x.f3.f0, .int .i64 x.f3.f1, .int .i64 x.f4.f0, .int .i64 x.f4.f1]
def ringC (x : S170) : Obj := .cells #[.int .i64 x.f0.f0, .int .i64 x.f0.f1, .int .i64 x.f1.f0, .int .i64 x.f1.f1, .int .i64 x.f2.f0, .int .i64 x.f2.f1, .int .i64 x.f3.f0, .int .i64 x.f3.f1, .int .i64 x.f4.f0, .int .i64 x.f4.f1] 170
theorem demand_okI (F : Fence) (n : Nat) (hF : F.fn 91) (hro : F.round = none) (e : Int) (w : World) : CallsIn F n Try.prog 91 #[.bool true, .int .i64 e] w fun en w' => en = .returned (.tuple #[]) ∧ w' = w := by
  refine callsIn_of_wp Try.func91 rfl hF ?_ hro
  simp only [Try.ntmps91, List.size_toArray, List.length_cons, List.length_nil, Nat.reduceAdd, Nat.reduceSub, Array.replicate_succ, Array.replicate_zero, List.push_toArray, List.append_toArray, List.nil_append, List.cons_append]
  gi_wp2
  go_end0
  exact ⟨rfl, rfl⟩
theorem demand_noI (F : Fence) (n : Nat) (hF : F.fn 91) (hro : F.round = none) (e : Int) (w : World) : CallsIn F n Try.prog 91 #[.bool false, .int .i64 e] w fun en w' => en = .panicked (failC e) ∧ w' = w := by
  refine callsIn_of_wp Try.func91 rfl hF ?_ hro
  simp only [Try.ntmps91, List.size_toArray, List.length_cons, List.length_nil, Nat.reduceAdd, Nat.reduceSub, Array.replicate_succ, Array.replicate_zero, List.push_toArray, List.append_toArray, List.nil_append, List.cons_append]
  gi_wp2
  simp [bodyPost, failC, failV]
theorem withinI (F : Fence) (n : Nat) (hF : F.fn 92) (hro : F.round = none) (x lo hi : Int) (w : World) : CallsIn F n Try.prog 92 #[.int .i64 x, .int .i64 lo, .int .i64 hi] w fun e w' => e = .returned (.bool (inB x lo hi)) ∧ w' = w := by
  refine callsIn_of_wp Try.func92 rfl hF ?_ hro
  simp only [Try.ntmps92, List.size_toArray, List.length_cons, List.length_nil, Nat.reduceAdd, Nat.reduceSub, Array.replicate_succ, Array.replicate_zero, List.push_toArray, List.append_toArray, List.nil_append, List.cons_append]
  cases h : decide (x ≥ lo) with
  | true =>
    gi_wp2
    go_ret
    simp at h
    exact ⟨by (simp [inB, h]) <;> (intros; omega), rfl⟩
  | false =>
    gi_wp2
    go_ret
    simp at h
    exact ⟨by (simp [inB, h]) <;> (intros; omega), rfl⟩
theorem spanI (F : Fence) (n : Nat) (hF : F.fn 141) (hro : F.round = none) (a b lo hi : Int) (w : World) : CallsIn F n Try.prog 141 #[.agg #[.int .i64 a, .int .i64 b], .int .i64 lo, .int .i64 hi] w fun e w' => e = .returned (.bool (spanB a b lo hi)) ∧ w' = w.alloc (.cells #[.int .i64 a, .int .i64 b] 27) := by
  refine callsIn_of_wp Try.func141 rfl hF ?_ hro
  simp only [Try.ntmps141, List.size_toArray, List.length_cons, List.length_nil, Nat.reduceAdd, Nat.reduceSub, Array.replicate_succ, Array.replicate_zero, List.push_toArray, List.append_toArray, List.nil_append, List.cons_append]
  have hb := blk_new w (.cells #[.int .i64 a, .int .i64 b] 27)
  have hx0 : (w.alloc (.cells #[.int .i64 a, .int .i64 b] 27)).cell? ⟨w.heap.size, 0, none⟩ = some (.int .i64 a) := (blk_cell hb 0).trans rfl
  have hx1 : (w.alloc (.cells #[.int .i64 a, .int .i64 b] 27)).cell? ⟨w.heap.size, 0 + 1, none⟩ = some (.int .i64 b) := (blk_cell hb 1).trans rfl
  cases h : decide (a ≥ lo) with
  | true =>
    cases h2 : decide (a ≤ b) with
    | true =>
      gi_wp2
      go_ret
      simp at h h2
      exact ⟨by (simp [spanB, h, h2]) <;> (intros; omega), rfl⟩
    | false =>
      gi_wp2
      go_ret
      simp at h h2
      exact ⟨by (simp [spanB, h, h2]) <;> (intros; omega), rfl⟩
  | false =>
    gi_wp2
    go_ret
    simp at h
    exact ⟨by (simp [spanB, h]) <;> (intros; omega), rfl⟩
set_option maxHeartbeats 4000000 in
set_option maxRecDepth 100000 in
theorem rings_callsI (F : Fence) (n : Nat) (hF : F.fn 142) (hro : F.round = none) (v1 v2 v3 : Value) (w : World) :
    CallsIn F n Try.prog 142 #[.agg #[v1, v2, v3]] w fun e w' => e = .returned (.func (.func 159) #[] #[.pointer (some ⟨w.heap.size, 0, none⟩)]) ∧ w' = w.alloc (.cells #[v1, v2, v3] 92) := by
  have hmf := run_makeFunc_
  refine callsIn_of_wp Try.func142 rfl hF ?_ hro
  simp only [Try.ntmps142, List.size_toArray, List.length_cons, List.length_nil, Nat.reduceAdd, Nat.reduceSub, Array.replicate_succ, Array.replicate_zero, List.push_toArray, List.append_toArray, List.nil_append, List.cons_append]
  gi_wp2
  go_ret
  exact ⟨rfl, rfl⟩
set_option maxHeartbeats 4000000 in
set_option maxRecDepth 100000 in
theorem rings1_in (F : Fence) (n : Nat) (hF : F.fn 159) (hro : F.round = none) (hn : 1 ≤ n) (l Bs : Nat) (A : Option Addr) (cap : Nat) (v2 v3 : Value) (zs : List S170) (J : Nat → World → Prop) (Jp : List PanicEntry → World → Prop) (W : World)
    (hBs : W.heap[Bs]? = some (.cells #[.slice A zs.length cap, v2, v3] 92 (0, 0)))
    (hJa : ∀ k W o, J k W → J k (W.alloc o)) (hJC : ∀ k W, J k W → Kd.C k170 W A zs.length zs)
    (hY : ∀ k W1, k < zs.length → J k W1 → YieldAt F (n - 1) Try.prog l #[.int .i64 k, ringV (rd_T170 zs k)] W1 fun e W' => (e = .returned (.bool true) ∧ J (k + 1) W') ∨ (∃ ch, e = .panicked ch ∧ Jp ch W'))
    (h0 : J 0 W) :
    CallsIn F n Try.prog 159 #[.func (.yield l) #[] #[], .pointer (some ⟨Bs, 0, none⟩)] W fun e W' => (∃ v, e = .returned v ∧ J zs.length W') ∨ (∃ ch, e = .panicked ch ∧ Jp ch W') := by
  have hc0 : W.cell? ⟨Bs, 0, none⟩ = some (.slice A zs.length cap) := (blk_cell hBs 0).trans rfl
  refine callsIn_of_wp Try.func159 rfl hF ?_ hro
  simp only [Try.ntmps159, List.size_toArray, List.length_cons, List.length_nil, Nat.reduceAdd, Nat.reduceSub, Array.replicate_succ, Array.replicate_zero, List.push_toArray, List.append_toArray, List.nil_append, List.cons_append]
  gi_wp2
  gi_loopw [8] (fun i wr => ∃ k : Nat, k ≤ zs.length ∧ i = .int .i64 k ∧ J k wr) (fun i _ => zs.length - (intOf i).toNat)
  case atStart => exact ⟨0, Nat.zero_le _, rfl, h0⟩
  case round =>
    obtain ⟨k, hk, rfl, hJs⟩ := hrel
    by_cases hlt : k < zs.length
    · obtain ⟨ad, rfl, g0, g1, g2, g3, g4, g5, g6, g7, g8, g9⟩ := at_T170 (hJC k wr hJs) k (by omega) (by omega)
      have hmax := Kd.C_max (hJC k wr hJs)
      have hwr : wrap64 ((k : Int) + 1) = (k : Int) + 1 := by unfold wrap64; omega
      simp only [Int.toNat_natCast] at g0 g1 g2 g3 g4 g5 g6 g7 g8 g9
      obtain ⟨fn, tmps, assign, body, hy, hR⟩ := hY _ (wr.alloc (ringC (rd_T170 zs k))) hlt (hJa _ _ _ hJs)
      unfold ringC ringV at hy
      gi_wp2
      refine hR.mono ?_
      rintro e W3 (⟨rfl, hJ3⟩ | ⟨ch, rfl, hJp⟩)
      · gi_wp2
        go_roundw
        case rel => exact ⟨k + 1, by omega, by simp, hJ3⟩
        case measure => simp [intOf]; omega
      · gi_wp2
        exact ⟨rfl, .inr ⟨ch, rfl, hJp⟩⟩
    · obtain rfl : k = zs.length := by omega
      gi_wp2
      go_end0
      exact .inl ⟨_, rfl, hJs⟩
end Go.Proofs.Ytkjkokgbhepmoaa.PB

namespace Go.Proofs.Ytkjkokgbhepmoaa.PB
open Go.RowKit Go.Shelf Go.Proofs.YtkjkokgbhepmoaaW.PrintWords Go.Proofs.YtkjkokgbhepmoaaW.PrintLast Go.Proofs.YtkjkokgbhepmoaaW.PrintMore
attribute [local go_sem] Oper.semAt_some
def ringB (x : S170) : Bool := spanB x.f0.f0 x.f0.f1 1 1000 && (spanB x.f1.f0 x.f1.f1 1 5000 && (spanB x.f2.f0 x.f2.f1 0 1000 && (spanB x.f3.f0 x.f3.f1 0 10000 && spanB x.f4.f0 x.f4.f1 0 10000)))
def sumLo (zs : List S170) : Nat → Int
  | 0 => 0
  | k + 1 => sumLo zs k + (rd_T170 zs (k : Int)).f2.f0
def sumHi (zs : List S170) : Nat → Int
  | 0 => 0
  | k + 1 => sumHi zs k + (rd_T170 zs (k : Int)).f2.f1
def ringsOk (zs : List S170) : Nat → Bool
  | 0 => true
  | k + 1 => ringsOk zs k && ringB (rd_T170 zs (k : Int))
theorem ringB_f2 {x : S170} (h : ringB x = true) : 0 ≤ x.f2.f0 ∧ x.f2.f0 ≤ x.f2.f1 ∧ x.f2.f1 ≤ 1000 := by
  simp only [ringB, spanB, Bool.and_eq_true, decide_eq_true_eq] at h
  omega
theorem sum_bounds (zs : List S170) : ∀ k, ringsOk zs k = true → 0 ≤ sumLo zs k ∧ sumLo zs k ≤ 1000 * k ∧ 0 ≤ sumHi zs k ∧ sumHi zs k ≤ 1000 * k
  | 0, _ => by simp [sumLo, sumHi]
  | k + 1, h => by
    simp only [ringsOk, Bool.and_eq_true] at h
    have ih := sum_bounds zs k h.1
    have hb := ringB_f2 h.2
    simp only [sumLo, sumHi]
    omega
theorem ringsOk_mono (zs : List S170) : ∀ k j, ringsOk zs k = false → k ≤ j → ringsOk zs j = false
  | k, 0, h, hj => by obtain rfl : k = 0 := by omega
                      exact h
  | k, j + 1, h, hj => by
    by_cases e : k = j + 1
    · subst e; exact h
    · simp [ringsOk, ringsOk_mono zs k j h (by omega)]
def bottleV (zs : List S170) (f1 f2 : Int) : Int := if zs.length > 24 then 3 else if zs.length = 0 then 1 else if ringsOk zs zs.length = true then (if sumLo zs zs.length ≤ 1000 ∧ sumHi zs zs.length ≥ 1000 then (if inB f1 1 1000 = true ∧ inB f2 0 1000000000000000 = true then 0 else 1) else 12) else 1
theorem blk_four' (w : World) (o1 o2 o3 o4 : Obj) : ((((w.alloc o1).alloc o2).alloc o3).alloc o4).heap[w.heap.size]? = some o1 ∧ ((((w.alloc o1).alloc o2).alloc o3).alloc o4).heap[w.heap.size + 1]? = some o2 ∧ ((((w.alloc o1).alloc o2).alloc o3).alloc o4).heap[w.heap.size + 1 + 1]? = some o3 ∧ ((((w.alloc o1).alloc o2).alloc o3).alloc o4).heap[w.heap.size + 1 + 1 + 1]? = some o4 ∧ Below w.heap.size w ((((w.alloc o1).alloc o2).alloc o3).alloc o4) ∧ ((((w.alloc o1).alloc o2).alloc o3).alloc o4).heap.size = w.heap.size + 1 + 1 + 1 + 1 :=
  ⟨blk_alloc (blk_three w o1 o2 o3).1 o4, blk_alloc (blk_three w o1 o2 o3).2.1 o4, blk_alloc (blk_three w o1 o2 o3).2.2.1 o4, by simpa using blk_new (((w.alloc o1).alloc o2).alloc o3) o4, below_alloc (blk_three w o1 o2 o3).2.2.2.1 o4, by simp⟩
def Fc : Fence := { fn := fun g => g = 140 ∨ g = 91 ∨ g = 141 ∨ g = 142 ∨ g = 159 ∨ g = 92 }
theorem putObj_heap_keep {W : World} {r k : Nat} {o x : Obj} (hne : k ≠ r) (h : W.heap[k]? = some x) : (W.putObj r o).heap[k]? = some x := (World.putObj_heap_other hne).trans h
theorem below_putObj {w W : World} {r : Nat} {o : Obj} (h : Below w.heap.size w W) (hr : w.heap.size ≤ r) (hlt : r < W.heap.size) : Below w.heap.size w (W.putObj r o) :=
  h.grown (grownBy_putObj' W r o) (by have := h.size; omega) (fun k e => by cases e; exact hr)
structure CkI (A : Option Addr) (c : Nat) (zs : List S170) (f1 f2 : Int) (w : World) (k : Nat) (W : World) : Prop where
  ok : ringsOk zs k = true
  bx : W.heap[w.heap.size]? = some (.cells #[.slice A zs.length c, .int .i64 f1, .int .i64 f2] 92 (0, 0))
  lo : W.heap[w.heap.size + 1]? = some (.cells #[.int .i64 (sumLo zs k)] 3 (0, 0))
  hi : W.heap[w.heap.size + 1 + 1]? = some (.cells #[.int .i64 (sumHi zs k)] 3 (0, 0))
  rb : W.heap[w.heap.size + 1 + 1 + 1]? = some (.cells #[.slice A zs.length c, .int .i64 f1, .int .i64 f2] 92 (0, 0))
  be : Below w.heap.size w W
theorem CkI.alloc {A : Option Addr} {c : Nat} {zs : List S170} {f1 f2 : Int} {w : World} {k : Nat} {W : World} (h : CkI A c zs f1 f2 w k W) (o : Obj) : CkI A c zs f1 f2 w k (W.alloc o) :=
  ⟨h.ok, blk_alloc h.bx o, blk_alloc h.lo o, blk_alloc h.hi o, blk_alloc h.rb o, below_alloc h.be o⟩
theorem CkI.put {A : Option Addr} {c : Nat} {zs : List S170} {f1 f2 : Int} {w : World} {k : Nat} {W : World} (h : CkI A c zs f1 f2 w k W) {r : Nat} (o : Obj) (hr : w.heap.size + 4 ≤ r) (hlt : r < W.heap.size) : CkI A c zs f1 f2 w k (W.putObj r o) :=
  ⟨h.ok, putObj_heap_keep (by omega) h.bx, putObj_heap_keep (by omega) h.lo, putObj_heap_keep (by omega) h.hi, putObj_heap_keep (by omega) h.rb, below_putObj h.be (by omega) hlt⟩
def CkP (zs : List S170) (w : World) (ch : List PanicEntry) (W : World) : Prop := ch = failC 1 ∧ ringsOk zs zs.length = false ∧ Below w.heap.size w W
set_option maxHeartbeats 4000000 in
set_option maxRecDepth 100000 in
theorem bottle_callsI (F : Fence) (n : Nat) (h140 : F.fn 140) (h91 : F.fn 91) (h141 : F.fn 141) (h142 : F.fn 142) (h159 : F.fn 159) (h92 : F.fn 92) (hro : F.round = none) (hfn : ∀ g, F.fn g → ∃ c, Try.prog.funcs[g]? = some c) (hn : 9 ≤ n) (A : Option Addr) (c : Nat) (zs : List S170) (f1 f2 : Int) (w : World) (hr : Kd.C k170 w A zs.length zs) :
    CallsIn F n Try.prog 140 #[.agg #[.slice A zs.length c, .int .i64 f1, .int .i64 f2]] w fun en w' => en = endF (bottleV zs f1 f2) ∧ Below w.heap.size w w' := by
  have hb0 := below_alloc (Below.refl w.heap.size w) (.cells #[.slice A zs.length c, .int .i64 f1, .int .i64 f2] 92)
  have BX := Sd.mk (blk_new w (.cells #[.slice A zs.length c, .int .i64 f1, .int .i64 f2] 92))
  have hx0 : (w.alloc (.cells #[.slice A zs.length c, .int .i64 f1, .int .i64 f2] 92)).cell? ⟨w.heap.size, 0, none⟩ = some (.slice A zs.length c) := (blk_cell BX.out 0).trans rfl
  have HB0 := Sd.mk hb0
  have HR := Sd.mk hr
  clear hr hb0
  have hn1 : 1 ≤ n := by omega
  refine callsIn_of_wp_marks Try.func140 rfl h140 ?_ hro
  simp only [Try.ntmps140, List.size_toArray, List.length_cons, List.length_nil, Nat.reduceAdd, Nat.reduceSub, Array.replicate_succ, Array.replicate_zero, List.push_toArray, List.append_toArray, List.nil_append, List.cons_append]
  by_cases h24 : zs.length > 24
  · have hd : decide ((zs.length : Int) ≤ 24) = false := decide_eq_false (by omega)
    gi_wp2_with (first | (gi_at_call 91; (with_reducible refine (demand_noI F _ h91 hro _ _).mono ?_); rintro e w' ⟨rfl, rfl⟩) | (gi_at_call 91; (with_reducible refine (demand_okI F _ h91 hro _ _).mono ?_); rintro e w' ⟨rfl, rfl⟩))
    exact ⟨by rw [bottleV, if_pos h24]; rfl, HB0.out⟩
  · by_cases h0 : zs.length = 0
    · have hd : decide ((zs.length : Int) ≤ 24) = true := decide_eq_true (by omega)
      have hd2 : decide ((zs.length : Int) > 0) = false := decide_eq_false (by omega)
      have hd3 : decide (0 < zs.length) = false := decide_eq_false (by omega)
      have HV : Sd (bottleV zs f1 f2 = 1) := ⟨by rw [bottleV, if_neg h24, if_pos h0]⟩
      clear h0
      gi_wp2_with (first | (gi_at_call 91; (with_reducible refine (demand_noI F _ h91 hro _ _).mono ?_); rintro e w' ⟨rfl, rfl⟩) | (gi_at_call 91; (with_reducible refine (demand_okI F _ h91 hro _ _).mono ?_); rintro e w' ⟨rfl, rfl⟩))
      exact ⟨by rw [HV.out]; rfl, HB0.out⟩
    · have hd : decide ((zs.length : Int) ≤ 24) = true := decide_eq_true (by omega)
      have hd2 : decide ((zs.length : Int) > 0) = true := decide_eq_true (by omega)
      have hd3 : decide (0 < zs.length) = true := decide_eq_true (by omega)
      have HV : Sd (bottleV zs f1 f2 = if ringsOk zs zs.length = true then (if sumLo zs zs.length ≤ 1000 ∧ sumHi zs zs.length ≥ 1000 then (if inB f1 1 1000 = true ∧ inB f2 0 1000000000000000 = true then 0 else 1) else 12) else 1) := ⟨by rw [bottleV, if_neg h24, if_neg h0]⟩
      have HN : Sd (zs.length ≤ 24) := ⟨by omega⟩
      clear h24 h0
      have hx1 : (w.alloc (.cells #[.slice A zs.length c, .int .i64 f1, .int .i64 f2] 92)).cell? ⟨w.heap.size, 0 + 1, none⟩ = some (.int .i64 f1) := (blk_cell BX.out 1).trans rfl
      have hx2 : (w.alloc (.cells #[.slice A zs.length c, .int .i64 f1, .int .i64 f2] 92)).cell? ⟨w.heap.size, 0 + 2, none⟩ = some (.int .i64 f2) := (blk_cell BX.out 2).trans rfl
      gi_wp2_with (first | (gi_at_call 91; (with_reducible refine (demand_noI F _ h91 hro _ _).mono ?_); rintro e w' ⟨rfl, rfl⟩) | (gi_at_call 91; (with_reducible refine (demand_okI F _ h91 hro _ _).mono ?_); rintro e w' ⟨rfl, rfl⟩) | (gi_at_call 142; (with_reducible refine (rings_callsI F _ h142 hro _ _ _ _).mono ?_); rintro e w' ⟨rfl, rfl⟩))
      clear hd hd2 hd3 hx0 hx1 hx2 BX HB0
      obtain ⟨b1, b2, b3, b4, hb, hsz⟩ := blk_four' w (.cells #[.slice A zs.length c, .int .i64 f1, .int .i64 f2] 92) (.cells #[.int .i64 0] 3) (.cells #[.int .i64 0] 3) (.cells #[.slice A zs.length c, .int .i64 f1, .int .i64 f2] 92)
      generalize (((w.alloc (.cells #[.slice A zs.length c, .int .i64 f1, .int .i64 f2] 92)).alloc (.cells #[.int .i64 0] 3)).alloc (.cells #[.int .i64 0] 3)).alloc (.cells #[.slice A zs.length c, .int .i64 f1, .int .i64 f2] 92) = W0 at b1 b2 b3 b4 hb hsz ⊢
      refine wpIn_rangeFuncP (N := zs.length) (encs := fun k => #[.int .i64 (k : Int), ringV (rd_T170 zs k)]) hro (by omega) (gf := 159) (lb := #[.pointer (some ⟨w.heap.size + 1 + 1 + 1, 0, none⟩)]) rfl h159 (enters_of Try.func159 (by kernel_rfl) rfl) (fun _ => rfl)
        (CkI A c zs f1 f2 w) (CkP zs w) (fun k W o h => h.alloc o) (fun k W o r hl h => h.put o (by omega) (Array.getElem?_eq_some_iff.1 hl).1) ⟨rfl, b1, b2, b3, b4, hb⟩ ?seq ?round ?fn ?done ?panic
      case seq =>
        intro l J Jp W hJa hJI hY h0
        exact rings1_in F (n - 1) h159 hro (by omega) l (w.heap.size + 1 + 1 + 1) A c _ _ zs J Jp W (hJI _ _ h0).rb hJa (fun k W' h => Kd.C_below HR.out (hJI _ _ h).be) hY h0
      case round =>
        clear b1 b2 b3 b4 hb
        intro l k W hW _ hk hI st hst
        generalize hx : rd_T170 zs (k : Int) = x
        have HI := Sd.mk hI
        have HW := Sd.mk hW
        have HK := Sd.mk hk
        have HX := Sd.mk hx
        have HS := Sd.mk hsz
        clear hI hW hk hx hsz
        unfold ringV
        simp only [List.zip_cons_cons, List.zip_nil_right, List.foldl_cons, List.foldl_nil]
        gi_wp2
        refine hst _ _ (by simp) (fun j h1 h2 => Below.heap_alloc W _ j (by have := HW.out; omega)) ?_
        clear hst
        intro o
        have hn2 : 1 ≤ n - 1 - 1 := by omega
        have CK : Sd (CkI A c zs f1 f2 w k ((W.alloc (.cells #[.int .i64 x.f0.f0, .int .i64 x.f0.f1, .int .i64 x.f1.f0, .int .i64 x.f1.f1, .int .i64 x.f2.f0, .int .i64 x.f2.f1, .int .i64 x.f3.f0, .int .i64 x.f3.f1, .int .i64 x.f4.f0, .int .i64 x.f4.f1] 170)).putObj (W0.heap.size + 1) o)) := ⟨(HI.out.alloc _).put o (by have := HS.out; omega) (by have := HW.out; simp; omega)⟩
        have RB : Sd (((W.alloc (.cells #[.int .i64 x.f0.f0, .int .i64 x.f0.f1, .int .i64 x.f1.f0, .int .i64 x.f1.f1, .int .i64 x.f2.f0, .int .i64 x.f2.f1, .int .i64 x.f3.f0, .int .i64 x.f3.f1, .int .i64 x.f4.f0, .int .i64 x.f4.f1] 170)).putObj (W0.heap.size + 1) o).heap[W.heap.size]? = some (.cells #[.int .i64 x.f0.f0, .int .i64 x.f0.f1, .int .i64 x.f1.f0, .int .i64 x.f1.f1, .int .i64 x.f2.f0, .int .i64 x.f2.f1, .int .i64 x.f3.f0, .int .i64 x.f3.f1, .int .i64 x.f4.f0, .int .i64 x.f4.f1] 170 (0, 0))) := ⟨putObj_heap_keep (by have := HW.out; omega) (blk_new _ _)⟩
        have WS : Sd (((W.alloc (.cells #[.int .i64 x.f0.f0, .int .i64 x.f0.f1, .int .i64 x.f1.f0, .int .i64 x.f1.f1, .int .i64 x.f2.f0, .int .i64 x.f2.f1, .int .i64 x.f3.f0, .int .i64 x.f3.f1, .int .i64 x.f4.f0, .int .i64 x.f4.f1] 170)).putObj (W0.heap.size + 1) o).heap.size = W.heap.size + 1) := ⟨by simp⟩
        generalize (W.alloc (.cells #[.int .i64 x.f0.f0, .int .i64 x.f0.f1, .int .i64 x.f1.f0, .int .i64 x.f1.f1, .int .i64 x.f2.f0, .int .i64 x.f2.f1, .int .i64 x.f3.f0, .int .i64 x.f3.f1, .int .i64 x.f4.f0, .int .i64 x.f4.f1] 170)).putObj (W0.heap.size + 1) o = Wb at CK RB WS ⊢
        have BW := Sd.mk (Below.refl Wb.heap.size Wb)
        have g0 : Wb.cell? ⟨W.heap.size, 0, none⟩ = some (.int .i64 x.f0.f0) := (blk_cell RB.out 0).trans rfl
        have g1 : Wb.cell? ⟨W.heap.size, 0 + 1, none⟩ = some (.int .i64 x.f0.f1) := (blk_cell RB.out 1).trans rfl
        have g2 : Wb.cell? ⟨W.heap.size, 0 + 2, none⟩ = some (.int .i64 x.f1.f0) := (blk_cell RB.out 2).trans rfl
        have g3 : Wb.cell? ⟨W.heap.size, 0 + 3, none⟩ = some (.int .i64 x.f1.f1) := (blk_cell RB.out 3).trans rfl
        have g4 : Wb.cell? ⟨W.heap.size, 0 + 4, none⟩ = some (.int .i64 x.f2.f0) := (blk_cell RB.out 4).trans rfl
        have g5 : Wb.cell? ⟨W.heap.size, 0 + 5, none⟩ = some (.int .i64 x.f2.f1) := (blk_cell RB.out 5).trans rfl
        have g6 : Wb.cell? ⟨W.heap.size, 0 + 6, none⟩ = some (.int .i64 x.f3.f0) := (blk_cell RB.out 6).trans rfl
        have g7 : Wb.cell? ⟨W.heap.size, 0 + 7, none⟩ = some (.int .i64 x.f3.f1) := (blk_cell RB.out 7).trans rfl
        have g8 : Wb.cell? ⟨W.heap.size, 0 + 8, none⟩ = some (.int .i64 x.f4.f0) := (blk_cell RB.out 8).trans rfl
        have g9 : Wb.cell? ⟨W.heap.size, 0 + 9, none⟩ = some (.int .i64 x.f4.f1) := (blk_cell RB.out 9).trans rfl
        cases s0 : spanB x.f0.f0 x.f0.f1 1 1000 with
        | false =>
          have HF : Sd (ringB x = false) := ⟨by simp only [ringB, s0, Bool.and_false, Bool.false_and, Bool.and_true, Bool.true_and]⟩
          gi_wp2_with (first | (gi_at_call 141; go_loud (refine (CallsIn.inRound l (spanI F _ h141 hro _ _ _ _ _)).mono ?_; (first | rw [s0] | rw [s1] | rw [s2] | rw [s3] | rw [s4]); rintro e wq ⟨rfl, hwq⟩; replace RB := Sd.mk (show wq.heap[W.heap.size]? = _ from by subst hwq; exact blk_alloc RB.out _); replace BW := Sd.mk (show Below Wb.heap.size Wb wq from by subst hwq; exact below_alloc BW.out _); clear hwq; have g0 : wq.cell? ⟨W.heap.size, 0, none⟩ = some (.int .i64 x.f0.f0) := (blk_cell RB.out 0).trans rfl; have g1 : wq.cell? ⟨W.heap.size, 0 + 1, none⟩ = some (.int .i64 x.f0.f1) := (blk_cell RB.out 1).trans rfl; have g2 : wq.cell? ⟨W.heap.size, 0 + 2, none⟩ = some (.int .i64 x.f1.f0) := (blk_cell RB.out 2).trans rfl; have g3 : wq.cell? ⟨W.heap.size, 0 + 3, none⟩ = some (.int .i64 x.f1.f1) := (blk_cell RB.out 3).trans rfl; have g4 : wq.cell? ⟨W.heap.size, 0 + 4, none⟩ = some (.int .i64 x.f2.f0) := (blk_cell RB.out 4).trans rfl; have g5 : wq.cell? ⟨W.heap.size, 0 + 5, none⟩ = some (.int .i64 x.f2.f1) := (blk_cell RB.out 5).trans rfl; have g6 : wq.cell? ⟨W.heap.size, 0 + 6, none⟩ = some (.int .i64 x.f3.f0) := (blk_cell RB.out 6).trans rfl; have g7 : wq.cell? ⟨W.heap.size, 0 + 7, none⟩ = some (.int .i64 x.f3.f1) := (blk_cell RB.out 7).trans rfl; have g8 : wq.cell? ⟨W.heap.size, 0 + 8, none⟩ = some (.int .i64 x.f4.f0) := (blk_cell RB.out 8).trans rfl; have g9 : wq.cell? ⟨W.heap.size, 0 + 9, none⟩ = some (.int .i64 x.f4.f1) := (blk_cell RB.out 9).trans rfl; have gl : wq.cell? ⟨w.heap.size + 1, 0, none⟩ = some (.int .i64 (sumLo zs k)) := (blk_cell (blk_below CK.out.lo BW.out) 0).trans rfl; have gl' := blk_frozen (blk_below CK.out.lo BW.out) 0; have gh : (wq.setCell ⟨w.heap.size + 1, 0, none⟩ (.int .i64 (wrap64 (sumLo zs k + x.f2.f0)))).cell? ⟨w.heap.size + 1 + 1, 0, none⟩ = some (.int .i64 (sumHi zs k)) := (blk_cell (blk_far (blk_below CK.out.hi BW.out) (p := ⟨w.heap.size + 1, 0, none⟩) (by simp) _) 0).trans rfl; have gh' : (wq.setCell ⟨w.heap.size + 1, 0, none⟩ (.int .i64 (wrap64 (sumLo zs k + x.f2.f0)))).frozen? ⟨w.heap.size + 1 + 1, 0, none⟩ = false := blk_frozen (blk_far (blk_below CK.out.hi BW.out) (p := ⟨w.heap.size + 1, 0, none⟩) (by simp) _) 0; have gr : (wq.setCell ⟨w.heap.size + 1, 0, none⟩ (.int .i64 (wrap64 (sumLo zs k + x.f2.f0)))).cell? ⟨W.heap.size, 5, none⟩ = some (.int .i64 x.f2.f1) := (blk_cell (blk_far RB.out (p := ⟨w.heap.size + 1, 0, none⟩) (by have := HW.out; have := HS.out; simp; omega) _) 5).trans rfl)) | (gi_at_call 91; (with_reducible refine (CallsIn.inRound l (demand_noI F _ h91 hro _ _)).mono ?_); rintro e w' ⟨rfl, rfl⟩) | (gi_at_call 91; (with_reducible refine (CallsIn.inRound l (demand_okI F _ h91 hro _ _)).mono ?_); rintro e w' ⟨rfl, rfl⟩))
          exact ⟨rfl, BW.out.size, fun j h1 h2 => BW.out.block j (by have := HW.out; have := WS.out; omega), rfl, ringsOk_mono zs (k + 1) _ (by simp [ringsOk, HX.out, HF.out]) HK.out, below_then CK.out.be CK.out.be.size BW.out⟩
        | true =>
          cases s1 : spanB x.f1.f0 x.f1.f1 1 5000 with
          | false =>
            have HF : Sd (ringB x = false) := ⟨by simp only [ringB, s0, s1, Bool.and_false, Bool.false_and, Bool.and_true, Bool.true_and]⟩
            gi_wp2_with (first | (gi_at_call 141; go_loud (refine (CallsIn.inRound l (spanI F _ h141 hro _ _ _ _ _)).mono ?_; (first | rw [s0] | rw [s1] | rw [s2] | rw [s3] | rw [s4]); rintro e wq ⟨rfl, hwq⟩; replace RB := Sd.mk (show wq.heap[W.heap.size]? = _ from by subst hwq; exact blk_alloc RB.out _); replace BW := Sd.mk (show Below Wb.heap.size Wb wq from by subst hwq; exact below_alloc BW.out _); clear hwq; have g0 : wq.cell? ⟨W.heap.size, 0, none⟩ = some (.int .i64 x.f0.f0) := (blk_cell RB.out 0).trans rfl; have g1 : wq.cell? ⟨W.heap.size, 0 + 1, none⟩ = some (.int .i64 x.f0.f1) := (blk_cell RB.out 1).trans rfl; have g2 : wq.cell? ⟨W.heap.size, 0 + 2, none⟩ = some (.int .i64 x.f1.f0) := (blk_cell RB.out 2).trans rfl; have g3 : wq.cell? ⟨W.heap.size, 0 + 3, none⟩ = some (.int .i64 x.f1.f1) := (blk_cell RB.out 3).trans rfl; have g4 : wq.cell? ⟨W.heap.size, 0 + 4, none⟩ = some (.int .i64 x.f2.f0) := (blk_cell RB.out 4).trans rfl; have g5 : wq.cell? ⟨W.heap.size, 0 + 5, none⟩ = some (.int .i64 x.f2.f1) := (blk_cell RB.out 5).trans rfl; have g6 : wq.cell? ⟨W.heap.size, 0 + 6, none⟩ = some (.int .i64 x.f3.f0) := (blk_cell RB.out 6).trans rfl; have g7 : wq.cell? ⟨W.heap.size, 0 + 7, none⟩ = some (.int .i64 x.f3.f1) := (blk_cell RB.out 7).trans rfl; have g8 : wq.cell? ⟨W.heap.size, 0 + 8, none⟩ = some (.int .i64 x.f4.f0) := (blk_cell RB.out 8).trans rfl; have g9 : wq.cell? ⟨W.heap.size, 0 + 9, none⟩ = some (.int .i64 x.f4.f1) := (blk_cell RB.out 9).trans rfl; have gl : wq.cell? ⟨w.heap.size + 1, 0, none⟩ = some (.int .i64 (sumLo zs k)) := (blk_cell (blk_below CK.out.lo BW.out) 0).trans rfl; have gl' := blk_frozen (blk_below CK.out.lo BW.out) 0; have gh : (wq.setCell ⟨w.heap.size + 1, 0, none⟩ (.int .i64 (wrap64 (sumLo zs k + x.f2.f0)))).cell? ⟨w.heap.size + 1 + 1, 0, none⟩ = some (.int .i64 (sumHi zs k)) := (blk_cell (blk_far (blk_below CK.out.hi BW.out) (p := ⟨w.heap.size + 1, 0, none⟩) (by simp) _) 0).trans rfl; have gh' : (wq.setCell ⟨w.heap.size + 1, 0, none⟩ (.int .i64 (wrap64 (sumLo zs k + x.f2.f0)))).frozen? ⟨w.heap.size + 1 + 1, 0, none⟩ = false := blk_frozen (blk_far (blk_below CK.out.hi BW.out) (p := ⟨w.heap.size + 1, 0, none⟩) (by simp) _) 0; have gr : (wq.setCell ⟨w.heap.size + 1, 0, none⟩ (.int .i64 (wrap64 (sumLo zs k + x.f2.f0)))).cell? ⟨W.heap.size, 5, none⟩ = some (.int .i64 x.f2.f1) := (blk_cell (blk_far RB.out (p := ⟨w.heap.size + 1, 0, none⟩) (by have := HW.out; have := HS.out; simp; omega) _) 5).trans rfl)) | (gi_at_call 91; (with_reducible refine (CallsIn.inRound l (demand_noI F _ h91 hro _ _)).mono ?_); rintro e w' ⟨rfl, rfl⟩) | (gi_at_call 91; (with_reducible refine (CallsIn.inRound l (demand_okI F _ h91 hro _ _)).mono ?_); rintro e w' ⟨rfl, rfl⟩))
            exact ⟨rfl, BW.out.size, fun j h1 h2 => BW.out.block j (by have := HW.out; have := WS.out; omega), rfl, ringsOk_mono zs (k + 1) _ (by simp [ringsOk, HX.out, HF.out]) HK.out, below_then CK.out.be CK.out.be.size BW.out⟩
          | true =>
            cases s2 : spanB x.f2.f0 x.f2.f1 0 1000 with
            | false =>
              have HF : Sd (ringB x = false) := ⟨by simp only [ringB, s0, s1, s2, Bool.and_false, Bool.false_and, Bool.and_true, Bool.true_and]⟩
              gi_wp2_with (first | (gi_at_call 141; go_loud (refine (CallsIn.inRound l (spanI F _ h141 hro _ _ _ _ _)).mono ?_; (first | rw [s0] | rw [s1] | rw [s2] | rw [s3] | rw [s4]); rintro e wq ⟨rfl, hwq⟩; replace RB := Sd.mk (show wq.heap[W.heap.size]? = _ from by subst hwq; exact blk_alloc RB.out _); replace BW := Sd.mk (show Below Wb.heap.size Wb wq from by subst hwq; exact below_alloc BW.out _); clear hwq; have g0 : wq.cell? ⟨W.heap.size, 0, none⟩ = some (.int .i64 x.f0.f0) := (blk_cell RB.out 0).trans rfl; have g1 : wq.cell? ⟨W.heap.size, 0 + 1, none⟩ = some (.int .i64 x.f0.f1) := (blk_cell RB.out 1).trans rfl; have g2 : wq.cell? ⟨W.heap.size, 0 + 2, none⟩ = some (.int .i64 x.f1.f0) := (blk_cell RB.out 2).trans rfl; have g3 : wq.cell? ⟨W.heap.size, 0 + 3, none⟩ = some (.int .i64 x.f1.f1) := (blk_cell RB.out 3).trans rfl; have g4 : wq.cell? ⟨W.heap.size, 0 + 4, none⟩ = some (.int .i64 x.f2.f0) := (blk_cell RB.out 4).trans rfl; have g5 : wq.cell? ⟨W.heap.size, 0 + 5, none⟩ = some (.int .i64 x.f2.f1) := (blk_cell RB.out 5).trans rfl; have g6 : wq.cell? ⟨W.heap.size, 0 + 6, none⟩ = some (.int .i64 x.f3.f0) := (blk_cell RB.out 6).trans rfl; have g7 : wq.cell? ⟨W.heap.size, 0 + 7, none⟩ = some (.int .i64 x.f3.f1) := (blk_cell RB.out 7).trans rfl; have g8 : wq.cell? ⟨W.heap.size, 0 + 8, none⟩ = some (.int .i64 x.f4.f0) := (blk_cell RB.out 8).trans rfl; have g9 : wq.cell? ⟨W.heap.size, 0 + 9, none⟩ = some (.int .i64 x.f4.f1) := (blk_cell RB.out 9).trans rfl; have gl : wq.cell? ⟨w.heap.size + 1, 0, none⟩ = some (.int .i64 (sumLo zs k)) := (blk_cell (blk_below CK.out.lo BW.out) 0).trans rfl; have gl' := blk_frozen (blk_below CK.out.lo BW.out) 0; have gh : (wq.setCell ⟨w.heap.size + 1, 0, none⟩ (.int .i64 (wrap64 (sumLo zs k + x.f2.f0)))).cell? ⟨w.heap.size + 1 + 1, 0, none⟩ = some (.int .i64 (sumHi zs k)) := (blk_cell (blk_far (blk_below CK.out.hi BW.out) (p := ⟨w.heap.size + 1, 0, none⟩) (by simp) _) 0).trans rfl; have gh' : (wq.setCell ⟨w.heap.size + 1, 0, none⟩ (.int .i64 (wrap64 (sumLo zs k + x.f2.f0)))).frozen? ⟨w.heap.size + 1 + 1, 0, none⟩ = false := blk_frozen (blk_far (blk_below CK.out.hi BW.out) (p := ⟨w.heap.size + 1, 0, none⟩) (by simp) _) 0; have gr : (wq.setCell ⟨w.heap.size + 1, 0, none⟩ (.int .i64 (wrap64 (sumLo zs k + x.f2.f0)))).cell? ⟨W.heap.size, 5, none⟩ = some (.int .i64 x.f2.f1) := (blk_cell (blk_far RB.out (p := ⟨w.heap.size + 1, 0, none⟩) (by have := HW.out; have := HS.out; simp; omega) _) 5).trans rfl)) | (gi_at_call 91; (with_reducible refine (CallsIn.inRound l (demand_noI F _ h91 hro _ _)).mono ?_); rintro e w' ⟨rfl, rfl⟩) | (gi_at_call 91; (with_reducible refine (CallsIn.inRound l (demand_okI F _ h91 hro _ _)).mono ?_); rintro e w' ⟨rfl, rfl⟩))
              exact ⟨rfl, BW.out.size, fun j h1 h2 => BW.out.block j (by have := HW.out; have := WS.out; omega), rfl, ringsOk_mono zs (k + 1) _ (by simp [ringsOk, HX.out, HF.out]) HK.out, below_then CK.out.be CK.out.be.size BW.out⟩
            | true =>
              cases s3 : spanB x.f3.f0 x.f3.f1 0 10000 with
              | false =>
                have HF : Sd (ringB x = false) := ⟨by simp only [ringB, s0, s1, s2, s3, Bool.and_false, Bool.false_and, Bool.and_true, Bool.true_and]⟩
                gi_wp2_with (first | (gi_at_call 141; go_loud (refine (CallsIn.inRound l (spanI F _ h141 hro _ _ _ _ _)).mono ?_; (first | rw [s0] | rw [s1] | rw [s2] | rw [s3] | rw [s4]); rintro e wq ⟨rfl, hwq⟩; replace RB := Sd.mk (show wq.heap[W.heap.size]? = _ from by subst hwq; exact blk_alloc RB.out _); replace BW := Sd.mk (show Below Wb.heap.size Wb wq from by subst hwq; exact below_alloc BW.out _); clear hwq; have g0 : wq.cell? ⟨W.heap.size, 0, none⟩ = some (.int .i64 x.f0.f0) := (blk_cell RB.out 0).trans rfl; have g1 : wq.cell? ⟨W.heap.size, 0 + 1, none⟩ = some (.int .i64 x.f0.f1) := (blk_cell RB.out 1).trans rfl; have g2 : wq.cell? ⟨W.heap.size, 0 + 2, none⟩ = some (.int .i64 x.f1.f0) := (blk_cell RB.out 2).trans rfl; have g3 : wq.cell? ⟨W.heap.size, 0 + 3, none⟩ = some (.int .i64 x.f1.f1) := (blk_cell RB.out 3).trans rfl; have g4 : wq.cell? ⟨W.heap.size, 0 + 4, none⟩ = some (.int .i64 x.f2.f0) := (blk_cell RB.out 4).trans rfl; have g5 : wq.cell? ⟨W.heap.size, 0 + 5, none⟩ = some (.int .i64 x.f2.f1) := (blk_cell RB.out 5).trans rfl; have g6 : wq.cell? ⟨W.heap.size, 0 + 6, none⟩ = some (.int .i64 x.f3.f0) := (blk_cell RB.out 6).trans rfl; have g7 : wq.cell? ⟨W.heap.size, 0 + 7, none⟩ = some (.int .i64 x.f3.f1) := (blk_cell RB.out 7).trans rfl; have g8 : wq.cell? ⟨W.heap.size, 0 + 8, none⟩ = some (.int .i64 x.f4.f0) := (blk_cell RB.out 8).trans rfl; have g9 : wq.cell? ⟨W.heap.size, 0 + 9, none⟩ = some (.int .i64 x.f4.f1) := (blk_cell RB.out 9).trans rfl; have gl : wq.cell? ⟨w.heap.size + 1, 0, none⟩ = some (.int .i64 (sumLo zs k)) := (blk_cell (blk_below CK.out.lo BW.out) 0).trans rfl; have gl' := blk_frozen (blk_below CK.out.lo BW.out) 0; have gh : (wq.setCell ⟨w.heap.size + 1, 0, none⟩ (.int .i64 (wrap64 (sumLo zs k + x.f2.f0)))).cell? ⟨w.heap.size + 1 + 1, 0, none⟩ = some (.int .i64 (sumHi zs k)) := (blk_cell (blk_far (blk_below CK.out.hi BW.out) (p := ⟨w.heap.size + 1, 0, none⟩) (by simp) _) 0).trans rfl; have gh' : (wq.setCell ⟨w.heap.size + 1, 0, none⟩ (.int .i64 (wrap64 (sumLo zs k + x.f2.f0)))).frozen? ⟨w.heap.size + 1 + 1, 0, none⟩ = false := blk_frozen (blk_far (blk_below CK.out.hi BW.out) (p := ⟨w.heap.size + 1, 0, none⟩) (by simp) _) 0; have gr : (wq.setCell ⟨w.heap.size + 1, 0, none⟩ (.int .i64 (wrap64 (sumLo zs k + x.f2.f0)))).cell? ⟨W.heap.size, 5, none⟩ = some (.int .i64 x.f2.f1) := (blk_cell (blk_far RB.out (p := ⟨w.heap.size + 1, 0, none⟩) (by have := HW.out; have := HS.out; simp; omega) _) 5).trans rfl)) | (gi_at_call 91; (with_reducible refine (CallsIn.inRound l (demand_noI F _ h91 hro _ _)).mono ?_); rintro e w' ⟨rfl, rfl⟩) | (gi_at_call 91; (with_reducible refine (CallsIn.inRound l (demand_okI F _ h91 hro _ _)).mono ?_); rintro e w' ⟨rfl, rfl⟩))
                exact ⟨rfl, BW.out.size, fun j h1 h2 => BW.out.block j (by have := HW.out; have := WS.out; omega), rfl, ringsOk_mono zs (k + 1) _ (by simp [ringsOk, HX.out, HF.out]) HK.out, below_then CK.out.be CK.out.be.size BW.out⟩
              | true =>
                cases s4 : spanB x.f4.f0 x.f4.f1 0 10000 with
                | false =>
                  have HF : Sd (ringB x = false) := ⟨by simp only [ringB, s0, s1, s2, s3, s4, Bool.and_false, Bool.false_and, Bool.and_true, Bool.true_and]⟩
                  gi_wp2_with (first | (gi_at_call 141; go_loud (refine (CallsIn.inRound l (spanI F _ h141 hro _ _ _ _ _)).mono ?_; (first | rw [s0] | rw [s1] | rw [s2] | rw [s3] | rw [s4]); rintro e wq ⟨rfl, hwq⟩; replace RB := Sd.mk (show wq.heap[W.heap.size]? = _ from by subst hwq; exact blk_alloc RB.out _); replace BW := Sd.mk (show Below Wb.heap.size Wb wq from by subst hwq; exact below_alloc BW.out _); clear hwq; have g0 : wq.cell? ⟨W.heap.size, 0, none⟩ = some (.int .i64 x.f0.f0) := (blk_cell RB.out 0).trans rfl; have g1 : wq.cell? ⟨W.heap.size, 0 + 1, none⟩ = some (.int .i64 x.f0.f1) := (blk_cell RB.out 1).trans rfl; have g2 : wq.cell? ⟨W.heap.size, 0 + 2, none⟩ = some (.int .i64 x.f1.f0) := (blk_cell RB.out 2).trans rfl; have g3 : wq.cell? ⟨W.heap.size, 0 + 3, none⟩ = some (.int .i64 x.f1.f1) := (blk_cell RB.out 3).trans rfl; have g4 : wq.cell? ⟨W.heap.size, 0 + 4, none⟩ = some (.int .i64 x.f2.f0) := (blk_cell RB.out 4).trans rfl; have g5 : wq.cell? ⟨W.heap.size, 0 + 5, none⟩ = some (.int .i64 x.f2.f1) := (blk_cell RB.out 5).trans rfl; have g6 : wq.cell? ⟨W.heap.size, 0 + 6, none⟩ = some (.int .i64 x.f3.f0) := (blk_cell RB.out 6).trans rfl; have g7 : wq.cell? ⟨W.heap.size, 0 + 7, none⟩ = some (.int .i64 x.f3.f1) := (blk_cell RB.out 7).trans rfl; have g8 : wq.cell? ⟨W.heap.size, 0 + 8, none⟩ = some (.int .i64 x.f4.f0) := (blk_cell RB.out 8).trans rfl; have g9 : wq.cell? ⟨W.heap.size, 0 + 9, none⟩ = some (.int .i64 x.f4.f1) := (blk_cell RB.out 9).trans rfl; have gl : wq.cell? ⟨w.heap.size + 1, 0, none⟩ = some (.int .i64 (sumLo zs k)) := (blk_cell (blk_below CK.out.lo BW.out) 0).trans rfl; have gl' := blk_frozen (blk_below CK.out.lo BW.out) 0; have gh : (wq.setCell ⟨w.heap.size + 1, 0, none⟩ (.int .i64 (wrap64 (sumLo zs k + x.f2.f0)))).cell? ⟨w.heap.size + 1 + 1, 0, none⟩ = some (.int .i64 (sumHi zs k)) := (blk_cell (blk_far (blk_below CK.out.hi BW.out) (p := ⟨w.heap.size + 1, 0, none⟩) (by simp) _) 0).trans rfl; have gh' : (wq.setCell ⟨w.heap.size + 1, 0, none⟩ (.int .i64 (wrap64 (sumLo zs k + x.f2.f0)))).frozen? ⟨w.heap.size + 1 + 1, 0, none⟩ = false := blk_frozen (blk_far (blk_below CK.out.hi BW.out) (p := ⟨w.heap.size + 1, 0, none⟩) (by simp) _) 0; have gr : (wq.setCell ⟨w.heap.size + 1, 0, none⟩ (.int .i64 (wrap64 (sumLo zs k + x.f2.f0)))).cell? ⟨W.heap.size, 5, none⟩ = some (.int .i64 x.f2.f1) := (blk_cell (blk_far RB.out (p := ⟨w.heap.size + 1, 0, none⟩) (by have := HW.out; have := HS.out; simp; omega) _) 5).trans rfl)) | (gi_at_call 91; (with_reducible refine (CallsIn.inRound l (demand_noI F _ h91 hro _ _)).mono ?_); rintro e w' ⟨rfl, rfl⟩) | (gi_at_call 91; (with_reducible refine (CallsIn.inRound l (demand_okI F _ h91 hro _ _)).mono ?_); rintro e w' ⟨rfl, rfl⟩))
                  exact ⟨rfl, BW.out.size, fun j h1 h2 => BW.out.block j (by have := HW.out; have := WS.out; omega), rfl, ringsOk_mono zs (k + 1) _ (by simp [ringsOk, HX.out, HF.out]) HK.out, below_then CK.out.be CK.out.be.size BW.out⟩
                | true =>
                  have HT : Sd (ringB x = true) := ⟨by simp only [ringB, s0, s1, s2, s3, s4, Bool.and_true]⟩
                  gi_wp2_with (first | (gi_at_call 141; go_loud (refine (CallsIn.inRound l (spanI F _ h141 hro _ _ _ _ _)).mono ?_; (first | rw [s0] | rw [s1] | rw [s2] | rw [s3] | rw [s4]); rintro e wq ⟨rfl, hwq⟩; replace RB := Sd.mk (show wq.heap[W.heap.size]? = _ from by subst hwq; exact blk_alloc RB.out _); replace BW := Sd.mk (show Below Wb.heap.size Wb wq from by subst hwq; exact below_alloc BW.out _); clear hwq; have g0 : wq.cell? ⟨W.heap.size, 0, none⟩ = some (.int .i64 x.f0.f0) := (blk_cell RB.out 0).trans rfl; have g1 : wq.cell? ⟨W.heap.size, 0 + 1, none⟩ = some (.int .i64 x.f0.f1) := (blk_cell RB.out 1).trans rfl; have g2 : wq.cell? ⟨W.heap.size, 0 + 2, none⟩ = some (.int .i64 x.f1.f0) := (blk_cell RB.out 2).trans rfl; have g3 : wq.cell? ⟨W.heap.size, 0 + 3, none⟩ = some (.int .i64 x.f1.f1) := (blk_cell RB.out 3).trans rfl; have g4 : wq.cell? ⟨W.heap.size, 0 + 4, none⟩ = some (.int .i64 x.f2.f0) := (blk_cell RB.out 4).trans rfl; have g5 : wq.cell? ⟨W.heap.size, 0 + 5, none⟩ = some (.int .i64 x.f2.f1) := (blk_cell RB.out 5).trans rfl; have g6 : wq.cell? ⟨W.heap.size, 0 + 6, none⟩ = some (.int .i64 x.f3.f0) := (blk_cell RB.out 6).trans rfl; have g7 : wq.cell? ⟨W.heap.size, 0 + 7, none⟩ = some (.int .i64 x.f3.f1) := (blk_cell RB.out 7).trans rfl; have g8 : wq.cell? ⟨W.heap.size, 0 + 8, none⟩ = some (.int .i64 x.f4.f0) := (blk_cell RB.out 8).trans rfl; have g9 : wq.cell? ⟨W.heap.size, 0 + 9, none⟩ = some (.int .i64 x.f4.f1) := (blk_cell RB.out 9).trans rfl; have gl : wq.cell? ⟨w.heap.size + 1, 0, none⟩ = some (.int .i64 (sumLo zs k)) := (blk_cell (blk_below CK.out.lo BW.out) 0).trans rfl; have gl' := blk_frozen (blk_below CK.out.lo BW.out) 0; have gh : (wq.setCell ⟨w.heap.size + 1, 0, none⟩ (.int .i64 (wrap64 (sumLo zs k + x.f2.f0)))).cell? ⟨w.heap.size + 1 + 1, 0, none⟩ = some (.int .i64 (sumHi zs k)) := (blk_cell (blk_far (blk_below CK.out.hi BW.out) (p := ⟨w.heap.size + 1, 0, none⟩) (by simp) _) 0).trans rfl; have gh' : (wq.setCell ⟨w.heap.size + 1, 0, none⟩ (.int .i64 (wrap64 (sumLo zs k + x.f2.f0)))).frozen? ⟨w.heap.size + 1 + 1, 0, none⟩ = false := blk_frozen (blk_far (blk_below CK.out.hi BW.out) (p := ⟨w.heap.size + 1, 0, none⟩) (by simp) _) 0; have gr : (wq.setCell ⟨w.heap.size + 1, 0, none⟩ (.int .i64 (wrap64 (sumLo zs k + x.f2.f0)))).cell? ⟨W.heap.size, 5, none⟩ = some (.int .i64 x.f2.f1) := (blk_cell (blk_far RB.out (p := ⟨w.heap.size + 1, 0, none⟩) (by have := HW.out; have := HS.out; simp; omega) _) 5).trans rfl)) | (gi_at_call 91; (with_reducible refine (CallsIn.inRound l (demand_noI F _ h91 hro _ _)).mono ?_); rintro e w' ⟨rfl, rfl⟩) | (gi_at_call 91; (with_reducible refine (CallsIn.inRound l (demand_okI F _ h91 hro _ _)).mono ?_); rintro e w' ⟨rfl, rfl⟩))
                  have hk := HK.out
                  have hn24 := HN.out
                  have hsb := sum_bounds zs (k + 1) (by simp only [ringsOk, CK.out.ok, HX.out, HT.out, Bool.and_true])
                  have hlo : wrap64 (sumLo zs k + x.f2.f0) = sumLo zs (k + 1) := by simp only [sumLo, sumHi, HX.out] at hsb ⊢; unfold wrap64; omega
                  have hhi : wrap64 (sumHi zs k + x.f2.f1) = sumHi zs (k + 1) := by simp only [sumLo, sumHi, HX.out] at hsb ⊢; unfold wrap64; omega
                  rw [hlo, hhi]
                  refine ⟨by simpa using BW.out.size, fun j h1 h2 => ?_, ?_⟩
                  · refine ((grownBy_setCell' _ (w.heap.size + 1 + 1) _).block j (by simp; have := BW.out.size; have := HW.out; have := WS.out; omega) (by have := HS.out; simp; omega)).trans (((grownBy_setCell' _ (w.heap.size + 1) _).block j (by have := BW.out.size; have := HW.out; have := WS.out; omega) (by have := HS.out; simp; omega)).trans (BW.out.block j (by have := HW.out; have := WS.out; omega)))
                  · exact ⟨by simp only [ringsOk, CK.out.ok, HX.out, HT.out, Bool.and_true], blk_far (blk_far (blk_below CK.out.bx BW.out) (p := ⟨w.heap.size + 1, 0, none⟩) (by simp) _) (p := ⟨w.heap.size + 1 + 1, 0, none⟩) (by simp; omega) _, blk_far (blk_put (blk_below CK.out.lo BW.out) 0 _ rfl) (p := ⟨w.heap.size + 1 + 1, 0, none⟩) (by simp) _, blk_put (blk_far (blk_below CK.out.hi BW.out) (p := ⟨w.heap.size + 1, 0, none⟩) (by simp) _) 0 _ rfl, blk_far (blk_far (blk_below CK.out.rb BW.out) (p := ⟨w.heap.size + 1, 0, none⟩) (by simp; omega) _) (p := ⟨w.heap.size + 1 + 1, 0, none⟩) (by simp) _, below_set (below_set (below_then CK.out.be CK.out.be.size BW.out) (by omega)) (by omega)⟩
      case fn => exact fun _ => hfn
      case done =>
        clear b1 b2 b3 b4 hb
        intro W hI hD
        have HI := Sd.mk hI
        have HD := Sd.mk hD
        have HS := Sd.mk hsz
        clear hI hD hsz
        have g0 : W.cell? ⟨w.heap.size + 1, 0, none⟩ = some (.int .i64 (sumLo zs zs.length)) := (blk_cell HI.out.lo 0).trans rfl
        have g1 : W.cell? ⟨w.heap.size + 1 + 1, 0, none⟩ = some (.int .i64 (sumHi zs zs.length)) := (blk_cell HI.out.hi 0).trans rfl
        have g2 : W.cell? ⟨w.heap.size, 0 + 1, none⟩ = some (.int .i64 f1) := (blk_cell HI.out.bx 1).trans rfl
        have g3 : W.cell? ⟨w.heap.size, 0 + 2, none⟩ = some (.int .i64 f2) := (blk_cell HI.out.bx 2).trans rfl
        have HV1 : Sd (bottleV zs f1 f2 = if sumLo zs zs.length ≤ 1000 ∧ sumHi zs zs.length ≥ 1000 then (if inB f1 1 1000 = true ∧ inB f2 0 1000000000000000 = true then 0 else 1) else 12) := ⟨by rw [HV.out, if_pos HI.out.ok]⟩
        clear HV
        cases s1 : decide (sumLo zs zs.length ≤ 1000) with
        | false =>
          have HE : Sd (bottleV zs f1 f2 = 12) := ⟨by rw [HV1.out, if_neg (fun h => by have h1 := h.1; simp at s1; omega)]⟩
          clear HV1
          gi_wp2_with (first | (gi_at_call 91; (with_reducible refine (demand_noI F _ h91 hro _ _).mono ?_); rintro e w' ⟨rfl, rfl⟩) | (gi_at_call 91; (with_reducible refine (demand_okI F _ h91 hro _ _).mono ?_); rintro e w' ⟨rfl, rfl⟩) | (gi_at_call 92; (with_reducible refine (withinI F _ h92 hro _ _ _ _).mono ?_); (first | rw [s3] | rw [s4]); rintro e w' ⟨rfl, rfl⟩))
          refine ⟨by simp, .inl ⟨_, _, rfl, run_takeDeferred HD.out, ?_⟩⟩
          exact ⟨by rw [HE.out]; rfl, below_putObj HI.out.be (by have := HS.out; omega) (Array.getElem?_eq_some_iff.1 HD.out).1⟩
        | true =>
          cases s2 : decide (sumHi zs zs.length ≥ 1000) with
          | false =>
            have s2' : decide (1000 ≤ sumHi zs zs.length) = false := s2
            have HE : Sd (bottleV zs f1 f2 = 12) := ⟨by rw [HV1.out, if_neg (fun h => by have h1 := h.2; simp at s2; omega)]⟩
            clear HV1
            gi_wp2_with (first | (gi_at_call 91; (with_reducible refine (demand_noI F _ h91 hro _ _).mono ?_); rintro e w' ⟨rfl, rfl⟩) | (gi_at_call 91; (with_reducible refine (demand_okI F _ h91 hro _ _).mono ?_); rintro e w' ⟨rfl, rfl⟩) | (gi_at_call 92; (with_reducible refine (withinI F _ h92 hro _ _ _ _).mono ?_); (first | rw [s3] | rw [s4]); rintro e w' ⟨rfl, rfl⟩))
            refine ⟨by simp, .inl ⟨_, _, rfl, run_takeDeferred HD.out, ?_⟩⟩
            exact ⟨by rw [HE.out]; rfl, below_putObj HI.out.be (by have := HS.out; omega) (Array.getElem?_eq_some_iff.1 HD.out).1⟩
          | true =>
            have s2' : decide (1000 ≤ sumHi zs zs.length) = true := s2
            have HC : Sd (sumLo zs zs.length ≤ 1000 ∧ sumHi zs zs.length ≥ 1000) := ⟨⟨of_decide_eq_true s1, of_decide_eq_true s2⟩⟩
            cases s3 : inB f1 1 1000 with
            | false =>
              have HE : Sd (bottleV zs f1 f2 = 1) := ⟨by rw [HV1.out, if_pos HC.out, if_neg (fun h => by simp [s3] at h)]⟩
              clear HV1
              gi_wp2_with (first | (gi_at_call 91; (with_reducible refine (demand_noI F _ h91 hro _ _).mono ?_); rintro e w' ⟨rfl, rfl⟩) | (gi_at_call 91; (with_reducible refine (demand_okI F _ h91 hro _ _).mono ?_); rintro e w' ⟨rfl, rfl⟩) | (gi_at_call 92; (with_reducible refine (withinI F _ h92 hro _ _ _ _).mono ?_); (first | rw [s3] | rw [s4]); rintro e w' ⟨rfl, rfl⟩))
              refine ⟨by simp, .inl ⟨_, _, rfl, run_takeDeferred HD.out, ?_⟩⟩
              exact ⟨by rw [HE.out]; rfl, below_putObj HI.out.be (by have := HS.out; omega) (Array.getElem?_eq_some_iff.1 HD.out).1⟩
            | true =>
              cases s4 : inB f2 0 1000000000000000 with
              | false =>
                have HE : Sd (bottleV zs f1 f2 = 1) := ⟨by rw [HV1.out, if_pos HC.out, if_neg (fun h => by simp [s4] at h)]⟩
                clear HV1
                gi_wp2_with (first | (gi_at_call 91; (with_reducible refine (demand_noI F _ h91 hro _ _).mono ?_); rintro e w' ⟨rfl, rfl⟩) | (gi_at_call 91; (with_reducible refine (demand_okI F _ h91 hro _ _).mono ?_); rintro e w' ⟨rfl, rfl⟩) | (gi_at_call 92; (with_reducible refine (withinI F _ h92 hro _ _ _ _).mono ?_); (first | rw [s3] | rw [s4]); rintro e w' ⟨rfl, rfl⟩))
                refine ⟨by simp, .inl ⟨_, _, rfl, run_takeDeferred HD.out, ?_⟩⟩
                exact ⟨by rw [HE.out]; rfl, below_putObj HI.out.be (by have := HS.out; omega) (Array.getElem?_eq_some_iff.1 HD.out).1⟩
              | true =>
                have HE : Sd (bottleV zs f1 f2 = 0) := ⟨by rw [HV1.out, if_pos HC.out, if_pos ⟨s3, s4⟩]⟩
                clear HV1
                gi_wp2_with (first | (gi_at_call 91; (with_reducible refine (demand_noI F _ h91 hro _ _).mono ?_); rintro e w' ⟨rfl, rfl⟩) | (gi_at_call 91; (with_reducible refine (demand_okI F _ h91 hro _ _).mono ?_); rintro e w' ⟨rfl, rfl⟩) | (gi_at_call 92; (with_reducible refine (withinI F _ h92 hro _ _ _ _).mono ?_); (first | rw [s3] | rw [s4]); rintro e w' ⟨rfl, rfl⟩))
                refine ⟨by simp, .inl ⟨_, _, rfl, run_takeDeferred HD.out, ?_⟩⟩
                exact ⟨_, results_none rfl _ _ _, by rw [HE.out]; rfl, below_putObj HI.out.be (by have := HS.out; omega) (Array.getElem?_eq_some_iff.1 HD.out).1⟩
      case panic =>
        intro ch W hI hD
        obtain ⟨rfl, h2, h3⟩ := hI
        refine ⟨by simp, .inl ⟨_, _, rfl, run_takeDeferred hD, ?_⟩⟩
        exact ⟨by rw [HV.out, if_neg (by simp [h2])]; rfl, below_putObj h3 (by omega) (Array.getElem?_eq_some_iff.1 hD).1⟩
theorem bottle_calls (A : Option Addr) (c : Nat) (zs : List S170) (f1 f2 : Int) (w : World) (hr : Kd.C k170 w A zs.length zs) :
    Calls Try.prog 140 #[.agg #[.slice A zs.length c, .int .i64 f1, .int .i64 f2]] w fun en w' => en = endF (bottleV zs f1 f2) ∧ Below w.heap.size w w' :=
  (bottle_callsI Fc 9 (by simp [Fc]) (by simp [Fc]) (by simp [Fc]) (by simp [Fc]) (by simp [Fc]) (by simp [Fc]) rfl (fun g hg => by
    rcases hg with rfl | rfl | rfl | rfl | rfl | rfl
    · exact ⟨_, Try.func140⟩
    · exact ⟨_, Try.func91⟩
    · exact ⟨_, Try.func141⟩
    · exact ⟨_, Try.func142⟩
    · exact ⟨_, Try.func159⟩
    · exact ⟨_, Try.func92⟩) (by omega) A c zs f1 f2 w hr).calls (fun k d hd => by cases hd)
end Go.Proofs.Ytkjkokgbhepmoaa.PB

namespace Go.Proofs.Ytkjkokgbhepmoaa.PB
open Go.RowKit Go.Proofs.YtkjkokgbhepmoaaW.PrintWords Go.Proofs.YtkjkokgbhepmoaaW.PrintLast Go.Proofs.YtkjkokgbhepmoaaW.PrintMore
attribute [local go_sem] max2_int min2_int max_two min_two max_three min_three max_four min_four
def strength_down.f (a0 : Int) (a1 : Int) : Option (Int) := if a1 = 0 then (none) else (some (wrap64 (Int.tdiv a0 a1)))
set_option maxHeartbeats 8000000 in
set_option maxRecDepth 100000 in
theorem strength_down.calls (a0 : Int) (a1 : Int) (r : Int) (w : World) (h : strength_down.f a0 a1 = some r) :
  Calls Try.prog 160 #[.int .i64 a0, .int .i64 a1] w fun e w' => e = .returned (.int .i64 r) ∧ Drawn0 w w' := by
 have H : (if a1 = 0 then (none) else (some (wrap64 (Int.tdiv a0 a1)))) = some r := h
 clear h
 by_cases c3 : a1 = 0
 ·rw [if_pos c3] at H
  exact absurd H (by simp)
 ·rw [if_neg c3] at H
  have c3b0 : (a1 == 0) = false := beq_eq_false_iff_ne.mpr c3
  have c3b1 : (a1 != 0) = true := bne_iff_ne.mpr c3
  obtain rfl := Option.some.inj H
  go_enter Try.func160, Try.ntmps160
  go_wp2
  go_ret
  exact ⟨by first | rfl | (simp; done) | (simp [*]; done), by repeat (first | exact Drawn0.refl _ | apply Drawn0.step)⟩
end Go.Proofs.Ytkjkokgbhepmoaa.PB

namespace Go.Proofs.Ytkjkokgbhepmoaa.PB
open Go.RowKit Go.Proofs.YtkjkokgbhepmoaaW.PrintWords Go.Proofs.YtkjkokgbhepmoaaW.PrintLast Go.Proofs.YtkjkokgbhepmoaaW.PrintMore
attribute [local go_sem] max2_int min2_int max_two min_two max_three min_three max_four min_four
def strength_thickness.f (a0_0 : Int) (a0_1 : Int) (a0_2 : Int) (a0_3 : Int) (a0_4 : Int) (a0_5 : Int) (a0_6 : Int) (a0_7 : Int) (a0_8 : Int) (a0_9 : Int) (a1_0 : Int) (a1_1 : Int) : Option (Int × Int) := (strength_down.f (wrap64 ((wrap64 ((wrap64 (200 * a1_0)) * a0_4)) * 113)) (wrap64 ((wrap64 (355 * a0_1)) * a0_3))).bind fun t630 => ((strength_up.f (wrap64 ((wrap64 ((wrap64 (200 * a1_1)) * a0_5)) * 106)) (wrap64 ((wrap64 (333 * a0_0)) * a0_2))).bind fun t631 => (some (t630, t631)))
def strength_thickness.T1 : Bool × List (List Nat × List Nat) := (true, [([], []), ([0], [0]), ([1], [1]), ([], []), ([3], [3]), ([4], [4]), ([2, 5], [2, 5]), ([6], [6]), ([], []), ([8], [8]), ([9], [9]), ([10], [10]), ([], []), ([12], [12]), ([13], [13]), ([11, 14], [11, 14]), ([7, 15], [7, 15]), ([], []), ([17], [17]), ([18], [18]), ([], []), ([20], [20]), ([21], [21]), ([19, 22], [19, 22]), ([23], [23]), ([], []), ([25], [25]), ([26], [26]), ([27], [27]), ([], []), ([29], [29]), ([30], [30]), ([28, 31], [28, 31]), ([24, 32, 16], [24, 32]), ([16, 33], [16, 33]), ([34, 33, 0, 1, 2, 3, 4, 5, 6, 7, 8, 9, 10, 11, 12, 13, 14, 15, 16, 17, 18, 19, 20, 21, 22, 23, 24, 25, 26, 27, 28, 29, 30, 31, 32, 33, 34], [34])])
def strength_thickness.B1 : List Nat := [0, 1, 3, 0, 8, 24, 63, 127, 0, 256, 768, 1792, 0, 4096, 12288, 32512, 65535, 0, 131072, 393216, 0, 1048576, 3145728, 8257536, 16646144, 0, 33554432, 100663296, 234881024, 0, 536870912, 1610612736, 4261412864, 8589934591, 17179869183, 34359738367]
theorem strength_thickness.tab1 : rtab .any (opsOf Try.f143 1) = strength_thickness.T1 := by kernel_rfl
theorem strength_thickness.bits1 : waitsOk strength_thickness.T1.2 strength_thickness.B1 = true := by kernel_rfl
set_option maxHeartbeats 8000000 in
set_option maxRecDepth 100000 in
theorem strength_thickness.calls (a0_0 : Int) (a0_1 : Int) (a0_2 : Int) (a0_3 : Int) (a0_4 : Int) (a0_5 : Int) (a0_6 : Int) (a0_7 : Int) (a0_8 : Int) (a0_9 : Int) (a1_0 : Int) (a1_1 : Int) (r1 : Int) (r2 : Int) (w : World) (h : strength_thickness.f a0_0 a0_1 a0_2 a0_3 a0_4 a0_5 a0_6 a0_7 a0_8 a0_9 a1_0 a1_1 = some (r1, r2)) :
  Calls Try.prog 143 #[.agg #[.int .i64 a0_0, .int .i64 a0_1, .int .i64 a0_2, .int .i64 a0_3, .int .i64 a0_4, .int .i64 a0_5, .int .i64 a0_6, .int .i64 a0_7, .int .i64 a0_8, .int .i64 a0_9], .agg #[.int .i64 a1_0, .int .i64 a1_1]] w fun e w' => e = .returned (.agg #[.int .i64 r1, .int .i64 r2]) ∧ Below w.heap.size w w' := by
 have hu170 := Try.underlying170; have hu27 := Try.underlying27; have HB := Sd.mk (Below.refl w.heap.size w)
 have H : ((strength_down.f (wrap64 ((wrap64 ((wrap64 (200 * a1_0)) * a0_4)) * 113)) (wrap64 ((wrap64 (355 * a0_1)) * a0_3))).bind fun t630 => ((strength_up.f (wrap64 ((wrap64 ((wrap64 (200 * a1_1)) * a0_5)) * 106)) (wrap64 ((wrap64 (333 * a0_0)) * a0_2))).bind fun t631 => (some (t630, t631)))) = some (r1, r2) := h
 clear h; replace H := Option.bind_eq_some_iff.mp H; obtain ⟨t630, A30, H⟩ := H
 try dsimp only at H
 have A3 := Sd.mk A30; clear A30; replace H := Option.bind_eq_some_iff.mp H; obtain ⟨t631, A40, H⟩ := H
 try dsimp only at H
 have A4 := Sd.mk A40; clear A40
 simp only [Option.some.injEq, Prod.mk.injEq] at H
 obtain ⟨rfl, rfl⟩ := H
 go_enter Try.func143, Try.ntmps143
 try go_wp2_with (first | ((with_reducible refine gate_dst (N := 2) rfl ?_); refine box_event ?hg (N := 2) ?hd (cs := #[.int .i64 a0_0, .int .i64 a0_1, .int .i64 a0_2, .int .i64 a0_3, .int .i64 a0_4, .int .i64 a0_5, .int .i64 a0_6, .int .i64 a0_7, .int .i64 a0_8, .int .i64 a0_9]) (t := 170) ?hr ?_; (case hd => rfl); (case hg => rfl); (case hr => exact tG); intro gb627 hg w5 hbox hb; have BK627 := Sd.mk (hbox); have GW627 := Sd.mk (bSz hg (bBl HB.out)); have GE627 := Sd.mk (bSz hg (bBl HB.out)); replace HB := Sd.mk (below_step (bBl HB.out) hb); clear hb hbox hg) | ((with_reducible refine gate_dst (N := 3) rfl ?_); refine box_event ?hg (N := 3) ?hd (cs := #[.int .i64 a1_0, .int .i64 a1_1]) (t := 27) ?hr ?_; (case hd => rfl); (case hg => rfl); (case hr => exact tG); intro gb628 hg w6 hbox hb; have BK628 := Sd.mk (hbox); have GW628 := Sd.mk (bSz hg (bBl HB.out)); have GE628 := Sd.mk (bSz hg (bBl HB.out)); replace HB := Sd.mk (below_step (bBl HB.out) hb); have NB627_628 := Sd.mk (bNl hg (bkA BK627.out)); have NB628_627 := Sd.mk (bNg hg (bkA BK627.out)); replace BK627 := Sd.mk (blk_below (bkA BK627.out) hb); clear hb hbox hg) | ((with_reducible refine gate_dst (N := 4) rfl ?_); refine box_event ?hg (N := 4) ?hd (cs := #[.int .i64 0, .int .i64 0]) (t := 27) ?hr ?_; (case hd => rfl); (case hg => rfl); (case hr => exact tG); intro gb629 hg w7 hbox hb; have BK629 := Sd.mk (hbox); have GW629 := Sd.mk (bSz hg (bBl HB.out)); have GE629 := Sd.mk (bSz hg (bBl HB.out)); replace HB := Sd.mk (below_step (bBl HB.out) hb); have NB627_629 := Sd.mk (bNl hg (bkA BK627.out)); have NB629_627 := Sd.mk (bNg hg (bkA BK627.out)); replace BK627 := Sd.mk (blk_below (bkA BK627.out) hb); have NB628_629 := Sd.mk (bNl hg (bkA BK628.out)); have NB629_628 := Sd.mk (bNg hg (bkA BK628.out)); replace BK628 := Sd.mk (blk_below (bkA BK628.out) hb); clear hb hbox hg))
 replace BK627 := Sd.mk (blk_drew BK627.out); replace BK628 := Sd.mk (blk_drew BK628.out); replace BK629 := Sd.mk (blk_drew BK629.out); replace HB := Sd.mk (below_drew1 HB.out)
 refine start_ (n := 36) (S := fun w' => w'.cell? ⟨gb628, 0, none⟩ = some (.int .i64 a1_0) ∧ w'.cell? ⟨gb628, 1, none⟩ = some (.int .i64 a1_1) ∧ w'.cell? ⟨gb627, 0, none⟩ = some (.int .i64 a0_0) ∧ w'.cell? ⟨gb627, 1, none⟩ = some (.int .i64 a0_1) ∧ w'.cell? ⟨gb627, 2, none⟩ = some (.int .i64 a0_2) ∧ w'.cell? ⟨gb627, 3, none⟩ = some (.int .i64 a0_3) ∧ w'.cell? ⟨gb627, 4, none⟩ = some (.int .i64 a0_4) ∧ w'.cell? ⟨gb627, 5, none⟩ = some (.int .i64 a0_5) ∧ w'.cell? ⟨gb627, 6, none⟩ = some (.int .i64 a0_6) ∧ w'.cell? ⟨gb627, 7, none⟩ = some (.int .i64 a0_7) ∧ w'.cell? ⟨gb627, 8, none⟩ = some (.int .i64 a0_8) ∧ w'.cell? ⟨gb627, 9, none⟩ = some (.int .i64 a0_9)) (ds := []) #[false, false, false, false, false, false, false, false, false, false, false, false, false, false, false, false, false, false, false, false, false, false, false, false, false, false, false, false, false, false, false, false, false, false, false, false] (by kernel_rfl) rfl rfl ⟨(blk_cell BK628.out 0).trans rfl, (blk_cell BK628.out 1).trans rfl, (blk_cell BK627.out 0).trans rfl, (blk_cell BK627.out 1).trans rfl, (blk_cell BK627.out 2).trans rfl, (blk_cell BK627.out 3).trans rfl, (blk_cell BK627.out 4).trans rfl, (blk_cell BK627.out 5).trans rfl, (blk_cell BK627.out 6).trans rfl, (blk_cell BK627.out 7).trans rfl, (blk_cell BK627.out 8).trans rfl, (blk_cell BK627.out 9).trans rfl⟩ (fun hHeld => ?_); refine with_tabW strength_thickness.tab1 strength_thickness.bits1 (fun HT_ HW_ => ?_)
 generalize w7.drew = w8 at BK627 BK628 BK629 HB hHeld ⊢
 refine pure_ (i := 0) (N := some 5) (v := ?_) (a' := ?_) #[true, false, false, false, false, false, false, false, false, false, false, false, false, false, false, false, false, false, false, false, false, false, false, false, false, false, false, false, false, false, false, false, false, false, false, false] rfl rfl (any_of HT_.out (by kernel_rfl)) (fun _ _ _ h => h) (Or.inl ⟨by rfl, ?_⟩) ?_ ?_
 rotate_left
 ·exact tW
 rotate_left
 ·exact tP
 refine pure_ (i := 3) (N := some 8) (v := ?_) (a' := ?_) #[true, false, false, true, false, false, false, false, false, false, false, false, false, false, false, false, false, false, false, false, false, false, false, false, false, false, false, false, false, false, false, false, false, false, false, false] rfl rfl (any_of HT_.out (by kernel_rfl)) (fun _ _ _ h => h) (Or.inl ⟨by rfl, ?_⟩) ?_ ?_
 rotate_left
 ·exact tW
 rotate_left
 ·exact tP
 refine pure_ (i := 4) (N := some 9) (v := ?_) (a' := ?_) #[true, false, false, true, true, false, false, false, false, false, false, false, false, false, false, false, false, false, false, false, false, false, false, false, false, false, false, false, false, false, false, false, false, false, false, false] rfl rfl (any_of HT_.out (by kernel_rfl)) (fun _ _ _ h => h) (Or.inl ⟨by rfl, ?_⟩) ?_ ?_
 rotate_left
 ·exact tW
 rotate_left
 ·exact tP
 refine pure_ (i := 8) (N := some 13) (v := ?_) (a' := ?_) #[true, false, false, true, true, false, false, false, true, false, false, false, false, false, false, false, false, false, false, false, false, false, false, false, false, false, false, false, false, false, false, false, false, false, false, false] rfl rfl (any_of HT_.out (by kernel_rfl)) (fun _ _ _ h => h) (Or.inl ⟨by rfl, ?_⟩) ?_ ?_
 rotate_left
 ·exact tW
 rotate_left
 ·exact tP
 refine pure_ (i := 9) (N := some 14) (v := ?_) (a' := ?_) #[true, false, false, true, true, false, false, false, true, true, false, false, false, false, false, false, false, false, false, false, false, false, false, false, false, false, false, false, false, false, false, false, false, false, false, false] rfl rfl (any_of HT_.out (by kernel_rfl)) (fun _ _ _ h => h) (Or.inl ⟨by rfl, ?_⟩) ?_ ?_
 rotate_left
 ·exact tW
 rotate_left
 ·exact tP
 refine pure_ (i := 12) (N := some 17) (v := ?_) (a' := ?_) #[true, false, false, true, true, false, false, false, true, true, false, false, true, false, false, false, false, false, false, false, false, false, false, false, false, false, false, false, false, false, false, false, false, false, false, false] rfl rfl (any_of HT_.out (by kernel_rfl)) (fun _ _ _ h => h) (Or.inl ⟨by rfl, ?_⟩) ?_ ?_
 rotate_left
 ·exact tW
 rotate_left
 ·exact tP
 refine pure_ (i := 13) (N := some 18) (v := ?_) (a' := ?_) #[true, false, false, true, true, false, false, false, true, true, false, false, true, true, false, false, false, false, false, false, false, false, false, false, false, false, false, false, false, false, false, false, false, false, false, false] rfl rfl (any_of HT_.out (by kernel_rfl)) (fun _ _ _ h => h) (Or.inl ⟨by rfl, ?_⟩) ?_ ?_
 rotate_left
 ·exact tW
 rotate_left
 ·exact tP
 refine pure_ (i := 17) (N := some 22) (v := ?_) (a' := ?_) #[true, false, false, true, true, false, false, false, true, true, false, false, true, true, false, false, false, true, false, false, false, false, false, false, false, false, false, false, false, false, false, false, false, false, false, false] rfl rfl (any_of HT_.out (by kernel_rfl)) (fun _ _ _ h => h) (Or.inl ⟨by rfl, ?_⟩) ?_ ?_
 rotate_left
 ·exact tW
 rotate_left
 ·exact tP
 refine pure_ (i := 20) (N := some 25) (v := ?_) (a' := ?_) #[true, false, false, true, true, false, false, false, true, true, false, false, true, true, false, false, false, true, false, false, true, false, false, false, false, false, false, false, false, false, false, false, false, false, false, false] rfl rfl (any_of HT_.out (by kernel_rfl)) (fun _ _ _ h => h) (Or.inl ⟨by rfl, ?_⟩) ?_ ?_
 rotate_left
 ·exact tW
 rotate_left
 ·exact tP
 refine pure_ (i := 21) (N := some 26) (v := ?_) (a' := ?_) #[true, false, false, true, true, false, false, false, true, true, false, false, true, true, false, false, false, true, false, false, true, true, false, false, false, false, false, false, false, false, false, false, false, false, false, false] rfl rfl (any_of HT_.out (by kernel_rfl)) (fun _ _ _ h => h) (Or.inl ⟨by rfl, ?_⟩) ?_ ?_
 rotate_left
 ·exact tW
 rotate_left
 ·exact tP
 refine pure_ (i := 25) (N := some 30) (v := ?_) (a' := ?_) #[true, false, false, true, true, false, false, false, true, true, false, false, true, true, false, false, false, true, false, false, true, true, false, false, false, true, false, false, false, false, false, false, false, false, false, false] rfl rfl (any_of HT_.out (by kernel_rfl)) (fun _ _ _ h => h) (Or.inl ⟨by rfl, ?_⟩) ?_ ?_
 rotate_left
 ·exact tW
 rotate_left
 ·exact tP
 refine pure_ (i := 26) (N := some 31) (v := ?_) (a' := ?_) #[true, false, false, true, true, false, false, false, true, true, false, false, true, true, false, false, false, true, false, false, true, true, false, false, false, true, true, false, false, false, false, false, false, false, false, false] rfl rfl (any_of HT_.out (by kernel_rfl)) (fun _ _ _ h => h) (Or.inl ⟨by rfl, ?_⟩) ?_ ?_
 rotate_left
 ·exact tW
 rotate_left
 ·exact tP
 refine pure_ (i := 29) (N := some 34) (v := ?_) (a' := ?_) #[true, false, false, true, true, false, false, false, true, true, false, false, true, true, false, false, false, true, false, false, true, true, false, false, false, true, true, false, false, true, false, false, false, false, false, false] rfl rfl (any_of HT_.out (by kernel_rfl)) (fun _ _ _ h => h) (Or.inl ⟨by rfl, ?_⟩) ?_ ?_
 rotate_left
 ·exact tW
 rotate_left
 ·exact tP
 refine pure_ (i := 30) (N := some 35) (v := ?_) (a' := ?_) #[true, false, false, true, true, false, false, false, true, true, false, false, true, true, false, false, false, true, false, false, true, true, false, false, false, true, true, false, false, true, true, false, false, false, false, false] rfl rfl (any_of HT_.out (by kernel_rfl)) (fun _ _ _ h => h) (Or.inl ⟨by rfl, ?_⟩) ?_ ?_
 rotate_left
 ·exact tW
 rotate_left
 ·exact tP
 refine take_ (i := 1) (N := some 6) (v := ?_) (a' := ?_) #[true, true, false, true, true, false, false, false, true, true, false, false, true, true, false, false, false, true, false, false, true, true, false, false, false, true, true, false, false, true, true, false, false, false, false, false] rfl rfl (take_ofW HT_.out HW_.out (by kernel_rfl)) (fun _ _ _ h => h) (Or.inl ⟨by rfl, ?_⟩) hHeld ?_ ?_
 rotate_left
 ·rintro w' ⟨s0, s1, s2, s3, s4, s5, s6, s7, s8, s9, s10, s11⟩
  go_simp
  with_reducible rfl
 rotate_left
 ·exact tP
 refine pure_ (i := 2) (N := some 7) (v := ?_) (a' := ?_) #[true, true, true, true, true, false, false, false, true, true, false, false, true, true, false, false, false, true, false, false, true, true, false, false, false, true, true, false, false, true, true, false, false, false, false, false] rfl rfl (any_of HT_.out (by kernel_rfl)) (fun _ _ _ h => h) (Or.inl ⟨by rfl, ?_⟩) ?_ ?_
 rotate_left
 ·exact tW
 rotate_left
 ·exact tP
 refine take_ (i := 5) (N := some 10) (v := ?_) (a' := ?_) #[true, true, true, true, true, true, false, false, true, true, false, false, true, true, false, false, false, true, false, false, true, true, false, false, false, true, true, false, false, true, true, false, false, false, false, false] rfl rfl (take_ofW HT_.out HW_.out (by kernel_rfl)) (fun _ _ _ h => h) (Or.inl ⟨by rfl, ?_⟩) hHeld ?_ ?_
 rotate_left
 ·rintro w' ⟨s0, s1, s2, s3, s4, s5, s6, s7, s8, s9, s10, s11⟩
  go_simp
  with_reducible rfl
 rotate_left
 ·exact tP
 refine pure_ (i := 6) (N := some 11) (v := ?_) (a' := ?_) #[true, true, true, true, true, true, true, false, true, true, false, false, true, true, false, false, false, true, false, false, true, true, false, false, false, true, true, false, false, true, true, false, false, false, false, false] rfl rfl (any_of HT_.out (by kernel_rfl)) (fun _ _ _ h => h) (Or.inl ⟨by rfl, ?_⟩) ?_ ?_
 rotate_left
 ·exact tW
 rotate_left
 ·exact tP
 refine pure_ (i := 7) (N := some 12) (v := ?_) (a' := ?_) #[true, true, true, true, true, true, true, true, true, true, false, false, true, true, false, false, false, true, false, false, true, true, false, false, false, true, true, false, false, true, true, false, false, false, false, false] rfl rfl (any_of HT_.out (by kernel_rfl)) (fun _ _ _ h => h) (Or.inl ⟨by rfl, ?_⟩) ?_ ?_
 rotate_left
 ·exact tW
 rotate_left
 ·exact tP
 refine take_ (i := 10) (N := some 15) (v := ?_) (a' := ?_) #[true, true, true, true, true, true, true, true, true, true, true, false, true, true, false, false, false, true, false, false, true, true, false, false, false, true, true, false, false, true, true, false, false, false, false, false] rfl rfl (take_ofW HT_.out HW_.out (by kernel_rfl)) (fun _ _ _ h => h) (Or.inl ⟨by rfl, ?_⟩) hHeld ?_ ?_
 rotate_left
 ·rintro w' ⟨s0, s1, s2, s3, s4, s5, s6, s7, s8, s9, s10, s11⟩
  go_simp
  with_reducible rfl
 rotate_left
 ·exact tP
 refine pure_ (i := 11) (N := some 16) (v := ?_) (a' := ?_) #[true, true, true, true, true, true, true, true, true, true, true, true, true, true, false, false, false, true, false, false, true, true, false, false, false, true, true, false, false, true, true, false, false, false, false, false] rfl rfl (any_of HT_.out (by kernel_rfl)) (fun _ _ _ h => h) (Or.inl ⟨by rfl, ?_⟩) ?_ ?_
 rotate_left
 ·exact tW
 rotate_left
 ·exact tP
 refine take_ (i := 14) (N := some 19) (v := ?_) (a' := ?_) #[true, true, true, true, true, true, true, true, true, true, true, true, true, true, true, false, false, true, false, false, true, true, false, false, false, true, true, false, false, true, true, false, false, false, false, false] rfl rfl (take_ofW HT_.out HW_.out (by kernel_rfl)) (fun _ _ _ h => h) (Or.inl ⟨by rfl, ?_⟩) hHeld ?_ ?_
 rotate_left
 ·rintro w' ⟨s0, s1, s2, s3, s4, s5, s6, s7, s8, s9, s10, s11⟩
  go_simp
  with_reducible rfl
 rotate_left
 ·exact tP
 refine pure_ (i := 15) (N := some 20) (v := ?_) (a' := ?_) #[true, true, true, true, true, true, true, true, true, true, true, true, true, true, true, true, false, true, false, false, true, true, false, false, false, true, true, false, false, true, true, false, false, false, false, false] rfl rfl (any_of HT_.out (by kernel_rfl)) (fun _ _ _ h => h) (Or.inl ⟨by rfl, ?_⟩) ?_ ?_
 rotate_left
 ·exact tW
 rotate_left
 ·exact tP
 refine take_ (i := 18) (N := some 23) (v := ?_) (a' := ?_) #[true, true, true, true, true, true, true, true, true, true, true, true, true, true, true, true, false, true, true, false, true, true, false, false, false, true, true, false, false, true, true, false, false, false, false, false] rfl rfl (take_ofW HT_.out HW_.out (by kernel_rfl)) (fun _ _ _ h => h) (Or.inl ⟨by rfl, ?_⟩) hHeld ?_ ?_
 rotate_left
 ·rintro w' ⟨s0, s1, s2, s3, s4, s5, s6, s7, s8, s9, s10, s11⟩
  go_simp
  with_reducible rfl
 rotate_left
 ·exact tP
 refine pure_ (i := 19) (N := some 24) (v := ?_) (a' := ?_) #[true, true, true, true, true, true, true, true, true, true, true, true, true, true, true, true, false, true, true, true, true, true, false, false, false, true, true, false, false, true, true, false, false, false, false, false] rfl rfl (any_of HT_.out (by kernel_rfl)) (fun _ _ _ h => h) (Or.inl ⟨by rfl, ?_⟩) ?_ ?_
 rotate_left
 ·exact tW
 rotate_left
 ·exact tP
 refine take_ (i := 22) (N := some 27) (v := ?_) (a' := ?_) #[true, true, true, true, true, true, true, true, true, true, true, true, true, true, true, true, false, true, true, true, true, true, true, false, false, true, true, false, false, true, true, false, false, false, false, false] rfl rfl (take_ofW HT_.out HW_.out (by kernel_rfl)) (fun _ _ _ h => h) (Or.inl ⟨by rfl, ?_⟩) hHeld ?_ ?_
 rotate_left
 ·rintro w' ⟨s0, s1, s2, s3, s4, s5, s6, s7, s8, s9, s10, s11⟩
  go_simp
  with_reducible rfl
 rotate_left
 ·exact tP
 refine pure_ (i := 23) (N := some 28) (v := ?_) (a' := ?_) #[true, true, true, true, true, true, true, true, true, true, true, true, true, true, true, true, false, true, true, true, true, true, true, true, false, true, true, false, false, true, true, false, false, false, false, false] rfl rfl (any_of HT_.out (by kernel_rfl)) (fun _ _ _ h => h) (Or.inl ⟨by rfl, ?_⟩) ?_ ?_
 rotate_left
 ·exact tW
 rotate_left
 ·exact tP
 refine pure_ (i := 24) (N := some 29) (v := ?_) (a' := ?_) #[true, true, true, true, true, true, true, true, true, true, true, true, true, true, true, true, false, true, true, true, true, true, true, true, true, true, true, false, false, true, true, false, false, false, false, false] rfl rfl (any_of HT_.out (by kernel_rfl)) (fun _ _ _ h => h) (Or.inl ⟨by rfl, ?_⟩) ?_ ?_
 rotate_left
 ·exact tW
 rotate_left
 ·exact tP
 refine take_ (i := 27) (N := some 32) (v := ?_) (a' := ?_) #[true, true, true, true, true, true, true, true, true, true, true, true, true, true, true, true, false, true, true, true, true, true, true, true, true, true, true, true, false, true, true, false, false, false, false, false] rfl rfl (take_ofW HT_.out HW_.out (by kernel_rfl)) (fun _ _ _ h => h) (Or.inl ⟨by rfl, ?_⟩) hHeld ?_ ?_
 rotate_left
 ·rintro w' ⟨s0, s1, s2, s3, s4, s5, s6, s7, s8, s9, s10, s11⟩
  go_simp
  with_reducible rfl
 rotate_left
 ·exact tP
 refine pure_ (i := 28) (N := some 33) (v := ?_) (a' := ?_) #[true, true, true, true, true, true, true, true, true, true, true, true, true, true, true, true, false, true, true, true, true, true, true, true, true, true, true, true, true, true, true, false, false, false, false, false] rfl rfl (any_of HT_.out (by kernel_rfl)) (fun _ _ _ h => h) (Or.inl ⟨by rfl, ?_⟩) ?_ ?_
 rotate_left
 ·exact tW
 rotate_left
 ·exact tP
 refine take_ (i := 31) (N := some 36) (v := ?_) (a' := ?_) #[true, true, true, true, true, true, true, true, true, true, true, true, true, true, true, true, false, true, true, true, true, true, true, true, true, true, true, true, true, true, true, true, false, false, false, false] rfl rfl (take_ofW HT_.out HW_.out (by kernel_rfl)) (fun _ _ _ h => h) (Or.inl ⟨by rfl, ?_⟩) hHeld ?_ ?_
 rotate_left
 ·rintro w' ⟨s0, s1, s2, s3, s4, s5, s6, s7, s8, s9, s10, s11⟩
  go_simp
  with_reducible rfl
 rotate_left
 ·exact tP
 refine pure_ (i := 32) (N := some 37) (v := ?_) (a' := ?_) #[true, true, true, true, true, true, true, true, true, true, true, true, true, true, true, true, false, true, true, true, true, true, true, true, true, true, true, true, true, true, true, true, true, false, false, false] rfl rfl (any_of HT_.out (by kernel_rfl)) (fun _ _ _ h => h) (Or.inl ⟨by rfl, ?_⟩) ?_ ?_
 rotate_left
 ·exact tW
 rotate_left
 ·exact tP
 refine one_ (i := 16) (N := some 21) #[true, true, true, true, true, true, true, true, true, true, true, true, true, true, true, true, true, true, true, true, true, true, true, true, true, true, true, true, true, true, true, true, true, false, false, false] rfl rfl (one_of HT_.out (by kernel_rfl)) (by decide) (fun K hK => ?_)
 refine goes_ Try.func160 (by kernel_rfl) rfl #[.int .i64 (wrap64 ((wrap64 ((wrap64 (200 * a1_0)) * a0_4)) * 113)), .int .i64 (wrap64 ((wrap64 (355 * a0_1)) * a0_3))] (by rfl) rfl rfl tM ?_
 with_reducible refine (strength_down.calls (wrap64 ((wrap64 ((wrap64 (200 * a1_0)) * a0_4)) * 113)) (wrap64 ((wrap64 (355 * a0_1)) * a0_3)) t630 _ A3.out).mono ?_
 rintro e w' ⟨rfl, ⟨nd, rfl⟩⟩
 refine ⟨_, rfl, ?_⟩
 refine hK.out _ _ ⟨(blk_cell BK628.out 0).trans rfl, (blk_cell BK628.out 1).trans rfl, (blk_cell BK627.out 0).trans rfl, (blk_cell BK627.out 1).trans rfl, (blk_cell BK627.out 2).trans rfl, (blk_cell BK627.out 3).trans rfl, (blk_cell BK627.out 4).trans rfl, (blk_cell BK627.out 5).trans rfl, (blk_cell BK627.out 6).trans rfl, (blk_cell BK627.out 7).trans rfl, (blk_cell BK627.out 8).trans rfl, (blk_cell BK627.out 9).trans rfl⟩ (fun hHeld => ?_)
 clear hK K
 refine norm_ (a' := ?_) ?_ ?_
 rotate_left
 ·show Act.put _ (some 21) _ = _
  exact tP
 refine one_ (i := 33) (N := some 38) #[true, true, true, true, true, true, true, true, true, true, true, true, true, true, true, true, true, true, true, true, true, true, true, true, true, true, true, true, true, true, true, true, true, true, false, false] rfl rfl (one_of HT_.out (by kernel_rfl)) (by decide) (fun K hK => ?_)
 refine goes_ Try.func145 (by kernel_rfl) rfl #[.int .i64 (wrap64 ((wrap64 ((wrap64 (200 * a1_1)) * a0_5)) * 106)), .int .i64 (wrap64 ((wrap64 (333 * a0_0)) * a0_2))] (by rfl) rfl rfl tM ?_
 with_reducible refine (strength_up.calls (wrap64 ((wrap64 ((wrap64 (200 * a1_1)) * a0_5)) * 106)) (wrap64 ((wrap64 (333 * a0_0)) * a0_2)) t631 _ A4.out).mono ?_
 rintro e w' ⟨rfl, ⟨nd, rfl⟩⟩
 refine ⟨_, rfl, ?_⟩
 refine hK.out _ _ ⟨(blk_cell BK628.out 0).trans rfl, (blk_cell BK628.out 1).trans rfl, (blk_cell BK627.out 0).trans rfl, (blk_cell BK627.out 1).trans rfl, (blk_cell BK627.out 2).trans rfl, (blk_cell BK627.out 3).trans rfl, (blk_cell BK627.out 4).trans rfl, (blk_cell BK627.out 5).trans rfl, (blk_cell BK627.out 6).trans rfl, (blk_cell BK627.out 7).trans rfl, (blk_cell BK627.out 8).trans rfl, (blk_cell BK627.out 9).trans rfl⟩ (fun hHeld => ?_)
 clear hK K
 refine norm_ (a' := ?_) ?_ ?_
 rotate_left
 ·show Act.put _ (some 38) _ = _
  exact tP
 refine pure_ (i := 34) (N := some 39) (v := ?_) (a' := ?_) #[true, true, true, true, true, true, true, true, true, true, true, true, true, true, true, true, true, true, true, true, true, true, true, true, true, true, true, true, true, true, true, true, true, true, true, false] rfl rfl (any_of HT_.out (by kernel_rfl)) (fun _ _ _ h => h) (Or.inl ⟨by rfl, ?_⟩) ?_ ?_
 rotate_left
 ·exact tW
 rotate_left
 ·exact tP
 refine one_ (i := 35) (N := none) #[true, true, true, true, true, true, true, true, true, true, true, true, true, true, true, true, true, true, true, true, true, true, true, true, true, true, true, true, true, true, true, true, true, true, true, true] rfl rfl (one_of HT_.out (by kernel_rfl)) (by decide) (fun K hK => ?_)
 have hs9 : w8.cell? ⟨gb629, 0, none⟩ = some (.int .i64 0) := (blk_cell BK629.out 0).trans rfl
 have hfs9 := blk_frozen BK629.out 0; have hns9_0 := NB627_629.out; have hns9_1 := NB628_629.out; have hms9_0 := NB629_627.out; have hms9_1 := NB629_628.out
 have hs10 : w8.cell? ⟨gb629, 1, none⟩ = some (.int .i64 0) := (blk_cell BK629.out 1).trans rfl
 have hfs10 := blk_frozen BK629.out 1; have hns10_0 := NB627_629.out; have hns10_1 := NB628_629.out; have hms10_0 := NB629_627.out; have hms10_1 := NB629_628.out
 refine skip_ (w1 := ?_) (by rfl) rfl ?_ ?_
 rotate_left
 ·go_simp
  rfl
 refine hK.out _ _ ⟨((cell_far (p := ⟨gb629, _, none⟩) NB628_629.out _).trans (((cell_far (p := ⟨gb629, _, none⟩) NB628_629.out _).trans (hHeld.1)))), ((cell_far (p := ⟨gb629, _, none⟩) NB628_629.out _).trans (((cell_far (p := ⟨gb629, _, none⟩) NB628_629.out _).trans (hHeld.2.1)))), ((cell_far (p := ⟨gb629, _, none⟩) NB627_629.out _).trans (((cell_far (p := ⟨gb629, _, none⟩) NB627_629.out _).trans (hHeld.2.2.1)))), ((cell_far (p := ⟨gb629, _, none⟩) NB627_629.out _).trans (((cell_far (p := ⟨gb629, _, none⟩) NB627_629.out _).trans (hHeld.2.2.2.1)))), ((cell_far (p := ⟨gb629, _, none⟩) NB627_629.out _).trans (((cell_far (p := ⟨gb629, _, none⟩) NB627_629.out _).trans (hHeld.2.2.2.2.1)))), ((cell_far (p := ⟨gb629, _, none⟩) NB627_629.out _).trans (((cell_far (p := ⟨gb629, _, none⟩) NB627_629.out _).trans (hHeld.2.2.2.2.2.1)))), ((cell_far (p := ⟨gb629, _, none⟩) NB627_629.out _).trans (((cell_far (p := ⟨gb629, _, none⟩) NB627_629.out _).trans (hHeld.2.2.2.2.2.2.1)))), ((cell_far (p := ⟨gb629, _, none⟩) NB627_629.out _).trans (((cell_far (p := ⟨gb629, _, none⟩) NB627_629.out _).trans (hHeld.2.2.2.2.2.2.2.1)))), ((cell_far (p := ⟨gb629, _, none⟩) NB627_629.out _).trans (((cell_far (p := ⟨gb629, _, none⟩) NB627_629.out _).trans (hHeld.2.2.2.2.2.2.2.2.1)))), ((cell_far (p := ⟨gb629, _, none⟩) NB627_629.out _).trans (((cell_far (p := ⟨gb629, _, none⟩) NB627_629.out _).trans (hHeld.2.2.2.2.2.2.2.2.2.1)))), ((cell_far (p := ⟨gb629, _, none⟩) NB627_629.out _).trans (((cell_far (p := ⟨gb629, _, none⟩) NB627_629.out _).trans (hHeld.2.2.2.2.2.2.2.2.2.2.1)))), ((cell_far (p := ⟨gb629, _, none⟩) NB627_629.out _).trans (((cell_far (p := ⟨gb629, _, none⟩) NB627_629.out _).trans (hHeld.2.2.2.2.2.2.2.2.2.2.2))))⟩ (fun hHeld => ?_)
 clear hK K
 refine done_ (done_of HT_.out (by kernel_rfl)) ?_
 try go_wp2
 refine bodyPost_ret (results_cell_row rfl _ _ gb629 27 #[.int .i64 t630, .int .i64 t631] (0, 0) _ rfl (by (with_reducible repeat (first | refine blk_drewN ?_ _ | refine blk_drew ?_ | refine blk_alloc ?_ _)); refine blk_put (cs := #[.int .i64 t630, .int .i64 0]) ?_ 1 _ rfl; (with_reducible repeat (first | refine blk_drewN ?_ _ | refine blk_drew ?_ | refine blk_alloc ?_ _)); refine blk_put (cs := #[.int .i64 0, .int .i64 0]) ?_ 0 _ rfl; (with_reducible repeat (first | refine blk_drewN ?_ _ | refine blk_drew ?_ | refine blk_alloc ?_ _)); exact BK629.out) Try.underlying27 rfl (by kernel_rfl)) rfl ?_
 exact ⟨tE, bBl HB.out⟩
end Go.Proofs.Ytkjkokgbhepmoaa.PB

