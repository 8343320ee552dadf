import Derived.Test.YtkjkokgbhepmoaaS3
import Derived.Sort.WalkA
import Derived.Sort.WalkC
import Derived.Sort.LotA
import Derived.BigRegion
import Derived.Laws.BitsLemmas
import Derived.Shelf.Small.Bits
import Derived.Shelf.Strconv.Itoa0
import Derived.Lib.Hide
import Derived.Deep.RegionWith
import Derived.Deep.DeepCutAuto
import Derived.Shelf.Abstract
set_option linter.unusedVariables false
set_option linter.unusedSimpArgs false
namespace Go.Proofs.Ytkjkokgbhepmoaa.PB
open Go.RowKit Go.Proofs.YtkjkokgbhepmoaaW.PrintWords Go.Proofs.YtkjkokgbhepmoaaW.PrintLast Go.Proofs.YtkjkokgbhepmoaaW.PrintMore
attribute [local go_sem] max2_int min2_int max_two min_two max_three min_three max_four min_four
mutual
def batch_grams.l0 : Nat → List Int → List (S27) → List (S63) → Int → Int → Option ((List (S27)))
 | 0, _, _, _, _, _ => none
 | k + 1, x1, x5, x15, x16, x17 => if x17 < x16 then (if 0 ≤ x17 then (if x17 < (x15.length : Int) then (batch_grams.l1 k x1 x5 x17 x15 x16 x17 ((rd_T63 x15 x17).f6) (((rd_T63 x15 x17).f6).length : Int) 0) else (none)) else (none)) else (some x5)
def batch_grams.l1 : Nat → List Int → List (S27) → Int → List (S63) → Int → Int → List (S27) → Int → Int → Option ((List (S27)))
 | 0, _, _, _, _, _, _, _, _, _ => none
 | k + 1, x1, x5, x6, x15, x16, x17, x23, x24, x25 => if x25 < x24 then (if 0 ≤ x25 then (if x25 < (x23.length : Int) then (if x25 < (x5.length : Int) then (if 0 ≤ x6 then (if x6 < (x1.length : Int) then ((some (x5.set (x25 : Int).toNat (⟨wrap64 (((rd_T27 x5 x25).f0) + (wrap64 ((rd x1 x6) * ((rd_T27 x23 x25).f0)))), (rd_T27 x5 x25).f1⟩ : S27) : List (S27))).bind fun y164 => (batch_grams.l1 k x1 (y164.set (x25 : Int).toNat (⟨(rd_T27 y164 x25).f0, wrap64 (((rd_T27 y164 x25).f1) + (wrap64 ((rd x1 x6) * ((rd_T27 x23 x25).f1))))⟩ : S27)) x6 x15 x16 x17 x23 x24 (wrap64 (x25 + 1)))) else (none)) else (none)) else (none)) else (none)) else (none)) else (batch_grams.l0 k x1 x5 x15 x16 (wrap64 (x17 + 1)))
end
def batch_grams.f (k : Nat) (l0_0 : List ByteArray) (l0_1 : List (S63)) (l0_2 : List (S27)) (l0_3 : List (S65)) (a0_4 : Int) (a0_5 : Int) (a0_6 : Int) (l1 : List Int) : Option ((List (S27))) := if 0 ≤ (l0_0.length : Int) then (if ((l0_0.length : Int) : Int).toNat ≤ 17592186044416 then (batch_grams.l0 k l1 (List.replicate ((l0_0.length : Int) : Int).toNat z27) l0_1 (l0_1.length : Int) 0) else (none)) else (none)
theorem batch_grams.mono_l : ∀ k, (∀ y0 y1 y2 y3 y4, LeO (batch_grams.l0 k y0 y1 y2 y3 y4) (batch_grams.l0 (k + 1) y0 y1 y2 y3 y4)) ∧ (∀ y0 y1 y2 y3 y4 y5 y6 y7 y8, LeO (batch_grams.l1 k y0 y1 y2 y3 y4 y5 y6 y7 y8) (batch_grams.l1 (k + 1) y0 y1 y2 y3 y4 y5 y6 y7 y8))
 | 0 => ⟨fun _ _ _ _ _ r h => by simp [batch_grams.l0] at h, fun _ _ _ _ _ _ _ _ _ r h => by simp [batch_grams.l1] at h⟩
 | k + 1 => by
  obtain ⟨ih0, ih1⟩ := batch_grams.mono_l k
  refine ⟨?_, ?_⟩
  ·intro y0 y1 y2 y3 y4
   unfold batch_grams.l0
   repeat' first
   | (with_reducible exact ih0 _ _ _ _ _)
   | (with_reducible exact ih1 _ _ _ _ _ _ _ _ _)
   | (with_reducible exact LeO.refl _)
   | (with_reducible exact LeO.none _)
   | (with_reducible refine LeO.ite ?_ ?_)
   | (with_reducible refine LeO.bind ?_ (fun _ => ?_))
   | exact LeO.none _
   | refine LeO.ite ?_ ?_
   | refine LeO.bind ?_ (fun _ => ?_)
  ·intro y0 y1 y2 y3 y4 y5 y6 y7 y8
   unfold batch_grams.l1
   repeat' first
   | (with_reducible exact ih0 _ _ _ _ _)
   | (with_reducible exact ih1 _ _ _ _ _ _ _ _ _)
   | (with_reducible exact LeO.refl _)
   | (with_reducible exact LeO.none _)
   | (with_reducible refine LeO.ite ?_ ?_)
   | (with_reducible refine LeO.bind ?_ (fun _ => ?_))
   | exact LeO.none _
   | refine LeO.ite ?_ ?_
   | refine LeO.bind ?_ (fun _ => ?_)
theorem batch_grams.mono : ∀ a0 a1 a2 a3 a4 a5 a6 a7 k, LeO (batch_grams.f k a0 a1 a2 a3 a4 a5 a6 a7) (batch_grams.f (k + 1) a0 a1 a2 a3 a4 a5 a6 a7) := by
 intro a0 a1 a2 a3 a4 a5 a6 a7 k
 obtain ⟨ih0, ih1⟩ := batch_grams.mono_l k
 unfold batch_grams.f
 repeat' first
   | (with_reducible exact ih0 _ _ _ _ _)
   | (with_reducible exact ih1 _ _ _ _ _ _ _ _ _)
   | (with_reducible exact LeO.refl _)
   | (with_reducible exact LeO.none _)
   | (with_reducible refine LeO.ite ?_ ?_)
   | (with_reducible refine LeO.bind ?_ (fun _ => ?_))
   | exact LeO.none _
   | refine LeO.ite ?_ ?_
   | refine LeO.bind ?_ (fun _ => ?_)
def batch_grams.T8 : Bool × List (List Nat × List Nat) := (true, [([], []), ([], []), ([0, 1], [0, 1]), ([2], [2]), ([3], [3]), ([], []), ([], []), ([5, 6], [5, 6]), ([7], [7]), ([], []), ([9], [9]), ([8, 10], [8, 10]), ([4, 11], [4, 11]), ([0, 1, 0, 1, 2, 3, 4, 5, 6, 7, 8, 9, 10, 11, 12], [0, 1]), ([13, 0, 1, 2, 3, 4, 5, 6, 7, 8, 9, 10, 11, 12], [13]), ([14, 12, 0, 1, 2, 3, 4, 5, 6, 7, 8, 9, 10, 11, 12], [12, 14])])
def batch_grams.B8 : List Nat := [0, 0, 3, 7, 15, 0, 0, 96, 224, 0, 512, 2016, 4095, 8191, 16383, 32767]
theorem batch_grams.tab8 : rtab .any (opsOf Try.f47 8) = batch_grams.T8 := by kernel_rfl
theorem batch_grams.bits8 : waitsOk batch_grams.T8.2 batch_grams.B8 = true := by kernel_rfl
def batch_grams.T9 : Bool × List (List Nat × List Nat) := (true, [([], []), ([], []), ([0, 1], [0, 1]), ([2], [2]), ([3], [3]), ([], []), ([], []), ([5, 6], [5, 6]), ([7], [7]), ([], []), ([9], [9]), ([8, 10], [8, 10]), ([4, 11], [4, 11]), ([0, 1, 0, 1, 2, 3, 4, 5, 6, 7, 8, 9, 10, 11, 12], [0, 1]), ([13, 0, 1, 2, 3, 4, 5, 6, 7, 8, 9, 10, 11, 12], [13]), ([14, 12, 0, 1, 2, 3, 4, 5, 6, 7, 8, 9, 10, 11, 12], [12, 14])])
def batch_grams.B9 : List Nat := [0, 0, 3, 7, 15, 0, 0, 96, 224, 0, 512, 2016, 4095, 8191, 16383, 32767]
theorem batch_grams.tab9 : rtab .any (opsOf Try.f47 9) = batch_grams.T9 := by kernel_rfl
theorem batch_grams.bits9 : waitsOk batch_grams.T9.2 batch_grams.B9 = true := by kernel_rfl
set_option maxHeartbeats 8000000 in
set_option maxRecDepth 100000 in
theorem batch_grams.calls (k : Nat) (A0_0 : Option Addr) (c0_0 : Nat) (l0_0 : List ByteArray) (A0_1 : Option Addr) (c0_1 : Nat) (l0_1 : List (S63)) (A0_2 : Option Addr) (c0_2 : Nat) (l0_2 : List (S27)) (A0_3 : Option Addr) (c0_3 : Nat) (l0_3 : List (S65)) (a0_4 : Int) (a0_5 : Int) (a0_6 : Int) (A1 : Option Addr) (c1 : Nat) (l1 : List Int) (r : List (S27)) (w : World) (hr0_0 : Kd.C Kd.string w A0_0 l0_0.length l0_0) (hc0_0 : l0_0.length ≤ c0_0) (hr0_1 : Kd.C k63 w A0_1 l0_1.length l0_1) (hc0_1 : l0_1.length ≤ c0_1) (hr0_2 : Kd.C k27 w A0_2 l0_2.length l0_2) (hc0_2 : l0_2.length ≤ c0_2) (hr0_3 : Kd.C k65 w A0_3 l0_3.length l0_3) (hc0_3 : l0_3.length ≤ c0_3) (hr1 : Kd.C (Kd.int .i64) w A1 l1.length l1) (hc1 : l1.length ≤ c1) (h : batch_grams.f k l0_0 l0_1 l0_2 l0_3 a0_4 a0_5 a0_6 l1 = some r) :
  Calls Try.prog 47 #[.agg #[.slice A0_0 l0_0.length c0_0, .slice A0_1 l0_1.length c0_1, .slice A0_2 l0_2.length c0_2, .slice A0_3 l0_3.length c0_3, .int .i64 a0_4, .int .i64 a0_5, .int .i64 a0_6], .slice A1 l1.length c1] w fun e w' => ∃ v0_ : Value, e = .returned (v0_) ∧ Kd.R k27 27 w' w.heap.size (fun _ => True) v0_ r ∧ Below w.heap.size w w' := by
 have hu29 := Try.underlying29; have hu63 := Try.underlying63; have hu27 := Try.underlying27; have HR0_0 := Sd.mk hr0_0; have HC0_0 := Sd.mk hc0_0; clear hr0_0 hc0_0; have HR0_1 := Sd.mk hr0_1; have HC0_1 := Sd.mk hc0_1; clear hr0_1 hc0_1; have HR0_2 := Sd.mk hr0_2; have HC0_2 := Sd.mk hc0_2; clear hr0_2 hc0_2; have HR0_3 := Sd.mk hr0_3; have HC0_3 := Sd.mk hc0_3; clear hr0_3 hc0_3; have HR1 := Sd.mk hr1; have HC1 := Sd.mk hc1; clear hr1 hc1; have HB := Sd.mk (Below.refl w.heap.size w)
 have H : (if 0 ≤ (l0_0.length : Int) then (if ((l0_0.length : Int) : Int).toNat ≤ 17592186044416 then (batch_grams.l0 k l1 (List.replicate ((l0_0.length : Int) : Int).toNat z27) l0_1 (l0_1.length : Int) 0) else (none)) else (none)) = some r := h
 clear h
 by_cases c3 : 0 ≤ (l0_0.length : Int)
 ·rw [if_pos c3] at H
  have c3b0 := eq_true c3
  have c3b1 : decide (0 ≤ (l0_0.length : Int)) = true := decide_eq_true c3
  clear c3
  by_cases c4 : ((l0_0.length : Int) : Int).toNat ≤ 17592186044416
  ·rw [if_pos c4] at H
   have c4b0 := eq_true c4
   have c4b1 : decide (((l0_0.length : Int) : Int).toNat ≤ 17592186044416) = true := decide_eq_true c4
   clear c4
   obtain ⟨y155, hy155⟩ : ∃ y_ : List (S27), y_ = (List.replicate ((l0_0.length : Int) : Int).toNat z27) := ⟨_, rfl⟩
   replace H : (batch_grams.l0 k l1 y155 l0_1 (l0_1.length : Int) 0) = some r := by first | (rw [hy155]; with_reducible exact H) | (have H2_ := (Option.bind_some _ _).symm.trans H; rw [hy155]; with_reducible exact H2_) | (have H2_ := (Option.bind_some _ _).symm.trans H; with_reducible exact H2_) | with_reducible exact H | (rw [hy155]; exact H) | exact H
   have Ny155 := Sd.mk hy155; clear hy155; have H' := Sd.mk H; clear H
   go_enter Try.func47, Try.ntmps47
   go_wp2_with (first | ((with_reducible refine gate_dst (N := 2) rfl ?_); refine box_event ?hg (N := 2) ?hd (cs := #[.slice A0_0 l0_0.length c0_0, .slice A0_1 l0_1.length c0_1, .slice A0_2 l0_2.length c0_2, .slice A0_3 l0_3.length c0_3, .int .i64 a0_4, .int .i64 a0_5, .int .i64 a0_6]) (t := 29) ?hr ?_; (case hd => rfl); (case hg => rfl); (case hr => exact tG); intro gb154 hg w5 hbox hb; have BK154 := Sd.mk (hbox); have GW154 := Sd.mk (bSz hg (bBl HB.out)); have GE154 := Sd.mk (bSz hg (bBl HB.out)); replace HB := Sd.mk (below_step (bBl HB.out) hb); clear hb hbox hg; obtain ⟨u6_0, u6_1, u6_2, u6_3, u6_4, u6_5, u6_6, o6_0, o6_1, o6_2, o6_3, o6_4, o6_5, o6_6⟩ := bc7 (w := w5) BK154.out) | ((with_reducible refine gate_dst (N := 13) rfl ?_); refine Kd.R_make k27 _ 27 rfl (N := 13) rfl 24 _ _ rfl (l0_0.length : Int) rfl rfl Try.underlying24 (.agg #[(.int .i64 0), (.int .i64 0)]) 16 info27 rfl (by decide) (by omega) z27 (ok := fun _ => True) (okp := fun _ => True) (k27_mkM _ _ _ z27 ) (fun _ hk => hk) trivial (tB) (Nat.le_trans (Nat.mul_le_mul_right _ (tB : (l0_0.length : Int).toNat ≤ 17592186044416)) (by omega)) (Below.refl _ _) (Nat.le_refl _) ?_; intro v156 w7 ho8 hb hg_ hnew_; clear hg_ hnew_; (first | rw [← Ny155.out] at ho8 | (simp only [Int.reduceToNat] at ho8; rw [← Ny155.out] at ho8)); have HO157 := Sd.mk (Kd.R_lower ho8 (below_size (bBl HB.out))); replace BK154 := Sd.mk (blk_below (bkA BK154.out) hb); replace HB := Sd.mk (below_step (bBl HB.out) hb); clear hb ho8; obtain ⟨u9_0, u9_1, u9_2, u9_3, u9_4, u9_5, u9_6, o9_0, o9_1, o9_2, o9_3, o9_4, o9_5, o9_6⟩ := bc7 (w := w7) BK154.out))
   go_loopg [17] k (fun kq v17 w' => ∃ (x5_1 : List (S27)) (x17_1 : Int), v17 = .int .i64 x17_1 ∧ Sd (batch_grams.l0 kq l1 x5_1 l0_1 (l0_1.length : Int) x17_1 = some r) ∧ Sd (kq ≤ k) ∧ Sd (Kd.R k27 27 w' w.heap.size (fun _ => True) v156 x5_1) ∧ Sd (w'.heap[gb154]? = some (.cells #[(.slice A0_0 l0_0.length c0_0), (.slice A0_1 l0_1.length c0_1), (.slice A0_2 l0_2.length c0_2), (.slice A0_3 l0_3.length c0_3), .int .i64 a0_4, .int .i64 a0_5, .int .i64 a0_6] 29 (0, 0))) ∧ Sd (Below w.heap.size w w'))
   case atStart => exact ⟨(y155), (0), tS, H', ⟨Nat.le_refl _⟩, ⟨by (with_reducible repeat (first | apply Kd.R_alloc | apply Kd.R_drewN | apply Kd.R_drew)); exact HO157.out⟩, ⟨bkA BK154.out⟩, ⟨bBl HB.out⟩⟩
   case round =>
    clear H'; (try clear c1); (try clear p2); (try clear c3); (try clear c3b0); (try clear c3b1); (try clear c4); (try clear c4b0); (try clear c4b1); (try clear u6_0 u6_1 u6_2 u6_3 u6_4 u6_5 u6_6); (try clear u9_0 u9_1 u9_2 u9_3 u9_4 u9_5 u9_6); (try clear o6_0 o6_1 o6_2 o6_3 o6_4 o6_5 o6_6); (try clear o9_0 o9_1 o9_2 o9_3 o9_4 o9_5 o9_6); obtain ⟨x5_1, x17_1, rfl, HA, HK1, HO_5, BK154, HB⟩ := hrel
    cases gk with
    | zero => exact absurd HA.out (by simp [batch_grams.l0])
    | succ k1 =>
     have H := HA.out; clear HA
     simp only [batch_grams.l0] at H
     by_cases c10 : x17_1 < (l0_1.length : Int)
     ·rw [if_pos c10] at H
      have c10b0 : decide (x17_1 < (l0_1.length : Int)) = true := decide_eq_true c10
      clear c10
      by_cases c11 : 0 ≤ x17_1
      ·rw [if_pos c11] at H
       have c11b0 : decide (0 ≤ x17_1) = true := decide_eq_true c11
       clear c11
       by_cases c12 : x17_1 < (l0_1.length : Int)
       ·rw [if_pos c12] at H
        have c12b0 : decide (x17_1 < (l0_1.length : Int)) = true := decide_eq_true c12
        clear c12; have H' := Sd.mk H; clear H
        have p158 : 0 ≤ (x17_1 : Int) := tB
        have q158 : x17_1 < (l0_1.length : Int) := tB
        obtain ⟨ad158, A158_6, c158_6, e158, hx158_0, hx158_1, hx158_2, hx158_3, hx158_4, hx158_5, hx158_6, hl158_6, hi158_6⟩ := at_T63 HR0_1.out x17_1 p158 q158; cases e158; replace hx158_0 := cU HB hx158_0; replace hx158_1 := cU HB hx158_1; replace hx158_2 := cU HB hx158_2; replace hx158_3 := cU HB hx158_3; replace hx158_4 := cU HB hx158_4; replace hx158_5 := cU HB hx158_5; replace hx158_6 := cU HB hx158_6; have HR158_6 := Sd.mk hi158_6; have HC158_6 := Sd.mk hl158_6; clear hi158_6 hl158_6; replace p158 := eq_true p158; replace q158 := eq_true q158
        go_wp2_with (first | ((with_reducible refine gate_dst (N := 7) rfl ?_); refine box_event ?hg (N := 7) ?hd (cs := #[.string (⟨#[]⟩ : ByteArray), .int .i64 0, .int .i64 0, .int .i64 0, .int .i64 0, .int .i64 0, .slice none 0 0]) (t := 63) ?hr ?_; (case hd => rfl); (case hg => rfl); (case hr => exact tG); intro gb159 hg w13 hbox hb; replace HO_5 := Sd.mk (Kd.R_below (by (with_reducible repeat (first | apply Kd.R_alloc | apply Kd.R_drewN | apply Kd.R_drew)); exact HO_5.out) hb); have BK159 := Sd.mk (hbox); have GW159 := Sd.mk (bSz hg (bBl HB.out)); have GE159 := Sd.mk (bSz hg (bBl HB.out)); replace HB := Sd.mk (below_step (bBl HB.out) hb); have NB154_159 := Sd.mk (bNl hg (bkA BK154.out)); have NB159_154 := Sd.mk (bNg hg (bkA BK154.out)); replace BK154 := Sd.mk (blk_below (bkA BK154.out) hb); clear hb hbox hg; have hnb14 := NB159_154.out; have hnc14 := NB154_159.out; obtain ⟨u15_0, u15_1, u15_2, u15_3, u15_4, u15_5, u15_6, o15_0, o15_1, o15_2, o15_3, o15_4, o15_5, o15_6⟩ := bc7 (w := w13) BK159.out))
        go_loopg [25] k1 (fun kq v25 w' => ∃ (x5_2 : List (S27)) (x25_2 : Int), v25 = .int .i64 x25_2 ∧ Sd (batch_grams.l1 kq l1 x5_2 x17_1 l0_1 (l0_1.length : Int) x17_1 ((rd_T63 l0_1 x17_1).f6) (((rd_T63 l0_1 x17_1).f6).length : Int) x25_2 = some r) ∧ Sd (kq ≤ k1) ∧ Sd (Kd.R k27 27 w' w.heap.size (fun _ => True) v156 x5_2) ∧ Sd (w'.heap[gb154]? = some (.cells #[(.slice A0_0 l0_0.length c0_0), (.slice (some ad158) l0_1.length c0_1), (.slice A0_2 l0_2.length c0_2), (.slice A0_3 l0_3.length c0_3), .int .i64 a0_4, .int .i64 a0_5, .int .i64 a0_6] 29 (0, 0))) ∧ Sd (w'.heap[gb159]? = some (.cells #[.string ((rd_T63 l0_1 x17_1).f0), .int .i64 ((rd_T63 l0_1 x17_1).f1), .int .i64 ((rd_T63 l0_1 x17_1).f2), .int .i64 ((rd_T63 l0_1 x17_1).f3), .int .i64 ((rd_T63 l0_1 x17_1).f4), .int .i64 ((rd_T63 l0_1 x17_1).f5), (.slice A158_6 ((rd_T63 l0_1 x17_1).f6).length c158_6)] 63 (0, 0))) ∧ Sd (Below w.heap.size w w'))
        case atStart => exact ⟨(x5_1), (0), tS, H', ⟨Nat.le_refl _⟩, ⟨by (with_reducible repeat (first | apply Kd.R_alloc | apply Kd.R_drewN | apply Kd.R_drew)); exact Kd.R_mono (Kd.R_far (p := ⟨gb159, 6, none⟩) (Kd.R_far (p := ⟨gb159, 5, none⟩) (Kd.R_far (p := ⟨gb159, 4, none⟩) (Kd.R_far (p := ⟨gb159, 3, none⟩) (Kd.R_far (p := ⟨gb159, 2, none⟩) (Kd.R_far (p := ⟨gb159, 1, none⟩) (Kd.R_far (p := ⟨gb159, 0, none⟩) (Kd.R_types HO_5.out BK159.out (by decide)) (fun _ hk => hk.2) (.string ((rd_T63 l0_1 x17_1).f0))) (fun _ hk => hk.2) (.int .i64 ((rd_T63 l0_1 x17_1).f1))) (fun _ hk => hk.2) (.int .i64 ((rd_T63 l0_1 x17_1).f2))) (fun _ hk => hk.2) (.int .i64 ((rd_T63 l0_1 x17_1).f3))) (fun _ hk => hk.2) (.int .i64 ((rd_T63 l0_1 x17_1).f4))) (fun _ hk => hk.2) (.int .i64 ((rd_T63 l0_1 x17_1).f5))) (fun _ hk => hk.2) (.slice A158_6 ((rd_T63 l0_1 x17_1).f6).length c158_6)) (fun _ hk => trivial)⟩, ⟨by (with_reducible repeat (first | refine blk_drewN ?_ _ | refine blk_drew ?_ | refine blk_alloc ?_ _)); refine blk_far ?_ NB154_159.out _; (with_reducible repeat (first | refine blk_drewN ?_ _ | refine blk_drew ?_ | refine blk_alloc ?_ _)); refine blk_far ?_ NB154_159.out _; (with_reducible repeat (first | refine blk_drewN ?_ _ | refine blk_drew ?_ | refine blk_alloc ?_ _)); refine blk_far ?_ NB154_159.out _; (with_reducible repeat (first | refine blk_drewN ?_ _ | refine blk_drew ?_ | refine blk_alloc ?_ _)); refine blk_far ?_ NB154_159.out _; (with_reducible repeat (first | refine blk_drewN ?_ _ | refine blk_drew ?_ | refine blk_alloc ?_ _)); refine blk_far ?_ NB154_159.out _; (with_reducible repeat (first | refine blk_drewN ?_ _ | refine blk_drew ?_ | refine blk_alloc ?_ _)); refine blk_far ?_ NB154_159.out _; (with_reducible repeat (first | refine blk_drewN ?_ _ | refine blk_drew ?_ | refine blk_alloc ?_ _)); refine blk_far ?_ NB154_159.out _; (with_reducible repeat (first | refine blk_drewN ?_ _ | refine blk_drew ?_ | refine blk_alloc ?_ _)); exact BK154.out⟩, ⟨by (with_reducible repeat (first | refine blk_drewN ?_ _ | refine blk_drew ?_ | refine blk_alloc ?_ _)); refine blk_put (cs := #[.string ((rd_T63 l0_1 x17_1).f0), .int .i64 ((rd_T63 l0_1 x17_1).f1), .int .i64 ((rd_T63 l0_1 x17_1).f2), .int .i64 ((rd_T63 l0_1 x17_1).f3), .int .i64 ((rd_T63 l0_1 x17_1).f4), .int .i64 ((rd_T63 l0_1 x17_1).f5), .slice none 0 0]) ?_ 6 _ rfl; (with_reducible repeat (first | refine blk_drewN ?_ _ | refine blk_drew ?_ | refine blk_alloc ?_ _)); refine blk_put (cs := #[.string ((rd_T63 l0_1 x17_1).f0), .int .i64 ((rd_T63 l0_1 x17_1).f1), .int .i64 ((rd_T63 l0_1 x17_1).f2), .int .i64 ((rd_T63 l0_1 x17_1).f3), .int .i64 ((rd_T63 l0_1 x17_1).f4), .int .i64 0, .slice none 0 0]) ?_ 5 _ rfl; (with_reducible repeat (first | refine blk_drewN ?_ _ | refine blk_drew ?_ | refine blk_alloc ?_ _)); refine blk_put (cs := #[.string ((rd_T63 l0_1 x17_1).f0), .int .i64 ((rd_T63 l0_1 x17_1).f1), .int .i64 ((rd_T63 l0_1 x17_1).f2), .int .i64 ((rd_T63 l0_1 x17_1).f3), .int .i64 0, .int .i64 0, .slice none 0 0]) ?_ 4 _ rfl; (with_reducible repeat (first | refine blk_drewN ?_ _ | refine blk_drew ?_ | refine blk_alloc ?_ _)); refine blk_put (cs := #[.string ((rd_T63 l0_1 x17_1).f0), .int .i64 ((rd_T63 l0_1 x17_1).f1), .int .i64 ((rd_T63 l0_1 x17_1).f2), .int .i64 0, .int .i64 0, .int .i64 0, .slice none 0 0]) ?_ 3 _ rfl; (with_reducible repeat (first | refine blk_drewN ?_ _ | refine blk_drew ?_ | refine blk_alloc ?_ _)); refine blk_put (cs := #[.string ((rd_T63 l0_1 x17_1).f0), .int .i64 ((rd_T63 l0_1 x17_1).f1), .int .i64 0, .int .i64 0, .int .i64 0, .int .i64 0, .slice none 0 0]) ?_ 2 _ rfl; (with_reducible repeat (first | refine blk_drewN ?_ _ | refine blk_drew ?_ | refine blk_alloc ?_ _)); refine blk_put (cs := #[.string ((rd_T63 l0_1 x17_1).f0), .int .i64 0, .int .i64 0, .int .i64 0, .int .i64 0, .int .i64 0, .slice none 0 0]) ?_ 1 _ rfl; (with_reducible repeat (first | refine blk_drewN ?_ _ | refine blk_drew ?_ | refine blk_alloc ?_ _)); refine blk_put (cs := #[.string (⟨#[]⟩ : ByteArray), .int .i64 0, .int .i64 0, .int .i64 0, .int .i64 0, .int .i64 0, .slice none 0 0]) ?_ 0 _ rfl; (with_reducible repeat (first | refine blk_drewN ?_ _ | refine blk_drew ?_ | refine blk_alloc ?_ _)); exact BK159.out⟩, ⟨bBl HB.out⟩⟩
        case round =>
         clear H'; (try clear c1); (try clear p1); (try clear q1); (try clear hx1); (try clear p2 p2); (try clear c3); (try clear c3b0); (try clear c3b1); (try clear c4); (try clear c4b0); (try clear c4b1); (try clear c10); (try clear c10b0); (try clear c11); (try clear c11b0); (try clear c12); (try clear c12b0); (try clear c14); (try clear c15); (try clear p15); (try clear q15); (try clear hx15); (try clear u15_0 u15_1 u15_2 u15_3 u15_4 u15_5 u15_6); (try clear u6_0 u6_1 u6_2 u6_3 u6_4 u6_5 u6_6); (try clear u9_0 u9_1 u9_2 u9_3 u9_4 u9_5 u9_6); (try clear o15_0 o15_1 o15_2 o15_3 o15_4 o15_5 o15_6); (try clear o6_0 o6_1 o6_2 o6_3 o6_4 o6_5 o6_6); (try clear o9_0 o9_1 o9_2 o9_3 o9_4 o9_5 o9_6); (try clear hx158_0); (try clear hx158_1); (try clear hx158_2); (try clear hx158_3); (try clear hx158_4); (try clear hx158_5); (try clear hx158_6); (try clear p158); (try clear q158); obtain ⟨x5_2, x25_2, rfl, HA, HK2, HO_5, BK154, BK159, HB⟩ := hrel
         cases gk with
         | zero => exact absurd HA.out (by simp [batch_grams.l1])
         | succ k2 =>
          have H := HA.out; clear HA
          simp only [batch_grams.l1] at H
          by_cases c16 : x25_2 < (((rd_T63 l0_1 x17_1).f6).length : Int)
          ·rw [if_pos c16] at H
           have c16b0 : decide (x25_2 < (((rd_T63 l0_1 x17_1).f6).length : Int)) = true := decide_eq_true c16
           clear c16
           by_cases c17 : 0 ≤ x25_2
           ·rw [if_pos c17] at H
            have c17b0 : decide (0 ≤ x25_2) = true := decide_eq_true c17
            clear c17
            by_cases c18 : x25_2 < (((rd_T63 l0_1 x17_1).f6).length : Int)
            ·rw [if_pos c18] at H
             have c18b0 : decide (x25_2 < (((rd_T63 l0_1 x17_1).f6).length : Int)) = true := decide_eq_true c18
             clear c18
             by_cases c19 : x25_2 < (x5_2.length : Int)
             ·rw [if_pos c19] at H
              have c19b0 : decide (x25_2 < (x5_2.length : Int)) = true := decide_eq_true c19
              clear c19
              by_cases c20 : 0 ≤ x17_1
              ·rw [if_pos c20] at H
               have c20b0 : decide (0 ≤ x17_1) = true := decide_eq_true c20
               clear c20
               by_cases c21 : x17_1 < (l1.length : Int)
               ·rw [if_pos c21] at H
                have c21b0 : decide (x17_1 < (l1.length : Int)) = true := decide_eq_true c21
                clear c21
                obtain ⟨y164, hy164⟩ : ∃ y_ : List (S27), y_ = (x5_2.set (x25_2 : Int).toNat (⟨wrap64 (((rd_T27 x5_2 x25_2).f0) + (wrap64 ((rd l1 x17_1) * ((rd_T27 ((rd_T63 l0_1 x17_1).f6) x25_2).f0)))), (rd_T27 x5_2 x25_2).f1⟩ : S27)) := ⟨_, rfl⟩
                replace H : (batch_grams.l1 k2 l1 (y164.set (x25_2 : Int).toNat (⟨(rd_T27 y164 x25_2).f0, wrap64 (((rd_T27 y164 x25_2).f1) + (wrap64 ((rd l1 x17_1) * ((rd_T27 ((rd_T63 l0_1 x17_1).f6) x25_2).f1))))⟩ : S27)) x17_1 l0_1 (l0_1.length : Int) x17_1 ((rd_T63 l0_1 x17_1).f6) (((rd_T63 l0_1 x17_1).f6).length : Int) (wrap64 (x25_2 + 1))) = some r := by first | (rw [hy164]; with_reducible exact H) | (have H2_ := (Option.bind_some _ _).symm.trans H; rw [hy164]; with_reducible exact H2_) | (have H2_ := (Option.bind_some _ _).symm.trans H; with_reducible exact H2_) | with_reducible exact H | (rw [hy164]; exact H) | exact H
                have Ny164 := Sd.mk hy164; clear hy164
                obtain ⟨y167, hy167⟩ : ∃ y_ : List (S27), y_ = (y164.set (x25_2 : Int).toNat (⟨(rd_T27 y164 x25_2).f0, wrap64 (((rd_T27 y164 x25_2).f1) + (wrap64 ((rd l1 x17_1) * ((rd_T27 ((rd_T63 l0_1 x17_1).f6) x25_2).f1))))⟩ : S27)) := ⟨_, rfl⟩
                replace H : (batch_grams.l1 k2 l1 y167 x17_1 l0_1 (l0_1.length : Int) x17_1 ((rd_T63 l0_1 x17_1).f6) (((rd_T63 l0_1 x17_1).f6).length : Int) (wrap64 (x25_2 + 1))) = some r := by first | (rw [hy167]; with_reducible exact H) | (have H2_ := (Option.bind_some _ _).symm.trans H; rw [hy167]; with_reducible exact H2_) | (have H2_ := (Option.bind_some _ _).symm.trans H; with_reducible exact H2_) | with_reducible exact H | (rw [hy167]; exact H) | exact H
                have Ny167 := Sd.mk hy167; clear hy167; have H' := Sd.mk H; clear H
                have p160 : 0 ≤ (x25_2 : Int) := tB
                have q160 : x25_2 < (((rd_T63 l0_1 x17_1).f6).length : Int) := tB
                obtain ⟨ad160, e160, hx160_0, hx160_1⟩ := at_T27 HR158_6.out x25_2 p160 q160; cases e160; replace hx160_0 := cU HB hx160_0; replace hx160_1 := cU HB hx160_1; replace p160 := eq_true p160; replace q160 := eq_true q160
                try go_wp2_with (first | ((with_reducible refine gate_dst (N := 9) rfl ?_); refine box_event ?hg (N := 9) ?hd (cs := #[.int .i64 0, .int .i64 0]) (t := 27) ?hr ?_; (case hd => rfl); (case hg => rfl); (case hr => exact tG); intro gb161 hg w24 hbox hb; replace HO_5 := Sd.mk (Kd.R_below (Kd.R_elderB (by (with_reducible repeat (first | apply Kd.R_alloc | apply Kd.R_drewN | apply Kd.R_drew)); exact HO_5.out) gb161 (Nat.le_of_eq hg.symm)) hb); have BK161 := Sd.mk (hbox); have GW161 := Sd.mk (bSz hg (bBl HB.out)); have GE161 := Sd.mk (bSz hg (bBl HB.out)); replace HB := Sd.mk (below_step (bBl HB.out) hb); have NB154_161 := Sd.mk (bNl hg (bkA BK154.out)); have NB161_154 := Sd.mk (bNg hg (bkA BK154.out)); replace BK154 := Sd.mk (blk_below (bkA BK154.out) hb); have NB159_161 := Sd.mk (bNl hg (bkA BK159.out)); have NB161_159 := Sd.mk (bNg hg (bkA BK159.out)); replace BK159 := Sd.mk (blk_below (bkA BK159.out) hb); clear hb hbox hg; have hnb25 := NB161_154.out; have hnc25 := NB154_161.out; have hnb26 := NB161_159.out; have hnc26 := NB159_161.out; obtain ⟨u27_0, u27_1, o27_0, o27_1⟩ := bc2 (w := w24) BK161.out))
                have n0_ : Sd (Kd.R k27 27 ((w24.setCell ⟨gb161, 0, none⟩ (.int .i64 ((rd_T27 ((rd_T63 l0_1 x17_1).f6) x25_2).f0))).setCell ⟨gb161, 1, none⟩ (.int .i64 ((rd_T27 ((rd_T63 l0_1 x17_1).f6) x25_2).f1))) w.heap.size (fun k_ => k_ ≠ gb161) v156 x5_2) := ⟨by (with_reducible repeat (first | apply Kd.R_alloc | apply Kd.R_drewN | apply Kd.R_drew)); exact Kd.R_mono (Kd.R_far (p := ⟨gb161, 1, none⟩) (Kd.R_far (p := ⟨gb161, 0, none⟩) (Kd.R_mono HO_5.out (fun k_ hk => (⟨hk, hk.2⟩ : _ ∧ k_ ≠ gb161))) (fun _ hk => hk.2) (.int .i64 ((rd_T27 ((rd_T63 l0_1 x17_1).f6) x25_2).f0))) (fun _ hk => hk.2) (.int .i64 ((rd_T27 ((rd_T63 l0_1 x17_1).f6) x25_2).f1))) (fun _ hk => hk.1.2)⟩
                have n1_ : Sd (((w24.setCell ⟨gb161, 0, none⟩ (.int .i64 ((rd_T27 ((rd_T63 l0_1 x17_1).f6) x25_2).f0))).setCell ⟨gb161, 1, none⟩ (.int .i64 ((rd_T27 ((rd_T63 l0_1 x17_1).f6) x25_2).f1))).heap[gb154]? = some (.cells #[.slice A0_0 l0_0.length c0_0, .slice (some ad158) l0_1.length c0_1, .slice A0_2 l0_2.length c0_2, .slice A0_3 l0_3.length c0_3, .int .i64 a0_4, .int .i64 a0_5, .int .i64 a0_6] 29 (0, 0))) := ⟨by (with_reducible repeat (first | refine blk_drewN ?_ _ | refine blk_drew ?_ | refine blk_alloc ?_ _)); refine blk_far ?_ NB154_161.out _; (with_reducible repeat (first | refine blk_drewN ?_ _ | refine blk_drew ?_ | refine blk_alloc ?_ _)); refine blk_far ?_ NB154_161.out _; (with_reducible repeat (first | refine blk_drewN ?_ _ | refine blk_drew ?_ | refine blk_alloc ?_ _)); exact BK154.out⟩
                have n2_ : Sd (((w24.setCell ⟨gb161, 0, none⟩ (.int .i64 ((rd_T27 ((rd_T63 l0_1 x17_1).f6) x25_2).f0))).setCell ⟨gb161, 1, none⟩ (.int .i64 ((rd_T27 ((rd_T63 l0_1 x17_1).f6) x25_2).f1))).heap[gb159]? = some (.cells #[.string ((rd_T63 l0_1 x17_1).f0), .int .i64 ((rd_T63 l0_1 x17_1).f1), .int .i64 ((rd_T63 l0_1 x17_1).f2), .int .i64 ((rd_T63 l0_1 x17_1).f3), .int .i64 ((rd_T63 l0_1 x17_1).f4), .int .i64 ((rd_T63 l0_1 x17_1).f5), .slice (some ad160) ((rd_T63 l0_1 x17_1).f6).length c158_6] 63 (0, 0))) := ⟨by (with_reducible repeat (first | refine blk_drewN ?_ _ | refine blk_drew ?_ | refine blk_alloc ?_ _)); refine blk_far ?_ NB159_161.out _; (with_reducible repeat (first | refine blk_drewN ?_ _ | refine blk_drew ?_ | refine blk_alloc ?_ _)); refine blk_far ?_ NB159_161.out _; (with_reducible repeat (first | refine blk_drewN ?_ _ | refine blk_drew ?_ | refine blk_alloc ?_ _)); exact BK159.out⟩
                have n3_ : Sd (((w24.setCell ⟨gb161, 0, none⟩ (.int .i64 ((rd_T27 ((rd_T63 l0_1 x17_1).f6) x25_2).f0))).setCell ⟨gb161, 1, none⟩ (.int .i64 ((rd_T27 ((rd_T63 l0_1 x17_1).f6) x25_2).f1))).heap[gb161]? = some (.cells #[.int .i64 ((rd_T27 ((rd_T63 l0_1 x17_1).f6) x25_2).f0), .int .i64 ((rd_T27 ((rd_T63 l0_1 x17_1).f6) x25_2).f1)] 27 (0, 0))) := ⟨by (with_reducible repeat (first | refine blk_drewN ?_ _ | refine blk_drew ?_ | refine blk_alloc ?_ _)); refine blk_put (cs := #[.int .i64 ((rd_T27 ((rd_T63 l0_1 x17_1).f6) x25_2).f0), .int .i64 0]) ?_ 1 _ rfl; (with_reducible repeat (first | refine blk_drewN ?_ _ | refine blk_drew ?_ | refine blk_alloc ?_ _)); refine blk_put (cs := #[.int .i64 0, .int .i64 0]) ?_ 0 _ rfl; (with_reducible repeat (first | refine blk_drewN ?_ _ | refine blk_drew ?_ | refine blk_alloc ?_ _)); exact BK161.out⟩
                have n4_ : Sd (Below w.heap.size w ((w24.setCell ⟨gb161, 0, none⟩ (.int .i64 ((rd_T27 ((rd_T63 l0_1 x17_1).f6) x25_2).f0))).setCell ⟨gb161, 1, none⟩ (.int .i64 ((rd_T27 ((rd_T63 l0_1 x17_1).f6) x25_2).f1)))) := ⟨bBl HB.out⟩
                (try clear HO_5)
                (try clear BK154)
                (try clear BK159)
                (try clear BK161)
                (try clear HB)
                generalize ((w24.setCell ⟨gb161, 0, none⟩ (.int .i64 ((rd_T27 ((rd_T63 l0_1 x17_1).f6) x25_2).f0))).setCell ⟨gb161, 1, none⟩ (.int .i64 ((rd_T27 ((rd_T63 l0_1 x17_1).f6) x25_2).f1))) = w28 at n0_ n1_ n2_ n3_ n4_ ⊢
                have HO_5 := n0_; have BK154 := n1_; have BK159 := n2_; have BK161 := n3_; have HB := n4_; clear n0_ n1_ n2_ n3_ n4_; replace HO_5 := Sd.mk (Kd.R_drew HO_5.out); replace BK154 := Sd.mk (blk_drew BK154.out); replace BK159 := Sd.mk (blk_drew BK159.out); replace BK161 := Sd.mk (blk_drew BK161.out); replace HB := Sd.mk (below_drew1 HB.out); obtain ⟨Ao30, co30, eo30⟩ := Kd.R_slice HO_5.out
                (first | subst eo30 | (injection eo30 with f1_ f2_ f3_; have f4_ := f1_.symm; have f5_ := f3_.symm; clear f1_ f2_ f3_; subst f4_; subst f5_))
                have p162 : 0 ≤ (x25_2 : Int) := tB
                have q162 : x25_2 < (x5_2.length : Int) := tB
                obtain ⟨ad162, e162, hx162_0, hx162_1⟩ := at_T27 (Kd.R_reads' HO_5.out).2.2 x25_2 p162 q162; cases e162; replace p162 := eq_true p162; replace q162 := eq_true q162
                have p163 : 0 ≤ (x17_1 : Int) := tB
                have q163 : x17_1 < (l1.length : Int) := tB
                obtain ⟨ad163, e163, hx163_0⟩ := Kd.at_int HR1.out x17_1 p163 q163; have hw163_0 := hx163_0; cases e163; replace hx163_0 := cU HB hx163_0; replace p163 := eq_true p163; replace q163 := eq_true q163
                have p22 : 0 ≤ (x25_2 : Int) := tB
                have q22 : (x25_2 : Int) < ((x5_2.length : Int) : Int) := tB
                obtain ⟨go22, co22, eo22, gb22, gl22, cl22, HG22⟩ := Kd.R_form HO_5.out (by omega)
                (first | cases eo22 | (injection eo22 with ea_ en_ ec_; (first | subst ea_ | (injection ea_ with ea_; subst ea_)); subst ec_; clear en_))
                have GB22 := Sd.mk gb22; have GG22 := Sd.mk HG22; clear gb22 gl22 HG22
                (first | simp only [add_plain] at hx162_0 | skip)
                (first | simp only [add_plain] at hx162_1 | skip)
                obtain ⟨ce22, hcl22, hM22, hcc22, hfr22⟩ := Kd.R_elem HO_5.out z27 (x25_2 : Int) p22 q22; obtain rfl := k27_openM hM22
                have hx22_0 : World.cell? _ ⟨go22, (x25_2 : Int).toNat * 2, none⟩ = some (.int .i64 ((rd_T27 x5_2 x25_2).f0)) := hcc22 0 _ rfl
                have hx22_1 : World.cell? _ ⟨go22, (x25_2 : Int).toNat * 2 + 1, none⟩ = some (.int .i64 ((rd_T27 x5_2 x25_2).f1)) := hcc22 1 _ rfl
                have hf22_0 : World.frozen? _ ⟨go22, (x25_2 : Int).toNat * 2, none⟩ = false := hfr22 0
                have hf22_1 : World.frozen? _ ⟨go22, (x25_2 : Int).toNat * 2 + 1, none⟩ = false := hfr22 1
                clear hcl22 hcc22 hfr22 hM22; replace p22 := eq_true p22; replace q22 := eq_true q22
                obtain ⟨ce31, hcl31, hM31, hcc31, hfr31⟩ := Kd.R_elem HO_5.out z27 (x25_2 : Int) (tB) (by have h_ : (x25_2 : Int) < ((x5_2.length : Int) : Int) := tB; first | exact h_ | (have e_ := (Kd.R_reads' HO_5.out).1; omega) | simpa using h_)
                obtain rfl := k27_openM hM31
                have HP31 := (Kd.R_seg HO_5.out (x25_2 : Int) (tB) (by have h_ : (x25_2 : Int) < ((x5_2.length : Int) : Int) := tB; first | exact h_ | (have e_ := (Kd.R_reads' HO_5.out).1; omega) | simpa using h_) (seg := [.int .i64 (wrap64 (((rd_T27 x5_2 x25_2).f0) + (wrap64 ((rd l1 x17_1) * ((rd_T27 ((rd_T63 l0_1 x17_1).f6) x25_2).f0)))))]) (j := 0) hcl31 hcc31 (show 1 ≤ 2 from by decide) (x' := (⟨wrap64 (((rd_T27 x5_2 x25_2).f0) + (wrap64 ((rd l1 x17_1) * ((rd_T27 ((rd_T63 l0_1 x17_1).f6) x25_2).f0)))), (rd_T27 x5_2 x25_2).f1⟩ : S27)) (k27_mkM _ _ _ (⟨wrap64 (((rd_T27 x5_2 x25_2).f0) + (wrap64 ((rd l1 x17_1) * ((rd_T27 ((rd_T63 l0_1 x17_1).f6) x25_2).f0)))), (rd_T27 x5_2 x25_2).f1⟩ : S27) ) (fun _ hk => hk)).1
                rw [← Ny164.out] at HP31
                have HQ31 := Sd.mk HP31; clear hcl31 hcc31 hfr31 hM31 HP31
                refine start_ (n := 16) (S := fun w' => w'.cell? ⟨gb161, 0, none⟩ = some (.int .i64 ((rd_T27 ((rd_T63 l0_1 x17_1).f6) x25_2).f0)) ∧ w'.cell? ⟨gb161, 1, none⟩ = some (.int .i64 ((rd_T27 ((rd_T63 l0_1 x17_1).f6) x25_2).f1)) ∧ w'.cell? ⟨go22, ((x25_2).toNat * 2), none⟩ = some (.int .i64 ((rd_T27 x5_2 x25_2).f0)) ∧ w'.cell? ⟨go22, ((x25_2).toNat * 2) + 1, none⟩ = some (.int .i64 ((rd_T27 x5_2 x25_2).f1)) ∧ w'.cell? (ad163.add (x17_1).toNat) = some (.int .i64 (rd l1 x17_1))) (ds := [15]) #[false, false, false, false, false, false, false, false, false, false, false, false, false, false, false, false] (by kernel_rfl) rfl rfl ⟨(blk_cell BK161.out 0).trans rfl, (blk_cell BK161.out 1).trans rfl, hx162_0, hx162_1, ((HB.out.cell (World.block_lt_of_cell? w _ hw163_0)).trans hw163_0)⟩ (fun hHeld => ?_); refine with_tabW batch_grams.tab8 batch_grams.bits8 (fun HT_ HW_ => ?_)
                generalize w28.drew = w29 at HO_5 BK154 BK159 BK161 HB GG22 HQ31 hf22_0 hf22_1 hx162_0 hx162_1 hx163_0 hx22_0 hx22_1 hHeld ⊢
                refine pure_ (i := 0) (N := some 30) (v := ?_) (a' := ?_) #[true, false, false, false, false, false, false, false, false, false, false, false, false, false, false, false] rfl rfl (any_of HT_.out (by kernel_rfl)) (fun _ _ _ h => h) (Or.inl ⟨by rfl, ?_⟩) ?_ ?_
                rotate_left
                ·exact tW
                rotate_left
                ·exact tP
                refine pure_ (i := 1) (N := some 31) (v := ?_) (a' := ?_) #[true, true, false, false, false, false, false, false, false, false, false, false, false, false, false, false] rfl rfl (any_of HT_.out (by kernel_rfl)) (fun _ _ _ h => h) (Or.inl ⟨by rfl, ?_⟩) ?_ ?_
                rotate_left
                ·exact tW
                rotate_left
                ·exact tP
                refine pure_ (i := 2) (N := some 32) (v := ?_) (a' := ?_) #[true, true, true, false, false, false, false, false, false, false, false, false, false, false, false, false] rfl rfl (any_of HT_.out (by kernel_rfl)) (fun _ _ _ h => h) (Or.inl ⟨by rfl, ?_⟩) ?_ ?_
                rotate_left
                ·exact tW
                rotate_left
                ·exact tP
                refine pure_ (i := 3) (N := some 33) (v := ?_) (a' := ?_) #[true, true, true, true, false, false, false, false, false, false, false, false, false, false, false, false] rfl rfl (any_of HT_.out (by kernel_rfl)) (fun _ _ _ h => h) (Or.inl ⟨by rfl, ?_⟩) ?_ ?_
                rotate_left
                ·exact tW
                rotate_left
                ·exact tP
                refine pure_ (i := 5) (N := some 35) (v := ?_) (a' := ?_) #[true, true, true, true, false, true, false, false, false, false, false, false, false, false, false, false] rfl rfl (any_of HT_.out (by kernel_rfl)) (fun _ _ _ h => h) (Or.inl ⟨by rfl, ?_⟩) ?_ ?_
                rotate_left
                ·exact tW
                rotate_left
                ·exact tP
                refine pure_ (i := 6) (N := some 36) (v := ?_) (a' := ?_) #[true, true, true, true, false, true, true, false, false, false, false, false, false, false, false, false] rfl rfl (any_of HT_.out (by kernel_rfl)) (fun _ _ _ h => h) (Or.inl ⟨by rfl, ?_⟩) ?_ ?_
                rotate_left
                ·exact tW
                rotate_left
                ·exact tP
                refine pure_ (i := 7) (N := some 37) (v := ?_) (a' := ?_) #[true, true, true, true, false, true, true, true, false, false, false, false, false, false, false, false] rfl rfl (any_of HT_.out (by kernel_rfl)) (fun _ _ _ h => h) (Or.inl ⟨by rfl, ?_⟩) ?_ ?_
                rotate_left
                ·exact tW
                rotate_left
                ·exact tP
                refine pure_ (i := 9) (N := some 39) (v := ?_) (a' := ?_) #[true, true, true, true, false, true, true, true, false, true, false, false, false, false, false, false] rfl rfl (any_of HT_.out (by kernel_rfl)) (fun _ _ _ h => h) (Or.inl ⟨by rfl, ?_⟩) ?_ ?_
                rotate_left
                ·exact tW
                rotate_left
                ·exact tP
                refine take_ (i := 4) (N := some 34) (v := ?_) (a' := ?_) #[true, true, true, true, true, true, true, true, false, true, false, false, false, false, false, false] rfl rfl (take_ofW HT_.out HW_.out (by kernel_rfl)) (fun _ _ _ h => h) (Or.inl ⟨by rfl, ?_⟩) hHeld ?_ ?_
                rotate_left
                ·rintro w' ⟨s0, s1, s2, s3, s4⟩
                 go_simp
                 with_reducible rfl
                rotate_left
                ·exact tP
                refine take_ (i := 8) (N := some 38) (v := ?_) (a' := ?_) #[true, true, true, true, true, true, true, true, true, true, false, false, false, false, false, false] rfl rfl (take_ofW HT_.out HW_.out (by kernel_rfl)) (fun _ _ _ h => h) (Or.inl ⟨by rfl, ?_⟩) hHeld ?_ ?_
                rotate_left
                ·rintro w' ⟨s0, s1, s2, s3, s4⟩
                 go_simp
                 with_reducible rfl
                rotate_left
                ·exact tP
                refine take_ (i := 10) (N := some 40) (v := ?_) (a' := ?_) #[true, true, true, true, true, true, true, true, true, true, true, false, false, false, false, false] rfl rfl (take_ofW HT_.out HW_.out (by kernel_rfl)) (fun _ _ _ h => h) (Or.inl ⟨by rfl, ?_⟩) hHeld ?_ ?_
                rotate_left
                ·rintro w' ⟨s0, s1, s2, s3, s4⟩
                 go_simp
                 with_reducible rfl
                rotate_left
                ·exact tP
                refine pure_ (i := 11) (N := some 41) (v := ?_) (a' := ?_) #[true, true, true, true, true, true, true, true, true, true, true, true, false, false, false, false] rfl rfl (any_of HT_.out (by kernel_rfl)) (fun _ _ _ h => h) (Or.inl ⟨by rfl, ?_⟩) ?_ ?_
                rotate_left
                ·exact tW
                rotate_left
                ·exact tP
                refine pure_ (i := 12) (N := some 42) (v := ?_) (a' := ?_) #[true, true, true, true, true, true, true, true, true, true, true, true, true, false, false, false] rfl rfl (any_of HT_.out (by kernel_rfl)) (fun _ _ _ h => h) (Or.inl ⟨by rfl, ?_⟩) ?_ ?_
                rotate_left
                ·exact tW
                rotate_left
                ·exact tP
                refine pure_ (i := 13) (N := some 43) (v := ?_) (a' := ?_) #[true, true, true, true, true, true, true, true, true, true, true, true, true, true, false, false] rfl rfl (any_of HT_.out (by kernel_rfl)) (fun _ _ _ h => h) (Or.inl ⟨by rfl, ?_⟩) ?_ ?_
                rotate_left
                ·exact tW
                rotate_left
                ·exact tP
                refine pure_ (i := 14) (N := some 44) (v := ?_) (a' := ?_) #[true, true, true, true, true, true, true, true, true, true, true, true, true, true, true, false] rfl rfl (any_of HT_.out (by kernel_rfl)) (fun _ _ _ h => h) (Or.inl ⟨by rfl, ?_⟩) ?_ ?_
                rotate_left
                ·exact tW
                rotate_left
                ·exact tP
                refine last_ (i := 15) (N := none) #[true, true, true, true, true, true, true, true, true, true, true, true, true, true, true, true] rfl rfl (one_of HT_.out (by kernel_rfl)) (by decide) (fun K hK => ?_)
                refine skip_ (w1 := ?_) (by rfl) rfl ?_ ?_
                rotate_left
                ·go_simp
                 rfl
                refine hK.out _ _ ?_
                clear hK K
                refine done_ (done_of HT_.out (by kernel_rfl)) ?_
                try go_wp2
                have n0_ : Sd (Kd.R k27 27 (w29.setCell ⟨go22, (x25_2 : Int).toNat * 2, none⟩ (.int .i64 (wrap64 (((rd_T27 x5_2 x25_2).f0) + (wrap64 ((rd l1 x17_1) * ((rd_T27 ((rd_T63 l0_1 x17_1).f6) x25_2).f0))))))) w.heap.size (fun k_ => k_ ≠ gb161) (.slice (some ⟨go22, 0, none⟩) x5_2.length co30) y164) := ⟨by (with_reducible repeat (first | apply Kd.R_alloc | apply Kd.R_drewN | apply Kd.R_drew)); exact HQ31.out⟩
                have n1_ : Sd ((w29.setCell ⟨go22, (x25_2 : Int).toNat * 2, none⟩ (.int .i64 (wrap64 (((rd_T27 x5_2 x25_2).f0) + (wrap64 ((rd l1 x17_1) * ((rd_T27 ((rd_T63 l0_1 x17_1).f6) x25_2).f0))))))).heap[gb154]? = some (.cells #[.slice A0_0 l0_0.length c0_0, .slice (some ad158) l0_1.length c0_1, .slice A0_2 l0_2.length c0_2, .slice A0_3 l0_3.length c0_3, .int .i64 a0_4, .int .i64 a0_5, .int .i64 a0_6] 29 (0, 0))) := ⟨by (with_reducible repeat (first | refine blk_drewN ?_ _ | refine blk_drew ?_ | refine blk_alloc ?_ _)); refine blk_far ?_ (by have h_ := Kd.R_ne HO_5.out BK154.out (by decide); intro e_; exact h_ (by rw [e_]; rfl)) _; (with_reducible repeat (first | refine blk_drewN ?_ _ | refine blk_drew ?_ | refine blk_alloc ?_ _)); exact BK154.out⟩
                have n2_ : Sd ((w29.setCell ⟨go22, (x25_2 : Int).toNat * 2, none⟩ (.int .i64 (wrap64 (((rd_T27 x5_2 x25_2).f0) + (wrap64 ((rd l1 x17_1) * ((rd_T27 ((rd_T63 l0_1 x17_1).f6) x25_2).f0))))))).heap[gb159]? = some (.cells #[.string ((rd_T63 l0_1 x17_1).f0), .int .i64 ((rd_T63 l0_1 x17_1).f1), .int .i64 ((rd_T63 l0_1 x17_1).f2), .int .i64 ((rd_T63 l0_1 x17_1).f3), .int .i64 ((rd_T63 l0_1 x17_1).f4), .int .i64 ((rd_T63 l0_1 x17_1).f5), .slice (some ad160) ((rd_T63 l0_1 x17_1).f6).length c158_6] 63 (0, 0))) := ⟨by (with_reducible repeat (first | refine blk_drewN ?_ _ | refine blk_drew ?_ | refine blk_alloc ?_ _)); refine blk_far ?_ (by have h_ := Kd.R_ne HO_5.out BK159.out (by decide); intro e_; exact h_ (by rw [e_]; rfl)) _; (with_reducible repeat (first | refine blk_drewN ?_ _ | refine blk_drew ?_ | refine blk_alloc ?_ _)); exact BK159.out⟩
                have n3_ : Sd ((w29.setCell ⟨go22, (x25_2 : Int).toNat * 2, none⟩ (.int .i64 (wrap64 (((rd_T27 x5_2 x25_2).f0) + (wrap64 ((rd l1 x17_1) * ((rd_T27 ((rd_T63 l0_1 x17_1).f6) x25_2).f0))))))).heap[gb161]? = some (.cells #[.int .i64 ((rd_T27 ((rd_T63 l0_1 x17_1).f6) x25_2).f0), .int .i64 ((rd_T27 ((rd_T63 l0_1 x17_1).f6) x25_2).f1)] 27 (0, 0))) := ⟨by (with_reducible repeat (first | refine blk_drewN ?_ _ | refine blk_drew ?_ | refine blk_alloc ?_ _)); refine blk_far ?_ (by have h_ := Kd.R_away HO_5.out (fun _ hk => hk); intro e_; exact h_ (by rw [e_]; rfl)) _; (with_reducible repeat (first | refine blk_drewN ?_ _ | refine blk_drew ?_ | refine blk_alloc ?_ _)); exact BK161.out⟩
                have n4_ : Sd (Below w.heap.size w (w29.setCell ⟨go22, (x25_2 : Int).toNat * 2, none⟩ (.int .i64 (wrap64 (((rd_T27 x5_2 x25_2).f0) + (wrap64 ((rd l1 x17_1) * ((rd_T27 ((rd_T63 l0_1 x17_1).f6) x25_2).f0)))))))) := ⟨bBl HB.out⟩
                (try clear HO_5)
                (try clear BK154)
                (try clear BK159)
                (try clear BK161)
                (try clear HB)
                generalize (w29.setCell ⟨go22, (x25_2 : Int).toNat * 2, none⟩ (.int .i64 (wrap64 (((rd_T27 x5_2 x25_2).f0) + (wrap64 ((rd l1 x17_1) * ((rd_T27 ((rd_T63 l0_1 x17_1).f6) x25_2).f0))))))) = w32 at n0_ n1_ n2_ n3_ n4_ ⊢
                have HO_5 := n0_; have BK154 := n1_; have BK159 := n2_; have BK161 := n3_; have HB := n4_; clear n0_ n1_ n2_ n3_ n4_; replace HO_5 := Sd.mk (Kd.R_drew HO_5.out); replace BK154 := Sd.mk (blk_drew BK154.out); replace BK159 := Sd.mk (blk_drew BK159.out); replace BK161 := Sd.mk (blk_drew BK161.out); replace HB := Sd.mk (below_drew1 HB.out)
                have p165 : 0 ≤ (x25_2 : Int) := tB
                have q165 : x25_2 < (y164.length : Int) := (by have h_ : (x25_2 : Int) < ((x5_2.length : Int) : Int) := tB; first | (have e_ := (Kd.R_reads' HO_5.out).1; omega) | simpa only [Ny164.out, List.length_set] using h_)
                have ql165 : ((x25_2 : Int) < ((x5_2.length : Int) : Int)) = True := eq_true (tB)
                obtain ⟨ad165, e165, hx165_0, hx165_1⟩ := at_T27 (Kd.R_reads' HO_5.out).2.2 x25_2 p165 q165
                obtain rfl : (⟨go22, 0, none⟩ : Addr) = ad165 := (by injection e165)
                (first | simp only [add_plain] at hx165_0 | simp only [add_at] at hx165_0 | simp only [Addr.add, Nat.zero_add] at hx165_0 | skip)
                (first | simp only [add_plain] at hx165_1 | simp only [add_at] at hx165_1 | simp only [Addr.add, Nat.zero_add] at hx165_1 | skip)
                replace p165 := eq_true p165; replace q165 := eq_true q165
                have p166 : 0 ≤ (x17_1 : Int) := tB
                have q166 : x17_1 < (l1.length : Int) := tB
                obtain ⟨ad166, e166, hx166_0⟩ := Kd.at_int HR1.out x17_1 p166 q166; have hw166_0 := hx166_0
                obtain rfl : ad163 = ad166 := (by injection e166)
                replace hx166_0 := cU HB hx166_0; replace p166 := eq_true p166; replace q166 := eq_true q166
                have p23 : 0 ≤ (x25_2 : Int) := tB
                have q23 : (x25_2 : Int) < ((x5_2.length : Int) : Int) := tB
                obtain ⟨ce23, hcl23, hM23, hcc23, hfr23⟩ := Kd.R_elem HO_5.out z27 (x25_2 : Int) p23 q23; obtain rfl := k27_openM hM23
                have hx23_0 : World.cell? _ ⟨go22, (x25_2 : Int).toNat * 2, none⟩ = some (.int .i64 ((rd_T27 y164 x25_2).f0)) := hcc23 0 _ rfl
                have hx23_1 : World.cell? _ ⟨go22, (x25_2 : Int).toNat * 2 + 1, none⟩ = some (.int .i64 ((rd_T27 y164 x25_2).f1)) := hcc23 1 _ rfl
                have hf23_0 : World.frozen? _ ⟨go22, (x25_2 : Int).toNat * 2, none⟩ = false := hfr23 0
                have hf23_1 : World.frozen? _ ⟨go22, (x25_2 : Int).toNat * 2 + 1, none⟩ = false := hfr23 1
                clear hcl23 hcc23 hfr23 hM23; replace p23 := eq_true p23; replace q23 := eq_true q23
                obtain ⟨ce34, hcl34, hM34, hcc34, hfr34⟩ := Kd.R_elem HO_5.out z27 (x25_2 : Int) (tB) (by have h_ : (x25_2 : Int) < ((x5_2.length : Int) : Int) := tB; first | exact h_ | (have e_ := (Kd.R_reads' HO_5.out).1; omega) | simpa using h_)
                obtain rfl := k27_openM hM34
                have HP34 := (Kd.R_seg HO_5.out (x25_2 : Int) (tB) (by have h_ : (x25_2 : Int) < ((x5_2.length : Int) : Int) := tB; first | exact h_ | (have e_ := (Kd.R_reads' HO_5.out).1; omega) | simpa using h_) (seg := [.int .i64 (wrap64 (((rd_T27 y164 x25_2).f1) + (wrap64 ((rd l1 x17_1) * ((rd_T27 ((rd_T63 l0_1 x17_1).f6) x25_2).f1)))))]) (j := 1) hcl34 hcc34 (show 2 ≤ 2 from by decide) (x' := (⟨(rd_T27 y164 x25_2).f0, wrap64 (((rd_T27 y164 x25_2).f1) + (wrap64 ((rd l1 x17_1) * ((rd_T27 ((rd_T63 l0_1 x17_1).f6) x25_2).f1))))⟩ : S27)) (k27_mkM _ _ _ (⟨(rd_T27 y164 x25_2).f0, wrap64 (((rd_T27 y164 x25_2).f1) + (wrap64 ((rd l1 x17_1) * ((rd_T27 ((rd_T63 l0_1 x17_1).f6) x25_2).f1))))⟩ : S27) ) (fun _ hk => hk)).1
                rw [← Ny167.out] at HP34
                have HQ34 := Sd.mk HP34; clear hcl34 hcc34 hfr34 hM34 HP34
                refine start_ (n := 16) (S := fun w' => w'.cell? ⟨gb161, 0, none⟩ = some (.int .i64 ((rd_T27 ((rd_T63 l0_1 x17_1).f6) x25_2).f0)) ∧ w'.cell? ⟨gb161, 1, none⟩ = some (.int .i64 ((rd_T27 ((rd_T63 l0_1 x17_1).f6) x25_2).f1)) ∧ w'.cell? ⟨go22, (x25_2).toNat * 2, none⟩ = some (.int .i64 ((rd_T27 y164 x25_2).f0)) ∧ w'.cell? ⟨go22, (x25_2).toNat * 2 + 1, none⟩ = some (.int .i64 ((rd_T27 y164 x25_2).f1)) ∧ w'.cell? (ad163.add (x17_1).toNat) = some (.int .i64 (rd l1 x17_1))) (ds := [15]) #[false, false, false, false, false, false, false, false, false, false, false, false, false, false, false, false] (by kernel_rfl) rfl rfl ⟨(blk_cell BK161.out 0).trans rfl, (blk_cell BK161.out 1).trans rfl, hx165_0, hx165_1, ((HB.out.cell (World.block_lt_of_cell? w _ hw166_0)).trans hw166_0)⟩ (fun hHeld => ?_); refine with_tabW batch_grams.tab9 batch_grams.bits9 (fun HT_ HW_ => ?_)
                generalize w32.drew = w33 at HO_5 BK154 BK159 BK161 HB HQ31 HQ34 hf23_0 hf23_1 hx165_0 hx165_1 hx166_0 hx23_0 hx23_1 hHeld ⊢
                refine pure_ (i := 0) (N := some 45) (v := ?_) (a' := ?_) #[true, false, false, false, false, false, false, false, false, false, false, false, false, false, false, false] rfl rfl (any_of HT_.out (by kernel_rfl)) (fun _ _ _ h => h) (Or.inl ⟨by rfl, ?_⟩) ?_ ?_
                rotate_left
                ·exact tW
                rotate_left
                ·exact tP
                refine pure_ (i := 1) (N := some 46) (v := ?_) (a' := ?_) #[true, true, false, false, false, false, false, false, false, false, false, false, false, false, false, false] rfl rfl (any_of HT_.out (by kernel_rfl)) (fun _ _ _ h => h) (Or.inl ⟨by rfl, ?_⟩) ?_ ?_
                rotate_left
                ·exact tW
                rotate_left
                ·exact tP
                refine pure_ (i := 2) (N := some 47) (v := ?_) (a' := ?_) #[true, true, true, false, false, false, false, false, false, false, false, false, false, false, false, false] rfl rfl (any_of HT_.out (by kernel_rfl)) (fun _ _ _ h => h) (Or.inl ⟨by rfl, ?_⟩) ?_ ?_
                rotate_left
                ·exact tW
                rotate_left
                ·exact tP
                refine pure_ (i := 3) (N := some 48) (v := ?_) (a' := ?_) #[true, true, true, true, false, false, false, false, false, false, false, false, false, false, false, false] rfl rfl (any_of HT_.out (by kernel_rfl)) (fun _ _ _ h => h) (Or.inl ⟨by rfl, ?_⟩) ?_ ?_
                rotate_left
                ·exact tW
                rotate_left
                ·exact tP
                refine pure_ (i := 5) (N := some 50) (v := ?_) (a' := ?_) #[true, true, true, true, false, true, false, false, false, false, false, false, false, false, false, false] rfl rfl (any_of HT_.out (by kernel_rfl)) (fun _ _ _ h => h) (Or.inl ⟨by rfl, ?_⟩) ?_ ?_
                rotate_left
                ·exact tW
                rotate_left
                ·exact tP
                refine pure_ (i := 6) (N := some 51) (v := ?_) (a' := ?_) #[true, true, true, true, false, true, true, false, false, false, false, false, false, false, false, false] rfl rfl (any_of HT_.out (by kernel_rfl)) (fun _ _ _ h => h) (Or.inl ⟨by rfl, ?_⟩) ?_ ?_
                rotate_left
                ·exact tW
                rotate_left
                ·exact tP
                refine pure_ (i := 7) (N := some 52) (v := ?_) (a' := ?_) #[true, true, true, true, false, true, true, true, false, false, false, false, false, false, false, false] rfl rfl (any_of HT_.out (by kernel_rfl)) (fun _ _ _ h => h) (Or.inl ⟨by rfl, ?_⟩) ?_ ?_
                rotate_left
                ·exact tW
                rotate_left
                ·exact tP
                refine pure_ (i := 9) (N := some 54) (v := ?_) (a' := ?_) #[true, true, true, true, false, true, true, true, false, true, false, false, false, false, false, false] rfl rfl (any_of HT_.out (by kernel_rfl)) (fun _ _ _ h => h) (Or.inl ⟨by rfl, ?_⟩) ?_ ?_
                rotate_left
                ·exact tW
                rotate_left
                ·exact tP
                refine take_ (i := 4) (N := some 49) (v := ?_) (a' := ?_) #[true, true, true, true, true, true, true, true, false, true, false, false, false, false, false, false] rfl rfl (take_ofW HT_.out HW_.out (by kernel_rfl)) (fun _ _ _ h => h) (Or.inl ⟨by rfl, ?_⟩) hHeld ?_ ?_
                rotate_left
                ·rintro w' ⟨s0, s1, s2, s3, s4⟩
                 go_simp
                 with_reducible rfl
                rotate_left
                ·exact tP
                refine take_ (i := 8) (N := some 53) (v := ?_) (a' := ?_) #[true, true, true, true, true, true, true, true, true, true, false, false, false, false, false, false] rfl rfl (take_ofW HT_.out HW_.out (by kernel_rfl)) (fun _ _ _ h => h) (Or.inl ⟨by rfl, ?_⟩) hHeld ?_ ?_
                rotate_left
                ·rintro w' ⟨s0, s1, s2, s3, s4⟩
                 go_simp
                 with_reducible rfl
                rotate_left
                ·exact tP
                refine take_ (i := 10) (N := some 55) (v := ?_) (a' := ?_) #[true, true, true, true, true, true, true, true, true, true, true, false, false, false, false, false] rfl rfl (take_ofW HT_.out HW_.out (by kernel_rfl)) (fun _ _ _ h => h) (Or.inl ⟨by rfl, ?_⟩) hHeld ?_ ?_
                rotate_left
                ·rintro w' ⟨s0, s1, s2, s3, s4⟩
                 go_simp
                 with_reducible rfl
                rotate_left
                ·exact tP
                refine pure_ (i := 11) (N := some 56) (v := ?_) (a' := ?_) #[true, true, true, true, true, true, true, true, true, true, true, true, false, false, false, false] rfl rfl (any_of HT_.out (by kernel_rfl)) (fun _ _ _ h => h) (Or.inl ⟨by rfl, ?_⟩) ?_ ?_
                rotate_left
                ·exact tW
                rotate_left
                ·exact tP
                refine pure_ (i := 12) (N := some 57) (v := ?_) (a' := ?_) #[true, true, true, true, true, true, true, true, true, true, true, true, true, false, false, false] rfl rfl (any_of HT_.out (by kernel_rfl)) (fun _ _ _ h => h) (Or.inl ⟨by rfl, ?_⟩) ?_ ?_
                rotate_left
                ·exact tW
                rotate_left
                ·exact tP
                refine pure_ (i := 13) (N := some 58) (v := ?_) (a' := ?_) #[true, true, true, true, true, true, true, true, true, true, true, true, true, true, false, false] rfl rfl (any_of HT_.out (by kernel_rfl)) (fun _ _ _ h => h) (Or.inl ⟨by rfl, ?_⟩) ?_ ?_
                rotate_left
                ·exact tW
                rotate_left
                ·exact tP
                refine pure_ (i := 14) (N := some 59) (v := ?_) (a' := ?_) #[true, true, true, true, true, true, true, true, true, true, true, true, true, true, true, false] rfl rfl (any_of HT_.out (by kernel_rfl)) (fun _ _ _ h => h) (Or.inl ⟨by rfl, ?_⟩) ?_ ?_
                rotate_left
                ·exact tW
                rotate_left
                ·exact tP
                refine last_ (i := 15) (N := none) #[true, true, true, true, true, true, true, true, true, true, true, true, true, true, true, true] rfl rfl (one_of HT_.out (by kernel_rfl)) (by decide) (fun K hK => ?_)
                refine skip_ (w1 := ?_) (by rfl) rfl ?_ ?_
                rotate_left
                ·go_simp
                 rfl
                refine hK.out _ _ ?_
                clear hK K
                refine done_ (done_of HT_.out (by kernel_rfl)) ?_
                try go_wp2
                go_roundg k2
                case measure => have := HK1.out; have := HK2.out; omega
                case rel => exact ⟨(y167), (wrap64 (x25_2 + 1)), tS, H', ⟨by have := HK1.out; have := HK2.out; omega⟩, ⟨by (with_reducible repeat (first | apply Kd.R_alloc | apply Kd.R_drewN | apply Kd.R_drew)); exact Kd.R_mono HQ34.out (fun _ hk => trivial)⟩, ⟨by (with_reducible repeat (first | refine blk_drewN ?_ _ | refine blk_drew ?_ | refine blk_alloc ?_ _)); refine blk_far ?_ (by have h_ := Kd.R_ne HO_5.out BK154.out (by decide); intro e_; exact h_ (by rw [e_]; rfl)) _; (with_reducible repeat (first | refine blk_drewN ?_ _ | refine blk_drew ?_ | refine blk_alloc ?_ _)); exact BK154.out⟩, ⟨by (with_reducible repeat (first | refine blk_drewN ?_ _ | refine blk_drew ?_ | refine blk_alloc ?_ _)); refine blk_far ?_ (by have h_ := Kd.R_ne HO_5.out BK159.out (by decide); intro e_; exact h_ (by rw [e_]; rfl)) _; (with_reducible repeat (first | refine blk_drewN ?_ _ | refine blk_drew ?_ | refine blk_alloc ?_ _)); exact BK159.out⟩, ⟨bBl HB.out⟩⟩
               ·rw [if_neg c21] at H
                exact absurd H (by simp)
              ·rw [if_neg c20] at H
               exact absurd H (by simp)
             ·rw [if_neg c19] at H
              exact absurd H (by simp)
            ·rw [if_neg c18] at H
             exact absurd H (by simp)
           ·rw [if_neg c17] at H
            exact absurd H (by simp)
          ·rw [if_neg c16] at H
           have c16b0 : decide (x25_2 < (((rd_T63 l0_1 x17_1).f6).length : Int)) = false := decide_eq_false c16
           clear c16; have H' := Sd.mk H; clear H
           go_wp2
           go_roundg k2
           case measure => have := HK1.out; have := HK2.out; omega
           case rel => exact ⟨(x5_2), (wrap64 (x17_1 + 1)), tS, H', ⟨by have := HK1.out; have := HK2.out; omega⟩, ⟨by (with_reducible repeat (first | apply Kd.R_alloc | apply Kd.R_drewN | apply Kd.R_drew)); exact HO_5.out⟩, ⟨bkA BK154.out⟩, ⟨bBl HB.out⟩⟩
       ·rw [if_neg c12] at H
        exact absurd H (by simp)
      ·rw [if_neg c11] at H
       exact absurd H (by simp)
     ·rw [if_neg c10] at H
      have c10b0 : decide (x17_1 < (l0_1.length : Int)) = false := decide_eq_false c10
      clear c10; obtain rfl := Option.some.inj H
      go_wp2
      go_ret
      exact ⟨_, tE, by (with_reducible repeat (first | apply Kd.R_alloc | apply Kd.R_drewN | apply Kd.R_drew)); exact HO_5.out, bBl HB.out⟩
  ·rw [if_neg c4] at H
   exact absurd H (by simp)
 ·rw [if_neg c3] at H
  exact absurd H (by simp)
end Go.Proofs.Ytkjkokgbhepmoaa.PB

namespace Go.Proofs.Ytkjkokgbhepmoaa.PB
open Go.RowKit Go.Proofs.YtkjkokgbhepmoaaW.PrintWords Go.Proofs.YtkjkokgbhepmoaaW.PrintLast Go.Proofs.YtkjkokgbhepmoaaW.PrintMore
attribute [local go_sem] max2_int min2_int max_two min_two max_three min_three max_four min_four
def batch_Grams.f (k : Nat) (l0_0 : List ByteArray) (l0_1 : List (S63)) (l0_2 : List (S27)) (l0_3 : List (S65)) (a0_4 : Int) (a0_5 : Int) (a0_6 : Int) (l1 : List Int) : Option ((List (S27)) × Int) := (batch_asked.f k l0_0 l0_1 l0_2 l0_3 a0_4 a0_5 a0_6 l1).bind fun t169 => (if t169 = 0 then ((batch_grams.f k l0_0 l0_1 l0_2 l0_3 a0_4 a0_5 a0_6 l1).bind fun t170 => (some (t170, 0))) else (some (([] : List (S27)), t169)))
theorem batch_Grams.mono : ∀ a0 a1 a2 a3 a4 a5 a6 a7 k, LeO (batch_Grams.f k a0 a1 a2 a3 a4 a5 a6 a7) (batch_Grams.f (k + 1) a0 a1 a2 a3 a4 a5 a6 a7) := by
 intro a0 a1 a2 a3 a4 a5 a6 a7 k
 unfold batch_Grams.f
 repeat' first
   | (with_reducible exact batch_asked.mono _ _ _ _ _ _ _ _ _)
   | (with_reducible exact batch_grams.mono _ _ _ _ _ _ _ _ _)
   | (with_reducible exact LeO.refl _)
   | (with_reducible exact LeO.none _)
   | (with_reducible refine LeO.ite ?_ ?_)
   | (with_reducible refine LeO.bind ?_ (fun _ => ?_))
   | exact LeO.none _
   | refine LeO.ite ?_ ?_
   | refine LeO.bind ?_ (fun _ => ?_)
set_option maxHeartbeats 8000000 in
set_option maxRecDepth 100000 in
theorem batch_Grams.calls (k : Nat) (A0_0 : Option Addr) (c0_0 : Nat) (l0_0 : List ByteArray) (A0_1 : Option Addr) (c0_1 : Nat) (l0_1 : List (S63)) (A0_2 : Option Addr) (c0_2 : Nat) (l0_2 : List (S27)) (A0_3 : Option Addr) (c0_3 : Nat) (l0_3 : List (S65)) (a0_4 : Int) (a0_5 : Int) (a0_6 : Int) (A1 : Option Addr) (c1 : Nat) (l1 : List Int) (r1 : List (S27)) (r2 : Int) (w : World) (hr0_0 : Kd.C Kd.string w A0_0 l0_0.length l0_0) (hc0_0 : l0_0.length ≤ c0_0) (hr0_1 : Kd.C k63 w A0_1 l0_1.length l0_1) (hc0_1 : l0_1.length ≤ c0_1) (hr0_2 : Kd.C k27 w A0_2 l0_2.length l0_2) (hc0_2 : l0_2.length ≤ c0_2) (hr0_3 : Kd.C k65 w A0_3 l0_3.length l0_3) (hc0_3 : l0_3.length ≤ c0_3) (hr1 : Kd.C (Kd.int .i64) w A1 l1.length l1) (hc1 : l1.length ≤ c1) (h : batch_Grams.f k l0_0 l0_1 l0_2 l0_3 a0_4 a0_5 a0_6 l1 = some (r1, r2)) :
  Calls Try.prog 15 #[.agg #[.slice A0_0 l0_0.length c0_0, .slice A0_1 l0_1.length c0_1, .slice A0_2 l0_2.length c0_2, .slice A0_3 l0_3.length c0_3, .int .i64 a0_4, .int .i64 a0_5, .int .i64 a0_6], .slice A1 l1.length c1] w fun e w' => ∃ v0_ : Value, e = .returned (.tuple #[v0_, .int .i64 r2]) ∧ Kd.R k27 27 w' w.heap.size (fun _ => True) v0_ r1 ∧ Below w.heap.size w w' := by
 have hu29 := Try.underlying29; have HR0_0 := Sd.mk hr0_0; have HC0_0 := Sd.mk hc0_0; clear hr0_0 hc0_0; have HR0_1 := Sd.mk hr0_1; have HC0_1 := Sd.mk hc0_1; clear hr0_1 hc0_1; have HR0_2 := Sd.mk hr0_2; have HC0_2 := Sd.mk hc0_2; clear hr0_2 hc0_2; have HR0_3 := Sd.mk hr0_3; have HC0_3 := Sd.mk hc0_3; clear hr0_3 hc0_3; have HR1 := Sd.mk hr1; have HC1 := Sd.mk hc1; clear hr1 hc1; have HB := Sd.mk (Below.refl w.heap.size w)
 have H : ((batch_asked.f k l0_0 l0_1 l0_2 l0_3 a0_4 a0_5 a0_6 l1).bind fun t169 => (if t169 = 0 then ((batch_grams.f k l0_0 l0_1 l0_2 l0_3 a0_4 a0_5 a0_6 l1).bind fun t170 => (some (t170, 0))) else (some (([] : List (S27)), t169)))) = some (r1, r2) := h
 clear h; replace H := Option.bind_eq_some_iff.mp H; obtain ⟨t169, A30, H⟩ := H
 try dsimp only at H
 have A3 := Sd.mk A30; clear A30
 by_cases c4 : t169 = 0
 ·rw [if_pos c4] at H
  have c4b0 : (t169 == 0) = true := beq_iff_eq.mpr c4
  have c4b1 : (t169 != 0) = false := bne_eq_false_iff_eq.mpr c4
  clear c4; replace H := Option.bind_eq_some_iff.mp H; obtain ⟨t170, A50, H⟩ := H
  try dsimp only at H
  have A5 := Sd.mk A50; clear A50
  simp only [Option.some.injEq, Prod.mk.injEq] at H
  obtain ⟨rfl, rfl⟩ := H
  go_enter Try.func15, Try.ntmps15
  go_wp2_with (first | ((with_reducible refine gate_dst (N := 2) rfl ?_); refine box_event ?hg (N := 2) ?hd (cs := #[.slice A0_0 l0_0.length c0_0, .slice A0_1 l0_1.length c0_1, .slice A0_2 l0_2.length c0_2, .slice A0_3 l0_3.length c0_3, .int .i64 a0_4, .int .i64 a0_5, .int .i64 a0_6]) (t := 29) ?hr ?_; (case hd => rfl); (case hg => rfl); (case hr => exact tG); intro gb168 hg w6 hbox hb; have BK168 := Sd.mk (hbox); have GW168 := Sd.mk (bSz hg (bBl HB.out)); have GE168 := Sd.mk (bSz hg (bBl HB.out)); replace HB := Sd.mk (below_step (bBl HB.out) hb); clear hb hbox hg; obtain ⟨u7_0, u7_1, u7_2, u7_3, u7_4, u7_5, u7_6, o7_0, o7_1, o7_2, o7_3, o7_4, o7_5, o7_6⟩ := bc7 (w := w6) BK168.out) | ((with_reducible refine gate_callee (f := 46) rfl ?_); refine goesL_ (some 9) rfl rfl Try.func46 (by kernel_rfl) rfl #[.agg #[.slice A0_0 l0_0.length c0_0, .slice A0_1 l0_1.length c0_1, .slice A0_2 l0_2.length c0_2, .slice A0_3 l0_3.length c0_3, .int .i64 a0_4, .int .i64 a0_5, .int .i64 a0_6], .slice A1 l1.length c1] rfl tM ?_; (with_reducible refine (batch_asked.calls k _ _ l0_0 _ _ l0_1 _ _ l0_2 _ _ l0_3 a0_4 a0_5 a0_6 _ _ l1 t169 _ (cS (Kd.C_below HR0_0.out HB.out)) HC0_0.out (cS (Kd.C_below HR0_1.out HB.out)) HC0_1.out (cS (Kd.C_below HR0_2.out HB.out)) HC0_2.out (cS (Kd.C_below HR0_3.out HB.out)) HC0_3.out (cS (Kd.C_below HR1.out HB.out)) HC1.out A3.out).mono ?_); rintro e w8 ⟨rfl, hb⟩; refine ⟨_, rfl, ?_⟩; replace BK168 := Sd.mk (blk_below (bkA BK168.out) hb); replace HB := Sd.mk (below_step (bBl HB.out) hb); (try clear hb); (try clear hb2); (try clear hk); (try clear hi); obtain ⟨u9_0, u9_1, u9_2, u9_3, u9_4, u9_5, u9_6, o9_0, o9_1, o9_2, o9_3, o9_4, o9_5, o9_6⟩ := bc7 (w := w8) BK168.out) | ((with_reducible refine gate_callee (f := 47) rfl ?_); refine goesL_ (some 15) rfl rfl Try.func47 (by kernel_rfl) rfl #[.agg #[.slice A0_0 l0_0.length c0_0, .slice A0_1 l0_1.length c0_1, .slice A0_2 l0_2.length c0_2, .slice A0_3 l0_3.length c0_3, .int .i64 a0_4, .int .i64 a0_5, .int .i64 a0_6], .slice A1 l1.length c1] rfl tM ?_; (with_reducible refine (batch_grams.calls k _ _ l0_0 _ _ l0_1 _ _ l0_2 _ _ l0_3 a0_4 a0_5 a0_6 _ _ l1 t170 _ (cS (Kd.C_below HR0_0.out HB.out)) HC0_0.out (cS (Kd.C_below HR0_1.out HB.out)) HC0_1.out (cS (Kd.C_below HR0_2.out HB.out)) HC0_2.out (cS (Kd.C_below HR0_3.out HB.out)) HC0_3.out (cS (Kd.C_below HR1.out HB.out)) HC1.out A5.out).mono ?_); rintro e w10 ⟨v171, rfl, ho0, hb⟩; refine ⟨_, rfl, ?_⟩; have HO172 := Sd.mk (Kd.R_lower ho0 (below_size (bBl HB.out))); replace BK168 := Sd.mk (blk_below (bkA BK168.out) hb); replace HB := Sd.mk (below_step (bBl HB.out) hb); (try clear hb); (try clear hb2); (try clear hk); (try clear hi); (try clear ho0)))
  go_ret2
  exact ⟨_, tE, by (with_reducible repeat (first | apply Kd.R_alloc | apply Kd.R_drewN | apply Kd.R_drew)); exact HO172.out, bBl HB.out⟩
 ·rw [if_neg c4] at H
  have c4b0 : (t169 == 0) = false := beq_eq_false_iff_ne.mpr c4
  have c4b1 : (t169 != 0) = true := bne_iff_ne.mpr c4
  simp only [Option.some.injEq, Prod.mk.injEq] at H
  obtain ⟨rfl, rfl⟩ := H
  go_enter Try.func15, Try.ntmps15
  go_wp2_with (first | ((with_reducible refine gate_dst (N := 2) rfl ?_); refine box_event ?hg (N := 2) ?hd (cs := #[.slice A0_0 l0_0.length c0_0, .slice A0_1 l0_1.length c0_1, .slice A0_2 l0_2.length c0_2, .slice A0_3 l0_3.length c0_3, .int .i64 a0_4, .int .i64 a0_5, .int .i64 a0_6]) (t := 29) ?hr ?_; (case hd => rfl); (case hg => rfl); (case hr => exact tG); intro gb168 hg w11 hbox hb; have BK168 := Sd.mk (hbox); have GW168 := Sd.mk (bSz hg (bBl HB.out)); have GE168 := Sd.mk (bSz hg (bBl HB.out)); replace HB := Sd.mk (below_step (bBl HB.out) hb); clear hb hbox hg; obtain ⟨u12_0, u12_1, u12_2, u12_3, u12_4, u12_5, u12_6, o12_0, o12_1, o12_2, o12_3, o12_4, o12_5, o12_6⟩ := bc7 (w := w11) BK168.out) | ((with_reducible refine gate_callee (f := 46) rfl ?_); refine goesL_ (some 9) rfl rfl Try.func46 (by kernel_rfl) rfl #[.agg #[.slice A0_0 l0_0.length c0_0, .slice A0_1 l0_1.length c0_1, .slice A0_2 l0_2.length c0_2, .slice A0_3 l0_3.length c0_3, .int .i64 a0_4, .int .i64 a0_5, .int .i64 a0_6], .slice A1 l1.length c1] rfl tM ?_; (with_reducible refine (batch_asked.calls k _ _ l0_0 _ _ l0_1 _ _ l0_2 _ _ l0_3 a0_4 a0_5 a0_6 _ _ l1 t169 _ (cS (Kd.C_below HR0_0.out HB.out)) HC0_0.out (cS (Kd.C_below HR0_1.out HB.out)) HC0_1.out (cS (Kd.C_below HR0_2.out HB.out)) HC0_2.out (cS (Kd.C_below HR0_3.out HB.out)) HC0_3.out (cS (Kd.C_below HR1.out HB.out)) HC1.out A3.out).mono ?_); rintro e w13 ⟨rfl, hb⟩; refine ⟨_, rfl, ?_⟩; replace BK168 := Sd.mk (blk_below (bkA BK168.out) hb); replace HB := Sd.mk (below_step (bBl HB.out) hb); (try clear hb); (try clear hb2); (try clear hk); (try clear hi)))
  go_ret2
  exact ⟨_, tE, by first | exact Kd.R_nil _ _ _ _ _ | exact Kd.N_nil _ _ _ _ _ | exact Kd.V_nil _ _ _ _ _ | exact Kd.Q_nil _ _ _ _ _ | exact Kd.S_nil _ _ _ _ _, bBl HB.out⟩
end Go.Proofs.Ytkjkokgbhepmoaa.PB

namespace Go.Proofs.Ytkjkokgbhepmoaa.PB
open Go.RowKit Go.Proofs.YtkjkokgbhepmoaaW.PrintWords Go.Proofs.YtkjkokgbhepmoaaW.PrintLast Go.Proofs.YtkjkokgbhepmoaaW.PrintMore
attribute [local go_sem] max2_int min2_int max_two min_two max_three min_three max_four min_four
def batch_weight.l0 : Nat → List (S27) → Int → Int → Int → Int → Option (Int × Int)
 | 0, _, _, _, _, _ => none
 | k + 1, x6, x7, x8, x175q0, x175q1 => if x8 < x7 then (if 0 ≤ x8 then (if x8 < (x6.length : Int) then (batch_weight.l0 k x6 x7 (wrap64 (x8 + 1)) (wrap64 (x175q0 + ((rd_T27 x6 x8).f0))) (wrap64 (x175q1 + ((rd_T27 x6 x8).f1)))) else (none)) else (none)) else (some (x175q0, x175q1))
def batch_weight.f (k : Nat) (l0 : List (S27)) : Option (Int × Int) := batch_weight.l0 k l0 (l0.length : Int) 0 0 0
theorem batch_weight.mono_l : ∀ k, (∀ y0 y1 y2 y3 y4, LeO (batch_weight.l0 k y0 y1 y2 y3 y4) (batch_weight.l0 (k + 1) y0 y1 y2 y3 y4))
 | 0 => fun _ _ _ _ _ r h => by simp [batch_weight.l0] at h
 | k + 1 => by
  have ih0 := batch_weight.mono_l k
  ·intro y0 y1 y2 y3 y4
   unfold batch_weight.l0
   repeat' first
   | (with_reducible exact ih0 _ _ _ _ _)
   | (with_reducible exact LeO.refl _)
   | (with_reducible exact LeO.none _)
   | (with_reducible refine LeO.ite ?_ ?_)
   | (with_reducible refine LeO.bind ?_ (fun _ => ?_))
   | exact LeO.none _
   | refine LeO.ite ?_ ?_
   | refine LeO.bind ?_ (fun _ => ?_)
theorem batch_weight.mono : ∀ a0 k, LeO (batch_weight.f k a0) (batch_weight.f (k + 1) a0) := by
 intro a0 k
 have ih0 := batch_weight.mono_l k
 unfold batch_weight.f
 repeat' first
   | (with_reducible exact ih0 _ _ _ _ _)
   | (with_reducible exact LeO.refl _)
   | (with_reducible exact LeO.none _)
   | (with_reducible refine LeO.ite ?_ ?_)
   | (with_reducible refine LeO.bind ?_ (fun _ => ?_))
   | exact LeO.none _
   | refine LeO.ite ?_ ?_
   | refine LeO.bind ?_ (fun _ => ?_)
set_option maxHeartbeats 8000000 in
set_option maxRecDepth 100000 in
theorem batch_weight.calls (k : Nat) (A0 : Option Addr) (c0 : Nat) (l0 : List (S27)) (r1 : Int) (r2 : Int) (w : World) (hr0 : Kd.C k27 w A0 l0.length l0) (hc0 : l0.length ≤ c0) (h : batch_weight.f k l0 = some (r1, r2)) :
  Calls Try.prog 57 #[.slice A0 l0.length c0] w fun e w' => e = .returned (.agg #[.int .i64 r1, .int .i64 r2]) ∧ Below w.heap.size w w' := by
 have hu27 := Try.underlying27; have HR0 := Sd.mk hr0; have HC0 := Sd.mk hc0; clear hr0 hc0; have HB := Sd.mk (Below.refl w.heap.size w)
 have H : (batch_weight.l0 k l0 (l0.length : Int) 0 0 0) = some (r1, r2) := h
 clear h; have H' := Sd.mk H; clear H
 go_enter Try.func57, Try.ntmps57
 go_wp2_with (first | ((with_reducible refine gate_dst (N := 2) rfl ?_); refine box_event ?hg (N := 2) ?hd (cs := #[.int .i64 0, .int .i64 0]) (t := 27) ?hr ?_; (case hd => rfl); (case hg => rfl); (case hr => exact tG); intro gb173 hg w2 hbox hb; have BK173 := Sd.mk (hbox); have GW173 := Sd.mk (bSz hg (bBl HB.out)); have GE173 := Sd.mk (bSz hg (bBl HB.out)); replace HB := Sd.mk (below_step (bBl HB.out) hb); clear hb hbox hg) | ((with_reducible refine gate_dst (N := 3) rfl ?_); refine box_event ?hg (N := 3) ?hd (cs := #[.int .i64 0, .int .i64 0]) (t := 27) ?hr ?_; (case hd => rfl); (case hg => rfl); (case hr => exact tG); intro gb174 hg w3 hbox hb; have BK174 := Sd.mk (hbox); have GW174 := Sd.mk (bSz hg (bBl HB.out)); have GE174 := Sd.mk (bSz hg (bBl HB.out)); replace HB := Sd.mk (below_step (bBl HB.out) hb); have NB173_174 := Sd.mk (bNl hg (bkA BK173.out)); have NB174_173 := Sd.mk (bNg hg (bkA BK173.out)); replace BK173 := Sd.mk (blk_below (bkA BK173.out) hb); clear hb hbox hg))
 go_loopg [8] k (fun kq v8 w' => ∃ (x8_1 : Int) (x175000_1 : Int) (x175001_1 : Int), v8 = .int .i64 x8_1 ∧ Sd (batch_weight.l0 kq l0 (l0.length : Int) x8_1 x175000_1 x175001_1 = some (r1, r2)) ∧ Sd (kq ≤ k) ∧ Sd (w'.heap[gb173]? = some (.cells #[.int .i64 0, .int .i64 0] 27 (0, 0))) ∧ Sd (w'.heap[gb174]? = some (.cells #[.int .i64 x175000_1, .int .i64 x175001_1] 27 (0, 0))) ∧ Sd (Below w.heap.size w w'))
 case atStart => exact ⟨(0), (0), (0), tS, H', ⟨Nat.le_refl _⟩, ⟨bkA BK173.out⟩, ⟨bkA BK174.out⟩, ⟨bBl HB.out⟩⟩
 case round =>
  clear H'; (try clear p2); obtain ⟨x8_1, x175000_1, x175001_1, rfl, HA, HK1, BK173, BK174, HB⟩ := hrel
  cases gk with
  | zero => exact absurd HA.out (by simp [batch_weight.l0])
  | succ k1 =>
   have H := HA.out; clear HA
   simp only [batch_weight.l0] at H
   by_cases c4 : x8_1 < (l0.length : Int)
   ·rw [if_pos c4] at H
    have c4b0 : decide (x8_1 < (l0.length : Int)) = true := decide_eq_true c4
    clear c4
    by_cases c5 : 0 ≤ x8_1
    ·rw [if_pos c5] at H
     have c5b0 : decide (0 ≤ x8_1) = true := decide_eq_true c5
     clear c5
     by_cases c6 : x8_1 < (l0.length : Int)
     ·rw [if_pos c6] at H
      have c6b0 : decide (x8_1 < (l0.length : Int)) = true := decide_eq_true c6
      clear c6; have H' := Sd.mk H; clear H
      have p175 : 0 ≤ (x8_1 : Int) := tB
      have q175 : x8_1 < (l0.length : Int) := tB
      obtain ⟨ad175, e175, hx175_0, hx175_1⟩ := at_T27 HR0.out x8_1 p175 q175; cases e175; replace hx175_0 := cU HB hx175_0; replace hx175_1 := cU HB hx175_1; replace p175 := eq_true p175; replace q175 := eq_true q175
      go_wp2_with (first | ((with_reducible refine gate_dst (N := 5) rfl ?_); refine box_event ?hg (N := 5) ?hd (cs := #[.int .i64 0, .int .i64 0]) (t := 27) ?hr ?_; (case hd => rfl); (case hg => rfl); (case hr => exact tG); intro gb176 hg w7 hbox hb; have BK176 := Sd.mk (hbox); have GW176 := Sd.mk (bSz hg (bBl HB.out)); have GE176 := Sd.mk (bSz hg (bBl HB.out)); replace HB := Sd.mk (below_step (bBl HB.out) hb); have NB173_176 := Sd.mk (bNl hg (bkA BK173.out)); have NB176_173 := Sd.mk (bNg hg (bkA BK173.out)); replace BK173 := Sd.mk (blk_below (bkA BK173.out) hb); have NB174_176 := Sd.mk (bNl hg (bkA BK174.out)); have NB176_174 := Sd.mk (bNg hg (bkA BK174.out)); replace BK174 := Sd.mk (blk_below (bkA BK174.out) hb); clear hb hbox hg; have hnb8 := NB176_173.out; have hnc8 := NB173_176.out; have hnb9 := NB176_174.out; have hnc9 := NB174_176.out; obtain ⟨u10_0, u10_1, o10_0, o10_1⟩ := bc2 (w := w7) BK176.out; have hnb11 := NB174_173.out; have hnc11 := NB173_174.out; obtain ⟨u12_0, u12_1, o12_0, o12_1⟩ := bc2 (w := w7) BK174.out))
      go_roundg k1
      case measure => have := HK1.out; omega
      case rel => exact ⟨(wrap64 (x8_1 + 1)), (wrap64 (x175000_1 + ((rd_T27 l0 x8_1).f0))), (wrap64 (x175001_1 + ((rd_T27 l0 x8_1).f1))), tS, H', ⟨by have := HK1.out; omega⟩, ⟨by (with_reducible repeat (first | refine blk_drewN ?_ _ | refine blk_drew ?_ | refine blk_alloc ?_ _)); refine blk_far ?_ NB173_174.out _; (with_reducible repeat (first | refine blk_drewN ?_ _ | refine blk_drew ?_ | refine blk_alloc ?_ _)); refine blk_far ?_ NB173_174.out _; (with_reducible repeat (first | refine blk_drewN ?_ _ | refine blk_drew ?_ | refine blk_alloc ?_ _)); refine blk_far ?_ NB173_176.out _; (with_reducible repeat (first | refine blk_drewN ?_ _ | refine blk_drew ?_ | refine blk_alloc ?_ _)); refine blk_far ?_ NB173_176.out _; (with_reducible repeat (first | refine blk_drewN ?_ _ | refine blk_drew ?_ | refine blk_alloc ?_ _)); exact BK173.out⟩, ⟨by (with_reducible repeat (first | refine blk_drewN ?_ _ | refine blk_drew ?_ | refine blk_alloc ?_ _)); refine blk_put (cs := #[.int .i64 (wrap64 (x175000_1 + ((rd_T27 l0 x8_1).f0))), .int .i64 x175001_1]) ?_ 1 _ rfl; (with_reducible repeat (first | refine blk_drewN ?_ _ | refine blk_drew ?_ | refine blk_alloc ?_ _)); refine blk_put (cs := #[.int .i64 x175000_1, .int .i64 x175001_1]) ?_ 0 _ rfl; (with_reducible repeat (first | refine blk_drewN ?_ _ | refine blk_drew ?_ | refine blk_alloc ?_ _)); refine blk_far ?_ NB174_176.out _; (with_reducible repeat (first | refine blk_drewN ?_ _ | refine blk_drew ?_ | refine blk_alloc ?_ _)); refine blk_far ?_ NB174_176.out _; (with_reducible repeat (first | refine blk_drewN ?_ _ | refine blk_drew ?_ | refine blk_alloc ?_ _)); exact BK174.out⟩, ⟨bBl HB.out⟩⟩
     ·rw [if_neg c6] at H
      exact absurd H (by simp)
    ·rw [if_neg c5] at H
     exact absurd H (by simp)
   ·rw [if_neg c4] at H
    have c4b0 : decide (x8_1 < (l0.length : Int)) = false := decide_eq_false c4
    clear c4
    simp only [Option.some.injEq, Prod.mk.injEq] at H
    obtain ⟨rfl, rfl⟩ := H; have hnb13 := NB174_173.out; have hnc13 := NB173_174.out; obtain ⟨u14_0, u14_1, o14_0, o14_1⟩ := bc2 (w := wr) BK174.out; obtain ⟨u15_0, u15_1, o15_0, o15_1⟩ := bc2 (w := wr) BK173.out
    go_wp2
    refine bodyPost_ret (results_cell_row rfl _ _ gb173 27 #[.int .i64 x175000_1, .int .i64 x175001_1] (0, 0) _ rfl (by (with_reducible repeat (first | refine blk_drewN ?_ _ | refine blk_drew ?_ | refine blk_alloc ?_ _)); refine blk_put (cs := #[.int .i64 x175000_1, .int .i64 0]) ?_ 1 _ rfl; (with_reducible repeat (first | refine blk_drewN ?_ _ | refine blk_drew ?_ | refine blk_alloc ?_ _)); refine blk_put (cs := #[.int .i64 0, .int .i64 0]) ?_ 0 _ rfl; (with_reducible repeat (first | refine blk_drewN ?_ _ | refine blk_drew ?_ | refine blk_alloc ?_ _)); exact BK173.out) Try.underlying27 rfl (by kernel_rfl)) rfl ?_
    exact ⟨tE, bBl HB.out⟩
end Go.Proofs.Ytkjkokgbhepmoaa.PB

namespace Go.Proofs.Ytkjkokgbhepmoaa.PB
open Go.RowKit Go.Proofs.YtkjkokgbhepmoaaW.PrintWords Go.Proofs.YtkjkokgbhepmoaaW.PrintLast Go.Proofs.YtkjkokgbhepmoaaW.PrintMore
def x_glass.f (k : Nat) (l0_0 : List ByteArray) (l0_1 : List (S63)) (l0_2 : List (S27)) (l0_3 : List (S65)) (a0_4 : Int) (a0_5 : Int) (a0_6 : Int) (l1 : List Int) : Option ((List (S27)) × Int) := (batch_Grams.f k l0_0 l0_1 l0_2 l0_3 a0_4 a0_5 a0_6 l1).bind fun p => if p.2 = 0 then ((batch_weight.f k p.1).bind fun q => if q.1 = 0 then some ([], 8) else some (p.1, p.2)) else some (p.1, p.2)
theorem x_glass.mono : ∀ l0_0 l0_1 l0_2 l0_3 a0_4 a0_5 a0_6 l1 k, LeO (x_glass.f k l0_0 l0_1 l0_2 l0_3 a0_4 a0_5 a0_6 l1) (x_glass.f (k + 1) l0_0 l0_1 l0_2 l0_3 a0_4 a0_5 a0_6 l1) := by
  intro l0_0 l0_1 l0_2 l0_3 a0_4 a0_5 a0_6 l1 k
  unfold x_glass.f
  refine LeO.bind (batch_Grams.mono _ _ _ _ _ _ _ _ _) fun p => ?_
  refine LeO.ite ?_ (LeO.refl _)
  refine LeO.bind (batch_weight.mono _ _) fun q => ?_
  exact LeO.refl _
theorem field27_0 (w : World) (a b : Int) : (Instr.field 27 (.agg #[.int .i64 a, .int .i64 b]) 0).run Try.prog w = .ok (.int .i64 a) w := by kernel_rfl
set_option maxHeartbeats 4000000 in
set_option maxRecDepth 100000 in
theorem x_glass.calls (k : Nat) (A0_0 : Option Addr) (c0_0 : Nat) (l0_0 : List ByteArray) (A0_1 : Option Addr) (c0_1 : Nat) (l0_1 : List (S63)) (A0_2 : Option Addr) (c0_2 : Nat) (l0_2 : List (S27)) (A0_3 : Option Addr) (c0_3 : Nat) (l0_3 : List (S65)) (a0_4 : Int) (a0_5 : Int) (a0_6 : Int) (A1 : Option Addr) (c1 : Nat) (l1 : List Int) (r1 : List (S27)) (r2 : Int) (w : World) (hr0_0 : Kd.C Kd.string w A0_0 l0_0.length l0_0) (hc0_0 : l0_0.length ≤ c0_0) (hr0_1 : Kd.C k63 w A0_1 l0_1.length l0_1) (hc0_1 : l0_1.length ≤ c0_1) (hr0_2 : Kd.C k27 w A0_2 l0_2.length l0_2) (hc0_2 : l0_2.length ≤ c0_2) (hr0_3 : Kd.C k65 w A0_3 l0_3.length l0_3) (hc0_3 : l0_3.length ≤ c0_3) (hr1 : Kd.C (Kd.int .i64) w A1 l1.length l1) (hc1 : l1.length ≤ c1) (h : x_glass.f k l0_0 l0_1 l0_2 l0_3 a0_4 a0_5 a0_6 l1 = some (r1, r2)) :
    Calls Try.prog 49 #[.agg #[.slice A0_0 l0_0.length c0_0, .slice A0_1 l0_1.length c0_1, .slice A0_2 l0_2.length c0_2, .slice A0_3 l0_3.length c0_3, .int .i64 a0_4, .int .i64 a0_5, .int .i64 a0_6], .slice A1 l1.length c1] w fun e w' => ∃ v0_ : Value, e = .returned (.tuple #[v0_, .int .i64 r2]) ∧ Kd.R k27 27 w' w.heap.size (fun _ => True) v0_ r1 ∧ Below w.heap.size w w' := by
  unfold x_glass.f at h
  obtain ⟨p, hp, H⟩ := Option.bind_eq_some_iff.mp h
  have hG := fun (W : World) (hb : Below w.heap.size w W) => batch_Grams.calls k A0_0 c0_0 l0_0 A0_1 c0_1 l0_1 A0_2 c0_2 l0_2 A0_3 c0_3 l0_3 a0_4 a0_5 a0_6 A1 c1 l1 p.1 p.2 W (Kd.C_below hr0_0 hb) hc0_0 (Kd.C_below hr0_1 hb) hc0_1 (Kd.C_below hr0_2 hb) hc0_2 (Kd.C_below hr0_3 hb) hc0_3 (Kd.C_below hr1 hb) hc1 hp
  have HG := Sd.mk hG
  clear hG h hp hr0_0 hr0_1 hr0_2 hr0_3 hr1
  obtain ⟨pl, pe⟩ := p
  dsimp only at H HG
  have hb0 : Below w.heap.size w (w.alloc (.cells #[.slice A0_0 l0_0.length c0_0, .slice A0_1 l0_1.length c0_1, .slice A0_2 l0_2.length c0_2, .slice A0_3 l0_3.length c0_3, .int .i64 a0_4, .int .i64 a0_5, .int .i64 a0_6] 29)) := below_alloc (Below.refl _ _) _
  have hgo := HG.out _ hb0
  have HB0 := Sd.mk hb0
  clear hb0 HG
  have HH := Sd.mk H
  clear H
  have hfld := field27_0
  go_enter Try.func49, Try.ntmps49
  go_wp2_with fail
  refine hgo.mono ?_
  clear hgo
  rintro e w1 ⟨v, rfl, hR, hb⟩
  have hR0 := Kd.R_lower (base' := w.heap.size) hR (by simp)
  obtain ⟨A, c, rfl, hlc, hC⟩ := Kd.R_reads hR
  have HR := Sd.mk hR0
  have HB := Sd.mk (below_trans' HB0.out hb)
  have HC := Sd.mk hC
  have H := HH.out
  clear hR hb HB0 hR0 hC HH
  by_cases he : pe = 0
  · rw [if_pos he] at H
    obtain ⟨q, hq, H⟩ := Option.bind_eq_some_iff.mp H
    have hW := fun (W : World) (hb : Below w1.heap.size w1 W) => batch_weight.calls k A c pl q.1 q.2 W (Kd.C_below HC.out hb) hlc hq
    have HW := Sd.mk (hW w1 (Below.refl _ _))
    clear hW hq
    have heb : (pe == 0) = true := beq_iff_eq.mpr he
    obtain ⟨q1, q2⟩ := q
    dsimp only at H HW
    have HH := Sd.mk H
    have HE := Sd.mk he
    clear H he
    go_wp2_with fail
    refine HW.out.mono ?_
    clear HW
    rintro e w2 ⟨rfl, hb2⟩
    have HB2 := Sd.mk (below_trans' HB.out hb2)
    have HR2 := Sd.mk (Kd.R_below HR.out hb2)
    clear hb2 HR HB
    have H := HH.out
    by_cases hq0 : q1 = 0
    · rw [if_pos hq0] at H
      have hqb : (q1 == 0) = true := beq_iff_eq.mpr hq0
      simp only [Option.some.injEq, Prod.mk.injEq] at H
      obtain ⟨rfl, rfl⟩ := H
      clear hq0 HH
      go_wp2
      go_ret2
      exact ⟨_, rfl, Kd.R_nil _ _ _ _ _, HB2.out⟩
    · rw [if_neg hq0] at H
      have hqb : (q1 == 0) = false := beq_eq_false_iff_ne.mpr hq0
      simp only [Option.some.injEq, Prod.mk.injEq] at H
      obtain ⟨rfl, rfl⟩ := H
      clear hq0 HH
      go_wp2
      go_ret2
      exact ⟨_, rfl, HR2.out, HB2.out⟩
  · rw [if_neg he] at H
    have heb : (pe == 0) = false := beq_eq_false_iff_ne.mpr he
    simp only [Option.some.injEq, Prod.mk.injEq] at H
    obtain ⟨rfl, rfl⟩ := H
    go_wp2
    go_ret2
    exact ⟨_, rfl, HR.out, HB.out⟩
end Go.Proofs.Ytkjkokgbhepmoaa.PB

namespace Go.Proofs.Ytkjkokgbhepmoaa.PB
open Go.RowKit Go.Proofs.YtkjkokgbhepmoaaW.PrintWords Go.Proofs.YtkjkokgbhepmoaaW.PrintLast Go.Proofs.YtkjkokgbhepmoaaW.PrintMore
section
open Go.Shelf
def lays125_ren : Go.Shelf.Ren := ⟨fun | 125 => 153 | 128 => 172 | 129 => 173 | n => n, fun | 46 => 182 | 3 => 3 | 51 => 203 | 53 => 205 | 4 => 4 | 5 => 5 | 9 => 9 | n => n, fun | n => n⟩
theorem lays125 : Go.Proofs.Lays.n125 Try.prog lays125_ren := {
  mixed := by kernel_rfl
  f125 := Try.func153.trans (congrArg some (by kernel_rfl))
  f128 := Try.func172.trans (congrArg some (by kernel_rfl))
  f129 := Try.func173.trans (congrArg some (by kernel_rfl))
  t3 := Try.underlying3
  a3 := Try.isAgg3
  z3 := Try.sizeOf3
  v3 := Try.zeroValue3
  t4 := Try.underlying4
  a4 := Try.isAgg4
  z4 := Try.sizeOf4
  v4 := Try.zeroValue4
  t5 := Try.underlying5
  a5 := Try.isAgg5
  z5 := Try.sizeOf5
  v5 := Try.zeroValue5
  t9 := Try.underlying9
  a9 := Try.isAgg9
  z9 := Try.sizeOf9
  v9 := Try.zeroValue9
  t46 := Try.underlying182
  a46 := Try.isAgg182
  z46 := Try.sizeOf182
  v46 := Try.zeroValue182
  t51 := Try.underlying203
  a51 := Try.isAgg203
  z51 := Try.sizeOf203
  v51 := Try.zeroValue203
  t53 := Try.underlying205
  a53 := Try.isAgg205
  z53 := Try.sizeOf205
  v53 := Try.zeroValue205 }
theorem lib_bits_Len (x : Int) (w : World) (h0 : 0 ≤ x) (h1 : x ≤ 18446744073709551615) :
    Calls Try.prog 153 #[.int .u64 x] w fun e w' => e = .returned (.int .i64 (Lib.bitLen x.toNat)) ∧ w' = w := Any.bits_Len lays125 x w h0 h1
end
open Go.Lib Go.Sort
def ltC (cf : Int → Int → Int) (x y : Int) : Bool := decide (cf x y < 0)
def CmpQ (g : Nat) (cb : Array Value) (cf : Int → Int → Int) (N : Int) (blk off size : Nat) (w : World) : Prop :=
  ∀ (m : Nat) (dk : Array Int), dk.size = size → ∀ x y : Int, 0 ≤ x → x < N → 0 ≤ y → y < N →
    Calls Try.prog g #[.int .i64 x, .int .i64 y, cb[0]!] ((putRow (Value.int .i64) w blk off dk).drewN m) fun e w' => e = .returned (.int .i64 (cf x y)) ∧ ∃ q, w' = ((putRow (Value.int .i64) w blk off dk).drewN m).drewN q
def AllIn (N : Int) (d : Array Int) : Prop := ∀ j, j < d.size → 0 ≤ d[j]! ∧ d[j]! < N
theorem allIn_swp {N : Int} {d : Array Int} {i j : Nat} (h : AllIn N d) (hi : i < d.size) (hj : j < d.size) : AllIn N (swp d i j) := by
  intro k hk
  rw [size_swp] at hk
  by_cases h1 : k = j
  · subst h1
    rw [swp_right _ _ _ hj]
    exact h i hi
  · by_cases h2 : k = i
    · subst h2
      rw [swp_left _ _ _ hi h1]
      exact h j hj
    · rw [swp_other _ _ _ _ h2 h1]
      exact h k hk
set_option maxHeartbeats 4000000 in
set_option maxRecDepth 1000000 in
theorem insertionSort_calls (cf : Int → Int → Int) (N : Int) (g : Nat) (cb : Array Value) (hcb : cb = #[cb[0]!]) (blk off cap b : Nat) (d : Array Int) (w : World)
    (eg : ∀ args w, (callFunc g args).run Try.prog w = .ok (.enter g args) w) (hcmp : CmpQ g cb cf N blk off d.size w) (hH : Holds (Value.int .i64) w blk off d) (hN : AllIn N d) (hb : b ≤ d.size) (hsz : d.size < 4611686018427387904) :
    Calls Try.prog 164 #[.slice (some ⟨blk, off, none⟩) d.size cap, .int .i64 0, .int .i64 b, .func (.func g) #[] cb] w fun e w' =>
      e = .returned (.tuple #[]) ∧ ∃ n, w' = (putRow (Value.int .i64) w blk off (Sort.insertionSort (ltC cf) d 0 b)).drewN n := by
  generalize hk0 : cb[0]! = cv at hcb
  subst hcb
  have hcAt : ∀ (X : Array Int) (x y : Int), X.size = d.size → 0 ≤ x → x < N → 0 ≤ y → y < N → ∀ m n, Calls Try.prog g #[.int .i64 x, .int .i64 y, cv] (((putRow (Value.int .i64) w blk off X).drewN m).drewN n) fun e w' => e = .returned (.int .i64 (cf x y)) ∧ ∃ q, w' = (((putRow (Value.int .i64) w blk off X).drewN m).drewN n).drewN q := fun X x y hX h1 h2 h3 h4 m n => by
    have := hcmp (m + n) X hX x y h1 h2 h3 h4
    rw [← World.drewN_drewN] at this
    exact this
  have HC : Sd _ := ⟨hcAt⟩
  have HST : Sd (w = (putRow (Value.int .i64) w blk off d).drewN 0) := ⟨(putRow_self (Value.int .i64) w blk off d hH).symm⟩
  have HH : Sd (Holds (Value.int .i64) w blk off d) := ⟨hH⟩
  have HN : Sd (AllIn N d) := ⟨hN⟩
  clear hcAt hcmp hH hN hk0
  go_enter Try.func164, Try.ntmps164
  go_wp2
  go_loopg [8] b (fun g1 vi wr => ∃ (i n : Nat) (dk : Array Int), vi = .int .i64 i ∧ 0 < i ∧ i ≤ b + 1 ∧ b + 1 - i ≤ g1 + 1 ∧ dk.size = d.size ∧ wr = (putRow (Value.int .i64) w blk off dk).drewN n ∧ Sd (insOuter (ltC cf) 0 b i dk = insOuter (ltC cf) 0 b (0 + 1) d) ∧ Sd (AllIn N dk))
  case atStart => exact ⟨1, 0, d, by first | rfl | go_num, by omega, by omega, by omega, rfl, HST.out, ⟨rfl⟩, HN⟩
  case round =>
    obtain ⟨i, n, dk, rfl, hai, hib, hg1, hsk, rfl, HO, HNk⟩ := hrel
    by_cases hlt : i < b
    · have hltz : (i : Int) < (b : Int) := by omega
      go_wp2
      go_loopg [9] i (fun g2 vj wr2 => ∃ (j m : Nat) (dj : Array Int), vj = .int .i64 j ∧ 0 ≤ j ∧ j ≤ i ∧ j ≤ g2 ∧ dj.size = d.size ∧ wr2 = (putRow (Value.int .i64) w blk off dj).drewN m ∧ Sd (insInner (ltC cf) 0 j dj = insInner (ltC cf) 0 i dk) ∧ Sd (AllIn N dj))
      case atStart => exact ⟨i, n, dk, rfl, by omega, Nat.le_refl _, Nat.le_refl _, hsk, rfl, ⟨rfl⟩, HNk⟩
      case round =>
        obtain ⟨j, m, dj, rfl, haj, hji, hg2, hsj, rfl, HI, HNj⟩ := hrel
        have out : (j ≤ 0 ∨ ltC cf dj[j]! dj[j - 1]! = false) → Sd (insOuter (ltC cf) 0 b (i + 1) dj = insOuter (ltC cf) 0 b (0 + 1) d) := fun hs => ⟨by
          rw [← HO.out, insOuter_go _ _ _ _ _ hlt, ← HI.out, insInner_stop _ _ _ _ hs]⟩
        have OUT : Sd _ := ⟨out⟩
        clear out
        by_cases hja : 0 < j
        · have hjaz : (0 : Int) < (j : Int) := by omega
          have hHj := holds_putRow (Value.int .i64) w blk off d dj HH.out hsj
          have hxr := HNj.out j (by omega)
          have hpr := HNj.out (j - 1) (by omega)
          obtain ⟨xj, hxj⟩ : ∃ x, dj[j]! = x := ⟨_, rfl⟩
          obtain ⟨xp, hxp⟩ : ∃ x, dj[j - 1]! = x := ⟨_, rfl⟩
          obtain ⟨cj, fj⟩ := hHj j (by omega)
          obtain ⟨cp, fp⟩ := hHj (j - 1) (by omega)
          rw [hxj] at cj hxr
          rw [hxp] at cp hpr
          obtain ⟨jp, rfl⟩ : ∃ jp, j = jp + 1 := ⟨j - 1, by omega⟩
          simp only [Nat.add_sub_cancel] at cp fp hxp
          have hwp : IntKind.i64.wrap (jp : Int) = (jp : Int) := by rw [IntKind.wrap_i64]; omega
          have jz : (jp : Int) + 1 < (d.size : Int) := by omega
          have jz1 : (jp : Int) < (d.size : Int) := by omega
          have hjaz' : (0 : Int) < (jp : Int) + 1 := by omega
          have p0 : (0 : Int) ≤ (jp : Int) + 1 := by omega
          have e0 : ((jp : Int) + 1).toNat = jp + 1 := by omega
          have hc := HC.out dj xj xp hsj hxr.1 hxr.2 hpr.1 hpr.2 m
          clear hHj hxr hpr
          have cj' : ((putRow (Value.int .i64) w blk off dj).drewN m).cell? ⟨blk, off + (jp + 1), none⟩ = some (.int .i64 xj) := cj
          have cp' : ((putRow (Value.int .i64) w blk off dj).drewN m).cell? ⟨blk, off + jp, none⟩ = some (.int .i64 xp) := cp
          have fj' : ((putRow (Value.int .i64) w blk off dj).drewN m).frozen? ⟨blk, off + (jp + 1), none⟩ = false := fj
          have fp' : ((putRow (Value.int .i64) w blk off dj).drewN m).frozen? ⟨blk, off + jp, none⟩ = false := fp
          clear cj cp fj fp
          have HXJ : Sd _ := ⟨hxj⟩
          have HXP : Sd _ := ⟨hxp⟩
          generalize hwq : (putRow (Value.int .i64) w blk off dj).drewN m = wq at cj' cp' fj' fp' hc ⊢
          have HWQ : Sd _ := ⟨hwq⟩
          clear hwq hxj hxp
          by_cases hlv : cf xj xp < 0
          · have hlvb : decide (cf xj xp < 0) = true := decide_eq_true hlv
            go_wp2_with fail
            go_quiet (first | (go_at_fn g; refine Calls.quiet_of (hc _)))
            go_wp2_with fail
            have hw2 : wq.drewN nq = (putRow (Value.int .i64) w blk off dj).drewN (m + nq) := by rw [← HWQ.out, World.drewN_drewN]
            have cj2 : (wq.drewN nq).cell? ⟨blk, off + (jp + 1), none⟩ = some (.int .i64 xj) := cj'
            have cp2 : (wq.drewN nq).cell? ⟨blk, off + jp, none⟩ = some (.int .i64 xp) := cp'
            have fj2 : (wq.drewN nq).frozen? ⟨blk, off + (jp + 1), none⟩ = false := fj'
            have fp2 : (wq.drewN nq).frozen? ⟨blk, off + jp, none⟩ = false := fp'
            clear cj' cp' fj' fp' hc
            generalize wq.drewN nq = wq2 at hw2 cj2 cp2 fj2 fp2 ⊢
            obtain ⟨j1, hj1⟩ : ∃ j1, j1 = jp + 1 := ⟨_, rfl⟩
            rw [← hj1] at cj2 fj2 e0
            have J1 : Sd (j1 = jp + 1) := ⟨hj1⟩
            have HW2 : Sd (wq2 = (putRow (Value.int .i64) w blk off dj).drewN (m + nq)) := ⟨hw2⟩
            clear hj1 hw2
            go_region
            all_goals go_wp2
            go_roundg jp
            case measure => omega
            case rel =>
              refine ⟨jp, m + nq + 1, swp dj (jp + 1) jp, by first | rfl | go_num | (congr 1; omega), by omega, by omega, Nat.le_refl _, by rw [size_swp]; exact hsj, ?_, ⟨?_⟩, ⟨allIn_swp HNj.out (by omega) (by omega)⟩⟩
              · rw [J1.out, HW2.out, ← HXP.out, ← HXJ.out]
                exact swap_worldC (Value.int .i64) w blk off dj (m + nq) (jp + 1) jp (by omega) (by omega)
              · have := insInner_go (ltC cf) 0 (jp + 1) dj hja (by simp only [Nat.add_sub_cancel]; rw [HXJ.out, HXP.out]; exact decide_eq_true hlv)
                simp only [Nat.add_sub_cancel] at this
                rw [← HI.out, this]
          · have hlvb : decide (cf xj xp < 0) = false := decide_eq_false hlv
            go_wp2_with fail
            go_quiet (first | (go_at_fn g; refine Calls.quiet_of (hc _)))
            go_wp2
            go_roundg (b - (i + 1))
            case measure => omega
            case rel => exact ⟨i + 1, _, dj, by go_num, by omega, by omega, by omega, hsj, by rw [← HWQ.out, World.drewN_drewN], OUT.out (Or.inr (by simp only [Nat.add_sub_cancel]; rw [HXJ.out, HXP.out]; exact decide_eq_false (by omega))), HNj⟩
        · have hjaz : decide ((j : Int) > (0 : Int)) = false := decide_eq_false (by omega)
          have hjaz' : ¬ (0 : Int) < (j : Int) := by omega
          generalize hwq : (putRow (Value.int .i64) w blk off dj).drewN m = wq
          have HWQ : Sd _ := ⟨hwq⟩
          clear hwq
          go_wp2_with fail
          go_region
          all_goals go_wp2
          go_roundg (b - (i + 1))
          case measure => omega
          case rel => exact ⟨i + 1, _, dj, by go_num, by omega, by omega, by omega, hsj, (show _ = (putRow (Value.int .i64) w blk off dj).drewN (m + 1) from by first | rfl | (rw [← HWQ.out]; rfl)), OUT.out (Or.inl (by omega)), HNj⟩
    · have hltz : ¬ (i : Int) < (b : Int) := by omega
      go_wp2
      go_end0
      exact ⟨rfl, n, by unfold Sort.insertionSort; rw [← HO.out, insOuter_stop _ _ _ _ _ hlt]⟩
set_option maxHeartbeats 2000000 in
set_option maxRecDepth 100000 in
theorem pdq_calls (cf : Int → Int → Int) (N : Int) (g : Nat) (cb : Array Value) (hcb : cb = #[cb[0]!]) (blk off cap b : Nat) (lim : Int) (d : Array Int) (w : World)
    (eg : ∀ args w, (callFunc g args).run Try.prog w = .ok (.enter g args) w) (hcmp : CmpQ g cb cf N blk off d.size w) (hH : Holds (Value.int .i64) w blk off d) (hN : AllIn N d) (hb : b ≤ d.size) (h12 : b ≤ 12) (hd : d.size ≤ 12) :
    Calls Try.prog 152 #[.slice (some ⟨blk, off, none⟩) d.size cap, .int .i64 0, .int .i64 b, .int .i64 lim, .func (.func g) #[] cb] w fun e w' =>
      e = .returned (.tuple #[]) ∧ ∃ n, w' = (putRow (Value.int .i64) w blk off (Sort.insertionSort (ltC cf) d 0 b)).drewN n := by
  have hi := insertionSort_calls cf N g cb hcb blk off cap b d w eg hcmp hH hN hb (by omega)
  clear hH hcmp hN hcb
  go_enter Try.func152, Try.ntmps152
  go_wp2
  refine wp_loop_rounds 1 ?_
  rw [rounds_succ]
  go_wp2_with (go_at_call 164; refine hi.mono ?_; rintro e w' ⟨rfl, n, rfl⟩)
  (try simp only [Exit.inBlock, Exit.then]); refine bodyPost_ret (results_none rfl _ _ _) rfl ?_
  exact ⟨rfl, n, rfl⟩
set_option maxHeartbeats 2000000 in
set_option maxRecDepth 100000 in
theorem sortFunc_calls (cf : Int → Int → Int) (N : Int) (g : Nat) (cb : Array Value) (hcb : cb = #[cb[0]!]) (blk off cap : Nat) (d : Array Int) (w : World)
    (eg : ∀ args w, (callFunc g args).run Try.prog w = .ok (.enter g args) w) (hcmp : CmpQ g cb cf N blk off d.size w) (hH : Holds (Value.int .i64) w blk off d) (hN : AllIn N d) (hd : d.size ≤ 12) :
    Calls Try.prog 113 #[.slice (some ⟨blk, off, none⟩) d.size cap, .func (.func g) #[] cb] w fun e w' =>
      e = .returned (.tuple #[]) ∧ ∃ n, w' = (putRow (Value.int .i64) w blk off (Sort.insertionSort (ltC cf) d 0 d.size)).drewN n := by
  have hp := fun lim => pdq_calls cf N g cb hcb blk off cap d.size lim d w eg hcmp hH hN (Nat.le_refl _) hd hd
  have hl := lib_bits_Len (d.size : Int) w (by omega) (by omega)
  generalize Lib.bitLen (d.size : Int).toNat = bl at hl
  clear hH hcmp hN hcb
  go_enter Try.func113, Try.ntmps113
  go_wp2_with (first | (go_at_call 153; refine hl.mono ?_; rintro e w' ⟨rfl, rfl⟩) | (go_at_call 152; refine (hp _).mono ?_; rintro e w' ⟨rfl, n, rfl⟩))
  go_end0
  exact ⟨rfl, n, rfl⟩
end Go.Proofs.Ytkjkokgbhepmoaa.PB

namespace Go.Proofs.Ytkjkokgbhepmoaa.PB
open Go.RowKit Go.Proofs.YtkjkokgbhepmoaaW.PrintWords Go.Proofs.YtkjkokgbhepmoaaW.PrintLast Go.Proofs.YtkjkokgbhepmoaaW.PrintMore
attribute [local go_sem] max2_int min2_int max_two min_two max_three min_three max_four min_four
def batch_down.f (a0 : Int) (a1 : Int) : Option (Int) := if a1 = 0 then (none) else (if (Int.tmod a0 a1) < 0 then (some (wrap64 ((wrap64 (Int.tdiv a0 a1)) - 1))) else (some (wrap64 (Int.tdiv a0 a1))))
set_option maxHeartbeats 8000000 in
set_option maxRecDepth 100000 in
theorem batch_down.calls (a0 : Int) (a1 : Int) (r : Int) (w : World) (h : batch_down.f a0 a1 = some r) :
  Calls Try.prog 58 #[.int .i64 a0, .int .i64 a1] w fun e w' => e = .returned (.int .i64 r) ∧ Drawn0 w w' := by
 have H : (if a1 = 0 then (none) else (if (Int.tmod a0 a1) < 0 then (some (wrap64 ((wrap64 (Int.tdiv a0 a1)) - 1))) else (some (wrap64 (Int.tdiv a0 a1))))) = some r := h
 clear h
 by_cases c3 : a1 = 0
 ·rw [if_pos c3] at H
  exact absurd H (by simp)
 ·rw [if_neg c3] at H
  have c3b0 : (a1 == 0) = false := beq_eq_false_iff_ne.mpr c3
  have c3b1 : (a1 != 0) = true := bne_iff_ne.mpr c3
  by_cases c4 : (Int.tmod a0 a1) < 0
  ·rw [if_pos c4] at H
   have c4b0 : decide ((Int.tmod a0 a1) < 0) = true := decide_eq_true c4
   clear c4; obtain rfl := Option.some.inj H
   go_enter Try.func58, Try.ntmps58
   go_wp2
   go_ret
   exact ⟨by first | rfl | (simp; done) | (simp [*]; done), by repeat (first | exact Drawn0.refl _ | apply Drawn0.step)⟩
  ·rw [if_neg c4] at H
   have c4b0 : decide ((Int.tmod a0 a1) < 0) = false := decide_eq_false c4
   clear c4; obtain rfl := Option.some.inj H
   go_enter Try.func58, Try.ntmps58
   go_wp2
   go_ret
   exact ⟨by first | rfl | (simp; done) | (simp [*]; done), by repeat (first | exact Drawn0.refl _ | apply Drawn0.step)⟩
end Go.Proofs.Ytkjkokgbhepmoaa.PB

namespace Go.Proofs.Ytkjkokgbhepmoaa.PB
open Go.RowKit Go.Proofs.YtkjkokgbhepmoaaW.PrintWords Go.Proofs.YtkjkokgbhepmoaaW.PrintLast Go.Proofs.YtkjkokgbhepmoaaW.PrintMore
attribute [local go_sem] max2_int min2_int max_two min_two max_three min_three max_four min_four
def batch_up.f (a0 : Int) (a1 : Int) : Option (Int) := (batch_down.f (wrap64 (-a0)) a1).bind fun t177 => (some (wrap64 (-t177)))
set_option maxHeartbeats 8000000 in
set_option maxRecDepth 100000 in
theorem batch_up.calls (a0 : Int) (a1 : Int) (r : Int) (w : World) (h : batch_up.f a0 a1 = some r) :
  Calls Try.prog 59 #[.int .i64 a0, .int .i64 a1] w fun e w' => e = .returned (.int .i64 r) ∧ Drawn0 w w' := by
 have H : ((batch_down.f (wrap64 (-a0)) a1).bind fun t177 => (some (wrap64 (-t177)))) = some r := h
 clear h; replace H := Option.bind_eq_some_iff.mp H; obtain ⟨t177, A30, H⟩ := H
 try dsimp only at H
 have A3 := Sd.mk A30; clear A30; obtain rfl := Option.some.inj H
 go_enter Try.func59, Try.ntmps59
 go_wp2_with (first | ((with_reducible refine gate_callee (f := 58) rfl ?_); refine goesL_ (some 8) rfl rfl Try.func58 (by kernel_rfl) rfl #[.int .i64 (wrap64 (-a0)), .int .i64 a1] rfl tM ?_; (with_reducible refine (batch_down.calls (wrap64 (-a0)) a1 t177 _ A3.out).mono ?_); rintro e w' ⟨rfl, ⟨nd, rfl⟩⟩; refine ⟨_, rfl, ?_⟩))
 go_ret
 exact ⟨by first | rfl | (simp; done) | (simp [*]; done), by repeat (first | exact Drawn0.refl _ | apply Drawn0.step)⟩
end Go.Proofs.Ytkjkokgbhepmoaa.PB

namespace Go.Proofs.Ytkjkokgbhepmoaa.PB
open Go.RowKit Go.Proofs.YtkjkokgbhepmoaaW.PrintWords Go.Proofs.YtkjkokgbhepmoaaW.PrintLast Go.Proofs.YtkjkokgbhepmoaaW.PrintMore
open Go.Sort (putRow Holds)
attribute [local go_sem] max2_int min2_int max_two min_two
theorem wrap_id {x : Int} (h1 : -9223372036854775808 ≤ x) (h2 : x ≤ 9223372036854775807) : wrap64 x = x := by unfold wrap64; omega
theorem down_f (n d : Int) (hd : 0 < d) (hn1 : -1000000000000000000 ≤ n) (hn2 : n ≤ 1000000000000000000) : batch_down.f n d = some (n / d) := by
  unfold batch_down.f
  rw [if_neg (by omega)]
  have hq : Int.tdiv n d = if 0 ≤ n then n / d else -((-n) / d) := by
    split
    · rename_i h; exact Int.tdiv_eq_ediv_of_nonneg h
    · rename_i h
      have := Int.neg_tdiv (a := -n) (b := d)
      rw [Int.neg_neg] at this
      rw [this, Int.tdiv_eq_ediv_of_nonneg (by omega)]
  have hr : Int.tmod n d = n - d * Int.tdiv n d := by have := Int.mul_tdiv_add_tmod n d; omega
  have e1 := Int.mul_ediv_add_emod n d
  have e2 := Int.emod_nonneg n (show d ≠ 0 by omega)
  have e3 := Int.emod_lt_of_pos n hd
  have f1 := Int.mul_ediv_add_emod (-n) d
  have f2 := Int.emod_nonneg (-n) (show d ≠ 0 by omega)
  have f3 := Int.emod_lt_of_pos (-n) hd
  have habs : ∀ m : Int, -1000000000000000000 ≤ m → m ≤ 1000000000000000000 → -1000000000000000000 ≤ m / d ∧ m / d ≤ 1000000000000000000 := by
    intro m h1 h2
    constructor
    · exact (Int.le_ediv_iff_mul_le hd).2 (by have := Int.mul_le_mul_of_nonpos_left (show (-1000000000000000000 : Int) ≤ 0 by omega) (show (1:Int) ≤ d by omega); omega)
    · by_cases hm : 0 ≤ m
      · exact Int.le_trans (Int.ediv_le_self _ hm) h2
      · have : m / d < 0 := Int.ediv_neg_of_neg_of_pos (by omega) hd
        omega
  have g1 := habs n hn1 hn2
  have g2 := habs (-n) (by omega) (by omega)
  by_cases h0 : 0 ≤ n
  · rw [if_pos h0] at hq
    rw [hq] at hr ⊢
    rw [if_neg (by omega), wrap_id (by omega) (by omega)]
  · rw [if_neg h0] at hq
    rw [hq] at hr ⊢
    rw [wrap_id (x := -(-n / d)) (by omega) (by omega)]
    by_cases hz : Int.tmod n d < 0
    · rw [if_pos hz, wrap_id (by omega) (by omega)]
      congr 1
      have h1 : n - d * (-(-n / d)) < 0 := by omega
      have h2 : d * (-(-n/d)) = -(d * (-n / d)) := Int.mul_neg ..
      have h3 : d * (n / d + (-n) / d) = -(n % d + (-n) % d) := by rw [Int.mul_add]; omega
      have h4 : n / d + (-n) / d < 0 := by
        apply Int.not_le.1; intro hle
        have := Int.mul_nonneg (show 0 ≤ d by omega) hle
        omega
      have h5 : -2 < n / d + (-n) / d := by
        apply Int.not_le.1; intro hle
        have := Int.mul_le_mul_of_nonneg_left hle (show 0 ≤ d by omega)
        omega
      omega
    · rw [if_neg hz]
      congr 1
      have h2 : d * (-(-n/d)) = -(d * (-n / d)) := Int.mul_neg ..
      have h3 : d * (n / d + (-n) / d) = -(n % d + (-n) % d) := by rw [Int.mul_add]; omega
      have hs : (-n) % d = 0 := by omega
      have hs2 : n % d = 0 := by
        have hdv : d ∣ -n := Int.dvd_of_emod_eq_zero hs
        exact Int.emod_eq_zero_of_dvd (Int.dvd_neg.1 hdv)
      have h4 : d * (n / d + (-n) / d) = 0 := by omega
      rcases Int.mul_eq_zero.1 h4 with h | h <;> omega
theorem up_f (n d : Int) (hd : 0 < d) (hn1 : -1000000000000000000 ≤ n) (hn2 : n ≤ 1000000000000000000) : batch_up.f n d = some (-((-n) / d)) := by
  unfold batch_up.f
  rw [wrap_id (by omega) (by omega), down_f (-n) d hd (by omega) (by omega)]
  simp only [Option.bind_some]
  congr 1
  apply wrap_id
  · have : -n / d ≤ 1000000000000000000 := by
      by_cases hm : 0 ≤ -n
      · exact Int.le_trans (Int.ediv_le_self _ hm) (by omega)
      · have : -n / d < 0 := Int.ediv_neg_of_neg_of_pos (by omega) hd
        omega
    omega
  · have : -1000000000000000000 ≤ -n / d := (Int.le_ediv_iff_mul_le hd).2 (by have := Int.mul_le_mul_of_nonpos_left (show (-1000000000000000000 : Int) ≤ 0 by omega) (show (1:Int) ≤ d by omega); omega)
    omega
def sumTo (f : Nat → Int) : Nat → Int
  | 0 => 0
  | n + 1 => sumTo f n + f n
theorem sumTo_bound {f : Nat → Int} {M : Int} {n : Nat} (h : ∀ j, j < n → -M ≤ f j ∧ f j ≤ M) : ∀ k, k ≤ n → -(k * M) ≤ sumTo f k ∧ sumTo f k ≤ k * M := by
  intro k
  induction k with
  | zero => intro _; simp [sumTo]
  | succ k ih =>
    intro hk
    have h1 := ih (by omega)
    have h2 := h k (by omega)
    have h3 : ((k + 1 : Nat) : Int) * M = k * M + M := by rw [Int.natCast_succ, Int.add_mul, Int.one_mul]
    rw [h3]
    simp only [sumTo]
    omega
theorem sumTo_pos {f : Nat → Int} {n : Nat} (h : ∀ j, j < n → 0 ≤ f j) : ∀ k, k ≤ n → 0 ≤ sumTo f k := by
  intro k
  induction k with
  | zero => intro _; simp [sumTo]
  | succ k ih => intro hk; have := ih (by omega); have := h k (by omega); simp only [sumTo]; omega
def wX (l : List S27) (D : Array Int) (cut j : Nat) : Int := if (j : Int) < (cut : Int) then (rd_T27 l D[j]!).f1 else (rd_T27 l D[j]!).f0
def wY (l : List S27) (D : Array Int) (cut j : Nat) : Int := if (j : Int) < (cut : Int) then (rd_T27 l D[j]!).f0 else (rd_T27 l D[j]!).f1
def lowN (cf : Int → Int) (l : List S27) (D : Array Int) (cut : Nat) : Nat → Int := sumTo fun j => cf D[j]! * wX l D cut j
def lowD (l : List S27) (D : Array Int) (cut : Nat) : Nat → Int := sumTo (wX l D cut)
def highN (cf : Int → Int) (l : List S27) (D : Array Int) (cut : Nat) : Nat → Int := sumTo fun j => cf D[j]! * wY l D cut j
def highD (l : List S27) (D : Array Int) (cut : Nat) : Nat → Int := sumTo (wY l D cut)
def lowQ (cf : Int → Int) (l : List S27) (D : Array Int) (cut : Nat) : Int := lowN cf l D cut l.length / lowD l D cut l.length
def highQ (cf : Int → Int) (l : List S27) (D : Array Int) (cut : Nat) : Int := -((-highN cf l D cut l.length) / highD l D cut l.length)
def minF (F : Nat → Int) : Nat → Int
  | 0 => F 0
  | n + 1 => if F (n + 1) < minF F n then F (n + 1) else minF F n
def maxF (F : Nat → Int) : Nat → Int
  | 0 => F 0
  | n + 1 => if maxF F n < F (n + 1) then F (n + 1) else maxF F n
def atCut (F : Nat → Int) (g : (Nat → Int) → Nat → Int) : Nat → Int
  | 0 => 0
  | n + 1 => g F n
def orderOf (cf : Int → Int) (n : Nat) : Array Int := Sort.insertionSort (ltC fun a b => cf a - cf b) (Array.ofFn fun j : Fin n => (j.val : Int)) 0 n
def meanLo (cf : Int → Int) (l : List S27) : Int := minF (lowQ cf l (orderOf cf l.length)) l.length
def meanHi (cf : Int → Int) (l : List S27) : Int := maxF (highQ cf l (orderOf cf l.length)) l.length
structure MeanOk (cf : Int → Int) (l : List S27) : Prop where
  n12 : l.length ≤ 12
  lo : ∀ k : Int, 0 ≤ k → k < l.length → 0 ≤ (rd_T27 l k).f0
  le : ∀ k : Int, 0 ≤ k → k < l.length → (rd_T27 l k).f0 ≤ (rd_T27 l k).f1
  hi : ∀ k : Int, 0 ≤ k → k < l.length → (rd_T27 l k).f1 ≤ 1000000000
  c1 : ∀ k : Int, 0 ≤ k → k < l.length → -100000 ≤ cf k
  c2 : ∀ k : Int, 0 ≤ k → k < l.length → cf k ≤ 100000
  pos : 0 < MeanMath.lsum S27.f0 l
end Go.Proofs.Ytkjkokgbhepmoaa.PB

namespace Go.Proofs.Ytkjkokgbhepmoaa.PB
open Go.RowKit Go.Proofs.YtkjkokgbhepmoaaW.PrintWords Go.Proofs.YtkjkokgbhepmoaaW.PrintLast Go.Proofs.YtkjkokgbhepmoaaW.PrintMore
open Go.Sort (putRow Holds)
attribute [local go_sem] max2_int min2_int max_two min_two
theorem below_putRow {B : Nat} {w W : World} (h : Below B w W) {blk off : Nat} (hb : B ≤ blk) (d : Array Int) : Below B w (putRow (Value.int .i64) W blk off d) := by
  refine ⟨h.os, h.tape, h.output, by rw [Go.Sort.size_putRow]; exact h.size, fun i hi => ?_⟩
  rw [← h.block i hi]
  unfold Go.Sort.putRow Go.Sort.mapBlock
  simp only [Array.getElem?_modify]
  rw [if_neg (by omega)]
theorem blk_putRow {W : World} {g : Nat} {o : Obj} (h : W.heap[g]? = some o) {blk off : Nat} (hb : g ≠ blk) (d : Array Int) : (putRow (Value.int .i64) W blk off d).heap[g]? = some o := by
  rw [← h]
  unfold Go.Sort.putRow Go.Sort.mapBlock
  simp only [Array.getElem?_modify]
  rw [if_neg (by omega)]
def CoefQ (g : Nat) (lb : Array Value) (cf : Int → Int) (N : Int) (w : World) : Prop :=
  ∀ W, Below w.heap.size w W → ∀ x, 0 ≤ x → x < N → Calls Try.prog g (#[.int .i64 x] ++ lb) W fun e w' => e = .returned (.int .i64 (cf x)) ∧ ∃ q, w' = W.drewN q
set_option maxHeartbeats 1000000 in
theorem meanCmp_calls (B g : Nat) (lb : Array Value) (cf : Int → Int) (N : Int) (w W : World) (eg : ∀ args w, (callFunc g args).run Try.prog w = .ok (.enter g args) w)
    (hq : CoefQ g lb cf N w) (hb : Below w.heap.size w W) (hB : W.cell? ⟨B, 0, none⟩ = some (.func (.func g) #[] lb)) (x y : Int) (hx0 : 0 ≤ x) (hx1 : x < N) (hy0 : 0 ≤ y) (hy1 : y < N)
    (hx2 : -100000 ≤ cf x) (hx3 : cf x ≤ 100000) (hy2 : -100000 ≤ cf y) (hy3 : cf y ≤ 100000) :
    Calls Try.prog 114 #[.int .i64 x, .int .i64 y, .pointer (some ⟨B, 0, none⟩)] W fun e w' => e = .returned (.int .i64 (cf x - cf y)) ∧ ∃ q, w' = W.drewN q := by
  have h1 : ∀ n, Calls Try.prog g (#[.int .i64 x] ++ lb) (W.drewN n) fun e w' => e = .returned (.int .i64 (cf x)) ∧ ∃ q, w' = (W.drewN n).drewN q := fun n => hq _ (pw_below_drewN hb n) x hx0 hx1
  have h2 : ∀ n, Calls Try.prog g (#[.int .i64 y] ++ lb) (W.drewN n) fun e w' => e = .returned (.int .i64 (cf y)) ∧ ∃ q, w' = (W.drewN n).drewN q := fun n => hq _ (pw_below_drewN hb n) y hy0 hy1
  have H1 : Sd _ := ⟨h1⟩
  have H2 : Sd _ := ⟨h2⟩
  clear h1 h2 hq hb
  generalize cf x = cx at *
  generalize cf y = cy at *
  go_enter Try.func114, Try.ntmps114
  go_wp2_with fail
  go_quiet (first | (go_at_fn g; exact Calls.quiet_of (H1.out _)) | (go_at_fn g; exact Calls.quiet_of (H2.out _)))
  go_wp2
  go_ret
  exact ⟨rfl, _, rfl⟩
end Go.Proofs.Ytkjkokgbhepmoaa.PB

namespace Go.Proofs.Ytkjkokgbhepmoaa.PB
open Go.RowKit Go.Proofs.YtkjkokgbhepmoaaW.PrintWords Go.Proofs.YtkjkokgbhepmoaaW.PrintLast Go.Proofs.YtkjkokgbhepmoaaW.PrintMore
open Go.Sort (putRow Holds)
attribute [local go_sem] max2_int min2_int max_two min_two
theorem swo_cf (cf : Int → Int) : Go.Sort.SWO (ltC fun a b => cf a - cf b) where
  irrefl x := by simp [ltC]
  trans x y z h1 h2 := by simp only [ltC, decide_eq_true_eq] at *; omega
  ntrans x y z h1 h2 := by simp only [ltC, decide_eq_false_iff_not] at *; omega
def iotaA (n : Nat) : Array Int := Array.ofFn fun j : Fin n => (j.val : Int)
theorem iotaA_size (n : Nat) : (iotaA n).size = n := by simp [iotaA]
theorem order_facts (cf : Int → Int) (n : Nat) : Go.Sort.PermIn 0 n (iotaA n) (orderOf cf n) ∧ Go.Sort.SortedIn (ltC fun a b => cf a - cf b) 0 n (orderOf cf n) := by
  have h := Go.Sort.insertionSort_holds (lt := ltC fun a b => cf a - cf b) (swo_cf cf) (iotaA n) 0 n (Nat.zero_le _) (by rw [iotaA_size]; exact Nat.le_refl _)
  exact h
theorem order_size (cf : Int → Int) (n : Nat) : (orderOf cf n).size = n := by rw [(order_facts cf n).1.1, iotaA_size]
theorem order_perm (cf : Int → Int) (n : Nat) : (orderOf cf n).toList.Perm (iotaA n).toList := by
  have h := (order_facts cf n).1.2.2
  have e1 : (orderOf cf n).extract 0 n = orderOf cf n := by
    have := Array.extract_size (xs := orderOf cf n); rwa [order_size] at this
  have e2 : (iotaA n).extract 0 n = iotaA n := by
    have := Array.extract_size (xs := iotaA n); rwa [iotaA_size] at this
  rwa [e1, e2] at h
theorem order_in (cf : Int → Int) (n : Nat) : AllIn n (orderOf cf n) := by
  intro j hj
  have hm : (orderOf cf n)[j]! ∈ (orderOf cf n).toList := by
    rw [getElem!_pos _ j hj]
    exact Array.getElem_mem_toList hj
  have hm2 := (order_perm cf n).mem_iff.1 hm
  generalize (orderOf cf n)[j]! = x at hm2
  simp only [iotaA, Array.toList_ofFn, List.mem_ofFn] at hm2
  obtain ⟨i, rfl⟩ := hm2
  have := i.isLt
  omega
def fillTo (n k : Nat) : Array Int := Array.ofFn fun j : Fin n => if j.val < k then (j.val : Int) else 0
theorem fillTo_size (n k : Nat) : (fillTo n k).size = n := by simp [fillTo]
theorem fillTo_all (n : Nat) : fillTo n n = iotaA n := by
  unfold fillTo iotaA
  congr 1
  funext j
  rw [if_pos j.isLt]
theorem fillTo_get (n k i : Nat) (h : i < (fillTo n k).size) : (fillTo n k)[i] = if i < k then (i : Int) else 0 := by simp [fillTo]
theorem fillTo_step (n k : Nat) (hk : k < n) : (fillTo n k).setIfInBounds k (k : Int) = fillTo n (k + 1) := by
  apply Array.ext
  · rw [Array.size_setIfInBounds, fillTo_size, fillTo_size]
  · intro i h1 h2
    have h3 : i < (fillTo n k).size := by rwa [Array.size_setIfInBounds] at h1
    rw [Array.getElem_setIfInBounds h3, fillTo_get _ _ _ h2, fillTo_get _ _ _ h3]
    by_cases h : k = i
    · rw [if_pos h, if_pos (by omega), h]
    · rw [if_neg h]
      by_cases h4 : i < k
      · rw [if_pos h4, if_pos (by omega)]
      · rw [if_neg h4, if_neg (by omega)]
structure MeanW (w0 W : World) (B9 B10 : Nat) (a b c d : Int) : Prop where
  below : Below w0.heap.size w0 W
  b9 : W.heap[B9]? = some (.cells #[.int .i64 a, .int .i64 b] 149 (0, 0))
  b10 : W.heap[B10]? = some (.cells #[.int .i64 c, .int .i64 d] 149 (0, 0))
theorem MeanW.drewN {w0 W : World} {B9 B10 : Nat} {a b c d : Int} (h : MeanW w0 W B9 B10 a b c d) (n : Nat) : MeanW w0 (W.drewN n) B9 B10 a b c d := ⟨pw_below_drewN h.below n, h.b9, h.b10⟩
theorem MeanW.put9 {w0 W : World} {B9 B10 : Nat} {a b c d : Int} (h : MeanW w0 W B9 B10 a b c d) (h9 : w0.heap.size ≤ B9) (hne : B10 ≠ B9) (a' b' : Int) :
    MeanW w0 ((W.setCell ⟨B9, 0, none⟩ (.int .i64 a')).setCell ⟨B9, 1, none⟩ (.int .i64 b')) B9 B10 a' b' c d :=
  ⟨below_set (below_set h.below h9) h9, blk_put (blk_put h.b9 0 _ rfl) 1 _ rfl, blk_far (p := ⟨B9, 1, none⟩) (blk_far (p := ⟨B9, 0, none⟩) h.b10 hne _) hne _⟩
theorem MeanW.put10 {w0 W : World} {B9 B10 : Nat} {a b c d : Int} (h : MeanW w0 W B9 B10 a b c d) (h9 : w0.heap.size ≤ B10) (hne : B9 ≠ B10) (c' d' : Int) :
    MeanW w0 ((W.setCell ⟨B10, 0, none⟩ (.int .i64 c')).setCell ⟨B10, 1, none⟩ (.int .i64 d')) B9 B10 a b c' d' :=
  ⟨below_set (below_set h.below h9) h9, blk_far (p := ⟨B10, 1, none⟩) (blk_far (p := ⟨B10, 0, none⟩) h.b9 hne _) hne _, blk_put (blk_put h.b10 0 _ rfl) 1 _ rfl⟩
theorem mean_ranges {cf : Int → Int} {l : List S27} (H : MeanOk cf l) (D : Array Int) (hD : AllIn l.length D) (hs : D.size = l.length) (cut j : Nat) (hj : j < l.length) :
    (0 ≤ wX l D cut j ∧ wX l D cut j ≤ 1000000000) ∧ (0 ≤ wY l D cut j ∧ wY l D cut j ≤ 1000000000) ∧
    (-100000000000000 ≤ cf D[j]! * wX l D cut j ∧ cf D[j]! * wX l D cut j ≤ 100000000000000) ∧ (-100000000000000 ≤ cf D[j]! * wY l D cut j ∧ cf D[j]! * wY l D cut j ≤ 100000000000000) := by
  have hk := hD j (by omega)
  have a1 := H.lo _ hk.1 hk.2
  have a2 := H.le _ hk.1 hk.2
  have a3 := H.hi _ hk.1 hk.2
  have a4 := H.c1 _ hk.1 hk.2
  have a5 := H.c2 _ hk.1 hk.2
  have hX : 0 ≤ wX l D cut j ∧ wX l D cut j ≤ 1000000000 := by unfold wX; split <;> omega
  have hY : 0 ≤ wY l D cut j ∧ wY l D cut j ≤ 1000000000 := by unfold wY; split <;> omega
  have mulb : ∀ c x : Int, -100000 ≤ c → c ≤ 100000 → 0 ≤ x → x ≤ 1000000000 → -100000000000000 ≤ c * x ∧ c * x ≤ 100000000000000 := by
    intro c x h1 h2 h3 h4
    have e1 := Int.mul_le_mul_of_nonneg_right h1 h3
    have e2 := Int.mul_le_mul_of_nonneg_right h2 h3
    omega
  exact ⟨hX, hY, mulb _ _ a4 a5 hX.1 hX.2, mulb _ _ a4 a5 hY.1 hY.2⟩
structure OutW (w : World) (B3 B4 B5 Bo g : Nat) (lb : Array Value) (D : Array Int) (W : World) (x y : Int) : Prop where
  below : Below w.heap.size w W
  fn : W.heap[B3]? = some (.cells #[.func (.func g) #[] lb] 103 (0, 0))
  res : W.heap[B4]? = some (.cells #[.int .i64 0, .int .i64 0] 27 (0, 0))
  row : ∀ j, j < D.size → W.cell? ⟨B5, j, none⟩ = some (.int .i64 D[j]!)
  out : W.heap[Bo]? = some (.cells #[.int .i64 x, .int .i64 y] 27 (0, 0))
theorem OutW.later {w : World} {B3 B4 B5 Bo g : Nat} {lb : Array Value} {D : Array Int} {W W' : World} {x y : Int} (h : OutW w B3 B4 B5 Bo g lb D W x y) (hb : Below W.heap.size W W') : OutW w B3 B4 B5 Bo g lb D W' x y :=
  ⟨below_trans' h.below hb, blk_below h.fn hb, blk_below h.res hb, fun j hj => pw_cell_below hb (h.row j hj), blk_below h.out hb⟩
theorem OutW.put {w : World} {B3 B4 B5 Bo g : Nat} {lb : Array Value} {D : Array Int} {W : World} {x y : Int} (h : OutW w B3 B4 B5 Bo g lb D W x y) (h0 : w.heap.size ≤ Bo) (h3 : B3 ≠ Bo) (h4 : B4 ≠ Bo) (h5 : B5 ≠ Bo) (x' y' : Int) :
    OutW w B3 B4 B5 Bo g lb D ((W.setCell ⟨Bo, 0, none⟩ (.int .i64 x')).setCell ⟨Bo, 1, none⟩ (.int .i64 y')) x' y' :=
  ⟨below_set (below_set h.below h0) h0, blk_far (p := ⟨Bo, 1, none⟩) (blk_far (p := ⟨Bo, 0, none⟩) h.fn h3 _) h3 _, blk_far (p := ⟨Bo, 1, none⟩) (blk_far (p := ⟨Bo, 0, none⟩) h.res h4 _) h4 _,
   fun j hj => (World.cell?_setCell_other _ _ _ _ (by simp only [ne_eq, Addr.mk.injEq]; omega)).trans ((World.cell?_setCell_other _ _ _ _ (by simp only [ne_eq, Addr.mk.injEq]; omega)).trans (h.row j hj)), blk_put (blk_put h.out 0 _ rfl) 1 _ rfl⟩
theorem OutW.drewN {w : World} {B3 B4 B5 Bo g : Nat} {lb : Array Value} {D : Array Int} {W : World} {x y : Int} (h : OutW w B3 B4 B5 Bo g lb D W x y) (n : Nat) : OutW w B3 B4 B5 Bo g lb D (W.drewN n) x y :=
  ⟨pw_below_drewN h.below n, h.fn, h.res, h.row, h.out⟩
theorem mean_sums {cf : Int → Int} {l : List S27} (H : MeanOk cf l) (D : Array Int) (hD : AllIn l.length D) (hs : D.size = l.length) (cut k : Nat) (hk : k ≤ l.length) :
    (-1200000000000000 ≤ lowN cf l D cut k ∧ lowN cf l D cut k ≤ 1200000000000000) ∧ (0 ≤ lowD l D cut k ∧ lowD l D cut k ≤ 12000000000) ∧
    (-1200000000000000 ≤ highN cf l D cut k ∧ highN cf l D cut k ≤ 1200000000000000) ∧ (0 ≤ highD l D cut k ∧ highD l D cut k ≤ 12000000000) := by
  have h12 := H.n12
  have b1 := sumTo_bound (f := fun j => cf D[j]! * wX l D cut j) (M := 100000000000000) (n := l.length) (fun j hj => (mean_ranges H D hD hs cut j hj).2.2.1) k hk
  have b2 := sumTo_bound (f := wX l D cut) (M := 1000000000) (n := l.length) (fun j hj => by have := (mean_ranges H D hD hs cut j hj).1; omega) k hk
  have b3 := sumTo_bound (f := fun j => cf D[j]! * wY l D cut j) (M := 100000000000000) (n := l.length) (fun j hj => (mean_ranges H D hD hs cut j hj).2.2.2) k hk
  have b4 := sumTo_bound (f := wY l D cut) (M := 1000000000) (n := l.length) (fun j hj => by have := (mean_ranges H D hD hs cut j hj).2.1; omega) k hk
  have p2 := sumTo_pos (f := wX l D cut) (n := l.length) (fun j hj => (mean_ranges H D hD hs cut j hj).1.1) k hk
  have p4 := sumTo_pos (f := wY l D cut) (n := l.length) (fun j hj => (mean_ranges H D hD hs cut j hj).2.1.1) k hk
  unfold lowN lowD highN highD
  omega
theorem wrap_two {a m s : Int} (h : s = a + m) (h1 : -1200000000000000 ≤ a) (h2 : a ≤ 1200000000000000) (h3 : -100000000000000 ≤ m) (h4 : m ≤ 100000000000000) : IntKind.i64.wrap (a + IntKind.i64.wrap m) = s := by
  simp only [IntKind.wrap_i64]; omega
theorem wrap_one {a m s : Int} (h : s = a + m) (h1 : 0 ≤ a) (h2 : a ≤ 12000000000) (h3 : 0 ≤ m) (h4 : m ≤ 1000000000) : IntKind.i64.wrap (a + m) = s := by
  simp only [IntKind.wrap_i64]; omega
theorem sumTo_lsum (f : Int → Int) (D : Array Int) : ∀ k, k ≤ D.size → sumTo (fun j => f D[j]!) k = MeanMath.lsum f (D.toList.take k) := by
  intro k
  induction k with
  | zero => intro _; simp [sumTo]
  | succ k ih =>
    intro hk
    have hk' : k < D.toList.length := by rw [Array.length_toList]; omega
    rw [List.take_succ_eq_append_getElem hk', MeanMath.lsum_append]
    simp only [sumTo, MeanMath.lsum_cons, MeanMath.lsum_nil]
    rw [ih (by omega), getElem!_pos _ k (by omega)]
    simp
theorem lsum_iota (f : Int → Int) (l : List S27) (h : ∀ k : Nat, k < l.length → f k = (rd_T27 l k).f0) : MeanMath.lsum f (iotaA l.length).toList = MeanMath.lsum S27.f0 l := by
  have e : (iotaA l.length).toList = (List.range l.length).map (fun n : Nat => (n : Int)) := by
    apply List.ext_getElem
    · simp [iotaA]
    · intro i h1 h2; simp [iotaA]
  rw [e]
  have : ∀ (m : List S27) (pre : List S27), pre ++ m = l → MeanMath.lsum f ((List.range' pre.length m.length).map (fun n : Nat => (n : Int))) = MeanMath.lsum S27.f0 m := by
    intro m
    induction m with
    | nil => intro pre _; simp
    | cons x m ih =>
      intro pre hp
      have h1 := ih (pre ++ [x]) (by simpa using hp)
      simp only [List.length_append, List.length_singleton] at h1
      simp only [List.length_cons, List.range'_succ, List.map_cons, MeanMath.lsum_cons, h1]
      rw [h pre.length (by rw [← hp]; simp)]
      congr 1
      simp [rd_T27, ← hp]
  have h2 := this l [] rfl
  simpa [List.range_eq_range'] using h2
theorem mean_pos {cf : Int → Int} {l : List S27} (H : MeanOk cf l) (D : Array Int) (hD : AllIn l.length D) (hs : D.size = l.length) (hp : D.toList.Perm (iotaA l.length).toList) (cut : Nat) :
    0 < lowD l D cut l.length ∧ 0 < highD l D cut l.length := by
  have base : sumTo (fun j => (rd_T27 l D[j]!).f0) l.length = MeanMath.lsum S27.f0 l := by
    have := sumTo_lsum (fun k => (rd_T27 l k).f0) D l.length (by omega)
    rw [this, List.take_of_length_le (by simp; omega), MeanMath.lsum_perm _ hp]
    exact lsum_iota _ l (fun k _ => rfl)
  have mono : ∀ f : Nat → Int, (∀ j, j < l.length → (rd_T27 l D[j]!).f0 ≤ f j) → ∀ k, k ≤ l.length → sumTo (fun j => (rd_T27 l D[j]!).f0) k ≤ sumTo f k := by
    intro f hf k
    induction k with
    | zero => intro _; simp [sumTo]
    | succ k ih => intro hk; have := ih (by omega); have := hf k (by omega); simp only [sumTo]; omega
  have hpos := H.pos
  have h1 := mono (wX l D cut) (fun j hj => by
    have hk := hD j (by omega)
    have := H.le _ hk.1 hk.2
    unfold wX; split <;> omega) l.length (Nat.le_refl _)
  have h2 := mono (wY l D cut) (fun j hj => by
    have hk := hD j (by omega)
    have := H.le _ hk.1 hk.2
    unfold wY; split <;> omega) l.length (Nat.le_refl _)
  unfold lowD highD
  omega
end Go.Proofs.Ytkjkokgbhepmoaa.PB

namespace Go.Proofs.Ytkjkokgbhepmoaa.PB
open Go.RowKit Go.Proofs.YtkjkokgbhepmoaaW.PrintWords Go.Proofs.YtkjkokgbhepmoaaW.PrintLast Go.Proofs.YtkjkokgbhepmoaaW.PrintMore
open Go.Sort (putRow Holds)
attribute [local go_sem] max2_int min2_int max_two min_two
set_option maxHeartbeats 4000000 in
set_option maxRecDepth 100000 in
theorem mean_calls (cf : Int → Int) (A0 : Option Addr) (c0 : Nat) (l0 : List S27) (g : Nat) (lb : Array Value) (w : World) (eg : ∀ args w, (callFunc g args).run Try.prog w = .ok (.enter g args) w)
  (hr0 : Kd.C k27 w A0 l0.length l0) (hc0 : l0.length ≤ c0) (hq : CoefQ g lb cf l0.length w) (hok : MeanOk cf l0) :
  Calls Try.prog 51 #[.slice A0 l0.length c0, .func (.func g) #[] lb] w fun e w' => e = .returned (.agg #[.int .i64 (meanLo cf l0), .int .i64 (meanHi cf l0)]) ∧ Below w.heap.size w w' := by
 have hn := hok.n12
 have HR0 := Sd.mk hr0
 have HQ := Sd.mk hq
 have HOK := Sd.mk hok
 have HMK := print_make 30 3 .i64 8 Try.underlying30 info3 (by decide) l0.length (by omega)
 have hpos : 0 < l0.length := by
  rcases Nat.eq_zero_or_pos l0.length with h | h
  ·have := List.eq_nil_of_length_eq_zero h
   subst this
   exact absurd hok.pos (by simp)
  ·exact h
 have HN := Sd.mk hn
 clear hr0 hq hok
 go_enter Try.func51, Try.ntmps51
 go_wp2
 have hz0 : (madeCells #[Value.int .i64 0] l0.length) = (Array.ofFn fun _ : Fin l0.length => Value.int .i64 0) := by
  apply Array.ext
  ·simp [madeCells]
  ·intro i h1 h2; simp [madeCells, Nat.mod_one]
 rw [hz0]
 have hzb : (((w.alloc (.cells #[.func (.func g) #[] lb] 103)).alloc (.cells #[.int .i64 0, .int .i64 0] 27)).alloc (.cells (Array.ofFn fun _ : Fin l0.length => Value.int .i64 0) 3)).heap[w.heap.size + 1 + 1]? = some (.cells (Array.ofFn fun _ : Fin l0.length => Value.int .i64 0) 3 (0, 0)) := by
  have := blk_new ((w.alloc (.cells #[.func (.func g) #[] lb] 103)).alloc (.cells #[.int .i64 0, .int .i64 0] 27)) (.cells (Array.ofFn fun _ : Fin l0.length => Value.int .i64 0) 3)
  simpa using this
 have hrb : (((w.alloc (.cells #[.func (.func g) #[] lb] 103)).alloc (.cells #[.int .i64 0, .int .i64 0] 27)).alloc (.cells (Array.ofFn fun _ : Fin l0.length => Value.int .i64 0) 3)).heap[w.heap.size + 1]? = some (.cells #[.int .i64 0, .int .i64 0] 27 (0, 0)) := by
  have := blk_alloc (blk_new (w.alloc (.cells #[.func (.func g) #[] lb] 103)) (.cells #[.int .i64 0, .int .i64 0] 27)) (.cells (Array.ofFn fun _ : Fin l0.length => Value.int .i64 0) 3)
  simpa using this
 have hfb : (((w.alloc (.cells #[.func (.func g) #[] lb] 103)).alloc (.cells #[.int .i64 0, .int .i64 0] 27)).alloc (.cells (Array.ofFn fun _ : Fin l0.length => Value.int .i64 0) 3)).heap[w.heap.size]? = some (.cells #[.func (.func g) #[] lb] 103 (0, 0)) :=
  blk_alloc (blk_alloc (blk_new w (.cells #[.func (.func g) #[] lb] 103)) _) _
 have hbe : Below w.heap.size w (((w.alloc (.cells #[.func (.func g) #[] lb] 103)).alloc (.cells #[.int .i64 0, .int .i64 0] 27)).alloc (.cells (Array.ofFn fun _ : Fin l0.length => Value.int .i64 0) 3)) := below_alloc (below_alloc (below_alloc (Below.refl _ _) _) _) _
 generalize ((w.alloc (.cells #[.func (.func g) #[] lb] 103)).alloc (.cells #[.int .i64 0, .int .i64 0] 27)).alloc (.cells (Array.ofFn fun _ : Fin l0.length => Value.int .i64 0) 3) = w1 at *
 have hH : Holds (Value.int .i64) w1 (w.heap.size + 1 + 1) 0 (fillTo l0.length 0) := by
  intro j hj
  rw [fillTo_size] at hj
  rw [blk_cell hzb, blk_frozen hzb, getElem!_pos _ j (by rw [fillTo_size]; exact hj)]
  simp [fillTo, hj]
 have HH := Sd.mk hH
 have HZB := Sd.mk hzb
 have HRB := Sd.mk hrb
 have HFB := Sd.mk hfb
 have HBE := Sd.mk hbe
 clear hH hzb hrb hfb hbe hz0 HMK
 have hself : w1 = putRow (Value.int .i64) w1 (w.heap.size + 1 + 1) 0 (fillTo l0.length 0) := (Go.Sort.putRow_self _ _ _ _ _ HH.out).symm
 have HSELF := Sd.mk hself
 clear hself
 go_loopg [22] l0.length (fun gq v22 wr => ∃ k : Nat, v22 = .int .i64 k ∧ k ≤ l0.length ∧ l0.length - k ≤ gq ∧ wr = putRow (Value.int .i64) w1 (w.heap.size + 1 + 1) 0 (fillTo l0.length k))
 case atStart => exact ⟨0, rfl, Nat.zero_le _, by omega, HSELF.out⟩
 case round =>
  obtain ⟨k, rfl, hk, hgk, rfl⟩ := hrel
  by_cases hlt : k < l0.length
  ·have hltz : (k : Int) < (l0.length : Int) := by omega
   have hcell := (Go.Sort.holds_putRow (Value.int .i64) w1 (w.heap.size + 1 + 1) 0 (fillTo l0.length 0) (fillTo l0.length k) HH.out (by rw [fillTo_size, fillTo_size])) k (by rw [fillTo_size]; exact hlt)
   have hset := Go.Sort.putRow_set (Value.int .i64) w1 (w.heap.size + 1 + 1) 0 (fillTo l0.length k) k (k : Int) (by rw [fillTo_size]; exact hlt)
   rw [fillTo_step _ _ hlt] at hset
   simp only [Nat.zero_add] at hcell hset
   obtain ⟨hc1, hc2⟩ := hcell
   have HSET := Sd.mk hset
   clear hset
   generalize putRow (Value.int .i64) w1 (w.heap.size + 1 + 1) 0 (fillTo l0.length k) = wq at hc1 hc2 HSET ⊢
   generalize (fillTo l0.length k)[k]! = z at hc1
   go_wp2
   go_roundg (l0.length - (k + 1))
   case measure => omega
   case rel => exact ⟨k + 1, by go_num, by omega, by omega, HSET.out⟩
  ·have hltz : ¬ (k : Int) < (l0.length : Int) := by omega
   obtain rfl : k = l0.length := by omega
   rw [fillTo_all]
   have hio : Holds (Value.int .i64) (putRow (Value.int .i64) w1 (w.heap.size + 1 + 1) 0 (iotaA l0.length)) (w.heap.size + 1 + 1) 0 (iotaA l0.length) :=
    Go.Sort.holds_putRow (Value.int .i64) w1 (w.heap.size + 1 + 1) 0 (fillTo l0.length 0) (iotaA l0.length) HH.out (by rw [fillTo_size, iotaA_size])
   have hb2 : Below w.heap.size w (putRow (Value.int .i64) w1 (w.heap.size + 1 + 1) 0 (iotaA l0.length)) := below_putRow HBE.out (by omega) _
   have hf2 : (putRow (Value.int .i64) w1 (w.heap.size + 1 + 1) 0 (iotaA l0.length)).heap[w.heap.size]? = some (.cells #[.func (.func g) #[] lb] 103 (0, 0)) := blk_putRow HFB.out (by omega) _
   have hr2 : (putRow (Value.int .i64) w1 (w.heap.size + 1 + 1) 0 (iotaA l0.length)).heap[w.heap.size + 1]? = some (.cells #[.int .i64 0, .int .i64 0] 27 (0, 0)) := blk_putRow HRB.out (by omega) _
   generalize putRow (Value.int .i64) w1 (w.heap.size + 1 + 1) 0 (iotaA l0.length) = w2 at hio hb2 hf2 hr2 ⊢
   clear HH HZB HRB HFB HBE HSELF
   have hsort := sortFunc_calls (fun a b => cf a - cf b) l0.length 114 #[.pointer (some ⟨w.heap.size, 0, none⟩)] rfl (w.heap.size + 1 + 1) 0 l0.length (iotaA l0.length) w2 (enters_of Try.func114 (by kernel_rfl) rfl)
    (fun m dk _ x y hx0 hx1 hy0 hy1 => meanCmp_calls w.heap.size g lb cf l0.length w ((putRow (Value.int .i64) w2 (w.heap.size + 1 + 1) 0 dk).drewN m) eg HQ.out
     (pw_below_drewN (below_putRow hb2 (by omega) dk) m) ((blk_cell (blk_drewN (blk_putRow hf2 (by omega) dk) m) 0).trans rfl) x y hx0 hx1 hy0 hy1 (HOK.out.c1 x hx0 hx1) (HOK.out.c2 x hx0 hx1) (HOK.out.c1 y hy0 hy1) (HOK.out.c2 y hy0 hy1))
    hio (fun j hj => by rw [iotaA_size] at hj; rw [getElem!_pos _ j (by rw [iotaA_size]; exact hj)]; simp [iotaA]; omega) (by rw [iotaA_size]; exact HN.out)
   rw [iotaA_size] at hsort
   have HSORT := Sd.mk hsort
   have HB2 := Sd.mk hb2
   have HF2 := Sd.mk hf2
   have HR2 := Sd.mk hr2
   have HIO2 := Sd.mk hio
   clear hsort hb2 hf2 hr2 hio hltz
   go_wp2_with (go_at_call 113; refine HSORT.out.mono ?_; rintro e w3 ⟨rfl, m3, rfl⟩)
   have hD : orderOf cf l0.length = Sort.insertionSort (ltC fun a b => cf a - cf b) (iotaA l0.length) 0 l0.length := rfl
   rw [← hD]
   have hholds := Go.Sort.holds_putRow (Value.int .i64) w2 (w.heap.size + 1 + 1) 0 (iotaA l0.length) (orderOf cf l0.length) HIO2.out (by rw [order_size, iotaA_size])
   have hsz : (putRow (Value.int .i64) w2 (w.heap.size + 1 + 1) 0 (orderOf cf l0.length)).heap.size = w2.heap.size := Go.Sort.size_putRow _ _ _ _ _
   have h5lt : w.heap.size + 1 + 1 < w2.heap.size := by
    have := World.block_lt_of_cell? _ _ ((hholds 0 (by rw [order_size]; exact hpos)).1)
    rw [hsz] at this; exact this
   have hout : OutW w w.heap.size (w.heap.size + 1) (w.heap.size + 1 + 1) w2.heap.size g lb (orderOf cf l0.length)
     (((putRow (Value.int .i64) w2 (w.heap.size + 1 + 1) 0 (orderOf cf l0.length)).drewN m3).alloc (.cells #[.int .i64 0, .int .i64 0] 27)) 0 0 := by
    refine ⟨below_alloc (pw_below_drewN (below_putRow HB2.out (by omega) _) m3) _, blk_alloc (blk_drewN (blk_putRow HF2.out (by omega) _) m3) _, blk_alloc (blk_drewN (blk_putRow HR2.out (by omega) _) m3) _, fun j hj => ?_, ?_⟩
    ·have := (hholds j hj).1
     simp only [Nat.zero_add] at this
     exact pw_cell_below (below_alloc (pw_below_drewN (Below.refl _ _) m3) _) this
    ·have := blk_new ((putRow (Value.int .i64) w2 (w.heap.size + 1 + 1) 0 (orderOf cf l0.length)).drewN m3) (.cells #[.int .i64 0, .int .i64 0] 27)
     simpa [hsz] using this
   generalize ((putRow (Value.int .i64) w2 (w.heap.size + 1 + 1) 0 (orderOf cf l0.length)).drewN m3).alloc (.cells #[.int .i64 0, .int .i64 0] 27) = w4 at hout ⊢
   generalize w2.heap.size = Bo at hout h5lt ⊢
   have HOUT := Sd.mk hout
   have hsD := order_size cf l0.length
   have hAll := order_in cf l0.length
   have HSD := Sd.mk hsD
   have HALL := Sd.mk hAll
   have HPERM := Sd.mk (order_perm cf l0.length)
   have HFIN : Sd (meanLo cf l0 = minF (lowQ cf l0 (orderOf cf l0.length)) l0.length ∧ meanHi cf l0 = maxF (highQ cf l0 (orderOf cf l0.length)) l0.length) := ⟨⟨rfl, rfl⟩⟩
   clear hout hholds hsz hD HSORT HB2 HF2 HR2 HIO2 hsD hAll
   generalize orderOf cf l0.length = D at HOUT HSD HALL HFIN HPERM
   go_loopg [8] (l0.length + 1) (fun gq v8 wr => ∃ cut : Nat, v8 = .int .i64 cut ∧ cut ≤ l0.length + 1 ∧ l0.length + 1 - cut ≤ gq ∧ Sd (OutW w w.heap.size (w.heap.size + 1) (w.heap.size + 1 + 1) Bo g lb D wr (atCut (lowQ cf l0 D) minF cut) (atCut (highQ cf l0 D) maxF cut)))
   case atStart => exact ⟨0, rfl, by omega, by omega, HOUT⟩
   case round =>
    obtain ⟨cut, rfl, hcut, hgq, HO⟩ := hrel
    by_cases hle : cut ≤ l0.length
    ·have hlez : (cut : Int) ≤ (l0.length : Int) := by omega
     go_wp2
     have hsz2 : wr.heap.size + 1 = (wr.alloc (.cells #[.int .i64 0, .int .i64 0] 149)).heap.size := by simp
     have hmw : MeanW wr ((wr.alloc (.cells #[.int .i64 0, .int .i64 0] 149)).alloc (.cells #[.int .i64 0, .int .i64 0] 149)) wr.heap.size (wr.heap.size + 1) 0 0 0 0 :=
      ⟨below_alloc (below_alloc (Below.refl _ _) _) _, blk_alloc (blk_new wr _) _, by rw [hsz2]; exact blk_new _ _⟩
     have HMW := Sd.mk hmw
     clear hmw hsz2
     generalize (wr.alloc (.cells #[.int .i64 0, .int .i64 0] 149)).alloc (.cells #[.int .i64 0, .int .i64 0] 149) = w5 at HMW ⊢
     obtain ⟨wo, rfl⟩ : ∃ wo : World, wo = wr := ⟨_, rfl⟩
     go_loopg [41] l0.length (fun gq2 v41 wr2 => ∃ at_ : Nat, v41 = .int .i64 at_ ∧ at_ ≤ l0.length ∧ l0.length - at_ ≤ gq2 ∧ Sd (MeanW wo wr2 wo.heap.size (wo.heap.size + 1) (lowN cf l0 D cut at_) (lowD l0 D cut at_) (highN cf l0 D cut at_) (highD l0 D cut at_)))
     case atStart => exact ⟨0, rfl, by omega, by omega, HMW⟩
     case round =>
      obtain ⟨at_, rfl, hat, hgq2, HM⟩ := hrel
      by_cases hlt2 : at_ < l0.length
      ·have hltz2 : (at_ : Int) < (l0.length : Int) := by omega
       have hm := HM.out
       have ho := HO.out.later hm.below
       have hj := HALL.out at_ (by rw [HSD.out]; exact hlt2)
       have hord := ho.row at_ (by rw [HSD.out]; exact hlt2)
       have hfn : wr.cell? ⟨w.heap.size, 0, none⟩ = some (.func (.func g) #[] lb) := (blk_cell ho.fn 0).trans rfl
       have hrg := mean_ranges HOK.out D HALL.out HSD.out cut at_ hlt2
       have hb1 := mean_sums HOK.out D HALL.out HSD.out cut at_ hat
       have hstep : lowN cf l0 D cut (at_ + 1) = lowN cf l0 D cut at_ + cf D[at_]! * wX l0 D cut at_ ∧ lowD l0 D cut (at_ + 1) = lowD l0 D cut at_ + wX l0 D cut at_ ∧ highN cf l0 D cut (at_ + 1) = highN cf l0 D cut at_ + cf D[at_]! * wY l0 D cut at_ ∧ highD l0 D cut (at_ + 1) = highD l0 D cut at_ + wY l0 D cut at_ := ⟨rfl, rfl, rfl, rfl⟩
       have HSTEP := Sd.mk hstep
       clear hstep
       have hX : wX l0 D cut at_ = if (at_ : Int) < (cut : Int) then (rd_T27 l0 D[at_]!).f1 else (rd_T27 l0 D[at_]!).f0 := rfl
       have hY : wY l0 D cut at_ = if (at_ : Int) < (cut : Int) then (rd_T27 l0 D[at_]!).f0 else (rd_T27 l0 D[at_]!).f1 := rfl
       have hcoef : ∀ W, Below wo.heap.size wo W → Calls Try.prog g (#[.int .i64 D[at_]!] ++ lb) W fun e w' => e = .returned (.int .i64 (cf D[at_]!)) ∧ ∃ q, w' = W.drewN q := fun W hW => HQ.out W (below_trans' HO.out.below hW) _ hj.1 hj.2
       obtain ⟨hj0, hj1⟩ := hj
       obtain ⟨ads, es, hs0, hs1⟩ := at_T27 (Kd.C_below HR0.out ho.below) D[at_]! hj0 hj1
       cases es
       generalize wX l0 D cut at_ = X at *
       generalize wY l0 D cut at_ = Y at *
       generalize cf D[at_]! = ck at *
       generalize rd_T27 l0 D[at_]! = sp at *
       generalize D[at_]! = kk at *
       have HC := Sd.mk hcoef
       have HX := Sd.mk hX
       have HY := Sd.mk hY
       have HRG := Sd.mk hrg
       have HB1 := Sd.mk hb1
       have hlen12 := HN.out
       clear hcoef hX hY hrg hb1 ho hm
       go_upto_region 16 with (fail)
       go_quiet (fail)
       go_upto_if 58 with (fail)
       go_cut [13, 14] (fun v13 v14 wx => v13 = .int .i64 X ∧ v14 = .int .i64 Y ∧ wr.drewN nq = wx)
       case first =>
        by_cases hac : (at_ : Int) < (cut : Int)
        ·go_wp2
         go_meet
         exact ⟨by rw [HX.out, if_pos hac], by rw [HY.out, if_pos hac], rfl⟩
        ·go_wp2
         go_meet
         exact ⟨by rw [HX.out, if_neg (show ¬ (at_ : Int) < (cut : Int) by omega)], by rw [HY.out, if_neg (show ¬ (at_ : Int) < (cut : Int) by omega)], rfl⟩
       case rest =>
        obtain ⟨rfl, rfl, rfl⟩ := hcut
        have hm := HM.out.drewN nq
        clear hfn hord hs0 hs1 HM HX HY
        obtain ⟨hX1, hY1, hp1, hp2⟩ := HRG.out
        obtain ⟨hs1, hs2, hs3, hs4⟩ := HB1.out
        obtain ⟨es1, es2, es3, es4⟩ := HSTEP.out
        have HW1 := Sd.mk (wrap_two es1 hs1.1 hs1.2 hp1.1 hp1.2)
        have HW2 := Sd.mk (wrap_one es2 hs2.1 hs2.2 hX1.1 hX1.2)
        have HW3 := Sd.mk (wrap_two es3 hs3.1 hs3.2 hp2.1 hp2.2)
        have HW4 := Sd.mk (wrap_one es4 hs4.1 hs4.2 hY1.1 hY1.2)
        clear hX1 hY1 hp1 hp2 hs1 hs2 hs3 hs4 es1 es2 es3 es4 HSTEP HRG HB1
        generalize wr.drewN nq = wn at hm ⊢
        have HM2 := Sd.mk hm
        have h90 : wn.cell? ⟨wo.heap.size, 0, none⟩ = some (.int .i64 (lowN cf l0 D cut at_)) := (blk_cell hm.b9 0).trans rfl
        have h91 : wn.cell? ⟨wo.heap.size, 1, none⟩ = some (.int .i64 (lowD l0 D cut at_)) := (blk_cell hm.b9 1).trans rfl
        have h92 := blk_frozen hm.b9 0
        have h93 := blk_frozen hm.b9 1
        have hfn : wn.cell? ⟨w.heap.size, 0, none⟩ = some (.func (.func g) #[] lb) := (blk_cell (HO.out.later hm.below).fn 0).trans rfl
        have hc1 := HC.out wn.drew (below_drew hm.below)
        clear hm
        go_upto_region 19 with (fail)
        go_cut [12] (fun v12 wx => v12 = .int .i64 kk ∧ Sd (MeanW wo wx wo.heap.size (wo.heap.size + 1) (lowN cf l0 D cut (at_ + 1)) (lowD l0 D cut (at_ + 1)) (highN cf l0 D cut at_) (highD l0 D cut at_)))
        case first =>
         clear HSD HALL HFIN HOUT HN HO HC HQ HR0 HOK
         go_region_with (go_at_fn g; refine hc1.mono ?_; rintro e w' ⟨rfl, q, rfl⟩)
         all_goals
          go_wp2_with fail
          go_meet
          refine ⟨rfl, ⟨?_⟩⟩
          rw [HW1.out, HW2.out]
          exact (HM2.out.drewN _).put9 (Nat.le_refl _) (by omega) _ _
        case rest =>
         clear h90 h91 h92 h93 hfn hc1 HM2
         rename_i wn2
         obtain ⟨rfl, HM2⟩ := hcut
         have hm := HM2.out
         have h90 : wc.cell? ⟨wo.heap.size + 1, 0, none⟩ = some (.int .i64 (highN cf l0 D cut at_)) := (blk_cell hm.b10 0).trans rfl
         have h91 : wc.cell? ⟨wo.heap.size + 1, 1, none⟩ = some (.int .i64 (highD l0 D cut at_)) := (blk_cell hm.b10 1).trans rfl
         have h92 := blk_frozen hm.b10 0
         have h93 := blk_frozen hm.b10 1
         have hfn : wc.cell? ⟨w.heap.size, 0, none⟩ = some (.func (.func g) #[] lb) := (blk_cell (HO.out.later hm.below).fn 0).trans rfl
         have hc1 := HC.out wc.drew (below_drew hm.below)
         clear hm
         go_upto_region 20 with (fail)
         go_region_with (go_at_fn g; refine hc1.mono ?_; rintro e w' ⟨rfl, q, rfl⟩)
         all_goals
          have hm4 : MeanW wo (((wc.drewN (1 + q)).setCell ⟨wo.heap.size + 1, 0, none⟩ (.int .i64 (IntKind.i64.wrap (highN cf l0 D cut at_ + IntKind.i64.wrap (ck * Y))))).setCell ⟨wo.heap.size + 1, 1, none⟩ (.int .i64 (IntKind.i64.wrap (highD l0 D cut at_ + Y)))) wo.heap.size (wo.heap.size + 1) (lowN cf l0 D cut (at_ + 1)) (lowD l0 D cut (at_ + 1)) (highN cf l0 D cut (at_ + 1)) (highD l0 D cut (at_ + 1)) := by
           rw [HW3.out, HW4.out]
           exact (HM2.out.drewN _).put10 (by omega) (by omega) _ _
          have HM4 := Sd.mk hm4
          clear hm4 h90 h91 h92 h93 hfn hc1
          generalize ((wc.drewN (1 + q)).setCell ⟨wo.heap.size + 1, 0, none⟩ (.int .i64 (IntKind.i64.wrap (highN cf l0 D cut at_ + IntKind.i64.wrap (ck * Y))))).setCell ⟨wo.heap.size + 1, 1, none⟩ (.int .i64 (IntKind.i64.wrap (highD l0 D cut at_ + Y))) = w9 at HM4 ⊢
          go_wp2
          go_roundg (l0.length - (at_ + 1))
          case measure => omega
          case rel => exact ⟨at_ + 1, by go_num, by omega, by omega, HM4⟩
      ·have hltz2 : ¬ (at_ : Int) < (l0.length : Int) := by omega
       obtain rfl : at_ = l0.length := by omega
       have hm := HM.out
       have ho := HO.out.later hm.below
       have hsm := mean_sums HOK.out D HALL.out HSD.out cut l0.length (Nat.le_refl _)
       have hpl : 0 < lowD l0 D cut l0.length ∧ 0 < highD l0 D cut l0.length := mean_pos HOK.out D HALL.out HSD.out HPERM.out cut
       have hq58 : ∀ W, Calls Try.prog 58 #[.int .i64 (lowN cf l0 D cut l0.length), .int .i64 (lowD l0 D cut l0.length)] W fun e w' => e = .returned (.int .i64 (lowQ cf l0 D cut)) ∧ ∃ q, w' = W.drewN q := fun W =>
        (batch_down.calls _ _ _ W (down_f _ _ hpl.1 (by omega) (by omega))).mono fun e w' ⟨h1, h2⟩ => ⟨h1, h2.out⟩
       have hq59 : ∀ W, Calls Try.prog 59 #[.int .i64 (highN cf l0 D cut l0.length), .int .i64 (highD l0 D cut l0.length)] W fun e w' => e = .returned (.int .i64 (highQ cf l0 D cut)) ∧ ∃ q, w' = W.drewN q := fun W =>
        (batch_up.calls _ _ _ W (up_f _ _ hpl.2 (by omega) (by omega))).mono fun e w' ⟨h1, h2⟩ => ⟨h1, h2.out⟩
       have h90 : wr.cell? ⟨wo.heap.size, 0, none⟩ = some (.int .i64 (lowN cf l0 D cut l0.length)) := (blk_cell hm.b9 0).trans rfl
       have h91 : wr.cell? ⟨wo.heap.size, 1, none⟩ = some (.int .i64 (lowD l0 D cut l0.length)) := (blk_cell hm.b9 1).trans rfl
       have h92 : wr.cell? ⟨wo.heap.size + 1, 0, none⟩ = some (.int .i64 (highN cf l0 D cut l0.length)) := (blk_cell hm.b10 0).trans rfl
       have h93 : wr.cell? ⟨wo.heap.size + 1, 1, none⟩ = some (.int .i64 (highD l0 D cut l0.length)) := (blk_cell hm.b10 1).trans rfl
       have H58 := Sd.mk hq58
       have H59 := Sd.mk hq59
       have HO2 := Sd.mk ho
       have ho0 : wr.cell? ⟨Bo, 0, none⟩ = some (.int .i64 (atCut (lowQ cf l0 D) minF cut)) := (blk_cell ho.out 0).trans rfl
       have ho1 : wr.cell? ⟨Bo, 1, none⟩ = some (.int .i64 (atCut (highQ cf l0 D) maxF cut)) := (blk_cell ho.out 1).trans rfl
       have ho2 := blk_frozen ho.out 0
       have ho3 := blk_frozen ho.out 1
       clear hq58 hq59 hm ho hsm hpl
       go_upto_region 22 with (fail)
       go_quiet (first | (go_at_call 58; exact Calls.quiet_of (H58.out _)) | (go_at_call 59; exact Calls.quiet_of (H59.out _)))
       have ho4 := HO2.out.drewN nq
       have HO4 := Sd.mk ho4
       have hBo : w.heap.size ≤ Bo := by omega
       cases cut with
       | zero =>
        have hcb : (((0 : Nat) : Int) == 0) = true := rfl
        have e1 : atCut (lowQ cf l0 D) minF (0 + 1) = lowQ cf l0 D 0 := rfl
        have e2 : atCut (highQ cf l0 D) maxF (0 + 1) = highQ cf l0 D 0 := rfl
        have E12 := Sd.mk (And.intro e1 e2)
        clear e1 e2 H58 H59 ho4
        generalize lowQ cf l0 D 0 = q1 at *
        generalize highQ cf l0 D 0 = q2 at *
        have hcz : ((0 : Nat) : Int) = 0 := rfl
        rw [hcz]
        generalize wr.drewN nq = w8 at *
        have ho0' : w8.cell? ⟨Bo, 0, none⟩ = some (.int .i64 0) := (blk_cell HO4.out.out 0).trans rfl
        have ho1' : w8.cell? ⟨Bo, 1, none⟩ = some (.int .i64 0) := (blk_cell HO4.out.out 1).trans rfl
        have ho2' := blk_frozen HO4.out.out 0
        have ho3' := blk_frozen HO4.out.out 1
        go_wp2
        go_roundg l0.length
        case measure => omega
        case rel => exact ⟨1, by first | rfl | go_num, by omega, by omega, ⟨by rw [E12.out.1, E12.out.2]; exact (HO4.out.put hBo (by omega) (by omega) (by omega) q1 q2).put hBo (by omega) (by omega) (by omega) q1 q2⟩⟩
       | succ cc =>
        have hcb : (((cc : Int) + 1) == 0) = false := by simp; omega
        have e1 : atCut (lowQ cf l0 D) minF (cc + 1 + 1) = if lowQ cf l0 D (cc + 1) < atCut (lowQ cf l0 D) minF (cc + 1) then lowQ cf l0 D (cc + 1) else atCut (lowQ cf l0 D) minF (cc + 1) := rfl
        have e2 : atCut (highQ cf l0 D) maxF (cc + 1 + 1) = if atCut (highQ cf l0 D) maxF (cc + 1) < highQ cf l0 D (cc + 1) then highQ cf l0 D (cc + 1) else atCut (highQ cf l0 D) maxF (cc + 1) := rfl
        have E12 := Sd.mk (And.intro e1 e2)
        clear e1 e2 H58 H59 ho4
        generalize lowQ cf l0 D (cc + 1) = q1 at *
        generalize highQ cf l0 D (cc + 1) = q2 at *
        generalize atCut (lowQ cf l0 D) minF (cc + 1) = x1 at *
        generalize atCut (highQ cf l0 D) maxF (cc + 1) = y1 at *
        rw [show ((cc + 1 : Nat) : Int) = (cc : Int) + 1 from by omega]
        generalize wr.drewN nq = w8 at *
        have ho0' : w8.cell? ⟨Bo, 0, none⟩ = some (.int .i64 x1) := (blk_cell HO4.out.out 0).trans rfl
        have ho1' : w8.cell? ⟨Bo, 1, none⟩ = some (.int .i64 y1) := (blk_cell HO4.out.out 1).trans rfl
        have ho2' := blk_frozen HO4.out.out 0
        have ho3' := blk_frozen HO4.out.out 1
        have hr1 : (cc : Int) + 1 ≤ 12 := by have := HN.out; omega
        have hr0 : 0 ≤ (cc : Int) := by omega
        go_wp2
        all_goals
         go_roundg (l0.length - (cc + 1))
         case measure => omega
         case rel => exact ⟨cc + 1 + 1, by first | rfl | go_num, by omega, by omega, ⟨by rw [E12.out.1, E12.out.2]; (first | rw [if_pos (show q1 < x1 by assumption)] | rw [if_neg (show ¬ q1 < x1 by omega)]); (first | rw [if_pos (show y1 < q2 by assumption)] | rw [if_neg (show ¬ y1 < q2 by omega)]); exact HO4.out.put hBo (by omega) (by omega) (by omega) _ _⟩⟩
    ·have hlez : ¬ (cut : Int) ≤ (l0.length : Int) := by omega
     obtain rfl : cut = l0.length + 1 := by omega
     have ho := HO.out
     have c0 : wr.cell? ⟨Bo, 0, none⟩ = some (.int .i64 (meanLo cf l0)) := by rw [HFIN.out.1]; exact (blk_cell ho.out 0).trans rfl
     have c1 : wr.cell? ⟨Bo, 1, none⟩ = some (.int .i64 (meanHi cf l0)) := by rw [HFIN.out.2]; exact (blk_cell ho.out 1).trans rfl
     have r0 : wr.cell? ⟨w.heap.size + 1, 0, none⟩ = some (.int .i64 0) := (blk_cell ho.res 0).trans rfl
     have r1 : wr.cell? ⟨w.heap.size + 1, 1, none⟩ = some (.int .i64 0) := (blk_cell ho.res 1).trans rfl
     have f0 := blk_frozen ho.res 0
     have f1 := blk_frozen ho.res 1
     clear ho
     go_wp2
     refine bodyPost_ret (results_cell_row rfl _ _ (w.heap.size + 1) 27 #[.int .i64 (meanLo cf l0), .int .i64 (meanHi cf l0)] (0, 0) _ rfl (blk_put (cs := #[.int .i64 (meanLo cf l0), .int .i64 0]) (blk_put (cs := #[.int .i64 0, .int .i64 0]) HO.out.res 0 _ rfl) 1 _ rfl) Try.underlying27 (by decide) (by kernel_rfl)) rfl ?_
     exact ⟨rfl, below_set (below_set HO.out.below (by omega)) (by omega)⟩
end Go.Proofs.Ytkjkokgbhepmoaa.PB

namespace Go.Proofs.Ytkjkokgbhepmoaa.PB
open Go.RowKit Go.Proofs.YtkjkokgbhepmoaaW.PrintWords Go.Proofs.YtkjkokgbhepmoaaW.PrintLast Go.Proofs.YtkjkokgbhepmoaaW.PrintMore
def meanOkB (cf : Int → Int) (l : List S27) : Bool :=
 decide (l.length ≤ 12) && ((List.range l.length).all fun j => decide (0 ≤ (rd_T27 l (j : Int)).f0) && decide ((rd_T27 l (j : Int)).f0 ≤ (rd_T27 l (j : Int)).f1) && decide ((rd_T27 l (j : Int)).f1 ≤ 1000000000) && decide (-100000 ≤ cf j) && decide (cf j ≤ 100000)) && decide (0 < MeanMath.lsum S27.f0 l)
theorem meanOkB_iff {cf : Int → Int} {l : List S27} : meanOkB cf l = true ↔ MeanOk cf l := by
 unfold meanOkB
 simp only [Bool.and_eq_true, decide_eq_true_eq, List.all_eq_true, List.mem_range]
 constructor
 ·rintro ⟨⟨h1, h2⟩, h3⟩
  have key : ∀ k : Int, 0 ≤ k → k < l.length → ∃ j : Nat, j < l.length ∧ k = j := fun k h0 h1 => ⟨k.toNat, by omega, by omega⟩
  refine ⟨h1, ?_, ?_, ?_, ?_, ?_, h3⟩ <;> intro k h0 hl <;> obtain ⟨j, hj, rfl⟩ := key k h0 hl <;> have := h2 j hj <;> omega
 ·intro h
  refine ⟨⟨h.n12, fun j hj => ?_⟩, h.pos⟩
  have h0 : (0 : Int) ≤ j := by omega
  have hl : (j : Int) < l.length := by omega
  exact ⟨⟨⟨⟨h.lo _ h0 hl, h.le _ h0 hl⟩, h.hi _ h0 hl⟩, h.c1 _ h0 hl⟩, h.c2 _ h0 hl⟩
set_option maxHeartbeats 1000000 in
theorem value1_calls (H P : Nat) (A0_0 : Option Addr) (c0_0 : Nat) (l0_0 : List ByteArray) (A0_1 : Option Addr) (c0_1 : Nat) (l0_1 : List (S63)) (A0_2 : Option Addr) (c0_2 : Nat) (l0_2 : List (S27)) (A0_3 : Option Addr) (c0_3 : Nat) (l0_3 : List (S65)) (a0_4 : Int) (a0_5 : Int) (a0_6 : Int) (a2 : Int) (W : World) (hH : W.heap[H]? = some (.cells #[.slice A0_0 l0_0.length c0_0, .slice A0_1 l0_1.length c0_1, .slice A0_2 l0_2.length c0_2, .slice A0_3 l0_3.length c0_3, .int .i64 a0_4, .int .i64 a0_5, .int .i64 a0_6] 29 (0, 0))) (hP : W.heap[P]? = some (.cells #[.int .i64 a2] 3 (0, 0)))
  (hr : Kd.C k65 W A0_3 l0_3.length l0_3) (h0 : 0 ≤ a2) (h1 : a2 < l0_3.length) (x : Int) (hx0 : 0 ≤ x) (hx1 : x < (rd_T65 l0_3 a2).f1.length) :
  Calls Try.prog 56 #[.int .i64 x, .pointer (some ⟨H, 0, none⟩), .pointer (some ⟨P, 0, none⟩)] W fun e w' => e = .returned (.int .i64 (rd (rd_T65 l0_3 a2).f1 x)) ∧ ∃ q, w' = W.drewN q := by
 obtain ⟨ad, A1, c1, rfl, hq0, hq1, hq2, hq3, hl, hC⟩ := at_T65 hr a2 h0 h1
 obtain ⟨ae, rfl, hqx⟩ := Kd.at_int hC x hx0 hx1
 have hH3 : W.cell? ⟨H, 0 + 3, none⟩ = some (.slice (some ad) l0_3.length c0_3) := (blk_cell hH 3).trans rfl
 have hP0 : W.cell? ⟨P, 0, none⟩ = some (.int .i64 a2) := (blk_cell hP 0).trans rfl
 clear hr
 go_enter Try.func56, Try.ntmps56
 go_wp2
 go_ret
 exact ⟨rfl, 0, rfl⟩
def x_Value.f (k : Nat) (l0_0 : List ByteArray) (l0_1 : List (S63)) (l0_2 : List (S27)) (l0_3 : List (S65)) (a0_4 : Int) (a0_5 : Int) (a0_6 : Int) (l1 : List Int) (a2 : Int) : Option (Int × Int × Int) := (batch_asked.f k l0_0 l0_1 l0_2 l0_3 a0_4 a0_5 a0_6 l1).bind fun e => if e = 0 then ((batch_within.f a2 0 (wrap64 ((l0_3.length : Int) - 1))).bind fun b => if b = true then ((x_glass.f k l0_0 l0_1 l0_2 l0_3 a0_4 a0_5 a0_6 l1).bind fun p => if p.2 = 0 then (if 0 ≤ a2 ∧ a2 < l0_3.length ∧ p.1.length ≤ (rd_T65 l0_3 a2).f1.length ∧ meanOkB (rd (rd_T65 l0_3 a2).f1) p.1 = true then some (meanLo (rd (rd_T65 l0_3 a2).f1) p.1, meanHi (rd (rd_T65 l0_3 a2).f1) p.1, 0) else none) else some (0, 0, p.2)) else some (0, 0, 7)) else some (0, 0, e)
theorem x_Value.mono : ∀ l0_0 l0_1 l0_2 l0_3 a0_4 a0_5 a0_6 l1 a2 k, LeO (x_Value.f k l0_0 l0_1 l0_2 l0_3 a0_4 a0_5 a0_6 l1 a2) (x_Value.f (k + 1) l0_0 l0_1 l0_2 l0_3 a0_4 a0_5 a0_6 l1 a2) := by
 intro l0_0 l0_1 l0_2 l0_3 a0_4 a0_5 a0_6 l1 a2 k
 unfold x_Value.f
 refine LeO.bind (batch_asked.mono _ _ _ _ _ _ _ _ _) fun p => ?_
 refine LeO.ite ?_ (LeO.refl _)
 refine LeO.bind (LeO.refl _) fun p => ?_
 refine LeO.ite ?_ (LeO.refl _)
 refine LeO.bind (x_glass.mono _ _ _ _ _ _ _ _ _) fun q => ?_
 exact LeO.refl _
set_option maxHeartbeats 4000000 in
set_option maxRecDepth 100000 in
theorem x_Value.calls (k : Nat) (A0_0 : Option Addr) (c0_0 : Nat) (l0_0 : List ByteArray) (A0_1 : Option Addr) (c0_1 : Nat) (l0_1 : List (S63)) (A0_2 : Option Addr) (c0_2 : Nat) (l0_2 : List (S27)) (A0_3 : Option Addr) (c0_3 : Nat) (l0_3 : List (S65)) (a0_4 : Int) (a0_5 : Int) (a0_6 : Int) (A1 : Option Addr) (c1 : Nat) (l1 : List Int) (a2 : Int) (r1 : Int) (r2 : Int) (r3 : Int) (w : World) (hr0_0 : Kd.C Kd.string w A0_0 l0_0.length l0_0) (hc0_0 : l0_0.length ≤ c0_0) (hr0_1 : Kd.C k63 w A0_1 l0_1.length l0_1) (hc0_1 : l0_1.length ≤ c0_1) (hr0_2 : Kd.C k27 w A0_2 l0_2.length l0_2) (hc0_2 : l0_2.length ≤ c0_2) (hr0_3 : Kd.C k65 w A0_3 l0_3.length l0_3) (hc0_3 : l0_3.length ≤ c0_3) (hr1 : Kd.C (Kd.int .i64) w A1 l1.length l1) (hc1 : l1.length ≤ c1) (h : x_Value.f k l0_0 l0_1 l0_2 l0_3 a0_4 a0_5 a0_6 l1 a2 = some (r1, r2, r3)) :
  Calls Try.prog 20 #[.agg #[.slice A0_0 l0_0.length c0_0, .slice A0_1 l0_1.length c0_1, .slice A0_2 l0_2.length c0_2, .slice A0_3 l0_3.length c0_3, .int .i64 a0_4, .int .i64 a0_5, .int .i64 a0_6], .slice A1 l1.length c1, .int .i64 a2] w fun e w' => e = .returned (.tuple #[.agg #[.int .i64 r1, .int .i64 r2], .int .i64 r3]) ∧ Below w.heap.size w w' := by
 unfold x_Value.f at h
 obtain ⟨ea, ha, H⟩ := Option.bind_eq_some_iff.mp h
 have hb0 : Below w.heap.size w (((w.alloc (.cells #[.slice A0_0 l0_0.length c0_0, .slice A0_1 l0_1.length c0_1, .slice A0_2 l0_2.length c0_2, .slice A0_3 l0_3.length c0_3, .int .i64 a0_4, .int .i64 a0_5, .int .i64 a0_6] 29)).alloc (.cells #[.int .i64 a2] 3)).alloc (.cells #[.int .i64 0, .int .i64 0] 27)) := below_alloc (below_alloc (below_alloc (Below.refl _ _) _) _) _
 have hH : (((w.alloc (.cells #[.slice A0_0 l0_0.length c0_0, .slice A0_1 l0_1.length c0_1, .slice A0_2 l0_2.length c0_2, .slice A0_3 l0_3.length c0_3, .int .i64 a0_4, .int .i64 a0_5, .int .i64 a0_6] 29)).alloc (.cells #[.int .i64 a2] 3)).alloc (.cells #[.int .i64 0, .int .i64 0] 27)).heap[w.heap.size]? = some (.cells #[.slice A0_0 l0_0.length c0_0, .slice A0_1 l0_1.length c0_1, .slice A0_2 l0_2.length c0_2, .slice A0_3 l0_3.length c0_3, .int .i64 a0_4, .int .i64 a0_5, .int .i64 a0_6] 29 (0, 0)) := blk_alloc (blk_alloc (blk_new w _) _) _
 have hP : (((w.alloc (.cells #[.slice A0_0 l0_0.length c0_0, .slice A0_1 l0_1.length c0_1, .slice A0_2 l0_2.length c0_2, .slice A0_3 l0_3.length c0_3, .int .i64 a0_4, .int .i64 a0_5, .int .i64 a0_6] 29)).alloc (.cells #[.int .i64 a2] 3)).alloc (.cells #[.int .i64 0, .int .i64 0] 27)).heap[w.heap.size + 1]? = some (.cells #[.int .i64 a2] 3 (0, 0)) := by
  have := blk_alloc (blk_new (w.alloc (.cells #[.slice A0_0 l0_0.length c0_0, .slice A0_1 l0_1.length c0_1, .slice A0_2 l0_2.length c0_2, .slice A0_3 l0_3.length c0_3, .int .i64 a0_4, .int .i64 a0_5, .int .i64 a0_6] 29)) (.cells #[.int .i64 a2] 3)) (.cells #[.int .i64 0, .int .i64 0] 27)
  simpa using this
 have hZ : (((w.alloc (.cells #[.slice A0_0 l0_0.length c0_0, .slice A0_1 l0_1.length c0_1, .slice A0_2 l0_2.length c0_2, .slice A0_3 l0_3.length c0_3, .int .i64 a0_4, .int .i64 a0_5, .int .i64 a0_6] 29)).alloc (.cells #[.int .i64 a2] 3)).alloc (.cells #[.int .i64 0, .int .i64 0] 27)).heap[w.heap.size + 1 + 1]? = some (.cells #[.int .i64 0, .int .i64 0] 27 (0, 0)) := by
  have := blk_new ((w.alloc (.cells #[.slice A0_0 l0_0.length c0_0, .slice A0_1 l0_1.length c0_1, .slice A0_2 l0_2.length c0_2, .slice A0_3 l0_3.length c0_3, .int .i64 a0_4, .int .i64 a0_5, .int .i64 a0_6] 29)).alloc (.cells #[.int .i64 a2] 3)) (.cells #[.int .i64 0, .int .i64 0] 27)
  simpa using this
 have hgo := batch_asked.calls k A0_0 c0_0 l0_0 A0_1 c0_1 l0_1 A0_2 c0_2 l0_2 A0_3 c0_3 l0_3 a0_4 a0_5 a0_6 A1 c1 l1 ea (((w.alloc (.cells #[.slice A0_0 l0_0.length c0_0, .slice A0_1 l0_1.length c0_1, .slice A0_2 l0_2.length c0_2, .slice A0_3 l0_3.length c0_3, .int .i64 a0_4, .int .i64 a0_5, .int .i64 a0_6] 29)).alloc (.cells #[.int .i64 a2] 3)).alloc (.cells #[.int .i64 0, .int .i64 0] 27)) (Kd.C_below hr0_0 hb0) hc0_0 (Kd.C_below hr0_1 hb0) hc0_1 (Kd.C_below hr0_2 hb0) hc0_2 (Kd.C_below hr0_3 hb0) hc0_3 (Kd.C_below hr1 hb0) hc1 ha
 clear h ha
 have HR0_0 := Sd.mk hr0_0
 have HC0_0 := Sd.mk hc0_0
 clear hr0_0 hc0_0
 have HR0_1 := Sd.mk hr0_1
 have HC0_1 := Sd.mk hc0_1
 clear hr0_1 hc0_1
 have HR0_2 := Sd.mk hr0_2
 have HC0_2 := Sd.mk hc0_2
 clear hr0_2 hc0_2
 have HR0_3 := Sd.mk hr0_3
 have HC0_3 := Sd.mk hc0_3
 clear hr0_3 hc0_3
 have HR1 := Sd.mk hr1
 have HC1 := Sd.mk hc1
 clear hr1 hc1
 have HB := Sd.mk hb0
 have HH := Sd.mk H
 have BH := Sd.mk hH
 have BP := Sd.mk hP
 have BZ := Sd.mk hZ
 clear hb0 H hH hP hZ
 go_enter Try.func20, Try.ntmps20
 go_wp2_with fail
 generalize (((w.alloc (.cells #[.slice A0_0 l0_0.length c0_0, .slice A0_1 l0_1.length c0_1, .slice A0_2 l0_2.length c0_2, .slice A0_3 l0_3.length c0_3, .int .i64 a0_4, .int .i64 a0_5, .int .i64 a0_6] 29)).alloc (.cells #[.int .i64 a2] 3)).alloc (.cells #[.int .i64 0, .int .i64 0] 27)) = w0 at *
 refine hgo.mono ?_
 clear hgo
 rintro e w1 ⟨rfl, hb⟩
 have HB1 := Sd.mk (below_trans' HB.out hb)
 have BH1 := Sd.mk (blk_below BH.out hb)
 have BP1 := Sd.mk (blk_below BP.out hb)
 have BZ1 := Sd.mk (blk_below BZ.out hb)
 clear hb HB BH BP BZ w0
 have hz0 : w1.cell? ⟨w.heap.size + 1 + 1, 0, none⟩ = some (.int .i64 0) := (blk_cell BZ1.out 0).trans rfl
 have hz1 : w1.cell? ⟨w.heap.size + 1 + 1, 1, none⟩ = some (.int .i64 0) := (blk_cell BZ1.out 1).trans rfl
 have hzf0 := blk_frozen BZ1.out 0
 have hzf1 := blk_frozen BZ1.out 1
 have H := HH.out
 clear HH
 by_cases he : ea = 0
 ·rw [if_pos he] at H
  have heb : (ea != 0) = false := by simp [he]
  obtain ⟨bw, hbw, H⟩ := Option.bind_eq_some_iff.mp H
  have hgo := batch_within.calls a2 0 (wrap64 ((l0_3.length : Int) - 1)) bw w1 hbw
  have hh3 : w1.cell? ⟨w.heap.size, 0 + 3, none⟩ = some (.slice A0_3 l0_3.length c0_3) := (blk_cell BH1.out 3).trans rfl
  have hp0 : w1.cell? ⟨w.heap.size + 1, 0, none⟩ = some (.int .i64 a2) := (blk_cell BP1.out 0).trans rfl
  have HH := Sd.mk H
  have HE := Sd.mk he
  clear H he hbw
  clear hz0 hz1 hzf0 hzf1
  go_wp2_with fail
  refine hgo.mono ?_
  clear hgo
  rintro e w2 ⟨rfl, hd⟩
  have hb := hd.below
  clear hd
  clear hh3 hp0
  have HB2 := Sd.mk (below_trans' HB1.out hb)
  have BH2 := Sd.mk (blk_below BH1.out hb)
  have BP2 := Sd.mk (blk_below BP1.out hb)
  have BZ2 := Sd.mk (blk_below BZ1.out hb)
  clear hb HB1 BH1 BP1 BZ1
  have H := HH.out
  clear HH
  cases hbb : bw with
  | true =>
   rw [if_pos hbb] at H
   obtain ⟨p, hp, H⟩ := Option.bind_eq_some_iff.mp H
   obtain ⟨pl, pe⟩ := p
   dsimp only at H
   have hgo := x_glass.calls k A0_0 c0_0 l0_0 A0_1 c0_1 l0_1 A0_2 c0_2 l0_2 A0_3 c0_3 l0_3 a0_4 a0_5 a0_6 A1 c1 l1 pl pe w2 (Kd.C_below HR0_0.out HB2.out) HC0_0.out (Kd.C_below HR0_1.out HB2.out) HC0_1.out (Kd.C_below HR0_2.out HB2.out) HC0_2.out (Kd.C_below HR0_3.out HB2.out) HC0_3.out (Kd.C_below HR1.out HB2.out) HC1.out hp
   have hc_0 : w2.cell? ⟨w.heap.size, 0, none⟩ = some (.slice A0_0 l0_0.length c0_0) := (blk_cell BH2.out 0).trans rfl
   have hc_1 : w2.cell? ⟨w.heap.size, 1, none⟩ = some (.slice A0_1 l0_1.length c0_1) := (blk_cell BH2.out 1).trans rfl
   have hc_2 : w2.cell? ⟨w.heap.size, 2, none⟩ = some (.slice A0_2 l0_2.length c0_2) := (blk_cell BH2.out 2).trans rfl
   have hc_3 : w2.cell? ⟨w.heap.size, 3, none⟩ = some (.slice A0_3 l0_3.length c0_3) := (blk_cell BH2.out 3).trans rfl
   have hc_4 : w2.cell? ⟨w.heap.size, 4, none⟩ = some (.int .i64 a0_4) := (blk_cell BH2.out 4).trans rfl
   have hc_5 : w2.cell? ⟨w.heap.size, 5, none⟩ = some (.int .i64 a0_5) := (blk_cell BH2.out 5).trans rfl
   have hc_6 : w2.cell? ⟨w.heap.size, 6, none⟩ = some (.int .i64 a0_6) := (blk_cell BH2.out 6).trans rfl
   clear hp hbb
   have HH := Sd.mk H
   clear H
   go_wp2_with fail
   refine hgo.mono ?_
   clear hgo hc_0 hc_1 hc_2 hc_3 hc_4 hc_5 hc_6
   rintro e w3 ⟨v, rfl, hR, hb⟩
   obtain ⟨A, c, rfl, hlc, hC⟩ := Kd.R_reads hR
   clear hR
   have HB3 := Sd.mk (below_trans' HB2.out hb)
   have BH3 := Sd.mk (blk_below BH2.out hb)
   have BP3 := Sd.mk (blk_below BP2.out hb)
   have BZ3 := Sd.mk (blk_below BZ2.out hb)
   clear hb HB2 BH2 BP2 BZ2
   have H := HH.out
   clear HH
   by_cases hpe : pe = 0
   ·rw [if_pos hpe] at H
    have hpb : (pe != 0) = false := by simp [hpe]
    have hif : (0 ≤ a2 ∧ a2 < l0_3.length ∧ pl.length ≤ (rd_T65 l0_3 a2).f1.length ∧ meanOkB (rd (rd_T65 l0_3 a2).f1) pl = true) := by
     by_cases hh : (0 ≤ a2 ∧ a2 < l0_3.length ∧ pl.length ≤ (rd_T65 l0_3 a2).f1.length ∧ meanOkB (rd (rd_T65 l0_3 a2).f1) pl = true)
     ·exact hh
     ·rw [if_neg hh] at H; cases H
    rw [if_pos hif] at H
    obtain ⟨h0, h1, h2, h3⟩ := hif
    simp only [Option.some.injEq, Prod.mk.injEq] at H
    obtain ⟨rfl, rfl, rfl⟩ := H
    have hq : CoefQ 56 #[.pointer (some ⟨w.heap.size, 0, none⟩), .pointer (some ⟨w.heap.size + 1, 0, none⟩)] (rd (rd_T65 l0_3 a2).f1) pl.length w3 := fun W hbW x hx0 hx1 =>
     value1_calls w.heap.size (w.heap.size + 1) A0_0 c0_0 l0_0 A0_1 c0_1 l0_1 A0_2 c0_2 l0_2 A0_3 c0_3 l0_3 a0_4 a0_5 a0_6 a2 W (blk_below BH3.out hbW) (blk_below BP3.out hbW) (Kd.C_below (Kd.C_below HR0_3.out HB3.out) hbW) h0 h1 x hx0 (by omega)
    have hgo := mean_calls (rd (rd_T65 l0_3 a2).f1) A c pl 56 #[.pointer (some ⟨w.heap.size, 0, none⟩), .pointer (some ⟨w.heap.size + 1, 0, none⟩)] w3 (enters_of Try.func56 (by kernel_rfl) rfl) hC hlc hq (meanOkB_iff.mp h3)
    clear hq
    go_wp2_with fail
    refine hgo.mono ?_
    clear hgo
    rintro e w4 ⟨rfl, hb⟩
    have HB4 := Sd.mk (below_trans' HB3.out hb)
    have BZ4 := Sd.mk (blk_below BZ3.out hb)
    clear hb HB3 BH3 BP3 BZ3
    have hz0 : w4.cell? ⟨w.heap.size + 1 + 1, 0, none⟩ = some (.int .i64 0) := (blk_cell BZ4.out 0).trans rfl
    have hz1 : w4.cell? ⟨w.heap.size + 1 + 1, 1, none⟩ = some (.int .i64 0) := (blk_cell BZ4.out 1).trans rfl
    have hzf0 := blk_frozen BZ4.out 0
    have hzf1 := blk_frozen BZ4.out 1
    go_wp2
    refine bodyPost_ret (results_ct rfl _ _ (w.heap.size + 1 + 1) 27 #[.int .i64 (meanLo (rd (rd_T65 l0_3 a2).f1) pl), .int .i64 (meanHi (rd (rd_T65 l0_3 a2).f1) pl)] (0, 0) _ rfl (by (with_reducible repeat (first | refine blk_drewN ?_ _ | refine blk_drew ?_ | refine blk_alloc ?_ _)); refine blk_put (cs := #[.int .i64 (meanLo (rd (rd_T65 l0_3 a2).f1) pl), .int .i64 0]) ?_ 1 _ rfl; (with_reducible repeat (first | refine blk_drewN ?_ _ | refine blk_drew ?_ | refine blk_alloc ?_ _)); refine blk_put (cs := #[.int .i64 0, .int .i64 0]) ?_ 0 _ rfl; exact BZ4.out) Try.underlying27 rfl (by kernel_rfl)) rfl ?_
    refine ⟨rfl, ?_⟩
    repeat (first | exact HB4.out | apply below_alloc | apply pw_below_drewN | apply below_drew1 | refine below_set ?_ (by omega))
   ·rw [if_neg hpe] at H
    have hpb : (pe != 0) = true := by simp [hpe]
    simp only [Option.some.injEq, Prod.mk.injEq] at H
    obtain ⟨rfl, rfl, rfl⟩ := H
    have hz0 : w3.cell? ⟨w.heap.size + 1 + 1, 0, none⟩ = some (.int .i64 0) := (blk_cell BZ3.out 0).trans rfl
    have hz1 : w3.cell? ⟨w.heap.size + 1 + 1, 1, none⟩ = some (.int .i64 0) := (blk_cell BZ3.out 1).trans rfl
    have hzf0 := blk_frozen BZ3.out 0
    have hzf1 := blk_frozen BZ3.out 1
    go_wp2
    refine bodyPost_ret (results_ct rfl _ _ (w.heap.size + 1 + 1) 27 #[.int .i64 0, .int .i64 0] (0, 0) _ rfl (by (with_reducible repeat (first | refine blk_drewN ?_ _ | refine blk_drew ?_ | refine blk_alloc ?_ _)); refine blk_put (cs := #[.int .i64 0, .int .i64 0]) ?_ 1 _ rfl; (with_reducible repeat (first | refine blk_drewN ?_ _ | refine blk_drew ?_ | refine blk_alloc ?_ _)); refine blk_put (cs := #[.int .i64 0, .int .i64 0]) ?_ 0 _ rfl; exact BZ3.out) Try.underlying27 rfl (by kernel_rfl)) rfl ?_
    refine ⟨rfl, ?_⟩
    repeat (first | exact HB3.out | apply below_alloc | apply pw_below_drewN | apply below_drew1 | refine below_set ?_ (by omega))
  | false =>
   rw [if_neg (by simp [hbb])] at H
   simp only [Option.some.injEq, Prod.mk.injEq] at H
   obtain ⟨rfl, rfl, rfl⟩ := H
   have hz0 : w2.cell? ⟨w.heap.size + 1 + 1, 0, none⟩ = some (.int .i64 0) := (blk_cell BZ2.out 0).trans rfl
   have hz1 : w2.cell? ⟨w.heap.size + 1 + 1, 1, none⟩ = some (.int .i64 0) := (blk_cell BZ2.out 1).trans rfl
   have hzf0 := blk_frozen BZ2.out 0
   have hzf1 := blk_frozen BZ2.out 1
   go_wp2
   refine bodyPost_ret (results_ct rfl _ _ (w.heap.size + 1 + 1) 27 #[.int .i64 0, .int .i64 0] (0, 0) _ rfl (by (with_reducible repeat (first | refine blk_drewN ?_ _ | refine blk_drew ?_ | refine blk_alloc ?_ _)); refine blk_put (cs := #[.int .i64 0, .int .i64 0]) ?_ 1 _ rfl; (with_reducible repeat (first | refine blk_drewN ?_ _ | refine blk_drew ?_ | refine blk_alloc ?_ _)); refine blk_put (cs := #[.int .i64 0, .int .i64 0]) ?_ 0 _ rfl; exact BZ2.out) Try.underlying27 rfl (by kernel_rfl)) rfl ?_
   refine ⟨rfl, ?_⟩
   repeat (first | exact HB2.out | apply below_alloc | apply pw_below_drewN | apply below_drew1 | refine below_set ?_ (by omega))
 ·rw [if_neg he] at H
  have heb : (ea != 0) = true := by simp [he]
  simp only [Option.some.injEq, Prod.mk.injEq] at H
  obtain ⟨rfl, rfl, rfl⟩ := H
  go_wp2
  refine bodyPost_ret (results_ct rfl _ _ (w.heap.size + 1 + 1) 27 #[.int .i64 0, .int .i64 0] (0, 0) _ rfl (by (with_reducible repeat (first | refine blk_drewN ?_ _ | refine blk_drew ?_ | refine blk_alloc ?_ _)); refine blk_put (cs := #[.int .i64 0, .int .i64 0]) ?_ 1 _ rfl; (with_reducible repeat (first | refine blk_drewN ?_ _ | refine blk_drew ?_ | refine blk_alloc ?_ _)); refine blk_put (cs := #[.int .i64 0, .int .i64 0]) ?_ 0 _ rfl; exact BZ1.out) Try.underlying27 rfl (by kernel_rfl)) rfl ?_
  refine ⟨rfl, ?_⟩
  repeat (first | exact HB1.out | apply below_alloc | apply pw_below_drewN | apply below_drew1 | refine below_set ?_ (by omega))
end Go.Proofs.Ytkjkokgbhepmoaa.PB

namespace Go.Proofs.Ytkjkokgbhepmoaa.PB
open Go.RowKit Go.Proofs.YtkjkokgbhepmoaaW.PrintWords Go.Proofs.YtkjkokgbhepmoaaW.PrintLast Go.Proofs.YtkjkokgbhepmoaaW.PrintMore
attribute [local go_sem] max2_int min2_int max_two min_two max_three min_three max_four min_four
end Go.Proofs.Ytkjkokgbhepmoaa.PB

namespace Go.Proofs.Ytkjkokgbhepmoaa.PB
open Go.RowKit Go.Proofs.YtkjkokgbhepmoaaW.PrintWords Go.Proofs.YtkjkokgbhepmoaaW.PrintLast Go.Proofs.YtkjkokgbhepmoaaW.PrintMore
attribute [local go_sem] max2_int min2_int max_two min_two max_three min_three max_four min_four
end Go.Proofs.Ytkjkokgbhepmoaa.PB

namespace Go.Proofs.Ytkjkokgbhepmoaa.PB
open Go.RowKit Go.Proofs.YtkjkokgbhepmoaaW.PrintWords Go.Proofs.YtkjkokgbhepmoaaW.PrintLast Go.Proofs.YtkjkokgbhepmoaaW.PrintMore
attribute [local go_sem] max2_int min2_int max_two min_two
theorem errno_ne (e : Int) (h : e ≠ 0) : (e == 0) = false := by simp [h]
end Go.Proofs.Ytkjkokgbhepmoaa.PB

namespace Go.Proofs.Ytkjkokgbhepmoaa.PB
open Go.RowKit Go.Proofs.YtkjkokgbhepmoaaW.PrintWords Go.Proofs.YtkjkokgbhepmoaaW.PrintLast Go.Proofs.YtkjkokgbhepmoaaW.PrintMore
def annB (below soak th limit : Int) : Bool := inB below 0 10000 && inB soak 0 2000 && inB th 1 2000 && decide (0 ≤ limit)
def x_Anneals.f (k : Nat) (kn : List S84) (fac : Int) (l0_0 : List ByteArray) (l0_1 : List (S63)) (l0_2 : List (S27)) (l0_3 : List (S65)) (a0_4 : Int) (a0_5 : Int) (a0_6 : Int) (l1 : List Int) (a2 below soak th limit : Int) : Option (Bool × Int) :=
  if lehrV kn fac = 0 then (x_Value.f k l0_0 l0_1 l0_2 l0_3 a0_4 a0_5 a0_6 l1 a2).bind fun v => if v.2.2 = 0 then (if annB below soak th limit = true then (if (decide (below ≤ v.1) && decide (v.2.1 ≤ 10000)) = true then (strength_held.f k kn fac v.2.1).bind fun h => if soak ≤ h then (strength_strain.f k kn fac (wrap64 (v.1 - below)) v.2.1 th).bind fun s => some (decide (s ≤ limit), 0) else some (false, 0) else some (false, 9)) else some (false, 1)) else some (false, v.2.2) else some (false, lehrV kn fac)
theorem x_Anneals.mono : ∀ kn fac l0_0 l0_1 l0_2 l0_3 a0_4 a0_5 a0_6 l1 a2 below soak th limit k, LeO (x_Anneals.f k kn fac l0_0 l0_1 l0_2 l0_3 a0_4 a0_5 a0_6 l1 a2 below soak th limit) (x_Anneals.f (k + 1) kn fac l0_0 l0_1 l0_2 l0_3 a0_4 a0_5 a0_6 l1 a2 below soak th limit) := by
  intro kn fac l0_0 l0_1 l0_2 l0_3 a0_4 a0_5 a0_6 l1 a2 below soak th limit k
  unfold x_Anneals.f
  refine LeO.ite ?_ (LeO.refl _)
  refine LeO.bind (x_Value.mono _ _ _ _ _ _ _ _ _ _) fun v => ?_
  refine LeO.ite ?_ (LeO.refl _)
  refine LeO.ite ?_ (LeO.refl _)
  refine LeO.ite ?_ (LeO.refl _)
  refine LeO.bind (strength_held.mono _ _ _ _) fun h => ?_
  refine LeO.ite ?_ (LeO.refl _)
  exact LeO.bind (strength_strain.mono _ _ _ _ _ _) fun _ => LeO.refl _
set_option maxHeartbeats 4000000 in
set_option maxRecDepth 100000 in
theorem x_Anneals.calls (k : Nat) (AL : Option Addr) (cL : Nat) (kn : List S84) (fac : Int) (A0_0 : Option Addr) (c0_0 : Nat) (l0_0 : List ByteArray) (A0_1 : Option Addr) (c0_1 : Nat) (l0_1 : List (S63)) (A0_2 : Option Addr) (c0_2 : Nat) (l0_2 : List (S27)) (A0_3 : Option Addr) (c0_3 : Nat) (l0_3 : List (S65)) (a0_4 : Int) (a0_5 : Int) (a0_6 : Int) (A1 : Option Addr) (c1 : Nat) (l1 : List Int) (a2 below soak th limit : Int) (r1 : Bool) (r2 : Int) (w : World) (hrL : Kd.C k84 w AL kn.length kn) (hcL : kn.length ≤ cL) (hr0_0 : Kd.C Kd.string w A0_0 l0_0.length l0_0) (hc0_0 : l0_0.length ≤ c0_0) (hr0_1 : Kd.C k63 w A0_1 l0_1.length l0_1) (hc0_1 : l0_1.length ≤ c0_1) (hr0_2 : Kd.C k27 w A0_2 l0_2.length l0_2) (hc0_2 : l0_2.length ≤ c0_2) (hr0_3 : Kd.C k65 w A0_3 l0_3.length l0_3) (hc0_3 : l0_3.length ≤ c0_3) (hr1 : Kd.C (Kd.int .i64) w A1 l1.length l1) (hc1 : l1.length ≤ c1) (h : x_Anneals.f k kn fac l0_0 l0_1 l0_2 l0_3 a0_4 a0_5 a0_6 l1 a2 below soak th limit = some (r1, r2)) :
    Calls Try.prog 37 #[.agg #[.slice AL kn.length cL, .int .i64 fac], .agg #[.slice A0_0 l0_0.length c0_0, .slice A0_1 l0_1.length c0_1, .slice A0_2 l0_2.length c0_2, .slice A0_3 l0_3.length c0_3, .int .i64 a0_4, .int .i64 a0_5, .int .i64 a0_6], .slice A1 l1.length c1, .int .i64 a2, .int .i64 below, .int .i64 soak, .int .i64 th, .int .i64 limit] w fun e w' => e = .returned (.tuple #[.bool r1, .int .i64 r2]) ∧ Below w.heap.size w w' := by
  have hmf := run_makeFunc_
  obtain ⟨b1, b2, b3, hb0, hsz⟩ := blk_three w (.cells #[.slice AL kn.length cL, .int .i64 fac] 71) (.cells #[.slice A0_0 l0_0.length c0_0, .slice A0_1 l0_1.length c0_1, .slice A0_2 l0_2.length c0_2, .slice A0_3 l0_3.length c0_3, .int .i64 a0_4, .int .i64 a0_5, .int .i64 a0_6] 29) (.cells #[.int .i64 0] 38)
  have BL := Sd.mk b1
  have BB := Sd.mk b2
  have BE := Sd.mk b3
  have HSZ := Sd.mk hsz
  have HB := Sd.mk hb0
  have HRW := Sd.mk hrL
  have HRL := Sd.mk (Kd.C_below hrL hb0)
  have HR0 := Sd.mk (Kd.C_below hr0_0 hb0)
  have HR1 := Sd.mk (Kd.C_below hr0_1 hb0)
  have HR2 := Sd.mk (Kd.C_below hr0_2 hb0)
  have HR3 := Sd.mk (Kd.C_below hr0_3 hb0)
  have HRR := Sd.mk (Kd.C_below hr1 hb0)
  clear b1 b2 b3 hsz hb0 hrL hr0_0 hr0_1 hr0_2 hr0_3 hr1
  unfold x_Anneals.f at h
  by_cases h0 : lehrV kn fac = 0
  · rw [if_pos h0] at h
    have H0 := Sd.mk h0
    clear h0
    obtain ⟨⟨v1, v2, ve⟩, hv, H⟩ := Option.bind_eq_some_iff.mp h
    simp only at H
    have HV := Sd.mk hv
    clear hv h
    by_cases hve : ve = 0
    · subst hve
      rw [if_pos rfl] at H
      have HH := Sd.mk H
      clear H
      go_enter_defers Try.func37, Try.ntmps37
      go_upto_region 5 with (first | (go_at_call 89; refine (lehr_ok AL cL kn fac _ HRL.out H0.out).mono ?_; rintro e w1 ⟨rfl, hb1⟩; have BL1 := Sd.mk (blk_below BL.out hb1); have BB1 := Sd.mk (blk_below BB.out hb1); have BE1 := Sd.mk (blk_below BE.out hb1); have HRL1 := Sd.mk (Kd.C_below HRL.out hb1); have HB1 := Sd.mk (below_then HB.out (by have := HSZ.out; omega) hb1); have HW1 := Sd.mk hb1; have hbq := blk_cell BB1.out; have hb00 : w1.cell? ⟨w.heap.size + 1, 0, none⟩ = some (.slice A0_0 l0_0.length c0_0) := (hbq 0).trans rfl; have hb01 : w1.cell? ⟨w.heap.size + 1, 1, none⟩ = some (.slice A0_1 l0_1.length c0_1) := (hbq 1).trans rfl; have hb02 : w1.cell? ⟨w.heap.size + 1, 2, none⟩ = some (.slice A0_2 l0_2.length c0_2) := (hbq 2).trans rfl; have hb03 : w1.cell? ⟨w.heap.size + 1, 3, none⟩ = some (.slice A0_3 l0_3.length c0_3) := (hbq 3).trans rfl; have hb04 : w1.cell? ⟨w.heap.size + 1, 4, none⟩ = some (.int .i64 a0_4) := (hbq 4).trans rfl; have hb05 : w1.cell? ⟨w.heap.size + 1, 5, none⟩ = some (.int .i64 a0_5) := (hbq 5).trans rfl; have hb06 : w1.cell? ⟨w.heap.size + 1, 6, none⟩ = some (.int .i64 a0_6) := (hbq 6).trans rfl; clear hb1 hbq) | (go_at_call 20; refine (x_Value.calls k A0_0 c0_0 l0_0 A0_1 c0_1 l0_1 A0_2 c0_2 l0_2 A0_3 c0_3 l0_3 a0_4 a0_5 a0_6 A1 c1 l1 a2 v1 v2 _ _ (Kd.C_below HR0.out HW1.out) hc0_0 (Kd.C_below HR1.out HW1.out) hc0_1 (Kd.C_below HR2.out HW1.out) hc0_2 (Kd.C_below HR3.out HW1.out) hc0_3 (Kd.C_below HRR.out HW1.out) hc1 HV.out).mono ?_; rintro e w2 ⟨rfl, hb2⟩; have BL2 := Sd.mk (blk_alloc (blk_below BL1.out hb2) (.cells #[.int .i64 v1, .int .i64 v2] 27)); have BE2 := Sd.mk (blk_alloc (blk_below BE1.out hb2) (.cells #[.int .i64 v1, .int .i64 v2] 27)); have BV2 := Sd.mk (blk_new w2 (.cells #[.int .i64 v1, .int .i64 v2] 27)); have HRL2 := Sd.mk (Kd.C_below HRL1.out hb2); have HB2 := Sd.mk (below_then HB1.out HB1.out.size hb2); have HX2 := Sd.mk (show w.heap.size + 1 + 1 < w2.heap.size from blk_lt (blk_below BE1.out hb2)); have he0 : (w2.alloc (.cells #[.int .i64 v1, .int .i64 v2] 27)).cell? ⟨w.heap.size + 1 + 1, 0, none⟩ = some (.int .i64 0) := (blk_cell BE2.out 0).trans rfl; have he1 := blk_frozen BE2.out 0; clear hb2 hb00 hb01 hb02 hb03 hb04 hb05 hb06) | (go_at_call 90; refine (must_ok _).mono ?_; rintro e w3 ⟨rfl, rfl⟩))
      have BLy := Sd.mk (blk_far BL2.out (show w.heap.size ≠ (⟨w.heap.size + 1 + 1, 0, none⟩ : Addr).block by show _ ≠ w.heap.size + 1 + 1; omega) (.int .i64 0))
      have BEy := Sd.mk (blk_put BE2.out 0 (.int .i64 0) rfl)
      have BVy := Sd.mk (blk_far BV2.out (show w2.heap.size ≠ (⟨w.heap.size + 1 + 1, 0, none⟩ : Addr).block by have := HX2.out; show _ ≠ w.heap.size + 1 + 1; omega) (.int .i64 0))
      have HBy := Sd.mk (below_set (below_alloc HB2.out (.cells #[.int .i64 v1, .int .i64 v2] 27)) (g := w.heap.size + 1 + 1) (j := 0) (v := .int .i64 0) (by omega))
      have HRy := Sd.mk (Kd.C_below HRW.out HBy.out)
      generalize World.setCell (w2.alloc (.cells #[.int .i64 v1, .int .i64 v2] 27)) ⟨w.heap.size + 1 + 1, 0, none⟩ (.int .i64 0) = WY at BLy BEy BVy HRy HBy ⊢
      clear he0 he1 BL2 BE2 BV2 HRL2 HB2 BL1 BB1 BE1 HRL1 HB1 HW1
      generalize w2.heap.size = X at BVy HX2 ⊢
      cases i1 : inB below 0 10000 with
      | false =>
        have I1 := Sd.mk i1
        have I2 := Sd.mk True.intro
        have I3 := I2
        clear i1
        have HN : annB below soak th limit = false := by unfold annB; rw [I1.out]; rfl
        have HQ := HH.out
        rw [if_neg (by rw [HN]; simp)] at HQ
        simp only [Option.some.injEq, Prod.mk.injEq] at HQ
        obtain ⟨rfl, rfl⟩ := HQ
        clear HN HH
        go_wp2_with (first | (go_at_call 92; refine (swithin_f _ _ _ _).mono ?_; (first | rw [I1.out]); rintro e w3 ⟨rfl, q, rfl⟩) | (go_at_call 91; (with_reducible refine (demand_no _ _).mono ?_); rintro e w4 ⟨rfl, rfl⟩))
        refine leaves_cons (f := 87) (args := #[.pointer (some ⟨w.heap.size + 1 + 1, 0, none⟩)]) (by simp) (by simp [go_sem]) ?_
        refine (door87_fail _ _ _ [] _ (blk_drewN BEy.out _)).mono ?_
        rintro e u' w'' ⟨rfl, rfl, rfl⟩
        exact ⟨_, results_te rfl _ _ (w.heap.size + 1 + 1) _ rfl (blk_put (blk_alloc (blk_drewN BEy.out _) _) 0 _ rfl), rfl, below_set (below_alloc (pw_below_drewN HBy.out _) _) (by omega)⟩
      | true =>
        have I1 := Sd.mk i1
        clear i1
        cases i2 : inB soak 0 2000 with
        | false =>
          have I2 := Sd.mk i2
          clear i2
          have HN : annB below soak th limit = false := by unfold annB; rw [I1.out, I2.out]; rfl
          have HQ := HH.out
          rw [if_neg (by rw [HN]; simp)] at HQ
          simp only [Option.some.injEq, Prod.mk.injEq] at HQ
          obtain ⟨rfl, rfl⟩ := HQ
          clear HN HH
          go_wp2_with (first | (go_at_call 92; refine (swithin_f _ _ _ _).mono ?_; (first | rw [I1.out] | rw [I2.out]); rintro e w3 ⟨rfl, q, rfl⟩) | (go_at_call 91; (with_reducible refine (demand_no _ _).mono ?_); rintro e w4 ⟨rfl, rfl⟩))
          refine leaves_cons (f := 87) (args := #[.pointer (some ⟨w.heap.size + 1 + 1, 0, none⟩)]) (by simp) (by simp [go_sem]) ?_
          refine (door87_fail _ _ _ [] _ (blk_drewN BEy.out _)).mono ?_
          rintro e u' w'' ⟨rfl, rfl, rfl⟩
          exact ⟨_, results_te rfl _ _ (w.heap.size + 1 + 1) _ rfl (blk_put (blk_alloc (blk_drewN BEy.out _) _) 0 _ rfl), rfl, below_set (below_alloc (pw_below_drewN HBy.out _) _) (by omega)⟩
        | true =>
          have I2 := Sd.mk i2
          clear i2
          cases i3 : inB th 1 2000 with
          | false =>
            have I3 := Sd.mk i3
            clear i3
            have HN : annB below soak th limit = false := by unfold annB; rw [I1.out, I2.out, I3.out]; rfl
            have HQ := HH.out
            rw [if_neg (by rw [HN]; simp)] at HQ
            simp only [Option.some.injEq, Prod.mk.injEq] at HQ
            obtain ⟨rfl, rfl⟩ := HQ
            clear HN HH
            go_wp2_with (first | (go_at_call 92; refine (swithin_f _ _ _ _).mono ?_; (first | rw [I1.out] | rw [I2.out] | rw [I3.out]); rintro e w3 ⟨rfl, q, rfl⟩) | (go_at_call 91; (with_reducible refine (demand_no _ _).mono ?_); rintro e w4 ⟨rfl, rfl⟩))
            refine leaves_cons (f := 87) (args := #[.pointer (some ⟨w.heap.size + 1 + 1, 0, none⟩)]) (by simp) (by simp [go_sem]) ?_
            refine (door87_fail _ _ _ [] _ (blk_drewN BEy.out _)).mono ?_
            rintro e u' w'' ⟨rfl, rfl, rfl⟩
            exact ⟨_, results_te rfl _ _ (w.heap.size + 1 + 1) _ rfl (blk_put (blk_alloc (blk_drewN BEy.out _) _) 0 _ rfl), rfl, below_set (below_alloc (pw_below_drewN HBy.out _) _) (by omega)⟩
          | true =>
            have I3 := Sd.mk i3
            clear i3
            cases i4 : decide (0 ≤ limit) with
            | false =>
              have I4 := Sd.mk i4
              have HN : annB below soak th limit = false := by unfold annB; rw [I1.out, I2.out, I3.out, I4.out]; rfl
              have HQ := HH.out
              rw [if_neg (by rw [HN]; simp)] at HQ
              simp only [Option.some.injEq, Prod.mk.injEq] at HQ
              obtain ⟨rfl, rfl⟩ := HQ
              clear HN HH
              go_wp2_with (first | (go_at_call 92; refine (swithin_f _ _ _ _).mono ?_; (first | rw [I1.out] | rw [I2.out] | rw [I3.out]); rintro e w3 ⟨rfl, q, rfl⟩) | (go_at_call 91; (with_reducible refine (demand_no _ _).mono ?_); rintro e w4 ⟨rfl, rfl⟩))
              refine leaves_cons (f := 87) (args := #[.pointer (some ⟨w.heap.size + 1 + 1, 0, none⟩)]) (by simp) (by simp [go_sem]) ?_
              refine (door87_fail _ _ _ [] _ (blk_drewN BEy.out _)).mono ?_
              rintro e u' w'' ⟨rfl, rfl, rfl⟩
              exact ⟨_, results_te rfl _ _ (w.heap.size + 1 + 1) _ rfl (blk_put (blk_alloc (blk_drewN BEy.out _) _) 0 _ rfl), rfl, below_set (below_alloc (pw_below_drewN HBy.out _) _) (by omega)⟩
            | true =>
              have HN : annB below soak th limit = true := by unfold annB; rw [I1.out, I2.out, I3.out, i4]; rfl
              have HQ := HH.out
              rw [if_pos HN] at HQ
              clear HN HH
              have hv0 : WY.cell? ⟨X, 0, none⟩ = some (.int .i64 v1) := (blk_cell BVy.out 0).trans rfl
              have hv1 : WY.cell? ⟨X, 1, none⟩ = some (.int .i64 v2) := (blk_cell BVy.out 1).trans rfl
              cases i5 : decide (below ≤ v1) with
              | false =>
                rw [if_neg (by rw [i5]; simp)] at HQ
                simp only [Option.some.injEq, Prod.mk.injEq] at HQ
                obtain ⟨rfl, rfl⟩ := HQ
                go_wp2_with (first | (go_at_call 92; refine (swithin_f _ _ _ _).mono ?_; (first | rw [I1.out] | rw [I2.out] | rw [I3.out]); rintro e w3 ⟨rfl, q, rfl⟩) | (go_at_call 91; (with_reducible refine (demand_no _ _).mono ?_); rintro e w4 ⟨rfl, rfl⟩) | (go_at_call 91; (with_reducible refine (demand_ok _ _).mono ?_); rintro e w4 ⟨rfl, rfl⟩))
                refine leaves_cons (f := 87) (args := #[.pointer (some ⟨w.heap.size + 1 + 1, 0, none⟩)]) (by simp) (by simp [go_sem]) ?_
                refine (door87_fail _ _ _ [] _ (blk_drewN BEy.out _)).mono ?_
                rintro e u' w'' ⟨rfl, rfl, rfl⟩
                exact ⟨_, results_te rfl _ _ (w.heap.size + 1 + 1) _ rfl (blk_put (blk_alloc (blk_drewN BEy.out _) _) 0 _ rfl), rfl, below_set (below_alloc (pw_below_drewN HBy.out _) _) (by omega)⟩
              | true =>
                cases i6 : decide (v2 ≤ 10000) with
                | false =>
                  rw [if_neg (by rw [i5, i6]; simp)] at HQ
                  simp only [Option.some.injEq, Prod.mk.injEq] at HQ
                  obtain ⟨rfl, rfl⟩ := HQ
                  go_wp2_with (first | (go_at_call 92; refine (swithin_f _ _ _ _).mono ?_; (first | rw [I1.out] | rw [I2.out] | rw [I3.out]); rintro e w3 ⟨rfl, q, rfl⟩) | (go_at_call 91; (with_reducible refine (demand_no _ _).mono ?_); rintro e w4 ⟨rfl, rfl⟩) | (go_at_call 91; (with_reducible refine (demand_ok _ _).mono ?_); rintro e w4 ⟨rfl, rfl⟩))
                  refine leaves_cons (f := 87) (args := #[.pointer (some ⟨w.heap.size + 1 + 1, 0, none⟩)]) (by simp) (by simp [go_sem]) ?_
                  refine (door87_fail _ _ _ [] _ (blk_drewN BEy.out _)).mono ?_
                  rintro e u' w'' ⟨rfl, rfl, rfl⟩
                  exact ⟨_, results_te rfl _ _ (w.heap.size + 1 + 1) _ rfl (blk_put (blk_alloc (blk_drewN BEy.out _) _) 0 _ rfl), rfl, below_set (below_alloc (pw_below_drewN HBy.out _) _) (by omega)⟩
                | true =>
                  rw [if_pos (by rw [i5, i6]; rfl)] at HQ
                  obtain ⟨hh, hhe, HQ⟩ := Option.bind_eq_some_iff.mp HQ
                  have HHE := Sd.mk hhe
                  have hl0 : WY.cell? ⟨w.heap.size, 0, none⟩ = some (.slice AL kn.length cL) := (blk_cell BLy.out 0).trans rfl
                  have hl1 : WY.cell? ⟨w.heap.size, 0 + 1, none⟩ = some (.int .i64 fac) := (blk_cell BLy.out 1).trans rfl
                  clear hhe
                  cases i7 : decide (soak ≤ hh) with
                  | false =>
                    rw [if_neg (of_decide_eq_false i7)] at HQ
                    simp only [Option.some.injEq, Prod.mk.injEq] at HQ
                    obtain ⟨rfl, rfl⟩ := HQ
                    go_wp2_with (first | (go_at_call 92; refine (swithin_f _ _ _ _).mono ?_; (first | rw [I1.out] | rw [I2.out] | rw [I3.out]); rintro e w3 ⟨rfl, q, rfl⟩) | (go_at_call 91; (with_reducible refine (demand_no _ _).mono ?_); rintro e w4 ⟨rfl, rfl⟩) | (go_at_call 91; (with_reducible refine (demand_ok _ _).mono ?_); rintro e w4 ⟨rfl, rfl⟩) | (go_at_call 93; refine (strength_held.calls k _ _ kn fac v2 hh _ (Kd.C_drewN HRy.out _) hcL HHE.out).mono ?_; rintro e w5 ⟨rfl, hb5⟩; have BL5 := Sd.mk (blk_below (blk_drewN BLy.out _) hb5); have BE5 := Sd.mk (blk_below (blk_drewN BEy.out _) hb5); have BV5 := Sd.mk (blk_below (blk_drewN BVy.out _) hb5); have HR5 := Sd.mk (Kd.C_below (Kd.C_drewN HRy.out _) hb5); have HB5 := Sd.mk (below_then (pw_below_drewN HBy.out _) (pw_below_drewN HBy.out _).size hb5); have hu0 : w5.cell? ⟨X, 0, none⟩ = some (.int .i64 v1) := (blk_cell BV5.out 0).trans rfl; have hu1 : w5.cell? ⟨X, 1, none⟩ = some (.int .i64 v2) := (blk_cell BV5.out 1).trans rfl; have hm0 : w5.cell? ⟨w.heap.size, 0, none⟩ = some (.slice AL kn.length cL) := (blk_cell BL5.out 0).trans rfl; have hm1 : w5.cell? ⟨w.heap.size, 0 + 1, none⟩ = some (.int .i64 fac) := (blk_cell BL5.out 1).trans rfl; have he0 : w5.cell? ⟨w.heap.size + 1 + 1, 0, none⟩ = some (.int .i64 0) := (blk_cell BE5.out 0).trans rfl; have he1 := blk_frozen BE5.out 0))
                    refine leaves_cons (f := 87) (args := #[.pointer (some ⟨w.heap.size + 1 + 1, 0, none⟩)]) (by simp) (by simp [go_sem]) ?_
                    refine (door87_ok _ _).mono ?_
                    rintro e u' w'' ⟨rfl, rfl, rfl⟩
                    exact ⟨_, results_te rfl _ _ (w.heap.size + 1 + 1) 0 rfl (blk_put BE5.out 0 _ rfl), rfl, below_set HB5.out (by omega)⟩
                  | true =>
                    rw [if_pos (of_decide_eq_true i7)] at HQ
                    obtain ⟨ss, hse, HQ⟩ := Option.bind_eq_some_iff.mp HQ
                    have HSE := Sd.mk hse
                    clear hse
                    simp only [Option.some.injEq, Prod.mk.injEq] at HQ
                    obtain ⟨rfl, rfl⟩ := HQ
                    go_wp2_with (first | (go_at_call 92; refine (swithin_f _ _ _ _).mono ?_; (first | rw [I1.out] | rw [I2.out] | rw [I3.out]); rintro e w3 ⟨rfl, q, rfl⟩) | (go_at_call 91; (with_reducible refine (demand_no _ _).mono ?_); rintro e w4 ⟨rfl, rfl⟩) | (go_at_call 91; (with_reducible refine (demand_ok _ _).mono ?_); rintro e w4 ⟨rfl, rfl⟩) | (go_at_call 93; refine (strength_held.calls k _ _ kn fac v2 hh _ (Kd.C_drewN HRy.out _) hcL HHE.out).mono ?_; rintro e w5 ⟨rfl, hb5⟩; have BL5 := Sd.mk (blk_below (blk_drewN BLy.out _) hb5); have BE5 := Sd.mk (blk_below (blk_drewN BEy.out _) hb5); have BV5 := Sd.mk (blk_below (blk_drewN BVy.out _) hb5); have HR5 := Sd.mk (Kd.C_below (Kd.C_drewN HRy.out _) hb5); have HB5 := Sd.mk (below_then (pw_below_drewN HBy.out _) (pw_below_drewN HBy.out _).size hb5); have hu0 : w5.cell? ⟨X, 0, none⟩ = some (.int .i64 v1) := (blk_cell BV5.out 0).trans rfl; have hu1 : w5.cell? ⟨X, 1, none⟩ = some (.int .i64 v2) := (blk_cell BV5.out 1).trans rfl; have hm0 : w5.cell? ⟨w.heap.size, 0, none⟩ = some (.slice AL kn.length cL) := (blk_cell BL5.out 0).trans rfl; have hm1 : w5.cell? ⟨w.heap.size, 0 + 1, none⟩ = some (.int .i64 fac) := (blk_cell BL5.out 1).trans rfl; have he0 : w5.cell? ⟨w.heap.size + 1 + 1, 0, none⟩ = some (.int .i64 0) := (blk_cell BE5.out 0).trans rfl; have he1 := blk_frozen BE5.out 0) | (go_at_call 94; refine (strength_strain.calls k _ _ kn fac (wrap64 (v1 - below)) v2 th ss _ HR5.out hcL HSE.out).mono ?_; rintro e w6 ⟨rfl, hb6⟩; have BE6 := Sd.mk (blk_below BE5.out hb6); have HB6 := Sd.mk (below_then HB5.out HB5.out.size hb6); have hf0 : w6.cell? ⟨w.heap.size + 1 + 1, 0, none⟩ = some (.int .i64 0) := (blk_cell BE6.out 0).trans rfl; have hf1 := blk_frozen BE6.out 0))
                    refine leaves_cons (f := 87) (args := #[.pointer (some ⟨w.heap.size + 1 + 1, 0, none⟩)]) (by simp) (by simp [go_sem]) ?_
                    refine (door87_ok _ _).mono ?_
                    rintro e u' w'' ⟨rfl, rfl, rfl⟩
                    exact ⟨_, results_te rfl _ _ (w.heap.size + 1 + 1) 0 rfl (blk_put BE6.out 0 _ rfl), rfl, below_set HB6.out (by omega)⟩
    · rw [if_neg hve] at H
      simp only [Option.some.injEq, Prod.mk.injEq] at H
      obtain ⟨rfl, rfl⟩ := H
      have HVE := Sd.mk (errno_ne ve hve)
      clear hve
      go_enter_defers Try.func37, Try.ntmps37
      go_wp2_with (first | (go_at_call 89; refine (lehr_ok AL cL kn fac _ HRL.out H0.out).mono ?_; rintro e w1 ⟨rfl, hb1⟩; have BL1 := Sd.mk (blk_below BL.out hb1); have BB1 := Sd.mk (blk_below BB.out hb1); have BE1 := Sd.mk (blk_below BE.out hb1); have HRL1 := Sd.mk (Kd.C_below HRL.out hb1); have HB1 := Sd.mk (below_then HB.out (by have := HSZ.out; omega) hb1); have HW1 := Sd.mk hb1; have hbq := blk_cell BB1.out; have hb00 : w1.cell? ⟨w.heap.size + 1, 0, none⟩ = some (.slice A0_0 l0_0.length c0_0) := (hbq 0).trans rfl; have hb01 : w1.cell? ⟨w.heap.size + 1, 1, none⟩ = some (.slice A0_1 l0_1.length c0_1) := (hbq 1).trans rfl; have hb02 : w1.cell? ⟨w.heap.size + 1, 2, none⟩ = some (.slice A0_2 l0_2.length c0_2) := (hbq 2).trans rfl; have hb03 : w1.cell? ⟨w.heap.size + 1, 3, none⟩ = some (.slice A0_3 l0_3.length c0_3) := (hbq 3).trans rfl; have hb04 : w1.cell? ⟨w.heap.size + 1, 4, none⟩ = some (.int .i64 a0_4) := (hbq 4).trans rfl; have hb05 : w1.cell? ⟨w.heap.size + 1, 5, none⟩ = some (.int .i64 a0_5) := (hbq 5).trans rfl; have hb06 : w1.cell? ⟨w.heap.size + 1, 6, none⟩ = some (.int .i64 a0_6) := (hbq 6).trans rfl; clear hb1 hbq) | (go_at_call 20; refine (x_Value.calls k A0_0 c0_0 l0_0 A0_1 c0_1 l0_1 A0_2 c0_2 l0_2 A0_3 c0_3 l0_3 a0_4 a0_5 a0_6 A1 c1 l1 a2 v1 v2 _ _ (Kd.C_below HR0.out HW1.out) hc0_0 (Kd.C_below HR1.out HW1.out) hc0_1 (Kd.C_below HR2.out HW1.out) hc0_2 (Kd.C_below HR3.out HW1.out) hc0_3 (Kd.C_below HRR.out HW1.out) hc1 HV.out).mono ?_; rintro e w2 ⟨rfl, hb2⟩; have BL2 := Sd.mk (blk_alloc (blk_below BL1.out hb2) (.cells #[.int .i64 v1, .int .i64 v2] 27)); have BE2 := Sd.mk (blk_alloc (blk_below BE1.out hb2) (.cells #[.int .i64 v1, .int .i64 v2] 27)); have BV2 := Sd.mk (blk_new w2 (.cells #[.int .i64 v1, .int .i64 v2] 27)); have HRL2 := Sd.mk (Kd.C_below HRL1.out hb2); have HB2 := Sd.mk (below_then HB1.out HB1.out.size hb2); have HX2 := Sd.mk (show w.heap.size + 1 + 1 < w2.heap.size from blk_lt (blk_below BE1.out hb2)); have he0 : (w2.alloc (.cells #[.int .i64 v1, .int .i64 v2] 27)).cell? ⟨w.heap.size + 1 + 1, 0, none⟩ = some (.int .i64 0) := (blk_cell BE2.out 0).trans rfl; have he1 := blk_frozen BE2.out 0; clear hb2 hb00 hb01 hb02 hb03 hb04 hb05 hb06) | (go_at_call 90; refine (must_no _ HVE.out _).mono ?_; rintro e w3 ⟨rfl, rfl⟩))
      refine leaves_cons (f := 87) (args := #[.pointer (some ⟨w.heap.size + 1 + 1, 0, none⟩)]) (by simp) (by simp [go_sem]) ?_
      refine (door87_fail _ _ _ [] _ (blk_put BE2.out 0 (.int .i64 ve) rfl)).mono ?_
      rintro e u' w'' ⟨rfl, rfl, rfl⟩
      exact ⟨_, results_te rfl _ _ (w.heap.size + 1 + 1) _ rfl (blk_put (blk_alloc (blk_put BE2.out 0 (.int .i64 ve) rfl) _) 0 _ rfl), rfl, below_set (below_alloc (below_set (below_alloc HB2.out _) (by omega)) _) (by omega)⟩
  · rw [if_neg h0] at h
    simp only [Option.some.injEq, Prod.mk.injEq] at h
    obtain ⟨rfl, rfl⟩ := h
    have H0 := Sd.mk h0
    clear h0
    go_enter_defers Try.func37, Try.ntmps37
    go_wp2_with (go_at_call 89; refine (lehr_no AL cL kn fac _ HRL.out H0.out).mono ?_; rintro e w1 ⟨rfl, hb1⟩)
    refine leaves_cons (f := 87) (args := #[.pointer (some ⟨w.heap.size + 1 + 1, 0, none⟩)]) (by simp) (by simp [go_sem]) ?_
    refine (door87_fail _ _ _ [] _ (blk_below BE.out hb1)).mono ?_
    rintro e u' w'' ⟨rfl, rfl, rfl⟩
    exact ⟨_, results_te rfl _ _ (w.heap.size + 1 + 1) _ rfl (blk_put (blk_alloc (blk_below BE.out hb1) _) 0 _ rfl), rfl, below_set (below_alloc (below_then HB.out (by have := HSZ.out; omega) hb1) _) (by omega)⟩
end Go.Proofs.Ytkjkokgbhepmoaa.PB

namespace Go.Proofs.Ytkjkokgbhepmoaa.PB
open Go.RowKit Go.Proofs.YtkjkokgbhepmoaaW.PrintWords Go.Proofs.YtkjkokgbhepmoaaW.PrintLast Go.Proofs.YtkjkokgbhepmoaaW.PrintMore
theorem minF_le (F : Nat → Int) : ∀ n cut, cut ≤ n → minF F n ≤ F cut := by
  intro n
  induction n with
  | zero => intro cut h; obtain rfl : cut = 0 := by omega
            exact Int.le_refl _
  | succ n ih =>
    intro cut h
    simp only [minF]
    by_cases hc : cut = n + 1
    · subst hc; split <;> omega
    · have := ih cut (by omega); split <;> omega
theorem minF_at (F : Nat → Int) : ∀ n, ∃ cut, cut ≤ n ∧ minF F n = F cut := by
  intro n
  induction n with
  | zero => exact ⟨0, Nat.le_refl _, rfl⟩
  | succ n ih =>
    obtain ⟨cut, h1, h2⟩ := ih
    simp only [minF]
    by_cases hc : F (n + 1) < minF F n
    · exact ⟨n + 1, Nat.le_refl _, by rw [if_pos hc]⟩
    · exact ⟨cut, by omega, by rw [if_neg hc, h2]⟩
theorem maxF_neg (F : Nat → Int) : ∀ n, maxF F n = -minF (fun c => -F c) n := by
  intro n
  induction n with
  | zero => simp [maxF, minF]
  | succ n ih => simp only [maxF, minF, ih]; split <;> split <;> omega
theorem sumTo_pick (f : Int → Int → Int) (u v : Int → Int) (D : Array Int) (cut : Nat) : ∀ k, k ≤ D.size →
    sumTo (fun j => if (j : Int) < (cut : Int) then f D[j]! (u D[j]!) else f D[j]! (v D[j]!)) k = MeanMath.lsum (fun a => f a (u a)) (D.toList.take (min k cut)) + MeanMath.lsum (fun a => f a (v a)) ((D.toList.take k).drop cut) := by
  intro k
  induction k with
  | zero => intro _; simp [sumTo]
  | succ k ih =>
    intro hk
    have hk' : k < D.toList.length := by rw [Array.length_toList]; omega
    have e : D[k]! = D.toList[k] := by rw [getElem!_pos D k (by omega)]; simp
    simp only [sumTo]
    rw [ih (by omega), e]
    by_cases hc : k < cut
    · rw [if_pos (by omega), Nat.min_eq_left (by omega), Nat.min_eq_left (by omega), List.take_succ_eq_append_getElem hk', MeanMath.lsum_append, List.drop_eq_nil_of_le (by simp; omega), List.drop_eq_nil_of_le (by simp; omega)]
      simp
    · rw [if_neg (by omega), Nat.min_eq_right (by omega), Nat.min_eq_right (by omega), List.take_succ_eq_append_getElem hk', List.drop_append_of_le_length (by simp; omega), MeanMath.lsum_append]
      simp; omega
theorem sumTo_pick' (f : Int → Int → Int) (u v : Int → Int) (D : Array Int) (cut : Nat) (hc : cut ≤ D.size) :
    sumTo (fun j => if (j : Int) < (cut : Int) then f D[j]! (u D[j]!) else f D[j]! (v D[j]!)) D.size = MeanMath.pick f u v D.toList cut := by
  rw [sumTo_pick f u v D cut D.size (Nat.le_refl _), Nat.min_eq_right hc, List.take_of_length_le (l := D.toList) (i := D.size) (by simp)]
  rfl
theorem pick_reverse (f : Int → Int → Int) (u v : Int → Int) (o : List Int) (cut : Nat) (hc : cut ≤ o.length) :
    MeanMath.pick f u v o.reverse (o.length - cut) = MeanMath.pick f v u o cut := by
  unfold MeanMath.pick
  rw [List.take_reverse, List.drop_reverse, MeanMath.lsum_perm _ (List.reverse_perm _), MeanMath.lsum_perm _ (List.reverse_perm (o.take (o.length - (o.length - cut)))), show o.length - (o.length - cut) = cut by omega]
  omega
def loF (l : List S27) (k : Int) : Int := (rd_T27 l k).f0
def hiF (l : List S27) (k : Int) : Int := (rd_T27 l k).f1
theorem lowN_pick (cf : Int → Int) (l : List S27) (D : Array Int) (cut : Nat) (hs : D.size = l.length) (hc : cut ≤ D.size) : lowN cf l D cut l.length = MeanMath.pick (fun a x => cf a * x) (hiF l) (loF l) D.toList cut := by
  rw [← sumTo_pick' _ _ _ D cut hc, hs]
  unfold lowN
  congr 1; funext j; unfold wX hiF loF; split <;> rfl
theorem lowD_pick (l : List S27) (D : Array Int) (cut : Nat) (hs : D.size = l.length) (hc : cut ≤ D.size) : lowD l D cut l.length = MeanMath.pick (fun _ x => x) (hiF l) (loF l) D.toList cut := by
  rw [← sumTo_pick' _ _ _ D cut hc, hs]
  unfold lowD
  congr 1
theorem highN_pick (cf : Int → Int) (l : List S27) (D : Array Int) (cut : Nat) (hs : D.size = l.length) (hc : cut ≤ D.size) : highN cf l D cut l.length = MeanMath.pick (fun a x => cf a * x) (loF l) (hiF l) D.toList cut := by
  rw [← sumTo_pick' _ _ _ D cut hc, hs]
  unfold highN
  congr 1; funext j; unfold wY hiF loF; split <;> rfl
theorem highD_pick (l : List S27) (D : Array Int) (cut : Nat) (hs : D.size = l.length) (hc : cut ≤ D.size) : highD l D cut l.length = MeanMath.pick (fun _ x => x) (loF l) (hiF l) D.toList cut := by
  rw [← sumTo_pick' _ _ _ D cut hc, hs]
  unfold highD
  congr 1
theorem pick_negc (cf : Int → Int) (u v : Int → Int) (o : List Int) (cut : Nat) : MeanMath.pick (fun a x => -cf a * x) u v o cut = -MeanMath.pick (fun a x => cf a * x) u v o cut := by
  unfold MeanMath.pick
  have : ∀ (w : Int → Int) (l : List Int), MeanMath.lsum (fun a => -cf a * w a) l = -MeanMath.lsum (fun a => cf a * w a) l := by
    intro w l
    induction l with
    | nil => rfl
    | cons x l ih => simp only [MeanMath.lsum_cons, ih]; rw [Int.neg_mul]; omega
  simp only [this]
  omega
def belowS (cf : Int → Int) (l : List S27) (m : Int) : Int := MeanMath.below cf (loF l) (hiF l) m (iotaA l.length).toList
def aboveS (cf : Int → Int) (l : List S27) (m : Int) : Int := MeanMath.below (fun k => -cf k) (loF l) (hiF l) (-m) (iotaA l.length).toList
theorem order_sorted (cf : Int → Int) (n : Nat) : (orderOf cf n).toList.Pairwise fun a b => cf a ≤ cf b := by
  rw [List.pairwise_iff_getElem]
  intro i j hi hj hij
  have h := (order_facts cf n).2 i j (Nat.zero_le _) hij (by rw [Array.length_toList, order_size] at hj; exact hj)
  rw [Array.length_toList] at hi hj
  rw [getElem!_pos _ i hi, getElem!_pos _ j hj] at h
  simp only [ltC, decide_eq_false_iff_not] at h
  simp only [Array.getElem_toList]
  omega
theorem order_mem (cf : Int → Int) {n : Nat} {a : Int} (h : a ∈ (orderOf cf n).toList) : 0 ≤ a ∧ a < n := by
  have h := (order_perm cf n).mem_iff.1 h
  simp only [iotaA, Array.toList_ofFn, List.mem_ofFn] at h
  obtain ⟨i, rfl⟩ := h
  have := i.isLt
  omega
theorem below_perm (c lo hi : Int → Int) (m : Int) {o o' : List Int} (h : o.Perm o') : MeanMath.below c lo hi m o = MeanMath.below c lo hi m o' := MeanMath.lsum_perm _ h
theorem order_weight (cf : Int → Int) (l : List S27) (h : 0 < MeanMath.lsum S27.f0 l) : 0 < MeanMath.lsum (loF l) (orderOf cf l.length).toList := by
  rw [MeanMath.lsum_perm _ (order_perm cf l.length), lsum_iota (loF l) l (fun _ _ => rfl)]
  exact h
theorem meanLo_iff {cf : Int → Int} {l : List S27} (H : MeanOk cf l) (m : Int) : belowS cf l m ≤ 0 ↔ m ≤ meanLo cf l := by
  unfold belowS
  rw [← below_perm _ _ _ _ (order_perm cf l.length)]
  have hs := order_size cf l.length
  have hq : ∀ cut, cut ≤ l.length → lowQ cf l (orderOf cf l.length) cut = MeanMath.pick (fun a x => cf a * x) (hiF l) (loF l) (orderOf cf l.length).toList cut / MeanMath.pick (fun _ x => x) (hiF l) (loF l) (orderOf cf l.length).toList cut := by
    intro cut hc
    unfold lowQ
    rw [lowN_pick _ _ _ _ hs (by omega), lowD_pick _ _ _ hs (by omega)]
  have hl : (orderOf cf l.length).toList.length = l.length := by rw [Array.length_toList, hs]
  refine MeanMath.least_floor cf (loF l) (hiF l) _ (order_sorted cf l.length) ?_ ?_ (order_weight cf l H.pos) (meanLo cf l) ?_ ?_ m
  · intro a ha; have h := order_mem cf ha; exact H.lo a h.1 h.2
  · intro a ha; have h := order_mem cf ha; exact H.le a h.1 h.2
  · intro cut hc
    rw [hl] at hc
    rw [← hq cut hc]
    exact minF_le _ _ cut hc
  · obtain ⟨cut, hc, he⟩ := minF_at (lowQ cf l (orderOf cf l.length)) l.length
    exact ⟨cut, by rw [hl]; exact hc, by rw [← hq cut hc]; exact he⟩
theorem meanHi_iff {cf : Int → Int} {l : List S27} (H : MeanOk cf l) (m : Int) : aboveS cf l m ≤ 0 ↔ meanHi cf l ≤ m := by
  unfold aboveS
  rw [← below_perm _ _ _ _ ((List.reverse_perm _).trans (order_perm cf l.length))]
  have hs := order_size cf l.length
  have hl : (orderOf cf l.length).toList.length = l.length := by rw [Array.length_toList, hs]
  have hq : ∀ cut, cut ≤ l.length → -highQ cf l (orderOf cf l.length) cut = MeanMath.pick (fun a x => -cf a * x) (hiF l) (loF l) (orderOf cf l.length).toList.reverse (l.length - cut) / MeanMath.pick (fun _ x => x) (hiF l) (loF l) (orderOf cf l.length).toList.reverse (l.length - cut) := by
    intro cut hc
    unfold highQ
    have e1 := pick_reverse (fun a x => -cf a * x) (hiF l) (loF l) (orderOf cf l.length).toList cut (by omega)
    have e2 := pick_reverse (fun _ x => x) (hiF l) (loF l) (orderOf cf l.length).toList cut (by omega)
    rw [hl] at e1 e2
    rw [e1, e2, pick_negc, highN_pick _ _ _ _ hs (by omega), highD_pick _ _ _ hs (by omega), Int.neg_neg]
  have hm : meanHi cf l = -minF (fun c => -highQ cf l (orderOf cf l.length) c) l.length := maxF_neg _ _
  have key := MeanMath.least_floor (fun k => -cf k) (loF l) (hiF l) (orderOf cf l.length).toList.reverse ?_ ?_ ?_ ?_ (-meanHi cf l) ?_ ?_ (-m)
  · rw [key]; omega
  · rw [List.pairwise_reverse]
    exact (order_sorted cf l.length).imp fun h => by omega
  · intro a ha; have h := order_mem cf (List.mem_reverse.1 ha); exact H.lo a h.1 h.2
  · intro a ha; have h := order_mem cf (List.mem_reverse.1 ha); exact H.le a h.1 h.2
  · rw [MeanMath.lsum_perm _ (List.reverse_perm _)]; exact order_weight cf l H.pos
  · intro cut hc
    rw [List.length_reverse, hl] at hc
    have := hq (l.length - cut) (by omega)
    rw [show l.length - (l.length - cut) = cut by omega] at this
    rw [← this, hm, Int.neg_neg]
    exact minF_le (fun c => -highQ cf l (orderOf cf l.length) c) _ (l.length - cut) (by omega)
  · obtain ⟨cut, hc, he⟩ := minF_at (fun c => -highQ cf l (orderOf cf l.length) c) l.length
    refine ⟨l.length - cut, by rw [List.length_reverse, hl]; omega, ?_⟩
    rw [← hq cut hc, hm, Int.neg_neg]
    exact he
end Go.Proofs.Ytkjkokgbhepmoaa.PB

namespace Go.Proofs.Ytkjkokgbhepmoaa.PB
open Go.RowKit Go.Proofs.YtkjkokgbhepmoaaW.PrintWords Go.Proofs.YtkjkokgbhepmoaaW.PrintLast Go.Proofs.YtkjkokgbhepmoaaW.PrintMore
def Ev {α : Type} (f : Nat → Option α) (v : α) : Prop := ∃ K, ∀ k, K ≤ k → f k = some v
namespace Ev
variable {α β : Type} {v u : α} {b : β}
theorem const (v : α) : Ev (fun _ => some v) v := ⟨0, fun _ _ => rfl⟩
theorem bind {f : Nat → Option α} {g : Nat → α → Option β} (h : Ev f v) (h' : Ev (fun k => g k v) b) : Ev (fun k => (f k).bind (g k)) b := by
  obtain ⟨K, h⟩ := h
  obtain ⟨K', h'⟩ := h'
  exact ⟨max K K', fun k hk => by show (f k).bind (g k) = some b; rw [h k (by omega)]; exact h' k (by omega)⟩
theorem step {f : Nat → Option α} (h : Ev (fun k => f (k + 1)) v) : Ev f v := by
  obtain ⟨K, h⟩ := h
  exact ⟨K + 1, fun k hk => by cases k with | zero => omega | succ k => exact h k (by omega)⟩
theorem cast {f : Nat → Option α} (h : Ev f v) (e : v = u) : Ev f u := e ▸ h
end Ev
theorem wrap_succ {i : Int} (h0 : 0 ≤ i) (h : i ≤ 1000000000) : wrap64 (i + 1) = i + 1 := wrap_id (by omega) (by omega)
def charB (c : Int) : Bool := decide (97 ≤ c ∧ c ≤ 122) || decide (48 ≤ c ∧ c ≤ 57) || decide (c = 45)
def nameFrom (x : ByteArray) : Nat → Int → Bool
  | 0, _ => true
  | m + 1, i => charB (bt x i) && nameFrom x m (i + 1)
def nameOk (x : ByteArray) : Bool := decide (1 ≤ x.size) && decide (x.size ≤ 16) && decide (97 ≤ bt x 0) && decide (bt x 0 ≤ 122) && nameFrom x x.size 0
theorem bname_l0 (x : ByteArray) (hx : x.size ≤ 16) : ∀ (m : Nat) (i : Int), 0 ≤ i → i + m = x.size → Ev (fun k => batch_name.l0 k x x.size i) (nameFrom x m i)
  | 0, i, h0, hi => by
    apply Ev.step
    simp only [batch_name.l0, if_neg (show ¬ i < (x.size : Int) by omega)]
    exact Ev.const _
  | m + 1, i, h0, hi => by
    have ih := bname_l0 x hx m (i + 1) (by omega) (by omega)
    apply Ev.step
    simp only [batch_name.l0, if_pos (show i < (x.size : Int) by omega), if_pos h0, wrap_succ h0 (show i ≤ 1000000000 by omega)]
    by_cases h1 : bt x i ≥ 97 <;> by_cases h2 : bt x i ≤ 122 <;> by_cases h3 : bt x i ≥ 48 <;> by_cases h4 : bt x i ≤ 57 <;> by_cases h5 : bt x i = 45 <;> first
      | omega
      | (simp only [h1, h2, h3, h4, h5, if_true, if_false, ite_true, ite_false]
         first
           | exact ih.cast (by have hc : charB (bt x i) = true := (by simp only [charB, Bool.or_eq_true, decide_eq_true_eq]; omega); simp [nameFrom, hc])
           | exact (Ev.const false).cast (by have hc : charB (bt x i) = false := (by simp only [charB, Bool.or_eq_false_iff, decide_eq_false_iff_not]; omega); simp [nameFrom, hc]))
theorem bname (x : ByteArray) : Ev (fun k => batch_name.f k x) (nameOk x) := by
  unfold batch_name.f
  have hj : ∀ b : Bool, (b = false → x.size ≤ 16) → Ev (fun k => batch_name.j0 k x b) (!b && nameFrom x x.size 0) := by
    intro b hb
    apply Ev.step
    cases b with
    | true => simp only [batch_name.j0, if_true]; exact Ev.const _
    | false => simp only [batch_name.j0, Bool.false_eq_true, if_false]; exact (bname_l0 x (hb rfl) x.size 0 (by omega) (by omega)).cast (by simp)
  by_cases h1 : (x.size : Int) < 1
  · simp only [if_pos h1]; exact (hj true (by simp)).cast (by simp [nameOk]; omega)
  · simp only [if_neg h1]
    by_cases h2 : (x.size : Int) > 16
    · simp only [if_pos h2]; exact (hj true (by simp)).cast (by simp [nameOk]; omega)
    · simp only [if_neg h2, if_pos (show 0 < (x.size : Int) by omega)]
      by_cases h3 : bt x 0 < 97
      · simp only [if_pos h3]; exact (hj true (by simp)).cast (by simp [nameOk]; omega)
      · simp only [if_neg h3]
        refine (hj _ (fun _ => by omega)).cast ?_
        by_cases h4 : bt x 0 > 122
        · simp [nameOk, h4]; try omega
        · have : 97 ≤ bt x 0 := by omega
          have : bt x 0 ≤ 122 := by omega
          have : x.size ≤ 16 := by omega
          have : 1 ≤ x.size := by omega
          simp [nameOk, *]
end Go.Proofs.Ytkjkokgbhepmoaa.PB

namespace Go.Proofs.Ytkjkokgbhepmoaa.PB
open Go.RowKit Go.Proofs.YtkjkokgbhepmoaaW.PrintWords Go.Proofs.YtkjkokgbhepmoaaW.PrintLast Go.Proofs.YtkjkokgbhepmoaaW.PrintMore
attribute [local go_sem] max2_int min2_int max_two min_two max_three min_three max_four min_four
end Go.Proofs.Ytkjkokgbhepmoaa.PB

namespace Go.Proofs.Ytkjkokgbhepmoaa.PB
open Go.RowKit Go.Proofs.YtkjkokgbhepmoaaW.PrintWords Go.Proofs.YtkjkokgbhepmoaaW.PrintLast Go.Proofs.YtkjkokgbhepmoaaW.PrintMore
attribute [local go_sem] max2_int min2_int max_two min_two max_three min_three max_four min_four
end Go.Proofs.Ytkjkokgbhepmoaa.PB

namespace Go.Proofs.Ytkjkokgbhepmoaa.PB
open Go.RowKit Go.Proofs.YtkjkokgbhepmoaaW.PrintWords Go.Proofs.YtkjkokgbhepmoaaW.PrintLast Go.Proofs.YtkjkokgbhepmoaaW.PrintMore
theorem bidx_l0 (l : List ByteArray) (x : ByteArray) (hl : l.length ≤ 1000) : ∀ (m : Nat) (i : Nat), i + m = l.length → ∃ r : Int, Ev (fun k => slices_Index_string_string.l0 k l x (l.length : Int) (i : Int)) r ∧ (decide (r ≥ 0) = (l.drop i).any fun y => y.toList == x.toList)
  | 0, i, hi => by
    refine ⟨-1, ?_, by rw [List.drop_eq_nil_of_le (by omega)]; rfl⟩
    apply Ev.step
    simp only [slices_Index_string_string.l0, if_neg (show ¬ (i : Int) < (l.length : Int) by omega)]
    exact Ev.const _
  | m + 1, i, hi => by
    obtain ⟨r, ih, hr'⟩ := bidx_l0 l x hl m (i + 1) (by omega)
    have hlt : i < l.length := by omega
    have hr : rdOf ByteArray.empty l (i : Int) = l[i] := by simp [rdOf, hlt]
    by_cases h : x.toList = l[i].toList
    · refine ⟨i, ?_, ?_⟩
      · apply Ev.step
        simp only [slices_Index_string_string.l0, if_pos (show (i : Int) < (l.length : Int) by omega), if_pos (show 0 ≤ (i : Int) by omega), hr, if_pos h]
        exact Ev.const _
      · rw [List.drop_eq_getElem_cons hlt, List.any_cons, h, beq_self_eq_true, Bool.true_or]; simp
    · refine ⟨r, ?_, ?_⟩
      · apply Ev.step
        simp only [slices_Index_string_string.l0, if_pos (show (i : Int) < (l.length : Int) by omega), if_pos (show 0 ≤ (i : Int) by omega), hr, if_neg h, wrap_succ (show 0 ≤ (i : Int) by omega) (show (i : Int) ≤ 1000000000 by omega)]
        exact ih
      · rw [List.drop_eq_getElem_cons hlt, hr']
        have h' : ¬ l[i].toList = x.toList := fun e => h e.symm
        rw [List.any_cons, beq_eq_false_iff_ne.mpr h', Bool.false_or]
theorem bcontains (l : List ByteArray) (x : ByteArray) (hl : l.length ≤ 1000) : Ev (fun k => slices_Contains_string_string.f k l x) (l.any fun y => y.toList == x.toList) := by
  unfold slices_Contains_string_string.f slices_Index_string_string.f
  obtain ⟨r, h, e⟩ := bidx_l0 l x hl l.length 0 (by omega)
  refine Ev.bind h ?_
  exact (Ev.const _).cast (by rw [e]; simp)
end Go.Proofs.Ytkjkokgbhepmoaa.PB

namespace Go.Proofs.Ytkjkokgbhepmoaa.PB
open Go.RowKit Go.Proofs.YtkjkokgbhepmoaaW.PrintWords Go.Proofs.YtkjkokgbhepmoaaW.PrintLast Go.Proofs.YtkjkokgbhepmoaaW.PrintMore
attribute [local go_sem] max2_int min2_int max_two min_two max_three min_three max_four min_four
end Go.Proofs.Ytkjkokgbhepmoaa.PB

namespace Go.Proofs.Ytkjkokgbhepmoaa.PB
open Go.RowKit Go.Proofs.YtkjkokgbhepmoaaW.PrintWords Go.Proofs.YtkjkokgbhepmoaaW.PrintLast Go.Proofs.YtkjkokgbhepmoaaW.PrintMore
attribute [local go_sem] max2_int min2_int max_two min_two max_three min_three max_four min_four
end Go.Proofs.Ytkjkokgbhepmoaa.PB

namespace Go.Proofs.Ytkjkokgbhepmoaa.PB
open Go.RowKit Go.Proofs.YtkjkokgbhepmoaaW.PrintWords Go.Proofs.YtkjkokgbhepmoaaW.PrintLast Go.Proofs.YtkjkokgbhepmoaaW.PrintMore
attribute [local go_sem] max2_int min2_int max_two min_two max_three min_three max_four min_four
end Go.Proofs.Ytkjkokgbhepmoaa.PB

namespace Go.Proofs.Ytkjkokgbhepmoaa.PB
open Go.RowKit Go.Proofs.YtkjkokgbhepmoaaW.PrintWords Go.Proofs.YtkjkokgbhepmoaaW.PrintLast Go.Proofs.YtkjkokgbhepmoaaW.PrintMore
attribute [local go_sem] max2_int min2_int max_two min_two max_three min_three max_four min_four
end Go.Proofs.Ytkjkokgbhepmoaa.PB

namespace Go.Proofs.Ytkjkokgbhepmoaa.PB
open Go.RowKit Go.Proofs.YtkjkokgbhepmoaaW.PrintWords Go.Proofs.YtkjkokgbhepmoaaW.PrintLast Go.Proofs.YtkjkokgbhepmoaaW.PrintMore
def oxE (o : List ByteArray) : Nat → Nat → Int
  | 0, _ => 0
  | m + 1, i => if nameOk (rdOf ByteArray.empty o (i : Int)) = true then (if ((o.take i).any fun y => y.toList == (rdOf ByteArray.empty o (i : Int)).toList) = true then 6 else oxE o m (i + 1)) else 5
theorem i_pos (i : Nat) : 0 ≤ (i : Int) := by omega
section
variable (o : List ByteArray) (mt : List S63) (s : List S27) (p : List S65) (a4 a5 a6 : Int)
theorem box_l0 (ho : o.length ≤ 12) : ∀ (m i : Nat), i + m = o.length → Ev (fun k => batch_checkOxides.l0 k o (o.length : Int) (i : Int) o mt s p a4 a5 a6) (oxE o m i)
  | 0, i, hi => by
    apply Ev.step
    simp only [batch_checkOxides.l0, if_neg (show ¬ (i : Int) < (o.length : Int) by omega)]
    exact Ev.const _
  | m + 1, i, hi => by
    have ih := box_l0 ho m (i + 1) (by omega)
    apply Ev.step
    simp only [batch_checkOxides.l0, if_pos (show (i : Int) < (o.length : Int) by omega), if_pos (i_pos i), if_pos (show (i : Int) ≤ (o.length : Int) by omega), wrap_succ (i_pos i) (show (i : Int) ≤ 1000000000 by omega), Int.toNat_natCast]
    refine Ev.bind (bname _) ?_
    unfold oxE
    by_cases h : nameOk (rdOf ByteArray.empty o (i : Int)) = true
    · simp only [if_pos h]
      refine Ev.bind (bcontains _ _ (by simp; omega)) ?_
      by_cases h' : ((o.take i).any fun y => y.toList == (rdOf ByteArray.empty o (i : Int)).toList) = true
      · simp only [if_pos h']; exact Ev.const _
      · simp only [if_neg h']; exact ih
    · simp only [if_neg h]; exact Ev.const _
theorem box_f : Ev (fun k => batch_checkOxides.f k o mt s p a4 a5 a6) (if o.length > 12 then 3 else if o.length = 0 then 1 else oxE o o.length 0) := by
  unfold batch_checkOxides.f
  by_cases h : o.length > 12
  · simp only [if_pos h, if_pos (show (o.length : Int) > 12 by omega)]; exact Ev.const _
  · by_cases h' : o.length = 0
    · simp only [if_neg h, if_neg (show ¬ (o.length : Int) > 12 by omega), if_pos h', if_pos (show (o.length : Int) = 0 by omega)]; exact Ev.const _
    · simp only [if_neg h, if_neg (show ¬ (o.length : Int) > 12 by omega), if_neg h', if_neg (show ¬ (o.length : Int) = 0 by omega)]
      exact box_l0 o mt s p a4 a5 a6 (by omega) o.length 0 (by omega)
def conE (l : List S27) : Nat → Nat → Int → Int
  | 0, _, acc => if acc > 1000 then 12 else 0
  | m + 1, i, acc => if badSpan (rd_T27 l (i : Int)) = true then 1 else conE l m (i + 1) (acc + (rd_T27 l (i : Int)).f0)
def matC (n : Nat) (x : S63) : Int :=
  if (0 ≤ x.f1 ∧ x.f1 ≤ 10000) ∧ (-1000 ≤ x.f2 ∧ x.f2 ≤ 1000) ∧ (0 ≤ x.f3 ∧ x.f3 ≤ 10000) ∧ (x.f3 ≤ x.f4 ∧ x.f4 ≤ 10000) ∧ (1 ≤ x.f5 ∧ x.f5 ≤ 10000) ∧ x.f6.length = n then conE x.f6 x.f6.length 0 0 else 1
theorem span_bad (x : S27) : batch_span.f x.f0 x.f1 0 1000 = some (!badSpan x) := by
  rw [span_f]; unfold badSpan; simp
theorem bad_false {x : S27} (h : badSpan x = false) : 0 ≤ x.f0 ∧ x.f0 ≤ x.f1 ∧ x.f1 ≤ 1000 := by
  simp [badSpan] at h; omega
theorem bcon_l0 (l : List S27) (hl : l.length ≤ 12) : ∀ (m i : Nat) (acc : Int), i + m = l.length → 0 ≤ acc → acc ≤ 1000 * i → Ev (fun k => batch_checkMaterial.l0 k acc l (l.length : Int) (i : Int)) (conE l m i acc)
  | 0, i, acc, hi, h0, h1 => by
    apply Ev.step
    simp only [batch_checkMaterial.l0, if_neg (show ¬ (i : Int) < (l.length : Int) by omega)]
    unfold conE
    by_cases h : acc > 1000
    · simp only [if_pos h]; exact Ev.const _
    · simp only [if_neg h]; exact Ev.const _
  | m + 1, i, acc, hi, h0, h1 => by
    apply Ev.step
    simp only [batch_checkMaterial.l0, if_pos (show (i : Int) < (l.length : Int) by omega), if_pos (i_pos i), wrap_succ (i_pos i) (show (i : Int) ≤ 1000000000 by omega), span_bad, Option.bind_some]
    unfold conE
    by_cases h : badSpan (rd_T27 l (i : Int)) = true
    · simp only [h, Bool.not_true, Bool.false_eq_true, if_false, if_true]; exact Ev.const _
    · have hb := bad_false (Bool.not_eq_true _ ▸ h)
      have ih := bcon_l0 l hl m (i + 1) (acc + (rd_T27 l (i : Int)).f0) (by omega) (by omega) (by omega)
      simp only [h, Bool.not_false, Bool.false_eq_true, if_true, if_false, wrap_id (x := acc + (rd_T27 l (i : Int)).f0) (by omega) (by omega)]
      exact ih
theorem bmat (ho : o.length ≤ 12) (x : S63) : Ev (fun k => batch_checkMaterial.f k o mt s p a4 a5 a6 x.f0 x.f1 x.f2 x.f3 x.f4 x.f5 x.f6) (matC o.length x) := by
  have hj1 : Ev (fun k => batch_checkMaterial.j0 k true x.f0 x.f1 x.f2 x.f3 x.f4 x.f5 x.f6) 1 := by
    apply Ev.step; simp only [batch_checkMaterial.j0, if_true]; exact Ev.const _
  have hj0 : x.f6.length = o.length → Ev (fun k => batch_checkMaterial.j0 k false x.f0 x.f1 x.f2 x.f3 x.f4 x.f5 x.f6) (conE x.f6 x.f6.length 0 0) := by
    intro hh
    apply Ev.step; simp only [batch_checkMaterial.j0, Bool.false_eq_true, if_false]
    exact bcon_l0 x.f6 (by omega) x.f6.length 0 0 (by omega) (by omega) (by omega)
  unfold batch_checkMaterial.f
  simp only [within_f, Option.bind_some, Bool.and_eq_true, decide_eq_true_eq]
  unfold matC
  by_cases h1 : 0 ≤ x.f1 ∧ x.f1 ≤ 10000
  · by_cases h2 : -1000 ≤ x.f2 ∧ x.f2 ≤ 1000
    · by_cases h3 : 0 ≤ x.f3 ∧ x.f3 ≤ 10000
      · by_cases h4 : x.f3 ≤ x.f4 ∧ x.f4 ≤ 10000
        · by_cases h5 : 1 ≤ x.f5 ∧ x.f5 ≤ 10000
          · by_cases h6 : x.f6.length = o.length
            · simp only [if_pos h1, if_pos h2, if_pos h3, if_pos h4, if_pos h5, h1, h2, h3, h4, h5, h6, and_self, if_true, bne_self_eq_false]
              exact (hj0 h6).cast (by rw [h6])
            · have hb : ((x.f6.length : Int) != (o.length : Int)) = true := by simp; omega
              simp only [if_pos h1, if_pos h2, if_pos h3, if_pos h4, if_pos h5, hb]
              exact hj1.cast (by rw [if_neg (fun hh => h6 hh.2.2.2.2.2)])
          · simp only [if_pos h1, if_pos h2, if_pos h3, if_pos h4, if_neg h5]
            exact hj1.cast (by rw [if_neg (fun hh => h5 hh.2.2.2.2.1)])
        · simp only [if_pos h1, if_pos h2, if_pos h3, if_neg h4]
          exact hj1.cast (by rw [if_neg (fun hh => h4 hh.2.2.2.1)])
      · simp only [if_pos h1, if_pos h2, if_neg h3]
        exact hj1.cast (by rw [if_neg (fun hh => h3 hh.2.2.1)])
    · simp only [if_pos h1, if_neg h2]
      exact hj1.cast (by rw [if_neg (fun hh => h2 hh.2.1)])
  · simp only [if_neg h1]
    exact hj1.cast (by rw [if_neg (fun hh => h1 hh.1)])
end
end Go.Proofs.Ytkjkokgbhepmoaa.PB

namespace Go.Proofs.Ytkjkokgbhepmoaa.PB
open Go.RowKit Go.Proofs.YtkjkokgbhepmoaaW.PrintWords Go.Proofs.YtkjkokgbhepmoaaW.PrintLast Go.Proofs.YtkjkokgbhepmoaaW.PrintMore
def proC (n : Nat) (x : S65) : Int := if x.f1.length = n then (if x.f1.any (outside (-10000) 10000) = true then 1 else if -10000 ≤ x.f2.f0 ∧ x.f2.f0 ≤ x.f2.f1 ∧ x.f2.f1 ≤ 10000 then 0 else 1) else 1
def proE (p : List S65) (n : Nat) : Nat → Nat → Int
  | 0, _ => 0
  | m + 1, i => if nameOk (rd_T65 p (i : Int)).f0 = true then (if ((p.take i).any fun x => x.f0.toList == (rd_T65 p (i : Int)).f0.toList) = true then 6 else (if proC n (rd_T65 p (i : Int)) = 0 then proE p n m (i + 1) else proC n (rd_T65 p (i : Int)))) else 5
def matE (mt : List S63) (n : Nat) : Nat → Nat → Int
  | 0, _ => 0
  | m + 1, i => if nameOk (rd_T63 mt (i : Int)).f0 = true then (if ((mt.take i).any fun x => x.f0.toList == (rd_T63 mt (i : Int)).f0.toList) = true then 6 else (if matC n (rd_T63 mt (i : Int)) = 0 then matE mt n m (i + 1) else matC n (rd_T63 mt (i : Int)))) else 5
section
variable (o : List ByteArray) (mt : List S63) (s : List S27) (p : List S65) (a4 a5 a6 : Int)
theorem bpro (x : S65) : Ev (fun _ => batch_checkProperty.f o mt s p a4 a5 a6 x.f0 x.f1 x.f2.f0 x.f2.f1) (proC o.length x) := by
  unfold batch_checkProperty.f proC
  by_cases h : x.f1.length = o.length
  · simp only [if_pos h, if_pos (show (x.f1.length : Int) = (o.length : Int) by omega), x_coefs.f, Option.bind_some, span_f, Bool.and_eq_true, decide_eq_true_eq]
    by_cases h' : x.f1.any (outside (-10000) 10000) = true
    · simp only [if_pos h']; exact Ev.const _
    · simp only [if_neg h']
      by_cases h2 : -10000 ≤ x.f2.f0 ∧ x.f2.f0 ≤ x.f2.f1 ∧ x.f2.f1 ≤ 10000
      · rw [if_pos (by omega), if_pos h2]; exact Ev.const _
      · rw [if_neg (by omega), if_neg h2]; exact Ev.const _
  · simp only [if_neg h, if_neg (show ¬ (x.f1.length : Int) = (o.length : Int) by omega)]; exact Ev.const _
theorem bmats_l0 (ho : o.length ≤ 12) (hm : mt.length ≤ 12) : ∀ (m i : Nat), i + m = mt.length → Ev (fun k => batch_checkMaterials.l0 k mt (mt.length : Int) (i : Int) o mt s p a4 a5 a6) (matE mt o.length m i)
  | 0, i, hi => by
    apply Ev.step
    simp only [batch_checkMaterials.l0, if_neg (show ¬ (i : Int) < (mt.length : Int) by omega)]
    exact Ev.const _
  | m + 1, i, hi => by
    have ih := bmats_l0 ho hm m (i + 1) (by omega)
    apply Ev.step
    simp only [batch_checkMaterials.l0, if_pos (show (i : Int) < (mt.length : Int) by omega), if_pos (i_pos i), wrap_succ (i_pos i) (show (i : Int) ≤ 1000000000 by omega), x_twiceM.f, Int.toNat_natCast, Option.bind_some]
    refine Ev.bind (bname _) ?_
    unfold matE
    by_cases h : nameOk (rd_T63 mt (i : Int)).f0 = true
    · simp only [if_pos h]
      by_cases h' : ((mt.take i).any fun x => x.f0.toList == (rd_T63 mt (i : Int)).f0.toList) = true
      · simp only [if_pos h']; exact Ev.const _
      · simp only [if_neg h']
        refine Ev.bind (bmat o mt s p a4 a5 a6 ho _) ?_
        by_cases h2 : matC o.length (rd_T63 mt (i : Int)) = 0
        · simp only [if_pos h2]; exact ih
        · simp only [if_neg h2]; exact Ev.const _
    · simp only [if_neg h]; exact Ev.const _
theorem bmats (ho : o.length ≤ 12) : Ev (fun k => batch_checkMaterials.f k o mt s p a4 a5 a6) (if mt.length > 12 then 3 else if mt.length = 0 then 1 else matE mt o.length mt.length 0) := by
  unfold batch_checkMaterials.f
  by_cases h : mt.length > 12
  · simp only [if_pos h, if_pos (show (mt.length : Int) > 12 by omega)]; exact Ev.const _
  · by_cases h' : mt.length = 0
    · simp only [if_neg h, if_neg (show ¬ (mt.length : Int) > 12 by omega), if_pos h', if_pos (show (mt.length : Int) = 0 by omega)]; exact Ev.const _
    · simp only [if_neg h, if_neg (show ¬ (mt.length : Int) > 12 by omega), if_neg h', if_neg (show ¬ (mt.length : Int) = 0 by omega)]
      exact bmats_l0 o mt s p a4 a5 a6 ho (by omega) mt.length 0 (by omega)
theorem bpros_l0 (hp : p.length ≤ 6) (R : Int) (hR : Ev (fun _ => (batch_span.f a4 a5 (-10000) 10000).bind fun t147 => (if t147 = true then ((batch_within.f a6 1 10000).bind fun t148 => (if t148 = true then (some 0) else (some 1))) else (some 1))) R) :
    ∀ (m i : Nat), i + m = p.length → Ev (fun k => batch_Check.l0 k p (p.length : Int) (i : Int) o mt s p a4 a5 a6) (if proE p o.length m i = 0 then R else proE p o.length m i)
  | 0, i, hi => by
    apply Ev.step
    simp only [batch_Check.l0, if_neg (show ¬ (i : Int) < (p.length : Int) by omega)]
    exact hR.cast (by simp [proE])
  | m + 1, i, hi => by
    have ih := bpros_l0 hp R hR m (i + 1) (by omega)
    apply Ev.step
    simp only [batch_Check.l0, if_pos (show (i : Int) < (p.length : Int) by omega), if_pos (i_pos i), wrap_succ (i_pos i) (show (i : Int) ≤ 1000000000 by omega), x_twiceP.f, Int.toNat_natCast, Option.bind_some]
    refine Ev.bind (bname _) ?_
    unfold proE
    by_cases h : nameOk (rd_T65 p (i : Int)).f0 = true
    · simp only [if_pos h]
      by_cases h' : ((p.take i).any fun x => x.f0.toList == (rd_T65 p (i : Int)).f0.toList) = true
      · simp only [if_pos h']; exact (Ev.const _).cast (by simp)
      · simp only [if_neg h']
        refine Ev.bind (bpro o mt s p a4 a5 a6 _) ?_
        by_cases h2 : proC o.length (rd_T65 p (i : Int)) = 0
        · simp only [if_pos h2]; exact ih
        · simp only [if_neg h2]; exact Ev.const _
    · simp only [if_neg h]; exact (Ev.const _).cast (by simp)
end
end Go.Proofs.Ytkjkokgbhepmoaa.PB

namespace Go.Proofs.Ytkjkokgbhepmoaa.PB
open Go.RowKit Go.Proofs.YtkjkokgbhepmoaaW.PrintWords Go.Proofs.YtkjkokgbhepmoaaW.PrintLast Go.Proofs.YtkjkokgbhepmoaaW.PrintMore
section
variable (o : List ByteArray) (mt : List S63) (s : List S27) (p : List S65) (a4 a5 a6 : Int)
def endV : Int := if -10000 ≤ a4 ∧ a4 ≤ a5 ∧ a5 ≤ 10000 then (if 1 ≤ a6 ∧ a6 ≤ 10000 then 0 else 1) else 1
def proV : Int := if p.length > 6 then 3 else if proE p o.length p.length 0 = 0 then endV a4 a5 a6 else proE p o.length p.length 0
def shaV : Int := if s.length = o.length then (if s.any badSpan = true then 1 else proV o p a4 a5 a6) else 1
def matV : Int := if mt.length > 12 then 3 else if mt.length = 0 then 1 else if matE mt o.length mt.length 0 = 0 then shaV o s p a4 a5 a6 else matE mt o.length mt.length 0
def checkV : Int := if o.length > 12 then 3 else if o.length = 0 then 1 else if oxE o o.length 0 = 0 then matV o mt s p a4 a5 a6 else oxE o o.length 0
theorem bend : Ev (fun _ => (batch_span.f a4 a5 (-10000) 10000).bind fun t147 => (if t147 = true then ((batch_within.f a6 1 10000).bind fun t148 => (if t148 = true then (some 0) else (some 1))) else (some 1))) (endV a4 a5 a6) := by
  simp only [span_f, within_f, Option.bind_some, Bool.and_eq_true, decide_eq_true_eq]
  unfold endV
  by_cases h2 : -10000 ≤ a4 ∧ a4 ≤ a5 ∧ a5 ≤ 10000
  · have h2' : (-10000 ≤ a4 ∧ a4 ≤ a5) ∧ a5 ≤ 10000 := by omega
    simp only [if_pos h2', if_pos h2]
    by_cases h3 : 1 ≤ a6 ∧ a6 ≤ 10000
    · simp only [if_pos h3]; exact Ev.const _
    · simp only [if_neg h3]; exact Ev.const _
  · have h2' : ¬ ((-10000 ≤ a4 ∧ a4 ≤ a5) ∧ a5 ≤ 10000) := by omega
    simp only [if_neg h2', if_neg h2]; exact Ev.const _
theorem bj0 (b : Bool) : Ev (fun k => batch_Check.j0 k b o mt s p a4 a5 a6) (if b = true then 1 else proV o p a4 a5 a6) := by
  apply Ev.step
  simp only [batch_Check.j0]
  cases b with
  | true => simp only [if_true]; exact Ev.const _
  | false =>
    simp only [Bool.false_eq_true, if_false]
    unfold proV
    by_cases h : p.length > 6
    · simp only [if_pos h, if_pos (show (p.length : Int) > 6 by omega)]; exact Ev.const _
    · simp only [if_neg h, if_neg (show ¬ (p.length : Int) > 6 by omega)]
      exact bpros_l0 o mt s p a4 a5 a6 (by omega) _ (bend a4 a5 a6) p.length 0 (by omega)
theorem bcheck : Ev (fun k => batch_Check.f k o mt s p a4 a5 a6) (checkV o mt s p a4 a5 a6) := by
  unfold batch_Check.f
  refine Ev.bind (box_f o mt s p a4 a5 a6) ?_
  unfold checkV
  by_cases h : o.length > 12
  · simp only [if_pos h]; exact Ev.const _
  · by_cases h' : o.length = 0
    · simp only [if_neg h, if_pos h']; exact Ev.const _
    · simp only [if_neg h, if_neg h']
      by_cases h2 : oxE o o.length 0 = 0
      · simp only [if_pos h2]
        refine Ev.bind (bmats o mt s p a4 a5 a6 (by omega)) ?_
        unfold matV
        by_cases h3 : mt.length > 12
        · simp only [if_pos h3]; exact Ev.const _
        · by_cases h4 : mt.length = 0
          · simp only [if_neg h3, if_pos h4]; exact Ev.const _
          · simp only [if_neg h3, if_neg h4]
            by_cases h5 : matE mt o.length mt.length 0 = 0
            · simp only [if_pos h5]
              unfold shaV
              by_cases h6 : s.length = o.length
              · simp only [if_pos h6, if_pos (show (s.length : Int) = (o.length : Int) by omega), x_spans.f, Option.bind_some]
                exact bj0 o mt s p a4 a5 a6 _
              · simp only [if_neg h6, if_neg (show ¬ (s.length : Int) = (o.length : Int) by omega)]
                exact (bj0 o mt s p a4 a5 a6 true).cast (by simp)
            · simp only [if_neg h5]; exact Ev.const _
      · simp only [if_neg h2]; exact Ev.const _
end
theorem conE_ok (l : List S27) : ∀ (m i : Nat) (acc : Int), i + m = l.length → conE l m i acc = 0 → ∀ j : Nat, i ≤ j → j < l.length → badSpan (rd_T27 l (j : Int)) = false
  | 0, i, acc, hi, h, j, h1, h2 => by omega
  | m + 1, i, acc, hi, h, j, h1, h2 => by
    unfold conE at h
    by_cases hb : badSpan (rd_T27 l (i : Int)) = true
    · rw [if_pos hb] at h; omega
    · rw [if_neg hb] at h
      by_cases hj : j = i
      · subst hj; simpa using hb
      · exact conE_ok l m (i + 1) _ (by omega) h j (by omega) h2
structure MatOk (n : Nat) (x : S63) : Prop where
  price : 0 ≤ x.f1 ∧ x.f1 ≤ 10000
  redox : -1000 ≤ x.f2 ∧ x.f2 ≤ 1000
  least : 0 ≤ x.f3 ∧ x.f3 ≤ 10000
  most : x.f3 ≤ x.f4 ∧ x.f4 ≤ 10000
  step : 1 ≤ x.f5 ∧ x.f5 ≤ 10000
  len : x.f6.length = n
  con : ∀ j : Nat, j < n → 0 ≤ (rd_T27 x.f6 (j : Int)).f0 ∧ (rd_T27 x.f6 (j : Int)).f0 ≤ (rd_T27 x.f6 (j : Int)).f1 ∧ (rd_T27 x.f6 (j : Int)).f1 ≤ 1000
theorem matC_ok {n : Nat} {x : S63} (h : matC n x = 0) : MatOk n x := by
  unfold matC at h
  by_cases hc : (0 ≤ x.f1 ∧ x.f1 ≤ 10000) ∧ (-1000 ≤ x.f2 ∧ x.f2 ≤ 1000) ∧ (0 ≤ x.f3 ∧ x.f3 ≤ 10000) ∧ (x.f3 ≤ x.f4 ∧ x.f4 ≤ 10000) ∧ (1 ≤ x.f5 ∧ x.f5 ≤ 10000) ∧ x.f6.length = n
  · rw [if_pos hc] at h
    obtain ⟨h1, h2, h3, h4, h5, h6⟩ := hc
    exact ⟨h1, h2, h3, h4, h5, h6, fun j hj => bad_false (conE_ok x.f6 _ 0 0 (by omega) h j (by omega) (by omega))⟩
  · rw [if_neg hc] at h; omega
theorem matE_ok (mt : List S63) (n : Nat) : ∀ (m i : Nat), matE mt n m i = 0 → ∀ j : Nat, i ≤ j → j < i + m → MatOk n (rd_T63 mt (j : Int))
  | 0, i, h, j, h1, h2 => by omega
  | m + 1, i, h, j, h1, h2 => by
    unfold matE at h
    by_cases ha : nameOk (rd_T63 mt (i : Int)).f0 = true
    · rw [if_pos ha] at h
      by_cases hb : ((mt.take i).any fun x => x.f0.toList == (rd_T63 mt (i : Int)).f0.toList) = true
      · rw [if_pos hb] at h; omega
      · rw [if_neg hb] at h
        by_cases hc : matC n (rd_T63 mt (i : Int)) = 0
        · rw [if_pos hc] at h
          by_cases hj : j = i
          · subst hj; exact matC_ok hc
          · exact matE_ok mt n m (i + 1) h j (by omega) (by omega)
        · rw [if_neg hc] at h; exact absurd h hc
    · rw [if_neg ha] at h; omega
structure ProOk (n : Nat) (x : S65) : Prop where
  len : x.f1.length = n
  coef : ∀ j : Nat, j < n → -10000 ≤ rd x.f1 (j : Int) ∧ rd x.f1 (j : Int) ≤ 10000
  target : -10000 ≤ x.f2.f0 ∧ x.f2.f0 ≤ x.f2.f1 ∧ x.f2.f1 ≤ 10000
theorem proC_ok {n : Nat} {x : S65} (h : proC n x = 0) : ProOk n x := by
  unfold proC at h
  by_cases h1 : x.f1.length = n
  · rw [if_pos h1] at h
    by_cases h2 : x.f1.any (outside (-10000) 10000) = true
    · rw [if_pos h2] at h; omega
    · rw [if_neg h2] at h
      by_cases h3 : -10000 ≤ x.f2.f0 ∧ x.f2.f0 ≤ x.f2.f1 ∧ x.f2.f1 ≤ 10000
      · refine ⟨h1, fun j hj => ?_, h3⟩
        have hm : rd x.f1 (j : Int) ∈ x.f1 := by
          have hlt : j < x.f1.length := by omega
          have : rd x.f1 (j : Int) = x.f1[j] := by simp [rd, hlt]
          rw [this]; exact List.getElem_mem hlt
        have hn : outside (-10000) 10000 (rd x.f1 (j : Int)) = false := by
          cases ho : outside (-10000) 10000 (rd x.f1 (j : Int)) with
          | false => rfl
          | true => exact absurd (List.any_eq_true.mpr ⟨_, hm, ho⟩) h2
        simp [outside] at hn; omega
      · rw [if_neg h3] at h; omega
  · rw [if_neg h1] at h; omega
theorem proE_ok (p : List S65) (n : Nat) : ∀ (m i : Nat), proE p n m i = 0 → ∀ j : Nat, i ≤ j → j < i + m → ProOk n (rd_T65 p (j : Int))
  | 0, i, h, j, h1, h2 => by omega
  | m + 1, i, h, j, h1, h2 => by
    unfold proE at h
    by_cases ha : nameOk (rd_T65 p (i : Int)).f0 = true
    · rw [if_pos ha] at h
      by_cases hb : ((p.take i).any fun x => x.f0.toList == (rd_T65 p (i : Int)).f0.toList) = true
      · rw [if_pos hb] at h; omega
      · rw [if_neg hb] at h
        by_cases hc : proC n (rd_T65 p (i : Int)) = 0
        · rw [if_pos hc] at h
          by_cases hj : j = i
          · subst hj; exact proC_ok hc
          · exact proE_ok p n m (i + 1) h j (by omega) (by omega)
        · rw [if_neg hc] at h; exact absurd h hc
    · rw [if_neg ha] at h; omega
structure BatchOk (o : List ByteArray) (mt : List S63) (s : List S27) (p : List S65) (a4 a5 a6 : Int) : Prop where
  o12 : o.length ≤ 12
  o1 : o.length ≠ 0
  m12 : mt.length ≤ 12
  m1 : mt.length ≠ 0
  mats : ∀ j : Nat, j < mt.length → MatOk o.length (rd_T63 mt (j : Int))
  slen : s.length = o.length
  shares : ∀ j : Nat, j < s.length → 0 ≤ (rd_T27 s (j : Int)).f0 ∧ (rd_T27 s (j : Int)).f0 ≤ (rd_T27 s (j : Int)).f1 ∧ (rd_T27 s (j : Int)).f1 ≤ 1000
  p6 : p.length ≤ 6
  pros : ∀ j : Nat, j < p.length → ProOk o.length (rd_T65 p (j : Int))
  redox : -10000 ≤ a4 ∧ a4 ≤ a5 ∧ a5 ≤ 10000
  wanted : 1 ≤ a6 ∧ a6 ≤ 10000
theorem check_ok {o : List ByteArray} {mt : List S63} {s : List S27} {p : List S65} {a4 a5 a6 : Int} (h : checkV o mt s p a4 a5 a6 = 0) : BatchOk o mt s p a4 a5 a6 := by
  unfold checkV at h
  by_cases h1 : o.length > 12
  · rw [if_pos h1] at h; omega
  rw [if_neg h1] at h
  by_cases h2 : o.length = 0
  · rw [if_pos h2] at h; omega
  rw [if_neg h2] at h
  by_cases h3 : oxE o o.length 0 = 0
  rotate_left
  · rw [if_neg h3] at h; exact absurd h h3
  rw [if_pos h3] at h
  unfold matV at h
  by_cases h4 : mt.length > 12
  · rw [if_pos h4] at h; omega
  rw [if_neg h4] at h
  by_cases h5 : mt.length = 0
  · rw [if_pos h5] at h; omega
  rw [if_neg h5] at h
  by_cases h6 : matE mt o.length mt.length 0 = 0
  rotate_left
  · rw [if_neg h6] at h; exact absurd h h6
  rw [if_pos h6] at h
  unfold shaV at h
  by_cases h7 : s.length = o.length
  rotate_left
  · rw [if_neg h7] at h; omega
  rw [if_pos h7] at h
  by_cases h8 : s.any badSpan = true
  · rw [if_pos h8] at h; omega
  rw [if_neg h8] at h
  unfold proV at h
  by_cases h9 : p.length > 6
  · rw [if_pos h9] at h; omega
  rw [if_neg h9] at h
  by_cases h10 : proE p o.length p.length 0 = 0
  rotate_left
  · rw [if_neg h10] at h; exact absurd h h10
  rw [if_pos h10] at h
  unfold endV at h
  by_cases h11 : -10000 ≤ a4 ∧ a4 ≤ a5 ∧ a5 ≤ 10000
  rotate_left
  · rw [if_neg h11] at h; omega
  rw [if_pos h11] at h
  by_cases h12 : 1 ≤ a6 ∧ a6 ≤ 10000
  rotate_left
  · rw [if_neg h12] at h; omega
  refine ⟨by omega, h2, by omega, h5, fun j hj => matE_ok mt _ _ 0 h6 j (by omega) (by omega), h7, fun j hj => ?_, by omega, fun j hj => proE_ok p _ _ 0 h10 j (by omega) (by omega), h11, h12⟩
  have hlt : j < s.length := hj
  have hr : rd_T27 s (j : Int) = s[j] := by simp [rd_T27, hlt]
  rw [hr]
  apply bad_false
  cases hb : badSpan s[j] with
  | false => rfl
  | true => exact absurd (List.any_eq_true.mpr ⟨_, List.getElem_mem hlt, hb⟩) h8
end Go.Proofs.Ytkjkokgbhepmoaa.PB

namespace Go.Proofs.Ytkjkokgbhepmoaa.PB
open Go.RowKit Go.Proofs.YtkjkokgbhepmoaaW.PrintWords Go.Proofs.YtkjkokgbhepmoaaW.PrintLast Go.Proofs.YtkjkokgbhepmoaaW.PrintMore
attribute [local go_sem] max2_int min2_int max_two min_two max_three min_three max_four min_four
end Go.Proofs.Ytkjkokgbhepmoaa.PB

namespace Go.Proofs.Ytkjkokgbhepmoaa.PB
open Go.RowKit Go.Proofs.YtkjkokgbhepmoaaW.PrintWords Go.Proofs.YtkjkokgbhepmoaaW.PrintLast Go.Proofs.YtkjkokgbhepmoaaW.PrintMore
attribute [local go_sem] max2_int min2_int max_two min_two max_three min_three max_four min_four
end Go.Proofs.Ytkjkokgbhepmoaa.PB

namespace Go.Proofs.Ytkjkokgbhepmoaa.PB
open Go.RowKit Go.Proofs.YtkjkokgbhepmoaaW.PrintWords Go.Proofs.YtkjkokgbhepmoaaW.PrintLast Go.Proofs.YtkjkokgbhepmoaaW.PrintMore
attribute [local go_sem] max2_int min2_int max_two min_two max_three min_three max_four min_four
end Go.Proofs.Ytkjkokgbhepmoaa.PB

namespace Go.Proofs.Ytkjkokgbhepmoaa.PB
open Go.RowKit Go.Proofs.YtkjkokgbhepmoaaW.PrintWords Go.Proofs.YtkjkokgbhepmoaaW.PrintLast Go.Proofs.YtkjkokgbhepmoaaW.PrintMore
def recV (mt : List S63) (r : List Int) : Int := if r.length = mt.length then (if r.any (outside 0 10000) = true then 1 else 0) else 1
section
variable (o : List ByteArray) (mt : List S63) (s : List S27) (p : List S65) (a4 a5 a6 : Int) (r : List Int)
def askV : Int := if checkV o mt s p a4 a5 a6 = 0 then recV mt r else checkV o mt s p a4 a5 a6
theorem basked : Ev (fun k => batch_asked.f k o mt s p a4 a5 a6 r) (askV o mt s p a4 a5 a6 r) := by
  unfold batch_asked.f askV
  refine Ev.bind (bcheck o mt s p a4 a5 a6) ?_
  by_cases h : checkV o mt s p a4 a5 a6 = 0
  · simp only [if_pos h, batch_checkRecipe.f, x_kilos.f, Option.bind_some]
    unfold recV
    by_cases h1 : r.length = mt.length
    · simp only [if_pos h1, if_pos (show (r.length : Int) = (mt.length : Int) by omega)]
      by_cases h2 : r.any (outside 0 10000) = true
      · simp only [if_pos h2, Option.bind_some]; exact Ev.const _
      · simp only [if_neg h2, Option.bind_some]; exact Ev.const _
    · simp only [if_neg h1, if_neg (show ¬ (r.length : Int) = (mt.length : Int) by omega), Option.bind_some]; exact Ev.const _
  · simp only [if_neg h]; exact Ev.const _
end
structure RecOk (mt : List S63) (r : List Int) : Prop where
  len : r.length = mt.length
  kilos : ∀ j : Nat, j < mt.length → 0 ≤ rd r (j : Int) ∧ rd r (j : Int) ≤ 10000
theorem ask_ok {o : List ByteArray} {mt : List S63} {s : List S27} {p : List S65} {a4 a5 a6 : Int} {r : List Int} (h : askV o mt s p a4 a5 a6 r = 0) : BatchOk o mt s p a4 a5 a6 ∧ RecOk mt r := by
  unfold askV at h
  by_cases h1 : checkV o mt s p a4 a5 a6 = 0
  · rw [if_pos h1] at h
    refine ⟨check_ok h1, ?_⟩
    unfold recV at h
    by_cases h2 : r.length = mt.length
    · rw [if_pos h2] at h
      by_cases h3 : r.any (outside 0 10000) = true
      · rw [if_pos h3] at h; omega
      · refine ⟨h2, fun j hj => ?_⟩
        have hm : rd r (j : Int) ∈ r := by
          have hlt : j < r.length := by omega
          have : rd r (j : Int) = r[j] := by simp [rd, hlt]
          rw [this]; exact List.getElem_mem hlt
        have hn : outside 0 10000 (rd r (j : Int)) = false := by
          cases ho : outside 0 10000 (rd r (j : Int)) with
          | false => rfl
          | true => exact absurd (List.any_eq_true.mpr ⟨_, hm, ho⟩) h3
        simp [outside] at hn; omega
    · rw [if_neg h2] at h; omega
  · rw [if_neg h1] at h; exact absurd h h1
def gS (F : S27 → Int) (mt : List S63) (r : List Int) (j : Nat) : Nat → Int
  | 0 => 0
  | n + 1 => gS F mt r j n + rd r (n : Int) * F (rd_T27 (rd_T63 mt (n : Int)).f6 (j : Int))
def stL (n : Nat) (mt : List S63) (r : List Int) (i jj : Nat) : List S27 := (List.range n).map fun j => if j < jj then ⟨gS S27.f0 mt r j (i + 1), gS S27.f1 mt r j (i + 1)⟩ else ⟨gS S27.f0 mt r j i, gS S27.f1 mt r j i⟩
theorem stL_len (n : Nat) (mt : List S63) (r : List Int) (i jj : Nat) : (stL n mt r i jj).length = n := by simp [stL]
theorem stL_get (n : Nat) (mt : List S63) (r : List Int) (i jj j : Nat) (h : j < n) : rd_T27 (stL n mt r i jj) (j : Int) = if j < jj then ⟨gS S27.f0 mt r j (i + 1), gS S27.f1 mt r j (i + 1)⟩ else ⟨gS S27.f0 mt r j i, gS S27.f1 mt r j i⟩ := by
  simp [rd_T27, stL, List.getD, h]
theorem stL_zero (n : Nat) (mt : List S63) (r : List Int) : List.replicate n z27 = stL n mt r 0 0 := by
  apply List.ext_getElem
  · simp [stL]
  · intro i h1 h2; simp [stL, gS, z27]
theorem stL_next (n : Nat) (mt : List S63) (r : List Int) (i : Nat) : stL n mt r i n = stL n mt r (i + 1) 0 := by
  apply List.ext_getElem
  · simp [stL]
  · intro j h1 h2
    have hj : j < n := by simpa [stL] using h1
    simp [stL, hj]
theorem stL_set (n : Nat) (mt : List S63) (r : List Int) (i jj : Nat) (h : jj < n) (x : S27) : ((stL n mt r i jj).set jj x).set jj ⟨gS S27.f0 mt r jj (i + 1), gS S27.f1 mt r jj (i + 1)⟩ = stL n mt r i (jj + 1) := by
  rw [List.set_set]
  apply List.ext_getElem
  · simp [stL]
  · intro j h1 h2
    have hj : j < n := by simpa [stL] using h1
    rw [List.getElem_set]
    by_cases hc : jj = j
    · subst hc; simp [stL]
    · have : j < jj ↔ j < jj + 1 := by omega
      simp [stL, hc, this]
theorem rd_T27_set (l : List S27) (j : Nat) (x : S27) (h : j < l.length) : rd_T27 (l.set j x) (j : Int) = x := by simp [rd_T27, List.getD, h]
theorem mul_bound {a b : Int} (h0 : 0 ≤ a) (h1 : a ≤ 10000) (h2 : 0 ≤ b) (h3 : b ≤ 1000) : 0 ≤ a * b ∧ a * b ≤ 10000000 := by
  have e1 := Int.mul_nonneg h0 h2
  have e2 := Int.mul_le_mul_of_nonneg_right h1 h2
  omega
theorem gS_bound {F : S27 → Int} {mt : List S63} {r : List Int} {n j : Nat} (hr : RecOk mt r) (hF : ∀ i : Nat, i < mt.length → 0 ≤ F (rd_T27 (rd_T63 mt (i : Int)).f6 (j : Int)) ∧ F (rd_T27 (rd_T63 mt (i : Int)).f6 (j : Int)) ≤ 1000) :
    ∀ n, n ≤ mt.length → 0 ≤ gS F mt r j n ∧ gS F mt r j n ≤ 10000000 * n := by
  intro n
  induction n with
  | zero => intro _; simp [gS]
  | succ n ih =>
    intro hn
    have h1 := ih (by omega)
    have h2 := hr.kilos n (by omega)
    have h3 := hF n (by omega)
    have h4 := mul_bound h2.1 h2.2 h3.1 h3.2
    simp only [gS]
    omega
section
variable {o : List ByteArray} {mt : List S63} {s : List S27} {p : List S65} {a4 a5 a6 : Int} {r : List Int}
theorem gram_new {F : S27 → Int} (hb : mt.length ≤ 12) (hr : RecOk mt r) {j : Nat} (hF : ∀ i : Nat, i < mt.length → 0 ≤ F (rd_T27 (rd_T63 mt (i : Int)).f6 (j : Int)) ∧ F (rd_T27 (rd_T63 mt (i : Int)).f6 (j : Int)) ≤ 1000) (i : Nat) (hi : i < mt.length) :
    wrap64 (gS F mt r j i + wrap64 (rd r (i : Int) * F (rd_T27 (rd_T63 mt (i : Int)).f6 (j : Int)))) = gS F mt r j (i + 1) := by
  have h1 := gS_bound (n := 0) hr hF i (by omega)
  have h2 := hr.kilos i hi
  have h3 := hF i hi
  have h4 := mul_bound h2.1 h2.2 h3.1 h3.2
  rw [wrap_id (x := rd r (i : Int) * F (rd_T27 (rd_T63 mt (i : Int)).f6 (j : Int))) (by omega) (by omega), wrap_id (by omega) (by omega)]
  rfl
theorem con0 (H : BatchOk o mt s p a4 a5 a6) {j : Nat} (hj : j < o.length) : ∀ i : Nat, i < mt.length → 0 ≤ S27.f0 (rd_T27 (rd_T63 mt (i : Int)).f6 (j : Int)) ∧ S27.f0 (rd_T27 (rd_T63 mt (i : Int)).f6 (j : Int)) ≤ 1000 := by
  intro i hi
  have := (H.mats i hi).con j hj
  omega
theorem con1 (H : BatchOk o mt s p a4 a5 a6) {j : Nat} (hj : j < o.length) : ∀ i : Nat, i < mt.length → 0 ≤ S27.f1 (rd_T27 (rd_T63 mt (i : Int)).f6 (j : Int)) ∧ S27.f1 (rd_T27 (rd_T63 mt (i : Int)).f6 (j : Int)) ≤ 1000 := by
  intro i hi
  have := (H.mats i hi).con j hj
  omega
def gramL (n : Nat) (mt : List S63) (r : List Int) : List S27 := stL n mt r mt.length 0
theorem bgram_l1 (H : BatchOk o mt s p a4 a5 a6) (hr : RecOk mt r) (i : Nat) (hi : i < mt.length) (ih : Ev (fun k => batch_grams.l0 k r (stL o.length mt r (i + 1) 0) mt (mt.length : Int) ((i + 1 : Nat) : Int)) (gramL o.length mt r)) :
    ∀ (m jj : Nat), jj + m = o.length → Ev (fun k => batch_grams.l1 k r (stL o.length mt r i jj) (i : Int) mt (mt.length : Int) (i : Int) (rd_T63 mt (i : Int)).f6 ((rd_T63 mt (i : Int)).f6.length : Int) (jj : Int)) (gramL o.length mt r)
  | 0, jj, hj => by
    have hl := (H.mats i hi).len
    have hm := H.m12
    apply Ev.step
    simp only [batch_grams.l1, if_neg (show ¬ (jj : Int) < ((rd_T63 mt (i : Int)).f6.length : Int) by omega), wrap_succ (i_pos i) (show (i : Int) ≤ 1000000000 by omega)]
    rw [show jj = o.length by omega, stL_next]
    exact ih
  | m + 1, jj, hj => by
    have hl := (H.mats i hi).len
    have hm := H.m12
    have ho := H.o12
    have hrl := hr.len
    have hlt : jj < o.length := by omega
    have ih' := bgram_l1 H hr i hi ih m (jj + 1) (by omega)
    apply Ev.step
    simp only [batch_grams.l1, if_pos (show (jj : Int) < ((rd_T63 mt (i : Int)).f6.length : Int) by omega), if_pos (i_pos jj), stL_len, if_pos (show (jj : Int) < (o.length : Int) by omega), if_pos (i_pos i), if_pos (show (i : Int) < (r.length : Int) by omega), Option.bind_some, Int.toNat_natCast,
      wrap_succ (i_pos jj) (show (jj : Int) ≤ 1000000000 by omega)]
    rw [rd_T27_set _ _ _ (by rw [stL_len]; exact hlt), stL_get _ _ _ _ _ _ hlt, if_neg (Nat.lt_irrefl jj)]
    dsimp only
    rw [gram_new hm hr (con0 H hlt) i hi, gram_new hm hr (con1 H hlt) i hi, stL_set _ _ _ _ _ hlt]
    exact ih'
theorem bgram_l0 (H : BatchOk o mt s p a4 a5 a6) (hr : RecOk mt r) : ∀ (m i : Nat), i + m = mt.length → Ev (fun k => batch_grams.l0 k r (stL o.length mt r i 0) mt (mt.length : Int) (i : Int)) (gramL o.length mt r)
  | 0, i, hi => by
    apply Ev.step
    simp only [batch_grams.l0, if_neg (show ¬ (i : Int) < (mt.length : Int) by omega)]
    rw [show i = mt.length by omega]
    exact Ev.const _
  | m + 1, i, hi => by
    have ih := bgram_l0 H hr m (i + 1) (by omega)
    apply Ev.step
    simp only [batch_grams.l0, if_pos (show (i : Int) < (mt.length : Int) by omega), if_pos (i_pos i)]
    exact bgram_l1 H hr i (by omega) ih o.length 0 (by omega)
theorem bgrams (H : BatchOk o mt s p a4 a5 a6) (hr : RecOk mt r) : Ev (fun k => batch_grams.f k o mt s p a4 a5 a6 r) (gramL o.length mt r) := by
  have ho := H.o12
  unfold batch_grams.f
  simp only [if_pos (i_pos o.length), Int.toNat_natCast, if_pos (show o.length ≤ 17592186044416 by omega)]
  rw [stL_zero o.length mt r]
  exact bgram_l0 H hr mt.length 0 (by omega)
theorem gramL_len (n : Nat) (mt : List S63) (r : List Int) : (gramL n mt r).length = n := stL_len _ _ _ _ _
theorem gramL_get (n : Nat) (mt : List S63) (r : List Int) (j : Nat) (h : j < n) : rd_T27 (gramL n mt r) (j : Int) = ⟨gS S27.f0 mt r j mt.length, gS S27.f1 mt r j mt.length⟩ := by
  unfold gramL; rw [stL_get _ _ _ _ _ _ h, if_neg (Nat.not_lt_zero _)]
theorem gS_le (H : BatchOk o mt s p a4 a5 a6) (hr : RecOk mt r) {j : Nat} (hj : j < o.length) : ∀ n, n ≤ mt.length → gS S27.f0 mt r j n ≤ gS S27.f1 mt r j n := by
  intro n
  induction n with
  | zero => intro _; simp [gS]
  | succ n ih =>
    intro hn
    have h1 := ih (by omega)
    have h2 := hr.kilos n (by omega)
    have h3 := (H.mats n (by omega)).con j hj
    have h4 := Int.mul_le_mul_of_nonneg_left h3.2.1 h2.1
    simp only [gS]
    omega
theorem gram_bounds (H : BatchOk o mt s p a4 a5 a6) (hr : RecOk mt r) {j : Nat} (hj : j < o.length) :
    0 ≤ (rd_T27 (gramL o.length mt r) (j : Int)).f0 ∧ (rd_T27 (gramL o.length mt r) (j : Int)).f0 ≤ (rd_T27 (gramL o.length mt r) (j : Int)).f1 ∧ (rd_T27 (gramL o.length mt r) (j : Int)).f1 ≤ 120000000 := by
  have hm := H.m12
  have h1 := gS_bound (n := 0) hr (con0 H hj) mt.length (Nat.le_refl _)
  have h2 := gS_bound (n := 0) hr (con1 H hj) mt.length (Nat.le_refl _)
  have h3 := gS_le H hr hj mt.length (Nat.le_refl _)
  rw [gramL_get _ _ _ _ hj]
  dsimp only
  omega
end
end Go.Proofs.Ytkjkokgbhepmoaa.PB

namespace Go.Proofs.Ytkjkokgbhepmoaa.PB
open Go.RowKit Go.Proofs.YtkjkokgbhepmoaaW.PrintWords Go.Proofs.YtkjkokgbhepmoaaW.PrintLast Go.Proofs.YtkjkokgbhepmoaaW.PrintMore
attribute [local go_sem] max2_int min2_int max_two min_two max_three min_three max_four min_four
end Go.Proofs.Ytkjkokgbhepmoaa.PB

namespace Go.Proofs.Ytkjkokgbhepmoaa.PB
open Go.RowKit Go.Proofs.YtkjkokgbhepmoaaW.PrintWords Go.Proofs.YtkjkokgbhepmoaaW.PrintLast Go.Proofs.YtkjkokgbhepmoaaW.PrintMore
attribute [local go_sem] max2_int min2_int max_two min_two max_three min_three max_four min_four
end Go.Proofs.Ytkjkokgbhepmoaa.PB

namespace Go.Proofs.Ytkjkokgbhepmoaa.PB
open Go.RowKit Go.Proofs.YtkjkokgbhepmoaaW.PrintWords Go.Proofs.YtkjkokgbhepmoaaW.PrintLast Go.Proofs.YtkjkokgbhepmoaaW.PrintMore
attribute [local go_sem] max2_int min2_int max_two min_two max_three min_three max_four min_four
end Go.Proofs.Ytkjkokgbhepmoaa.PB

namespace Go.Proofs.Ytkjkokgbhepmoaa.PB
open Go.RowKit Go.Proofs.YtkjkokgbhepmoaaW.PrintWords Go.Proofs.YtkjkokgbhepmoaaW.PrintLast Go.Proofs.YtkjkokgbhepmoaaW.PrintMore
attribute [local go_sem] max2_int min2_int max_two min_two max_three min_three max_four min_four
end Go.Proofs.Ytkjkokgbhepmoaa.PB

namespace Go.Proofs.Ytkjkokgbhepmoaa.PB
open Go.RowKit Go.Proofs.YtkjkokgbhepmoaaW.PrintWords Go.Proofs.YtkjkokgbhepmoaaW.PrintLast Go.Proofs.YtkjkokgbhepmoaaW.PrintMore
theorem sumTo_congr {f g : Nat → Int} : ∀ n, (∀ j, j < n → f j = g j) → sumTo f n = sumTo g n := by
  intro n
  induction n with
  | zero => intro _; rfl
  | succ n ih => intro h; simp only [sumTo]; rw [ih fun j hj => h j (by omega), h n (by omega)]
theorem iotaA_at {n j : Nat} (h : j < n) : (iotaA n)[j]! = (j : Int) := by
  rw [getElem!_pos _ j (by rw [iotaA_size]; exact h)]; simp [iotaA]
theorem lsum_sumTo (f : Int → Int) (n : Nat) : MeanMath.lsum f (iotaA n).toList = sumTo (fun j => f (j : Int)) n := by
  have h := sumTo_lsum f (iotaA n) n (by rw [iotaA_size]; exact Nat.le_refl _)
  rw [List.take_of_length_le (by rw [Array.length_toList, iotaA_size]; exact Nat.le_refl _)] at h
  rw [← h]
  exact sumTo_congr n fun j hj => by rw [iotaA_at hj]
structure GOk (l : List S27) : Prop where
  n12 : l.length ≤ 12
  at_ : ∀ j : Nat, j < l.length → 0 ≤ (rd_T27 l (j : Int)).f0 ∧ (rd_T27 l (j : Int)).f0 ≤ (rd_T27 l (j : Int)).f1 ∧ (rd_T27 l (j : Int)).f1 ≤ 120000000
def wS (F : S27 → Int) (l : List S27) (i : Nat) : Int := sumTo (fun j => F (rd_T27 l (j : Int))) i
theorem wS_lsum (l : List S27) : wS S27.f0 l l.length = MeanMath.lsum S27.f0 l := by
  rw [← lsum_iota (fun k => (rd_T27 l k).f0) l (fun _ _ => rfl), lsum_sumTo]
  rfl
theorem wS_bounds {l : List S27} (H : GOk l) : ∀ i, i ≤ l.length → (0 ≤ wS S27.f0 l i ∧ wS S27.f0 l i ≤ 120000000 * i) ∧ (0 ≤ wS S27.f1 l i ∧ wS S27.f1 l i ≤ 120000000 * i) ∧ wS S27.f0 l i ≤ wS S27.f1 l i := by
  intro i
  induction i with
  | zero => intro _; simp [wS, sumTo]
  | succ i ih => intro hi; have h1 := ih (by omega); have h2 := H.at_ i (by omega); simp only [wS, sumTo] at *; omega
theorem bweight_l0 {l : List S27} (H : GOk l) : ∀ (m i : Nat), i + m = l.length → Ev (fun k => batch_weight.l0 k l (l.length : Int) (i : Int) (wS S27.f0 l i) (wS S27.f1 l i)) (wS S27.f0 l l.length, wS S27.f1 l l.length)
  | 0, i, hi => by
    apply Ev.step
    simp only [batch_weight.l0, if_neg (show ¬ (i : Int) < (l.length : Int) by omega)]
    rw [show i = l.length by omega]
    exact Ev.const _
  | m + 1, i, hi => by
    have ih := bweight_l0 H m (i + 1) (by omega)
    have hn := H.n12
    have hb := wS_bounds H i (by omega)
    have hc := H.at_ i (by omega)
    apply Ev.step
    simp only [batch_weight.l0, if_pos (show (i : Int) < (l.length : Int) by omega), if_pos (i_pos i), wrap_succ (i_pos i) (show (i : Int) ≤ 1000000000 by omega)]
    rw [wrap_id (x := wS S27.f0 l i + (rd_T27 l (i : Int)).f0) (by omega) (by omega), wrap_id (x := wS S27.f1 l i + (rd_T27 l (i : Int)).f1) (by omega) (by omega)]
    exact ih
theorem bweight {l : List S27} (H : GOk l) : Ev (fun k => batch_weight.f k l) (wS S27.f0 l l.length, wS S27.f1 l l.length) := bweight_l0 H l.length 0 (by omega)
structure CfOk (cf : Int → Int) (n : Nat) : Prop where
  at_ : ∀ j : Nat, j < n → -10000 ≤ cf (j : Int) ∧ cf (j : Int) ≤ 10000
theorem meanOk_of {cf : Int → Int} {l : List S27} (H : GOk l) (C : CfOk cf l.length) (hp : 0 < wS S27.f0 l l.length) : MeanOk cf l := by
  have key : ∀ k : Int, 0 ≤ k → k < l.length → ∃ j : Nat, j < l.length ∧ k = j := fun k h0 h1 => ⟨k.toNat, by omega, by omega⟩
  refine ⟨H.n12, ?_, ?_, ?_, ?_, ?_, by rw [← wS_lsum]; exact hp⟩ <;> intro k h0 hl <;> obtain ⟨j, hj, rfl⟩ := key k h0 hl <;> have h1 := H.at_ j hj <;> have h2 := C.at_ j hj <;> omega
theorem mulb {c x : Int} (h1 : -30000 ≤ c) (h2 : c ≤ 30000) (h3 : 0 ≤ x) (h4 : x ≤ 120000000) : -3600000000000 ≤ c * x ∧ c * x ≤ 3600000000000 := by
  have e1 := Int.mul_le_mul_of_nonneg_right h1 h3
  have e2 := Int.mul_le_mul_of_nonneg_right h2 h3
  omega
section
variable {cf : Int → Int} {l : List S27} {c : List Int} (H : GOk l) (C : CfOk cf l.length) (hp : 0 < wS S27.f0 l l.length) (hl : l.length ≤ c.length) (hc : ∀ j : Nat, j < l.length → rd c (j : Int) = cf (j : Int))
include H C hp hl hc
end
end Go.Proofs.Ytkjkokgbhepmoaa.PB

namespace Go.Proofs.Ytkjkokgbhepmoaa.PB
open Go.RowKit Go.Proofs.YtkjkokgbhepmoaaW.PrintWords Go.Proofs.YtkjkokgbhepmoaaW.PrintLast Go.Proofs.YtkjkokgbhepmoaaW.PrintMore
structure F105 where
 fn : Nat
 lb : Array Value
 tg : S27
def kfn : Kd (Nat × Array Value) := Kd.scalar (fun x => .func (.func x.1) #[] x.2) (fun _ => rfl)
def k105 : Kd F105 := Kd.iso (Kd.pair kfn k27) (fun x : F105 => ((x.fn, x.lb), x.tg))
set_option maxHeartbeats 1000000 in
theorem forms1_calls (I : Nat) (i : Int) (W : World) (hI : W.heap[I]? = some (.cells #[.int .i64 i] 3 (0, 0))) (x : Int) :
  Calls Try.prog 111 #[.int .i64 x, .pointer (some ⟨I, 0, none⟩)] W fun e w' => e = .returned (.int .i64 (if x = i then 1000 else 0)) ∧ ∃ q, w' = W.drewN q := by
 have h0 : W.cell? ⟨I, 0, none⟩ = some (.int .i64 i) := (blk_cell hI 0).trans rfl
 go_enter Try.func111, Try.ntmps111
 by_cases he : x = i
 ·have heb : (x == i) = true := beq_iff_eq.mpr he
  go_wp2
  go_ret
  exact ⟨by simp [he], 0, rfl⟩
 ·have heb : (x == i) = false := beq_eq_false_iff_ne.mpr he
  go_wp2
  go_ret
  exact ⟨by simp [he], 0, rfl⟩
set_option maxHeartbeats 1000000 in
theorem forms2_calls (P n : Nat) (s : ByteArray) (A1 : Option Addr) (c1 : Nat) (xs : List Int) (lo hi : Int) (W : World) (hP : W.heap[P]? = some (.cells #[.string s, .slice A1 xs.length c1, .int .i64 lo, .int .i64 hi] 65 (0, 0)))
  (hr : Kd.C (Kd.int .i64) W A1 xs.length xs) (x : Int) (hx0 : 0 ≤ x) (hx1 : x < xs.length) :
  Calls Try.prog 112 #[.int .i64 x, .pointer (some ⟨P, 0, none⟩)] W fun e w' => e = .returned (.int .i64 (rd xs x)) ∧ ∃ q, w' = W.drewN q := by
 obtain ⟨ae, rfl, hqx⟩ := Kd.at_int hr x hx0 hx1
 have h1 : W.cell? ⟨P, 0 + 1, none⟩ = some (.slice (some ae) xs.length c1) := (blk_cell hP 1).trans rfl
 go_enter Try.func112, Try.ntmps112
 go_wp2
 go_ret
 exact ⟨rfl, 0, rfl⟩
def FormAt (w W : World) (l2 : List S27) (l3 : List S65) (j : Nat) (f : F105) : Prop :=
 (j < l2.length → ∃ I, f = ⟨111, #[.pointer (some ⟨I, 0, none⟩)], rd_T27 l2 j⟩ ∧ W.heap[I]? = some (.cells #[.int .i64 j] 3 (0, 0))) ∧
 (l2.length ≤ j → ∃ P A1 c1, f = ⟨112, #[.pointer (some ⟨P, 0, none⟩)], (rd_T65 l3 ((j - l2.length : Nat) : Int)).f2⟩ ∧
  W.heap[P]? = some (.cells #[.string (rd_T65 l3 ((j - l2.length : Nat) : Int)).f0, .slice A1 (rd_T65 l3 ((j - l2.length : Nat) : Int)).f1.length c1, .int .i64 (rd_T65 l3 ((j - l2.length : Nat) : Int)).f2.f0, .int .i64 (rd_T65 l3 ((j - l2.length : Nat) : Int)).f2.f1] 65 (0, 0)) ∧
  Kd.C (Kd.int .i64) w A1 (rd_T65 l3 ((j - l2.length : Nat) : Int)).f1.length (rd_T65 l3 ((j - l2.length : Nat) : Int)).f1)
theorem FormAt.below {w W W' : World} {l2 : List S27} {l3 : List S65} {j : Nat} {f : F105} (h : FormAt w W l2 l3 j f) (hb : Below W.heap.size W W') : FormAt w W' l2 l3 j f := by
 refine ⟨fun hj => ?_, fun hj => ?_⟩
 ·obtain ⟨I, e, hI⟩ := h.1 hj
  exact ⟨I, e, blk_below hI hb⟩
 ·obtain ⟨P, A1, c1, e, hP, hC⟩ := h.2 hj
  exact ⟨P, A1, c1, e, blk_below hP hb, hC⟩
theorem FormAt.other {w W W' : World} {l2 : List S27} {l3 : List S65} {j : Nat} {f : F105} {H : Nat} {v : Value} (h : FormAt w W l2 l3 j f) (hH : W.heap[H]? = some (.cells #[v] 101 (0, 0)))
  (ho : ∀ g cs t, W.heap[g]? = some (.cells cs t (0, 0)) → t ≠ 105 → g ≠ H → W'.heap[g]? = some (.cells cs t (0, 0))) : FormAt w W' l2 l3 j f := by
 refine ⟨fun hj => ?_, fun hj => ?_⟩
 ·obtain ⟨I, e, hI⟩ := h.1 hj
  exact ⟨I, e, ho _ _ _ hI (by decide) (by rintro rfl; rw [hH] at hI; simp at hI)⟩
 ·obtain ⟨P, A1, c1, e, hP, hC⟩ := h.2 hj
  exact ⟨P, A1, c1, e, ho _ _ _ hP (by decide) (by rintro rfl; rw [hH] at hP; simp at hP), hC⟩
def coefOf (l2 : List S27) (l3 : List S65) (j : Nat) : Int → Int := if j < l2.length then (fun k => if k = j then 1000 else 0) else rd (rd_T65 l3 ((j - l2.length : Nat) : Int)).f1
theorem FormAt.coef {w W : World} {l2 : List S27} {l3 : List S65} {j : Nat} {f : F105} (h : FormAt w W l2 l3 j f) (hb : Below w.heap.size w W) (N : Int) (hN : l2.length ≤ j → N ≤ (rd_T65 l3 ((j - l2.length : Nat) : Int)).f1.length) :
  CoefQ f.fn f.lb (coefOf l2 l3 j) N W := by
 intro W' hb' x hx0 hx1
 unfold coefOf
 by_cases hj : j < l2.length
 ·obtain ⟨I, rfl, hI⟩ := h.1 hj
  rw [if_pos hj]
  exact forms1_calls I j W' (blk_below hI hb') x
 ·obtain ⟨P, A1, c1, rfl, hP, hC⟩ := h.2 (by omega)
  rw [if_neg hj]
  exact forms2_calls P 0 _ A1 c1 _ _ _ W' (blk_below hP hb') (Kd.C_below (Kd.C_below hC hb) hb') x hx0 (by have := hN (by omega); omega)
structure FormsW (wp w W : World) (cs : Array Value) (l2 : List S27) (l3 : List S65) (k : Nat) : Prop where
 below : Below w.heap.size w W
 batch : W.heap[w.heap.size]? = some (.cells cs 29 (0, 0))
 list : ∃ A c, ∃ xs : List F105, W.heap[w.heap.size + 1]? = some (.cells #[.slice A xs.length c] 101 (0, 0)) ∧ Kd.R k105 105 W w.heap.size (fun _ => True) (.slice A xs.length c) xs ∧ xs.length = k ∧ ∀ j (hj : j < xs.length), FormAt wp W l2 l3 j xs[j]
theorem FormsW.step {wp w wr W2 w3 : World} {cs : Array Value} {l2 : List S27} {l3 : List S65} {k : Nat} {A : Option Addr} {c : Nat} {xs : List F105} {x : F105} (h : FormsW wp w wr cs l2 l3 k)
  (hO : wr.heap[w.heap.size + 1]? = some (.cells #[.slice A xs.length c] 101 (0, 0))) (hxl : xs.length = k) (hF : ∀ j (hj : j < xs.length), FormAt wp wr l2 l3 j xs[j]) (hb2 : Below wr.heap.size wr W2)
  (hb3 : Below w.heap.size w w3) {v1 : Value} (hv1 : w3.heap[w.heap.size + 1]? = some (.cells #[v1] 101 (0, 0))) (hr1 : Kd.R k105 105 w3 w.heap.size (fun _ => True) v1 (xs ++ [x]))
  (hoth : ∀ g cs t, W2.heap[g]? = some (.cells cs t (0, 0)) → t ≠ 105 → g ≠ w.heap.size + 1 → w3.heap[g]? = some (.cells cs t (0, 0))) (hx : FormAt wp W2 l2 l3 k x) : FormsW wp w w3 cs l2 l3 (k + 1) := by
 obtain ⟨A1, c1, rfl⟩ := Kd.R_slice hr1
 have hO2 := blk_below hO hb2
 refine ⟨hb3, hoth _ _ _ (blk_below h.batch hb2) (by decide) (by omega), A1, c1, xs ++ [x], hv1, hr1, by simp [hxl], fun j hj => ?_⟩
 by_cases hjx : j < xs.length
 ·rw [List.getElem_append_left hjx]
  exact ((hF j hjx).below hb2).other hO2 hoth
 ·have hjk : j = k := by simp at hj; omega
  subst hjk
  rw [List.getElem_append_right (by omega)]
  simp only [hxl, Nat.sub_self, List.getElem_cons_zero]
  exact hx.other hO2 hoth
end Go.Proofs.Ytkjkokgbhepmoaa.PB

namespace Go.Proofs.Ytkjkokgbhepmoaa.PB
open Go.RowKit Go.Proofs.YtkjkokgbhepmoaaW.PrintWords Go.Proofs.YtkjkokgbhepmoaaW.PrintLast Go.Proofs.YtkjkokgbhepmoaaW.PrintMore
attribute [local go_sem] max2_int min2_int max_two min_two max_three min_three max_four min_four
end Go.Proofs.Ytkjkokgbhepmoaa.PB

namespace Go.Proofs.Ytkjkokgbhepmoaa.PB
open Go.RowKit Go.Proofs.YtkjkokgbhepmoaaW.PrintWords Go.Proofs.YtkjkokgbhepmoaaW.PrintLast Go.Proofs.YtkjkokgbhepmoaaW.PrintMore
attribute [local go_sem] max2_int min2_int max_two min_two max_three min_three max_four min_four
end Go.Proofs.Ytkjkokgbhepmoaa.PB

namespace Go.Proofs.Ytkjkokgbhepmoaa.PB
open Go.RowKit Go.Proofs.YtkjkokgbhepmoaaW.PrintWords Go.Proofs.YtkjkokgbhepmoaaW.PrintLast Go.Proofs.YtkjkokgbhepmoaaW.PrintMore
attribute [local go_sem] max2_int min2_int max_two min_two max_three min_three max_four min_four
end Go.Proofs.Ytkjkokgbhepmoaa.PB

namespace Go.Proofs.Ytkjkokgbhepmoaa.PB
open Go.RowKit Go.Proofs.YtkjkokgbhepmoaaW.PrintWords Go.Proofs.YtkjkokgbhepmoaaW.PrintLast Go.Proofs.YtkjkokgbhepmoaaW.PrintMore
attribute [local go_sem] max2_int min2_int max_two min_two max_three min_three max_four min_four
end Go.Proofs.Ytkjkokgbhepmoaa.PB

namespace Go.Proofs.Ytkjkokgbhepmoaa.PB
open Go.RowKit Go.Proofs.YtkjkokgbhepmoaaW.PrintWords Go.Proofs.YtkjkokgbhepmoaaW.PrintLast Go.Proofs.YtkjkokgbhepmoaaW.PrintMore
attribute [local go_sem] max2_int min2_int max_two min_two max_three min_three max_four min_four
end Go.Proofs.Ytkjkokgbhepmoaa.PB

namespace Go.Proofs.Ytkjkokgbhepmoaa.PB
open Go.RowKit Go.Proofs.YtkjkokgbhepmoaaW.PrintWords Go.Proofs.YtkjkokgbhepmoaaW.PrintLast Go.Proofs.YtkjkokgbhepmoaaW.PrintMore
attribute [local go_sem] max2_int min2_int max_two min_two max_three min_three max_four min_four
end Go.Proofs.Ytkjkokgbhepmoaa.PB

namespace Go.Proofs.Ytkjkokgbhepmoaa.PB
open Go.RowKit Go.Proofs.YtkjkokgbhepmoaaW.PrintWords Go.Proofs.YtkjkokgbhepmoaaW.PrintLast Go.Proofs.YtkjkokgbhepmoaaW.PrintMore
attribute [local go_sem] max2_int min2_int max_two min_two max_three min_three max_four min_four
end Go.Proofs.Ytkjkokgbhepmoaa.PB

namespace Go.Proofs.Ytkjkokgbhepmoaa.PB
open Go.RowKit Go.Proofs.YtkjkokgbhepmoaaW.PrintWords Go.Proofs.YtkjkokgbhepmoaaW.PrintLast Go.Proofs.YtkjkokgbhepmoaaW.PrintMore
theorem Ev.of_mono {α : Type} {f : Nat → Option α} {v : α} (hm : ∀ k, LeO (f k) (f (k + 1))) {K : Nat} (h : f K = some v) : Ev f v := by
  refine ⟨K, fun k hk => ?_⟩
  obtain ⟨d, rfl⟩ : ∃ d, k = K + d := ⟨k - K, by omega⟩
  induction d with
  | zero => exact h
  | succ d ih => exact hm (K + d) v (ih (by omega))
section
variable (o : List ByteArray) (mt : List S63) (s : List S27) (p : List S65) (a4 a5 a6 : Int) (r : List Int)
def gramsV : List S27 × Int := if askV o mt s p a4 a5 a6 r = 0 then (gramL o.length mt r, 0) else ([], askV o mt s p a4 a5 a6 r)
theorem bGrams : Ev (fun k => batch_Grams.f k o mt s p a4 a5 a6 r) (gramsV o mt s p a4 a5 a6 r) := by
  unfold batch_Grams.f gramsV
  refine Ev.bind (basked o mt s p a4 a5 a6 r) ?_
  by_cases h : askV o mt s p a4 a5 a6 r = 0
  · simp only [if_pos h]
    obtain ⟨H, hr⟩ := ask_ok h
    exact Ev.bind (bgrams H hr) (Ev.const _)
  · simp only [if_neg h]; exact Ev.const _
end
section
variable {o : List ByteArray} {mt : List S63} {s : List S27} {p : List S65} {a4 a5 a6 : Int} {r : List Int}
theorem gramL_ok (H : BatchOk o mt s p a4 a5 a6) (hr : RecOk mt r) : GOk (gramL o.length mt r) :=
  ⟨by rw [gramL_len]; exact H.o12, fun j hj => by rw [gramL_len] at hj; exact gram_bounds H hr hj⟩
def lowW (n : Nat) (mt : List S63) (r : List Int) : Int := wS S27.f0 (gramL n mt r) (gramL n mt r).length
def weighV (n : Nat) (mt : List S63) (r : List Int) : List S27 × Int := if lowW n mt r = 0 then ([], 8) else (gramL n mt r, 0)
theorem lowW_pos (H : BatchOk o mt s p a4 a5 a6) (hr : RecOk mt r) (h : ¬ lowW o.length mt r = 0) : 0 < wS S27.f0 (gramL o.length mt r) (gramL o.length mt r).length := by
  have := wS_bounds (gramL_ok H hr) (gramL o.length mt r).length (Nat.le_refl _)
  unfold lowW at h
  omega
end
section
variable (o : List ByteArray) (mt : List S63) (s : List S27) (p : List S65) (a4 a5 a6 : Int) (r : List Int)
def glassV : List S27 × Int := if askV o mt s p a4 a5 a6 r = 0 then weighV o.length mt r else ([], askV o mt s p a4 a5 a6 r)
theorem bglass : Ev (fun k => x_glass.f k o mt s p a4 a5 a6 r) (glassV o mt s p a4 a5 a6 r) := by
  unfold x_glass.f glassV
  refine Ev.bind (bGrams o mt s p a4 a5 a6 r) ?_
  unfold gramsV
  by_cases h : askV o mt s p a4 a5 a6 r = 0
  · obtain ⟨H, hr⟩ := ask_ok h
    simp only [if_pos h, if_true]
    refine Ev.bind (bweight (gramL_ok H hr)) ?_
    unfold weighV
    by_cases h2 : lowW o.length mt r = 0
    · simp only [if_pos h2, if_pos (show wS S27.f0 (gramL o.length mt r) (gramL o.length mt r).length = 0 from h2)]; exact Ev.const _
    · simp only [if_neg h2, if_neg (show ¬ wS S27.f0 (gramL o.length mt r) (gramL o.length mt r).length = 0 from h2)]; exact Ev.const _
  · simp only [if_neg h]; exact Ev.const _
end
section
variable {o : List ByteArray} {mt : List S63} {s : List S27} {p : List S65} {a4 a5 a6 : Int} {r : List Int}
end
section
variable (o : List ByteArray) (mt : List S63) (s : List S27) (p : List S65) (a4 a5 a6 : Int) (r : List Int)
def ValV (n : Int) : Int × Int × Int := if askV o mt s p a4 a5 a6 r = 0 then (if 0 ≤ n ∧ n < (p.length : Int) then (if lowW o.length mt r = 0 then (0, 0, 8) else (meanLo (rd (rd_T65 p n).f1) (gramL o.length mt r), meanHi (rd (rd_T65 p n).f1) (gramL o.length mt r), 0)) else (0, 0, 7)) else (0, 0, askV o mt s p a4 a5 a6 r)
theorem pro_cf {o : List ByteArray} {mt : List S63} {s : List S27} {p : List S65} {a4 a5 a6 : Int} (H : BatchOk o mt s p a4 a5 a6) {n : Int} (hn : 0 ≤ n ∧ n < (p.length : Int)) : CfOk (rd (rd_T65 p n).f1) o.length ∧ (rd_T65 p n).f1.length = o.length := by
  obtain ⟨j, hj, rfl⟩ : ∃ j : Nat, j < p.length ∧ n = j := ⟨n.toNat, by omega, by omega⟩
  have h := H.pros j hj
  exact ⟨⟨h.coef⟩, h.len⟩
theorem bValue (n : Int) : Ev (fun k => x_Value.f k o mt s p a4 a5 a6 r n) (ValV o mt s p a4 a5 a6 r n) := by
  unfold x_Value.f ValV
  refine Ev.bind (basked o mt s p a4 a5 a6 r) ?_
  by_cases h : askV o mt s p a4 a5 a6 r = 0
  · obtain ⟨H, hr⟩ := ask_ok h
    have hp := H.p6
    simp only [if_pos h, within_f, Option.bind_some, Bool.and_eq_true, decide_eq_true_eq]
    rw [wrap_id (x := (p.length : Int) - 1) (by omega) (by omega)]
    by_cases h1 : 0 ≤ n ∧ n < (p.length : Int)
    · obtain ⟨C, hl⟩ := pro_cf H h1
      simp only [if_pos h1, if_pos (show 0 ≤ n ∧ n ≤ (p.length : Int) - 1 by omega)]
      refine Ev.bind (bglass o mt s p a4 a5 a6 r) ?_
      unfold glassV
      rw [if_pos h]
      unfold weighV
      by_cases h2 : lowW o.length mt r = 0
      · simp only [if_pos h2, if_neg (show ¬ (8 : Int) = 0 by decide)]; exact Ev.const _
      · simp only [if_neg h2, if_true]
        have hg := gramL_len o.length mt r
        rw [if_pos ⟨h1.1, h1.2, by omega, meanOkB_iff.2 (meanOk_of (gramL_ok H hr) (by rw [hg]; exact C) (lowW_pos H hr h2))⟩]
        exact Ev.const _
    · simp only [if_neg h1, if_neg (show ¬ (0 ≤ n ∧ n ≤ (p.length : Int) - 1) by omega)]
      exact Ev.const _
  · simp only [if_neg h]; exact Ev.const _
end
end Go.Proofs.Ytkjkokgbhepmoaa.PB

namespace Go.Proofs.Ytkjkokgbhepmoaa.PB
open Go.RowKit Go.Proofs.YtkjkokgbhepmoaaW.PrintWords Go.Proofs.YtkjkokgbhepmoaaW.PrintLast Go.Proofs.YtkjkokgbhepmoaaW.PrintMore
theorem mean_le {cf : Int → Int} {l : List S27} (H : MeanOk cf l) : meanLo cf l ≤ meanHi cf l := by
  have h1 := (meanLo_iff H _).2 (Int.le_refl _)
  have h2 := (meanHi_iff H _).2 (Int.le_refl _)
  unfold belowS MeanMath.below at h1
  unfold aboveS MeanMath.below at h2
  generalize meanLo cf l = L at *
  generalize meanHi cf l = M at *
  have a1 := MeanMath.lsum_le (l := (iotaA l.length).toList) (f := fun a => (L - cf a) * loF l a) (g := fun a => max ((L - cf a) * loF l a) ((L - cf a) * hiF l a)) (fun x _ => Int.le_max_left _ _)
  have a2 := MeanMath.lsum_le (l := (iotaA l.length).toList) (f := fun a => (-M - -cf a) * loF l a) (g := fun a => max ((-M - -cf a) * loF l a) ((-M - -cf a) * hiF l a)) (fun x _ => Int.le_max_left _ _)
  have s := MeanMath.lsum_add (fun a => (L - cf a) * loF l a) (fun a => (-M - -cf a) * loF l a) (iotaA l.length).toList
  have e := MeanMath.lsum_congr (l := (iotaA l.length).toList) (f := fun a => (L - cf a) * loF l a + (-M - -cf a) * loF l a) (g := fun a => (L - M) * loF l a) (fun a _ => by
    show (L - cf a) * loF l a + (-M - -cf a) * loF l a = (L - M) * loF l a
    rw [← Int.add_mul]; congr 1; omega)
  rw [e, MeanMath.lsum_mul, lsum_iota (loF l) l (fun _ _ => rfl)] at s
  have hp := H.pos
  have h3 := Int.le_trans a2 h2
  apply Int.not_lt.1
  intro hlt
  have : 0 < (L - M) * MeanMath.lsum S27.f0 l := Int.mul_pos (by omega) hp
  omega
structure LehrOk (kn : List S84) : Prop where
  n2 : 2 ≤ kn.length
  n24 : kn.length ≤ 24
  min : ∀ i : Nat, i < kn.length → 0 ≤ (rd_T84 kn (i : Int)).f0 ∧ (rd_T84 kn (i : Int)).f0 ≤ 2000
  temp : ∀ i : Nat, i < kn.length → 0 ≤ (rd_T84 kn (i : Int)).f1 ∧ (rd_T84 kn (i : Int)).f1 ≤ 10000
  up : ∀ i : Nat, i + 1 < kn.length → (rd_T84 kn (i : Int)).f0 < (rd_T84 kn ((i + 1 : Nat) : Int)).f0
theorem kneesOk_at (kn : List S84) : ∀ (m i : Nat), kneesOk kn m i = true → ∀ j, i ≤ j → j < i + m → kneeA kn j = true ∧ kneeB kn j = true
  | 0, i, h, j, h1, h2 => by omega
  | m + 1, i, h, j, h1, h2 => by
    simp only [kneesOk, Bool.and_eq_true] at h
    by_cases e : j = i
    · subst e; exact h.1
    · exact kneesOk_at kn m (i + 1) h.2 j (by omega) (by omega)
theorem lehr_facts {kn : List S84} {fac : Int} (h : lehrV kn fac = 0) : LehrOk kn ∧ 0 ≤ fac ∧ fac ≤ 10000 := by
  unfold lehrV at h
  split at h
  · cases h
  · split at h
    · cases h
    · split at h
      · rename_i h1 h2 h3
        split at h
        · rename_i h4
          have hk := kneesOk_at kn kn.length 0 h3
          simp only [inB, Bool.and_eq_true, decide_eq_true_eq] at h4
          refine ⟨⟨by omega, by omega, fun i hi => ?_, fun i hi => ?_, fun i hi => ?_⟩, h4⟩
          · have := (hk i (by omega) (by omega)).1
            simp only [kneeA, inB, Bool.and_eq_true, decide_eq_true_eq] at this
            exact this.1
          · have := (hk i (by omega) (by omega)).1
            simp only [kneeA, inB, Bool.and_eq_true, decide_eq_true_eq] at this
            exact this.2
          · have := (hk (i + 1) (by omega) (by omega)).2
            simp only [kneeB, if_neg (show ¬ i + 1 = 0 by omega), decide_eq_true_eq] at this
            simpa using this
        · cases h
      · cases h
theorem cast_pred {i : Nat} (h : 1 ≤ i) : (i : Int) - 1 = ((i - 1 : Nat) : Int) := by omega
def pieceT (a b : S84) (t : Int) : Int :=
  if mn a.f1 b.f1 ≥ t then b.f0 - a.f0 else if mx a.f1 b.f1 > t then ((b.f0 - a.f0) * (mx a.f1 b.f1 - t)) / (mx a.f1 b.f1 - mn a.f1 b.f1) else 0
def kneeN (kn : List S84) (i : Nat) : S84 := rd_T84 kn (i : Int)
def heldS (kn : List S84) (t : Int) : Nat → Nat → Int
  | 0, _ => 0
  | m + 1, i => pieceT (kneeN kn (i - 1)) (kneeN kn i) t + heldS kn t m (i + 1)
structure PieceOk (a b : S84) : Prop where
  d1 : 1 ≤ b.f0 - a.f0
  d2 : b.f0 - a.f0 ≤ 2000
  a1 : 0 ≤ a.f1 ∧ a.f1 ≤ 10000
  b1 : 0 ≤ b.f1 ∧ b.f1 ≤ 10000
theorem LehrOk.piece {kn : List S84} (H : LehrOk kn) {i : Nat} (h1 : 1 ≤ i) (h2 : i < kn.length) : PieceOk (kneeN kn (i - 1)) (kneeN kn i) := by
  have a := H.min (i - 1) (by omega)
  have b := H.min i h2
  have u := H.up (i - 1) (by omega)
  rw [show i - 1 + 1 = i by omega] at u
  exact ⟨by show 1 ≤ (rd_T84 kn (i : Int)).f0 - (rd_T84 kn ((i - 1 : Nat) : Int)).f0; omega, by show (rd_T84 kn (i : Int)).f0 - (rd_T84 kn ((i - 1 : Nat) : Int)).f0 ≤ 2000; omega, H.temp (i - 1) (by omega), H.temp i h2⟩
theorem mn_le (a b : Int) : mn a b ≤ a ∧ mn a b ≤ b ∧ (mn a b = a ∨ mn a b = b) := by unfold mn; split <;> omega
theorem le_mx (a b : Int) : a ≤ mx a b ∧ b ≤ mx a b ∧ (mx a b = a ∨ mx a b = b) := by unfold mx; split <;> omega
theorem pieceT_bounds {a b : S84} (H : PieceOk a b) (t : Int) : 0 ≤ pieceT a b t ∧ pieceT a b t ≤ b.f0 - a.f0 := by
  have d1 := H.d1
  have hm := mn_le a.f1 b.f1
  have hx := le_mx a.f1 b.f1
  unfold pieceT
  split
  · omega
  · split
    · rename_i h1 h2
      constructor
      · exact Int.ediv_nonneg (Int.mul_nonneg (by omega) (by omega)) (by omega)
      · apply Int.le_of_mul_le_mul_right (a := mx a.f1 b.f1 - mn a.f1 b.f1) _ (by omega)
        refine Int.le_trans (Int.ediv_mul_le _ (by omega)) ?_
        exact Int.mul_le_mul_of_nonneg_left (by omega) (by omega)
    · omega
theorem heldS_bounds {kn : List S84} (H : LehrOk kn) (t : Int) : ∀ (m i : Nat), i + m = kn.length → 1 ≤ i → 0 ≤ heldS kn t m i ∧ heldS kn t m i ≤ 2000 * m
  | 0, i, h, h1 => by simp [heldS]
  | m + 1, i, h, h1 => by
    have ih := heldS_bounds H t m (i + 1) (by omega) (by omega)
    have hp := H.piece h1 (by omega)
    have hb := pieceT_bounds hp t
    have := hp.d2
    simp only [heldS]
    omega
theorem wsmall {x : Int} (h1 : -1000000000000000000 ≤ x) (h2 : x ≤ 1000000000000000000) : wrap64 x = x := wrap_id (by omega) (by omega)
theorem held_l0 {kn : List S84} (H : LehrOk kn) (fac : Int) {t : Int} (ht : 0 ≤ t ∧ t ≤ 10000) : ∀ (m i : Nat) (acc : Int), i + m = kn.length → 1 ≤ i → 0 ≤ acc → acc ≤ 2000 * i → Ev (fun k => strength_held.l0 k t acc (i : Int) kn fac) (acc + heldS kn t m i)
  | 0, i, acc, h, h1, ha, hb => by
    apply Ev.step
    simp only [strength_held.l0, if_neg (show ¬ (i : Int) < (kn.length : Int) by omega)]
    exact (Ev.const _).cast (by simp [heldS])
  | m + 1, i, acc, h, h1, ha, hb => by
    have hp := H.piece h1 (by omega)
    have hpb := pieceT_bounds hp t
    have n24 := H.n24
    have ih := held_l0 H fac ht m (i + 1) (acc + pieceT (kneeN kn (i - 1)) (kneeN kn i) t) (by omega) (by omega) (by omega) (by have := hp.d2; omega)
    have hm := mn_le (kneeN kn (i - 1)).f1 (kneeN kn i).f1
    have hx := le_mx (kneeN kn (i - 1)).f1 (kneeN kn i).f1
    obtain ⟨d1, d2, a1, b1⟩ := hp
    apply Ev.step
    simp only [strength_held.l0, if_pos (show (i : Int) < (kn.length : Int) by omega), wsmall (show -1000000000000000000 ≤ (i : Int) - 1 by omega) (show (i : Int) - 1 ≤ 1000000000000000000 by omega), if_pos (show 0 ≤ (i : Int) - 1 by omega), if_pos (show (i : Int) - 1 < (kn.length : Int) by omega), if_pos (show 0 ≤ (i : Int) by omega), wrap_succ (i_pos i) (show (i : Int) ≤ 1000000000 by omega)]
    simp only [cast_pred h1]
    change Ev (fun k => if mn (kneeN kn (i - 1)).f1 (kneeN kn i).f1 ≥ t then strength_held.l0 k t (wrap64 (acc + wrap64 ((kneeN kn i).f0 - (kneeN kn (i - 1)).f0))) ((i : Int) + 1) kn fac else if mx (kneeN kn (i - 1)).f1 (kneeN kn i).f1 > t then (if wrap64 (mx (kneeN kn (i - 1)).f1 (kneeN kn i).f1 - mn (kneeN kn (i - 1)).f1 (kneeN kn i).f1) = 0 then none else strength_held.l0 k t (wrap64 (acc + wrap64 (Int.tdiv (wrap64 (wrap64 ((kneeN kn i).f0 - (kneeN kn (i - 1)).f0) * wrap64 (mx (kneeN kn (i - 1)).f1 (kneeN kn i).f1 - t))) (wrap64 (mx (kneeN kn (i - 1)).f1 (kneeN kn i).f1 - mn (kneeN kn (i - 1)).f1 (kneeN kn i).f1))))) ((i : Int) + 1) kn fac) else strength_held.l0 k t acc ((i : Int) + 1) kn fac) _
    have e2 : ((i + 1 : Nat) : Int) = (i : Int) + 1 := by omega
    rw [e2] at ih
    have hsum : acc + heldS kn t (m + 1) i = acc + pieceT (kneeN kn (i - 1)) (kneeN kn i) t + heldS kn t m (i + 1) := by simp only [heldS]; omega
    rw [hsum]
    generalize kneeN kn (i - 1) = a at *
    generalize kneeN kn i = b at *
    by_cases c1 : mn a.f1 b.f1 ≥ t
    · have hpe : pieceT a b t = b.f0 - a.f0 := if_pos c1
      simp only [if_pos c1, wsmall (show -1000000000000000000 ≤ b.f0 - a.f0 by omega) (show b.f0 - a.f0 ≤ 1000000000000000000 by omega)]
      rw [hpe] at ih ⊢
      rw [wsmall (by omega) (by omega)]
      exact ih
    · by_cases c2 : mx a.f1 b.f1 > t
      · have hq : (b.f0 - a.f0) * (mx a.f1 b.f1 - t) ≤ 2000 * 10000 := Int.mul_le_mul (by omega) (by omega) (by omega) (by omega)
        have hq0 : 0 ≤ (b.f0 - a.f0) * (mx a.f1 b.f1 - t) := Int.mul_nonneg (by omega) (by omega)
        have hpe : pieceT a b t = ((b.f0 - a.f0) * (mx a.f1 b.f1 - t)) / (mx a.f1 b.f1 - mn a.f1 b.f1) := (if_neg c1).trans (if_pos c2)
        simp only [if_neg c1, if_pos c2, wsmall (show -1000000000000000000 ≤ b.f0 - a.f0 by omega) (show b.f0 - a.f0 ≤ 1000000000000000000 by omega), wsmall (show -1000000000000000000 ≤ mx a.f1 b.f1 - t by omega) (show mx a.f1 b.f1 - t ≤ 1000000000000000000 by omega), wsmall (show -1000000000000000000 ≤ mx a.f1 b.f1 - mn a.f1 b.f1 by omega) (show mx a.f1 b.f1 - mn a.f1 b.f1 ≤ 1000000000000000000 by omega), if_neg (show ¬ mx a.f1 b.f1 - mn a.f1 b.f1 = 0 by omega), wsmall (show -1000000000000000000 ≤ (b.f0 - a.f0) * (mx a.f1 b.f1 - t) by omega) (show (b.f0 - a.f0) * (mx a.f1 b.f1 - t) ≤ 1000000000000000000 by omega), Int.tdiv_eq_ediv_of_nonneg hq0]
        rw [← hpe, wsmall (show -1000000000000000000 ≤ pieceT a b t by omega) (by omega), wsmall (by omega) (by omega)]
        exact ih
      · have hpe : pieceT a b t = 0 := (if_neg c1).trans (if_neg c2)
        simp only [if_neg c1, if_neg c2]
        rw [hpe] at ih ⊢
        rw [Int.add_zero] at ih ⊢
        exact ih
def heldV (kn : List S84) (t : Int) : Int := heldS kn t (kn.length - 1) 1
theorem held_ev {kn : List S84} (H : LehrOk kn) (fac : Int) {t : Int} (ht : 0 ≤ t ∧ t ≤ 10000) : Ev (fun k => strength_held.f k kn fac t) (heldV kn t) := by
  have n2 := H.n2
  exact (held_l0 H fac ht (kn.length - 1) 1 0 (by omega) (by omega) (by omega) (by omega)).cast (by simp [heldV])
end Go.Proofs.Ytkjkokgbhepmoaa.PB

namespace Go.Proofs.Ytkjkokgbhepmoaa.PB
open Go.RowKit Go.Proofs.YtkjkokgbhepmoaaW.PrintWords Go.Proofs.YtkjkokgbhepmoaaW.PrintLast Go.Proofs.YtkjkokgbhepmoaaW.PrintMore
def LeQ (p q : Int × Int) : Prop := p.1 * q.2 ≤ q.1 * p.2
theorem LeQ.refl (p : Int × Int) : LeQ p p := Int.le_refl _
theorem LeQ.trans {p q r : Int × Int} (hp : 0 < p.2) (hq : 0 < q.2) (hr : 0 < r.2) (h : LeQ p q) (k : LeQ q r) : LeQ p r := by
  unfold LeQ at *
  apply Int.le_of_mul_le_mul_right (a := q.2) _ hq
  have e1 : p.1 * r.2 * q.2 = p.1 * q.2 * r.2 := by rw [Int.mul_assoc, Int.mul_comm r.2, ← Int.mul_assoc]
  have e2 : r.1 * p.2 * q.2 = r.1 * q.2 * p.2 := by rw [Int.mul_assoc, Int.mul_comm p.2, ← Int.mul_assoc]
  have e3 : q.1 * p.2 * r.2 = q.1 * r.2 * p.2 := by rw [Int.mul_assoc, Int.mul_comm p.2, ← Int.mul_assoc]
  rw [e1, e2]
  refine Int.le_trans (Int.mul_le_mul_of_nonneg_right h (by omega)) ?_
  rw [e3]
  exact Int.mul_le_mul_of_nonneg_right k (by omega)
def elig (a b : S84) (t0 t1 : Int) : Bool := decide (b.f1 < a.f1) && (decide (b.f1 ≤ t1) && decide (t0 ≤ a.f1))
def fallQ (a b : S84) : Int × Int := (a.f1 - b.f1, b.f0 - a.f0)
def stepQ (a b : S84) (t0 t1 : Int) (q : Int × Int) : Int × Int := if elig a b t0 t1 = true then (if (fallQ a b).1 * q.2 > q.1 * (fallQ a b).2 then fallQ a b else q) else q
def steepS (kn : List S84) (t0 t1 : Int) : Nat → Nat → Int × Int → Int × Int
  | 0, _, q => q
  | m + 1, i, q => steepS kn t0 t1 m (i + 1) (stepQ (kneeN kn (i - 1)) (kneeN kn i) t0 t1 q)
structure QOk (q : Int × Int) : Prop where
  n0 : 0 ≤ q.1
  n1 : q.1 ≤ 10000
  d0 : 1 ≤ q.2
  d1 : q.2 ≤ 2000
theorem fall_ok {a b : S84} (H : PieceOk a b) {t0 t1 : Int} (h : elig a b t0 t1 = true) : QOk (fallQ a b) := by
  simp only [elig, Bool.and_eq_true, decide_eq_true_eq] at h
  obtain ⟨d1, d2, a1, b1⟩ := H
  exact ⟨by show 0 ≤ a.f1 - b.f1; omega, by show a.f1 - b.f1 ≤ 10000; omega, d1, d2⟩
theorem stepQ_ok {a b : S84} (H : PieceOk a b) (t0 t1 : Int) {q : Int × Int} (hq : QOk q) : QOk (stepQ a b t0 t1 q) := by
  unfold stepQ
  split
  · rename_i h
    split
    · exact fall_ok H h
    · exact hq
  · exact hq
theorem steep_l0 {kn : List S84} (H : LehrOk kn) (fac t0 t1 : Int) : ∀ (m i : Nat) (q : Int × Int), i + m = kn.length → 1 ≤ i → QOk q → Ev (fun k => strength_steepest.l0 k (i : Int) kn fac t0 t1 q.1 q.2) (steepS kn t0 t1 m i q)
  | 0, i, q, h, h1, hq => by
    apply Ev.step
    simp only [strength_steepest.l0, if_neg (show ¬ (i : Int) < (kn.length : Int) by omega)]
    exact Ev.const _
  | m + 1, i, q, h, h1, hq => by
    have hp := H.piece h1 (by omega)
    have n24 := H.n24
    have ih := steep_l0 H fac t0 t1 m (i + 1) (stepQ (kneeN kn (i - 1)) (kneeN kn i) t0 t1 q) (by omega) (by omega) (stepQ_ok hp t0 t1 hq)
    rw [show ((i + 1 : Nat) : Int) = (i : Int) + 1 by omega] at ih
    apply Ev.step
    simp only [strength_steepest.l0, if_pos (show (i : Int) < (kn.length : Int) by omega), wsmall (show -1000000000000000000 ≤ (i : Int) - 1 by omega) (show (i : Int) - 1 ≤ 1000000000000000000 by omega), if_pos (show 0 ≤ (i : Int) - 1 by omega), if_pos (show (i : Int) - 1 < (kn.length : Int) by omega), if_pos (show 0 ≤ (i : Int) by omega)]
    simp only [cast_pred h1]
    have hj : ∀ b : Bool, b = !elig (kneeN kn (i - 1)) (kneeN kn i) t0 t1 → Ev (fun k => strength_steepest.j1 k (i : Int) b kn fac t0 t1 q.1 q.2 (kneeN kn (i - 1)).f0 (kneeN kn (i - 1)).f1 (kneeN kn i).f0 (kneeN kn i).f1) (steepS kn t0 t1 (m + 1) i q) := by
      intro b hb
      apply Ev.step
      simp only [steepS]
      obtain ⟨d1, d2, a1, b1⟩ := hp
      obtain ⟨n0, n1, q0, q1⟩ := hq
      generalize kneeN kn (i - 1) = a at *
      generalize kneeN kn i = c at *
      cases he : elig a c t0 t1 with
      | false =>
        obtain rfl : b = true := by rw [hb, he]; rfl
        simp only [strength_steepest.j1, if_true, wrap_succ (i_pos i) (show (i : Int) ≤ 1000000000 by omega)]
        have : stepQ a c t0 t1 q = q := if_neg (by rw [he]; simp)
        rw [this] at ih ⊢
        exact ih
      | true =>
        obtain rfl : b = false := by rw [hb, he]; rfl
        have x1 : (a.f1 - c.f1) * q.2 ≤ 20000000 ∧ -20000000 ≤ (a.f1 - c.f1) * q.2 := by
          simp only [elig, Bool.and_eq_true, decide_eq_true_eq] at he
          have := Int.mul_le_mul (show a.f1 - c.f1 ≤ 10000 by omega) q1 (by omega) (by omega)
          have := Int.mul_nonneg (show 0 ≤ a.f1 - c.f1 by omega) (show 0 ≤ q.2 by omega)
          omega
        have x2 : q.1 * (c.f0 - a.f0) ≤ 20000000 ∧ 0 ≤ q.1 * (c.f0 - a.f0) := by
          have := Int.mul_le_mul n1 d2 (by omega) (by omega)
          have := Int.mul_nonneg n0 (show 0 ≤ c.f0 - a.f0 by omega)
          omega
        simp only [strength_steepest.j1, Bool.false_eq_true, if_false, strength_quotient_above.f, Option.bind_some, decide_eq_true_eq, wrap_succ (i_pos i) (show (i : Int) ≤ 1000000000 by omega), wsmall (show -1000000000000000000 ≤ a.f1 - c.f1 by omega) (show a.f1 - c.f1 ≤ 1000000000000000000 by omega), wsmall (show -1000000000000000000 ≤ c.f0 - a.f0 by omega) (show c.f0 - a.f0 ≤ 1000000000000000000 by omega), wsmall (show -1000000000000000000 ≤ (a.f1 - c.f1) * q.2 by omega) (show (a.f1 - c.f1) * q.2 ≤ 1000000000000000000 by omega), wsmall (show -1000000000000000000 ≤ q.1 * (c.f0 - a.f0) by omega) (show q.1 * (c.f0 - a.f0) ≤ 1000000000000000000 by omega)]
        by_cases hc : (a.f1 - c.f1) * q.2 > q.1 * (c.f0 - a.f0)
        · have : stepQ a c t0 t1 q = fallQ a c := (if_pos he).trans (if_pos hc)
          rw [this] at ih ⊢
          simp only [if_pos hc]
          exact ih
        · have : stepQ a c t0 t1 q = q := (if_pos he).trans (if_neg hc)
          rw [this] at ih ⊢
          simp only [if_neg hc]
          exact ih
    change Ev (fun k => if (kneeN kn (i - 1)).f1 ≤ (kneeN kn i).f1 then strength_steepest.j1 k (i : Int) true kn fac t0 t1 q.1 q.2 (kneeN kn (i - 1)).f0 (kneeN kn (i - 1)).f1 (kneeN kn i).f0 (kneeN kn i).f1 else (if (kneeN kn i).f1 > t1 then strength_steepest.j1 k (i : Int) true kn fac t0 t1 q.1 q.2 (kneeN kn (i - 1)).f0 (kneeN kn (i - 1)).f1 (kneeN kn i).f0 (kneeN kn i).f1 else strength_steepest.j1 k (i : Int) (decide ((kneeN kn (i - 1)).f1 < t0)) kn fac t0 t1 q.1 q.2 (kneeN kn (i - 1)).f0 (kneeN kn (i - 1)).f1 (kneeN kn i).f0 (kneeN kn i).f1)) _
    by_cases c1 : (kneeN kn (i - 1)).f1 ≤ (kneeN kn i).f1
    · simp only [if_pos c1]
      exact hj true (by simp [elig, show ¬ (kneeN kn i).f1 < (kneeN kn (i - 1)).f1 by omega])
    · by_cases c2 : (kneeN kn i).f1 > t1
      · simp only [if_neg c1, if_pos c2]
        exact hj true (by simp [elig, show ¬ (kneeN kn i).f1 ≤ t1 by omega])
      · simp only [if_neg c1, if_neg c2]
        refine hj _ ?_
        simp only [elig, decide_eq_true (show (kneeN kn i).f1 < (kneeN kn (i - 1)).f1 by omega), decide_eq_true (show (kneeN kn i).f1 ≤ t1 by omega), Bool.true_and]
        by_cases c3 : (kneeN kn (i - 1)).f1 < t0
        · rw [decide_eq_true c3, decide_eq_false (by omega)]; rfl
        · rw [decide_eq_false c3, decide_eq_true (by omega)]; rfl
def steepV (kn : List S84) (t0 t1 : Int) : Int × Int := steepS kn t0 t1 (kn.length - 1) 1 (0, 1)
theorem q01 : QOk ((0, 1) : Int × Int) := ⟨by simp, by simp, by simp, by simp⟩
theorem steep_ev {kn : List S84} (H : LehrOk kn) (fac t0 t1 : Int) : Ev (fun k => strength_steepest.f k kn fac t0 t1) (steepV kn t0 t1) := by
  have n2 := H.n2
  exact steep_l0 H fac t0 t1 (kn.length - 1) 1 (0, 1) (by omega) (by omega) q01
def eligN (kn : List S84) (t0 t1 : Int) (j : Nat) : Bool := elig (kneeN kn (j - 1)) (kneeN kn j) t0 t1
def fallN (kn : List S84) (j : Nat) : Int × Int := fallQ (kneeN kn (j - 1)) (kneeN kn j)
theorem steepS_spec {kn : List S84} (H : LehrOk kn) (t0 t1 : Int) : ∀ (m i : Nat) (q0 : Int × Int), i + m = kn.length → 1 ≤ i → QOk q0 →
    QOk (steepS kn t0 t1 m i q0) ∧ (steepS kn t0 t1 m i q0 = q0 ∨ ∃ j, i ≤ j ∧ j < kn.length ∧ eligN kn t0 t1 j = true ∧ steepS kn t0 t1 m i q0 = fallN kn j) ∧ LeQ q0 (steepS kn t0 t1 m i q0) ∧ ∀ j, i ≤ j → j < kn.length → eligN kn t0 t1 j = true → LeQ (fallN kn j) (steepS kn t0 t1 m i q0)
  | 0, i, q0, h, h1, hq => ⟨hq, .inl rfl, LeQ.refl _, fun j hj hj2 => by omega⟩
  | m + 1, i, q0, h, h1, hq => by
    have hp := H.piece h1 (by omega)
    have hs := stepQ_ok hp t0 t1 hq
    obtain ⟨k1, k2, k3, k4⟩ := steepS_spec H t0 t1 m (i + 1) _ (by omega) (by omega) hs
    have hle : LeQ q0 (stepQ (kneeN kn (i - 1)) (kneeN kn i) t0 t1 q0) := by
      unfold stepQ
      split
      · split
        · rename_i h2; unfold LeQ; omega
        · exact LeQ.refl _
      · exact LeQ.refl _
    have hge : eligN kn t0 t1 i = true → LeQ (fallN kn i) (stepQ (kneeN kn (i - 1)) (kneeN kn i) t0 t1 q0) := by
      intro he
      have he' : elig (kneeN kn (i - 1)) (kneeN kn i) t0 t1 = true := he
      unfold stepQ
      rw [if_pos he']
      split
      · exact LeQ.refl _
      · rename_i h2; unfold LeQ fallN; omega
    have pos : ∀ {q : Int × Int}, QOk q → 0 < q.2 := fun hq => by have := hq.d0; omega
    refine ⟨k1, ?_, LeQ.trans (pos hq) (pos hs) (pos k1) hle k3, fun j hj1 hj2 he => ?_⟩
    · rcases k2 with k2 | ⟨j, j1, j2, j3, j4⟩
      · have hx : stepQ (kneeN kn (i - 1)) (kneeN kn i) t0 t1 q0 = q0 ∨ (eligN kn t0 t1 i = true ∧ stepQ (kneeN kn (i - 1)) (kneeN kn i) t0 t1 q0 = fallN kn i) := by
          unfold stepQ
          split
          · rename_i he
            split
            · exact .inr ⟨he, rfl⟩
            · exact .inl rfl
          · exact .inl rfl
        rcases hx with hx | ⟨he, hx⟩
        · exact .inl (k2.trans hx)
        · exact .inr ⟨i, Nat.le_refl _, by omega, he, k2.trans hx⟩
      · exact .inr ⟨j, by omega, j2, j3, j4⟩
    · by_cases e : j = i
      · subst e
        exact LeQ.trans (pos (fall_ok hp he)) (pos hs) (pos k1) (hge he) k3
      · exact k4 j (by omega) hj2 he
structure SteepOk (kn : List S84) (t0 t1 : Int) (q : Int × Int) : Prop where
  ok : QOk q
  is : q = (0, 1) ∨ ∃ j, 1 ≤ j ∧ j < kn.length ∧ eligN kn t0 t1 j = true ∧ q = fallN kn j
  ge : ∀ j, 1 ≤ j → j < kn.length → eligN kn t0 t1 j = true → LeQ (fallN kn j) q
theorem steepV_spec {kn : List S84} (H : LehrOk kn) (t0 t1 : Int) : SteepOk kn t0 t1 (steepV kn t0 t1) := by
  have n2 := H.n2
  obtain ⟨h1, h2, _, h4⟩ := steepS_spec H t0 t1 (kn.length - 1) 1 (0, 1) (by omega) (by omega) q01
  exact ⟨h1, h2, h4⟩
def strainQ (fac th : Int) (q : Int × Int) : Int := (fac * q.1 * th * th + 1000000 * q.2 - 1) / (1000000 * q.2)
theorem strainQ_le {fac th : Int} {q : Int × Int} (hq : 0 < q.2) (s : Int) : strainQ fac th q ≤ s ↔ fac * q.1 * th * th ≤ s * (1000000 * q.2) := by
  unfold strainQ
  have hb : 0 < 1000000 * q.2 := by omega
  have h := Int.ediv_lt_iff_lt_mul (a := fac * q.1 * th * th + 1000000 * q.2 - 1) (b := s + 1) hb
  rw [Int.add_mul, Int.one_mul] at h
  generalize fac * q.1 * th * th = x at *
  generalize s * (1000000 * q.2) = y at *
  generalize (x + 1000000 * q.2 - 1) / (1000000 * q.2) = z at *
  omega
theorem strainQ_mono {fac th : Int} (hf : 0 ≤ fac) {p q : Int × Int} (hp : 0 < p.2) (hq : 0 < q.2) (h : LeQ p q) : strainQ fac th p ≤ strainQ fac th q := by
  rw [strainQ_le hp]
  have k := (strainQ_le (fac := fac) (th := th) hq _).1 (Int.le_refl _)
  generalize strainQ fac th q = s at *
  have hC : 0 ≤ fac * (th * th) := Int.mul_nonneg hf (by rcases Int.le_total 0 th with h | h; exact Int.mul_nonneg h h; exact Int.mul_nonneg_of_nonpos_of_nonpos h h)
  have e : ∀ n : Int, fac * n * th * th = n * (fac * (th * th)) := fun n => by rw [Int.mul_comm fac n, Int.mul_assoc, Int.mul_assoc]
  rw [e] at k ⊢
  generalize fac * (th * th) = C at *
  apply Int.le_of_mul_le_mul_right (a := q.2) _ hq
  unfold LeQ at h
  have x1 : p.1 * C * q.2 = p.1 * q.2 * C := by rw [Int.mul_assoc, Int.mul_comm C, ← Int.mul_assoc]
  have x2 : s * (1000000 * p.2) * q.2 = s * (1000000 * q.2) * p.2 := by
    rw [Int.mul_assoc, Int.mul_assoc, Int.mul_assoc, Int.mul_assoc, Int.mul_comm p.2 q.2]
  have x3 : q.1 * p.2 * C = q.1 * C * p.2 := by rw [Int.mul_assoc, Int.mul_comm p.2, ← Int.mul_assoc]
  rw [x1, x2]
  refine Int.le_trans (Int.mul_le_mul_of_nonneg_right h hC) ?_
  rw [x3]
  exact Int.mul_le_mul_of_nonneg_right k (by omega)
def strainV (kn : List S84) (fac t0 t1 th : Int) : Int := strainQ fac th (steepV kn t0 t1)
theorem strain_ev {kn : List S84} (H : LehrOk kn) {fac th : Int} (hf : 0 ≤ fac ∧ fac ≤ 10000) (hth : 1 ≤ th ∧ th ≤ 2000) (t0 t1 : Int) : Ev (fun k => strength_strain.f k kn fac t0 t1 th) (strainV kn fac t0 t1 th) := by
  unfold strength_strain.f strainV strainQ
  refine Ev.bind (steep_ev H fac t0 t1) ?_
  have hq := (steepV_spec H t0 t1).ok
  generalize steepV kn t0 t1 = q at *
  obtain ⟨n0, n1, d0, d1⟩ := hq
  have y1 := Int.mul_le_mul hf.2 n1 n0 (by omega)
  have y1' := Int.mul_nonneg hf.1 n0
  have y2 := Int.mul_le_mul y1 hth.2 (by omega) (by omega)
  have y2' := Int.mul_nonneg y1' (show 0 ≤ th by omega)
  have y3 := Int.mul_le_mul y2 hth.2 (by omega) (by omega)
  have y3' := Int.mul_nonneg y2' (show 0 ≤ th by omega)
  have hb : 0 < 1000000 * q.2 := by omega
  have z0 : 0 ≤ fac * q.1 * th * th + 1000000 * q.2 - 1 := by omega
  have z1 : (fac * q.1 * th * th + 1000000 * q.2 - 1) / (1000000 * q.2) ≤ fac * q.1 * th * th + 1000000 * q.2 - 1 := Int.ediv_le_self _ z0
  have z2 := Int.ediv_nonneg z0 (show 0 ≤ 1000000 * q.2 by omega)
  simp only [strength_up.f, wsmall (show -1000000000000000000 ≤ fac * q.1 by omega) (show fac * q.1 ≤ 1000000000000000000 by omega), wsmall (show -1000000000000000000 ≤ fac * q.1 * th by omega) (show fac * q.1 * th ≤ 1000000000000000000 by omega), wsmall (show -1000000000000000000 ≤ fac * q.1 * th * th by omega) (show fac * q.1 * th * th ≤ 1000000000000000000 by omega), wsmall (show -1000000000000000000 ≤ 1000000 * q.2 by omega) (show 1000000 * q.2 ≤ 1000000000000000000 by omega), if_neg (show ¬ 1000000 * q.2 = 0 by omega), wsmall (show -1000000000000000000 ≤ fac * q.1 * th * th + 1000000 * q.2 by omega) (show fac * q.1 * th * th + 1000000 * q.2 ≤ 1000000000000000000 by omega), wsmall (show -1000000000000000000 ≤ fac * q.1 * th * th + 1000000 * q.2 - 1 by omega) (show fac * q.1 * th * th + 1000000 * q.2 - 1 ≤ 1000000000000000000 by omega), Int.tdiv_eq_ediv_of_nonneg z0, wsmall (show -1000000000000000000 ≤ (fac * q.1 * th * th + 1000000 * q.2 - 1) / (1000000 * q.2) by omega) (show (fac * q.1 * th * th + 1000000 * q.2 - 1) / (1000000 * q.2) ≤ 1000000000000000000 by omega), Option.bind_some]
  exact Ev.const _
end Go.Proofs.Ytkjkokgbhepmoaa.PB

