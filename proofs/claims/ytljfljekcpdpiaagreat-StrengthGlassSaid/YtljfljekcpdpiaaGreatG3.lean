import Derived.Test.YtljfljekcpdpiaaGreatG2
import Derived.Sort.WalkA
import Derived.Sort.WalkC
import Derived.Sort.LotA
import Derived.BigRegion
import Derived.Laws.BitsLemmas
import Derived.Shelf.Small.Bits
import Derived.Shelf.Strconv.Itoa0
import Derived.Lib.Hide
import Derived.Deep.RegionWith
import Derived.Deep.DeepCutAuto
import Derived.Shelf.Abstract
set_option linter.unusedVariables false
set_option linter.unusedSimpArgs false
set_option maxHeartbeats 8000000
set_option maxRecDepth 1000000
namespace Go.Proofs.YtljfljekcpdpiaaGreat.PB
open Go.RowKit Go.Proofs.YtljfljekcpdpiaaGreatW.PrintWords Go.Proofs.YtljfljekcpdpiaaGreatW.PrintLast Go.Proofs.YtljfljekcpdpiaaGreatW.PrintMore
section
mutual
def b_grams.l0 : Nat → List Int → List (S27) → List (S70) → Int → Int → Option ((List (S27)))
 | 0, _, _, _, _, _ => none
 | k + 1, x1, x5, x15, x16, x17 => if x17 < x16 then (if 0 ≤ x17 then (if x17 < (x15.length : Int) then (b_grams.l1 k x1 x5 x17 x15 x16 x17 ((rd_T70 x15 x17).f6) (((rd_T70 x15 x17).f6).length : Int) 0) else (none)) else (none)) else (some x5)
def b_grams.l1 : Nat → List Int → List (S27) → Int → List (S70) → Int → Int → List (S27) → Int → Int → Option ((List (S27)))
 | 0, _, _, _, _, _, _, _, _, _ => none
 | k + 1, x1, x5, x6, x15, x16, x17, x23, x24, x25 => if x25 < x24 then (if 0 ≤ x25 then (if x25 < (x23.length : Int) then (if x25 < (x5.length : Int) then (if 0 ≤ x6 then (if x6 < (x1.length : Int) then ((some (x5.set (x25 : Int).toNat (⟨wrap64 (((rd_T27 x5 x25).f0) + (wrap64 ((rd x1 x6) * ((rd_T27 x23 x25).f0)))), (rd_T27 x5 x25).f1⟩ : S27) : List (S27))).bind fun y162 => (b_grams.l1 k x1 (y162.set (x25 : Int).toNat (⟨(rd_T27 y162 x25).f0, wrap64 (((rd_T27 y162 x25).f1) + (wrap64 ((rd x1 x6) * ((rd_T27 x23 x25).f1))))⟩ : S27)) x6 x15 x16 x17 x23 x24 (wrap64 (x25 + 1)))) else (none)) else (none)) else (none)) else (none)) else (none)) else (b_grams.l0 k x1 x5 x15 x16 (wrap64 (x17 + 1)))
end
def b_grams.f (k : Nat) (l0_0 : List ByteArray) (l0_1 : List (S70)) (l0_2 : List (S27)) (l0_3 : List (S89)) (a0_4 : Int) (a0_5 : Int) (a0_6 : Int) (l1 : List Int) : Option ((List (S27))) := if 0 ≤ (l0_0.length : Int) then (if ((l0_0.length : Int) : Int).toNat ≤ 17592186044416 then (b_grams.l0 k l1 (List.replicate ((l0_0.length : Int) : Int).toNat z27) l0_1 (l0_1.length : Int) 0) else (none)) else (none)
def b_grams.T8 : Bool × List (List Nat × List Nat) := (true, [([], []), ([], []), ([0, 1], [0, 1]), ([2], [2]), ([3], [3]), ([], []), ([], []), ([5, 6], [5, 6]), ([7], [7]), ([], []), ([9], [9]), ([8, 10], [8, 10]), ([4, 11], [4, 11]), ([0, 1, 0, 1, 2, 3, 4, 5, 6, 7, 8, 9, 10, 11, 12], [0, 1]), ([13, 0, 1, 2, 3, 4, 5, 6, 7, 8, 9, 10, 11, 12], [13]), ([14, 12, 0, 1, 2, 3, 4, 5, 6, 7, 8, 9, 10, 11, 12], [12, 14])])
def b_grams.B8 : List Nat := [0, 0, 3, 7, 15, 0, 0, 96, 224, 0, 512, 2016, 4095, 8191, 16383, 32767]
theorem b_grams.tab8 : rtab .any (opsOf Tryz.f204 8) = b_grams.T8 := by kernel_rfl
theorem b_grams.bits8 : waitsOk b_grams.T8.2 b_grams.B8 = true := by kernel_rfl
def b_grams.T9 : Bool × List (List Nat × List Nat) := (true, [([], []), ([], []), ([0, 1], [0, 1]), ([2], [2]), ([3], [3]), ([], []), ([], []), ([5, 6], [5, 6]), ([7], [7]), ([], []), ([9], [9]), ([8, 10], [8, 10]), ([4, 11], [4, 11]), ([0, 1, 0, 1, 2, 3, 4, 5, 6, 7, 8, 9, 10, 11, 12], [0, 1]), ([13, 0, 1, 2, 3, 4, 5, 6, 7, 8, 9, 10, 11, 12], [13]), ([14, 12, 0, 1, 2, 3, 4, 5, 6, 7, 8, 9, 10, 11, 12], [12, 14])])
def b_grams.B9 : List Nat := [0, 0, 3, 7, 15, 0, 0, 96, 224, 0, 512, 2016, 4095, 8191, 16383, 32767]
theorem b_grams.tab9 : rtab .any (opsOf Tryz.f204 9) = b_grams.T9 := by kernel_rfl
theorem b_grams.bits9 : waitsOk b_grams.T9.2 b_grams.B9 = true := by kernel_rfl
theorem b_grams.calls (k : Nat) (A0_0 : Option Addr) (c0_0 : Nat) (l0_0 : List ByteArray) (A0_1 : Option Addr) (c0_1 : Nat) (l0_1 : List (S70)) (A0_2 : Option Addr) (c0_2 : Nat) (l0_2 : List (S27)) (A0_3 : Option Addr) (c0_3 : Nat) (l0_3 : List (S89)) (a0_4 : Int) (a0_5 : Int) (a0_6 : Int) (A1 : Option Addr) (c1 : Nat) (l1 : List Int) (r : List (S27)) (w : World) (hr0_0 : Kd.C Kd.string w A0_0 l0_0.length l0_0) (hc0_0 : l0_0.length ≤ c0_0) (hr0_1 : Kd.C k70 w A0_1 l0_1.length l0_1) (hc0_1 : l0_1.length ≤ c0_1) (hr0_2 : Kd.C k27 w A0_2 l0_2.length l0_2) (hc0_2 : l0_2.length ≤ c0_2) (hr0_3 : Kd.C k89 w A0_3 l0_3.length l0_3) (hc0_3 : l0_3.length ≤ c0_3) (hr1 : Kd.C (Kd.int .i64) w A1 l1.length l1) (hc1 : l1.length ≤ c1) (h : b_grams.f k l0_0 l0_1 l0_2 l0_3 a0_4 a0_5 a0_6 l1 = some r) :
  Calls Tryz.prog 204 #[.agg #[.slice A0_0 l0_0.length c0_0, .slice A0_1 l0_1.length c0_1, .slice A0_2 l0_2.length c0_2, .slice A0_3 l0_3.length c0_3, .int .i64 a0_4, .int .i64 a0_5, .int .i64 a0_6], .slice A1 l1.length c1] w fun e w' => ∃ v0_ : Value, e = .returned (v0_) ∧ Kd.R k27 27 w' w.heap.size (fun _ => True) v0_ r ∧ Below w.heap.size w w' := by
 have hu29 := Tryz.underlying29; have hu70 := Tryz.underlying70; have hu27 := Tryz.underlying27; have HR0_0 := Sd.mk hr0_0; have HC0_0 := Sd.mk hc0_0; clear hr0_0 hc0_0; have HR0_1 := Sd.mk hr0_1; have HC0_1 := Sd.mk hc0_1; clear hr0_1 hc0_1; have HR0_2 := Sd.mk hr0_2; have HC0_2 := Sd.mk hc0_2; clear hr0_2 hc0_2; have HR0_3 := Sd.mk hr0_3; have HC0_3 := Sd.mk hc0_3; clear hr0_3 hc0_3; have HR1 := Sd.mk hr1; have HC1 := Sd.mk hc1; clear hr1 hc1; have HB := Sd.mk (Below.refl w.heap.size w)
 have H : (if 0 ≤ (l0_0.length : Int) then (if ((l0_0.length : Int) : Int).toNat ≤ 17592186044416 then (b_grams.l0 k l1 (List.replicate ((l0_0.length : Int) : Int).toNat z27) l0_1 (l0_1.length : Int) 0) else (none)) else (none)) = some r := h
 clear h
 by_cases c3 : 0 ≤ (l0_0.length : Int)
 ·rw [if_pos c3] at H
  have c3b0 := eq_true c3
  have c3b1 : decide (0 ≤ (l0_0.length : Int)) = true := decide_eq_true c3
  clear c3
  by_cases c4 : ((l0_0.length : Int) : Int).toNat ≤ 17592186044416
  ·rw [if_pos c4] at H
   have c4b0 := eq_true c4
   have c4b1 : decide (((l0_0.length : Int) : Int).toNat ≤ 17592186044416) = true := decide_eq_true c4
   clear c4
   obtain ⟨y153, hy153⟩ : ∃ y_ : List (S27), y_ = (List.replicate ((l0_0.length : Int) : Int).toNat z27) := ⟨_, rfl⟩
   replace H : (b_grams.l0 k l1 y153 l0_1 (l0_1.length : Int) 0) = some r := by first | (rw [hy153]; with_reducible exact H) | (have H2_ := (Option.bind_some _ _).symm.trans H; rw [hy153]; with_reducible exact H2_) | (have H2_ := (Option.bind_some _ _).symm.trans H; with_reducible exact H2_) | with_reducible exact H | (rw [hy153]; exact H) | exact H
   have Ny153 := Sd.mk hy153; clear hy153; have H' := Sd.mk H; clear H
   go_enter Tryz.func204, Tryz.ntmps204
   go_wp2_with (first | ((with_reducible refine gate_dst (N := 2) rfl ?_); refine box_event ?hg (N := 2) ?hd (cs := #[.slice A0_0 l0_0.length c0_0, .slice A0_1 l0_1.length c0_1, .slice A0_2 l0_2.length c0_2, .slice A0_3 l0_3.length c0_3, .int .i64 a0_4, .int .i64 a0_5, .int .i64 a0_6]) (t := 29) ?hr ?_; (case hd => rfl); (case hg => rfl); (case hr => exact tG); intro gb152 hg w5 hbox hb; have BK152 := Sd.mk (hbox); have GW152 := Sd.mk (bSz hg (bBl HB.out)); have GE152 := Sd.mk (bSz hg (bBl HB.out)); replace HB := Sd.mk (below_step (bBl HB.out) hb); clear hb hbox hg; obtain ⟨u6_0, u6_1, u6_2, u6_3, u6_4, u6_5, u6_6, o6_0, o6_1, o6_2, o6_3, o6_4, o6_5, o6_6⟩ := bc7 (w := w5) BK152.out) | ((with_reducible refine gate_dst (N := 13) rfl ?_); refine Kd.R_make k27 _ 27 rfl (N := 13) rfl 24 _ _ rfl (l0_0.length : Int) rfl rfl Tryz.underlying24 (.agg #[(.int .i64 0), (.int .i64 0)]) 16 info27 rfl (by decide) (by omega) z27 (ok := fun _ => True) (okp := fun _ => True) (k27_mkM _ _ _ z27 ) (fun _ hk => hk) trivial (tB) (Nat.le_trans (Nat.mul_le_mul_right _ (tB : (l0_0.length : Int).toNat ≤ 17592186044416)) (by omega)) (Below.refl _ _) (Nat.le_refl _) ?_; intro v154 w7 ho8 hb hg_ hnew_; clear hg_ hnew_; (first | rw [← Ny153.out] at ho8 | (simp only [Int.reduceToNat] at ho8; rw [← Ny153.out] at ho8)); have HO155 := Sd.mk (Kd.R_lower ho8 (below_size (bBl HB.out))); replace BK152 := Sd.mk (blk_below (bkA BK152.out) hb); replace HB := Sd.mk (below_step (bBl HB.out) hb); clear hb ho8; obtain ⟨u9_0, u9_1, u9_2, u9_3, u9_4, u9_5, u9_6, o9_0, o9_1, o9_2, o9_3, o9_4, o9_5, o9_6⟩ := bc7 (w := w7) BK152.out))
   go_loopg [17] k (fun kq v17 w' => ∃ (x5_1 : List (S27)) (x17_1 : Int), v17 = .int .i64 x17_1 ∧ Sd (b_grams.l0 kq l1 x5_1 l0_1 (l0_1.length : Int) x17_1 = some r) ∧ Sd (kq ≤ k) ∧ Sd (Kd.R k27 27 w' w.heap.size (fun _ => True) v154 x5_1) ∧ Sd (w'.heap[gb152]? = some (.cells #[(.slice A0_0 l0_0.length c0_0), (.slice A0_1 l0_1.length c0_1), (.slice A0_2 l0_2.length c0_2), (.slice A0_3 l0_3.length c0_3), .int .i64 a0_4, .int .i64 a0_5, .int .i64 a0_6] 29 (0, 0))) ∧ Sd (Below w.heap.size w w'))
   case atStart => exact ⟨(y153), (0), tS, H', ⟨Nat.le_refl _⟩, ⟨by (with_reducible repeat (first | apply Kd.R_alloc | apply Kd.R_drewN | apply Kd.R_drew)); exact HO155.out⟩, ⟨bkA BK152.out⟩, ⟨bBl HB.out⟩⟩
   case round =>
    clear H'; (try clear c1); (try clear c2); (try clear p2); (try clear c3); (try clear c3b0); (try clear c3b1); (try clear c4); (try clear c4b0); (try clear c4b1); (try clear u6_0 u6_1 u6_2 u6_3 u6_4 u6_5 u6_6); (try clear u9_0 u9_1 u9_2 u9_3 u9_4 u9_5 u9_6); (try clear o6_0 o6_1 o6_2 o6_3 o6_4 o6_5 o6_6); (try clear o9_0 o9_1 o9_2 o9_3 o9_4 o9_5 o9_6); obtain ⟨x5_1, x17_1, rfl, HA, HK1, HO_5, BK152, HB⟩ := hrel
    cases gk with
    | zero => exact absurd HA.out (by simp [b_grams.l0])
    | succ k1 =>
     have H := HA.out; clear HA
     simp only [b_grams.l0] at H
     by_cases c10 : x17_1 < (l0_1.length : Int)
     ·rw [if_pos c10] at H
      have c10b0 : decide (x17_1 < (l0_1.length : Int)) = true := decide_eq_true c10
      clear c10
      by_cases c11 : 0 ≤ x17_1
      ·rw [if_pos c11] at H
       have c11b0 : decide (0 ≤ x17_1) = true := decide_eq_true c11
       clear c11
       by_cases c12 : x17_1 < (l0_1.length : Int)
       ·rw [if_pos c12] at H
        have c12b0 : decide (x17_1 < (l0_1.length : Int)) = true := decide_eq_true c12
        clear c12; have H' := Sd.mk H; clear H
        have p156 : 0 ≤ (x17_1 : Int) := tB
        have q156 : x17_1 < (l0_1.length : Int) := tB
        obtain ⟨ad156, A156_6, c156_6, e156, hx156_0, hx156_1, hx156_2, hx156_3, hx156_4, hx156_5, hx156_6, hl156_6, hi156_6⟩ := at_T70 HR0_1.out x17_1 p156 q156; cases e156; replace hx156_0 := cU HB hx156_0; replace hx156_1 := cU HB hx156_1; replace hx156_2 := cU HB hx156_2; replace hx156_3 := cU HB hx156_3; replace hx156_4 := cU HB hx156_4; replace hx156_5 := cU HB hx156_5; replace hx156_6 := cU HB hx156_6; have HR156_6 := Sd.mk hi156_6; have HC156_6 := Sd.mk hl156_6; clear hi156_6 hl156_6; replace p156 := eq_true p156; replace q156 := eq_true q156
        go_wp2_with (first | ((with_reducible refine gate_dst (N := 7) rfl ?_); refine box_event ?hg (N := 7) ?hd (cs := #[.string (⟨#[]⟩ : ByteArray), .int .i64 0, .int .i64 0, .int .i64 0, .int .i64 0, .int .i64 0, .slice none 0 0]) (t := 70) ?hr ?_; (case hd => rfl); (case hg => rfl); (case hr => exact tG); intro gb157 hg w13 hbox hb; replace HO_5 := Sd.mk (Kd.R_below (by (with_reducible repeat (first | apply Kd.R_alloc | apply Kd.R_drewN | apply Kd.R_drew)); exact HO_5.out) hb); have BK157 := Sd.mk (hbox); have GW157 := Sd.mk (bSz hg (bBl HB.out)); have GE157 := Sd.mk (bSz hg (bBl HB.out)); replace HB := Sd.mk (below_step (bBl HB.out) hb); have NB152_157 := Sd.mk (bNl hg (bkA BK152.out)); have NB157_152 := Sd.mk (bNg hg (bkA BK152.out)); replace BK152 := Sd.mk (blk_below (bkA BK152.out) hb); clear hb hbox hg; have hnb14 := NB157_152.out; have hnc14 := NB152_157.out; obtain ⟨u15_0, u15_1, u15_2, u15_3, u15_4, u15_5, u15_6, o15_0, o15_1, o15_2, o15_3, o15_4, o15_5, o15_6⟩ := bc7 (w := w13) BK157.out))
        go_loopg [25] k1 (fun kq v25 w' => ∃ (x5_2 : List (S27)) (x25_2 : Int), v25 = .int .i64 x25_2 ∧ Sd (b_grams.l1 kq l1 x5_2 x17_1 l0_1 (l0_1.length : Int) x17_1 ((rd_T70 l0_1 x17_1).f6) (((rd_T70 l0_1 x17_1).f6).length : Int) x25_2 = some r) ∧ Sd (kq ≤ k1) ∧ Sd (Kd.R k27 27 w' w.heap.size (fun _ => True) v154 x5_2) ∧ Sd (w'.heap[gb152]? = some (.cells #[(.slice A0_0 l0_0.length c0_0), (.slice (some ad156) l0_1.length c0_1), (.slice A0_2 l0_2.length c0_2), (.slice A0_3 l0_3.length c0_3), .int .i64 a0_4, .int .i64 a0_5, .int .i64 a0_6] 29 (0, 0))) ∧ Sd (w'.heap[gb157]? = some (.cells #[.string ((rd_T70 l0_1 x17_1).f0), .int .i64 ((rd_T70 l0_1 x17_1).f1), .int .i64 ((rd_T70 l0_1 x17_1).f2), .int .i64 ((rd_T70 l0_1 x17_1).f3), .int .i64 ((rd_T70 l0_1 x17_1).f4), .int .i64 ((rd_T70 l0_1 x17_1).f5), (.slice A156_6 ((rd_T70 l0_1 x17_1).f6).length c156_6)] 70 (0, 0))) ∧ Sd (Below w.heap.size w w'))
        case atStart => exact ⟨(x5_1), (0), tS, H', ⟨Nat.le_refl _⟩, ⟨by (with_reducible repeat (first | apply Kd.R_alloc | apply Kd.R_drewN | apply Kd.R_drew)); exact Kd.R_mono (Kd.R_far (p := ⟨gb157, 6, none⟩) (Kd.R_far (p := ⟨gb157, 5, none⟩) (Kd.R_far (p := ⟨gb157, 4, none⟩) (Kd.R_far (p := ⟨gb157, 3, none⟩) (Kd.R_far (p := ⟨gb157, 2, none⟩) (Kd.R_far (p := ⟨gb157, 1, none⟩) (Kd.R_far (p := ⟨gb157, 0, none⟩) (Kd.R_types HO_5.out BK157.out (by decide)) (fun _ hk => hk.2) (.string ((rd_T70 l0_1 x17_1).f0))) (fun _ hk => hk.2) (.int .i64 ((rd_T70 l0_1 x17_1).f1))) (fun _ hk => hk.2) (.int .i64 ((rd_T70 l0_1 x17_1).f2))) (fun _ hk => hk.2) (.int .i64 ((rd_T70 l0_1 x17_1).f3))) (fun _ hk => hk.2) (.int .i64 ((rd_T70 l0_1 x17_1).f4))) (fun _ hk => hk.2) (.int .i64 ((rd_T70 l0_1 x17_1).f5))) (fun _ hk => hk.2) (.slice A156_6 ((rd_T70 l0_1 x17_1).f6).length c156_6)) (fun _ hk => trivial)⟩, ⟨by refine bkZ ?_; refine blk_far ?_ NB152_157.out _; refine bkZ ?_; refine blk_far ?_ NB152_157.out _; refine bkZ ?_; refine blk_far ?_ NB152_157.out _; refine bkZ ?_; refine blk_far ?_ NB152_157.out _; refine bkZ ?_; refine blk_far ?_ NB152_157.out _; refine bkZ ?_; refine blk_far ?_ NB152_157.out _; refine bkZ ?_; refine blk_far ?_ NB152_157.out _; refine bkZ ?_; exact BK152.out⟩, ⟨by refine bkZ ?_; refine blk_put (cs := #[.string ((rd_T70 l0_1 x17_1).f0), .int .i64 ((rd_T70 l0_1 x17_1).f1), .int .i64 ((rd_T70 l0_1 x17_1).f2), .int .i64 ((rd_T70 l0_1 x17_1).f3), .int .i64 ((rd_T70 l0_1 x17_1).f4), .int .i64 ((rd_T70 l0_1 x17_1).f5), .slice none 0 0]) ?_ 6 _ rfl; refine bkZ ?_; refine blk_put (cs := #[.string ((rd_T70 l0_1 x17_1).f0), .int .i64 ((rd_T70 l0_1 x17_1).f1), .int .i64 ((rd_T70 l0_1 x17_1).f2), .int .i64 ((rd_T70 l0_1 x17_1).f3), .int .i64 ((rd_T70 l0_1 x17_1).f4), .int .i64 0, .slice none 0 0]) ?_ 5 _ rfl; refine bkZ ?_; refine blk_put (cs := #[.string ((rd_T70 l0_1 x17_1).f0), .int .i64 ((rd_T70 l0_1 x17_1).f1), .int .i64 ((rd_T70 l0_1 x17_1).f2), .int .i64 ((rd_T70 l0_1 x17_1).f3), .int .i64 0, .int .i64 0, .slice none 0 0]) ?_ 4 _ rfl; refine bkZ ?_; refine blk_put (cs := #[.string ((rd_T70 l0_1 x17_1).f0), .int .i64 ((rd_T70 l0_1 x17_1).f1), .int .i64 ((rd_T70 l0_1 x17_1).f2), .int .i64 0, .int .i64 0, .int .i64 0, .slice none 0 0]) ?_ 3 _ rfl; refine bkZ ?_; refine blk_put (cs := #[.string ((rd_T70 l0_1 x17_1).f0), .int .i64 ((rd_T70 l0_1 x17_1).f1), .int .i64 0, .int .i64 0, .int .i64 0, .int .i64 0, .slice none 0 0]) ?_ 2 _ rfl; refine bkZ ?_; refine blk_put (cs := #[.string ((rd_T70 l0_1 x17_1).f0), .int .i64 0, .int .i64 0, .int .i64 0, .int .i64 0, .int .i64 0, .slice none 0 0]) ?_ 1 _ rfl; refine bkZ ?_; refine blk_put (cs := #[.string (⟨#[]⟩ : ByteArray), .int .i64 0, .int .i64 0, .int .i64 0, .int .i64 0, .int .i64 0, .slice none 0 0]) ?_ 0 _ rfl; refine bkZ ?_; exact BK157.out⟩, ⟨bBl HB.out⟩⟩
        case round =>
         clear H'; (try clear c1); (try clear p1); (try clear q1); (try clear hx1); (try clear c2); (try clear p2 p2); (try clear c3); (try clear c3b0); (try clear c3b1); (try clear c4); (try clear c4b0); (try clear c4b1); (try clear c10); (try clear c10b0); (try clear c11); (try clear c11b0); (try clear c12); (try clear c12b0); (try clear c14); (try clear c15); (try clear p15); (try clear q15); (try clear hx15); (try clear u15_0 u15_1 u15_2 u15_3 u15_4 u15_5 u15_6); (try clear u6_0 u6_1 u6_2 u6_3 u6_4 u6_5 u6_6); (try clear u9_0 u9_1 u9_2 u9_3 u9_4 u9_5 u9_6); (try clear o15_0 o15_1 o15_2 o15_3 o15_4 o15_5 o15_6); (try clear o6_0 o6_1 o6_2 o6_3 o6_4 o6_5 o6_6); (try clear o9_0 o9_1 o9_2 o9_3 o9_4 o9_5 o9_6); (try clear hx156_0); (try clear hx156_1); (try clear hx156_2); (try clear hx156_3); (try clear hx156_4); (try clear hx156_5); (try clear hx156_6); (try clear p156); (try clear q156); obtain ⟨x5_2, x25_2, rfl, HA, HK2, HO_5, BK152, BK157, HB⟩ := hrel
         cases gk with
         | zero => exact absurd HA.out (by simp [b_grams.l1])
         | succ k2 =>
          have H := HA.out; clear HA
          simp only [b_grams.l1] at H
          by_cases c16 : x25_2 < (((rd_T70 l0_1 x17_1).f6).length : Int)
          ·rw [if_pos c16] at H
           have c16b0 : decide (x25_2 < (((rd_T70 l0_1 x17_1).f6).length : Int)) = true := decide_eq_true c16
           clear c16
           by_cases c17 : 0 ≤ x25_2
           ·rw [if_pos c17] at H
            have c17b0 : decide (0 ≤ x25_2) = true := decide_eq_true c17
            clear c17
            by_cases c18 : x25_2 < (((rd_T70 l0_1 x17_1).f6).length : Int)
            ·rw [if_pos c18] at H
             have c18b0 : decide (x25_2 < (((rd_T70 l0_1 x17_1).f6).length : Int)) = true := decide_eq_true c18
             clear c18
             by_cases c19 : x25_2 < (x5_2.length : Int)
             ·rw [if_pos c19] at H
              have c19b0 : decide (x25_2 < (x5_2.length : Int)) = true := decide_eq_true c19
              clear c19
              by_cases c20 : 0 ≤ x17_1
              ·rw [if_pos c20] at H
               have c20b0 : decide (0 ≤ x17_1) = true := decide_eq_true c20
               clear c20
               by_cases c21 : x17_1 < (l1.length : Int)
               ·rw [if_pos c21] at H
                have c21b0 : decide (x17_1 < (l1.length : Int)) = true := decide_eq_true c21
                clear c21
                obtain ⟨y162, hy162⟩ : ∃ y_ : List (S27), y_ = (x5_2.set (x25_2 : Int).toNat (⟨wrap64 (((rd_T27 x5_2 x25_2).f0) + (wrap64 ((rd l1 x17_1) * ((rd_T27 ((rd_T70 l0_1 x17_1).f6) x25_2).f0)))), (rd_T27 x5_2 x25_2).f1⟩ : S27)) := ⟨_, rfl⟩
                replace H : (b_grams.l1 k2 l1 (y162.set (x25_2 : Int).toNat (⟨(rd_T27 y162 x25_2).f0, wrap64 (((rd_T27 y162 x25_2).f1) + (wrap64 ((rd l1 x17_1) * ((rd_T27 ((rd_T70 l0_1 x17_1).f6) x25_2).f1))))⟩ : S27)) x17_1 l0_1 (l0_1.length : Int) x17_1 ((rd_T70 l0_1 x17_1).f6) (((rd_T70 l0_1 x17_1).f6).length : Int) (wrap64 (x25_2 + 1))) = some r := by first | (rw [hy162]; with_reducible exact H) | (have H2_ := (Option.bind_some _ _).symm.trans H; rw [hy162]; with_reducible exact H2_) | (have H2_ := (Option.bind_some _ _).symm.trans H; with_reducible exact H2_) | with_reducible exact H | (rw [hy162]; exact H) | exact H
                have Ny162 := Sd.mk hy162; clear hy162
                obtain ⟨y165, hy165⟩ : ∃ y_ : List (S27), y_ = (y162.set (x25_2 : Int).toNat (⟨(rd_T27 y162 x25_2).f0, wrap64 (((rd_T27 y162 x25_2).f1) + (wrap64 ((rd l1 x17_1) * ((rd_T27 ((rd_T70 l0_1 x17_1).f6) x25_2).f1))))⟩ : S27)) := ⟨_, rfl⟩
                replace H : (b_grams.l1 k2 l1 y165 x17_1 l0_1 (l0_1.length : Int) x17_1 ((rd_T70 l0_1 x17_1).f6) (((rd_T70 l0_1 x17_1).f6).length : Int) (wrap64 (x25_2 + 1))) = some r := by first | (rw [hy165]; with_reducible exact H) | (have H2_ := (Option.bind_some _ _).symm.trans H; rw [hy165]; with_reducible exact H2_) | (have H2_ := (Option.bind_some _ _).symm.trans H; with_reducible exact H2_) | with_reducible exact H | (rw [hy165]; exact H) | exact H
                have Ny165 := Sd.mk hy165; clear hy165; have H' := Sd.mk H; clear H
                have p158 : 0 ≤ (x25_2 : Int) := tB
                have q158 : x25_2 < (((rd_T70 l0_1 x17_1).f6).length : Int) := tB
                obtain ⟨ad158, e158, hx158_0, hx158_1⟩ := at_T27 HR156_6.out x25_2 p158 q158; cases e158; replace hx158_0 := cU HB hx158_0; replace hx158_1 := cU HB hx158_1; replace p158 := eq_true p158; replace q158 := eq_true q158
                try go_wp2_with (first | ((with_reducible refine gate_dst (N := 9) rfl ?_); refine box_event ?hg (N := 9) ?hd (cs := #[.int .i64 0, .int .i64 0]) (t := 27) ?hr ?_; (case hd => rfl); (case hg => rfl); (case hr => exact tG); intro gb159 hg w24 hbox hb; replace HO_5 := Sd.mk (Kd.R_below (Kd.R_elderB (by (with_reducible repeat (first | apply Kd.R_alloc | apply Kd.R_drewN | apply Kd.R_drew)); exact HO_5.out) gb159 (Nat.le_of_eq hg.symm)) hb); have BK159 := Sd.mk (hbox); have GW159 := Sd.mk (bSz hg (bBl HB.out)); have GE159 := Sd.mk (bSz hg (bBl HB.out)); replace HB := Sd.mk (below_step (bBl HB.out) hb); have NB152_159 := Sd.mk (bNl hg (bkA BK152.out)); have NB159_152 := Sd.mk (bNg hg (bkA BK152.out)); replace BK152 := Sd.mk (blk_below (bkA BK152.out) hb); have NB157_159 := Sd.mk (bNl hg (bkA BK157.out)); have NB159_157 := Sd.mk (bNg hg (bkA BK157.out)); replace BK157 := Sd.mk (blk_below (bkA BK157.out) hb); clear hb hbox hg; have hnb25 := NB159_152.out; have hnc25 := NB152_159.out; have hnb26 := NB159_157.out; have hnc26 := NB157_159.out; obtain ⟨u27_0, u27_1, o27_0, o27_1⟩ := bc2 (w := w24) BK159.out))
                have n0_ : Sd (Kd.R k27 27 ((w24.setCell ⟨gb159, 0, none⟩ (.int .i64 ((rd_T27 ((rd_T70 l0_1 x17_1).f6) x25_2).f0))).setCell ⟨gb159, 1, none⟩ (.int .i64 ((rd_T27 ((rd_T70 l0_1 x17_1).f6) x25_2).f1))) w.heap.size (fun k_ => k_ ≠ gb159) v154 x5_2) := ⟨by (with_reducible repeat (first | apply Kd.R_alloc | apply Kd.R_drewN | apply Kd.R_drew)); exact Kd.R_mono (Kd.R_far (p := ⟨gb159, 1, none⟩) (Kd.R_far (p := ⟨gb159, 0, none⟩) (Kd.R_mono HO_5.out (fun k_ hk => (⟨hk, hk.2⟩ : _ ∧ k_ ≠ gb159))) (fun _ hk => hk.2) (.int .i64 ((rd_T27 ((rd_T70 l0_1 x17_1).f6) x25_2).f0))) (fun _ hk => hk.2) (.int .i64 ((rd_T27 ((rd_T70 l0_1 x17_1).f6) x25_2).f1))) (fun _ hk => hk.1.2)⟩
                have n1_ : Sd (((w24.setCell ⟨gb159, 0, none⟩ (.int .i64 ((rd_T27 ((rd_T70 l0_1 x17_1).f6) x25_2).f0))).setCell ⟨gb159, 1, none⟩ (.int .i64 ((rd_T27 ((rd_T70 l0_1 x17_1).f6) x25_2).f1))).heap[gb152]? = some (.cells #[.slice A0_0 l0_0.length c0_0, .slice (some ad156) l0_1.length c0_1, .slice A0_2 l0_2.length c0_2, .slice A0_3 l0_3.length c0_3, .int .i64 a0_4, .int .i64 a0_5, .int .i64 a0_6] 29 (0, 0))) := ⟨by refine bkZ ?_; refine blk_far ?_ NB152_159.out _; refine bkZ ?_; refine blk_far ?_ NB152_159.out _; refine bkZ ?_; exact BK152.out⟩
                have n2_ : Sd (((w24.setCell ⟨gb159, 0, none⟩ (.int .i64 ((rd_T27 ((rd_T70 l0_1 x17_1).f6) x25_2).f0))).setCell ⟨gb159, 1, none⟩ (.int .i64 ((rd_T27 ((rd_T70 l0_1 x17_1).f6) x25_2).f1))).heap[gb157]? = some (.cells #[.string ((rd_T70 l0_1 x17_1).f0), .int .i64 ((rd_T70 l0_1 x17_1).f1), .int .i64 ((rd_T70 l0_1 x17_1).f2), .int .i64 ((rd_T70 l0_1 x17_1).f3), .int .i64 ((rd_T70 l0_1 x17_1).f4), .int .i64 ((rd_T70 l0_1 x17_1).f5), .slice (some ad158) ((rd_T70 l0_1 x17_1).f6).length c156_6] 70 (0, 0))) := ⟨by refine bkZ ?_; refine blk_far ?_ NB157_159.out _; refine bkZ ?_; refine blk_far ?_ NB157_159.out _; refine bkZ ?_; exact BK157.out⟩
                have n3_ : Sd (((w24.setCell ⟨gb159, 0, none⟩ (.int .i64 ((rd_T27 ((rd_T70 l0_1 x17_1).f6) x25_2).f0))).setCell ⟨gb159, 1, none⟩ (.int .i64 ((rd_T27 ((rd_T70 l0_1 x17_1).f6) x25_2).f1))).heap[gb159]? = some (.cells #[.int .i64 ((rd_T27 ((rd_T70 l0_1 x17_1).f6) x25_2).f0), .int .i64 ((rd_T27 ((rd_T70 l0_1 x17_1).f6) x25_2).f1)] 27 (0, 0))) := ⟨by refine bkZ ?_; refine blk_put (cs := #[.int .i64 ((rd_T27 ((rd_T70 l0_1 x17_1).f6) x25_2).f0), .int .i64 0]) ?_ 1 _ rfl; refine bkZ ?_; refine blk_put (cs := #[.int .i64 0, .int .i64 0]) ?_ 0 _ rfl; refine bkZ ?_; exact BK159.out⟩
                have n4_ : Sd (Below w.heap.size w ((w24.setCell ⟨gb159, 0, none⟩ (.int .i64 ((rd_T27 ((rd_T70 l0_1 x17_1).f6) x25_2).f0))).setCell ⟨gb159, 1, none⟩ (.int .i64 ((rd_T27 ((rd_T70 l0_1 x17_1).f6) x25_2).f1)))) := ⟨bBl HB.out⟩
                (try clear HO_5)
                (try clear BK152)
                (try clear BK157)
                (try clear BK159)
                (try clear HB)
                generalize ((w24.setCell ⟨gb159, 0, none⟩ (.int .i64 ((rd_T27 ((rd_T70 l0_1 x17_1).f6) x25_2).f0))).setCell ⟨gb159, 1, none⟩ (.int .i64 ((rd_T27 ((rd_T70 l0_1 x17_1).f6) x25_2).f1))) = w28 at n0_ n1_ n2_ n3_ n4_ ⊢
                have HO_5 := n0_; have BK152 := n1_; have BK157 := n2_; have BK159 := n3_; have HB := n4_; clear n0_ n1_ n2_ n3_ n4_; replace HO_5 := Sd.mk (Kd.R_drew HO_5.out); replace BK152 := Sd.mk (blk_drew BK152.out); replace BK157 := Sd.mk (blk_drew BK157.out); replace BK159 := Sd.mk (blk_drew BK159.out); replace HB := Sd.mk (below_drew1 HB.out); obtain ⟨Ao30, co30, eo30⟩ := Kd.R_slice HO_5.out
                (first | subst eo30 | (injection eo30 with f1_ f2_ f3_; have f4_ := f1_.symm; have f5_ := f3_.symm; clear f1_ f2_ f3_; subst f4_; subst f5_))
                have p160 : 0 ≤ (x25_2 : Int) := tB
                have q160 : x25_2 < (x5_2.length : Int) := tB
                obtain ⟨ad160, e160, hx160_0, hx160_1⟩ := at_T27 (Kd.R_reads' HO_5.out).2.2 x25_2 p160 q160; cases e160; replace p160 := eq_true p160; replace q160 := eq_true q160
                have p161 : 0 ≤ (x17_1 : Int) := tB
                have q161 : x17_1 < (l1.length : Int) := tB
                obtain ⟨ad161, e161, hx161_0⟩ := Kd.at_int HR1.out x17_1 p161 q161; have hw161_0 := hx161_0; cases e161; replace hx161_0 := cU HB hx161_0; replace p161 := eq_true p161; replace q161 := eq_true q161
                have p22 : 0 ≤ (x25_2 : Int) := tB
                have q22 : (x25_2 : Int) < ((x5_2.length : Int) : Int) := tB
                obtain ⟨go22, co22, eo22, gb22, gl22, cl22, HG22⟩ := Kd.R_form HO_5.out (by omega)
                (first | cases eo22 | (injection eo22 with ea_ en_ ec_; (first | subst ea_ | (injection ea_ with ea_; subst ea_)); subst ec_; clear en_))
                have GB22 := Sd.mk gb22; have GG22 := Sd.mk HG22; clear gb22 gl22 HG22
                (first | simp only [add_plain] at hx160_0 | skip)
                (first | simp only [add_plain] at hx160_1 | skip)
                obtain ⟨ce22, hcl22, hM22, hcc22, hfr22⟩ := Kd.R_elem HO_5.out z27 (x25_2 : Int) p22 q22; obtain rfl := k27_openM hM22
                have hx22_0 : World.cell? _ ⟨go22, (x25_2 : Int).toNat * 2, none⟩ = some (.int .i64 ((rd_T27 x5_2 x25_2).f0)) := hcc22 0 _ rfl
                have hx22_1 : World.cell? _ ⟨go22, (x25_2 : Int).toNat * 2 + 1, none⟩ = some (.int .i64 ((rd_T27 x5_2 x25_2).f1)) := hcc22 1 _ rfl
                have hf22_0 : World.frozen? _ ⟨go22, (x25_2 : Int).toNat * 2, none⟩ = false := hfr22 0
                have hf22_1 : World.frozen? _ ⟨go22, (x25_2 : Int).toNat * 2 + 1, none⟩ = false := hfr22 1
                clear hcl22 hcc22 hfr22 hM22; replace p22 := eq_true p22; replace q22 := eq_true q22
                obtain ⟨ce31, hcl31, hM31, hcc31, hfr31⟩ := Kd.R_elem HO_5.out z27 (x25_2 : Int) (tB) (by have h_ : (x25_2 : Int) < ((x5_2.length : Int) : Int) := tB; first | exact h_ | (have e_ := (Kd.R_reads' HO_5.out).1; omega) | simpa using h_)
                obtain rfl := k27_openM hM31
                have HP31 := (Kd.R_seg HO_5.out (x25_2 : Int) (tB) (by have h_ : (x25_2 : Int) < ((x5_2.length : Int) : Int) := tB; first | exact h_ | (have e_ := (Kd.R_reads' HO_5.out).1; omega) | simpa using h_) (seg := [.int .i64 (wrap64 (((rd_T27 x5_2 x25_2).f0) + (wrap64 ((rd l1 x17_1) * ((rd_T27 ((rd_T70 l0_1 x17_1).f6) x25_2).f0)))))]) (j := 0) hcl31 hcc31 (show 1 ≤ 2 from by decide) (x' := (⟨wrap64 (((rd_T27 x5_2 x25_2).f0) + (wrap64 ((rd l1 x17_1) * ((rd_T27 ((rd_T70 l0_1 x17_1).f6) x25_2).f0)))), (rd_T27 x5_2 x25_2).f1⟩ : S27)) (k27_mkM _ _ _ (⟨wrap64 (((rd_T27 x5_2 x25_2).f0) + (wrap64 ((rd l1 x17_1) * ((rd_T27 ((rd_T70 l0_1 x17_1).f6) x25_2).f0)))), (rd_T27 x5_2 x25_2).f1⟩ : S27) ) (fun _ hk => hk)).1
                rw [← Ny162.out] at HP31
                have HQ31 := Sd.mk HP31; clear hcl31 hcc31 hfr31 hM31 HP31
                refine start_ (n := 16) (S := fun w' => w'.cell? ⟨gb159, 0, none⟩ = some (.int .i64 ((rd_T27 ((rd_T70 l0_1 x17_1).f6) x25_2).f0)) ∧ w'.cell? ⟨gb159, 1, none⟩ = some (.int .i64 ((rd_T27 ((rd_T70 l0_1 x17_1).f6) x25_2).f1)) ∧ w'.cell? ⟨go22, ((x25_2).toNat * 2), none⟩ = some (.int .i64 ((rd_T27 x5_2 x25_2).f0)) ∧ w'.cell? ⟨go22, ((x25_2).toNat * 2) + 1, none⟩ = some (.int .i64 ((rd_T27 x5_2 x25_2).f1)) ∧ w'.cell? (ad161.add (x17_1).toNat) = some (.int .i64 (rd l1 x17_1))) (ds := [15]) (bA 16 0) (by kernel_rfl) rfl rfl ⟨(blk_cell BK159.out 0).trans rfl, (blk_cell BK159.out 1).trans rfl, hx160_0, hx160_1, (cU HB hw161_0 :)⟩ (fun hHeld => ?_); refine with_tabW b_grams.tab8 b_grams.bits8 (fun HT_ HW_ => ?_)
                generalize w28.drew = w29 at HO_5 BK152 BK157 BK159 HB GG22 HQ31 hf22_0 hf22_1 hx160_0 hx160_1 hx161_0 hx22_0 hx22_1 hHeld ⊢
                refine pQ 0 (some 30) (bA 16 1) ?_
                refine pQ 1 (some 31) (bA 16 3) ?_
                refine pQ 2 (some 32) (bA 16 7) ?_
                refine pQ 3 (some 33) (bA 16 15) ?_
                refine pQ 5 (some 35) (bA 16 47) ?_
                refine pQ 6 (some 36) (bA 16 111) ?_
                refine pQ 7 (some 37) (bA 16 239) ?_
                refine pQ 9 (some 39) (bA 16 751) ?_
                refine tQ 4 (some 34) (bA 16 767) ?_
                refine tQ 8 (some 38) (bA 16 1023) ?_
                refine tQ 10 (some 40) (bA 16 2047) ?_
                refine pQ 11 (some 41) (bA 16 4095) ?_
                refine pQ 12 (some 42) (bA 16 8191) ?_
                refine pQ 13 (some 43) (bA 16 16383) ?_
                refine pQ 14 (some 44) (bA 16 32767) ?_
                refine last_ (i := 15) (N := none) (bA 16 65535) rfl rfl (one_of HT_.out (by kernel_rfl)) (by decide) (fun K hK => ?_)
                refine skip_ (w1 := ?_) (by rfl) rfl ?_ ?_
                rotate_left
                ·go_simp
                 rfl
                refine hK.out _ _ ?_
                clear hK K
                refine done_ (done_of HT_.out (by kernel_rfl)) ?_
                try go_wp2
                have n0_ : Sd (Kd.R k27 27 (w29.setCell ⟨go22, (x25_2 : Int).toNat * 2, none⟩ (.int .i64 (wrap64 (((rd_T27 x5_2 x25_2).f0) + (wrap64 ((rd l1 x17_1) * ((rd_T27 ((rd_T70 l0_1 x17_1).f6) x25_2).f0))))))) w.heap.size (fun k_ => k_ ≠ gb159) (.slice (some ⟨go22, 0, none⟩) x5_2.length co30) y162) := ⟨by (with_reducible repeat (first | apply Kd.R_alloc | apply Kd.R_drewN | apply Kd.R_drew)); exact HQ31.out⟩
                have n1_ : Sd ((w29.setCell ⟨go22, (x25_2 : Int).toNat * 2, none⟩ (.int .i64 (wrap64 (((rd_T27 x5_2 x25_2).f0) + (wrap64 ((rd l1 x17_1) * ((rd_T27 ((rd_T70 l0_1 x17_1).f6) x25_2).f0))))))).heap[gb152]? = some (.cells #[.slice A0_0 l0_0.length c0_0, .slice (some ad156) l0_1.length c0_1, .slice A0_2 l0_2.length c0_2, .slice A0_3 l0_3.length c0_3, .int .i64 a0_4, .int .i64 a0_5, .int .i64 a0_6] 29 (0, 0))) := ⟨by refine bkZ ?_; refine blk_far ?_ (by have h_ := Kd.R_ne HO_5.out BK152.out (by decide); intro e_; exact h_ (by rw [e_]; rfl)) _; refine bkZ ?_; exact BK152.out⟩
                have n2_ : Sd ((w29.setCell ⟨go22, (x25_2 : Int).toNat * 2, none⟩ (.int .i64 (wrap64 (((rd_T27 x5_2 x25_2).f0) + (wrap64 ((rd l1 x17_1) * ((rd_T27 ((rd_T70 l0_1 x17_1).f6) x25_2).f0))))))).heap[gb157]? = some (.cells #[.string ((rd_T70 l0_1 x17_1).f0), .int .i64 ((rd_T70 l0_1 x17_1).f1), .int .i64 ((rd_T70 l0_1 x17_1).f2), .int .i64 ((rd_T70 l0_1 x17_1).f3), .int .i64 ((rd_T70 l0_1 x17_1).f4), .int .i64 ((rd_T70 l0_1 x17_1).f5), .slice (some ad158) ((rd_T70 l0_1 x17_1).f6).length c156_6] 70 (0, 0))) := ⟨by refine bkZ ?_; refine blk_far ?_ (by have h_ := Kd.R_ne HO_5.out BK157.out (by decide); intro e_; exact h_ (by rw [e_]; rfl)) _; refine bkZ ?_; exact BK157.out⟩
                have n3_ : Sd ((w29.setCell ⟨go22, (x25_2 : Int).toNat * 2, none⟩ (.int .i64 (wrap64 (((rd_T27 x5_2 x25_2).f0) + (wrap64 ((rd l1 x17_1) * ((rd_T27 ((rd_T70 l0_1 x17_1).f6) x25_2).f0))))))).heap[gb159]? = some (.cells #[.int .i64 ((rd_T27 ((rd_T70 l0_1 x17_1).f6) x25_2).f0), .int .i64 ((rd_T27 ((rd_T70 l0_1 x17_1).f6) x25_2).f1)] 27 (0, 0))) := ⟨by refine bkZ ?_; refine blk_far ?_ (by have h_ := Kd.R_away HO_5.out (fun _ hk => hk); intro e_; exact h_ (by rw [e_]; rfl)) _; refine bkZ ?_; exact BK159.out⟩
                have n4_ : Sd (Below w.heap.size w (w29.setCell ⟨go22, (x25_2 : Int).toNat * 2, none⟩ (.int .i64 (wrap64 (((rd_T27 x5_2 x25_2).f0) + (wrap64 ((rd l1 x17_1) * ((rd_T27 ((rd_T70 l0_1 x17_1).f6) x25_2).f0)))))))) := ⟨bBl HB.out⟩
                (try clear HO_5)
                (try clear BK152)
                (try clear BK157)
                (try clear BK159)
                (try clear HB)
                generalize (w29.setCell ⟨go22, (x25_2 : Int).toNat * 2, none⟩ (.int .i64 (wrap64 (((rd_T27 x5_2 x25_2).f0) + (wrap64 ((rd l1 x17_1) * ((rd_T27 ((rd_T70 l0_1 x17_1).f6) x25_2).f0))))))) = w32 at n0_ n1_ n2_ n3_ n4_ ⊢
                have HO_5 := n0_; have BK152 := n1_; have BK157 := n2_; have BK159 := n3_; have HB := n4_; clear n0_ n1_ n2_ n3_ n4_; replace HO_5 := Sd.mk (Kd.R_drew HO_5.out); replace BK152 := Sd.mk (blk_drew BK152.out); replace BK157 := Sd.mk (blk_drew BK157.out); replace BK159 := Sd.mk (blk_drew BK159.out); replace HB := Sd.mk (below_drew1 HB.out)
                have p163 : 0 ≤ (x25_2 : Int) := tB
                have q163 : x25_2 < (y162.length : Int) := (by have h_ : (x25_2 : Int) < ((x5_2.length : Int) : Int) := tB; first | (have e_ := (Kd.R_reads' HO_5.out).1; omega) | simpa only [Ny162.out, List.length_set] using h_)
                have ql163 : ((x25_2 : Int) < ((x5_2.length : Int) : Int)) = True := eq_true (tB)
                obtain ⟨ad163, e163, hx163_0, hx163_1⟩ := at_T27 (Kd.R_reads' HO_5.out).2.2 x25_2 p163 q163
                obtain rfl : (⟨go22, 0, none⟩ : Addr) = ad163 := (by injection e163)
                (first | simp only [add_plain] at hx163_0 | simp only [add_at] at hx163_0 | simp only [Addr.add, Nat.zero_add] at hx163_0 | skip)
                (first | simp only [add_plain] at hx163_1 | simp only [add_at] at hx163_1 | simp only [Addr.add, Nat.zero_add] at hx163_1 | skip)
                replace p163 := eq_true p163; replace q163 := eq_true q163
                have p164 : 0 ≤ (x17_1 : Int) := tB
                have q164 : x17_1 < (l1.length : Int) := tB
                obtain ⟨ad164, e164, hx164_0⟩ := Kd.at_int HR1.out x17_1 p164 q164; have hw164_0 := hx164_0
                obtain rfl : ad161 = ad164 := (by injection e164)
                replace hx164_0 := cU HB hx164_0; replace p164 := eq_true p164; replace q164 := eq_true q164
                have p23 : 0 ≤ (x25_2 : Int) := tB
                have q23 : (x25_2 : Int) < ((x5_2.length : Int) : Int) := tB
                obtain ⟨ce23, hcl23, hM23, hcc23, hfr23⟩ := Kd.R_elem HO_5.out z27 (x25_2 : Int) p23 q23; obtain rfl := k27_openM hM23
                have hx23_0 : World.cell? _ ⟨go22, (x25_2 : Int).toNat * 2, none⟩ = some (.int .i64 ((rd_T27 y162 x25_2).f0)) := hcc23 0 _ rfl
                have hx23_1 : World.cell? _ ⟨go22, (x25_2 : Int).toNat * 2 + 1, none⟩ = some (.int .i64 ((rd_T27 y162 x25_2).f1)) := hcc23 1 _ rfl
                have hf23_0 : World.frozen? _ ⟨go22, (x25_2 : Int).toNat * 2, none⟩ = false := hfr23 0
                have hf23_1 : World.frozen? _ ⟨go22, (x25_2 : Int).toNat * 2 + 1, none⟩ = false := hfr23 1
                clear hcl23 hcc23 hfr23 hM23; replace p23 := eq_true p23; replace q23 := eq_true q23
                obtain ⟨ce34, hcl34, hM34, hcc34, hfr34⟩ := Kd.R_elem HO_5.out z27 (x25_2 : Int) (tB) (by have h_ : (x25_2 : Int) < ((x5_2.length : Int) : Int) := tB; first | exact h_ | (have e_ := (Kd.R_reads' HO_5.out).1; omega) | simpa using h_)
                obtain rfl := k27_openM hM34
                have HP34 := (Kd.R_seg HO_5.out (x25_2 : Int) (tB) (by have h_ : (x25_2 : Int) < ((x5_2.length : Int) : Int) := tB; first | exact h_ | (have e_ := (Kd.R_reads' HO_5.out).1; omega) | simpa using h_) (seg := [.int .i64 (wrap64 (((rd_T27 y162 x25_2).f1) + (wrap64 ((rd l1 x17_1) * ((rd_T27 ((rd_T70 l0_1 x17_1).f6) x25_2).f1)))))]) (j := 1) hcl34 hcc34 (show 2 ≤ 2 from by decide) (x' := (⟨(rd_T27 y162 x25_2).f0, wrap64 (((rd_T27 y162 x25_2).f1) + (wrap64 ((rd l1 x17_1) * ((rd_T27 ((rd_T70 l0_1 x17_1).f6) x25_2).f1))))⟩ : S27)) (k27_mkM _ _ _ (⟨(rd_T27 y162 x25_2).f0, wrap64 (((rd_T27 y162 x25_2).f1) + (wrap64 ((rd l1 x17_1) * ((rd_T27 ((rd_T70 l0_1 x17_1).f6) x25_2).f1))))⟩ : S27) ) (fun _ hk => hk)).1
                rw [← Ny165.out] at HP34
                have HQ34 := Sd.mk HP34; clear hcl34 hcc34 hfr34 hM34 HP34
                refine start_ (n := 16) (S := fun w' => w'.cell? ⟨gb159, 0, none⟩ = some (.int .i64 ((rd_T27 ((rd_T70 l0_1 x17_1).f6) x25_2).f0)) ∧ w'.cell? ⟨gb159, 1, none⟩ = some (.int .i64 ((rd_T27 ((rd_T70 l0_1 x17_1).f6) x25_2).f1)) ∧ w'.cell? ⟨go22, (x25_2).toNat * 2, none⟩ = some (.int .i64 ((rd_T27 y162 x25_2).f0)) ∧ w'.cell? ⟨go22, (x25_2).toNat * 2 + 1, none⟩ = some (.int .i64 ((rd_T27 y162 x25_2).f1)) ∧ w'.cell? (ad161.add (x17_1).toNat) = some (.int .i64 (rd l1 x17_1))) (ds := [15]) (bA 16 0) (by kernel_rfl) rfl rfl ⟨(blk_cell BK159.out 0).trans rfl, (blk_cell BK159.out 1).trans rfl, hx163_0, hx163_1, (cU HB hw164_0 :)⟩ (fun hHeld => ?_); refine with_tabW b_grams.tab9 b_grams.bits9 (fun HT_ HW_ => ?_)
                generalize w32.drew = w33 at HO_5 BK152 BK157 BK159 HB HQ31 HQ34 hf23_0 hf23_1 hx163_0 hx163_1 hx164_0 hx23_0 hx23_1 hHeld ⊢
                refine pQ 0 (some 45) (bA 16 1) ?_
                refine pQ 1 (some 46) (bA 16 3) ?_
                refine pQ 2 (some 47) (bA 16 7) ?_
                refine pQ 3 (some 48) (bA 16 15) ?_
                refine pQ 5 (some 50) (bA 16 47) ?_
                refine pQ 6 (some 51) (bA 16 111) ?_
                refine pQ 7 (some 52) (bA 16 239) ?_
                refine pQ 9 (some 54) (bA 16 751) ?_
                refine tQ 4 (some 49) (bA 16 767) ?_
                refine tQ 8 (some 53) (bA 16 1023) ?_
                refine tQ 10 (some 55) (bA 16 2047) ?_
                refine pQ 11 (some 56) (bA 16 4095) ?_
                refine pQ 12 (some 57) (bA 16 8191) ?_
                refine pQ 13 (some 58) (bA 16 16383) ?_
                refine pQ 14 (some 59) (bA 16 32767) ?_
                refine last_ (i := 15) (N := none) (bA 16 65535) rfl rfl (one_of HT_.out (by kernel_rfl)) (by decide) (fun K hK => ?_)
                refine skip_ (w1 := ?_) (by rfl) rfl ?_ ?_
                rotate_left
                ·go_simp
                 rfl
                refine hK.out _ _ ?_
                clear hK K
                refine done_ (done_of HT_.out (by kernel_rfl)) ?_
                try go_wp2
                go_roundg k2
                case measure => have := HK1.out; have := HK2.out; omega
                case rel => exact ⟨(y165), (wrap64 (x25_2 + 1)), tS, H', ⟨by have := HK1.out; have := HK2.out; omega⟩, ⟨by (with_reducible repeat (first | apply Kd.R_alloc | apply Kd.R_drewN | apply Kd.R_drew)); exact Kd.R_mono HQ34.out (fun _ hk => trivial)⟩, ⟨by refine bkZ ?_; refine blk_far ?_ (by have h_ := Kd.R_ne HO_5.out BK152.out (by decide); intro e_; exact h_ (by rw [e_]; rfl)) _; refine bkZ ?_; exact BK152.out⟩, ⟨by refine bkZ ?_; refine blk_far ?_ (by have h_ := Kd.R_ne HO_5.out BK157.out (by decide); intro e_; exact h_ (by rw [e_]; rfl)) _; refine bkZ ?_; exact BK157.out⟩, ⟨bBl HB.out⟩⟩
               ·rw [if_neg c21] at H
                exact absurd H (by simp)
              ·rw [if_neg c20] at H
               exact absurd H (by simp)
             ·rw [if_neg c19] at H
              exact absurd H (by simp)
            ·rw [if_neg c18] at H
             exact absurd H (by simp)
           ·rw [if_neg c17] at H
            exact absurd H (by simp)
          ·rw [if_neg c16] at H
           have c16b0 : decide (x25_2 < (((rd_T70 l0_1 x17_1).f6).length : Int)) = false := decide_eq_false c16
           clear c16; have H' := Sd.mk H; clear H
           go_wp2
           go_roundg k2
           case measure => have := HK1.out; have := HK2.out; omega
           case rel => exact ⟨(x5_2), (wrap64 (x17_1 + 1)), tS, H', ⟨by have := HK1.out; have := HK2.out; omega⟩, ⟨by (with_reducible repeat (first | apply Kd.R_alloc | apply Kd.R_drewN | apply Kd.R_drew)); exact HO_5.out⟩, ⟨bkA BK152.out⟩, ⟨bBl HB.out⟩⟩
       ·rw [if_neg c12] at H
        exact absurd H (by simp)
      ·rw [if_neg c11] at H
       exact absurd H (by simp)
     ·rw [if_neg c10] at H
      have c10b0 : decide (x17_1 < (l0_1.length : Int)) = false := decide_eq_false c10
      clear c10; obtain rfl := Option.some.inj H
      go_wp2
      go_ret
      exact ⟨_, tE, by (with_reducible repeat (first | apply Kd.R_alloc | apply Kd.R_drewN | apply Kd.R_drew)); exact HO_5.out, bBl HB.out⟩
  ·rw [if_neg c4] at H
   exact absurd H (by simp)
 ·rw [if_neg c3] at H
  exact absurd H (by simp)
end
section
def b_Grams.f (k : Nat) (l0_0 : List ByteArray) (l0_1 : List (S70)) (l0_2 : List (S27)) (l0_3 : List (S89)) (a0_4 : Int) (a0_5 : Int) (a0_6 : Int) (l1 : List Int) : Option ((List (S27)) × Int) := (b_asked.f k l0_0 l0_1 l0_2 l0_3 a0_4 a0_5 a0_6 l1).bind fun t167 => (if t167 = 0 then ((b_grams.f k l0_0 l0_1 l0_2 l0_3 a0_4 a0_5 a0_6 l1).bind fun t168 => (some (t168, 0))) else (some (([] : List (S27)), t167)))
theorem b_Grams.calls (k : Nat) (A0_0 : Option Addr) (c0_0 : Nat) (l0_0 : List ByteArray) (A0_1 : Option Addr) (c0_1 : Nat) (l0_1 : List (S70)) (A0_2 : Option Addr) (c0_2 : Nat) (l0_2 : List (S27)) (A0_3 : Option Addr) (c0_3 : Nat) (l0_3 : List (S89)) (a0_4 : Int) (a0_5 : Int) (a0_6 : Int) (A1 : Option Addr) (c1 : Nat) (l1 : List Int) (r1 : List (S27)) (r2 : Int) (w : World) (hr0_0 : Kd.C Kd.string w A0_0 l0_0.length l0_0) (hc0_0 : l0_0.length ≤ c0_0) (hr0_1 : Kd.C k70 w A0_1 l0_1.length l0_1) (hc0_1 : l0_1.length ≤ c0_1) (hr0_2 : Kd.C k27 w A0_2 l0_2.length l0_2) (hc0_2 : l0_2.length ≤ c0_2) (hr0_3 : Kd.C k89 w A0_3 l0_3.length l0_3) (hc0_3 : l0_3.length ≤ c0_3) (hr1 : Kd.C (Kd.int .i64) w A1 l1.length l1) (hc1 : l1.length ≤ c1) (h : b_Grams.f k l0_0 l0_1 l0_2 l0_3 a0_4 a0_5 a0_6 l1 = some (r1, r2)) :
  Calls Tryz.prog 162 #[.agg #[.slice A0_0 l0_0.length c0_0, .slice A0_1 l0_1.length c0_1, .slice A0_2 l0_2.length c0_2, .slice A0_3 l0_3.length c0_3, .int .i64 a0_4, .int .i64 a0_5, .int .i64 a0_6], .slice A1 l1.length c1] w fun e w' => ∃ v0_ : Value, e = .returned (.tuple #[v0_, .int .i64 r2]) ∧ Kd.R k27 27 w' w.heap.size (fun _ => True) v0_ r1 ∧ Below w.heap.size w w' := by
 have hu29 := Tryz.underlying29; have HR0_0 := Sd.mk hr0_0; have HC0_0 := Sd.mk hc0_0; clear hr0_0 hc0_0; have HR0_1 := Sd.mk hr0_1; have HC0_1 := Sd.mk hc0_1; clear hr0_1 hc0_1; have HR0_2 := Sd.mk hr0_2; have HC0_2 := Sd.mk hc0_2; clear hr0_2 hc0_2; have HR0_3 := Sd.mk hr0_3; have HC0_3 := Sd.mk hc0_3; clear hr0_3 hc0_3; have HR1 := Sd.mk hr1; have HC1 := Sd.mk hc1; clear hr1 hc1; have HB := Sd.mk (Below.refl w.heap.size w)
 have H : ((b_asked.f k l0_0 l0_1 l0_2 l0_3 a0_4 a0_5 a0_6 l1).bind fun t167 => (if t167 = 0 then ((b_grams.f k l0_0 l0_1 l0_2 l0_3 a0_4 a0_5 a0_6 l1).bind fun t168 => (some (t168, 0))) else (some (([] : List (S27)), t167)))) = some (r1, r2) := h
 clear h; replace H := Option.bind_eq_some_iff.mp H; obtain ⟨t167, A30, H⟩ := H
 try dsimp only at H
 have A3 := Sd.mk A30; clear A30
 by_cases c4 : t167 = 0
 ·rw [if_pos c4] at H
  have c4b0 : (t167 == 0) = true := beq_iff_eq.mpr c4
  have c4b1 : (t167 != 0) = false := bne_eq_false_iff_eq.mpr c4
  clear c4; replace H := Option.bind_eq_some_iff.mp H; obtain ⟨t168, A50, H⟩ := H
  try dsimp only at H
  have A5 := Sd.mk A50; clear A50
  simp only [Option.some.injEq, Prod.mk.injEq] at H
  obtain ⟨rfl, rfl⟩ := H
  go_enter Tryz.func162, Tryz.ntmps162
  go_wp2_with (first | ((with_reducible refine gate_dst (N := 2) rfl ?_); refine box_event ?hg (N := 2) ?hd (cs := #[.slice A0_0 l0_0.length c0_0, .slice A0_1 l0_1.length c0_1, .slice A0_2 l0_2.length c0_2, .slice A0_3 l0_3.length c0_3, .int .i64 a0_4, .int .i64 a0_5, .int .i64 a0_6]) (t := 29) ?hr ?_; (case hd => rfl); (case hg => rfl); (case hr => exact tG); intro gb166 hg w6 hbox hb; have BK166 := Sd.mk (hbox); have GW166 := Sd.mk (bSz hg (bBl HB.out)); have GE166 := Sd.mk (bSz hg (bBl HB.out)); replace HB := Sd.mk (below_step (bBl HB.out) hb); clear hb hbox hg; obtain ⟨u7_0, u7_1, u7_2, u7_3, u7_4, u7_5, u7_6, o7_0, o7_1, o7_2, o7_3, o7_4, o7_5, o7_6⟩ := bc7 (w := w6) BK166.out) | ((with_reducible refine gate_callee (f := 50) rfl ?_); refine goesL_ (some 9) rfl rfl Tryz.func50 (by kernel_rfl) rfl #[.agg #[.slice A0_0 l0_0.length c0_0, .slice A0_1 l0_1.length c0_1, .slice A0_2 l0_2.length c0_2, .slice A0_3 l0_3.length c0_3, .int .i64 a0_4, .int .i64 a0_5, .int .i64 a0_6], .slice A1 l1.length c1] rfl tM ?_; (with_reducible refine (b_asked.calls k _ _ l0_0 _ _ l0_1 _ _ l0_2 _ _ l0_3 a0_4 a0_5 a0_6 _ _ l1 t167 _ (cS (Kd.C_below HR0_0.out HB.out)) HC0_0.out (cS (Kd.C_below HR0_1.out HB.out)) HC0_1.out (cS (Kd.C_below HR0_2.out HB.out)) HC0_2.out (cS (Kd.C_below HR0_3.out HB.out)) HC0_3.out (cS (Kd.C_below HR1.out HB.out)) HC1.out A3.out).mono ?_); rintro e w8 ⟨rfl, hb⟩; refine ⟨_, rfl, ?_⟩; replace BK166 := Sd.mk (blk_below (bkA BK166.out) hb); replace HB := Sd.mk (below_step (bBl HB.out) hb); (try clear hb); (try clear hb2); (try clear hk); (try clear hi); obtain ⟨u9_0, u9_1, u9_2, u9_3, u9_4, u9_5, u9_6, o9_0, o9_1, o9_2, o9_3, o9_4, o9_5, o9_6⟩ := bc7 (w := w8) BK166.out) | ((with_reducible refine gate_callee (f := 204) rfl ?_); refine goesL_ (some 15) rfl rfl Tryz.func204 (by kernel_rfl) rfl #[.agg #[.slice A0_0 l0_0.length c0_0, .slice A0_1 l0_1.length c0_1, .slice A0_2 l0_2.length c0_2, .slice A0_3 l0_3.length c0_3, .int .i64 a0_4, .int .i64 a0_5, .int .i64 a0_6], .slice A1 l1.length c1] rfl tM ?_; (with_reducible refine (b_grams.calls k _ _ l0_0 _ _ l0_1 _ _ l0_2 _ _ l0_3 a0_4 a0_5 a0_6 _ _ l1 t168 _ (cS (Kd.C_below HR0_0.out HB.out)) HC0_0.out (cS (Kd.C_below HR0_1.out HB.out)) HC0_1.out (cS (Kd.C_below HR0_2.out HB.out)) HC0_2.out (cS (Kd.C_below HR0_3.out HB.out)) HC0_3.out (cS (Kd.C_below HR1.out HB.out)) HC1.out A5.out).mono ?_); rintro e w10 ⟨v169, rfl, ho0, hb⟩; refine ⟨_, rfl, ?_⟩; have HO170 := Sd.mk (Kd.R_lower ho0 (below_size (bBl HB.out))); replace BK166 := Sd.mk (blk_below (bkA BK166.out) hb); replace HB := Sd.mk (below_step (bBl HB.out) hb); (try clear hb); (try clear hb2); (try clear hk); (try clear hi); (try clear ho0)))
  go_ret2
  exact ⟨_, tE, by (with_reducible repeat (first | apply Kd.R_alloc | apply Kd.R_drewN | apply Kd.R_drew)); exact HO170.out, bBl HB.out⟩
 ·rw [if_neg c4] at H
  have c4b0 : (t167 == 0) = false := beq_eq_false_iff_ne.mpr c4
  have c4b1 : (t167 != 0) = true := bne_iff_ne.mpr c4
  simp only [Option.some.injEq, Prod.mk.injEq] at H
  obtain ⟨rfl, rfl⟩ := H
  go_enter Tryz.func162, Tryz.ntmps162
  go_wp2_with (first | ((with_reducible refine gate_dst (N := 2) rfl ?_); refine box_event ?hg (N := 2) ?hd (cs := #[.slice A0_0 l0_0.length c0_0, .slice A0_1 l0_1.length c0_1, .slice A0_2 l0_2.length c0_2, .slice A0_3 l0_3.length c0_3, .int .i64 a0_4, .int .i64 a0_5, .int .i64 a0_6]) (t := 29) ?hr ?_; (case hd => rfl); (case hg => rfl); (case hr => exact tG); intro gb166 hg w11 hbox hb; have BK166 := Sd.mk (hbox); have GW166 := Sd.mk (bSz hg (bBl HB.out)); have GE166 := Sd.mk (bSz hg (bBl HB.out)); replace HB := Sd.mk (below_step (bBl HB.out) hb); clear hb hbox hg; obtain ⟨u12_0, u12_1, u12_2, u12_3, u12_4, u12_5, u12_6, o12_0, o12_1, o12_2, o12_3, o12_4, o12_5, o12_6⟩ := bc7 (w := w11) BK166.out) | ((with_reducible refine gate_callee (f := 50) rfl ?_); refine goesL_ (some 9) rfl rfl Tryz.func50 (by kernel_rfl) rfl #[.agg #[.slice A0_0 l0_0.length c0_0, .slice A0_1 l0_1.length c0_1, .slice A0_2 l0_2.length c0_2, .slice A0_3 l0_3.length c0_3, .int .i64 a0_4, .int .i64 a0_5, .int .i64 a0_6], .slice A1 l1.length c1] rfl tM ?_; (with_reducible refine (b_asked.calls k _ _ l0_0 _ _ l0_1 _ _ l0_2 _ _ l0_3 a0_4 a0_5 a0_6 _ _ l1 t167 _ (cS (Kd.C_below HR0_0.out HB.out)) HC0_0.out (cS (Kd.C_below HR0_1.out HB.out)) HC0_1.out (cS (Kd.C_below HR0_2.out HB.out)) HC0_2.out (cS (Kd.C_below HR0_3.out HB.out)) HC0_3.out (cS (Kd.C_below HR1.out HB.out)) HC1.out A3.out).mono ?_); rintro e w13 ⟨rfl, hb⟩; refine ⟨_, rfl, ?_⟩; replace BK166 := Sd.mk (blk_below (bkA BK166.out) hb); replace HB := Sd.mk (below_step (bBl HB.out) hb); (try clear hb); (try clear hb2); (try clear hk); (try clear hi)))
  go_ret2
  exact ⟨_, tE, by first | exact Kd.R_nil _ _ _ _ _ | exact Kd.N_nil _ _ _ _ _ | exact Kd.V_nil _ _ _ _ _ | exact Kd.Q_nil _ _ _ _ _ | exact Kd.S_nil _ _ _ _ _, bBl HB.out⟩
end
section
def b_weight.l0 : Nat → List (S27) → Int → Int → Int → Int → Option (Int × Int)
 | 0, _, _, _, _, _ => none
 | k + 1, x6, x7, x8, x173q0, x173q1 => if x8 < x7 then (if 0 ≤ x8 then (if x8 < (x6.length : Int) then (b_weight.l0 k x6 x7 (wrap64 (x8 + 1)) (wrap64 (x173q0 + ((rd_T27 x6 x8).f0))) (wrap64 (x173q1 + ((rd_T27 x6 x8).f1)))) else (none)) else (none)) else (some (x173q0, x173q1))
def b_weight.f (k : Nat) (l0 : List (S27)) : Option (Int × Int) := b_weight.l0 k l0 (l0.length : Int) 0 0 0
theorem b_weight.calls (k : Nat) (A0 : Option Addr) (c0 : Nat) (l0 : List (S27)) (r1 : Int) (r2 : Int) (w : World) (hr0 : Kd.C k27 w A0 l0.length l0) (hc0 : l0.length ≤ c0) (h : b_weight.f k l0 = some (r1, r2)) :
  Calls Tryz.prog 163 #[.slice A0 l0.length c0] w fun e w' => e = .returned (.agg #[.int .i64 r1, .int .i64 r2]) ∧ Below w.heap.size w w' := by
 have hu27 := Tryz.underlying27; have HR0 := Sd.mk hr0; have HC0 := Sd.mk hc0; clear hr0 hc0; have HB := Sd.mk (Below.refl w.heap.size w)
 have H : (b_weight.l0 k l0 (l0.length : Int) 0 0 0) = some (r1, r2) := h
 clear h; have H' := Sd.mk H; clear H
 go_enter Tryz.func163, Tryz.ntmps163
 go_wp2_with (first | ((with_reducible refine gate_dst (N := 2) rfl ?_); refine box_event ?hg (N := 2) ?hd (cs := #[.int .i64 0, .int .i64 0]) (t := 27) ?hr ?_; (case hd => rfl); (case hg => rfl); (case hr => exact tG); intro gb171 hg w2 hbox hb; have BK171 := Sd.mk (hbox); have GW171 := Sd.mk (bSz hg (bBl HB.out)); have GE171 := Sd.mk (bSz hg (bBl HB.out)); replace HB := Sd.mk (below_step (bBl HB.out) hb); clear hb hbox hg) | ((with_reducible refine gate_dst (N := 3) rfl ?_); refine box_event ?hg (N := 3) ?hd (cs := #[.int .i64 0, .int .i64 0]) (t := 27) ?hr ?_; (case hd => rfl); (case hg => rfl); (case hr => exact tG); intro gb172 hg w3 hbox hb; have BK172 := Sd.mk (hbox); have GW172 := Sd.mk (bSz hg (bBl HB.out)); have GE172 := Sd.mk (bSz hg (bBl HB.out)); replace HB := Sd.mk (below_step (bBl HB.out) hb); have NB171_172 := Sd.mk (bNl hg (bkA BK171.out)); have NB172_171 := Sd.mk (bNg hg (bkA BK171.out)); replace BK171 := Sd.mk (blk_below (bkA BK171.out) hb); clear hb hbox hg))
 go_loopg [8] k (fun kq v8 w' => ∃ (x8_1 : Int) (x173000_1 : Int) (x173001_1 : Int), v8 = .int .i64 x8_1 ∧ Sd (b_weight.l0 kq l0 (l0.length : Int) x8_1 x173000_1 x173001_1 = some (r1, r2)) ∧ Sd (kq ≤ k) ∧ Sd (w'.heap[gb171]? = some (.cells #[.int .i64 0, .int .i64 0] 27 (0, 0))) ∧ Sd (w'.heap[gb172]? = some (.cells #[.int .i64 x173000_1, .int .i64 x173001_1] 27 (0, 0))) ∧ Sd (Below w.heap.size w w'))
 case atStart => exact ⟨(0), (0), (0), tS, H', ⟨Nat.le_refl _⟩, ⟨bkA BK171.out⟩, ⟨bkA BK172.out⟩, ⟨bBl HB.out⟩⟩
 case round =>
  clear H'; (try clear c1); (try clear p2); obtain ⟨x8_1, x173000_1, x173001_1, rfl, HA, HK1, BK171, BK172, HB⟩ := hrel
  cases gk with
  | zero => exact absurd HA.out (by simp [b_weight.l0])
  | succ k1 =>
   have H := HA.out; clear HA
   simp only [b_weight.l0] at H
   by_cases c4 : x8_1 < (l0.length : Int)
   ·rw [if_pos c4] at H
    have c4b0 : decide (x8_1 < (l0.length : Int)) = true := decide_eq_true c4
    clear c4
    by_cases c5 : 0 ≤ x8_1
    ·rw [if_pos c5] at H
     have c5b0 : decide (0 ≤ x8_1) = true := decide_eq_true c5
     clear c5
     by_cases c6 : x8_1 < (l0.length : Int)
     ·rw [if_pos c6] at H
      have c6b0 : decide (x8_1 < (l0.length : Int)) = true := decide_eq_true c6
      clear c6; have H' := Sd.mk H; clear H
      have p173 : 0 ≤ (x8_1 : Int) := tB
      have q173 : x8_1 < (l0.length : Int) := tB
      obtain ⟨ad173, e173, hx173_0, hx173_1⟩ := at_T27 HR0.out x8_1 p173 q173; cases e173; replace hx173_0 := cU HB hx173_0; replace hx173_1 := cU HB hx173_1; replace p173 := eq_true p173; replace q173 := eq_true q173
      go_wp2_with (first | ((with_reducible refine gate_dst (N := 5) rfl ?_); refine box_event ?hg (N := 5) ?hd (cs := #[.int .i64 0, .int .i64 0]) (t := 27) ?hr ?_; (case hd => rfl); (case hg => rfl); (case hr => exact tG); intro gb174 hg w7 hbox hb; have BK174 := Sd.mk (hbox); have GW174 := Sd.mk (bSz hg (bBl HB.out)); have GE174 := Sd.mk (bSz hg (bBl HB.out)); replace HB := Sd.mk (below_step (bBl HB.out) hb); have NB171_174 := Sd.mk (bNl hg (bkA BK171.out)); have NB174_171 := Sd.mk (bNg hg (bkA BK171.out)); replace BK171 := Sd.mk (blk_below (bkA BK171.out) hb); have NB172_174 := Sd.mk (bNl hg (bkA BK172.out)); have NB174_172 := Sd.mk (bNg hg (bkA BK172.out)); replace BK172 := Sd.mk (blk_below (bkA BK172.out) hb); clear hb hbox hg; have hnb8 := NB174_171.out; have hnc8 := NB171_174.out; have hnb9 := NB174_172.out; have hnc9 := NB172_174.out; obtain ⟨u10_0, u10_1, o10_0, o10_1⟩ := bc2 (w := w7) BK174.out; have hnb11 := NB172_171.out; have hnc11 := NB171_172.out; obtain ⟨u12_0, u12_1, o12_0, o12_1⟩ := bc2 (w := w7) BK172.out))
      go_roundg k1
      case measure => have := HK1.out; omega
      case rel => exact ⟨(wrap64 (x8_1 + 1)), (wrap64 (x173000_1 + ((rd_T27 l0 x8_1).f0))), (wrap64 (x173001_1 + ((rd_T27 l0 x8_1).f1))), tS, H', ⟨by have := HK1.out; omega⟩, ⟨by refine bkZ ?_; refine blk_far ?_ NB171_172.out _; refine bkZ ?_; refine blk_far ?_ NB171_172.out _; refine bkZ ?_; refine blk_far ?_ NB171_174.out _; refine bkZ ?_; refine blk_far ?_ NB171_174.out _; refine bkZ ?_; exact BK171.out⟩, ⟨by refine bkZ ?_; refine blk_put (cs := #[.int .i64 (wrap64 (x173000_1 + ((rd_T27 l0 x8_1).f0))), .int .i64 x173001_1]) ?_ 1 _ rfl; refine bkZ ?_; refine blk_put (cs := #[.int .i64 x173000_1, .int .i64 x173001_1]) ?_ 0 _ rfl; refine bkZ ?_; refine blk_far ?_ NB172_174.out _; refine bkZ ?_; refine blk_far ?_ NB172_174.out _; refine bkZ ?_; exact BK172.out⟩, ⟨bBl HB.out⟩⟩
     ·rw [if_neg c6] at H
      exact absurd H (by simp)
    ·rw [if_neg c5] at H
     exact absurd H (by simp)
   ·rw [if_neg c4] at H
    have c4b0 : decide (x8_1 < (l0.length : Int)) = false := decide_eq_false c4
    clear c4
    simp only [Option.some.injEq, Prod.mk.injEq] at H
    obtain ⟨rfl, rfl⟩ := H; have hnb13 := NB172_171.out; have hnc13 := NB171_172.out; obtain ⟨u14_0, u14_1, o14_0, o14_1⟩ := bc2 (w := wr) BK172.out; obtain ⟨u15_0, u15_1, o15_0, o15_1⟩ := bc2 (w := wr) BK171.out
    go_wp2
    refine bodyPost_ret (results_cell_row rfl _ _ gb171 27 #[.int .i64 x173000_1, .int .i64 x173001_1] (0, 0) _ rfl (by refine bkZ ?_; refine blk_put (cs := #[.int .i64 x173000_1, .int .i64 0]) ?_ 1 _ rfl; refine bkZ ?_; refine blk_put (cs := #[.int .i64 0, .int .i64 0]) ?_ 0 _ rfl; refine bkZ ?_; exact BK171.out) Tryz.underlying27 rfl (by kernel_rfl)) rfl ?_
    exact ⟨tE, bBl HB.out⟩
end
section
def x_glass.f (k : Nat) (l0_0 : List ByteArray) (l0_1 : List (S70)) (l0_2 : List (S27)) (l0_3 : List (S89)) (a0_4 : Int) (a0_5 : Int) (a0_6 : Int) (l1 : List Int) : Option ((List (S27)) × Int) := (b_Grams.f k l0_0 l0_1 l0_2 l0_3 a0_4 a0_5 a0_6 l1).bind fun p => if p.2 = 0 then ((b_weight.f k p.1).bind fun q => if q.1 = 0 then some ([], 8) else some (p.1, p.2)) else some (p.1, p.2)
theorem field27_0 (w : World) (a b : Int) : (Instr.field 27 (.agg #[.int .i64 a, .int .i64 b]) 0).run Tryz.prog w = .ok (.int .i64 a) w := by kernel_rfl
theorem x_glass.calls (k : Nat) (A0_0 : Option Addr) (c0_0 : Nat) (l0_0 : List ByteArray) (A0_1 : Option Addr) (c0_1 : Nat) (l0_1 : List (S70)) (A0_2 : Option Addr) (c0_2 : Nat) (l0_2 : List (S27)) (A0_3 : Option Addr) (c0_3 : Nat) (l0_3 : List (S89)) (a0_4 : Int) (a0_5 : Int) (a0_6 : Int) (A1 : Option Addr) (c1 : Nat) (l1 : List Int) (r1 : List (S27)) (r2 : Int) (w : World) (hr0_0 : Kd.C Kd.string w A0_0 l0_0.length l0_0) (hc0_0 : l0_0.length ≤ c0_0) (hr0_1 : Kd.C k70 w A0_1 l0_1.length l0_1) (hc0_1 : l0_1.length ≤ c0_1) (hr0_2 : Kd.C k27 w A0_2 l0_2.length l0_2) (hc0_2 : l0_2.length ≤ c0_2) (hr0_3 : Kd.C k89 w A0_3 l0_3.length l0_3) (hc0_3 : l0_3.length ≤ c0_3) (hr1 : Kd.C (Kd.int .i64) w A1 l1.length l1) (hc1 : l1.length ≤ c1) (h : x_glass.f k l0_0 l0_1 l0_2 l0_3 a0_4 a0_5 a0_6 l1 = some (r1, r2)) :
    Calls Tryz.prog 83 #[.agg #[.slice A0_0 l0_0.length c0_0, .slice A0_1 l0_1.length c0_1, .slice A0_2 l0_2.length c0_2, .slice A0_3 l0_3.length c0_3, .int .i64 a0_4, .int .i64 a0_5, .int .i64 a0_6], .slice A1 l1.length c1] w fun e w' => ∃ v0_ : Value, e = .returned (.tuple #[v0_, .int .i64 r2]) ∧ Kd.R k27 27 w' w.heap.size (fun _ => True) v0_ r1 ∧ Below w.heap.size w w' := by
  unfold x_glass.f at h
  obtain ⟨p, hp, H⟩ := Option.bind_eq_some_iff.mp h
  have hG := fun (W : World) (hb : Below w.heap.size w W) => b_Grams.calls k A0_0 c0_0 l0_0 A0_1 c0_1 l0_1 A0_2 c0_2 l0_2 A0_3 c0_3 l0_3 a0_4 a0_5 a0_6 A1 c1 l1 p.1 p.2 W (Kd.C_below hr0_0 hb) hc0_0 (Kd.C_below hr0_1 hb) hc0_1 (Kd.C_below hr0_2 hb) hc0_2 (Kd.C_below hr0_3 hb) hc0_3 (Kd.C_below hr1 hb) hc1 hp
  have HG := Sd.mk hG
  clear hG h hp hr0_0 hr0_1 hr0_2 hr0_3 hr1
  obtain ⟨pl, pe⟩ := p
  dsimp only at H HG
  have hb0 : Below w.heap.size w (w.alloc (.cells #[.slice A0_0 l0_0.length c0_0, .slice A0_1 l0_1.length c0_1, .slice A0_2 l0_2.length c0_2, .slice A0_3 l0_3.length c0_3, .int .i64 a0_4, .int .i64 a0_5, .int .i64 a0_6] 29)) := below_alloc (Below.refl _ _) _
  have hgo := HG.out _ hb0
  have HB0 := Sd.mk hb0
  clear hb0 HG
  have HH := Sd.mk H
  clear H
  have hfld := field27_0
  go_enter Tryz.func83, Tryz.ntmps83
  go_wp2_with fail
  refine hgo.mono ?_
  clear hgo
  rintro e w1 ⟨v, rfl, hR, hb⟩
  have hR0 := Kd.R_lower (base' := w.heap.size) hR (by simp)
  obtain ⟨A, c, rfl, hlc, hC⟩ := Kd.R_reads hR
  have HR := Sd.mk hR0
  have HB := Sd.mk (below_trans' HB0.out hb)
  have HC := Sd.mk hC
  have H := HH.out
  clear hR hb HB0 hR0 hC HH
  by_cases he : pe = 0
  · rw [if_pos he] at H
    obtain ⟨q, hq, H⟩ := Option.bind_eq_some_iff.mp H
    have hW := fun (W : World) (hb : Below w1.heap.size w1 W) => b_weight.calls k A c pl q.1 q.2 W (Kd.C_below HC.out hb) hlc hq
    have HW := Sd.mk (hW w1 (Below.refl _ _))
    clear hW hq
    have heb : (pe == 0) = true := beq_iff_eq.mpr he
    obtain ⟨q1, q2⟩ := q
    dsimp only at H HW
    have HH := Sd.mk H
    have HE := Sd.mk he
    clear H he
    go_wp2_with fail
    refine HW.out.mono ?_
    clear HW
    rintro e w2 ⟨rfl, hb2⟩
    have HB2 := Sd.mk (below_trans' HB.out hb2)
    have HR2 := Sd.mk (Kd.R_below HR.out hb2)
    clear hb2 HR HB
    have H := HH.out
    by_cases hq0 : q1 = 0
    · rw [if_pos hq0] at H
      have hqb : (q1 == 0) = true := beq_iff_eq.mpr hq0
      simp only [Option.some.injEq, Prod.mk.injEq] at H
      obtain ⟨rfl, rfl⟩ := H
      clear hq0 HH
      go_wp2
      go_ret2
      exact ⟨_, rfl, Kd.R_nil _ _ _ _ _, HB2.out⟩
    · rw [if_neg hq0] at H
      have hqb : (q1 == 0) = false := beq_eq_false_iff_ne.mpr hq0
      simp only [Option.some.injEq, Prod.mk.injEq] at H
      obtain ⟨rfl, rfl⟩ := H
      clear hq0 HH
      go_wp2
      go_ret2
      exact ⟨_, rfl, HR2.out, HB2.out⟩
  · rw [if_neg he] at H
    have heb : (pe == 0) = false := beq_eq_false_iff_ne.mpr he
    simp only [Option.some.injEq, Prod.mk.injEq] at H
    obtain ⟨rfl, rfl⟩ := H
    go_wp2
    go_ret2
    exact ⟨_, rfl, HR.out, HB.out⟩
end
section
section
open Go.Shelf
def lays125_ren : Go.Shelf.Ren := ⟨fun | 125 => 206 | 128 => 234 | 129 => 235 | n => n, fun | 46 => 219 | 3 => 3 | 51 => 243 | 53 => 245 | 4 => 4 | 5 => 5 | 9 => 9 | n => n, fun | n => n⟩
theorem lays125 : Go.Proofs.Lays.n125 Tryz.prog lays125_ren := {
 mixed := by kernel_rfl
 f125 := Tryz.func206.trans (congrArg some (by kernel_rfl))
 f128 := Tryz.func234.trans (congrArg some (by kernel_rfl))
 f129 := Tryz.func235.trans (congrArg some (by kernel_rfl))
 t3 := Tryz.underlying3
 a3 := Tryz.isAgg3
 z3 := Tryz.sizeOf3
 v3 := Tryz.zeroValue3
 t4 := Tryz.underlying4
 a4 := Tryz.isAgg4
 z4 := Tryz.sizeOf4
 v4 := Tryz.zeroValue4
 t5 := Tryz.underlying5
 a5 := Tryz.isAgg5
 z5 := Tryz.sizeOf5
 v5 := Tryz.zeroValue5
 t9 := Tryz.underlying9
 a9 := Tryz.isAgg9
 z9 := Tryz.sizeOf9
 v9 := Tryz.zeroValue9
 t46 := Tryz.underlying219
 a46 := Tryz.isAgg219
 z46 := Tryz.sizeOf219
 v46 := Tryz.zeroValue219
 t51 := Tryz.underlying243
 a51 := Tryz.isAgg243
 z51 := Tryz.sizeOf243
 v51 := Tryz.zeroValue243
 t53 := Tryz.underlying245
 a53 := Tryz.isAgg245
 z53 := Tryz.sizeOf245
 v53 := Tryz.zeroValue245 }
theorem lib_bits_Len (x : Int) (w : World) (h0 : 0 ≤ x) (h1 : x ≤ 18446744073709551615) :
  Calls Tryz.prog 206 #[.int .u64 x] w fun e w' => e = .returned (.int .i64 (Lib.bitLen x.toNat)) ∧ w' = w := Any.bits_Len lays125 x w h0 h1
end
open Go.Lib Go.Sort
def ltC (cf : Int → Int → Int) (x y : Int) : Bool := decide (cf x y < 0)
def CmpQ (g : Nat) (cb : Array Value) (cf : Int → Int → Int) (N : Int) (blk off size : Nat) (w : World) : Prop :=
 ∀ (m : Nat) (dk : Array Int), dk.size = size → ∀ x y : Int, 0 ≤ x → x < N → 0 ≤ y → y < N →
  Calls Tryz.prog g #[.int .i64 x, .int .i64 y, cb[0]!] ((putRow (Value.int .i64) w blk off dk).drewN m) fun e w' => e = .returned (.int .i64 (cf x y)) ∧ ∃ q, w' = ((putRow (Value.int .i64) w blk off dk).drewN m).drewN q
def AllIn (N : Int) (d : Array Int) : Prop := ∀ j, j < d.size → 0 ≤ d[j]! ∧ d[j]! < N
theorem allIn_swp {N : Int} {d : Array Int} {i j : Nat} (h : AllIn N d) (hi : i < d.size) (hj : j < d.size) : AllIn N (swp d i j) := by
 intro k hk
 rw [size_swp] at hk
 by_cases h1 : k = j
 ·subst h1
  rw [swp_right _ _ _ hj]
  exact h i hi
 ·by_cases h2 : k = i
  ·subst h2
   rw [swp_left _ _ _ hi h1]
   exact h j hj
  ·rw [swp_other _ _ _ _ h2 h1]
   exact h k hk
theorem insertionSort_calls (cf : Int → Int → Int) (N : Int) (g : Nat) (cb : Array Value) (hcb : cb = #[cb[0]!]) (blk off cap b : Nat) (d : Array Int) (w : World)
  (eg : ∀ args w, (callFunc g args).run Tryz.prog w = .ok (.enter g args) w) (hcmp : CmpQ g cb cf N blk off d.size w) (hH : Holds (Value.int .i64) w blk off d) (hN : AllIn N d) (hb : b ≤ d.size) (hsz : d.size < 4611686018427387904) :
  Calls Tryz.prog 226 #[.slice (some ⟨blk, off, none⟩) d.size cap, .int .i64 0, .int .i64 b, .func (.func g) #[] cb] w fun e w' =>
   e = .returned (.tuple #[]) ∧ ∃ n, w' = (putRow (Value.int .i64) w blk off (Sort.insertionSort (ltC cf) d 0 b)).drewN n := by
 generalize hk0 : cb[0]! = cv at hcb
 subst hcb
 have hcAt : ∀ (X : Array Int) (x y : Int), X.size = d.size → 0 ≤ x → x < N → 0 ≤ y → y < N → ∀ m n, Calls Tryz.prog g #[.int .i64 x, .int .i64 y, cv] (((putRow (Value.int .i64) w blk off X).drewN m).drewN n) fun e w' => e = .returned (.int .i64 (cf x y)) ∧ ∃ q, w' = (((putRow (Value.int .i64) w blk off X).drewN m).drewN n).drewN q := fun X x y hX h1 h2 h3 h4 m n => by
  have := hcmp (m + n) X hX x y h1 h2 h3 h4
  rw [← World.drewN_drewN] at this
  exact this
 have HC : Sd _ := ⟨hcAt⟩
 have HST : Sd (w = (putRow (Value.int .i64) w blk off d).drewN 0) := ⟨(putRow_self (Value.int .i64) w blk off d hH).symm⟩
 have HH : Sd (Holds (Value.int .i64) w blk off d) := ⟨hH⟩
 have HN : Sd (AllIn N d) := ⟨hN⟩
 clear hcAt hcmp hH hN hk0
 go_enter Tryz.func226, Tryz.ntmps226
 go_wp2
 go_loopg [8] b (fun g1 vi wr => ∃ (i n : Nat) (dk : Array Int), vi = .int .i64 i ∧ 0 < i ∧ i ≤ b + 1 ∧ b + 1 - i ≤ g1 + 1 ∧ dk.size = d.size ∧ wr = (putRow (Value.int .i64) w blk off dk).drewN n ∧ Sd (insOuter (ltC cf) 0 b i dk = insOuter (ltC cf) 0 b (0 + 1) d) ∧ Sd (AllIn N dk))
 case atStart => exact ⟨1, 0, d, by first | rfl | go_num, by omega, by omega, by omega, rfl, HST.out, ⟨rfl⟩, HN⟩
 case round =>
  obtain ⟨i, n, dk, rfl, hai, hib, hg1, hsk, rfl, HO, HNk⟩ := hrel
  by_cases hlt : i < b
  ·have hltz : (i : Int) < (b : Int) := by omega
   go_wp2
   go_loopg [9] i (fun g2 vj wr2 => ∃ (j m : Nat) (dj : Array Int), vj = .int .i64 j ∧ 0 ≤ j ∧ j ≤ i ∧ j ≤ g2 ∧ dj.size = d.size ∧ wr2 = (putRow (Value.int .i64) w blk off dj).drewN m ∧ Sd (insInner (ltC cf) 0 j dj = insInner (ltC cf) 0 i dk) ∧ Sd (AllIn N dj))
   case atStart => exact ⟨i, n, dk, rfl, by omega, Nat.le_refl _, Nat.le_refl _, hsk, rfl, ⟨rfl⟩, HNk⟩
   case round =>
    obtain ⟨j, m, dj, rfl, haj, hji, hg2, hsj, rfl, HI, HNj⟩ := hrel
    have out : (j ≤ 0 ∨ ltC cf dj[j]! dj[j - 1]! = false) → Sd (insOuter (ltC cf) 0 b (i + 1) dj = insOuter (ltC cf) 0 b (0 + 1) d) := fun hs => ⟨by
     rw [← HO.out, insOuter_go _ _ _ _ _ hlt, ← HI.out, insInner_stop _ _ _ _ hs]⟩
    have OUT : Sd _ := ⟨out⟩
    clear out
    by_cases hja : 0 < j
    ·have hjaz : (0 : Int) < (j : Int) := by omega
     have hHj := holds_putRow (Value.int .i64) w blk off d dj HH.out hsj
     have hxr := HNj.out j (by omega)
     have hpr := HNj.out (j - 1) (by omega)
     obtain ⟨xj, hxj⟩ : ∃ x, dj[j]! = x := ⟨_, rfl⟩
     obtain ⟨xp, hxp⟩ : ∃ x, dj[j - 1]! = x := ⟨_, rfl⟩
     obtain ⟨cj, fj⟩ := hHj j (by omega)
     obtain ⟨cp, fp⟩ := hHj (j - 1) (by omega)
     rw [hxj] at cj hxr
     rw [hxp] at cp hpr
     obtain ⟨jp, rfl⟩ : ∃ jp, j = jp + 1 := ⟨j - 1, by omega⟩
     simp only [Nat.add_sub_cancel] at cp fp hxp
     have hwp : IntKind.i64.wrap (jp : Int) = (jp : Int) := by rw [IntKind.wrap_i64]; omega
     have jz : (jp : Int) + 1 < (d.size : Int) := by omega
     have jz1 : (jp : Int) < (d.size : Int) := by omega
     have hjaz' : (0 : Int) < (jp : Int) + 1 := by omega
     have p0 : (0 : Int) ≤ (jp : Int) + 1 := by omega
     have e0 : ((jp : Int) + 1).toNat = jp + 1 := by omega
     have hc := HC.out dj xj xp hsj hxr.1 hxr.2 hpr.1 hpr.2 m
     clear hHj hxr hpr
     have cj' : ((putRow (Value.int .i64) w blk off dj).drewN m).cell? ⟨blk, off + (jp + 1), none⟩ = some (.int .i64 xj) := cj
     have cp' : ((putRow (Value.int .i64) w blk off dj).drewN m).cell? ⟨blk, off + jp, none⟩ = some (.int .i64 xp) := cp
     have fj' : ((putRow (Value.int .i64) w blk off dj).drewN m).frozen? ⟨blk, off + (jp + 1), none⟩ = false := fj
     have fp' : ((putRow (Value.int .i64) w blk off dj).drewN m).frozen? ⟨blk, off + jp, none⟩ = false := fp
     clear cj cp fj fp
     have HXJ : Sd _ := ⟨hxj⟩
     have HXP : Sd _ := ⟨hxp⟩
     generalize hwq : (putRow (Value.int .i64) w blk off dj).drewN m = wq at cj' cp' fj' fp' hc ⊢
     have HWQ : Sd _ := ⟨hwq⟩
     clear hwq hxj hxp
     by_cases hlv : cf xj xp < 0
     ·have hlvb : decide (cf xj xp < 0) = true := decide_eq_true hlv
      go_wp2_with fail
      go_quiet (first | (go_at_fn g; refine Calls.quiet_of (hc _)))
      go_wp2_with fail
      have hw2 : wq.drewN nq = (putRow (Value.int .i64) w blk off dj).drewN (m + nq) := by rw [← HWQ.out, World.drewN_drewN]
      have cj2 : (wq.drewN nq).cell? ⟨blk, off + (jp + 1), none⟩ = some (.int .i64 xj) := cj'
      have cp2 : (wq.drewN nq).cell? ⟨blk, off + jp, none⟩ = some (.int .i64 xp) := cp'
      have fj2 : (wq.drewN nq).frozen? ⟨blk, off + (jp + 1), none⟩ = false := fj'
      have fp2 : (wq.drewN nq).frozen? ⟨blk, off + jp, none⟩ = false := fp'
      clear cj' cp' fj' fp' hc
      generalize wq.drewN nq = wq2 at hw2 cj2 cp2 fj2 fp2 ⊢
      obtain ⟨j1, hj1⟩ : ∃ j1, j1 = jp + 1 := ⟨_, rfl⟩
      rw [← hj1] at cj2 fj2 e0
      have J1 : Sd (j1 = jp + 1) := ⟨hj1⟩
      have HW2 : Sd (wq2 = (putRow (Value.int .i64) w blk off dj).drewN (m + nq)) := ⟨hw2⟩
      clear hj1 hw2
      go_region
      all_goals go_wp2
      go_roundg jp
      case measure => omega
      case rel =>
       refine ⟨jp, m + nq + 1, swp dj (jp + 1) jp, by first | rfl | go_num | (congr 1; omega), by omega, by omega, Nat.le_refl _, by rw [size_swp]; exact hsj, ?_, ⟨?_⟩, ⟨allIn_swp HNj.out (by omega) (by omega)⟩⟩
       ·rw [J1.out, HW2.out, ← HXP.out, ← HXJ.out]
        exact swap_worldC (Value.int .i64) w blk off dj (m + nq) (jp + 1) jp (by omega) (by omega)
       ·have := insInner_go (ltC cf) 0 (jp + 1) dj hja (by simp only [Nat.add_sub_cancel]; rw [HXJ.out, HXP.out]; exact decide_eq_true hlv)
        simp only [Nat.add_sub_cancel] at this
        rw [← HI.out, this]
     ·have hlvb : decide (cf xj xp < 0) = false := decide_eq_false hlv
      go_wp2_with fail
      go_quiet (first | (go_at_fn g; refine Calls.quiet_of (hc _)))
      go_wp2
      go_roundg (b - (i + 1))
      case measure => omega
      case rel => exact ⟨i + 1, _, dj, by go_num, by omega, by omega, by omega, hsj, by rw [← HWQ.out, World.drewN_drewN], OUT.out (Or.inr (by simp only [Nat.add_sub_cancel]; rw [HXJ.out, HXP.out]; exact decide_eq_false (by omega))), HNj⟩
    ·have hjaz : decide ((j : Int) > (0 : Int)) = false := decide_eq_false (by omega)
     have hjaz' : ¬ (0 : Int) < (j : Int) := by omega
     generalize hwq : (putRow (Value.int .i64) w blk off dj).drewN m = wq
     have HWQ : Sd _ := ⟨hwq⟩
     clear hwq
     go_wp2_with fail
     go_region
     all_goals go_wp2
     go_roundg (b - (i + 1))
     case measure => omega
     case rel => exact ⟨i + 1, _, dj, by go_num, by omega, by omega, by omega, hsj, (show _ = (putRow (Value.int .i64) w blk off dj).drewN (m + 1) from by first | rfl | (rw [← HWQ.out]; rfl)), OUT.out (Or.inl (by omega)), HNj⟩
  ·have hltz : ¬ (i : Int) < (b : Int) := by omega
   go_wp2
   go_end0
   exact ⟨rfl, n, by unfold Sort.insertionSort; rw [← HO.out, insOuter_stop _ _ _ _ _ hlt]⟩
theorem pdq_calls (cf : Int → Int → Int) (N : Int) (g : Nat) (cb : Array Value) (hcb : cb = #[cb[0]!]) (blk off cap b : Nat) (lim : Int) (d : Array Int) (w : World)
  (eg : ∀ args w, (callFunc g args).run Tryz.prog w = .ok (.enter g args) w) (hcmp : CmpQ g cb cf N blk off d.size w) (hH : Holds (Value.int .i64) w blk off d) (hN : AllIn N d) (hb : b ≤ d.size) (h12 : b ≤ 12) (hd : d.size ≤ 12) :
  Calls Tryz.prog 205 #[.slice (some ⟨blk, off, none⟩) d.size cap, .int .i64 0, .int .i64 b, .int .i64 lim, .func (.func g) #[] cb] w fun e w' =>
   e = .returned (.tuple #[]) ∧ ∃ n, w' = (putRow (Value.int .i64) w blk off (Sort.insertionSort (ltC cf) d 0 b)).drewN n := by
 have hi := insertionSort_calls cf N g cb hcb blk off cap b d w eg hcmp hH hN hb (by omega)
 clear hH hcmp hN hcb
 go_enter Tryz.func205, Tryz.ntmps205
 go_wp2
 refine wp_loop_rounds 1 ?_
 rw [rounds_succ]
 go_wp2_with (go_at_call 226; refine hi.mono ?_; rintro e w' ⟨rfl, n, rfl⟩)
 (try simp only [Exit.inBlock, Exit.then]); refine bodyPost_ret (results_none rfl _ _ _) rfl ?_
 exact ⟨rfl, n, rfl⟩
theorem sortFunc_calls (cf : Int → Int → Int) (N : Int) (g : Nat) (cb : Array Value) (hcb : cb = #[cb[0]!]) (blk off cap : Nat) (d : Array Int) (w : World)
  (eg : ∀ args w, (callFunc g args).run Tryz.prog w = .ok (.enter g args) w) (hcmp : CmpQ g cb cf N blk off d.size w) (hH : Holds (Value.int .i64) w blk off d) (hN : AllIn N d) (hd : d.size ≤ 12) :
  Calls Tryz.prog 167 #[.slice (some ⟨blk, off, none⟩) d.size cap, .func (.func g) #[] cb] w fun e w' =>
   e = .returned (.tuple #[]) ∧ ∃ n, w' = (putRow (Value.int .i64) w blk off (Sort.insertionSort (ltC cf) d 0 d.size)).drewN n := by
 have hp := fun lim => pdq_calls cf N g cb hcb blk off cap d.size lim d w eg hcmp hH hN (Nat.le_refl _) hd hd
 have hl := lib_bits_Len (d.size : Int) w (by omega) (by omega)
 generalize Lib.bitLen (d.size : Int).toNat = bl at hl
 clear hH hcmp hN hcb
 go_enter Tryz.func167, Tryz.ntmps167
 go_wp2_with (first | (go_at_call 206; refine hl.mono ?_; rintro e w' ⟨rfl, rfl⟩) | (go_at_call 205; refine (hp _).mono ?_; rintro e w' ⟨rfl, n, rfl⟩))
 go_end0
 exact ⟨rfl, n, rfl⟩
end
section
def b_down.f (a0 : Int) (a1 : Int) : Option (Int) := if a1 = 0 then (none) else (if (Int.tmod a0 a1) < 0 then (some (wrap64 ((wrap64 (Int.tdiv a0 a1)) - 1))) else (some (wrap64 (Int.tdiv a0 a1))))
theorem b_down.calls (a0 : Int) (a1 : Int) (r : Int) (w : World) (h : b_down.f a0 a1 = some r) :
  Calls Tryz.prog 169 #[.int .i64 a0, .int .i64 a1] w fun e w' => e = .returned (.int .i64 r) ∧ Drawn0 w w' := by
 have H : (if a1 = 0 then (none) else (if (Int.tmod a0 a1) < 0 then (some (wrap64 ((wrap64 (Int.tdiv a0 a1)) - 1))) else (some (wrap64 (Int.tdiv a0 a1))))) = some r := h
 clear h
 by_cases c3 : a1 = 0
 ·rw [if_pos c3] at H
  exact absurd H (by simp)
 ·rw [if_neg c3] at H
  have c3b0 : (a1 == 0) = false := beq_eq_false_iff_ne.mpr c3
  have c3b1 : (a1 != 0) = true := bne_iff_ne.mpr c3
  by_cases c4 : (Int.tmod a0 a1) < 0
  ·rw [if_pos c4] at H
   have c4b0 : decide ((Int.tmod a0 a1) < 0) = true := decide_eq_true c4
   clear c4; obtain rfl := Option.some.inj H
   go_enter Tryz.func169, Tryz.ntmps169
   go_wp2
   go_ret
   exact ⟨by first | rfl | (simp; done) | (simp [*]; done), by repeat (first | exact Drawn0.refl _ | apply Drawn0.step)⟩
  ·rw [if_neg c4] at H
   have c4b0 : decide ((Int.tmod a0 a1) < 0) = false := decide_eq_false c4
   clear c4; obtain rfl := Option.some.inj H
   go_enter Tryz.func169, Tryz.ntmps169
   go_wp2
   go_ret
   exact ⟨by first | rfl | (simp; done) | (simp [*]; done), by repeat (first | exact Drawn0.refl _ | apply Drawn0.step)⟩
end
section
def b_up.f (a0 : Int) (a1 : Int) : Option (Int) := (b_down.f (wrap64 (-a0)) a1).bind fun t175 => (some (wrap64 (-t175)))
theorem b_up.calls (a0 : Int) (a1 : Int) (r : Int) (w : World) (h : b_up.f a0 a1 = some r) :
  Calls Tryz.prog 96 #[.int .i64 a0, .int .i64 a1] w fun e w' => e = .returned (.int .i64 r) ∧ Drawn0 w w' := by
 have H : ((b_down.f (wrap64 (-a0)) a1).bind fun t175 => (some (wrap64 (-t175)))) = some r := h
 clear h; replace H := Option.bind_eq_some_iff.mp H; obtain ⟨t175, A30, H⟩ := H
 try dsimp only at H
 have A3 := Sd.mk A30; clear A30; obtain rfl := Option.some.inj H
 go_enter Tryz.func96, Tryz.ntmps96
 go_wp2_with (first | ((with_reducible refine gate_callee (f := 169) rfl ?_); refine goesL_ (some 8) rfl rfl Tryz.func169 (by kernel_rfl) rfl #[.int .i64 (wrap64 (-a0)), .int .i64 a1] rfl tM ?_; (with_reducible refine (b_down.calls (wrap64 (-a0)) a1 t175 _ A3.out).mono ?_); rintro e w' ⟨rfl, ⟨nd, rfl⟩⟩; refine ⟨_, rfl, ?_⟩))
 go_ret
 exact ⟨by first | rfl | (simp; done) | (simp [*]; done), by repeat (first | exact Drawn0.refl _ | apply Drawn0.step)⟩
end
section
open Go.RowKit Go.Proofs.YtljfljekcpdpiaaGreatW.PrintWords Go.Proofs.YtljfljekcpdpiaaGreatW.PrintLast Go.Proofs.YtljfljekcpdpiaaGreatW.PrintMore
open Go.Sort (putRow Holds)
attribute [local go_sem] max2_int min2_int max_two min_two
theorem wrap_id {x : Int} (h1 : -9223372036854775808 ≤ x) (h2 : x ≤ 9223372036854775807) : wrap64 x = x := by unfold wrap64; omega
theorem down_f (n d : Int) (hd : 0 < d) (hn1 : -1000000000000000000 ≤ n) (hn2 : n ≤ 1000000000000000000) : b_down.f n d = some (n / d) := by
  unfold b_down.f
  rw [if_neg (by omega)]
  have hq : Int.tdiv n d = if 0 ≤ n then n / d else -((-n) / d) := by
    split
    · rename_i h; exact Int.tdiv_eq_ediv_of_nonneg h
    · rename_i h
      have := Int.neg_tdiv (a := -n) (b := d)
      rw [Int.neg_neg] at this
      rw [this, Int.tdiv_eq_ediv_of_nonneg (by omega)]
  have hr : Int.tmod n d = n - d * Int.tdiv n d := by have := Int.mul_tdiv_add_tmod n d; omega
  have e1 := Int.mul_ediv_add_emod n d
  have e2 := Int.emod_nonneg n (show d ≠ 0 by omega)
  have e3 := Int.emod_lt_of_pos n hd
  have f1 := Int.mul_ediv_add_emod (-n) d
  have f2 := Int.emod_nonneg (-n) (show d ≠ 0 by omega)
  have f3 := Int.emod_lt_of_pos (-n) hd
  have habs : ∀ m : Int, -1000000000000000000 ≤ m → m ≤ 1000000000000000000 → -1000000000000000000 ≤ m / d ∧ m / d ≤ 1000000000000000000 := by
    intro m h1 h2
    constructor
    · exact (Int.le_ediv_iff_mul_le hd).2 (by have := Int.mul_le_mul_of_nonpos_left (show (-1000000000000000000 : Int) ≤ 0 by omega) (show (1:Int) ≤ d by omega); omega)
    · by_cases hm : 0 ≤ m
      · exact Int.le_trans (Int.ediv_le_self _ hm) h2
      · have : m / d < 0 := Int.ediv_neg_of_neg_of_pos (by omega) hd
        omega
  have g1 := habs n hn1 hn2
  have g2 := habs (-n) (by omega) (by omega)
  by_cases h0 : 0 ≤ n
  · rw [if_pos h0] at hq
    rw [hq] at hr ⊢
    rw [if_neg (by omega), wrap_id (by omega) (by omega)]
  · rw [if_neg h0] at hq
    rw [hq] at hr ⊢
    rw [wrap_id (x := -(-n / d)) (by omega) (by omega)]
    by_cases hz : Int.tmod n d < 0
    · rw [if_pos hz, wrap_id (by omega) (by omega)]
      congr 1
      have h1 : n - d * (-(-n / d)) < 0 := by omega
      have h2 : d * (-(-n/d)) = -(d * (-n / d)) := Int.mul_neg ..
      have h3 : d * (n / d + (-n) / d) = -(n % d + (-n) % d) := by rw [Int.mul_add]; omega
      have h4 : n / d + (-n) / d < 0 := by
        apply Int.not_le.1; intro hle
        have := Int.mul_nonneg (show 0 ≤ d by omega) hle
        omega
      have h5 : -2 < n / d + (-n) / d := by
        apply Int.not_le.1; intro hle
        have := Int.mul_le_mul_of_nonneg_left hle (show 0 ≤ d by omega)
        omega
      omega
    · rw [if_neg hz]
      congr 1
      have h2 : d * (-(-n/d)) = -(d * (-n / d)) := Int.mul_neg ..
      have h3 : d * (n / d + (-n) / d) = -(n % d + (-n) % d) := by rw [Int.mul_add]; omega
      have hs : (-n) % d = 0 := by omega
      have hs2 : n % d = 0 := by
        have hdv : d ∣ -n := Int.dvd_of_emod_eq_zero hs
        exact Int.emod_eq_zero_of_dvd (Int.dvd_neg.1 hdv)
      have h4 : d * (n / d + (-n) / d) = 0 := by omega
      rcases Int.mul_eq_zero.1 h4 with h | h <;> omega
theorem up_f (n d : Int) (hd : 0 < d) (hn1 : -1000000000000000000 ≤ n) (hn2 : n ≤ 1000000000000000000) : b_up.f n d = some (-((-n) / d)) := by
  unfold b_up.f
  rw [wrap_id (by omega) (by omega), down_f (-n) d hd (by omega) (by omega)]
  simp only [Option.bind_some]
  congr 1
  apply wrap_id
  · have : -n / d ≤ 1000000000000000000 := by
      by_cases hm : 0 ≤ -n
      · exact Int.le_trans (Int.ediv_le_self _ hm) (by omega)
      · have : -n / d < 0 := Int.ediv_neg_of_neg_of_pos (by omega) hd
        omega
    omega
  · have : -1000000000000000000 ≤ -n / d := (Int.le_ediv_iff_mul_le hd).2 (by have := Int.mul_le_mul_of_nonpos_left (show (-1000000000000000000 : Int) ≤ 0 by omega) (show (1:Int) ≤ d by omega); omega)
    omega
def sumTo (f : Nat → Int) : Nat → Int
  | 0 => 0
  | n + 1 => sumTo f n + f n
theorem sumTo_bound {f : Nat → Int} {M : Int} {n : Nat} (h : ∀ j, j < n → -M ≤ f j ∧ f j ≤ M) : ∀ k, k ≤ n → -(k * M) ≤ sumTo f k ∧ sumTo f k ≤ k * M := by
  intro k
  induction k with
  | zero => intro _; simp [sumTo]
  | succ k ih =>
    intro hk
    have h1 := ih (by omega)
    have h2 := h k (by omega)
    have h3 : ((k + 1 : Nat) : Int) * M = k * M + M := by rw [Int.natCast_succ, Int.add_mul, Int.one_mul]
    rw [h3]
    simp only [sumTo]
    omega
theorem sumTo_pos {f : Nat → Int} {n : Nat} (h : ∀ j, j < n → 0 ≤ f j) : ∀ k, k ≤ n → 0 ≤ sumTo f k := by
  intro k
  induction k with
  | zero => intro _; simp [sumTo]
  | succ k ih => intro hk; have := ih (by omega); have := h k (by omega); simp only [sumTo]; omega
def wX (l : List S27) (D : Array Int) (cut j : Nat) : Int := if (j : Int) < (cut : Int) then (rd_T27 l D[j]!).f1 else (rd_T27 l D[j]!).f0
def wY (l : List S27) (D : Array Int) (cut j : Nat) : Int := if (j : Int) < (cut : Int) then (rd_T27 l D[j]!).f0 else (rd_T27 l D[j]!).f1
def lowN (cf : Int → Int) (l : List S27) (D : Array Int) (cut : Nat) : Nat → Int := sumTo fun j => cf D[j]! * wX l D cut j
def lowD (l : List S27) (D : Array Int) (cut : Nat) : Nat → Int := sumTo (wX l D cut)
def highN (cf : Int → Int) (l : List S27) (D : Array Int) (cut : Nat) : Nat → Int := sumTo fun j => cf D[j]! * wY l D cut j
def highD (l : List S27) (D : Array Int) (cut : Nat) : Nat → Int := sumTo (wY l D cut)
def lowQ (cf : Int → Int) (l : List S27) (D : Array Int) (cut : Nat) : Int := lowN cf l D cut l.length / lowD l D cut l.length
def highQ (cf : Int → Int) (l : List S27) (D : Array Int) (cut : Nat) : Int := -((-highN cf l D cut l.length) / highD l D cut l.length)
def minF (F : Nat → Int) : Nat → Int
  | 0 => F 0
  | n + 1 => if F (n + 1) < minF F n then F (n + 1) else minF F n
def maxF (F : Nat → Int) : Nat → Int
  | 0 => F 0
  | n + 1 => if maxF F n < F (n + 1) then F (n + 1) else maxF F n
def atCut (F : Nat → Int) (g : (Nat → Int) → Nat → Int) : Nat → Int
  | 0 => 0
  | n + 1 => g F n
def orderOf (cf : Int → Int) (n : Nat) : Array Int := Sort.insertionSort (ltC fun a b => cf a - cf b) (Array.ofFn fun j : Fin n => (j.val : Int)) 0 n
def meanLo (cf : Int → Int) (l : List S27) : Int := minF (lowQ cf l (orderOf cf l.length)) l.length
def meanHi (cf : Int → Int) (l : List S27) : Int := maxF (highQ cf l (orderOf cf l.length)) l.length
structure MeanOk (cf : Int → Int) (l : List S27) : Prop where
  n12 : l.length ≤ 12
  lo : ∀ k : Int, 0 ≤ k → k < l.length → 0 ≤ (rd_T27 l k).f0
  le : ∀ k : Int, 0 ≤ k → k < l.length → (rd_T27 l k).f0 ≤ (rd_T27 l k).f1
  hi : ∀ k : Int, 0 ≤ k → k < l.length → (rd_T27 l k).f1 ≤ 1000000000
  c1 : ∀ k : Int, 0 ≤ k → k < l.length → -100000 ≤ cf k
  c2 : ∀ k : Int, 0 ≤ k → k < l.length → cf k ≤ 100000
  pos : 0 < MeanMath.lsum S27.f0 l
end
section
open Go.RowKit Go.Proofs.YtljfljekcpdpiaaGreatW.PrintWords Go.Proofs.YtljfljekcpdpiaaGreatW.PrintLast Go.Proofs.YtljfljekcpdpiaaGreatW.PrintMore
open Go.Sort (putRow Holds)
attribute [local go_sem] max2_int min2_int max_two min_two
theorem below_putRow {B : Nat} {w W : World} (h : Below B w W) {blk off : Nat} (hb : B ≤ blk) (d : Array Int) : Below B w (putRow (Value.int .i64) W blk off d) := by
  refine ⟨h.os, h.tape, h.output, by rw [Go.Sort.size_putRow]; exact h.size, fun i hi => ?_⟩
  rw [← h.block i hi]
  unfold Go.Sort.putRow Go.Sort.mapBlock
  simp only [Array.getElem?_modify]
  rw [if_neg (by omega)]
theorem blk_putRow {W : World} {g : Nat} {o : Obj} (h : W.heap[g]? = some o) {blk off : Nat} (hb : g ≠ blk) (d : Array Int) : (putRow (Value.int .i64) W blk off d).heap[g]? = some o := by
  rw [← h]
  unfold Go.Sort.putRow Go.Sort.mapBlock
  simp only [Array.getElem?_modify]
  rw [if_neg (by omega)]
def CoefQ (g : Nat) (lb : Array Value) (cf : Int → Int) (N : Int) (w : World) : Prop :=
  ∀ W, Below w.heap.size w W → ∀ x, 0 ≤ x → x < N → Calls Tryz.prog g (#[.int .i64 x] ++ lb) W fun e w' => e = .returned (.int .i64 (cf x)) ∧ ∃ q, w' = W.drewN q
theorem meanCmp_calls (B g : Nat) (lb : Array Value) (cf : Int → Int) (N : Int) (w W : World) (eg : ∀ args w, (callFunc g args).run Tryz.prog w = .ok (.enter g args) w)
    (hq : CoefQ g lb cf N w) (hb : Below w.heap.size w W) (hB : W.cell? ⟨B, 0, none⟩ = some (.func (.func g) #[] lb)) (x y : Int) (hx0 : 0 ≤ x) (hx1 : x < N) (hy0 : 0 ≤ y) (hy1 : y < N)
    (hx2 : -100000 ≤ cf x) (hx3 : cf x ≤ 100000) (hy2 : -100000 ≤ cf y) (hy3 : cf y ≤ 100000) :
    Calls Tryz.prog 168 #[.int .i64 x, .int .i64 y, .pointer (some ⟨B, 0, none⟩)] W fun e w' => e = .returned (.int .i64 (cf x - cf y)) ∧ ∃ q, w' = W.drewN q := by
  have h1 : ∀ n, Calls Tryz.prog g (#[.int .i64 x] ++ lb) (W.drewN n) fun e w' => e = .returned (.int .i64 (cf x)) ∧ ∃ q, w' = (W.drewN n).drewN q := fun n => hq _ (pw_below_drewN hb n) x hx0 hx1
  have h2 : ∀ n, Calls Tryz.prog g (#[.int .i64 y] ++ lb) (W.drewN n) fun e w' => e = .returned (.int .i64 (cf y)) ∧ ∃ q, w' = (W.drewN n).drewN q := fun n => hq _ (pw_below_drewN hb n) y hy0 hy1
  have H1 : Sd _ := ⟨h1⟩
  have H2 : Sd _ := ⟨h2⟩
  clear h1 h2 hq hb
  generalize cf x = cx at *
  generalize cf y = cy at *
  go_enter Tryz.func168, Tryz.ntmps168
  go_wp2_with fail
  go_quiet (first | (go_at_fn g; exact Calls.quiet_of (H1.out _)) | (go_at_fn g; exact Calls.quiet_of (H2.out _)))
  go_wp2
  go_ret
  exact ⟨rfl, _, rfl⟩
end
section
open Go.RowKit Go.Proofs.YtljfljekcpdpiaaGreatW.PrintWords Go.Proofs.YtljfljekcpdpiaaGreatW.PrintLast Go.Proofs.YtljfljekcpdpiaaGreatW.PrintMore
open Go.Sort (putRow Holds)
attribute [local go_sem] max2_int min2_int max_two min_two
theorem swo_cf (cf : Int → Int) : Go.Sort.SWO (ltC fun a b => cf a - cf b) where
  irrefl x := by simp [ltC]
  trans x y z h1 h2 := by simp only [ltC, decide_eq_true_eq] at *; omega
  ntrans x y z h1 h2 := by simp only [ltC, decide_eq_false_iff_not] at *; omega
def iotaA (n : Nat) : Array Int := Array.ofFn fun j : Fin n => (j.val : Int)
theorem iotaA_size (n : Nat) : (iotaA n).size = n := by simp [iotaA]
theorem order_facts (cf : Int → Int) (n : Nat) : Go.Sort.PermIn 0 n (iotaA n) (orderOf cf n) ∧ Go.Sort.SortedIn (ltC fun a b => cf a - cf b) 0 n (orderOf cf n) := by
  have h := Go.Sort.insertionSort_holds (lt := ltC fun a b => cf a - cf b) (swo_cf cf) (iotaA n) 0 n (Nat.zero_le _) (by rw [iotaA_size]; exact Nat.le_refl _)
  exact h
theorem order_size (cf : Int → Int) (n : Nat) : (orderOf cf n).size = n := by rw [(order_facts cf n).1.1, iotaA_size]
theorem order_perm (cf : Int → Int) (n : Nat) : (orderOf cf n).toList.Perm (iotaA n).toList := by
  have h := (order_facts cf n).1.2.2
  have e1 : (orderOf cf n).extract 0 n = orderOf cf n := by
    have := Array.extract_size (xs := orderOf cf n); rwa [order_size] at this
  have e2 : (iotaA n).extract 0 n = iotaA n := by
    have := Array.extract_size (xs := iotaA n); rwa [iotaA_size] at this
  rwa [e1, e2] at h
theorem order_in (cf : Int → Int) (n : Nat) : AllIn n (orderOf cf n) := by
  intro j hj
  have hm : (orderOf cf n)[j]! ∈ (orderOf cf n).toList := by
    rw [getElem!_pos _ j hj]
    exact Array.getElem_mem_toList hj
  have hm2 := (order_perm cf n).mem_iff.1 hm
  generalize (orderOf cf n)[j]! = x at hm2
  simp only [iotaA, Array.toList_ofFn, List.mem_ofFn] at hm2
  obtain ⟨i, rfl⟩ := hm2
  have := i.isLt
  omega
def fillTo (n k : Nat) : Array Int := Array.ofFn fun j : Fin n => if j.val < k then (j.val : Int) else 0
theorem fillTo_size (n k : Nat) : (fillTo n k).size = n := by simp [fillTo]
theorem fillTo_all (n : Nat) : fillTo n n = iotaA n := by
  unfold fillTo iotaA
  congr 1
  funext j
  rw [if_pos j.isLt]
theorem fillTo_get (n k i : Nat) (h : i < (fillTo n k).size) : (fillTo n k)[i] = if i < k then (i : Int) else 0 := by simp [fillTo]
theorem fillTo_step (n k : Nat) (hk : k < n) : (fillTo n k).setIfInBounds k (k : Int) = fillTo n (k + 1) := by
  apply Array.ext
  · rw [Array.size_setIfInBounds, fillTo_size, fillTo_size]
  · intro i h1 h2
    have h3 : i < (fillTo n k).size := by rwa [Array.size_setIfInBounds] at h1
    rw [Array.getElem_setIfInBounds h3, fillTo_get _ _ _ h2, fillTo_get _ _ _ h3]
    by_cases h : k = i
    · rw [if_pos h, if_pos (by omega), h]
    · rw [if_neg h]
      by_cases h4 : i < k
      · rw [if_pos h4, if_pos (by omega)]
      · rw [if_neg h4, if_neg (by omega)]
structure MeanW (w0 W : World) (B9 B10 : Nat) (a b c d : Int) : Prop where
  below : Below w0.heap.size w0 W
  b9 : W.heap[B9]? = some (.cells #[.int .i64 a, .int .i64 b] 190 (0, 0))
  b10 : W.heap[B10]? = some (.cells #[.int .i64 c, .int .i64 d] 190 (0, 0))
theorem MeanW.drewN {w0 W : World} {B9 B10 : Nat} {a b c d : Int} (h : MeanW w0 W B9 B10 a b c d) (n : Nat) : MeanW w0 (W.drewN n) B9 B10 a b c d := ⟨pw_below_drewN h.below n, h.b9, h.b10⟩
theorem MeanW.put9 {w0 W : World} {B9 B10 : Nat} {a b c d : Int} (h : MeanW w0 W B9 B10 a b c d) (h9 : w0.heap.size ≤ B9) (hne : B10 ≠ B9) (a' b' : Int) :
    MeanW w0 ((W.setCell ⟨B9, 0, none⟩ (.int .i64 a')).setCell ⟨B9, 1, none⟩ (.int .i64 b')) B9 B10 a' b' c d :=
  ⟨below_set (below_set h.below h9) h9, blk_put (blk_put h.b9 0 _ rfl) 1 _ rfl, blk_far (p := ⟨B9, 1, none⟩) (blk_far (p := ⟨B9, 0, none⟩) h.b10 hne _) hne _⟩
theorem MeanW.put10 {w0 W : World} {B9 B10 : Nat} {a b c d : Int} (h : MeanW w0 W B9 B10 a b c d) (h9 : w0.heap.size ≤ B10) (hne : B9 ≠ B10) (c' d' : Int) :
    MeanW w0 ((W.setCell ⟨B10, 0, none⟩ (.int .i64 c')).setCell ⟨B10, 1, none⟩ (.int .i64 d')) B9 B10 a b c' d' :=
  ⟨below_set (below_set h.below h9) h9, blk_far (p := ⟨B10, 1, none⟩) (blk_far (p := ⟨B10, 0, none⟩) h.b9 hne _) hne _, blk_put (blk_put h.b10 0 _ rfl) 1 _ rfl⟩
theorem mean_ranges {cf : Int → Int} {l : List S27} (H : MeanOk cf l) (D : Array Int) (hD : AllIn l.length D) (hs : D.size = l.length) (cut j : Nat) (hj : j < l.length) :
    (0 ≤ wX l D cut j ∧ wX l D cut j ≤ 1000000000) ∧ (0 ≤ wY l D cut j ∧ wY l D cut j ≤ 1000000000) ∧
    (-100000000000000 ≤ cf D[j]! * wX l D cut j ∧ cf D[j]! * wX l D cut j ≤ 100000000000000) ∧ (-100000000000000 ≤ cf D[j]! * wY l D cut j ∧ cf D[j]! * wY l D cut j ≤ 100000000000000) := by
  have hk := hD j (by omega)
  have a1 := H.lo _ hk.1 hk.2
  have a2 := H.le _ hk.1 hk.2
  have a3 := H.hi _ hk.1 hk.2
  have a4 := H.c1 _ hk.1 hk.2
  have a5 := H.c2 _ hk.1 hk.2
  have hX : 0 ≤ wX l D cut j ∧ wX l D cut j ≤ 1000000000 := by unfold wX; split <;> omega
  have hY : 0 ≤ wY l D cut j ∧ wY l D cut j ≤ 1000000000 := by unfold wY; split <;> omega
  have mulb : ∀ c x : Int, -100000 ≤ c → c ≤ 100000 → 0 ≤ x → x ≤ 1000000000 → -100000000000000 ≤ c * x ∧ c * x ≤ 100000000000000 := by
    intro c x h1 h2 h3 h4
    have e1 := Int.mul_le_mul_of_nonneg_right h1 h3
    have e2 := Int.mul_le_mul_of_nonneg_right h2 h3
    omega
  exact ⟨hX, hY, mulb _ _ a4 a5 hX.1 hX.2, mulb _ _ a4 a5 hY.1 hY.2⟩
structure OutW (w : World) (B3 B4 B5 Bo g : Nat) (lb : Array Value) (D : Array Int) (W : World) (x y : Int) : Prop where
  below : Below w.heap.size w W
  fn : W.heap[B3]? = some (.cells #[.func (.func g) #[] lb] 126 (0, 0))
  res : W.heap[B4]? = some (.cells #[.int .i64 0, .int .i64 0] 27 (0, 0))
  row : ∀ j, j < D.size → W.cell? ⟨B5, j, none⟩ = some (.int .i64 D[j]!)
  out : W.heap[Bo]? = some (.cells #[.int .i64 x, .int .i64 y] 27 (0, 0))
theorem OutW.later {w : World} {B3 B4 B5 Bo g : Nat} {lb : Array Value} {D : Array Int} {W W' : World} {x y : Int} (h : OutW w B3 B4 B5 Bo g lb D W x y) (hb : Below W.heap.size W W') : OutW w B3 B4 B5 Bo g lb D W' x y :=
  ⟨below_trans' h.below hb, blk_below h.fn hb, blk_below h.res hb, fun j hj => pw_cell_below hb (h.row j hj), blk_below h.out hb⟩
theorem OutW.put {w : World} {B3 B4 B5 Bo g : Nat} {lb : Array Value} {D : Array Int} {W : World} {x y : Int} (h : OutW w B3 B4 B5 Bo g lb D W x y) (h0 : w.heap.size ≤ Bo) (h3 : B3 ≠ Bo) (h4 : B4 ≠ Bo) (h5 : B5 ≠ Bo) (x' y' : Int) :
    OutW w B3 B4 B5 Bo g lb D ((W.setCell ⟨Bo, 0, none⟩ (.int .i64 x')).setCell ⟨Bo, 1, none⟩ (.int .i64 y')) x' y' :=
  ⟨below_set (below_set h.below h0) h0, blk_far (p := ⟨Bo, 1, none⟩) (blk_far (p := ⟨Bo, 0, none⟩) h.fn h3 _) h3 _, blk_far (p := ⟨Bo, 1, none⟩) (blk_far (p := ⟨Bo, 0, none⟩) h.res h4 _) h4 _,
   fun j hj => (World.cell?_setCell_other _ _ _ _ (by simp only [ne_eq, Addr.mk.injEq]; omega)).trans ((World.cell?_setCell_other _ _ _ _ (by simp only [ne_eq, Addr.mk.injEq]; omega)).trans (h.row j hj)), blk_put (blk_put h.out 0 _ rfl) 1 _ rfl⟩
theorem OutW.drewN {w : World} {B3 B4 B5 Bo g : Nat} {lb : Array Value} {D : Array Int} {W : World} {x y : Int} (h : OutW w B3 B4 B5 Bo g lb D W x y) (n : Nat) : OutW w B3 B4 B5 Bo g lb D (W.drewN n) x y :=
  ⟨pw_below_drewN h.below n, h.fn, h.res, h.row, h.out⟩
theorem mean_sums {cf : Int → Int} {l : List S27} (H : MeanOk cf l) (D : Array Int) (hD : AllIn l.length D) (hs : D.size = l.length) (cut k : Nat) (hk : k ≤ l.length) :
    (-1200000000000000 ≤ lowN cf l D cut k ∧ lowN cf l D cut k ≤ 1200000000000000) ∧ (0 ≤ lowD l D cut k ∧ lowD l D cut k ≤ 12000000000) ∧
    (-1200000000000000 ≤ highN cf l D cut k ∧ highN cf l D cut k ≤ 1200000000000000) ∧ (0 ≤ highD l D cut k ∧ highD l D cut k ≤ 12000000000) := by
  have h12 := H.n12
  have b1 := sumTo_bound (f := fun j => cf D[j]! * wX l D cut j) (M := 100000000000000) (n := l.length) (fun j hj => (mean_ranges H D hD hs cut j hj).2.2.1) k hk
  have b2 := sumTo_bound (f := wX l D cut) (M := 1000000000) (n := l.length) (fun j hj => by have := (mean_ranges H D hD hs cut j hj).1; omega) k hk
  have b3 := sumTo_bound (f := fun j => cf D[j]! * wY l D cut j) (M := 100000000000000) (n := l.length) (fun j hj => (mean_ranges H D hD hs cut j hj).2.2.2) k hk
  have b4 := sumTo_bound (f := wY l D cut) (M := 1000000000) (n := l.length) (fun j hj => by have := (mean_ranges H D hD hs cut j hj).2.1; omega) k hk
  have p2 := sumTo_pos (f := wX l D cut) (n := l.length) (fun j hj => (mean_ranges H D hD hs cut j hj).1.1) k hk
  have p4 := sumTo_pos (f := wY l D cut) (n := l.length) (fun j hj => (mean_ranges H D hD hs cut j hj).2.1.1) k hk
  unfold lowN lowD highN highD
  omega
theorem wrap_two {a m s : Int} (h : s = a + m) (h1 : -1200000000000000 ≤ a) (h2 : a ≤ 1200000000000000) (h3 : -100000000000000 ≤ m) (h4 : m ≤ 100000000000000) : IntKind.i64.wrap (a + IntKind.i64.wrap m) = s := by
  simp only [IntKind.wrap_i64]; omega
theorem wrap_one {a m s : Int} (h : s = a + m) (h1 : 0 ≤ a) (h2 : a ≤ 12000000000) (h3 : 0 ≤ m) (h4 : m ≤ 1000000000) : IntKind.i64.wrap (a + m) = s := by
  simp only [IntKind.wrap_i64]; omega
theorem sumTo_lsum (f : Int → Int) (D : Array Int) : ∀ k, k ≤ D.size → sumTo (fun j => f D[j]!) k = MeanMath.lsum f (D.toList.take k) := by
  intro k
  induction k with
  | zero => intro _; simp [sumTo]
  | succ k ih =>
    intro hk
    have hk' : k < D.toList.length := by rw [Array.length_toList]; omega
    rw [List.take_succ_eq_append_getElem hk', MeanMath.lsum_append]
    simp only [sumTo, MeanMath.lsum_cons, MeanMath.lsum_nil]
    rw [ih (by omega), getElem!_pos _ k (by omega)]
    simp
theorem lsum_iota (f : Int → Int) (l : List S27) (h : ∀ k : Nat, k < l.length → f k = (rd_T27 l k).f0) : MeanMath.lsum f (iotaA l.length).toList = MeanMath.lsum S27.f0 l := by
  have e : (iotaA l.length).toList = (List.range l.length).map (fun n : Nat => (n : Int)) := by
    apply List.ext_getElem
    · simp [iotaA]
    · intro i h1 h2; simp [iotaA]
  rw [e]
  have : ∀ (m : List S27) (pre : List S27), pre ++ m = l → MeanMath.lsum f ((List.range' pre.length m.length).map (fun n : Nat => (n : Int))) = MeanMath.lsum S27.f0 m := by
    intro m
    induction m with
    | nil => intro pre _; simp
    | cons x m ih =>
      intro pre hp
      have h1 := ih (pre ++ [x]) (by simpa using hp)
      simp only [List.length_append, List.length_singleton] at h1
      simp only [List.length_cons, List.range'_succ, List.map_cons, MeanMath.lsum_cons, h1]
      rw [h pre.length (by rw [← hp]; simp)]
      congr 1
      simp [rd_T27, ← hp]
  have h2 := this l [] rfl
  simpa [List.range_eq_range'] using h2
theorem mean_pos {cf : Int → Int} {l : List S27} (H : MeanOk cf l) (D : Array Int) (hD : AllIn l.length D) (hs : D.size = l.length) (hp : D.toList.Perm (iotaA l.length).toList) (cut : Nat) :
    0 < lowD l D cut l.length ∧ 0 < highD l D cut l.length := by
  have base : sumTo (fun j => (rd_T27 l D[j]!).f0) l.length = MeanMath.lsum S27.f0 l := by
    have := sumTo_lsum (fun k => (rd_T27 l k).f0) D l.length (by omega)
    rw [this, List.take_of_length_le (by simp; omega), MeanMath.lsum_perm _ hp]
    exact lsum_iota _ l (fun k _ => rfl)
  have mono : ∀ f : Nat → Int, (∀ j, j < l.length → (rd_T27 l D[j]!).f0 ≤ f j) → ∀ k, k ≤ l.length → sumTo (fun j => (rd_T27 l D[j]!).f0) k ≤ sumTo f k := by
    intro f hf k
    induction k with
    | zero => intro _; simp [sumTo]
    | succ k ih => intro hk; have := ih (by omega); have := hf k (by omega); simp only [sumTo]; omega
  have hpos := H.pos
  have h1 := mono (wX l D cut) (fun j hj => by
    have hk := hD j (by omega)
    have := H.le _ hk.1 hk.2
    unfold wX; split <;> omega) l.length (Nat.le_refl _)
  have h2 := mono (wY l D cut) (fun j hj => by
    have hk := hD j (by omega)
    have := H.le _ hk.1 hk.2
    unfold wY; split <;> omega) l.length (Nat.le_refl _)
  unfold lowD highD
  omega
end
section
open Go.RowKit Go.Proofs.YtljfljekcpdpiaaGreatW.PrintWords Go.Proofs.YtljfljekcpdpiaaGreatW.PrintLast Go.Proofs.YtljfljekcpdpiaaGreatW.PrintMore
open Go.Sort (putRow Holds)
attribute [local go_sem] max2_int min2_int max_two min_two
theorem mean_calls (cf : Int → Int) (A0 : Option Addr) (c0 : Nat) (l0 : List S27) (g : Nat) (lb : Array Value) (w : World) (eg : ∀ args w, (callFunc g args).run Tryz.prog w = .ok (.enter g args) w)
  (hr0 : Kd.C k27 w A0 l0.length l0) (hc0 : l0.length ≤ c0) (hq : CoefQ g lb cf l0.length w) (hok : MeanOk cf l0) :
  Calls Tryz.prog 85 #[.slice A0 l0.length c0, .func (.func g) #[] lb] w fun e w' => e = .returned (.agg #[.int .i64 (meanLo cf l0), .int .i64 (meanHi cf l0)]) ∧ Below w.heap.size w w' := by
 have hn := hok.n12
 have HR0 := Sd.mk hr0
 have HQ := Sd.mk hq
 have HOK := Sd.mk hok
 have HMK := print_make 30 3 .i64 8 Tryz.underlying30 info3 (by decide) l0.length (by omega)
 have hpos : 0 < l0.length := by
  rcases Nat.eq_zero_or_pos l0.length with h | h
  ·have := List.eq_nil_of_length_eq_zero h
   subst this
   exact absurd hok.pos (by simp)
  ·exact h
 have HN := Sd.mk hn
 clear hr0 hq hok
 go_enter Tryz.func85, Tryz.ntmps85
 go_wp2
 have hz0 : (madeCells #[Value.int .i64 0] l0.length) = (Array.ofFn fun _ : Fin l0.length => Value.int .i64 0) := by
  apply Array.ext
  ·simp [madeCells]
  ·intro i h1 h2; simp [madeCells, Nat.mod_one]
 rw [hz0]
 have hzb : (((w.alloc (.cells #[.func (.func g) #[] lb] 126)).alloc (.cells #[.int .i64 0, .int .i64 0] 27)).alloc (.cells (Array.ofFn fun _ : Fin l0.length => Value.int .i64 0) 3)).heap[w.heap.size + 1 + 1]? = some (.cells (Array.ofFn fun _ : Fin l0.length => Value.int .i64 0) 3 (0, 0)) := by
  have := blk_new ((w.alloc (.cells #[.func (.func g) #[] lb] 126)).alloc (.cells #[.int .i64 0, .int .i64 0] 27)) (.cells (Array.ofFn fun _ : Fin l0.length => Value.int .i64 0) 3)
  simpa using this
 have hrb : (((w.alloc (.cells #[.func (.func g) #[] lb] 126)).alloc (.cells #[.int .i64 0, .int .i64 0] 27)).alloc (.cells (Array.ofFn fun _ : Fin l0.length => Value.int .i64 0) 3)).heap[w.heap.size + 1]? = some (.cells #[.int .i64 0, .int .i64 0] 27 (0, 0)) := by
  have := blk_alloc (blk_new (w.alloc (.cells #[.func (.func g) #[] lb] 126)) (.cells #[.int .i64 0, .int .i64 0] 27)) (.cells (Array.ofFn fun _ : Fin l0.length => Value.int .i64 0) 3)
  simpa using this
 have hfb : (((w.alloc (.cells #[.func (.func g) #[] lb] 126)).alloc (.cells #[.int .i64 0, .int .i64 0] 27)).alloc (.cells (Array.ofFn fun _ : Fin l0.length => Value.int .i64 0) 3)).heap[w.heap.size]? = some (.cells #[.func (.func g) #[] lb] 126 (0, 0)) :=
  blk_alloc (blk_alloc (blk_new w (.cells #[.func (.func g) #[] lb] 126)) _) _
 have hbe : Below w.heap.size w (((w.alloc (.cells #[.func (.func g) #[] lb] 126)).alloc (.cells #[.int .i64 0, .int .i64 0] 27)).alloc (.cells (Array.ofFn fun _ : Fin l0.length => Value.int .i64 0) 3)) := below_alloc (below_alloc (below_alloc (Below.refl _ _) _) _) _
 generalize ((w.alloc (.cells #[.func (.func g) #[] lb] 126)).alloc (.cells #[.int .i64 0, .int .i64 0] 27)).alloc (.cells (Array.ofFn fun _ : Fin l0.length => Value.int .i64 0) 3) = w1 at *
 have hH : Holds (Value.int .i64) w1 (w.heap.size + 1 + 1) 0 (fillTo l0.length 0) := by
  intro j hj
  rw [fillTo_size] at hj
  rw [blk_cell hzb, blk_frozen hzb, getElem!_pos _ j (by rw [fillTo_size]; exact hj)]
  simp [fillTo, hj]
 have HH := Sd.mk hH
 have HZB := Sd.mk hzb
 have HRB := Sd.mk hrb
 have HFB := Sd.mk hfb
 have HBE := Sd.mk hbe
 clear hH hzb hrb hfb hbe hz0 HMK
 have hself : w1 = putRow (Value.int .i64) w1 (w.heap.size + 1 + 1) 0 (fillTo l0.length 0) := (Go.Sort.putRow_self _ _ _ _ _ HH.out).symm
 have HSELF := Sd.mk hself
 clear hself
 go_loopg [22] l0.length (fun gq v22 wr => ∃ k : Nat, v22 = .int .i64 k ∧ k ≤ l0.length ∧ l0.length - k ≤ gq ∧ wr = putRow (Value.int .i64) w1 (w.heap.size + 1 + 1) 0 (fillTo l0.length k))
 case atStart => exact ⟨0, rfl, Nat.zero_le _, by omega, HSELF.out⟩
 case round =>
  obtain ⟨k, rfl, hk, hgk, rfl⟩ := hrel
  by_cases hlt : k < l0.length
  ·have hltz : (k : Int) < (l0.length : Int) := by omega
   have hcell := (Go.Sort.holds_putRow (Value.int .i64) w1 (w.heap.size + 1 + 1) 0 (fillTo l0.length 0) (fillTo l0.length k) HH.out (by rw [fillTo_size, fillTo_size])) k (by rw [fillTo_size]; exact hlt)
   have hset := Go.Sort.putRow_set (Value.int .i64) w1 (w.heap.size + 1 + 1) 0 (fillTo l0.length k) k (k : Int) (by rw [fillTo_size]; exact hlt)
   rw [fillTo_step _ _ hlt] at hset
   simp only [Nat.zero_add] at hcell hset
   obtain ⟨hc1, hc2⟩ := hcell
   have HSET := Sd.mk hset
   clear hset
   generalize putRow (Value.int .i64) w1 (w.heap.size + 1 + 1) 0 (fillTo l0.length k) = wq at hc1 hc2 HSET ⊢
   generalize (fillTo l0.length k)[k]! = z at hc1
   go_wp2
   go_roundg (l0.length - (k + 1))
   case measure => omega
   case rel => exact ⟨k + 1, by go_num, by omega, by omega, HSET.out⟩
  ·have hltz : ¬ (k : Int) < (l0.length : Int) := by omega
   obtain rfl : k = l0.length := by omega
   rw [fillTo_all]
   have hio : Holds (Value.int .i64) (putRow (Value.int .i64) w1 (w.heap.size + 1 + 1) 0 (iotaA l0.length)) (w.heap.size + 1 + 1) 0 (iotaA l0.length) :=
    Go.Sort.holds_putRow (Value.int .i64) w1 (w.heap.size + 1 + 1) 0 (fillTo l0.length 0) (iotaA l0.length) HH.out (by rw [fillTo_size, iotaA_size])
   have hb2 : Below w.heap.size w (putRow (Value.int .i64) w1 (w.heap.size + 1 + 1) 0 (iotaA l0.length)) := below_putRow HBE.out (by omega) _
   have hf2 : (putRow (Value.int .i64) w1 (w.heap.size + 1 + 1) 0 (iotaA l0.length)).heap[w.heap.size]? = some (.cells #[.func (.func g) #[] lb] 126 (0, 0)) := blk_putRow HFB.out (by omega) _
   have hr2 : (putRow (Value.int .i64) w1 (w.heap.size + 1 + 1) 0 (iotaA l0.length)).heap[w.heap.size + 1]? = some (.cells #[.int .i64 0, .int .i64 0] 27 (0, 0)) := blk_putRow HRB.out (by omega) _
   generalize putRow (Value.int .i64) w1 (w.heap.size + 1 + 1) 0 (iotaA l0.length) = w2 at hio hb2 hf2 hr2 ⊢
   clear HH HZB HRB HFB HBE HSELF
   have hsort := sortFunc_calls (fun a b => cf a - cf b) l0.length 168 #[.pointer (some ⟨w.heap.size, 0, none⟩)] rfl (w.heap.size + 1 + 1) 0 l0.length (iotaA l0.length) w2 (enters_of Tryz.func168 (by kernel_rfl) rfl)
    (fun m dk _ x y hx0 hx1 hy0 hy1 => meanCmp_calls w.heap.size g lb cf l0.length w ((putRow (Value.int .i64) w2 (w.heap.size + 1 + 1) 0 dk).drewN m) eg HQ.out
     (pw_below_drewN (below_putRow hb2 (by omega) dk) m) ((blk_cell (blk_drewN (blk_putRow hf2 (by omega) dk) m) 0).trans rfl) x y hx0 hx1 hy0 hy1 (HOK.out.c1 x hx0 hx1) (HOK.out.c2 x hx0 hx1) (HOK.out.c1 y hy0 hy1) (HOK.out.c2 y hy0 hy1))
    hio (fun j hj => by rw [iotaA_size] at hj; rw [getElem!_pos _ j (by rw [iotaA_size]; exact hj)]; simp [iotaA]; omega) (by rw [iotaA_size]; exact HN.out)
   rw [iotaA_size] at hsort
   have HSORT := Sd.mk hsort
   have HB2 := Sd.mk hb2
   have HF2 := Sd.mk hf2
   have HR2 := Sd.mk hr2
   have HIO2 := Sd.mk hio
   clear hsort hb2 hf2 hr2 hio hltz
   go_wp2_with (go_at_call 167; refine HSORT.out.mono ?_; rintro e w3 ⟨rfl, m3, rfl⟩)
   have hD : orderOf cf l0.length = Sort.insertionSort (ltC fun a b => cf a - cf b) (iotaA l0.length) 0 l0.length := rfl
   rw [← hD]
   have hholds := Go.Sort.holds_putRow (Value.int .i64) w2 (w.heap.size + 1 + 1) 0 (iotaA l0.length) (orderOf cf l0.length) HIO2.out (by rw [order_size, iotaA_size])
   have hsz : (putRow (Value.int .i64) w2 (w.heap.size + 1 + 1) 0 (orderOf cf l0.length)).heap.size = w2.heap.size := Go.Sort.size_putRow _ _ _ _ _
   have h5lt : w.heap.size + 1 + 1 < w2.heap.size := by
    have := World.block_lt_of_cell? _ _ ((hholds 0 (by rw [order_size]; exact hpos)).1)
    rw [hsz] at this; exact this
   have hout : OutW w w.heap.size (w.heap.size + 1) (w.heap.size + 1 + 1) w2.heap.size g lb (orderOf cf l0.length)
     (((putRow (Value.int .i64) w2 (w.heap.size + 1 + 1) 0 (orderOf cf l0.length)).drewN m3).alloc (.cells #[.int .i64 0, .int .i64 0] 27)) 0 0 := by
    refine ⟨below_alloc (pw_below_drewN (below_putRow HB2.out (by omega) _) m3) _, blk_alloc (blk_drewN (blk_putRow HF2.out (by omega) _) m3) _, blk_alloc (blk_drewN (blk_putRow HR2.out (by omega) _) m3) _, fun j hj => ?_, ?_⟩
    ·have := (hholds j hj).1
     simp only [Nat.zero_add] at this
     exact pw_cell_below (below_alloc (pw_below_drewN (Below.refl _ _) m3) _) this
    ·have := blk_new ((putRow (Value.int .i64) w2 (w.heap.size + 1 + 1) 0 (orderOf cf l0.length)).drewN m3) (.cells #[.int .i64 0, .int .i64 0] 27)
     simpa [hsz] using this
   generalize ((putRow (Value.int .i64) w2 (w.heap.size + 1 + 1) 0 (orderOf cf l0.length)).drewN m3).alloc (.cells #[.int .i64 0, .int .i64 0] 27) = w4 at hout ⊢
   generalize w2.heap.size = Bo at hout h5lt ⊢
   have HOUT := Sd.mk hout
   have hsD := order_size cf l0.length
   have hAll := order_in cf l0.length
   have HSD := Sd.mk hsD
   have HALL := Sd.mk hAll
   have HPERM := Sd.mk (order_perm cf l0.length)
   have HFIN : Sd (meanLo cf l0 = minF (lowQ cf l0 (orderOf cf l0.length)) l0.length ∧ meanHi cf l0 = maxF (highQ cf l0 (orderOf cf l0.length)) l0.length) := ⟨⟨rfl, rfl⟩⟩
   clear hout hholds hsz hD HSORT HB2 HF2 HR2 HIO2 hsD hAll
   generalize orderOf cf l0.length = D at HOUT HSD HALL HFIN HPERM
   go_loopg [8] (l0.length + 1) (fun gq v8 wr => ∃ cut : Nat, v8 = .int .i64 cut ∧ cut ≤ l0.length + 1 ∧ l0.length + 1 - cut ≤ gq ∧ Sd (OutW w w.heap.size (w.heap.size + 1) (w.heap.size + 1 + 1) Bo g lb D wr (atCut (lowQ cf l0 D) minF cut) (atCut (highQ cf l0 D) maxF cut)))
   case atStart => exact ⟨0, rfl, by omega, by omega, HOUT⟩
   case round =>
    obtain ⟨cut, rfl, hcut, hgq, HO⟩ := hrel
    by_cases hle : cut ≤ l0.length
    ·have hlez : (cut : Int) ≤ (l0.length : Int) := by omega
     go_wp2
     have hsz2 : wr.heap.size + 1 = (wr.alloc (.cells #[.int .i64 0, .int .i64 0] 190)).heap.size := by simp
     have hmw : MeanW wr ((wr.alloc (.cells #[.int .i64 0, .int .i64 0] 190)).alloc (.cells #[.int .i64 0, .int .i64 0] 190)) wr.heap.size (wr.heap.size + 1) 0 0 0 0 :=
      ⟨below_alloc (below_alloc (Below.refl _ _) _) _, blk_alloc (blk_new wr _) _, by rw [hsz2]; exact blk_new _ _⟩
     have HMW := Sd.mk hmw
     clear hmw hsz2
     generalize (wr.alloc (.cells #[.int .i64 0, .int .i64 0] 190)).alloc (.cells #[.int .i64 0, .int .i64 0] 190) = w5 at HMW ⊢
     obtain ⟨wo, rfl⟩ : ∃ wo : World, wo = wr := ⟨_, rfl⟩
     go_loopg [41] l0.length (fun gq2 v41 wr2 => ∃ at_ : Nat, v41 = .int .i64 at_ ∧ at_ ≤ l0.length ∧ l0.length - at_ ≤ gq2 ∧ Sd (MeanW wo wr2 wo.heap.size (wo.heap.size + 1) (lowN cf l0 D cut at_) (lowD l0 D cut at_) (highN cf l0 D cut at_) (highD l0 D cut at_)))
     case atStart => exact ⟨0, rfl, by omega, by omega, HMW⟩
     case round =>
      obtain ⟨at_, rfl, hat, hgq2, HM⟩ := hrel
      by_cases hlt2 : at_ < l0.length
      ·have hltz2 : (at_ : Int) < (l0.length : Int) := by omega
       have hm := HM.out
       have ho := HO.out.later hm.below
       have hj := HALL.out at_ (by rw [HSD.out]; exact hlt2)
       have hord := ho.row at_ (by rw [HSD.out]; exact hlt2)
       have hfn : wr.cell? ⟨w.heap.size, 0, none⟩ = some (.func (.func g) #[] lb) := (blk_cell ho.fn 0).trans rfl
       have hrg := mean_ranges HOK.out D HALL.out HSD.out cut at_ hlt2
       have hb1 := mean_sums HOK.out D HALL.out HSD.out cut at_ hat
       have hstep : lowN cf l0 D cut (at_ + 1) = lowN cf l0 D cut at_ + cf D[at_]! * wX l0 D cut at_ ∧ lowD l0 D cut (at_ + 1) = lowD l0 D cut at_ + wX l0 D cut at_ ∧ highN cf l0 D cut (at_ + 1) = highN cf l0 D cut at_ + cf D[at_]! * wY l0 D cut at_ ∧ highD l0 D cut (at_ + 1) = highD l0 D cut at_ + wY l0 D cut at_ := ⟨rfl, rfl, rfl, rfl⟩
       have HSTEP := Sd.mk hstep
       clear hstep
       have hX : wX l0 D cut at_ = if (at_ : Int) < (cut : Int) then (rd_T27 l0 D[at_]!).f1 else (rd_T27 l0 D[at_]!).f0 := rfl
       have hY : wY l0 D cut at_ = if (at_ : Int) < (cut : Int) then (rd_T27 l0 D[at_]!).f0 else (rd_T27 l0 D[at_]!).f1 := rfl
       have hcoef : ∀ W, Below wo.heap.size wo W → Calls Tryz.prog g (#[.int .i64 D[at_]!] ++ lb) W fun e w' => e = .returned (.int .i64 (cf D[at_]!)) ∧ ∃ q, w' = W.drewN q := fun W hW => HQ.out W (below_trans' HO.out.below hW) _ hj.1 hj.2
       obtain ⟨hj0, hj1⟩ := hj
       obtain ⟨ads, es, hs0, hs1⟩ := at_T27 (Kd.C_below HR0.out ho.below) D[at_]! hj0 hj1
       cases es
       generalize wX l0 D cut at_ = X at *
       generalize wY l0 D cut at_ = Y at *
       generalize cf D[at_]! = ck at *
       generalize rd_T27 l0 D[at_]! = sp at *
       generalize D[at_]! = kk at *
       have HC := Sd.mk hcoef
       have HX := Sd.mk hX
       have HY := Sd.mk hY
       have HRG := Sd.mk hrg
       have HB1 := Sd.mk hb1
       have hlen12 := HN.out
       clear hcoef hX hY hrg hb1 ho hm
       go_upto_region 16 with (fail)
       go_quiet (fail)
       go_upto_if 58 with (fail)
       go_cut [13, 14] (fun v13 v14 wx => v13 = .int .i64 X ∧ v14 = .int .i64 Y ∧ wr.drewN nq = wx)
       case first =>
        by_cases hac : (at_ : Int) < (cut : Int)
        ·go_wp2
         go_meet
         exact ⟨by rw [HX.out, if_pos hac], by rw [HY.out, if_pos hac], rfl⟩
        ·go_wp2
         go_meet
         exact ⟨by rw [HX.out, if_neg (show ¬ (at_ : Int) < (cut : Int) by omega)], by rw [HY.out, if_neg (show ¬ (at_ : Int) < (cut : Int) by omega)], rfl⟩
       case rest =>
        obtain ⟨rfl, rfl, rfl⟩ := hcut
        have hm := HM.out.drewN nq
        clear hfn hord hs0 hs1 HM HX HY
        obtain ⟨hX1, hY1, hp1, hp2⟩ := HRG.out
        obtain ⟨hs1, hs2, hs3, hs4⟩ := HB1.out
        obtain ⟨es1, es2, es3, es4⟩ := HSTEP.out
        have HW1 := Sd.mk (wrap_two es1 hs1.1 hs1.2 hp1.1 hp1.2)
        have HW2 := Sd.mk (wrap_one es2 hs2.1 hs2.2 hX1.1 hX1.2)
        have HW3 := Sd.mk (wrap_two es3 hs3.1 hs3.2 hp2.1 hp2.2)
        have HW4 := Sd.mk (wrap_one es4 hs4.1 hs4.2 hY1.1 hY1.2)
        clear hX1 hY1 hp1 hp2 hs1 hs2 hs3 hs4 es1 es2 es3 es4 HSTEP HRG HB1
        generalize wr.drewN nq = wn at hm ⊢
        have HM2 := Sd.mk hm
        have h90 : wn.cell? ⟨wo.heap.size, 0, none⟩ = some (.int .i64 (lowN cf l0 D cut at_)) := (blk_cell hm.b9 0).trans rfl
        have h91 : wn.cell? ⟨wo.heap.size, 1, none⟩ = some (.int .i64 (lowD l0 D cut at_)) := (blk_cell hm.b9 1).trans rfl
        have h92 := blk_frozen hm.b9 0
        have h93 := blk_frozen hm.b9 1
        have hfn : wn.cell? ⟨w.heap.size, 0, none⟩ = some (.func (.func g) #[] lb) := (blk_cell (HO.out.later hm.below).fn 0).trans rfl
        have hc1 := HC.out wn.drew (below_drew hm.below)
        clear hm
        go_upto_region 19 with (fail)
        go_cut [12] (fun v12 wx => v12 = .int .i64 kk ∧ Sd (MeanW wo wx wo.heap.size (wo.heap.size + 1) (lowN cf l0 D cut (at_ + 1)) (lowD l0 D cut (at_ + 1)) (highN cf l0 D cut at_) (highD l0 D cut at_)))
        case first =>
         clear HSD HALL HFIN HOUT HN HO HC HQ HR0 HOK
         go_region_with (go_at_fn g; refine hc1.mono ?_; rintro e w' ⟨rfl, q, rfl⟩)
         all_goals
          go_wp2_with fail
          go_meet
          refine ⟨rfl, ⟨?_⟩⟩
          rw [HW1.out, HW2.out]
          exact (HM2.out.drewN _).put9 (Nat.le_refl _) (by omega) _ _
        case rest =>
         clear h90 h91 h92 h93 hfn hc1 HM2
         rename_i wn2
         obtain ⟨rfl, HM2⟩ := hcut
         have hm := HM2.out
         have h90 : wc.cell? ⟨wo.heap.size + 1, 0, none⟩ = some (.int .i64 (highN cf l0 D cut at_)) := (blk_cell hm.b10 0).trans rfl
         have h91 : wc.cell? ⟨wo.heap.size + 1, 1, none⟩ = some (.int .i64 (highD l0 D cut at_)) := (blk_cell hm.b10 1).trans rfl
         have h92 := blk_frozen hm.b10 0
         have h93 := blk_frozen hm.b10 1
         have hfn : wc.cell? ⟨w.heap.size, 0, none⟩ = some (.func (.func g) #[] lb) := (blk_cell (HO.out.later hm.below).fn 0).trans rfl
         have hc1 := HC.out wc.drew (below_drew hm.below)
         clear hm
         go_upto_region 20 with (fail)
         go_region_with (go_at_fn g; refine hc1.mono ?_; rintro e w' ⟨rfl, q, rfl⟩)
         all_goals
          have hm4 : MeanW wo (((wc.drewN (1 + q)).setCell ⟨wo.heap.size + 1, 0, none⟩ (.int .i64 (IntKind.i64.wrap (highN cf l0 D cut at_ + IntKind.i64.wrap (ck * Y))))).setCell ⟨wo.heap.size + 1, 1, none⟩ (.int .i64 (IntKind.i64.wrap (highD l0 D cut at_ + Y)))) wo.heap.size (wo.heap.size + 1) (lowN cf l0 D cut (at_ + 1)) (lowD l0 D cut (at_ + 1)) (highN cf l0 D cut (at_ + 1)) (highD l0 D cut (at_ + 1)) := by
           rw [HW3.out, HW4.out]
           exact (HM2.out.drewN _).put10 (by omega) (by omega) _ _
          have HM4 := Sd.mk hm4
          clear hm4 h90 h91 h92 h93 hfn hc1
          generalize ((wc.drewN (1 + q)).setCell ⟨wo.heap.size + 1, 0, none⟩ (.int .i64 (IntKind.i64.wrap (highN cf l0 D cut at_ + IntKind.i64.wrap (ck * Y))))).setCell ⟨wo.heap.size + 1, 1, none⟩ (.int .i64 (IntKind.i64.wrap (highD l0 D cut at_ + Y))) = w9 at HM4 ⊢
          go_wp2
          go_roundg (l0.length - (at_ + 1))
          case measure => omega
          case rel => exact ⟨at_ + 1, by go_num, by omega, by omega, HM4⟩
      ·have hltz2 : ¬ (at_ : Int) < (l0.length : Int) := by omega
       obtain rfl : at_ = l0.length := by omega
       have hm := HM.out
       have ho := HO.out.later hm.below
       have hsm := mean_sums HOK.out D HALL.out HSD.out cut l0.length (Nat.le_refl _)
       have hpl : 0 < lowD l0 D cut l0.length ∧ 0 < highD l0 D cut l0.length := mean_pos HOK.out D HALL.out HSD.out HPERM.out cut
       have hq58 : ∀ W, Calls Tryz.prog 169 #[.int .i64 (lowN cf l0 D cut l0.length), .int .i64 (lowD l0 D cut l0.length)] W fun e w' => e = .returned (.int .i64 (lowQ cf l0 D cut)) ∧ ∃ q, w' = W.drewN q := fun W =>
        (b_down.calls _ _ _ W (down_f _ _ hpl.1 (by omega) (by omega))).mono fun e w' ⟨h1, h2⟩ => ⟨h1, h2.out⟩
       have hq59 : ∀ W, Calls Tryz.prog 96 #[.int .i64 (highN cf l0 D cut l0.length), .int .i64 (highD l0 D cut l0.length)] W fun e w' => e = .returned (.int .i64 (highQ cf l0 D cut)) ∧ ∃ q, w' = W.drewN q := fun W =>
        (b_up.calls _ _ _ W (up_f _ _ hpl.2 (by omega) (by omega))).mono fun e w' ⟨h1, h2⟩ => ⟨h1, h2.out⟩
       have h90 : wr.cell? ⟨wo.heap.size, 0, none⟩ = some (.int .i64 (lowN cf l0 D cut l0.length)) := (blk_cell hm.b9 0).trans rfl
       have h91 : wr.cell? ⟨wo.heap.size, 1, none⟩ = some (.int .i64 (lowD l0 D cut l0.length)) := (blk_cell hm.b9 1).trans rfl
       have h92 : wr.cell? ⟨wo.heap.size + 1, 0, none⟩ = some (.int .i64 (highN cf l0 D cut l0.length)) := (blk_cell hm.b10 0).trans rfl
       have h93 : wr.cell? ⟨wo.heap.size + 1, 1, none⟩ = some (.int .i64 (highD l0 D cut l0.length)) := (blk_cell hm.b10 1).trans rfl
       have H58 := Sd.mk hq58
       have H59 := Sd.mk hq59
       have HO2 := Sd.mk ho
       have ho0 : wr.cell? ⟨Bo, 0, none⟩ = some (.int .i64 (atCut (lowQ cf l0 D) minF cut)) := (blk_cell ho.out 0).trans rfl
       have ho1 : wr.cell? ⟨Bo, 1, none⟩ = some (.int .i64 (atCut (highQ cf l0 D) maxF cut)) := (blk_cell ho.out 1).trans rfl
       have ho2 := blk_frozen ho.out 0
       have ho3 := blk_frozen ho.out 1
       clear hq58 hq59 hm ho hsm hpl
       go_upto_region 22 with (fail)
       go_quiet (first | (go_at_call 169; exact Calls.quiet_of (H58.out _)) | (go_at_call 96; exact Calls.quiet_of (H59.out _)))
       have ho4 := HO2.out.drewN nq
       have HO4 := Sd.mk ho4
       have hBo : w.heap.size ≤ Bo := by omega
       cases cut with
       | zero =>
        have hcb : (((0 : Nat) : Int) == 0) = true := rfl
        have e1 : atCut (lowQ cf l0 D) minF (0 + 1) = lowQ cf l0 D 0 := rfl
        have e2 : atCut (highQ cf l0 D) maxF (0 + 1) = highQ cf l0 D 0 := rfl
        have E12 := Sd.mk (And.intro e1 e2)
        clear e1 e2 H58 H59 ho4
        generalize lowQ cf l0 D 0 = q1 at *
        generalize highQ cf l0 D 0 = q2 at *
        have hcz : ((0 : Nat) : Int) = 0 := rfl
        rw [hcz]
        generalize wr.drewN nq = w8 at *
        have ho0' : w8.cell? ⟨Bo, 0, none⟩ = some (.int .i64 0) := (blk_cell HO4.out.out 0).trans rfl
        have ho1' : w8.cell? ⟨Bo, 1, none⟩ = some (.int .i64 0) := (blk_cell HO4.out.out 1).trans rfl
        have ho2' := blk_frozen HO4.out.out 0
        have ho3' := blk_frozen HO4.out.out 1
        go_wp2
        go_roundg l0.length
        case measure => omega
        case rel => exact ⟨1, by first | rfl | go_num, by omega, by omega, ⟨by rw [E12.out.1, E12.out.2]; exact (HO4.out.put hBo (by omega) (by omega) (by omega) q1 q2).put hBo (by omega) (by omega) (by omega) q1 q2⟩⟩
       | succ cc =>
        have hcb : (((cc : Int) + 1) == 0) = false := by simp; omega
        have e1 : atCut (lowQ cf l0 D) minF (cc + 1 + 1) = if lowQ cf l0 D (cc + 1) < atCut (lowQ cf l0 D) minF (cc + 1) then lowQ cf l0 D (cc + 1) else atCut (lowQ cf l0 D) minF (cc + 1) := rfl
        have e2 : atCut (highQ cf l0 D) maxF (cc + 1 + 1) = if atCut (highQ cf l0 D) maxF (cc + 1) < highQ cf l0 D (cc + 1) then highQ cf l0 D (cc + 1) else atCut (highQ cf l0 D) maxF (cc + 1) := rfl
        have E12 := Sd.mk (And.intro e1 e2)
        clear e1 e2 H58 H59 ho4
        generalize lowQ cf l0 D (cc + 1) = q1 at *
        generalize highQ cf l0 D (cc + 1) = q2 at *
        generalize atCut (lowQ cf l0 D) minF (cc + 1) = x1 at *
        generalize atCut (highQ cf l0 D) maxF (cc + 1) = y1 at *
        rw [show ((cc + 1 : Nat) : Int) = (cc : Int) + 1 from by omega]
        generalize wr.drewN nq = w8 at *
        have ho0' : w8.cell? ⟨Bo, 0, none⟩ = some (.int .i64 x1) := (blk_cell HO4.out.out 0).trans rfl
        have ho1' : w8.cell? ⟨Bo, 1, none⟩ = some (.int .i64 y1) := (blk_cell HO4.out.out 1).trans rfl
        have ho2' := blk_frozen HO4.out.out 0
        have ho3' := blk_frozen HO4.out.out 1
        have hr1 : (cc : Int) + 1 ≤ 12 := by have := HN.out; omega
        have hr0 : 0 ≤ (cc : Int) := by omega
        go_wp2
        all_goals
         go_roundg (l0.length - (cc + 1))
         case measure => omega
         case rel => exact ⟨cc + 1 + 1, by first | rfl | go_num, by omega, by omega, ⟨by rw [E12.out.1, E12.out.2]; (first | rw [if_pos (show q1 < x1 by assumption)] | rw [if_neg (show ¬ q1 < x1 by omega)]); (first | rw [if_pos (show y1 < q2 by assumption)] | rw [if_neg (show ¬ y1 < q2 by omega)]); exact HO4.out.put hBo (by omega) (by omega) (by omega) _ _⟩⟩
    ·have hlez : ¬ (cut : Int) ≤ (l0.length : Int) := by omega
     obtain rfl : cut = l0.length + 1 := by omega
     have ho := HO.out
     have c0 : wr.cell? ⟨Bo, 0, none⟩ = some (.int .i64 (meanLo cf l0)) := by rw [HFIN.out.1]; exact (blk_cell ho.out 0).trans rfl
     have c1 : wr.cell? ⟨Bo, 1, none⟩ = some (.int .i64 (meanHi cf l0)) := by rw [HFIN.out.2]; exact (blk_cell ho.out 1).trans rfl
     have r0 : wr.cell? ⟨w.heap.size + 1, 0, none⟩ = some (.int .i64 0) := (blk_cell ho.res 0).trans rfl
     have r1 : wr.cell? ⟨w.heap.size + 1, 1, none⟩ = some (.int .i64 0) := (blk_cell ho.res 1).trans rfl
     have f0 := blk_frozen ho.res 0
     have f1 := blk_frozen ho.res 1
     clear ho
     go_wp2
     refine bodyPost_ret (results_cell_row rfl _ _ (w.heap.size + 1) 27 #[.int .i64 (meanLo cf l0), .int .i64 (meanHi cf l0)] (0, 0) _ rfl (blk_put (cs := #[.int .i64 (meanLo cf l0), .int .i64 0]) (blk_put (cs := #[.int .i64 0, .int .i64 0]) HO.out.res 0 _ rfl) 1 _ rfl) Tryz.underlying27 (by decide) (by kernel_rfl)) rfl ?_
     exact ⟨rfl, below_set (below_set HO.out.below (by omega)) (by omega)⟩
end
section
def meanOkB (cf : Int → Int) (l : List S27) : Bool :=
 decide (l.length ≤ 12) && ((List.range l.length).all fun j => decide (0 ≤ (rd_T27 l (j : Int)).f0) && decide ((rd_T27 l (j : Int)).f0 ≤ (rd_T27 l (j : Int)).f1) && decide ((rd_T27 l (j : Int)).f1 ≤ 1000000000) && decide (-100000 ≤ cf j) && decide (cf j ≤ 100000)) && decide (0 < MeanMath.lsum S27.f0 l)
theorem meanOkB_iff {cf : Int → Int} {l : List S27} : meanOkB cf l = true ↔ MeanOk cf l := by
 unfold meanOkB
 simp only [Bool.and_eq_true, decide_eq_true_eq, List.all_eq_true, List.mem_range]
 constructor
 ·rintro ⟨⟨h1, h2⟩, h3⟩
  have key : ∀ k : Int, 0 ≤ k → k < l.length → ∃ j : Nat, j < l.length ∧ k = j := fun k h0 h1 => ⟨k.toNat, by omega, by omega⟩
  refine ⟨h1, ?_, ?_, ?_, ?_, ?_, h3⟩ <;> intro k h0 hl <;> obtain ⟨j, hj, rfl⟩ := key k h0 hl <;> have := h2 j hj <;> omega
 ·intro h
  refine ⟨⟨h.n12, fun j hj => ?_⟩, h.pos⟩
  have h0 : (0 : Int) ≤ j := by omega
  have hl : (j : Int) < l.length := by omega
  exact ⟨⟨⟨⟨h.lo _ h0 hl, h.le _ h0 hl⟩, h.hi _ h0 hl⟩, h.c1 _ h0 hl⟩, h.c2 _ h0 hl⟩
theorem value1_calls (H P : Nat) (A0_0 : Option Addr) (c0_0 : Nat) (l0_0 : List ByteArray) (A0_1 : Option Addr) (c0_1 : Nat) (l0_1 : List (S70)) (A0_2 : Option Addr) (c0_2 : Nat) (l0_2 : List (S27)) (A0_3 : Option Addr) (c0_3 : Nat) (l0_3 : List (S89)) (a0_4 : Int) (a0_5 : Int) (a0_6 : Int) (a2 : Int) (W : World) (hH : W.heap[H]? = some (.cells #[.slice A0_0 l0_0.length c0_0, .slice A0_1 l0_1.length c0_1, .slice A0_2 l0_2.length c0_2, .slice A0_3 l0_3.length c0_3, .int .i64 a0_4, .int .i64 a0_5, .int .i64 a0_6] 29 (0, 0))) (hP : W.heap[P]? = some (.cells #[.int .i64 a2] 3 (0, 0)))
  (hr : Kd.C k89 W A0_3 l0_3.length l0_3) (h0 : 0 ≤ a2) (h1 : a2 < l0_3.length) (x : Int) (hx0 : 0 ≤ x) (hx1 : x < (rd_T89 l0_3 a2).f1.length) :
  Calls Tryz.prog 131 #[.int .i64 x, .pointer (some ⟨H, 0, none⟩), .pointer (some ⟨P, 0, none⟩)] W fun e w' => e = .returned (.int .i64 (rd (rd_T89 l0_3 a2).f1 x)) ∧ ∃ q, w' = W.drewN q := by
 obtain ⟨ad, A1, c1, rfl, hq0, hq1, hq2, hq3, hl, hC⟩ := at_T89 hr a2 h0 h1
 obtain ⟨ae, rfl, hqx⟩ := Kd.at_int hC x hx0 hx1
 have hH3 : W.cell? ⟨H, 0 + 3, none⟩ = some (.slice (some ad) l0_3.length c0_3) := (blk_cell hH 3).trans rfl
 have hP0 : W.cell? ⟨P, 0, none⟩ = some (.int .i64 a2) := (blk_cell hP 0).trans rfl
 clear hr
 go_enter Tryz.func131, Tryz.ntmps131
 go_wp2
 go_ret
 exact ⟨rfl, 0, rfl⟩
def x_Value.f (k : Nat) (l0_0 : List ByteArray) (l0_1 : List (S70)) (l0_2 : List (S27)) (l0_3 : List (S89)) (a0_4 : Int) (a0_5 : Int) (a0_6 : Int) (l1 : List Int) (a2 : Int) : Option (Int × Int × Int) := (b_asked.f k l0_0 l0_1 l0_2 l0_3 a0_4 a0_5 a0_6 l1).bind fun e => if e = 0 then ((b_within.f a2 0 (wrap64 ((l0_3.length : Int) - 1))).bind fun b => if b = true then ((x_glass.f k l0_0 l0_1 l0_2 l0_3 a0_4 a0_5 a0_6 l1).bind fun p => if p.2 = 0 then (if 0 ≤ a2 ∧ a2 < l0_3.length ∧ p.1.length ≤ (rd_T89 l0_3 a2).f1.length ∧ meanOkB (rd (rd_T89 l0_3 a2).f1) p.1 = true then some (meanLo (rd (rd_T89 l0_3 a2).f1) p.1, meanHi (rd (rd_T89 l0_3 a2).f1) p.1, 0) else none) else some (0, 0, p.2)) else some (0, 0, 7)) else some (0, 0, e)
theorem x_Value.calls (k : Nat) (A0_0 : Option Addr) (c0_0 : Nat) (l0_0 : List ByteArray) (A0_1 : Option Addr) (c0_1 : Nat) (l0_1 : List (S70)) (A0_2 : Option Addr) (c0_2 : Nat) (l0_2 : List (S27)) (A0_3 : Option Addr) (c0_3 : Nat) (l0_3 : List (S89)) (a0_4 : Int) (a0_5 : Int) (a0_6 : Int) (A1 : Option Addr) (c1 : Nat) (l1 : List Int) (a2 : Int) (r1 : Int) (r2 : Int) (r3 : Int) (w : World) (hr0_0 : Kd.C Kd.string w A0_0 l0_0.length l0_0) (hc0_0 : l0_0.length ≤ c0_0) (hr0_1 : Kd.C k70 w A0_1 l0_1.length l0_1) (hc0_1 : l0_1.length ≤ c0_1) (hr0_2 : Kd.C k27 w A0_2 l0_2.length l0_2) (hc0_2 : l0_2.length ≤ c0_2) (hr0_3 : Kd.C k89 w A0_3 l0_3.length l0_3) (hc0_3 : l0_3.length ≤ c0_3) (hr1 : Kd.C (Kd.int .i64) w A1 l1.length l1) (hc1 : l1.length ≤ c1) (h : x_Value.f k l0_0 l0_1 l0_2 l0_3 a0_4 a0_5 a0_6 l1 a2 = some (r1, r2, r3)) :
  Calls Tryz.prog 46 #[.agg #[.slice A0_0 l0_0.length c0_0, .slice A0_1 l0_1.length c0_1, .slice A0_2 l0_2.length c0_2, .slice A0_3 l0_3.length c0_3, .int .i64 a0_4, .int .i64 a0_5, .int .i64 a0_6], .slice A1 l1.length c1, .int .i64 a2] w fun e w' => e = .returned (.tuple #[.agg #[.int .i64 r1, .int .i64 r2], .int .i64 r3]) ∧ Below w.heap.size w w' := by
 unfold x_Value.f at h
 obtain ⟨ea, ha, H⟩ := Option.bind_eq_some_iff.mp h
 have hb0 : Below w.heap.size w (((w.alloc (.cells #[.slice A0_0 l0_0.length c0_0, .slice A0_1 l0_1.length c0_1, .slice A0_2 l0_2.length c0_2, .slice A0_3 l0_3.length c0_3, .int .i64 a0_4, .int .i64 a0_5, .int .i64 a0_6] 29)).alloc (.cells #[.int .i64 a2] 3)).alloc (.cells #[.int .i64 0, .int .i64 0] 27)) := below_alloc (below_alloc (below_alloc (Below.refl _ _) _) _) _
 have hH : (((w.alloc (.cells #[.slice A0_0 l0_0.length c0_0, .slice A0_1 l0_1.length c0_1, .slice A0_2 l0_2.length c0_2, .slice A0_3 l0_3.length c0_3, .int .i64 a0_4, .int .i64 a0_5, .int .i64 a0_6] 29)).alloc (.cells #[.int .i64 a2] 3)).alloc (.cells #[.int .i64 0, .int .i64 0] 27)).heap[w.heap.size]? = some (.cells #[.slice A0_0 l0_0.length c0_0, .slice A0_1 l0_1.length c0_1, .slice A0_2 l0_2.length c0_2, .slice A0_3 l0_3.length c0_3, .int .i64 a0_4, .int .i64 a0_5, .int .i64 a0_6] 29 (0, 0)) := blk_alloc (blk_alloc (blk_new w _) _) _
 have hP : (((w.alloc (.cells #[.slice A0_0 l0_0.length c0_0, .slice A0_1 l0_1.length c0_1, .slice A0_2 l0_2.length c0_2, .slice A0_3 l0_3.length c0_3, .int .i64 a0_4, .int .i64 a0_5, .int .i64 a0_6] 29)).alloc (.cells #[.int .i64 a2] 3)).alloc (.cells #[.int .i64 0, .int .i64 0] 27)).heap[w.heap.size + 1]? = some (.cells #[.int .i64 a2] 3 (0, 0)) := by
  have := blk_alloc (blk_new (w.alloc (.cells #[.slice A0_0 l0_0.length c0_0, .slice A0_1 l0_1.length c0_1, .slice A0_2 l0_2.length c0_2, .slice A0_3 l0_3.length c0_3, .int .i64 a0_4, .int .i64 a0_5, .int .i64 a0_6] 29)) (.cells #[.int .i64 a2] 3)) (.cells #[.int .i64 0, .int .i64 0] 27)
  simpa using this
 have hZ : (((w.alloc (.cells #[.slice A0_0 l0_0.length c0_0, .slice A0_1 l0_1.length c0_1, .slice A0_2 l0_2.length c0_2, .slice A0_3 l0_3.length c0_3, .int .i64 a0_4, .int .i64 a0_5, .int .i64 a0_6] 29)).alloc (.cells #[.int .i64 a2] 3)).alloc (.cells #[.int .i64 0, .int .i64 0] 27)).heap[w.heap.size + 1 + 1]? = some (.cells #[.int .i64 0, .int .i64 0] 27 (0, 0)) := by
  have := blk_new ((w.alloc (.cells #[.slice A0_0 l0_0.length c0_0, .slice A0_1 l0_1.length c0_1, .slice A0_2 l0_2.length c0_2, .slice A0_3 l0_3.length c0_3, .int .i64 a0_4, .int .i64 a0_5, .int .i64 a0_6] 29)).alloc (.cells #[.int .i64 a2] 3)) (.cells #[.int .i64 0, .int .i64 0] 27)
  simpa using this
 have hgo := b_asked.calls k A0_0 c0_0 l0_0 A0_1 c0_1 l0_1 A0_2 c0_2 l0_2 A0_3 c0_3 l0_3 a0_4 a0_5 a0_6 A1 c1 l1 ea (((w.alloc (.cells #[.slice A0_0 l0_0.length c0_0, .slice A0_1 l0_1.length c0_1, .slice A0_2 l0_2.length c0_2, .slice A0_3 l0_3.length c0_3, .int .i64 a0_4, .int .i64 a0_5, .int .i64 a0_6] 29)).alloc (.cells #[.int .i64 a2] 3)).alloc (.cells #[.int .i64 0, .int .i64 0] 27)) (Kd.C_below hr0_0 hb0) hc0_0 (Kd.C_below hr0_1 hb0) hc0_1 (Kd.C_below hr0_2 hb0) hc0_2 (Kd.C_below hr0_3 hb0) hc0_3 (Kd.C_below hr1 hb0) hc1 ha
 clear h ha
 have HR0_0 := Sd.mk hr0_0
 have HC0_0 := Sd.mk hc0_0
 clear hr0_0 hc0_0
 have HR0_1 := Sd.mk hr0_1
 have HC0_1 := Sd.mk hc0_1
 clear hr0_1 hc0_1
 have HR0_2 := Sd.mk hr0_2
 have HC0_2 := Sd.mk hc0_2
 clear hr0_2 hc0_2
 have HR0_3 := Sd.mk hr0_3
 have HC0_3 := Sd.mk hc0_3
 clear hr0_3 hc0_3
 have HR1 := Sd.mk hr1
 have HC1 := Sd.mk hc1
 clear hr1 hc1
 have HB := Sd.mk hb0
 have HH := Sd.mk H
 have BH := Sd.mk hH
 have BP := Sd.mk hP
 have BZ := Sd.mk hZ
 clear hb0 H hH hP hZ
 go_enter Tryz.func46, Tryz.ntmps46
 go_wp2_with fail
 generalize (((w.alloc (.cells #[.slice A0_0 l0_0.length c0_0, .slice A0_1 l0_1.length c0_1, .slice A0_2 l0_2.length c0_2, .slice A0_3 l0_3.length c0_3, .int .i64 a0_4, .int .i64 a0_5, .int .i64 a0_6] 29)).alloc (.cells #[.int .i64 a2] 3)).alloc (.cells #[.int .i64 0, .int .i64 0] 27)) = w0 at *
 refine hgo.mono ?_
 clear hgo
 rintro e w1 ⟨rfl, hb⟩
 have HB1 := Sd.mk (below_trans' HB.out hb)
 have BH1 := Sd.mk (blk_below BH.out hb)
 have BP1 := Sd.mk (blk_below BP.out hb)
 have BZ1 := Sd.mk (blk_below BZ.out hb)
 clear hb HB BH BP BZ w0
 have hz0 : w1.cell? ⟨w.heap.size + 1 + 1, 0, none⟩ = some (.int .i64 0) := (blk_cell BZ1.out 0).trans rfl
 have hz1 : w1.cell? ⟨w.heap.size + 1 + 1, 1, none⟩ = some (.int .i64 0) := (blk_cell BZ1.out 1).trans rfl
 have hzf0 := blk_frozen BZ1.out 0
 have hzf1 := blk_frozen BZ1.out 1
 have H := HH.out
 clear HH
 by_cases he : ea = 0
 ·rw [if_pos he] at H
  have heb : (ea != 0) = false := by simp [he]
  obtain ⟨bw, hbw, H⟩ := Option.bind_eq_some_iff.mp H
  have hgo := b_within.calls a2 0 (wrap64 ((l0_3.length : Int) - 1)) bw w1 hbw
  have hh3 : w1.cell? ⟨w.heap.size, 0 + 3, none⟩ = some (.slice A0_3 l0_3.length c0_3) := (blk_cell BH1.out 3).trans rfl
  have hp0 : w1.cell? ⟨w.heap.size + 1, 0, none⟩ = some (.int .i64 a2) := (blk_cell BP1.out 0).trans rfl
  have HH := Sd.mk H
  have HE := Sd.mk he
  clear H he hbw
  clear hz0 hz1 hzf0 hzf1
  go_wp2_with fail
  refine hgo.mono ?_
  clear hgo
  rintro e w2 ⟨rfl, hd⟩
  have hb := hd.below
  clear hd
  clear hh3 hp0
  have HB2 := Sd.mk (below_trans' HB1.out hb)
  have BH2 := Sd.mk (blk_below BH1.out hb)
  have BP2 := Sd.mk (blk_below BP1.out hb)
  have BZ2 := Sd.mk (blk_below BZ1.out hb)
  clear hb HB1 BH1 BP1 BZ1
  have H := HH.out
  clear HH
  cases hbb : bw with
  | true =>
   rw [if_pos hbb] at H
   obtain ⟨p, hp, H⟩ := Option.bind_eq_some_iff.mp H
   obtain ⟨pl, pe⟩ := p
   dsimp only at H
   have hgo := x_glass.calls k A0_0 c0_0 l0_0 A0_1 c0_1 l0_1 A0_2 c0_2 l0_2 A0_3 c0_3 l0_3 a0_4 a0_5 a0_6 A1 c1 l1 pl pe w2 (Kd.C_below HR0_0.out HB2.out) HC0_0.out (Kd.C_below HR0_1.out HB2.out) HC0_1.out (Kd.C_below HR0_2.out HB2.out) HC0_2.out (Kd.C_below HR0_3.out HB2.out) HC0_3.out (Kd.C_below HR1.out HB2.out) HC1.out hp
   have hc_0 : w2.cell? ⟨w.heap.size, 0, none⟩ = some (.slice A0_0 l0_0.length c0_0) := (blk_cell BH2.out 0).trans rfl
   have hc_1 : w2.cell? ⟨w.heap.size, 1, none⟩ = some (.slice A0_1 l0_1.length c0_1) := (blk_cell BH2.out 1).trans rfl
   have hc_2 : w2.cell? ⟨w.heap.size, 2, none⟩ = some (.slice A0_2 l0_2.length c0_2) := (blk_cell BH2.out 2).trans rfl
   have hc_3 : w2.cell? ⟨w.heap.size, 3, none⟩ = some (.slice A0_3 l0_3.length c0_3) := (blk_cell BH2.out 3).trans rfl
   have hc_4 : w2.cell? ⟨w.heap.size, 4, none⟩ = some (.int .i64 a0_4) := (blk_cell BH2.out 4).trans rfl
   have hc_5 : w2.cell? ⟨w.heap.size, 5, none⟩ = some (.int .i64 a0_5) := (blk_cell BH2.out 5).trans rfl
   have hc_6 : w2.cell? ⟨w.heap.size, 6, none⟩ = some (.int .i64 a0_6) := (blk_cell BH2.out 6).trans rfl
   clear hp hbb
   have HH := Sd.mk H
   clear H
   go_wp2_with fail
   refine hgo.mono ?_
   clear hgo hc_0 hc_1 hc_2 hc_3 hc_4 hc_5 hc_6
   rintro e w3 ⟨v, rfl, hR, hb⟩
   obtain ⟨A, c, rfl, hlc, hC⟩ := Kd.R_reads hR
   clear hR
   have HB3 := Sd.mk (below_trans' HB2.out hb)
   have BH3 := Sd.mk (blk_below BH2.out hb)
   have BP3 := Sd.mk (blk_below BP2.out hb)
   have BZ3 := Sd.mk (blk_below BZ2.out hb)
   clear hb HB2 BH2 BP2 BZ2
   have H := HH.out
   clear HH
   by_cases hpe : pe = 0
   ·rw [if_pos hpe] at H
    have hpb : (pe != 0) = false := by simp [hpe]
    have hif : (0 ≤ a2 ∧ a2 < l0_3.length ∧ pl.length ≤ (rd_T89 l0_3 a2).f1.length ∧ meanOkB (rd (rd_T89 l0_3 a2).f1) pl = true) := by
     by_cases hh : (0 ≤ a2 ∧ a2 < l0_3.length ∧ pl.length ≤ (rd_T89 l0_3 a2).f1.length ∧ meanOkB (rd (rd_T89 l0_3 a2).f1) pl = true)
     ·exact hh
     ·rw [if_neg hh] at H; cases H
    rw [if_pos hif] at H
    obtain ⟨h0, h1, h2, h3⟩ := hif
    simp only [Option.some.injEq, Prod.mk.injEq] at H
    obtain ⟨rfl, rfl, rfl⟩ := H
    have hq : CoefQ 131 #[.pointer (some ⟨w.heap.size, 0, none⟩), .pointer (some ⟨w.heap.size + 1, 0, none⟩)] (rd (rd_T89 l0_3 a2).f1) pl.length w3 := fun W hbW x hx0 hx1 =>
     value1_calls w.heap.size (w.heap.size + 1) A0_0 c0_0 l0_0 A0_1 c0_1 l0_1 A0_2 c0_2 l0_2 A0_3 c0_3 l0_3 a0_4 a0_5 a0_6 a2 W (blk_below BH3.out hbW) (blk_below BP3.out hbW) (Kd.C_below (Kd.C_below HR0_3.out HB3.out) hbW) h0 h1 x hx0 (by omega)
    have hgo := mean_calls (rd (rd_T89 l0_3 a2).f1) A c pl 131 #[.pointer (some ⟨w.heap.size, 0, none⟩), .pointer (some ⟨w.heap.size + 1, 0, none⟩)] w3 (enters_of Tryz.func131 (by kernel_rfl) rfl) hC hlc hq (meanOkB_iff.mp h3)
    clear hq
    go_wp2_with fail
    refine hgo.mono ?_
    clear hgo
    rintro e w4 ⟨rfl, hb⟩
    have HB4 := Sd.mk (below_trans' HB3.out hb)
    have BZ4 := Sd.mk (blk_below BZ3.out hb)
    clear hb HB3 BH3 BP3 BZ3
    have hz0 : w4.cell? ⟨w.heap.size + 1 + 1, 0, none⟩ = some (.int .i64 0) := (blk_cell BZ4.out 0).trans rfl
    have hz1 : w4.cell? ⟨w.heap.size + 1 + 1, 1, none⟩ = some (.int .i64 0) := (blk_cell BZ4.out 1).trans rfl
    have hzf0 := blk_frozen BZ4.out 0
    have hzf1 := blk_frozen BZ4.out 1
    go_wp2
    refine bodyPost_ret (results_ct rfl _ _ (w.heap.size + 1 + 1) 27 #[.int .i64 (meanLo (rd (rd_T89 l0_3 a2).f1) pl), .int .i64 (meanHi (rd (rd_T89 l0_3 a2).f1) pl)] (0, 0) _ rfl (by (with_reducible repeat (first | refine blk_drewN ?_ _ | refine blk_drew ?_ | refine blk_alloc ?_ _)); refine blk_put (cs := #[.int .i64 (meanLo (rd (rd_T89 l0_3 a2).f1) pl), .int .i64 0]) ?_ 1 _ rfl; (with_reducible repeat (first | refine blk_drewN ?_ _ | refine blk_drew ?_ | refine blk_alloc ?_ _)); refine blk_put (cs := #[.int .i64 0, .int .i64 0]) ?_ 0 _ rfl; exact BZ4.out) Tryz.underlying27 rfl (by kernel_rfl)) rfl ?_
    refine ⟨rfl, ?_⟩
    repeat (first | exact HB4.out | apply below_alloc | apply pw_below_drewN | apply below_drew1 | refine below_set ?_ (by omega))
   ·rw [if_neg hpe] at H
    have hpb : (pe != 0) = true := by simp [hpe]
    simp only [Option.some.injEq, Prod.mk.injEq] at H
    obtain ⟨rfl, rfl, rfl⟩ := H
    have hz0 : w3.cell? ⟨w.heap.size + 1 + 1, 0, none⟩ = some (.int .i64 0) := (blk_cell BZ3.out 0).trans rfl
    have hz1 : w3.cell? ⟨w.heap.size + 1 + 1, 1, none⟩ = some (.int .i64 0) := (blk_cell BZ3.out 1).trans rfl
    have hzf0 := blk_frozen BZ3.out 0
    have hzf1 := blk_frozen BZ3.out 1
    go_wp2
    refine bodyPost_ret (results_ct rfl _ _ (w.heap.size + 1 + 1) 27 #[.int .i64 0, .int .i64 0] (0, 0) _ rfl (by (with_reducible repeat (first | refine blk_drewN ?_ _ | refine blk_drew ?_ | refine blk_alloc ?_ _)); refine blk_put (cs := #[.int .i64 0, .int .i64 0]) ?_ 1 _ rfl; (with_reducible repeat (first | refine blk_drewN ?_ _ | refine blk_drew ?_ | refine blk_alloc ?_ _)); refine blk_put (cs := #[.int .i64 0, .int .i64 0]) ?_ 0 _ rfl; exact BZ3.out) Tryz.underlying27 rfl (by kernel_rfl)) rfl ?_
    refine ⟨rfl, ?_⟩
    repeat (first | exact HB3.out | apply below_alloc | apply pw_below_drewN | apply below_drew1 | refine below_set ?_ (by omega))
  | false =>
   rw [if_neg (by simp [hbb])] at H
   simp only [Option.some.injEq, Prod.mk.injEq] at H
   obtain ⟨rfl, rfl, rfl⟩ := H
   have hz0 : w2.cell? ⟨w.heap.size + 1 + 1, 0, none⟩ = some (.int .i64 0) := (blk_cell BZ2.out 0).trans rfl
   have hz1 : w2.cell? ⟨w.heap.size + 1 + 1, 1, none⟩ = some (.int .i64 0) := (blk_cell BZ2.out 1).trans rfl
   have hzf0 := blk_frozen BZ2.out 0
   have hzf1 := blk_frozen BZ2.out 1
   go_wp2
   refine bodyPost_ret (results_ct rfl _ _ (w.heap.size + 1 + 1) 27 #[.int .i64 0, .int .i64 0] (0, 0) _ rfl (by (with_reducible repeat (first | refine blk_drewN ?_ _ | refine blk_drew ?_ | refine blk_alloc ?_ _)); refine blk_put (cs := #[.int .i64 0, .int .i64 0]) ?_ 1 _ rfl; (with_reducible repeat (first | refine blk_drewN ?_ _ | refine blk_drew ?_ | refine blk_alloc ?_ _)); refine blk_put (cs := #[.int .i64 0, .int .i64 0]) ?_ 0 _ rfl; exact BZ2.out) Tryz.underlying27 rfl (by kernel_rfl)) rfl ?_
   refine ⟨rfl, ?_⟩
   repeat (first | exact HB2.out | apply below_alloc | apply pw_below_drewN | apply below_drew1 | refine below_set ?_ (by omega))
 ·rw [if_neg he] at H
  have heb : (ea != 0) = true := by simp [he]
  simp only [Option.some.injEq, Prod.mk.injEq] at H
  obtain ⟨rfl, rfl, rfl⟩ := H
  go_wp2
  refine bodyPost_ret (results_ct rfl _ _ (w.heap.size + 1 + 1) 27 #[.int .i64 0, .int .i64 0] (0, 0) _ rfl (by (with_reducible repeat (first | refine blk_drewN ?_ _ | refine blk_drew ?_ | refine blk_alloc ?_ _)); refine blk_put (cs := #[.int .i64 0, .int .i64 0]) ?_ 1 _ rfl; (with_reducible repeat (first | refine blk_drewN ?_ _ | refine blk_drew ?_ | refine blk_alloc ?_ _)); refine blk_put (cs := #[.int .i64 0, .int .i64 0]) ?_ 0 _ rfl; exact BZ1.out) Tryz.underlying27 rfl (by kernel_rfl)) rfl ?_
  refine ⟨rfl, ?_⟩
  repeat (first | exact HB1.out | apply below_alloc | apply pw_below_drewN | apply below_drew1 | refine below_set ?_ (by omega))
end
section
def st_floored.f (a0 : Int) (a1 : Int) : Option (Int) := if a1 = 0 then (none) else (if (Int.tmod a0 a1) < 0 then (some (wrap64 ((wrap64 (Int.tdiv a0 a1)) - 1))) else (some (wrap64 (Int.tdiv a0 a1))))
end
section
def st_raised.f (a0 : Int) (a1 : Int) : Option (Int) := (st_floored.f (wrap64 (-a0)) a1).bind fun t372 => (some (wrap64 (-t372)))
end
section
attribute [local go_sem] max2_int min2_int max_two min_two
def x_Shock.f (k : Nat) (l0_0 : List ByteArray) (l0_1 : List (S70)) (l0_2 : List (S27)) (l0_3 : List (S89)) (a0_4 : Int) (a0_5 : Int) (a0_6 : Int) (l1 : List Int) (a2 a3 : Int) : Option (Int × Int × Int) :=
 (x_Value.f k l0_0 l0_1 l0_2 l0_3 a0_4 a0_5 a0_6 l1 a2).bind fun v => if v.2.2 = 0 then (if inB a3 0 1000 = true then (st_floored.f (wrap64 (wrap64 (35 * v.1) * a3)) 78).bind fun lo => (st_raised.f (wrap64 (wrap64 (35 * v.2.1) * a3)) 78).bind fun hi => some (if lo < 0 then 0 else lo, if hi < 0 then 0 else hi, 0) else some (0, 0, 1)) else some (0, 0, v.2.2)
theorem errno_ne (e : Int) (h : e ≠ 0) : (e == 0) = false := by simp [h]
theorem floored_still (n d r : Int) (w : World) (h : st_floored.f n d = some r) (hd : (d == 0) = false) : Calls Tryz.prog 67 #[.int .i64 n, .int .i64 d] w fun e w' => e = .returned (.int .i64 r) ∧ w' = w := by
 unfold st_floored.f at h
 have hd' : ¬ d = 0 := by simpa using hd
 rw [if_neg hd'] at h
 by_cases hn : Int.tmod n d < 0
 ·rw [if_pos hn] at h
  have H := Sd.mk (Option.some.inj h)
  clear h
  go_enter Tryz.func67, Tryz.ntmps67
  go_wp2
  go_ret
  exact ⟨by rw [← H.out]; rfl, rfl⟩
 ·rw [if_neg hn] at h
  have H := Sd.mk (Option.some.inj h)
  clear h
  go_enter Tryz.func67, Tryz.ntmps67
  go_wp2
  go_ret
  exact ⟨by rw [← H.out]; rfl, rfl⟩
theorem raised_still (n d r : Int) (w : World) (h : st_raised.f n d = some r) (hd : (d == 0) = false) : Calls Tryz.prog 68 #[.int .i64 n, .int .i64 d] w fun e w' => e = .returned (.int .i64 r) ∧ w' = w := by
 unfold st_raised.f at h
 obtain ⟨q, hq, h⟩ := Option.bind_eq_some_iff.mp h
 have H := Sd.mk (Option.some.inj h)
 have HQ := Sd.mk hq
 clear h hq
 go_enter Tryz.func68, Tryz.ntmps68
 go_wp2_with (go_at_call 67; refine (floored_still _ _ _ _ HQ.out hd).mono ?_; rintro e w' ⟨rfl, rfl⟩)
 go_ret
 exact ⟨by rw [← H.out]; rfl, rfl⟩
theorem x_Shock.calls (k : Nat) (A0_0 : Option Addr) (c0_0 : Nat) (l0_0 : List ByteArray) (A0_1 : Option Addr) (c0_1 : Nat) (l0_1 : List (S70)) (A0_2 : Option Addr) (c0_2 : Nat) (l0_2 : List (S27)) (A0_3 : Option Addr) (c0_3 : Nat) (l0_3 : List (S89)) (a0_4 : Int) (a0_5 : Int) (a0_6 : Int) (A1 : Option Addr) (c1 : Nat) (l1 : List Int) (a2 a3 : Int) (r1 : Int) (r2 : Int) (r3 : Int) (w : World) (hr0_0 : Kd.C Kd.string w A0_0 l0_0.length l0_0) (hc0_0 : l0_0.length ≤ c0_0) (hr0_1 : Kd.C k70 w A0_1 l0_1.length l0_1) (hc0_1 : l0_1.length ≤ c0_1) (hr0_2 : Kd.C k27 w A0_2 l0_2.length l0_2) (hc0_2 : l0_2.length ≤ c0_2) (hr0_3 : Kd.C k89 w A0_3 l0_3.length l0_3) (hc0_3 : l0_3.length ≤ c0_3) (hr1 : Kd.C (Kd.int .i64) w A1 l1.length l1) (hc1 : l1.length ≤ c1) (h : x_Shock.f k l0_0 l0_1 l0_2 l0_3 a0_4 a0_5 a0_6 l1 a2 a3 = some (r1, r2, r3)) :
  Calls Tryz.prog 21 #[.agg #[.slice A0_0 l0_0.length c0_0, .slice A0_1 l0_1.length c0_1, .slice A0_2 l0_2.length c0_2, .slice A0_3 l0_3.length c0_3, .int .i64 a0_4, .int .i64 a0_5, .int .i64 a0_6], .slice A1 l1.length c1, .int .i64 a2, .int .i64 a3] w fun e w' => e = .returned (.tuple #[.agg #[.int .i64 r1, .int .i64 r2], .int .i64 r3]) ∧ Below w.heap.size w w' := by
 have hmf := run_makeFunc_
 obtain ⟨b1, b2, b3, hb0, hsz⟩ := blk_three w (.cells #[.slice A0_0 l0_0.length c0_0, .slice A0_1 l0_1.length c0_1, .slice A0_2 l0_2.length c0_2, .slice A0_3 l0_3.length c0_3, .int .i64 a0_4, .int .i64 a0_5, .int .i64 a0_6] 29) (.cells #[.int .i64 0, .int .i64 0] 27) (.cells #[.int .i64 0] 38)
 have BR := Sd.mk b2
 have BE := Sd.mk b3
 have HSZ := Sd.mk hsz
 have HB := Sd.mk hb0
 unfold x_Shock.f at h
 obtain ⟨⟨v1, v2, ve⟩, hv, H⟩ := Option.bind_eq_some_iff.mp h
 have HV := Sd.mk (x_Value.calls k A0_0 c0_0 l0_0 A0_1 c0_1 l0_1 A0_2 c0_2 l0_2 A0_3 c0_3 l0_3 a0_4 a0_5 a0_6 A1 c1 l1 a2 v1 v2 ve _ (Kd.C_below hr0_0 hb0) hc0_0 (Kd.C_below hr0_1 hb0) hc0_1 (Kd.C_below hr0_2 hb0) hc0_2 (Kd.C_below hr0_3 hb0) hc0_3 (Kd.C_below hr1 hb0) hc1 hv)
 clear b1 b2 b3 hsz hb0 hr0_0 hr0_1 hr0_2 hr0_3 hr1 h hv hc0_0 hc0_1 hc0_2 hc0_3 hc1
 simp only at H
 by_cases hve : ve = 0
 ·subst hve
  rw [if_pos rfl] at H
  cases hi : inB a3 0 1000 with
  | true =>
   rw [if_pos hi] at H
   obtain ⟨lo, hlo, H⟩ := Option.bind_eq_some_iff.mp H
   obtain ⟨hh, hhi, H⟩ := Option.bind_eq_some_iff.mp H
   simp only [Option.some.injEq, Prod.mk.injEq] at H
   obtain ⟨hy1, hy2, rfl⟩ := H
   have HY1 := Sd.mk hy1
   have HY2 := Sd.mk hy2
   clear hy1 hy2
   have HI := Sd.mk hi
   have HLO := Sd.mk hlo
   have HHI := Sd.mk hhi
   clear hi hlo hhi
   have h78 : ((78 : Int) == 0) = false := rfl
   go_enter_defers Tryz.func21, Tryz.ntmps21
   go_upto_region 5 with (first | (go_at_call 46; refine HV.out.mono ?_; rintro e w1 ⟨rfl, hb1⟩; have BR1 := Sd.mk (blk_below BR.out hb1); have BE1 := Sd.mk (blk_below BE.out hb1); have HB1 := Sd.mk (below_then HB.out (by have := HSZ.out; omega) hb1); have BE2 := Sd.mk (blk_alloc BE1.out (.cells #[.int .i64 v1, .int .i64 v2] 27)); have BV2 := Sd.mk (blk_new w1 (.cells #[.int .i64 v1, .int .i64 v2] 27)); have he0 : (w1.alloc (.cells #[.int .i64 v1, .int .i64 v2] 27)).cell? ⟨w.heap.size + 1 + 1, 0, none⟩ = some (.int .i64 0) := (blk_cell BE2.out 0).trans rfl; have he1 := blk_frozen BE2.out 0) | (go_at_call 64; refine (must_ok _).mono ?_; rintro e w2 ⟨rfl, rfl⟩) | (go_at_call 66; refine (swithin_f _ _ _ _).mono ?_; rw [HI.out]; rintro e w2 ⟨rfl, q, rfl⟩) | (go_at_call 65; (with_reducible refine (demand_ok _ _).mono ?_); rintro e w' ⟨rfl, rfl⟩))
   have BVx := Sd.mk (fun q : Nat => blk_drewN (blk_far BV2.out (show w1.heap.size ≠ (⟨w.heap.size + 1 + 1, 0, none⟩ : Addr).block by have := blk_lt BE1.out; show _ ≠ w.heap.size + 1 + 1; omega) (.int .i64 0)) q)
   have BRx := Sd.mk (fun q : Nat => blk_drewN (blk_far (blk_alloc BR1.out (.cells #[.int .i64 v1, .int .i64 v2] 27)) (show w.heap.size + 1 ≠ (⟨w.heap.size + 1 + 1, 0, none⟩ : Addr).block by show _ ≠ _; simp) (.int .i64 0)) q)
   have BEx := Sd.mk (fun q : Nat => blk_drewN (blk_put BE2.out 0 (.int .i64 0) rfl) q)
   have HBx := Sd.mk (fun q : Nat => pw_below_drewN (below_set (below_alloc HB1.out (.cells #[.int .i64 v1, .int .i64 v2] 27)) (g := w.heap.size + 1 + 1) (j := 0) (v := .int .i64 0) (by omega)) q)
   have HNE := Sd.mk (show w.heap.size + 1 + 1 < w1.heap.size from blk_lt BE1.out)
   clear he0 he1
   generalize hWY : World.drewN _ q = WY
   have BV := Sd.mk (hWY ▸ BVx.out q)
   have BRy := Sd.mk (hWY ▸ BRx.out q)
   have BEy := Sd.mk (hWY ▸ BEx.out q)
   have HBy := Sd.mk (hWY ▸ HBx.out q)
   clear hWY BVx BRx BEx HBx BE2 BV2 BE1 BR1 HB1
   generalize w1.heap.size = X at BV HNE ⊢
   refine wp_region_still_tail 15 (by kernel_rfl) (by kernel_rfl) ?_
   simp only [List.take_succ_cons, List.take_zero, List.drop_succ_cons, List.drop_zero]
   change wpStill Tryz.prog _ WY.drew _ _ _
   have hd0 : WY.drew.cell? ⟨X, 0, none⟩ = some (.int .i64 v1) := (blk_cell BV.out 0).trans rfl
   have hd1 : WY.drew.cell? ⟨X, 1, none⟩ = some (.int .i64 v2) := (blk_cell BV.out 1).trans rfl
   generalize hWD : WY.drew = WD at hd0 hd1 ⊢
   have HWD := Sd.mk hWD
   clear hWD
   repeat still_step
   have HLO' : st_floored.f (IntKind.i64.wrap (IntKind.i64.wrap (35 * v1) * a3)) 78 = some lo := by simp only [i64_w]; exact HLO.out
   have HHI' : st_raised.f (IntKind.i64.wrap (IntKind.i64.wrap (35 * v2) * a3)) 78 = some hh := by simp only [i64_w]; exact HHI.out
   have HLOx := Sd.mk HLO'
   have HHIx := Sd.mk HHI'
   clear HLO' HHI'
   still_call (floored_still _ _ _ _ HLOx.out h78)
   repeat still_step
   still_call (raised_still _ _ _ _ HHIx.out h78)
   repeat still_step
   refine wpStill_nil ?_
   change wpList _ _ _ _ _ WY.drew
   rw [HWD.out]
   have BRd := Sd.mk (HWD.out ▸ blk_drew BRy.out)
   have BEd := Sd.mk (HWD.out ▸ blk_drew BEy.out)
   have HBd := Sd.mk (HWD.out ▸ below_drew1 HBy.out)
   clear HWD BRy BEy HBy hd0 hd1
   have he0 : WD.cell? ⟨w.heap.size + 1 + 1, 0, none⟩ = some (.int .i64 0) := (blk_cell BEd.out 0).trans rfl
   have he1 := blk_frozen BEd.out 0
   have hq0 : WD.cell? ⟨w.heap.size + 1, 0, none⟩ = some (.int .i64 0) := (blk_cell BRd.out 0).trans rfl
   have hq1 : WD.cell? ⟨w.heap.size + 1, 0 + 1, none⟩ = some (.int .i64 0) := (blk_cell BRd.out 1).trans rfl
   have hq2 := blk_frozen BRd.out 0
   have hq3 := blk_frozen BRd.out 1
   rw [HY1.out, HY2.out]
   go_wp2
   refine leaves_cons (f := 62) (args := #[.pointer (some ⟨w.heap.size + 1 + 1, 0, none⟩)]) (by simp) (by simp [go_sem]) ?_
   refine (door102_ok _ _).mono ?_
   rintro e u' w'' ⟨rfl, rfl, rfl⟩
   have BRf := blk_far (blk_put (blk_put BRd.out 0 (.int .i64 r1) rfl) 1 (.int .i64 r2) rfl) (show w.heap.size + 1 ≠ (⟨w.heap.size + 1 + 1, 0, none⟩ : Addr).block by show _ ≠ _; simp) (.int .i64 0)
   have BEf := blk_put (blk_far (blk_far BEd.out (show w.heap.size + 1 + 1 ≠ (⟨w.heap.size + 1, 0, none⟩ : Addr).block by show _ ≠ _; simp) (.int .i64 r1)) (show w.heap.size + 1 + 1 ≠ (⟨w.heap.size + 1, 1, none⟩ : Addr).block by show _ ≠ _; simp) (.int .i64 r2)) 0 (.int .i64 0) rfl
   exact ⟨_, results_ce rfl _ _ (w.heap.size + 1) (w.heap.size + 1 + 1) _ _ rfl (run_loadVar_row _ _ 27 27 _ (0, 0) _ BRf Tryz.underlying27 rfl (by kernel_rfl)) rfl BEf, rfl, below_set (below_set (below_set HBd.out (by omega)) (by omega)) (by omega)⟩
  | false =>
   rw [if_neg (by rw [hi]; simp)] at H
   simp only [Option.some.injEq, Prod.mk.injEq] at H
   obtain ⟨rfl, rfl, rfl⟩ := H
   have HI := Sd.mk hi
   clear hi
   go_enter_defers Tryz.func21, Tryz.ntmps21
   go_wp2_with (first | (go_at_call 46; refine HV.out.mono ?_; rintro e w1 ⟨rfl, hb1⟩; have BR1 := Sd.mk (blk_below BR.out hb1); have BE1 := Sd.mk (blk_below BE.out hb1); have HB1 := Sd.mk (below_then HB.out (by have := HSZ.out; omega) hb1); have BE2 := Sd.mk (blk_alloc BE1.out (.cells #[.int .i64 v1, .int .i64 v2] 27)); have he0 : (w1.alloc (.cells #[.int .i64 v1, .int .i64 v2] 27)).cell? ⟨w.heap.size + 1 + 1, 0, none⟩ = some (.int .i64 0) := (blk_cell BE2.out 0).trans rfl; have he1 := blk_frozen BE2.out 0) | (go_at_call 64; refine (must_ok _).mono ?_; rintro e w2 ⟨rfl, rfl⟩) | (go_at_call 66; refine (swithin_f _ _ _ _).mono ?_; rw [HI.out]; rintro e w2 ⟨rfl, q, rfl⟩) | (go_at_call 65; (with_reducible refine (demand_no _ _).mono ?_); rintro e w' ⟨rfl, rfl⟩))
   refine leaves_cons (f := 62) (args := #[.pointer (some ⟨w.heap.size + 1 + 1, 0, none⟩)]) (by simp) (by simp [go_sem]) ?_
   refine (door102_fail _ _ 0 [] _ (blk_drewN (blk_put BE2.out 0 (.int .i64 0) rfl) q)).mono ?_
   rintro e u' w'' ⟨rfl, rfl, rfl⟩
   have BRf := blk_far (blk_alloc (blk_drewN (blk_far (blk_alloc BR1.out (.cells #[.int .i64 v1, .int .i64 v2] 27)) (show w.heap.size + 1 ≠ (⟨w.heap.size + 1 + 1, 0, none⟩ : Addr).block by show _ ≠ _; simp) (.int .i64 0)) q) (.cells #[.int .i64 1] 183)) (show w.heap.size + 1 ≠ (⟨w.heap.size + 1 + 1, 0, none⟩ : Addr).block by show _ ≠ _; simp) (.int .i64 1)
   exact ⟨_, results_ce rfl _ _ (w.heap.size + 1) (w.heap.size + 1 + 1) _ _ rfl (run_loadVar_row _ _ 27 27 _ (0, 0) _ BRf Tryz.underlying27 rfl (by kernel_rfl)) rfl (blk_put (blk_alloc (blk_drewN (blk_put BE2.out 0 (.int .i64 0) rfl) q) _) 0 _ rfl), rfl, below_set (below_alloc (pw_below_drewN (below_set (below_alloc HB1.out _) (by omega)) q) _) (by omega)⟩
 ·rw [if_neg hve] at H
  simp only [Option.some.injEq, Prod.mk.injEq] at H
  obtain ⟨rfl, rfl, rfl⟩ := H
  have HVE := Sd.mk (errno_ne ve hve)
  clear hve
  go_enter_defers Tryz.func21, Tryz.ntmps21
  go_wp2_with (first | (go_at_call 46; refine HV.out.mono ?_; rintro e w1 ⟨rfl, hb1⟩; have BR1 := Sd.mk (blk_below BR.out hb1); have BE1 := Sd.mk (blk_below BE.out hb1); have HB1 := Sd.mk (below_then HB.out (by have := HSZ.out; omega) hb1); have BE2 := Sd.mk (blk_alloc BE1.out (.cells #[.int .i64 v1, .int .i64 v2] 27)); have BV2 := Sd.mk (blk_new w1 (.cells #[.int .i64 v1, .int .i64 v2] 27)); have he0 : (w1.alloc (.cells #[.int .i64 v1, .int .i64 v2] 27)).cell? ⟨w.heap.size + 1 + 1, 0, none⟩ = some (.int .i64 0) := (blk_cell BE2.out 0).trans rfl; have he1 := blk_frozen BE2.out 0) | (go_at_call 64; refine (must_no _ HVE.out _).mono ?_; rintro e w2 ⟨rfl, rfl⟩))
  refine leaves_cons (f := 62) (args := #[.pointer (some ⟨w.heap.size + 1 + 1, 0, none⟩)]) (by simp) (by simp [go_sem]) ?_
  refine (door102_fail _ _ ve [] _ (blk_put BE2.out 0 (.int .i64 ve) rfl)).mono ?_
  rintro e u' w'' ⟨rfl, rfl, rfl⟩
  have BRf := blk_far (blk_alloc (blk_far (blk_alloc BR1.out (.cells #[.int .i64 v1, .int .i64 v2] 27)) (show w.heap.size + 1 ≠ (⟨w.heap.size + 1 + 1, 0, none⟩ : Addr).block by show _ ≠ _; simp) (.int .i64 ve)) (.cells #[.int .i64 ve] 183)) (show w.heap.size + 1 ≠ (⟨w.heap.size + 1 + 1, 0, none⟩ : Addr).block by show _ ≠ _; simp) (.int .i64 ve)
  exact ⟨_, results_ce rfl _ _ (w.heap.size + 1) (w.heap.size + 1 + 1) _ _ rfl (run_loadVar_row _ _ 27 27 _ (0, 0) _ BRf Tryz.underlying27 rfl (by kernel_rfl)) rfl (blk_put (blk_alloc (blk_put BE2.out 0 (.int .i64 ve) rfl) _) 0 _ rfl), rfl, below_set (below_alloc (below_set (below_alloc HB1.out _) (by omega)) _) (by omega)⟩
end
section
def annB (below soak th limit : Int) : Bool := inB below 0 10000 && inB soak 0 2000 && inB th 1 2000 && decide (0 ≤ limit)
def x_Anneals.f (k : Nat) (kn : List S94) (fac : Int) (l0_0 : List ByteArray) (l0_1 : List (S70)) (l0_2 : List (S27)) (l0_3 : List (S89)) (a0_4 : Int) (a0_5 : Int) (a0_6 : Int) (l1 : List Int) (a2 below soak th limit : Int) : Option (Bool × Int) :=
 if lehrV kn fac = 0 then (x_Value.f k l0_0 l0_1 l0_2 l0_3 a0_4 a0_5 a0_6 l1 a2).bind fun v => if v.2.2 = 0 then (if annB below soak th limit = true then (if (decide (below ≤ v.1) && decide (v.2.1 ≤ 10000)) = true then (st_held.f k kn fac v.2.1).bind fun h => if soak ≤ h then (st_strain.f k kn fac (wrap64 (v.1 - below)) v.2.1 th).bind fun s => some (decide (s ≤ limit), 0) else some (false, 0) else some (false, 9)) else some (false, 1)) else some (false, v.2.2) else some (false, lehrV kn fac)
theorem x_Anneals.calls (k : Nat) (AL : Option Addr) (cL : Nat) (kn : List S94) (fac : Int) (A0_0 : Option Addr) (c0_0 : Nat) (l0_0 : List ByteArray) (A0_1 : Option Addr) (c0_1 : Nat) (l0_1 : List (S70)) (A0_2 : Option Addr) (c0_2 : Nat) (l0_2 : List (S27)) (A0_3 : Option Addr) (c0_3 : Nat) (l0_3 : List (S89)) (a0_4 : Int) (a0_5 : Int) (a0_6 : Int) (A1 : Option Addr) (c1 : Nat) (l1 : List Int) (a2 below soak th limit : Int) (r1 : Bool) (r2 : Int) (w : World) (hrL : Kd.C k94 w AL kn.length kn) (hcL : kn.length ≤ cL) (hr0_0 : Kd.C Kd.string w A0_0 l0_0.length l0_0) (hc0_0 : l0_0.length ≤ c0_0) (hr0_1 : Kd.C k70 w A0_1 l0_1.length l0_1) (hc0_1 : l0_1.length ≤ c0_1) (hr0_2 : Kd.C k27 w A0_2 l0_2.length l0_2) (hc0_2 : l0_2.length ≤ c0_2) (hr0_3 : Kd.C k89 w A0_3 l0_3.length l0_3) (hc0_3 : l0_3.length ≤ c0_3) (hr1 : Kd.C (Kd.int .i64) w A1 l1.length l1) (hc1 : l1.length ≤ c1) (h : x_Anneals.f k kn fac l0_0 l0_1 l0_2 l0_3 a0_4 a0_5 a0_6 l1 a2 below soak th limit = some (r1, r2)) :
  Calls Tryz.prog 23 #[.agg #[.slice AL kn.length cL, .int .i64 fac], .agg #[.slice A0_0 l0_0.length c0_0, .slice A0_1 l0_1.length c0_1, .slice A0_2 l0_2.length c0_2, .slice A0_3 l0_3.length c0_3, .int .i64 a0_4, .int .i64 a0_5, .int .i64 a0_6], .slice A1 l1.length c1, .int .i64 a2, .int .i64 below, .int .i64 soak, .int .i64 th, .int .i64 limit] w fun e w' => e = .returned (.tuple #[.bool r1, .int .i64 r2]) ∧ Below w.heap.size w w' := by
 have hmf := run_makeFunc_
 obtain ⟨b1, b2, b3, hb0, hsz⟩ := blk_three w (.cells #[.slice AL kn.length cL, .int .i64 fac] 46) (.cells #[.slice A0_0 l0_0.length c0_0, .slice A0_1 l0_1.length c0_1, .slice A0_2 l0_2.length c0_2, .slice A0_3 l0_3.length c0_3, .int .i64 a0_4, .int .i64 a0_5, .int .i64 a0_6] 29) (.cells #[.int .i64 0] 38)
 have BL := Sd.mk b1
 have BB := Sd.mk b2
 have BE := Sd.mk b3
 have HSZ := Sd.mk hsz
 have HB := Sd.mk hb0
 have HRW := Sd.mk hrL
 have HRL := Sd.mk (Kd.C_below hrL hb0)
 have HR0 := Sd.mk (Kd.C_below hr0_0 hb0)
 have HR1 := Sd.mk (Kd.C_below hr0_1 hb0)
 have HR2 := Sd.mk (Kd.C_below hr0_2 hb0)
 have HR3 := Sd.mk (Kd.C_below hr0_3 hb0)
 have HRR := Sd.mk (Kd.C_below hr1 hb0)
 clear b1 b2 b3 hsz hb0 hrL hr0_0 hr0_1 hr0_2 hr0_3 hr1
 unfold x_Anneals.f at h
 by_cases h0 : lehrV kn fac = 0
 ·rw [if_pos h0] at h
  have H0 := Sd.mk h0
  clear h0
  obtain ⟨⟨v1, v2, ve⟩, hv, H⟩ := Option.bind_eq_some_iff.mp h
  simp only at H
  have HV := Sd.mk hv
  clear hv h
  by_cases hve : ve = 0
  ·subst hve
   rw [if_pos rfl] at H
   have HH := Sd.mk H
   clear H
   go_enter_defers Tryz.func23, Tryz.ntmps23
   go_upto_region 5 with (first | (go_at_call 73; refine (lehr_ok AL cL kn fac _ HRL.out H0.out).mono ?_; rintro e w1 ⟨rfl, hb1⟩; have BL1 := Sd.mk (blk_below BL.out hb1); have BB1 := Sd.mk (blk_below BB.out hb1); have BE1 := Sd.mk (blk_below BE.out hb1); have HRL1 := Sd.mk (Kd.C_below HRL.out hb1); have HB1 := Sd.mk (below_then HB.out (by have := HSZ.out; omega) hb1); have HW1 := Sd.mk hb1; have hbq := blk_cell BB1.out; have hb00 : w1.cell? ⟨w.heap.size + 1, 0, none⟩ = some (.slice A0_0 l0_0.length c0_0) := (hbq 0).trans rfl; have hb01 : w1.cell? ⟨w.heap.size + 1, 1, none⟩ = some (.slice A0_1 l0_1.length c0_1) := (hbq 1).trans rfl; have hb02 : w1.cell? ⟨w.heap.size + 1, 2, none⟩ = some (.slice A0_2 l0_2.length c0_2) := (hbq 2).trans rfl; have hb03 : w1.cell? ⟨w.heap.size + 1, 3, none⟩ = some (.slice A0_3 l0_3.length c0_3) := (hbq 3).trans rfl; have hb04 : w1.cell? ⟨w.heap.size + 1, 4, none⟩ = some (.int .i64 a0_4) := (hbq 4).trans rfl; have hb05 : w1.cell? ⟨w.heap.size + 1, 5, none⟩ = some (.int .i64 a0_5) := (hbq 5).trans rfl; have hb06 : w1.cell? ⟨w.heap.size + 1, 6, none⟩ = some (.int .i64 a0_6) := (hbq 6).trans rfl; clear hb1 hbq) | (go_at_call 46; refine (x_Value.calls k A0_0 c0_0 l0_0 A0_1 c0_1 l0_1 A0_2 c0_2 l0_2 A0_3 c0_3 l0_3 a0_4 a0_5 a0_6 A1 c1 l1 a2 v1 v2 _ _ (Kd.C_below HR0.out HW1.out) hc0_0 (Kd.C_below HR1.out HW1.out) hc0_1 (Kd.C_below HR2.out HW1.out) hc0_2 (Kd.C_below HR3.out HW1.out) hc0_3 (Kd.C_below HRR.out HW1.out) hc1 HV.out).mono ?_; rintro e w2 ⟨rfl, hb2⟩; have BL2 := Sd.mk (blk_alloc (blk_below BL1.out hb2) (.cells #[.int .i64 v1, .int .i64 v2] 27)); have BE2 := Sd.mk (blk_alloc (blk_below BE1.out hb2) (.cells #[.int .i64 v1, .int .i64 v2] 27)); have BV2 := Sd.mk (blk_new w2 (.cells #[.int .i64 v1, .int .i64 v2] 27)); have HRL2 := Sd.mk (Kd.C_below HRL1.out hb2); have HB2 := Sd.mk (below_then HB1.out HB1.out.size hb2); have HX2 := Sd.mk (show w.heap.size + 1 + 1 < w2.heap.size from blk_lt (blk_below BE1.out hb2)); have he0 : (w2.alloc (.cells #[.int .i64 v1, .int .i64 v2] 27)).cell? ⟨w.heap.size + 1 + 1, 0, none⟩ = some (.int .i64 0) := (blk_cell BE2.out 0).trans rfl; have he1 := blk_frozen BE2.out 0; clear hb2 hb00 hb01 hb02 hb03 hb04 hb05 hb06) | (go_at_call 64; refine (must_ok _).mono ?_; rintro e w3 ⟨rfl, rfl⟩))
   have BLy := Sd.mk (blk_far BL2.out (show w.heap.size ≠ (⟨w.heap.size + 1 + 1, 0, none⟩ : Addr).block by show _ ≠ w.heap.size + 1 + 1; omega) (.int .i64 0))
   have BEy := Sd.mk (blk_put BE2.out 0 (.int .i64 0) rfl)
   have BVy := Sd.mk (blk_far BV2.out (show w2.heap.size ≠ (⟨w.heap.size + 1 + 1, 0, none⟩ : Addr).block by have := HX2.out; show _ ≠ w.heap.size + 1 + 1; omega) (.int .i64 0))
   have HBy := Sd.mk (below_set (below_alloc HB2.out (.cells #[.int .i64 v1, .int .i64 v2] 27)) (g := w.heap.size + 1 + 1) (j := 0) (v := .int .i64 0) (by omega))
   have HRy := Sd.mk (Kd.C_below HRW.out HBy.out)
   generalize World.setCell (w2.alloc (.cells #[.int .i64 v1, .int .i64 v2] 27)) ⟨w.heap.size + 1 + 1, 0, none⟩ (.int .i64 0) = WY at BLy BEy BVy HRy HBy ⊢
   clear he0 he1 BL2 BE2 BV2 HRL2 HB2 BL1 BB1 BE1 HRL1 HB1 HW1
   generalize w2.heap.size = X at BVy HX2 ⊢
   cases i1 : inB below 0 10000 with
   | false =>
    have I1 := Sd.mk i1
    have I2 := Sd.mk True.intro
    have I3 := I2
    clear i1
    have HN : annB below soak th limit = false := by unfold annB; rw [I1.out]; rfl
    have HQ := HH.out
    rw [if_neg (by rw [HN]; simp)] at HQ
    simp only [Option.some.injEq, Prod.mk.injEq] at HQ
    obtain ⟨rfl, rfl⟩ := HQ
    clear HN HH
    go_wp2_with (first | (go_at_call 66; refine (swithin_f _ _ _ _).mono ?_; (first | rw [I1.out]); rintro e w3 ⟨rfl, q, rfl⟩) | (go_at_call 65; (with_reducible refine (demand_no _ _).mono ?_); rintro e w4 ⟨rfl, rfl⟩))
    refine leaves_cons (f := 72) (args := #[.pointer (some ⟨w.heap.size + 1 + 1, 0, none⟩)]) (by simp) (by simp [go_sem]) ?_
    refine (door87_fail _ _ _ [] _ (blk_drewN BEy.out _)).mono ?_
    rintro e u' w'' ⟨rfl, rfl, rfl⟩
    exact ⟨_, results_te rfl _ _ (w.heap.size + 1 + 1) _ rfl (blk_put (blk_alloc (blk_drewN BEy.out _) _) 0 _ rfl), rfl, below_set (below_alloc (pw_below_drewN HBy.out _) _) (by omega)⟩
   | true =>
    have I1 := Sd.mk i1
    clear i1
    cases i2 : inB soak 0 2000 with
    | false =>
     have I2 := Sd.mk i2
     clear i2
     have HN : annB below soak th limit = false := by unfold annB; rw [I1.out, I2.out]; rfl
     have HQ := HH.out
     rw [if_neg (by rw [HN]; simp)] at HQ
     simp only [Option.some.injEq, Prod.mk.injEq] at HQ
     obtain ⟨rfl, rfl⟩ := HQ
     clear HN HH
     go_wp2_with (first | (go_at_call 66; refine (swithin_f _ _ _ _).mono ?_; (first | rw [I1.out] | rw [I2.out]); rintro e w3 ⟨rfl, q, rfl⟩) | (go_at_call 65; (with_reducible refine (demand_no _ _).mono ?_); rintro e w4 ⟨rfl, rfl⟩))
     refine leaves_cons (f := 72) (args := #[.pointer (some ⟨w.heap.size + 1 + 1, 0, none⟩)]) (by simp) (by simp [go_sem]) ?_
     refine (door87_fail _ _ _ [] _ (blk_drewN BEy.out _)).mono ?_
     rintro e u' w'' ⟨rfl, rfl, rfl⟩
     exact ⟨_, results_te rfl _ _ (w.heap.size + 1 + 1) _ rfl (blk_put (blk_alloc (blk_drewN BEy.out _) _) 0 _ rfl), rfl, below_set (below_alloc (pw_below_drewN HBy.out _) _) (by omega)⟩
    | true =>
     have I2 := Sd.mk i2
     clear i2
     cases i3 : inB th 1 2000 with
     | false =>
      have I3 := Sd.mk i3
      clear i3
      have HN : annB below soak th limit = false := by unfold annB; rw [I1.out, I2.out, I3.out]; rfl
      have HQ := HH.out
      rw [if_neg (by rw [HN]; simp)] at HQ
      simp only [Option.some.injEq, Prod.mk.injEq] at HQ
      obtain ⟨rfl, rfl⟩ := HQ
      clear HN HH
      go_wp2_with (first | (go_at_call 66; refine (swithin_f _ _ _ _).mono ?_; (first | rw [I1.out] | rw [I2.out] | rw [I3.out]); rintro e w3 ⟨rfl, q, rfl⟩) | (go_at_call 65; (with_reducible refine (demand_no _ _).mono ?_); rintro e w4 ⟨rfl, rfl⟩))
      refine leaves_cons (f := 72) (args := #[.pointer (some ⟨w.heap.size + 1 + 1, 0, none⟩)]) (by simp) (by simp [go_sem]) ?_
      refine (door87_fail _ _ _ [] _ (blk_drewN BEy.out _)).mono ?_
      rintro e u' w'' ⟨rfl, rfl, rfl⟩
      exact ⟨_, results_te rfl _ _ (w.heap.size + 1 + 1) _ rfl (blk_put (blk_alloc (blk_drewN BEy.out _) _) 0 _ rfl), rfl, below_set (below_alloc (pw_below_drewN HBy.out _) _) (by omega)⟩
     | true =>
      have I3 := Sd.mk i3
      clear i3
      cases i4 : decide (0 ≤ limit) with
      | false =>
       have I4 := Sd.mk i4
       have HN : annB below soak th limit = false := by unfold annB; rw [I1.out, I2.out, I3.out, I4.out]; rfl
       have HQ := HH.out
       rw [if_neg (by rw [HN]; simp)] at HQ
       simp only [Option.some.injEq, Prod.mk.injEq] at HQ
       obtain ⟨rfl, rfl⟩ := HQ
       clear HN HH
       go_wp2_with (first | (go_at_call 66; refine (swithin_f _ _ _ _).mono ?_; (first | rw [I1.out] | rw [I2.out] | rw [I3.out]); rintro e w3 ⟨rfl, q, rfl⟩) | (go_at_call 65; (with_reducible refine (demand_no _ _).mono ?_); rintro e w4 ⟨rfl, rfl⟩))
       refine leaves_cons (f := 72) (args := #[.pointer (some ⟨w.heap.size + 1 + 1, 0, none⟩)]) (by simp) (by simp [go_sem]) ?_
       refine (door87_fail _ _ _ [] _ (blk_drewN BEy.out _)).mono ?_
       rintro e u' w'' ⟨rfl, rfl, rfl⟩
       exact ⟨_, results_te rfl _ _ (w.heap.size + 1 + 1) _ rfl (blk_put (blk_alloc (blk_drewN BEy.out _) _) 0 _ rfl), rfl, below_set (below_alloc (pw_below_drewN HBy.out _) _) (by omega)⟩
      | true =>
       have HN : annB below soak th limit = true := by unfold annB; rw [I1.out, I2.out, I3.out, i4]; rfl
       have HQ := HH.out
       rw [if_pos HN] at HQ
       clear HN HH
       have hv0 : WY.cell? ⟨X, 0, none⟩ = some (.int .i64 v1) := (blk_cell BVy.out 0).trans rfl
       have hv1 : WY.cell? ⟨X, 1, none⟩ = some (.int .i64 v2) := (blk_cell BVy.out 1).trans rfl
       cases i5 : decide (below ≤ v1) with
       | false =>
        rw [if_neg (by rw [i5]; simp)] at HQ
        simp only [Option.some.injEq, Prod.mk.injEq] at HQ
        obtain ⟨rfl, rfl⟩ := HQ
        go_wp2_with (first | (go_at_call 66; refine (swithin_f _ _ _ _).mono ?_; (first | rw [I1.out] | rw [I2.out] | rw [I3.out]); rintro e w3 ⟨rfl, q, rfl⟩) | (go_at_call 65; (with_reducible refine (demand_no _ _).mono ?_); rintro e w4 ⟨rfl, rfl⟩) | (go_at_call 65; (with_reducible refine (demand_ok _ _).mono ?_); rintro e w4 ⟨rfl, rfl⟩))
        refine leaves_cons (f := 72) (args := #[.pointer (some ⟨w.heap.size + 1 + 1, 0, none⟩)]) (by simp) (by simp [go_sem]) ?_
        refine (door87_fail _ _ _ [] _ (blk_drewN BEy.out _)).mono ?_
        rintro e u' w'' ⟨rfl, rfl, rfl⟩
        exact ⟨_, results_te rfl _ _ (w.heap.size + 1 + 1) _ rfl (blk_put (blk_alloc (blk_drewN BEy.out _) _) 0 _ rfl), rfl, below_set (below_alloc (pw_below_drewN HBy.out _) _) (by omega)⟩
       | true =>
        cases i6 : decide (v2 ≤ 10000) with
        | false =>
         rw [if_neg (by rw [i5, i6]; simp)] at HQ
         simp only [Option.some.injEq, Prod.mk.injEq] at HQ
         obtain ⟨rfl, rfl⟩ := HQ
         go_wp2_with (first | (go_at_call 66; refine (swithin_f _ _ _ _).mono ?_; (first | rw [I1.out] | rw [I2.out] | rw [I3.out]); rintro e w3 ⟨rfl, q, rfl⟩) | (go_at_call 65; (with_reducible refine (demand_no _ _).mono ?_); rintro e w4 ⟨rfl, rfl⟩) | (go_at_call 65; (with_reducible refine (demand_ok _ _).mono ?_); rintro e w4 ⟨rfl, rfl⟩))
         refine leaves_cons (f := 72) (args := #[.pointer (some ⟨w.heap.size + 1 + 1, 0, none⟩)]) (by simp) (by simp [go_sem]) ?_
         refine (door87_fail _ _ _ [] _ (blk_drewN BEy.out _)).mono ?_
         rintro e u' w'' ⟨rfl, rfl, rfl⟩
         exact ⟨_, results_te rfl _ _ (w.heap.size + 1 + 1) _ rfl (blk_put (blk_alloc (blk_drewN BEy.out _) _) 0 _ rfl), rfl, below_set (below_alloc (pw_below_drewN HBy.out _) _) (by omega)⟩
        | true =>
         rw [if_pos (by rw [i5, i6]; rfl)] at HQ
         obtain ⟨hh, hhe, HQ⟩ := Option.bind_eq_some_iff.mp HQ
         have HHE := Sd.mk hhe
         have hl0 : WY.cell? ⟨w.heap.size, 0, none⟩ = some (.slice AL kn.length cL) := (blk_cell BLy.out 0).trans rfl
         have hl1 : WY.cell? ⟨w.heap.size, 0 + 1, none⟩ = some (.int .i64 fac) := (blk_cell BLy.out 1).trans rfl
         clear hhe
         cases i7 : decide (soak ≤ hh) with
         | false =>
          rw [if_neg (of_decide_eq_false i7)] at HQ
          simp only [Option.some.injEq, Prod.mk.injEq] at HQ
          obtain ⟨rfl, rfl⟩ := HQ
          go_wp2_with (first | (go_at_call 66; refine (swithin_f _ _ _ _).mono ?_; (first | rw [I1.out] | rw [I2.out] | rw [I3.out]); rintro e w3 ⟨rfl, q, rfl⟩) | (go_at_call 65; (with_reducible refine (demand_no _ _).mono ?_); rintro e w4 ⟨rfl, rfl⟩) | (go_at_call 65; (with_reducible refine (demand_ok _ _).mono ?_); rintro e w4 ⟨rfl, rfl⟩) | (go_at_call 74; refine (st_held.calls k _ _ kn fac v2 hh _ (Kd.C_drewN HRy.out _) hcL HHE.out).mono ?_; rintro e w5 ⟨rfl, hb5⟩; have BL5 := Sd.mk (blk_below (blk_drewN BLy.out _) hb5); have BE5 := Sd.mk (blk_below (blk_drewN BEy.out _) hb5); have BV5 := Sd.mk (blk_below (blk_drewN BVy.out _) hb5); have HR5 := Sd.mk (Kd.C_below (Kd.C_drewN HRy.out _) hb5); have HB5 := Sd.mk (below_then (pw_below_drewN HBy.out _) (pw_below_drewN HBy.out _).size hb5); have hu0 : w5.cell? ⟨X, 0, none⟩ = some (.int .i64 v1) := (blk_cell BV5.out 0).trans rfl; have hu1 : w5.cell? ⟨X, 1, none⟩ = some (.int .i64 v2) := (blk_cell BV5.out 1).trans rfl; have hm0 : w5.cell? ⟨w.heap.size, 0, none⟩ = some (.slice AL kn.length cL) := (blk_cell BL5.out 0).trans rfl; have hm1 : w5.cell? ⟨w.heap.size, 0 + 1, none⟩ = some (.int .i64 fac) := (blk_cell BL5.out 1).trans rfl; have he0 : w5.cell? ⟨w.heap.size + 1 + 1, 0, none⟩ = some (.int .i64 0) := (blk_cell BE5.out 0).trans rfl; have he1 := blk_frozen BE5.out 0))
          refine leaves_cons (f := 72) (args := #[.pointer (some ⟨w.heap.size + 1 + 1, 0, none⟩)]) (by simp) (by simp [go_sem]) ?_
          refine (door87_ok _ _).mono ?_
          rintro e u' w'' ⟨rfl, rfl, rfl⟩
          exact ⟨_, results_te rfl _ _ (w.heap.size + 1 + 1) 0 rfl (blk_put BE5.out 0 _ rfl), rfl, below_set HB5.out (by omega)⟩
         | true =>
          rw [if_pos (of_decide_eq_true i7)] at HQ
          obtain ⟨ss, hse, HQ⟩ := Option.bind_eq_some_iff.mp HQ
          have HSE := Sd.mk hse
          clear hse
          simp only [Option.some.injEq, Prod.mk.injEq] at HQ
          obtain ⟨rfl, rfl⟩ := HQ
          go_wp2_with (first | (go_at_call 66; refine (swithin_f _ _ _ _).mono ?_; (first | rw [I1.out] | rw [I2.out] | rw [I3.out]); rintro e w3 ⟨rfl, q, rfl⟩) | (go_at_call 65; (with_reducible refine (demand_no _ _).mono ?_); rintro e w4 ⟨rfl, rfl⟩) | (go_at_call 65; (with_reducible refine (demand_ok _ _).mono ?_); rintro e w4 ⟨rfl, rfl⟩) | (go_at_call 74; refine (st_held.calls k _ _ kn fac v2 hh _ (Kd.C_drewN HRy.out _) hcL HHE.out).mono ?_; rintro e w5 ⟨rfl, hb5⟩; have BL5 := Sd.mk (blk_below (blk_drewN BLy.out _) hb5); have BE5 := Sd.mk (blk_below (blk_drewN BEy.out _) hb5); have BV5 := Sd.mk (blk_below (blk_drewN BVy.out _) hb5); have HR5 := Sd.mk (Kd.C_below (Kd.C_drewN HRy.out _) hb5); have HB5 := Sd.mk (below_then (pw_below_drewN HBy.out _) (pw_below_drewN HBy.out _).size hb5); have hu0 : w5.cell? ⟨X, 0, none⟩ = some (.int .i64 v1) := (blk_cell BV5.out 0).trans rfl; have hu1 : w5.cell? ⟨X, 1, none⟩ = some (.int .i64 v2) := (blk_cell BV5.out 1).trans rfl; have hm0 : w5.cell? ⟨w.heap.size, 0, none⟩ = some (.slice AL kn.length cL) := (blk_cell BL5.out 0).trans rfl; have hm1 : w5.cell? ⟨w.heap.size, 0 + 1, none⟩ = some (.int .i64 fac) := (blk_cell BL5.out 1).trans rfl; have he0 : w5.cell? ⟨w.heap.size + 1 + 1, 0, none⟩ = some (.int .i64 0) := (blk_cell BE5.out 0).trans rfl; have he1 := blk_frozen BE5.out 0) | (go_at_call 75; refine (st_strain.calls k _ _ kn fac (wrap64 (v1 - below)) v2 th ss _ HR5.out hcL HSE.out).mono ?_; rintro e w6 ⟨rfl, hb6⟩; have BE6 := Sd.mk (blk_below BE5.out hb6); have HB6 := Sd.mk (below_then HB5.out HB5.out.size hb6); have hf0 : w6.cell? ⟨w.heap.size + 1 + 1, 0, none⟩ = some (.int .i64 0) := (blk_cell BE6.out 0).trans rfl; have hf1 := blk_frozen BE6.out 0))
          refine leaves_cons (f := 72) (args := #[.pointer (some ⟨w.heap.size + 1 + 1, 0, none⟩)]) (by simp) (by simp [go_sem]) ?_
          refine (door87_ok _ _).mono ?_
          rintro e u' w'' ⟨rfl, rfl, rfl⟩
          exact ⟨_, results_te rfl _ _ (w.heap.size + 1 + 1) 0 rfl (blk_put BE6.out 0 _ rfl), rfl, below_set HB6.out (by omega)⟩
  ·rw [if_neg hve] at H
   simp only [Option.some.injEq, Prod.mk.injEq] at H
   obtain ⟨rfl, rfl⟩ := H
   have HVE := Sd.mk (errno_ne ve hve)
   clear hve
   go_enter_defers Tryz.func23, Tryz.ntmps23
   go_wp2_with (first | (go_at_call 73; refine (lehr_ok AL cL kn fac _ HRL.out H0.out).mono ?_; rintro e w1 ⟨rfl, hb1⟩; have BL1 := Sd.mk (blk_below BL.out hb1); have BB1 := Sd.mk (blk_below BB.out hb1); have BE1 := Sd.mk (blk_below BE.out hb1); have HRL1 := Sd.mk (Kd.C_below HRL.out hb1); have HB1 := Sd.mk (below_then HB.out (by have := HSZ.out; omega) hb1); have HW1 := Sd.mk hb1; have hbq := blk_cell BB1.out; have hb00 : w1.cell? ⟨w.heap.size + 1, 0, none⟩ = some (.slice A0_0 l0_0.length c0_0) := (hbq 0).trans rfl; have hb01 : w1.cell? ⟨w.heap.size + 1, 1, none⟩ = some (.slice A0_1 l0_1.length c0_1) := (hbq 1).trans rfl; have hb02 : w1.cell? ⟨w.heap.size + 1, 2, none⟩ = some (.slice A0_2 l0_2.length c0_2) := (hbq 2).trans rfl; have hb03 : w1.cell? ⟨w.heap.size + 1, 3, none⟩ = some (.slice A0_3 l0_3.length c0_3) := (hbq 3).trans rfl; have hb04 : w1.cell? ⟨w.heap.size + 1, 4, none⟩ = some (.int .i64 a0_4) := (hbq 4).trans rfl; have hb05 : w1.cell? ⟨w.heap.size + 1, 5, none⟩ = some (.int .i64 a0_5) := (hbq 5).trans rfl; have hb06 : w1.cell? ⟨w.heap.size + 1, 6, none⟩ = some (.int .i64 a0_6) := (hbq 6).trans rfl; clear hb1 hbq) | (go_at_call 46; refine (x_Value.calls k A0_0 c0_0 l0_0 A0_1 c0_1 l0_1 A0_2 c0_2 l0_2 A0_3 c0_3 l0_3 a0_4 a0_5 a0_6 A1 c1 l1 a2 v1 v2 _ _ (Kd.C_below HR0.out HW1.out) hc0_0 (Kd.C_below HR1.out HW1.out) hc0_1 (Kd.C_below HR2.out HW1.out) hc0_2 (Kd.C_below HR3.out HW1.out) hc0_3 (Kd.C_below HRR.out HW1.out) hc1 HV.out).mono ?_; rintro e w2 ⟨rfl, hb2⟩; have BL2 := Sd.mk (blk_alloc (blk_below BL1.out hb2) (.cells #[.int .i64 v1, .int .i64 v2] 27)); have BE2 := Sd.mk (blk_alloc (blk_below BE1.out hb2) (.cells #[.int .i64 v1, .int .i64 v2] 27)); have BV2 := Sd.mk (blk_new w2 (.cells #[.int .i64 v1, .int .i64 v2] 27)); have HRL2 := Sd.mk (Kd.C_below HRL1.out hb2); have HB2 := Sd.mk (below_then HB1.out HB1.out.size hb2); have HX2 := Sd.mk (show w.heap.size + 1 + 1 < w2.heap.size from blk_lt (blk_below BE1.out hb2)); have he0 : (w2.alloc (.cells #[.int .i64 v1, .int .i64 v2] 27)).cell? ⟨w.heap.size + 1 + 1, 0, none⟩ = some (.int .i64 0) := (blk_cell BE2.out 0).trans rfl; have he1 := blk_frozen BE2.out 0; clear hb2 hb00 hb01 hb02 hb03 hb04 hb05 hb06) | (go_at_call 64; refine (must_no _ HVE.out _).mono ?_; rintro e w3 ⟨rfl, rfl⟩))
   refine leaves_cons (f := 72) (args := #[.pointer (some ⟨w.heap.size + 1 + 1, 0, none⟩)]) (by simp) (by simp [go_sem]) ?_
   refine (door87_fail _ _ _ [] _ (blk_put BE2.out 0 (.int .i64 ve) rfl)).mono ?_
   rintro e u' w'' ⟨rfl, rfl, rfl⟩
   exact ⟨_, results_te rfl _ _ (w.heap.size + 1 + 1) _ rfl (blk_put (blk_alloc (blk_put BE2.out 0 (.int .i64 ve) rfl) _) 0 _ rfl), rfl, below_set (below_alloc (below_set (below_alloc HB2.out _) (by omega)) _) (by omega)⟩
 ·rw [if_neg h0] at h
  simp only [Option.some.injEq, Prod.mk.injEq] at h
  obtain ⟨rfl, rfl⟩ := h
  have H0 := Sd.mk h0
  clear h0
  go_enter_defers Tryz.func23, Tryz.ntmps23
  go_wp2_with (go_at_call 73; refine (lehr_no AL cL kn fac _ HRL.out H0.out).mono ?_; rintro e w1 ⟨rfl, hb1⟩)
  refine leaves_cons (f := 72) (args := #[.pointer (some ⟨w.heap.size + 1 + 1, 0, none⟩)]) (by simp) (by simp [go_sem]) ?_
  refine (door87_fail _ _ _ [] _ (blk_below BE.out hb1)).mono ?_
  rintro e u' w'' ⟨rfl, rfl, rfl⟩
  exact ⟨_, results_te rfl _ _ (w.heap.size + 1 + 1) _ rfl (blk_put (blk_alloc (blk_below BE.out hb1) _) 0 _ rfl), rfl, below_set (below_alloc (below_then HB.out (by have := HSZ.out; omega) hb1) _) (by omega)⟩
end
section
theorem minF_le (F : Nat → Int) : ∀ n cut, cut ≤ n → minF F n ≤ F cut := by
  intro n
  induction n with
  | zero => intro cut h; obtain rfl : cut = 0 := by omega
            exact Int.le_refl _
  | succ n ih =>
    intro cut h
    simp only [minF]
    by_cases hc : cut = n + 1
    · subst hc; split <;> omega
    · have := ih cut (by omega); split <;> omega
theorem minF_at (F : Nat → Int) : ∀ n, ∃ cut, cut ≤ n ∧ minF F n = F cut := by
  intro n
  induction n with
  | zero => exact ⟨0, Nat.le_refl _, rfl⟩
  | succ n ih =>
    obtain ⟨cut, h1, h2⟩ := ih
    simp only [minF]
    by_cases hc : F (n + 1) < minF F n
    · exact ⟨n + 1, Nat.le_refl _, by rw [if_pos hc]⟩
    · exact ⟨cut, by omega, by rw [if_neg hc, h2]⟩
theorem maxF_neg (F : Nat → Int) : ∀ n, maxF F n = -minF (fun c => -F c) n := by
  intro n
  induction n with
  | zero => simp [maxF, minF]
  | succ n ih => simp only [maxF, minF, ih]; split <;> split <;> omega
theorem sumTo_pick (f : Int → Int → Int) (u v : Int → Int) (D : Array Int) (cut : Nat) : ∀ k, k ≤ D.size →
    sumTo (fun j => if (j : Int) < (cut : Int) then f D[j]! (u D[j]!) else f D[j]! (v D[j]!)) k = MeanMath.lsum (fun a => f a (u a)) (D.toList.take (min k cut)) + MeanMath.lsum (fun a => f a (v a)) ((D.toList.take k).drop cut) := by
  intro k
  induction k with
  | zero => intro _; simp [sumTo]
  | succ k ih =>
    intro hk
    have hk' : k < D.toList.length := by rw [Array.length_toList]; omega
    have e : D[k]! = D.toList[k] := by rw [getElem!_pos D k (by omega)]; simp
    simp only [sumTo]
    rw [ih (by omega), e]
    by_cases hc : k < cut
    · rw [if_pos (by omega), Nat.min_eq_left (by omega), Nat.min_eq_left (by omega), List.take_succ_eq_append_getElem hk', MeanMath.lsum_append, List.drop_eq_nil_of_le (by simp; omega), List.drop_eq_nil_of_le (by simp; omega)]
      simp
    · rw [if_neg (by omega), Nat.min_eq_right (by omega), Nat.min_eq_right (by omega), List.take_succ_eq_append_getElem hk', List.drop_append_of_le_length (by simp; omega), MeanMath.lsum_append]
      simp; omega
theorem sumTo_pick' (f : Int → Int → Int) (u v : Int → Int) (D : Array Int) (cut : Nat) (hc : cut ≤ D.size) :
    sumTo (fun j => if (j : Int) < (cut : Int) then f D[j]! (u D[j]!) else f D[j]! (v D[j]!)) D.size = MeanMath.pick f u v D.toList cut := by
  rw [sumTo_pick f u v D cut D.size (Nat.le_refl _), Nat.min_eq_right hc, List.take_of_length_le (l := D.toList) (i := D.size) (by simp)]
  rfl
theorem pick_reverse (f : Int → Int → Int) (u v : Int → Int) (o : List Int) (cut : Nat) (hc : cut ≤ o.length) :
    MeanMath.pick f u v o.reverse (o.length - cut) = MeanMath.pick f v u o cut := by
  unfold MeanMath.pick
  rw [List.take_reverse, List.drop_reverse, MeanMath.lsum_perm _ (List.reverse_perm _), MeanMath.lsum_perm _ (List.reverse_perm (o.take (o.length - (o.length - cut)))), show o.length - (o.length - cut) = cut by omega]
  omega
def loF (l : List S27) (k : Int) : Int := (rd_T27 l k).f0
def hiF (l : List S27) (k : Int) : Int := (rd_T27 l k).f1
theorem lowN_pick (cf : Int → Int) (l : List S27) (D : Array Int) (cut : Nat) (hs : D.size = l.length) (hc : cut ≤ D.size) : lowN cf l D cut l.length = MeanMath.pick (fun a x => cf a * x) (hiF l) (loF l) D.toList cut := by
  rw [← sumTo_pick' _ _ _ D cut hc, hs]
  unfold lowN
  congr 1; funext j; unfold wX hiF loF; split <;> rfl
theorem lowD_pick (l : List S27) (D : Array Int) (cut : Nat) (hs : D.size = l.length) (hc : cut ≤ D.size) : lowD l D cut l.length = MeanMath.pick (fun _ x => x) (hiF l) (loF l) D.toList cut := by
  rw [← sumTo_pick' _ _ _ D cut hc, hs]
  unfold lowD
  congr 1
theorem highN_pick (cf : Int → Int) (l : List S27) (D : Array Int) (cut : Nat) (hs : D.size = l.length) (hc : cut ≤ D.size) : highN cf l D cut l.length = MeanMath.pick (fun a x => cf a * x) (loF l) (hiF l) D.toList cut := by
  rw [← sumTo_pick' _ _ _ D cut hc, hs]
  unfold highN
  congr 1; funext j; unfold wY hiF loF; split <;> rfl
theorem highD_pick (l : List S27) (D : Array Int) (cut : Nat) (hs : D.size = l.length) (hc : cut ≤ D.size) : highD l D cut l.length = MeanMath.pick (fun _ x => x) (loF l) (hiF l) D.toList cut := by
  rw [← sumTo_pick' _ _ _ D cut hc, hs]
  unfold highD
  congr 1
theorem pick_negc (cf : Int → Int) (u v : Int → Int) (o : List Int) (cut : Nat) : MeanMath.pick (fun a x => -cf a * x) u v o cut = -MeanMath.pick (fun a x => cf a * x) u v o cut := by
  unfold MeanMath.pick
  have : ∀ (w : Int → Int) (l : List Int), MeanMath.lsum (fun a => -cf a * w a) l = -MeanMath.lsum (fun a => cf a * w a) l := by
    intro w l
    induction l with
    | nil => rfl
    | cons x l ih => simp only [MeanMath.lsum_cons, ih]; rw [Int.neg_mul]; omega
  simp only [this]
  omega
def belowS (cf : Int → Int) (l : List S27) (m : Int) : Int := MeanMath.below cf (loF l) (hiF l) m (iotaA l.length).toList
def aboveS (cf : Int → Int) (l : List S27) (m : Int) : Int := MeanMath.below (fun k => -cf k) (loF l) (hiF l) (-m) (iotaA l.length).toList
theorem order_sorted (cf : Int → Int) (n : Nat) : (orderOf cf n).toList.Pairwise fun a b => cf a ≤ cf b := by
  rw [List.pairwise_iff_getElem]
  intro i j hi hj hij
  have h := (order_facts cf n).2 i j (Nat.zero_le _) hij (by rw [Array.length_toList, order_size] at hj; exact hj)
  rw [Array.length_toList] at hi hj
  rw [getElem!_pos _ i hi, getElem!_pos _ j hj] at h
  simp only [ltC, decide_eq_false_iff_not] at h
  simp only [Array.getElem_toList]
  omega
theorem order_mem (cf : Int → Int) {n : Nat} {a : Int} (h : a ∈ (orderOf cf n).toList) : 0 ≤ a ∧ a < n := by
  have h := (order_perm cf n).mem_iff.1 h
  simp only [iotaA, Array.toList_ofFn, List.mem_ofFn] at h
  obtain ⟨i, rfl⟩ := h
  have := i.isLt
  omega
theorem below_perm (c lo hi : Int → Int) (m : Int) {o o' : List Int} (h : o.Perm o') : MeanMath.below c lo hi m o = MeanMath.below c lo hi m o' := MeanMath.lsum_perm _ h
theorem order_weight (cf : Int → Int) (l : List S27) (h : 0 < MeanMath.lsum S27.f0 l) : 0 < MeanMath.lsum (loF l) (orderOf cf l.length).toList := by
  rw [MeanMath.lsum_perm _ (order_perm cf l.length), lsum_iota (loF l) l (fun _ _ => rfl)]
  exact h
theorem meanLo_iff {cf : Int → Int} {l : List S27} (H : MeanOk cf l) (m : Int) : belowS cf l m ≤ 0 ↔ m ≤ meanLo cf l := by
  unfold belowS
  rw [← below_perm _ _ _ _ (order_perm cf l.length)]
  have hs := order_size cf l.length
  have hq : ∀ cut, cut ≤ l.length → lowQ cf l (orderOf cf l.length) cut = MeanMath.pick (fun a x => cf a * x) (hiF l) (loF l) (orderOf cf l.length).toList cut / MeanMath.pick (fun _ x => x) (hiF l) (loF l) (orderOf cf l.length).toList cut := by
    intro cut hc
    unfold lowQ
    rw [lowN_pick _ _ _ _ hs (by omega), lowD_pick _ _ _ hs (by omega)]
  have hl : (orderOf cf l.length).toList.length = l.length := by rw [Array.length_toList, hs]
  refine MeanMath.least_floor cf (loF l) (hiF l) _ (order_sorted cf l.length) ?_ ?_ (order_weight cf l H.pos) (meanLo cf l) ?_ ?_ m
  · intro a ha; have h := order_mem cf ha; exact H.lo a h.1 h.2
  · intro a ha; have h := order_mem cf ha; exact H.le a h.1 h.2
  · intro cut hc
    rw [hl] at hc
    rw [← hq cut hc]
    exact minF_le _ _ cut hc
  · obtain ⟨cut, hc, he⟩ := minF_at (lowQ cf l (orderOf cf l.length)) l.length
    exact ⟨cut, by rw [hl]; exact hc, by rw [← hq cut hc]; exact he⟩
theorem meanHi_iff {cf : Int → Int} {l : List S27} (H : MeanOk cf l) (m : Int) : aboveS cf l m ≤ 0 ↔ meanHi cf l ≤ m := by
  unfold aboveS
  rw [← below_perm _ _ _ _ ((List.reverse_perm _).trans (order_perm cf l.length))]
  have hs := order_size cf l.length
  have hl : (orderOf cf l.length).toList.length = l.length := by rw [Array.length_toList, hs]
  have hq : ∀ cut, cut ≤ l.length → -highQ cf l (orderOf cf l.length) cut = MeanMath.pick (fun a x => -cf a * x) (hiF l) (loF l) (orderOf cf l.length).toList.reverse (l.length - cut) / MeanMath.pick (fun _ x => x) (hiF l) (loF l) (orderOf cf l.length).toList.reverse (l.length - cut) := by
    intro cut hc
    unfold highQ
    have e1 := pick_reverse (fun a x => -cf a * x) (hiF l) (loF l) (orderOf cf l.length).toList cut (by omega)
    have e2 := pick_reverse (fun _ x => x) (hiF l) (loF l) (orderOf cf l.length).toList cut (by omega)
    rw [hl] at e1 e2
    rw [e1, e2, pick_negc, highN_pick _ _ _ _ hs (by omega), highD_pick _ _ _ hs (by omega), Int.neg_neg]
  have hm : meanHi cf l = -minF (fun c => -highQ cf l (orderOf cf l.length) c) l.length := maxF_neg _ _
  have key := MeanMath.least_floor (fun k => -cf k) (loF l) (hiF l) (orderOf cf l.length).toList.reverse ?_ ?_ ?_ ?_ (-meanHi cf l) ?_ ?_ (-m)
  · rw [key]; omega
  · rw [List.pairwise_reverse]
    exact (order_sorted cf l.length).imp fun h => by omega
  · intro a ha; have h := order_mem cf (List.mem_reverse.1 ha); exact H.lo a h.1 h.2
  · intro a ha; have h := order_mem cf (List.mem_reverse.1 ha); exact H.le a h.1 h.2
  · rw [MeanMath.lsum_perm _ (List.reverse_perm _)]; exact order_weight cf l H.pos
  · intro cut hc
    rw [List.length_reverse, hl] at hc
    have := hq (l.length - cut) (by omega)
    rw [show l.length - (l.length - cut) = cut by omega] at this
    rw [← this, hm, Int.neg_neg]
    exact minF_le (fun c => -highQ cf l (orderOf cf l.length) c) _ (l.length - cut) (by omega)
  · obtain ⟨cut, hc, he⟩ := minF_at (fun c => -highQ cf l (orderOf cf l.length) c) l.length
    refine ⟨l.length - cut, by rw [List.length_reverse, hl]; omega, ?_⟩
    rw [← hq cut hc, hm, Int.neg_neg]
    exact he
end
end Go.Proofs.YtljfljekcpdpiaaGreat.PB
namespace Go.Proofs.YtljfljekcpdpiaaGreat.PB
open Go.RowKit Go.Proofs.YtljfljekcpdpiaaGreatW.PrintWords Go.Proofs.YtljfljekcpdpiaaGreatW.PrintLast Go.Proofs.YtljfljekcpdpiaaGreatW.PrintMore
def Ev {α : Type} (f : Nat → Option α) (v : α) : Prop := ∃ K, ∀ k, K ≤ k → f k = some v
namespace Ev
variable {α β : Type} {v u : α} {b : β}
theorem const (v : α) : Ev (fun _ => some v) v := ⟨0, fun _ _ => rfl⟩
theorem bind {f : Nat → Option α} {g : Nat → α → Option β} (h : Ev f v) (h' : Ev (fun k => g k v) b) : Ev (fun k => (f k).bind (g k)) b := by
  obtain ⟨K, h⟩ := h
  obtain ⟨K', h'⟩ := h'
  exact ⟨max K K', fun k hk => by show (f k).bind (g k) = some b; rw [h k (by omega)]; exact h' k (by omega)⟩
theorem step {f : Nat → Option α} (h : Ev (fun k => f (k + 1)) v) : Ev f v := by
  obtain ⟨K, h⟩ := h
  exact ⟨K + 1, fun k hk => by cases k with | zero => omega | succ k => exact h k (by omega)⟩
theorem cast {f : Nat → Option α} (h : Ev f v) (e : v = u) : Ev f u := e ▸ h
end Ev
theorem wrap_succ {i : Int} (h0 : 0 ≤ i) (h : i ≤ 1000000000) : wrap64 (i + 1) = i + 1 := wrap_id (by omega) (by omega)
def charB (c : Int) : Bool := decide (97 ≤ c ∧ c ≤ 122) || decide (48 ≤ c ∧ c ≤ 57) || decide (c = 45)
def nameFrom (x : ByteArray) : Nat → Int → Bool
  | 0, _ => true
  | m + 1, i => charB (bt x i) && nameFrom x m (i + 1)
def nameOk (x : ByteArray) : Bool := decide (1 ≤ x.size) && decide (x.size ≤ 16) && decide (97 ≤ bt x 0) && decide (bt x 0 ≤ 122) && nameFrom x x.size 0
theorem bname_l0 (x : ByteArray) (hx : x.size ≤ 16) : ∀ (m : Nat) (i : Int), 0 ≤ i → i + m = x.size → Ev (fun k => b_name.l0 k x x.size i) (nameFrom x m i)
  | 0, i, h0, hi => by
    apply Ev.step
    simp only [b_name.l0, if_neg (show ¬ i < (x.size : Int) by omega)]
    exact Ev.const _
  | m + 1, i, h0, hi => by
    have ih := bname_l0 x hx m (i + 1) (by omega) (by omega)
    apply Ev.step
    simp only [b_name.l0, if_pos (show i < (x.size : Int) by omega), if_pos h0, wrap_succ h0 (show i ≤ 1000000000 by omega)]
    by_cases h1 : bt x i ≥ 97 <;> by_cases h2 : bt x i ≤ 122 <;> by_cases h3 : bt x i ≥ 48 <;> by_cases h4 : bt x i ≤ 57 <;> by_cases h5 : bt x i = 45 <;> first
      | omega
      | (simp only [h1, h2, h3, h4, h5, if_true, if_false, ite_true, ite_false]
         first
           | exact ih.cast (by have hc : charB (bt x i) = true := (by simp only [charB, Bool.or_eq_true, decide_eq_true_eq]; omega); simp [nameFrom, hc])
           | exact (Ev.const false).cast (by have hc : charB (bt x i) = false := (by simp only [charB, Bool.or_eq_false_iff, decide_eq_false_iff_not]; omega); simp [nameFrom, hc]))
theorem bname (x : ByteArray) : Ev (fun k => b_name.f k x) (nameOk x) := by
  unfold b_name.f
  have hj : ∀ b : Bool, (b = false → x.size ≤ 16) → Ev (fun k => b_name.j0 k x b) (!b && nameFrom x x.size 0) := by
    intro b hb
    apply Ev.step
    cases b with
    | true => simp only [b_name.j0, if_true]; exact Ev.const _
    | false => simp only [b_name.j0, Bool.false_eq_true, if_false]; exact (bname_l0 x (hb rfl) x.size 0 (by omega) (by omega)).cast (by simp)
  by_cases h1 : (x.size : Int) < 1
  · simp only [if_pos h1]; exact (hj true (by simp)).cast (by simp [nameOk]; omega)
  · simp only [if_neg h1]
    by_cases h2 : (x.size : Int) > 16
    · simp only [if_pos h2]; exact (hj true (by simp)).cast (by simp [nameOk]; omega)
    · simp only [if_neg h2, if_pos (show 0 < (x.size : Int) by omega)]
      by_cases h3 : bt x 0 < 97
      · simp only [if_pos h3]; exact (hj true (by simp)).cast (by simp [nameOk]; omega)
      · simp only [if_neg h3]
        refine (hj _ (fun _ => by omega)).cast ?_
        by_cases h4 : bt x 0 > 122
        · simp [nameOk, h4]; try omega
        · have : 97 ≤ bt x 0 := by omega
          have : bt x 0 ≤ 122 := by omega
          have : x.size ≤ 16 := by omega
          have : 1 ≤ x.size := by omega
          simp [nameOk, *]
end Go.Proofs.YtljfljekcpdpiaaGreat.PB

namespace Go.Proofs.YtljfljekcpdpiaaGreat.PB
open Go.RowKit Go.Proofs.YtljfljekcpdpiaaGreatW.PrintWords Go.Proofs.YtljfljekcpdpiaaGreatW.PrintLast Go.Proofs.YtljfljekcpdpiaaGreatW.PrintMore
section
mutual
def rf_Name.j0 : Nat → ByteArray → Bool → Option (Bool)
 | 0, _, _ => none
 | k + 1, x0, x22 => if x22 = true then (some false) else (rf_Name.l0 k x0 0)
def rf_Name.l0 : Nat → ByteArray → Int → Option (Bool)
 | 0, _, _ => none
 | k + 1, x0, x3 => if x3 < (x0.size : Int) then (if 0 ≤ x3 then (if (bt x0 x3) ≥ 97 then (if (bt x0 x3) ≥ 48 then (if ((bt x0 x3) ≤ 122) then (rf_Name.l0 k x0 (wrap64 (x3 + 1))) else (if ((bt x0 x3) ≤ 57) then (rf_Name.l0 k x0 (wrap64 (x3 + 1))) else (if (bt x0 x3) = 45 then (rf_Name.l0 k x0 (wrap64 (x3 + 1))) else (some false)))) else (if ((bt x0 x3) ≤ 122) then (rf_Name.l0 k x0 (wrap64 (x3 + 1))) else (if (bt x0 x3) = 45 then (rf_Name.l0 k x0 (wrap64 (x3 + 1))) else (some false)))) else (if (bt x0 x3) ≥ 48 then (if ((bt x0 x3) ≤ 57) then (rf_Name.l0 k x0 (wrap64 (x3 + 1))) else (if (bt x0 x3) = 45 then (rf_Name.l0 k x0 (wrap64 (x3 + 1))) else (some false))) else (if (bt x0 x3) = 45 then (rf_Name.l0 k x0 (wrap64 (x3 + 1))) else (some false)))) else (none)) else (some true)
end
def rf_Name.f (k : Nat) (a0 : ByteArray) : Option (Bool) := if a0.toList = ([] : List UInt8) then (rf_Name.j0 k a0 true) else (if (a0.size : Int) > 16 then (rf_Name.j0 k a0 true) else (if 0 < (a0.size : Int) then (if (bt a0 0) < 97 then (rf_Name.j0 k a0 true) else (rf_Name.j0 k a0 (decide ((bt a0 0) > 122)))) else (none)))
theorem rf_Name.calls (k : Nat) (a0 : ByteArray) (r : Bool) (w : World) (h : rf_Name.f k a0 = some r) :
  Calls Tryz.prog 170 #[.string a0] w fun e w' => e = .returned (.bool r) ∧ Drawn0 w w' := by
 have H : (if a0.toList = ([] : List UInt8) then (rf_Name.j0 k a0 true) else (if (a0.size : Int) > 16 then (rf_Name.j0 k a0 true) else (if 0 < (a0.size : Int) then (if (bt a0 0) < 97 then (rf_Name.j0 k a0 true) else (rf_Name.j0 k a0 (decide ((bt a0 0) > 122)))) else (none)))) = some r := h
 clear h; have HC2 := Sd.mk H; clear H
 go_enter Tryz.func170, Tryz.ntmps170
 go_upto_region 1 with (fail)
 go_cut [22] (fun v22 wc => ∃ (kq : Nat) (x22_1 : Bool), v22 = .bool x22_1 ∧ Sd (rf_Name.j0 kq a0 x22_1 = some r) ∧ Sd (kq ≤ k) ∧ Drawn0 w wc)
 case first =>
  have H := HC2.out; clear HC2
  by_cases c3 : a0.toList = ([] : List UInt8)
  ·rw [if_pos c3] at H
   have c3b0 : (a0.toList == ([] : List UInt8)) = true := beq_iff_eq.mpr c3
   have c3b1 : (a0.toList != ([] : List UInt8)) = false := bne_eq_false_iff_eq.mpr c3
   clear c3
   (first | rw [c3b0] | (simp only [i64_w, i32_w]; rw [c3b0]) | skip)
   have H' := Sd.mk H; clear H
   go_wp2
   go_meet
   case rel => exact ⟨_, (true), tS, H', ⟨by first | omega | exact Nat.le_refl _⟩, by repeat (first | exact Drawn0.refl _ | apply Drawn0.step)⟩
  ·rw [if_neg c3] at H
   have c3b0 : (a0.toList == ([] : List UInt8)) = false := beq_eq_false_iff_ne.mpr c3
   have c3b1 : (a0.toList != ([] : List UInt8)) = true := bne_iff_ne.mpr c3
   (first | rw [c3b0] | (simp only [i64_w, i32_w]; rw [c3b0]) | skip)
   by_cases c4 : (a0.size : Int) > 16
   ·rw [if_pos c4] at H
    have c4b0 : decide (16 < (a0.size : Int)) = true := decide_eq_true c4
    have c4b1 : decide (16 < a0.size) = true := decide_eq_true (by omega)
    clear c4; have H' := Sd.mk H; clear H
    go_wp2
    go_meet
    case rel => exact ⟨_, (true), tS, H', ⟨by first | omega | exact Nat.le_refl _⟩, by repeat (first | exact Drawn0.refl _ | apply Drawn0.step)⟩
   ·rw [if_neg c4] at H
    have c4b0 : decide (16 < (a0.size : Int)) = false := decide_eq_false c4
    have c4b1 : decide (16 < a0.size) = false := decide_eq_false (by omega)
    clear c4
    by_cases c5 : 0 < (a0.size : Int)
    ·rw [if_pos c5] at H
     have c5b0 : decide (0 < (a0.size : Int)) = true := decide_eq_true c5
     have c5b1 : decide (0 < a0.size) = true := decide_eq_true (by omega)
     clear c5
     by_cases c7 : (bt a0 0) < 97
     ·rw [if_pos c7] at H
      have c7b0 : decide ((bt a0 0) < 97) = true := decide_eq_true c7
      clear c7; have H' := Sd.mk H; clear H
      have p6 : 0 ≤ (0 : Int) := (by omega)
      have q6 : 0 < a0.size := (by have : (0 : Int) < (a0.size : Int) := tB; omega)
      have hx6 : ∀ h : 0 < a0.size, ((a0[0]'h).toNat : Int) = bt a0 0 := bt_at a0 0
      clear p6
      have qi6 : (0 < (a0.size : Int)) = True := eq_true (tB)
      replace q6 := eq_true q6
      go_wp2
      go_meet
      case rel => exact ⟨_, (true), tS, H', ⟨by first | omega | exact Nat.le_refl _⟩, by repeat (first | exact Drawn0.refl _ | apply Drawn0.step)⟩
     ·rw [if_neg c7] at H
      have c7b0 : decide ((bt a0 0) < 97) = false := decide_eq_false c7
      clear c7; have H' := Sd.mk H; clear H
      have p6 : 0 ≤ (0 : Int) := (by omega)
      have q6 : 0 < a0.size := (by have : (0 : Int) < (a0.size : Int) := tB; omega)
      have hx6 : ∀ h : 0 < a0.size, ((a0[0]'h).toNat : Int) = bt a0 0 := bt_at a0 0
      clear p6
      have qi6 : (0 < (a0.size : Int)) = True := eq_true (tB)
      replace q6 := eq_true q6
      have p8 : 0 ≤ (0 : Int) := (by omega)
      have q8 : 0 < a0.size := (by have : (0 : Int) < (a0.size : Int) := tB; omega)
      have hx8 : ∀ h : 0 < a0.size, ((a0[0]'h).toNat : Int) = bt a0 0 := bt_at a0 0
      clear p8
      have qi8 : (0 < (a0.size : Int)) = True := eq_true (tB)
      replace q8 := eq_true q8
      go_wp2
      go_meet
      case rel => exact ⟨_, (decide ((bt a0 0) > 122)), tS, H', ⟨by first | omega | exact Nat.le_refl _⟩, by repeat (first | exact Drawn0.refl _ | apply Drawn0.step)⟩
    ·rw [if_neg c5] at H
     exact absurd H (by simp)
 case rest =>
  clear HC2; (try clear c1); (try clear p2); (try clear c3); (try clear c3b0); (try clear c3b1); (try clear c4); (try clear c4b0); (try clear c4b1); (try clear c5); (try clear c5b0); (try clear c5b1); (try clear p6 p6); (try clear q6 q6); (try clear hx6); (try clear qi6); (try clear c7); (try clear c7b0); (try clear p8 p8); (try clear q8 q8); (try clear hx8); (try clear qi8)
  obtain ⟨kq, x22_1, rfl, HA, HJ1, ⟨mc1, rfl⟩⟩ := hcut
  cases kq with
  | zero => exact absurd HA.out (by simp [rf_Name.j0])
  | succ kj1 =>
   have H := HA.out; clear HA
   simp only [rf_Name.j0] at H
   by_cases c9 : x22_1 = true
   ·subst c9
    have H1 : (some false) = some r := by rw [if_pos rfl] at H; exact H
    clear H; have H := H1; clear H1; obtain rfl := Option.some.inj H
    go_wp2
    go_ret
    exact ⟨by first | rfl | (simp; done) | (simp [*]; done), by repeat (first | exact Drawn0.refl _ | apply Drawn0.step)⟩
   ·replace c9 := Bool.eq_false_iff.mpr c9
    subst c9
    have H1 : (rf_Name.l0 kj1 a0 0) = some r := by rw [if_neg (show ¬ (false = true) by decide)] at H; exact H
    clear H; have H := H1; clear H1; have H' := Sd.mk H; clear H
    go_wp2
    go_loopg [3] kj1 (fun kq v3 w' => ∃ (x3_2 : Int), v3 = .int .i64 x3_2 ∧ Sd (rf_Name.l0 kq a0 x3_2 = some r) ∧ Sd (kq ≤ kj1) ∧ Drawn0 w w')
    case atStart => exact ⟨(0), tS, H', ⟨Nat.le_refl _⟩, by repeat (first | exact Drawn0.refl _ | apply Drawn0.step)⟩
    case round =>
     clear H'; (try clear c1); (try clear p2 p2); (try clear c3); (try clear c3b0); (try clear c3b1); (try clear c4); (try clear c4b0); (try clear c4b1); (try clear c5); (try clear c5b0); (try clear c5b1); (try clear p6 p6); (try clear q6 q6); (try clear hx6); (try clear qi6); (try clear c7); (try clear c7b0); (try clear p8 p8); (try clear q8 q8); (try clear hx8); (try clear qi8); (try clear c9)
     obtain ⟨x3_2, rfl, HA, HK2, ⟨m2, rfl⟩⟩ := hrel
     cases gk with
     | zero => exact absurd HA.out (by simp [rf_Name.l0])
     | succ k2 =>
      have H := HA.out; clear HA
      simp only [rf_Name.l0] at H
      by_cases c10 : x3_2 < (a0.size : Int)
      ·rw [if_pos c10] at H
       have c10b0 : decide (x3_2 < (a0.size : Int)) = true := decide_eq_true c10
       clear c10
       by_cases c11 : 0 ≤ x3_2
       ·rw [if_pos c11] at H
        have c11b0 : decide (0 ≤ x3_2) = true := decide_eq_true c11
        clear c11
        by_cases c13 : (bt a0 x3_2) ≥ 97
        ·rw [if_pos c13] at H
         have c13b0 : decide (97 ≤ (bt a0 x3_2)) = true := decide_eq_true c13
         clear c13
         by_cases c16 : (bt a0 x3_2) ≥ 48
         ·rw [if_pos c16] at H
          have c16b0 : decide (48 ≤ (bt a0 x3_2)) = true := decide_eq_true c16
          clear c16
          by_cases c18 : ((bt a0 x3_2) ≤ 122)
          ·rw [if_pos c18] at H
           have c18b0 : decide ((bt a0 x3_2) ≤ 122) = true := decide_eq_true c18
           clear c18; have H' := Sd.mk H; clear H
           have p12 : 0 ≤ (x3_2 : Int) := tB
           have q12 : x3_2 < (a0.size : Int) := tB
           have hx12 := bt_at a0 x3_2; replace p12 := eq_true p12; replace q12 := eq_true q12
           have p14 : 0 ≤ (x3_2 : Int) := tB
           have q14 : x3_2 < (a0.size : Int) := tB
           have hx14 := bt_at a0 x3_2; replace p14 := eq_true p14; replace q14 := eq_true q14
           have p15 : 0 ≤ (x3_2 : Int) := tB
           have q15 : x3_2 < (a0.size : Int) := tB
           have hx15 := bt_at a0 x3_2; replace p15 := eq_true p15; replace q15 := eq_true q15
           have p17 : 0 ≤ (x3_2 : Int) := tB
           have q17 : x3_2 < (a0.size : Int) := tB
           have hx17 := bt_at a0 x3_2; replace p17 := eq_true p17; replace q17 := eq_true q17
           go_wp2
           go_roundg k2
           case measure => have := HJ1.out; have := HK2.out; omega
           case rel => exact ⟨(wrap64 (x3_2 + 1)), tS, H', ⟨by have := HJ1.out; have := HK2.out; omega⟩, by repeat (first | exact Drawn0.refl _ | apply Drawn0.step)⟩
          ·rw [if_neg c18] at H
           have c18b0 : decide ((bt a0 x3_2) ≤ 122) = false := decide_eq_false c18
           clear c18
           by_cases c19 : ((bt a0 x3_2) ≤ 57)
           ·rw [if_pos c19] at H
            have c19b0 : decide ((bt a0 x3_2) ≤ 57) = true := decide_eq_true c19
            clear c19; have H' := Sd.mk H; clear H
            have p12 : 0 ≤ (x3_2 : Int) := tB
            have q12 : x3_2 < (a0.size : Int) := tB
            have hx12 := bt_at a0 x3_2; replace p12 := eq_true p12; replace q12 := eq_true q12
            have p14 : 0 ≤ (x3_2 : Int) := tB
            have q14 : x3_2 < (a0.size : Int) := tB
            have hx14 := bt_at a0 x3_2; replace p14 := eq_true p14; replace q14 := eq_true q14
            have p15 : 0 ≤ (x3_2 : Int) := tB
            have q15 : x3_2 < (a0.size : Int) := tB
            have hx15 := bt_at a0 x3_2; replace p15 := eq_true p15; replace q15 := eq_true q15
            have p17 : 0 ≤ (x3_2 : Int) := tB
            have q17 : x3_2 < (a0.size : Int) := tB
            have hx17 := bt_at a0 x3_2; replace p17 := eq_true p17; replace q17 := eq_true q17
            go_wp2
            go_roundg k2
            case measure => have := HJ1.out; have := HK2.out; omega
            case rel => exact ⟨(wrap64 (x3_2 + 1)), tS, H', ⟨by have := HJ1.out; have := HK2.out; omega⟩, by repeat (first | exact Drawn0.refl _ | apply Drawn0.step)⟩
           ·rw [if_neg c19] at H
            have c19b0 : decide ((bt a0 x3_2) ≤ 57) = false := decide_eq_false c19
            clear c19
            by_cases c21 : (bt a0 x3_2) = 45
            ·rw [if_pos c21] at H
             have c21b0 : ((bt a0 x3_2) == 45) = true := beq_iff_eq.mpr c21
             have c21b1 : ((bt a0 x3_2) != 45) = false := bne_eq_false_iff_eq.mpr c21
             clear c21; have H' := Sd.mk H; clear H
             have p12 : 0 ≤ (x3_2 : Int) := tB
             have q12 : x3_2 < (a0.size : Int) := tB
             have hx12 := bt_at a0 x3_2; replace p12 := eq_true p12; replace q12 := eq_true q12
             have p14 : 0 ≤ (x3_2 : Int) := tB
             have q14 : x3_2 < (a0.size : Int) := tB
             have hx14 := bt_at a0 x3_2; replace p14 := eq_true p14; replace q14 := eq_true q14
             have p15 : 0 ≤ (x3_2 : Int) := tB
             have q15 : x3_2 < (a0.size : Int) := tB
             have hx15 := bt_at a0 x3_2; replace p15 := eq_true p15; replace q15 := eq_true q15
             have p17 : 0 ≤ (x3_2 : Int) := tB
             have q17 : x3_2 < (a0.size : Int) := tB
             have hx17 := bt_at a0 x3_2; replace p17 := eq_true p17; replace q17 := eq_true q17
             have p20 : 0 ≤ (x3_2 : Int) := tB
             have q20 : x3_2 < (a0.size : Int) := tB
             have hx20 := bt_at a0 x3_2; replace p20 := eq_true p20; replace q20 := eq_true q20
             go_wp2
             go_roundg k2
             case measure => have := HJ1.out; have := HK2.out; omega
             case rel => exact ⟨(wrap64 (x3_2 + 1)), tS, H', ⟨by have := HJ1.out; have := HK2.out; omega⟩, by repeat (first | exact Drawn0.refl _ | apply Drawn0.step)⟩
            ·rw [if_neg c21] at H
             have c21b0 : ((bt a0 x3_2) == 45) = false := beq_eq_false_iff_ne.mpr c21
             have c21b1 : ((bt a0 x3_2) != 45) = true := bne_iff_ne.mpr c21
             obtain rfl := Option.some.inj H
             have p12 : 0 ≤ (x3_2 : Int) := tB
             have q12 : x3_2 < (a0.size : Int) := tB
             have hx12 := bt_at a0 x3_2; replace p12 := eq_true p12; replace q12 := eq_true q12
             have p14 : 0 ≤ (x3_2 : Int) := tB
             have q14 : x3_2 < (a0.size : Int) := tB
             have hx14 := bt_at a0 x3_2; replace p14 := eq_true p14; replace q14 := eq_true q14
             have p15 : 0 ≤ (x3_2 : Int) := tB
             have q15 : x3_2 < (a0.size : Int) := tB
             have hx15 := bt_at a0 x3_2; replace p15 := eq_true p15; replace q15 := eq_true q15
             have p17 : 0 ≤ (x3_2 : Int) := tB
             have q17 : x3_2 < (a0.size : Int) := tB
             have hx17 := bt_at a0 x3_2; replace p17 := eq_true p17; replace q17 := eq_true q17
             have p20 : 0 ≤ (x3_2 : Int) := tB
             have q20 : x3_2 < (a0.size : Int) := tB
             have hx20 := bt_at a0 x3_2; replace p20 := eq_true p20; replace q20 := eq_true q20
             go_wp2
             go_ret
             exact ⟨by first | rfl | (simp; done) | (simp [*]; done), by repeat (first | exact Drawn0.refl _ | apply Drawn0.step)⟩
         ·rw [if_neg c16] at H
          have c16b0 : decide (48 ≤ (bt a0 x3_2)) = false := decide_eq_false c16
          clear c16
          by_cases c22 : ((bt a0 x3_2) ≤ 122)
          ·rw [if_pos c22] at H
           have c22b0 : decide ((bt a0 x3_2) ≤ 122) = true := decide_eq_true c22
           clear c22; have H' := Sd.mk H; clear H
           have p12 : 0 ≤ (x3_2 : Int) := tB
           have q12 : x3_2 < (a0.size : Int) := tB
           have hx12 := bt_at a0 x3_2; replace p12 := eq_true p12; replace q12 := eq_true q12
           have p14 : 0 ≤ (x3_2 : Int) := tB
           have q14 : x3_2 < (a0.size : Int) := tB
           have hx14 := bt_at a0 x3_2; replace p14 := eq_true p14; replace q14 := eq_true q14
           have p15 : 0 ≤ (x3_2 : Int) := tB
           have q15 : x3_2 < (a0.size : Int) := tB
           have hx15 := bt_at a0 x3_2; replace p15 := eq_true p15; replace q15 := eq_true q15
           go_wp2
           go_roundg k2
           case measure => have := HJ1.out; have := HK2.out; omega
           case rel => exact ⟨(wrap64 (x3_2 + 1)), tS, H', ⟨by have := HJ1.out; have := HK2.out; omega⟩, by repeat (first | exact Drawn0.refl _ | apply Drawn0.step)⟩
          ·rw [if_neg c22] at H
           have c22b0 : decide ((bt a0 x3_2) ≤ 122) = false := decide_eq_false c22
           clear c22
           by_cases c24 : (bt a0 x3_2) = 45
           ·rw [if_pos c24] at H
            have c24b0 : ((bt a0 x3_2) == 45) = true := beq_iff_eq.mpr c24
            have c24b1 : ((bt a0 x3_2) != 45) = false := bne_eq_false_iff_eq.mpr c24
            clear c24; have H' := Sd.mk H; clear H
            have p12 : 0 ≤ (x3_2 : Int) := tB
            have q12 : x3_2 < (a0.size : Int) := tB
            have hx12 := bt_at a0 x3_2; replace p12 := eq_true p12; replace q12 := eq_true q12
            have p14 : 0 ≤ (x3_2 : Int) := tB
            have q14 : x3_2 < (a0.size : Int) := tB
            have hx14 := bt_at a0 x3_2; replace p14 := eq_true p14; replace q14 := eq_true q14
            have p15 : 0 ≤ (x3_2 : Int) := tB
            have q15 : x3_2 < (a0.size : Int) := tB
            have hx15 := bt_at a0 x3_2; replace p15 := eq_true p15; replace q15 := eq_true q15
            have p23 : 0 ≤ (x3_2 : Int) := tB
            have q23 : x3_2 < (a0.size : Int) := tB
            have hx23 := bt_at a0 x3_2; replace p23 := eq_true p23; replace q23 := eq_true q23
            go_wp2
            go_roundg k2
            case measure => have := HJ1.out; have := HK2.out; omega
            case rel => exact ⟨(wrap64 (x3_2 + 1)), tS, H', ⟨by have := HJ1.out; have := HK2.out; omega⟩, by repeat (first | exact Drawn0.refl _ | apply Drawn0.step)⟩
           ·rw [if_neg c24] at H
            have c24b0 : ((bt a0 x3_2) == 45) = false := beq_eq_false_iff_ne.mpr c24
            have c24b1 : ((bt a0 x3_2) != 45) = true := bne_iff_ne.mpr c24
            obtain rfl := Option.some.inj H
            have p12 : 0 ≤ (x3_2 : Int) := tB
            have q12 : x3_2 < (a0.size : Int) := tB
            have hx12 := bt_at a0 x3_2; replace p12 := eq_true p12; replace q12 := eq_true q12
            have p14 : 0 ≤ (x3_2 : Int) := tB
            have q14 : x3_2 < (a0.size : Int) := tB
            have hx14 := bt_at a0 x3_2; replace p14 := eq_true p14; replace q14 := eq_true q14
            have p15 : 0 ≤ (x3_2 : Int) := tB
            have q15 : x3_2 < (a0.size : Int) := tB
            have hx15 := bt_at a0 x3_2; replace p15 := eq_true p15; replace q15 := eq_true q15
            have p23 : 0 ≤ (x3_2 : Int) := tB
            have q23 : x3_2 < (a0.size : Int) := tB
            have hx23 := bt_at a0 x3_2; replace p23 := eq_true p23; replace q23 := eq_true q23
            go_wp2
            go_ret
            exact ⟨by first | rfl | (simp; done) | (simp [*]; done), by repeat (first | exact Drawn0.refl _ | apply Drawn0.step)⟩
        ·rw [if_neg c13] at H
         have c13b0 : decide (97 ≤ (bt a0 x3_2)) = false := decide_eq_false c13
         clear c13
         by_cases c26 : (bt a0 x3_2) ≥ 48
         ·rw [if_pos c26] at H
          have c26b0 : decide (48 ≤ (bt a0 x3_2)) = true := decide_eq_true c26
          clear c26
          by_cases c28 : ((bt a0 x3_2) ≤ 57)
          ·rw [if_pos c28] at H
           have c28b0 : decide ((bt a0 x3_2) ≤ 57) = true := decide_eq_true c28
           clear c28; have H' := Sd.mk H; clear H
           have p12 : 0 ≤ (x3_2 : Int) := tB
           have q12 : x3_2 < (a0.size : Int) := tB
           have hx12 := bt_at a0 x3_2; replace p12 := eq_true p12; replace q12 := eq_true q12
           have p25 : 0 ≤ (x3_2 : Int) := tB
           have q25 : x3_2 < (a0.size : Int) := tB
           have hx25 := bt_at a0 x3_2; replace p25 := eq_true p25; replace q25 := eq_true q25
           have p27 : 0 ≤ (x3_2 : Int) := tB
           have q27 : x3_2 < (a0.size : Int) := tB
           have hx27 := bt_at a0 x3_2; replace p27 := eq_true p27; replace q27 := eq_true q27
           go_wp2
           go_roundg k2
           case measure => have := HJ1.out; have := HK2.out; omega
           case rel => exact ⟨(wrap64 (x3_2 + 1)), tS, H', ⟨by have := HJ1.out; have := HK2.out; omega⟩, by repeat (first | exact Drawn0.refl _ | apply Drawn0.step)⟩
          ·rw [if_neg c28] at H
           have c28b0 : decide ((bt a0 x3_2) ≤ 57) = false := decide_eq_false c28
           clear c28
           by_cases c30 : (bt a0 x3_2) = 45
           ·rw [if_pos c30] at H
            have c30b0 : ((bt a0 x3_2) == 45) = true := beq_iff_eq.mpr c30
            have c30b1 : ((bt a0 x3_2) != 45) = false := bne_eq_false_iff_eq.mpr c30
            clear c30; have H' := Sd.mk H; clear H
            have p12 : 0 ≤ (x3_2 : Int) := tB
            have q12 : x3_2 < (a0.size : Int) := tB
            have hx12 := bt_at a0 x3_2; replace p12 := eq_true p12; replace q12 := eq_true q12
            have p25 : 0 ≤ (x3_2 : Int) := tB
            have q25 : x3_2 < (a0.size : Int) := tB
            have hx25 := bt_at a0 x3_2; replace p25 := eq_true p25; replace q25 := eq_true q25
            have p27 : 0 ≤ (x3_2 : Int) := tB
            have q27 : x3_2 < (a0.size : Int) := tB
            have hx27 := bt_at a0 x3_2; replace p27 := eq_true p27; replace q27 := eq_true q27
            have p29 : 0 ≤ (x3_2 : Int) := tB
            have q29 : x3_2 < (a0.size : Int) := tB
            have hx29 := bt_at a0 x3_2; replace p29 := eq_true p29; replace q29 := eq_true q29
            go_wp2
            go_roundg k2
            case measure => have := HJ1.out; have := HK2.out; omega
            case rel => exact ⟨(wrap64 (x3_2 + 1)), tS, H', ⟨by have := HJ1.out; have := HK2.out; omega⟩, by repeat (first | exact Drawn0.refl _ | apply Drawn0.step)⟩
           ·rw [if_neg c30] at H
            have c30b0 : ((bt a0 x3_2) == 45) = false := beq_eq_false_iff_ne.mpr c30
            have c30b1 : ((bt a0 x3_2) != 45) = true := bne_iff_ne.mpr c30
            obtain rfl := Option.some.inj H
            have p12 : 0 ≤ (x3_2 : Int) := tB
            have q12 : x3_2 < (a0.size : Int) := tB
            have hx12 := bt_at a0 x3_2; replace p12 := eq_true p12; replace q12 := eq_true q12
            have p25 : 0 ≤ (x3_2 : Int) := tB
            have q25 : x3_2 < (a0.size : Int) := tB
            have hx25 := bt_at a0 x3_2; replace p25 := eq_true p25; replace q25 := eq_true q25
            have p27 : 0 ≤ (x3_2 : Int) := tB
            have q27 : x3_2 < (a0.size : Int) := tB
            have hx27 := bt_at a0 x3_2; replace p27 := eq_true p27; replace q27 := eq_true q27
            have p29 : 0 ≤ (x3_2 : Int) := tB
            have q29 : x3_2 < (a0.size : Int) := tB
            have hx29 := bt_at a0 x3_2; replace p29 := eq_true p29; replace q29 := eq_true q29
            go_wp2
            go_ret
            exact ⟨by first | rfl | (simp; done) | (simp [*]; done), by repeat (first | exact Drawn0.refl _ | apply Drawn0.step)⟩
         ·rw [if_neg c26] at H
          have c26b0 : decide (48 ≤ (bt a0 x3_2)) = false := decide_eq_false c26
          clear c26
          by_cases c32 : (bt a0 x3_2) = 45
          ·rw [if_pos c32] at H
           have c32b0 : ((bt a0 x3_2) == 45) = true := beq_iff_eq.mpr c32
           have c32b1 : ((bt a0 x3_2) != 45) = false := bne_eq_false_iff_eq.mpr c32
           clear c32; have H' := Sd.mk H; clear H
           have p12 : 0 ≤ (x3_2 : Int) := tB
           have q12 : x3_2 < (a0.size : Int) := tB
           have hx12 := bt_at a0 x3_2; replace p12 := eq_true p12; replace q12 := eq_true q12
           have p25 : 0 ≤ (x3_2 : Int) := tB
           have q25 : x3_2 < (a0.size : Int) := tB
           have hx25 := bt_at a0 x3_2; replace p25 := eq_true p25; replace q25 := eq_true q25
           have p31 : 0 ≤ (x3_2 : Int) := tB
           have q31 : x3_2 < (a0.size : Int) := tB
           have hx31 := bt_at a0 x3_2; replace p31 := eq_true p31; replace q31 := eq_true q31
           go_wp2
           go_roundg k2
           case measure => have := HJ1.out; have := HK2.out; omega
           case rel => exact ⟨(wrap64 (x3_2 + 1)), tS, H', ⟨by have := HJ1.out; have := HK2.out; omega⟩, by repeat (first | exact Drawn0.refl _ | apply Drawn0.step)⟩
          ·rw [if_neg c32] at H
           have c32b0 : ((bt a0 x3_2) == 45) = false := beq_eq_false_iff_ne.mpr c32
           have c32b1 : ((bt a0 x3_2) != 45) = true := bne_iff_ne.mpr c32
           obtain rfl := Option.some.inj H
           have p12 : 0 ≤ (x3_2 : Int) := tB
           have q12 : x3_2 < (a0.size : Int) := tB
           have hx12 := bt_at a0 x3_2; replace p12 := eq_true p12; replace q12 := eq_true q12
           have p25 : 0 ≤ (x3_2 : Int) := tB
           have q25 : x3_2 < (a0.size : Int) := tB
           have hx25 := bt_at a0 x3_2; replace p25 := eq_true p25; replace q25 := eq_true q25
           have p31 : 0 ≤ (x3_2 : Int) := tB
           have q31 : x3_2 < (a0.size : Int) := tB
           have hx31 := bt_at a0 x3_2; replace p31 := eq_true p31; replace q31 := eq_true q31
           go_wp2
           go_ret
           exact ⟨by first | rfl | (simp; done) | (simp [*]; done), by repeat (first | exact Drawn0.refl _ | apply Drawn0.step)⟩
       ·rw [if_neg c11] at H
        exact absurd H (by simp)
      ·rw [if_neg c10] at H
       have c10b0 : decide (x3_2 < (a0.size : Int)) = false := decide_eq_false c10
       clear c10; obtain rfl := Option.some.inj H
       go_wp2
       go_ret
       exact ⟨by first | rfl | (simp; done) | (simp [*]; done), by repeat (first | exact Drawn0.refl _ | apply Drawn0.step)⟩
end
section
def rf_in.l0 : Nat → List ByteArray → ByteArray → Int → Option (Bool)
 | 0, _, _, _ => none
 | k + 1, x0, x1, x5 => if x5 < (x0.length : Int) then (if 0 ≤ x5 then (if (rdOf ByteArray.empty x0 x5).toList = x1.toList then (some true) else (rf_in.l0 k x0 x1 (wrap64 (x5 + 1)))) else (none)) else (some false)
def rf_in.f (k : Nat) (l0 : List ByteArray) (a1 : ByteArray) : Option (Bool) := rf_in.l0 k l0 a1 0
theorem rf_in.calls (k : Nat) (A0 : Option Addr) (c0 : Nat) (l0 : List ByteArray) (a1 : ByteArray) (r : Bool) (w : World) (hr0 : Kd.C Kd.string w A0 l0.length l0) (hc0 : l0.length ≤ c0) (h : rf_in.f k l0 a1 = some r) :
  Calls Tryz.prog 171 #[.slice A0 l0.length c0, .string a1] w fun e w' => e = .returned (.bool r) ∧ Drawn0 w w' := by
 have HR0 := Sd.mk hr0; have HC0 := Sd.mk hc0; clear hr0 hc0
 have H : (rf_in.l0 k l0 a1 0) = some r := h
 clear h; have H' := Sd.mk H; clear H
 go_enter Tryz.func171, Tryz.ntmps171
 go_wp2
 go_loopg [5] k (fun kq v5 w' => ∃ (x5_1 : Int), v5 = .int .i64 x5_1 ∧ Sd (rf_in.l0 kq l0 a1 x5_1 = some r) ∧ Sd (kq ≤ k) ∧ Drawn0 w w')
 case atStart => exact ⟨(0), tS, H', ⟨Nat.le_refl _⟩, by repeat (first | exact Drawn0.refl _ | apply Drawn0.step)⟩
 case round =>
  clear H'; (try clear c1); (try clear p2)
  obtain ⟨x5_1, rfl, HA, HK1, ⟨m1, rfl⟩⟩ := hrel
  cases gk with
  | zero => exact absurd HA.out (by simp [rf_in.l0])
  | succ k1 =>
   have H := HA.out; clear HA
   simp only [rf_in.l0] at H
   by_cases c3 : x5_1 < (l0.length : Int)
   ·rw [if_pos c3] at H
    have c3b0 : decide (x5_1 < (l0.length : Int)) = true := decide_eq_true c3
    clear c3
    by_cases c4 : 0 ≤ x5_1
    ·rw [if_pos c4] at H
     have c4b0 : decide (0 ≤ x5_1) = true := decide_eq_true c4
     clear c4
     by_cases c5 : (rdOf ByteArray.empty l0 x5_1).toList = a1.toList
     ·rw [if_pos c5] at H
      have c5b0 : ((rdOf ByteArray.empty l0 x5_1).toList == a1.toList) = true := beq_iff_eq.mpr c5
      have c5b1 : ((rdOf ByteArray.empty l0 x5_1).toList != a1.toList) = false := bne_eq_false_iff_eq.mpr c5
      clear c5; obtain rfl := Option.some.inj H
      have p226 : 0 ≤ (x5_1 : Int) := tB
      have q226 : x5_1 < (l0.length : Int) := tB
      obtain ⟨ad226, e226, hx226_0⟩ := Kd.at_string HR0.out x5_1 p226 q226; cases e226; replace p226 := eq_true p226; replace q226 := eq_true q226
      go_wp2
      go_ret
      exact ⟨by first | rfl | (simp; done) | (simp [*]; done), by repeat (first | exact Drawn0.refl _ | apply Drawn0.step)⟩
     ·rw [if_neg c5] at H
      have c5b0 : ((rdOf ByteArray.empty l0 x5_1).toList == a1.toList) = false := beq_eq_false_iff_ne.mpr c5
      have c5b1 : ((rdOf ByteArray.empty l0 x5_1).toList != a1.toList) = true := bne_iff_ne.mpr c5
      have H' := Sd.mk H; clear H
      have p226 : 0 ≤ (x5_1 : Int) := tB
      have q226 : x5_1 < (l0.length : Int) := tB
      obtain ⟨ad226, e226, hx226_0⟩ := Kd.at_string HR0.out x5_1 p226 q226; cases e226; replace p226 := eq_true p226; replace q226 := eq_true q226
      go_wp2
      go_roundg k1
      case measure => have := HK1.out; omega
      case rel => exact ⟨(wrap64 (x5_1 + 1)), tS, H', ⟨by have := HK1.out; omega⟩, by repeat (first | exact Drawn0.refl _ | apply Drawn0.step)⟩
    ·rw [if_neg c4] at H
     exact absurd H (by simp)
   ·rw [if_neg c3] at H
    have c3b0 : decide (x5_1 < (l0.length : Int)) = false := decide_eq_false c3
    clear c3; obtain rfl := Option.some.inj H
    go_wp2
    go_ret
    exact ⟨by first | rfl | (simp; done) | (simp [*]; done), by repeat (first | exact Drawn0.refl _ | apply Drawn0.step)⟩
end
section
theorem toList_loop (x : ByteArray) : ∀ (m i : Nat) (r : List UInt8), i + m = x.size → (ByteArray.toList.loop x i r).length = r.length + m
  | 0, i, r, h => by
    unfold ByteArray.toList.loop
    rw [if_neg (by omega)]; simp
  | m + 1, i, r, h => by
    unfold ByteArray.toList.loop
    rw [if_pos (by omega), toList_loop x m (i + 1) _ (by omega)]; simp; omega
theorem toList_len (x : ByteArray) : x.toList.length = x.size := by
  have := toList_loop x x.size 0 [] (by omega)
  simpa [ByteArray.toList] using this
theorem toList_nil (x : ByteArray) : x.toList = [] ↔ x.size = 0 := by
  rw [← toList_len]; exact List.length_eq_zero_iff.symm
theorem rname_l0 (x : ByteArray) (hx : x.size ≤ 16) : ∀ (m : Nat) (i : Int), 0 ≤ i → i + m = x.size → Ev (fun k => rf_Name.l0 k x i) (nameFrom x m i)
  | 0, i, h0, hi => by
    apply Ev.step
    simp only [rf_Name.l0, if_neg (show ¬ i < (x.size : Int) by omega)]
    exact Ev.const _
  | m + 1, i, h0, hi => by
    have ih := rname_l0 x hx m (i + 1) (by omega) (by omega)
    apply Ev.step
    simp only [rf_Name.l0, if_pos (show i < (x.size : Int) by omega), if_pos h0, wrap_succ h0 (show i ≤ 1000000000 by omega)]
    by_cases h1 : bt x i ≥ 97 <;> by_cases h2 : bt x i ≤ 122 <;> by_cases h3 : bt x i ≥ 48 <;> by_cases h4 : bt x i ≤ 57 <;> by_cases h5 : bt x i = 45 <;> first
      | omega
      | (simp only [h1, h2, h3, h4, h5, if_true, if_false, ite_true, ite_false]
         first
           | exact ih.cast (by have hc : charB (bt x i) = true := (by simp only [charB, Bool.or_eq_true, decide_eq_true_eq]; omega); simp [nameFrom, hc])
           | exact (Ev.const false).cast (by have hc : charB (bt x i) = false := (by simp only [charB, Bool.or_eq_false_iff, decide_eq_false_iff_not]; omega); simp [nameFrom, hc]))
theorem rname (x : ByteArray) : Ev (fun k => rf_Name.f k x) (nameOk x) := by
  unfold rf_Name.f
  have hj : ∀ b : Bool, (b = false → x.size ≤ 16) → Ev (fun k => rf_Name.j0 k x b) (!b && nameFrom x x.size 0) := by
    intro b hb
    apply Ev.step
    cases b with
    | true => simp only [rf_Name.j0, if_true]; exact Ev.const _
    | false => simp only [rf_Name.j0, Bool.false_eq_true, if_false]; exact (rname_l0 x (hb rfl) x.size 0 (by omega) (by omega)).cast (by simp)
  by_cases h1 : x.toList = []
  · have := (toList_nil x).1 h1
    simp only [if_pos h1]; exact (hj true (by simp)).cast (by simp [nameOk]; omega)
  · have : ¬ x.size = 0 := fun h => h1 ((toList_nil x).2 h)
    simp only [if_neg h1]
    by_cases h2 : (x.size : Int) > 16
    · simp only [if_pos h2]; exact (hj true (by simp)).cast (by simp [nameOk]; omega)
    · simp only [if_neg h2, if_pos (show 0 < (x.size : Int) by omega)]
      by_cases h3 : bt x 0 < 97
      · simp only [if_pos h3]; exact (hj true (by simp)).cast (by simp [nameOk]; omega)
      · simp only [if_neg h3]
        refine (hj _ (fun _ => by omega)).cast ?_
        by_cases h4 : bt x 0 > 122
        · simp [nameOk, h4]; try omega
        · have : 97 ≤ bt x 0 := by omega
          have : bt x 0 ≤ 122 := by omega
          have : x.size ≤ 16 := by omega
          have : 1 ≤ x.size := by omega
          simp [nameOk, *]
theorem rin_l0 (l : List ByteArray) (x : ByteArray) (hl : l.length ≤ 1000) : ∀ (m : Nat) (i : Nat), i + m = l.length → Ev (fun k => rf_in.l0 k l x (i : Int)) ((l.drop i).any fun y => y.toList == x.toList)
  | 0, i, hi => by
    apply Ev.step
    simp only [rf_in.l0, if_neg (show ¬ (i : Int) < (l.length : Int) by omega)]
    exact (Ev.const _).cast (by rw [List.drop_eq_nil_of_le (by omega)]; rfl)
  | m + 1, i, hi => by
    have ih := rin_l0 l x hl m (i + 1) (by omega)
    have hlt : i < l.length := by omega
    apply Ev.step
    simp only [rf_in.l0, if_pos (show (i : Int) < (l.length : Int) by omega), if_pos (show 0 ≤ (i : Int) by omega), wrap_succ (show 0 ≤ (i : Int) by omega) (show (i : Int) ≤ 1000000000 by omega)]
    have hr : rdOf ByteArray.empty l (i : Int) = l[i] := by simp [rdOf, hlt]
    rw [hr, List.drop_eq_getElem_cons hlt]
    by_cases h : l[i].toList = x.toList
    · simp only [if_pos h]
      exact (Ev.const _).cast (by rw [List.any_cons, h, beq_self_eq_true, Bool.true_or])
    · simp only [if_neg h]
      exact ih.cast (by rw [List.any_cons, beq_eq_false_iff_ne.mpr h, Bool.false_or])
theorem rin (l : List ByteArray) (x : ByteArray) (hl : l.length ≤ 1000) : Ev (fun k => rf_in.f k l x) (l.any fun y => y.toList == x.toList) := by
  unfold rf_in.f
  exact (rin_l0 l x hl l.length 0 (by omega)).cast (by simp)
theorem bidx_l0 (l : List ByteArray) (x : ByteArray) (hl : l.length ≤ 1000) : ∀ (m : Nat) (i : Nat), i + m = l.length → ∃ r : Int, Ev (fun k => slices_Index_string_string.l0 k l x (l.length : Int) (i : Int)) r ∧ (decide (r ≥ 0) = (l.drop i).any fun y => y.toList == x.toList)
  | 0, i, hi => by
    refine ⟨-1, ?_, by rw [List.drop_eq_nil_of_le (by omega)]; rfl⟩
    apply Ev.step
    simp only [slices_Index_string_string.l0, if_neg (show ¬ (i : Int) < (l.length : Int) by omega)]
    exact Ev.const _
  | m + 1, i, hi => by
    obtain ⟨r, ih, hr'⟩ := bidx_l0 l x hl m (i + 1) (by omega)
    have hlt : i < l.length := by omega
    have hr : rdOf ByteArray.empty l (i : Int) = l[i] := by simp [rdOf, hlt]
    by_cases h : x.toList = l[i].toList
    · refine ⟨i, ?_, ?_⟩
      · apply Ev.step
        simp only [slices_Index_string_string.l0, if_pos (show (i : Int) < (l.length : Int) by omega), if_pos (show 0 ≤ (i : Int) by omega), hr, if_pos h]
        exact Ev.const _
      · rw [List.drop_eq_getElem_cons hlt, List.any_cons, h, beq_self_eq_true, Bool.true_or]; simp
    · refine ⟨r, ?_, ?_⟩
      · apply Ev.step
        simp only [slices_Index_string_string.l0, if_pos (show (i : Int) < (l.length : Int) by omega), if_pos (show 0 ≤ (i : Int) by omega), hr, if_neg h, wrap_succ (show 0 ≤ (i : Int) by omega) (show (i : Int) ≤ 1000000000 by omega)]
        exact ih
      · rw [List.drop_eq_getElem_cons hlt, hr']
        have h' : ¬ l[i].toList = x.toList := fun e => h e.symm
        rw [List.any_cons, beq_eq_false_iff_ne.mpr h', Bool.false_or]
theorem bcontains (l : List ByteArray) (x : ByteArray) (hl : l.length ≤ 1000) : Ev (fun k => slices_Contains_string_string.f k l x) (l.any fun y => y.toList == x.toList) := by
  unfold slices_Contains_string_string.f slices_Index_string_string.f
  obtain ⟨r, h, e⟩ := bidx_l0 l x hl l.length 0 (by omega)
  refine Ev.bind h ?_
  exact (Ev.const _).cast (by rw [e]; simp)
end
section
def rf_within.f (a0_0 : Int) (a0_1 : Int) (a1 : Int) (a2 : Int) : Option (Bool) := if a0_0 ≥ a1 then (if a0_0 ≤ a0_1 then (some (decide (a0_1 ≤ a2))) else (some false)) else (some false)
theorem rf_within.calls (a0_0 : Int) (a0_1 : Int) (a1 : Int) (a2 : Int) (r : Bool) (w : World) (h : rf_within.f a0_0 a0_1 a1 a2 = some r) :
  Calls Tryz.prog 173 #[.agg #[.int .i64 a0_0, .int .i64 a0_1], .int .i64 a1, .int .i64 a2] w fun e w' => e = .returned (.bool r) ∧ Below w.heap.size w w' := by
 have hu27 := Tryz.underlying27; have HB := Sd.mk (Below.refl w.heap.size w)
 have H : (if a0_0 ≥ a1 then (if a0_0 ≤ a0_1 then (some (decide (a0_1 ≤ a2))) else (some false)) else (some false)) = some r := h
 clear h
 by_cases c4 : a0_0 ≥ a1
 ·rw [if_pos c4] at H
  have c4b0 : decide (a1 ≤ a0_0) = true := decide_eq_true c4
  clear c4
  by_cases c5 : a0_0 ≤ a0_1
  ·rw [if_pos c5] at H
   have c5b0 : decide (a0_0 ≤ a0_1) = true := decide_eq_true c5
   clear c5; obtain rfl := Option.some.inj H
   go_enter Tryz.func173, Tryz.ntmps173
   go_wp2_with (first | ((with_reducible refine gate_dst (N := 3) rfl ?_); refine box_event ?hg (N := 3) ?hd (cs := #[.int .i64 a0_0, .int .i64 a0_1]) (t := 27) ?hr ?_; (case hd => rfl); (case hg => rfl); (case hr => exact tG); intro gb227 hg w6 hbox hb; have BK227 := Sd.mk (hbox); have GW227 := Sd.mk (bSz hg (bBl HB.out)); have GE227 := Sd.mk (bSz hg (bBl HB.out)); replace HB := Sd.mk (below_step (bBl HB.out) hb); clear hb hbox hg; obtain ⟨u7_0, u7_1, o7_0, o7_1⟩ := bc2 (w := w6) BK227.out))
   go_ret
   exact ⟨tE, bBl HB.out⟩
  ·rw [if_neg c5] at H
   have c5b0 : decide (a0_0 ≤ a0_1) = false := decide_eq_false c5
   clear c5; obtain rfl := Option.some.inj H
   go_enter Tryz.func173, Tryz.ntmps173
   go_wp2_with (first | ((with_reducible refine gate_dst (N := 3) rfl ?_); refine box_event ?hg (N := 3) ?hd (cs := #[.int .i64 a0_0, .int .i64 a0_1]) (t := 27) ?hr ?_; (case hd => rfl); (case hg => rfl); (case hr => exact tG); intro gb227 hg w8 hbox hb; have BK227 := Sd.mk (hbox); have GW227 := Sd.mk (bSz hg (bBl HB.out)); have GE227 := Sd.mk (bSz hg (bBl HB.out)); replace HB := Sd.mk (below_step (bBl HB.out) hb); clear hb hbox hg; obtain ⟨u9_0, u9_1, o9_0, o9_1⟩ := bc2 (w := w8) BK227.out))
   go_ret
   exact ⟨tE, bBl HB.out⟩
 ·rw [if_neg c4] at H
  have c4b0 : decide (a1 ≤ a0_0) = false := decide_eq_false c4
  clear c4; obtain rfl := Option.some.inj H
  go_enter Tryz.func173, Tryz.ntmps173
  go_wp2_with (first | ((with_reducible refine gate_dst (N := 3) rfl ?_); refine box_event ?hg (N := 3) ?hd (cs := #[.int .i64 a0_0, .int .i64 a0_1]) (t := 27) ?hr ?_; (case hd => rfl); (case hg => rfl); (case hr => exact tG); intro gb227 hg w10 hbox hb; have BK227 := Sd.mk (hbox); have GW227 := Sd.mk (bSz hg (bBl HB.out)); have GE227 := Sd.mk (bSz hg (bBl HB.out)); replace HB := Sd.mk (below_step (bBl HB.out) hb); clear hb hbox hg; obtain ⟨u11_0, u11_1, o11_0, o11_1⟩ := bc2 (w := w10) BK227.out))
  go_ret
  exact ⟨tE, bBl HB.out⟩
end
section
mutual
def rf_material.j0 : Nat → Bool → List ByteArray → List (S70) → List (S27) → List (S89) → Int → Int → Int → ByteArray → Int → Int → Int → Int → Int → List (S27) → Option (Int)
 | 0, _, _, _, _, _, _, _, _, _, _, _, _, _, _, _ => none
 | k + 1, x56, x229q0, x229q1, x229q2, x229q3, x229q4, x229q5, x229q6, x230q0, x230q1, x230q2, x230q3, x230q4, x230q5, x230q6 => if x56 = true then (some 1) else (if (x230q6.length : Int) = (x229q0.length : Int) then (rf_material.l0 k 0 0 x230q0 x230q1 x230q2 x230q3 x230q4 x230q5 x230q6) else (some 1))
def rf_material.l0 : Nat → Int → Int → ByteArray → Int → Int → Int → Int → Int → List (S27) → Option (Int)
 | 0, _, _, _, _, _, _, _, _, _ => none
 | k + 1, x5, x6, x230q0, x230q1, x230q2, x230q3, x230q4, x230q5, x230q6 => if x6 < (x230q6.length : Int) then (if 0 ≤ x6 then ((rf_within.f ((rd_T27 x230q6 x6).f0) ((rd_T27 x230q6 x6).f1) 0 1000).bind fun t231 => (if t231 = true then (rf_material.l0 k (wrap64 (x5 + ((rd_T27 x230q6 x6).f0))) (wrap64 (x6 + 1)) x230q0 x230q1 x230q2 x230q3 x230q4 x230q5 x230q6) else (some 1))) else (none)) else (if x5 > 1000 then (some 12) else (some 0))
end
def rf_material.f (k : Nat) (l0_0 : List ByteArray) (l0_1 : List (S70)) (l0_2 : List (S27)) (l0_3 : List (S89)) (a0_4 : Int) (a0_5 : Int) (a0_6 : Int) (a1_0 : ByteArray) (a1_1 : Int) (a1_2 : Int) (a1_3 : Int) (a1_4 : Int) (a1_5 : Int) (l1_6 : List (S27)) : Option (Int) := if a1_1 < 0 then (rf_material.j0 k true l0_0 l0_1 l0_2 l0_3 a0_4 a0_5 a0_6 a1_0 a1_1 a1_2 a1_3 a1_4 a1_5 l1_6) else (if a1_1 > 10000 then (rf_material.j0 k true l0_0 l0_1 l0_2 l0_3 a0_4 a0_5 a0_6 a1_0 a1_1 a1_2 a1_3 a1_4 a1_5 l1_6) else (if a1_2 < (-1000) then (rf_material.j0 k true l0_0 l0_1 l0_2 l0_3 a0_4 a0_5 a0_6 a1_0 a1_1 a1_2 a1_3 a1_4 a1_5 l1_6) else (if a1_2 > 1000 then (rf_material.j0 k true l0_0 l0_1 l0_2 l0_3 a0_4 a0_5 a0_6 a1_0 a1_1 a1_2 a1_3 a1_4 a1_5 l1_6) else (if a1_3 < 0 then (rf_material.j0 k true l0_0 l0_1 l0_2 l0_3 a0_4 a0_5 a0_6 a1_0 a1_1 a1_2 a1_3 a1_4 a1_5 l1_6) else (if a1_3 > 10000 then (rf_material.j0 k true l0_0 l0_1 l0_2 l0_3 a0_4 a0_5 a0_6 a1_0 a1_1 a1_2 a1_3 a1_4 a1_5 l1_6) else (if a1_4 < a1_3 then (rf_material.j0 k true l0_0 l0_1 l0_2 l0_3 a0_4 a0_5 a0_6 a1_0 a1_1 a1_2 a1_3 a1_4 a1_5 l1_6) else (if a1_4 > 10000 then (rf_material.j0 k true l0_0 l0_1 l0_2 l0_3 a0_4 a0_5 a0_6 a1_0 a1_1 a1_2 a1_3 a1_4 a1_5 l1_6) else (if a1_5 < 1 then (rf_material.j0 k true l0_0 l0_1 l0_2 l0_3 a0_4 a0_5 a0_6 a1_0 a1_1 a1_2 a1_3 a1_4 a1_5 l1_6) else (rf_material.j0 k (decide (a1_5 > 10000)) l0_0 l0_1 l0_2 l0_3 a0_4 a0_5 a0_6 a1_0 a1_1 a1_2 a1_3 a1_4 a1_5 l1_6)))))))))
theorem rf_material.calls (k : Nat) (A0_0 : Option Addr) (c0_0 : Nat) (l0_0 : List ByteArray) (A0_1 : Option Addr) (c0_1 : Nat) (l0_1 : List (S70)) (A0_2 : Option Addr) (c0_2 : Nat) (l0_2 : List (S27)) (A0_3 : Option Addr) (c0_3 : Nat) (l0_3 : List (S89)) (a0_4 : Int) (a0_5 : Int) (a0_6 : Int) (a1_0 : ByteArray) (a1_1 : Int) (a1_2 : Int) (a1_3 : Int) (a1_4 : Int) (a1_5 : Int) (A1_6 : Option Addr) (c1_6 : Nat) (l1_6 : List (S27)) (r : Int) (w : World) (hr0_0 : Kd.C Kd.string w A0_0 l0_0.length l0_0) (hc0_0 : l0_0.length ≤ c0_0) (hr0_1 : Kd.C k70 w A0_1 l0_1.length l0_1) (hc0_1 : l0_1.length ≤ c0_1) (hr0_2 : Kd.C k27 w A0_2 l0_2.length l0_2) (hc0_2 : l0_2.length ≤ c0_2) (hr0_3 : Kd.C k89 w A0_3 l0_3.length l0_3) (hc0_3 : l0_3.length ≤ c0_3) (hr1_6 : Kd.C k27 w A1_6 l1_6.length l1_6) (hc1_6 : l1_6.length ≤ c1_6) (h : rf_material.f k l0_0 l0_1 l0_2 l0_3 a0_4 a0_5 a0_6 a1_0 a1_1 a1_2 a1_3 a1_4 a1_5 l1_6 = some r) :
  Calls Tryz.prog 172 #[.agg #[.slice A0_0 l0_0.length c0_0, .slice A0_1 l0_1.length c0_1, .slice A0_2 l0_2.length c0_2, .slice A0_3 l0_3.length c0_3, .int .i64 a0_4, .int .i64 a0_5, .int .i64 a0_6], .agg #[.string a1_0, .int .i64 a1_1, .int .i64 a1_2, .int .i64 a1_3, .int .i64 a1_4, .int .i64 a1_5, .slice A1_6 l1_6.length c1_6]] w fun e w' => e = .returned (.int .i64 r) ∧ Below w.heap.size w w' := by
 have hu29 := Tryz.underlying29; have hu70 := Tryz.underlying70; have hu27 := Tryz.underlying27; have HR0_0 := Sd.mk hr0_0; have HC0_0 := Sd.mk hc0_0; clear hr0_0 hc0_0; have HR0_1 := Sd.mk hr0_1; have HC0_1 := Sd.mk hc0_1; clear hr0_1 hc0_1; have HR0_2 := Sd.mk hr0_2; have HC0_2 := Sd.mk hc0_2; clear hr0_2 hc0_2; have HR0_3 := Sd.mk hr0_3; have HC0_3 := Sd.mk hc0_3; clear hr0_3 hc0_3; have HR1_6 := Sd.mk hr1_6; have HC1_6 := Sd.mk hc1_6; clear hr1_6 hc1_6; have HB := Sd.mk (Below.refl w.heap.size w)
 have H : (if a1_1 < 0 then (rf_material.j0 k true l0_0 l0_1 l0_2 l0_3 a0_4 a0_5 a0_6 a1_0 a1_1 a1_2 a1_3 a1_4 a1_5 l1_6) else (if a1_1 > 10000 then (rf_material.j0 k true l0_0 l0_1 l0_2 l0_3 a0_4 a0_5 a0_6 a1_0 a1_1 a1_2 a1_3 a1_4 a1_5 l1_6) else (if a1_2 < (-1000) then (rf_material.j0 k true l0_0 l0_1 l0_2 l0_3 a0_4 a0_5 a0_6 a1_0 a1_1 a1_2 a1_3 a1_4 a1_5 l1_6) else (if a1_2 > 1000 then (rf_material.j0 k true l0_0 l0_1 l0_2 l0_3 a0_4 a0_5 a0_6 a1_0 a1_1 a1_2 a1_3 a1_4 a1_5 l1_6) else (if a1_3 < 0 then (rf_material.j0 k true l0_0 l0_1 l0_2 l0_3 a0_4 a0_5 a0_6 a1_0 a1_1 a1_2 a1_3 a1_4 a1_5 l1_6) else (if a1_3 > 10000 then (rf_material.j0 k true l0_0 l0_1 l0_2 l0_3 a0_4 a0_5 a0_6 a1_0 a1_1 a1_2 a1_3 a1_4 a1_5 l1_6) else (if a1_4 < a1_3 then (rf_material.j0 k true l0_0 l0_1 l0_2 l0_3 a0_4 a0_5 a0_6 a1_0 a1_1 a1_2 a1_3 a1_4 a1_5 l1_6) else (if a1_4 > 10000 then (rf_material.j0 k true l0_0 l0_1 l0_2 l0_3 a0_4 a0_5 a0_6 a1_0 a1_1 a1_2 a1_3 a1_4 a1_5 l1_6) else (if a1_5 < 1 then (rf_material.j0 k true l0_0 l0_1 l0_2 l0_3 a0_4 a0_5 a0_6 a1_0 a1_1 a1_2 a1_3 a1_4 a1_5 l1_6) else (rf_material.j0 k (decide (a1_5 > 10000)) l0_0 l0_1 l0_2 l0_3 a0_4 a0_5 a0_6 a1_0 a1_1 a1_2 a1_3 a1_4 a1_5 l1_6)))))))))) = some r := h
 clear h; have HC3 := Sd.mk H; clear H
 go_enter Tryz.func172, Tryz.ntmps172
 go_upto_region 1 with (first | ((with_reducible refine gate_dst (N := 2) rfl ?_); refine box_event ?hg (N := 2) ?hd (cs := #[.slice A0_0 l0_0.length c0_0, .slice A0_1 l0_1.length c0_1, .slice A0_2 l0_2.length c0_2, .slice A0_3 l0_3.length c0_3, .int .i64 a0_4, .int .i64 a0_5, .int .i64 a0_6]) (t := 29) ?hr ?_; (case hd => rfl); (case hg => rfl); (case hr => exact tG); intro gb228 hg w4 hbox hb; have BK228 := Sd.mk (hbox); have GW228 := Sd.mk (bSz hg (bBl HB.out)); have GE228 := Sd.mk (bSz hg (bBl HB.out)); replace HB := Sd.mk (below_step (bBl HB.out) hb); clear hb hbox hg) | ((with_reducible refine gate_dst (N := 3) rfl ?_); refine box_event ?hg (N := 3) ?hd (cs := #[.string a1_0, .int .i64 a1_1, .int .i64 a1_2, .int .i64 a1_3, .int .i64 a1_4, .int .i64 a1_5, .slice A1_6 l1_6.length c1_6]) (t := 70) ?hr ?_; (case hd => rfl); (case hg => rfl); (case hr => exact tG); intro gb229 hg w5 hbox hb; have BK229 := Sd.mk (hbox); have GW229 := Sd.mk (bSz hg (bBl HB.out)); have GE229 := Sd.mk (bSz hg (bBl HB.out)); replace HB := Sd.mk (below_step (bBl HB.out) hb); have NB228_229 := Sd.mk (bNl hg (bkA BK228.out)); have NB229_228 := Sd.mk (bNg hg (bkA BK228.out)); replace BK228 := Sd.mk (blk_below (bkA BK228.out) hb); clear hb hbox hg))
 (try simp only [Act.put, List.setIfInBounds_toArray, List.set_cons_zero, List.set_cons_succ])
 go_cut [56] (fun v56 wc => ∃ (kq : Nat) (x56_2 : Bool), v56 = .bool x56_2 ∧ Sd (rf_material.j0 kq x56_2 l0_0 l0_1 l0_2 l0_3 a0_4 a0_5 a0_6 a1_0 a1_1 a1_2 a1_3 a1_4 a1_5 l1_6 = some r) ∧ Sd (kq ≤ k) ∧ Sd (wc.heap[gb228]? = some (.cells #[(.slice A0_0 l0_0.length c0_0), (.slice A0_1 l0_1.length c0_1), (.slice A0_2 l0_2.length c0_2), (.slice A0_3 l0_3.length c0_3), .int .i64 a0_4, .int .i64 a0_5, .int .i64 a0_6] 29 (0, 0))) ∧ Sd (wc.heap[gb229]? = some (.cells #[.string a1_0, .int .i64 a1_1, .int .i64 a1_2, .int .i64 a1_3, .int .i64 a1_4, .int .i64 a1_5, (.slice A1_6 l1_6.length c1_6)] 70 (0, 0))) ∧ Sd (Below w.heap.size w wc))
 case first =>
  have H := HC3.out; clear HC3
  by_cases c6 : a1_1 < 0
  ·rw [if_pos c6] at H
   have c6b0 : decide (a1_1 < 0) = true := decide_eq_true c6
   clear c6
   (first | rw [c6b0] | (simp only [i64_w, i32_w]; rw [c6b0]) | skip)
   have H' := Sd.mk H; clear H; have hnb7 := NB229_228.out; have hnc7 := NB228_229.out; obtain ⟨u8_0, u8_1, u8_2, u8_3, u8_4, u8_5, u8_6, o8_0, o8_1, o8_2, o8_3, o8_4, o8_5, o8_6⟩ := bc7 (w := w5) BK229.out
   go_wp2
   go_meet
   case rel => exact ⟨_, (true), tS, H', ⟨by first | omega | exact Nat.le_refl _⟩, ⟨bkA BK228.out⟩, ⟨bkA BK229.out⟩, ⟨bBl HB.out⟩⟩
  ·rw [if_neg c6] at H
   have c6b0 : decide (a1_1 < 0) = false := decide_eq_false c6
   clear c6
   (first | rw [c6b0] | (simp only [i64_w, i32_w]; rw [c6b0]) | skip)
   by_cases c9 : a1_1 > 10000
   ·rw [if_pos c9] at H
    have c9b0 : decide (10000 < a1_1) = true := decide_eq_true c9
    clear c9; have H' := Sd.mk H; clear H; have hnb10 := NB229_228.out; have hnc10 := NB228_229.out; obtain ⟨u11_0, u11_1, u11_2, u11_3, u11_4, u11_5, u11_6, o11_0, o11_1, o11_2, o11_3, o11_4, o11_5, o11_6⟩ := bc7 (w := w5) BK229.out
    go_wp2
    go_meet
    case rel => exact ⟨_, (true), tS, H', ⟨by first | omega | exact Nat.le_refl _⟩, ⟨bkA BK228.out⟩, ⟨bkA BK229.out⟩, ⟨bBl HB.out⟩⟩
   ·rw [if_neg c9] at H
    have c9b0 : decide (10000 < a1_1) = false := decide_eq_false c9
    clear c9
    by_cases c12 : a1_2 < (-1000)
    ·rw [if_pos c12] at H
     have c12b0 : decide (a1_2 < (-1000)) = true := decide_eq_true c12
     clear c12; have H' := Sd.mk H; clear H; have hnb13 := NB229_228.out; have hnc13 := NB228_229.out; obtain ⟨u14_0, u14_1, u14_2, u14_3, u14_4, u14_5, u14_6, o14_0, o14_1, o14_2, o14_3, o14_4, o14_5, o14_6⟩ := bc7 (w := w5) BK229.out
     go_wp2
     go_meet
     case rel => exact ⟨_, (true), tS, H', ⟨by first | omega | exact Nat.le_refl _⟩, ⟨bkA BK228.out⟩, ⟨bkA BK229.out⟩, ⟨bBl HB.out⟩⟩
    ·rw [if_neg c12] at H
     have c12b0 : decide (a1_2 < (-1000)) = false := decide_eq_false c12
     clear c12
     by_cases c15 : a1_2 > 1000
     ·rw [if_pos c15] at H
      have c15b0 : decide (1000 < a1_2) = true := decide_eq_true c15
      clear c15; have H' := Sd.mk H; clear H; have hnb16 := NB229_228.out; have hnc16 := NB228_229.out; obtain ⟨u17_0, u17_1, u17_2, u17_3, u17_4, u17_5, u17_6, o17_0, o17_1, o17_2, o17_3, o17_4, o17_5, o17_6⟩ := bc7 (w := w5) BK229.out
      go_wp2
      go_meet
      case rel => exact ⟨_, (true), tS, H', ⟨by first | omega | exact Nat.le_refl _⟩, ⟨bkA BK228.out⟩, ⟨bkA BK229.out⟩, ⟨bBl HB.out⟩⟩
     ·rw [if_neg c15] at H
      have c15b0 : decide (1000 < a1_2) = false := decide_eq_false c15
      clear c15
      by_cases c18 : a1_3 < 0
      ·rw [if_pos c18] at H
       have c18b0 : decide (a1_3 < 0) = true := decide_eq_true c18
       clear c18; have H' := Sd.mk H; clear H; have hnb19 := NB229_228.out; have hnc19 := NB228_229.out; obtain ⟨u20_0, u20_1, u20_2, u20_3, u20_4, u20_5, u20_6, o20_0, o20_1, o20_2, o20_3, o20_4, o20_5, o20_6⟩ := bc7 (w := w5) BK229.out
       go_wp2
       go_meet
       case rel => exact ⟨_, (true), tS, H', ⟨by first | omega | exact Nat.le_refl _⟩, ⟨bkA BK228.out⟩, ⟨bkA BK229.out⟩, ⟨bBl HB.out⟩⟩
      ·rw [if_neg c18] at H
       have c18b0 : decide (a1_3 < 0) = false := decide_eq_false c18
       clear c18
       by_cases c21 : a1_3 > 10000
       ·rw [if_pos c21] at H
        have c21b0 : decide (10000 < a1_3) = true := decide_eq_true c21
        clear c21; have H' := Sd.mk H; clear H; have hnb22 := NB229_228.out; have hnc22 := NB228_229.out; obtain ⟨u23_0, u23_1, u23_2, u23_3, u23_4, u23_5, u23_6, o23_0, o23_1, o23_2, o23_3, o23_4, o23_5, o23_6⟩ := bc7 (w := w5) BK229.out
        go_wp2
        go_meet
        case rel => exact ⟨_, (true), tS, H', ⟨by first | omega | exact Nat.le_refl _⟩, ⟨bkA BK228.out⟩, ⟨bkA BK229.out⟩, ⟨bBl HB.out⟩⟩
       ·rw [if_neg c21] at H
        have c21b0 : decide (10000 < a1_3) = false := decide_eq_false c21
        clear c21
        by_cases c24 : a1_4 < a1_3
        ·rw [if_pos c24] at H
         have c24b0 : decide (a1_4 < a1_3) = true := decide_eq_true c24
         clear c24; have H' := Sd.mk H; clear H; have hnb25 := NB229_228.out; have hnc25 := NB228_229.out; obtain ⟨u26_0, u26_1, u26_2, u26_3, u26_4, u26_5, u26_6, o26_0, o26_1, o26_2, o26_3, o26_4, o26_5, o26_6⟩ := bc7 (w := w5) BK229.out
         go_wp2
         go_meet
         case rel => exact ⟨_, (true), tS, H', ⟨by first | omega | exact Nat.le_refl _⟩, ⟨bkA BK228.out⟩, ⟨bkA BK229.out⟩, ⟨bBl HB.out⟩⟩
        ·rw [if_neg c24] at H
         have c24b0 : decide (a1_4 < a1_3) = false := decide_eq_false c24
         clear c24
         by_cases c27 : a1_4 > 10000
         ·rw [if_pos c27] at H
          have c27b0 : decide (10000 < a1_4) = true := decide_eq_true c27
          clear c27; have H' := Sd.mk H; clear H; have hnb28 := NB229_228.out; have hnc28 := NB228_229.out; obtain ⟨u29_0, u29_1, u29_2, u29_3, u29_4, u29_5, u29_6, o29_0, o29_1, o29_2, o29_3, o29_4, o29_5, o29_6⟩ := bc7 (w := w5) BK229.out
          go_wp2
          go_meet
          case rel => exact ⟨_, (true), tS, H', ⟨by first | omega | exact Nat.le_refl _⟩, ⟨bkA BK228.out⟩, ⟨bkA BK229.out⟩, ⟨bBl HB.out⟩⟩
         ·rw [if_neg c27] at H
          have c27b0 : decide (10000 < a1_4) = false := decide_eq_false c27
          clear c27
          by_cases c30 : a1_5 < 1
          ·rw [if_pos c30] at H
           have c30b0 : decide (a1_5 < 1) = true := decide_eq_true c30
           clear c30; have H' := Sd.mk H; clear H; have hnb31 := NB229_228.out; have hnc31 := NB228_229.out; obtain ⟨u32_0, u32_1, u32_2, u32_3, u32_4, u32_5, u32_6, o32_0, o32_1, o32_2, o32_3, o32_4, o32_5, o32_6⟩ := bc7 (w := w5) BK229.out
           go_wp2
           go_meet
           case rel => exact ⟨_, (true), tS, H', ⟨by first | omega | exact Nat.le_refl _⟩, ⟨bkA BK228.out⟩, ⟨bkA BK229.out⟩, ⟨bBl HB.out⟩⟩
          ·rw [if_neg c30] at H
           have c30b0 : decide (a1_5 < 1) = false := decide_eq_false c30
           clear c30; have H' := Sd.mk H; clear H; have hnb33 := NB229_228.out; have hnc33 := NB228_229.out; obtain ⟨u34_0, u34_1, u34_2, u34_3, u34_4, u34_5, u34_6, o34_0, o34_1, o34_2, o34_3, o34_4, o34_5, o34_6⟩ := bc7 (w := w5) BK229.out
           go_wp2
           go_meet
           case rel => exact ⟨_, (decide (a1_5 > 10000)), tS, H', ⟨by first | omega | exact Nat.le_refl _⟩, ⟨bkA BK228.out⟩, ⟨bkA BK229.out⟩, ⟨bBl HB.out⟩⟩
 case rest =>
  clear HC3; (try clear c1); (try clear c2); (try clear p2); (try clear c3); (try clear c6); (try clear c6b0); (try clear c7); (try clear c9); (try clear c9b0); (try clear c10); (try clear c12); (try clear c12b0); (try clear c13); (try clear c15); (try clear c15b0); (try clear c16); (try clear c17); (try clear c18); (try clear c18b0); (try clear c19); (try clear c21); (try clear c21b0); (try clear c22); (try clear c24); (try clear c24b0); (try clear c25); (try clear c27); (try clear c27b0); (try clear c28); (try clear c30); (try clear c30b0); (try clear c31); (try clear c33); (try clear u11_0 u11_1 u11_2 u11_3 u11_4 u11_5 u11_6); (try clear u14_0 u14_1 u14_2 u14_3 u14_4 u14_5 u14_6); (try clear u17_0 u17_1 u17_2 u17_3 u17_4 u17_5 u17_6); (try clear u20_0 u20_1 u20_2 u20_3 u20_4 u20_5 u20_6); (try clear u23_0 u23_1 u23_2 u23_3 u23_4 u23_5 u23_6); (try clear u26_0 u26_1 u26_2 u26_3 u26_4 u26_5 u26_6); (try clear u29_0 u29_1 u29_2 u29_3 u29_4 u29_5 u29_6); (try clear u32_0 u32_1 u32_2 u32_3 u32_4 u32_5 u32_6); (try clear u34_0 u34_1 u34_2 u34_3 u34_4 u34_5 u34_6); (try clear u8_0 u8_1 u8_2 u8_3 u8_4 u8_5 u8_6); (try clear o11_0 o11_1 o11_2 o11_3 o11_4 o11_5 o11_6); (try clear o14_0 o14_1 o14_2 o14_3 o14_4 o14_5 o14_6); (try clear o17_0 o17_1 o17_2 o17_3 o17_4 o17_5 o17_6); (try clear o20_0 o20_1 o20_2 o20_3 o20_4 o20_5 o20_6); (try clear o23_0 o23_1 o23_2 o23_3 o23_4 o23_5 o23_6); (try clear o26_0 o26_1 o26_2 o26_3 o26_4 o26_5 o26_6); (try clear o29_0 o29_1 o29_2 o29_3 o29_4 o29_5 o29_6); (try clear o32_0 o32_1 o32_2 o32_3 o32_4 o32_5 o32_6); (try clear o34_0 o34_1 o34_2 o34_3 o34_4 o34_5 o34_6); (try clear o8_0 o8_1 o8_2 o8_3 o8_4 o8_5 o8_6); obtain ⟨kq, x56_2, rfl, HA, HJ2, BK228, BK229, HB⟩ := hcut
  cases kq with
  | zero => exact absurd HA.out (by simp [rf_material.j0])
  | succ kj2 =>
   have H := HA.out; clear HA
   simp only [rf_material.j0] at H
   by_cases c35 : x56_2 = true
   ·subst c35
    have H1 : (some 1) = some r := by rw [if_pos rfl] at H; exact H
    clear H; have H := H1; clear H1; obtain rfl := Option.some.inj H
    go_wp2
    go_ret
    exact ⟨tE, bBl HB.out⟩
   ·replace c35 := Bool.eq_false_iff.mpr c35
    subst c35
    have H1 : (if (l1_6.length : Int) = (l0_0.length : Int) then (rf_material.l0 kj2 0 0 a1_0 a1_1 a1_2 a1_3 a1_4 a1_5 l1_6) else (some 1)) = some r := by rw [if_neg (show ¬ (false = true) by decide)] at H; exact H
    clear H; have H := H1; clear H1
    by_cases c36 : (l1_6.length : Int) = (l0_0.length : Int)
    ·rw [if_pos c36] at H
     have c36b0 : ((l1_6.length : Int) == (l0_0.length : Int)) = true := beq_iff_eq.mpr c36
     have c36b1 : ((l1_6.length : Int) != (l0_0.length : Int)) = false := bne_eq_false_iff_eq.mpr c36
     have c36b2 : (l1_6.length == l0_0.length) = true := by first | simpa using c36 | (simp at c36 ⊢; omega)
     clear c36; have H' := Sd.mk H; clear H; have hnb37 := NB229_228.out; have hnc37 := NB228_229.out; obtain ⟨u38_0, u38_1, u38_2, u38_3, u38_4, u38_5, u38_6, o38_0, o38_1, o38_2, o38_3, o38_4, o38_5, o38_6⟩ := bc7 (w := wc) BK229.out; obtain ⟨u39_0, u39_1, u39_2, u39_3, u39_4, u39_5, u39_6, o39_0, o39_1, o39_2, o39_3, o39_4, o39_5, o39_6⟩ := bc7 (w := wc) BK228.out
     go_wp2
     go_loopg [5, 6] kj2 (fun kq v5 v6 w' => ∃ (x5_2 : Int) (x6_2 : Int), v5 = .int .i64 x5_2 ∧ v6 = .int .i64 x6_2 ∧ Sd (rf_material.l0 kq x5_2 x6_2 a1_0 a1_1 a1_2 a1_3 a1_4 a1_5 l1_6 = some r) ∧ Sd (kq ≤ kj2) ∧ Sd (w'.heap[gb228]? = some (.cells #[(.slice A0_0 l0_0.length c0_0), (.slice A0_1 l0_1.length c0_1), (.slice A0_2 l0_2.length c0_2), (.slice A0_3 l0_3.length c0_3), .int .i64 a0_4, .int .i64 a0_5, .int .i64 a0_6] 29 (0, 0))) ∧ Sd (w'.heap[gb229]? = some (.cells #[.string a1_0, .int .i64 a1_1, .int .i64 a1_2, .int .i64 a1_3, .int .i64 a1_4, .int .i64 a1_5, (.slice A1_6 l1_6.length c1_6)] 70 (0, 0))) ∧ Sd (Below w.heap.size w w'))
     case atStart => exact ⟨(0), (0), tS, tS, H', ⟨Nat.le_refl _⟩, ⟨bkA BK228.out⟩, ⟨bkA BK229.out⟩, ⟨bBl HB.out⟩⟩
     case round =>
      clear H'; (try clear c1); (try clear c2); (try clear p2 p2); (try clear c3); (try clear c6); (try clear c6b0); (try clear c7); (try clear c9); (try clear c9b0); (try clear c10); (try clear c12); (try clear c12b0); (try clear c13); (try clear c15); (try clear c15b0); (try clear c16); (try clear c17); (try clear c18); (try clear c18b0); (try clear c19); (try clear c21); (try clear c21b0); (try clear c22); (try clear c24); (try clear c24b0); (try clear c25); (try clear c27); (try clear c27b0); (try clear c28); (try clear c30); (try clear c30b0); (try clear c31); (try clear c33); (try clear c35); (try clear c36); (try clear c36b0); (try clear c36b1); (try clear c36b2); (try clear c37); (try clear u11_0 u11_1 u11_2 u11_3 u11_4 u11_5 u11_6); (try clear u14_0 u14_1 u14_2 u14_3 u14_4 u14_5 u14_6); (try clear u17_0 u17_1 u17_2 u17_3 u17_4 u17_5 u17_6); (try clear u20_0 u20_1 u20_2 u20_3 u20_4 u20_5 u20_6); (try clear u23_0 u23_1 u23_2 u23_3 u23_4 u23_5 u23_6); (try clear u26_0 u26_1 u26_2 u26_3 u26_4 u26_5 u26_6); (try clear u29_0 u29_1 u29_2 u29_3 u29_4 u29_5 u29_6); (try clear u32_0 u32_1 u32_2 u32_3 u32_4 u32_5 u32_6); (try clear u34_0 u34_1 u34_2 u34_3 u34_4 u34_5 u34_6); (try clear u38_0 u38_1 u38_2 u38_3 u38_4 u38_5 u38_6); (try clear u39_0 u39_1 u39_2 u39_3 u39_4 u39_5 u39_6); (try clear u8_0 u8_1 u8_2 u8_3 u8_4 u8_5 u8_6); (try clear o11_0 o11_1 o11_2 o11_3 o11_4 o11_5 o11_6); (try clear o14_0 o14_1 o14_2 o14_3 o14_4 o14_5 o14_6); (try clear o17_0 o17_1 o17_2 o17_3 o17_4 o17_5 o17_6); (try clear o20_0 o20_1 o20_2 o20_3 o20_4 o20_5 o20_6); (try clear o23_0 o23_1 o23_2 o23_3 o23_4 o23_5 o23_6); (try clear o26_0 o26_1 o26_2 o26_3 o26_4 o26_5 o26_6); (try clear o29_0 o29_1 o29_2 o29_3 o29_4 o29_5 o29_6); (try clear o32_0 o32_1 o32_2 o32_3 o32_4 o32_5 o32_6); (try clear o34_0 o34_1 o34_2 o34_3 o34_4 o34_5 o34_6); (try clear o38_0 o38_1 o38_2 o38_3 o38_4 o38_5 o38_6); (try clear o39_0 o39_1 o39_2 o39_3 o39_4 o39_5 o39_6); (try clear o8_0 o8_1 o8_2 o8_3 o8_4 o8_5 o8_6); obtain ⟨x5_2, x6_2, rfl, rfl, HA, HK2, BK228, BK229, HB⟩ := hrel
      cases gk with
      | zero => exact absurd HA.out (by simp [rf_material.l0])
      | succ k2 =>
       have H := HA.out; clear HA
       simp only [rf_material.l0] at H
       by_cases c40 : x6_2 < (l1_6.length : Int)
       ·rw [if_pos c40] at H
        have c40b0 : decide (x6_2 < (l1_6.length : Int)) = true := decide_eq_true c40
        clear c40
        by_cases c41 : 0 ≤ x6_2
        ·rw [if_pos c41] at H
         have c41b0 : decide (0 ≤ x6_2) = true := decide_eq_true c41
         clear c41; replace H := Option.bind_eq_some_iff.mp H; obtain ⟨t231, A420, H⟩ := H
         try dsimp only at H
         have A42 := Sd.mk A420; clear A420
         by_cases c43 : t231 = true
         ·subst c43
          have H1 : (rf_material.l0 k2 (wrap64 (x5_2 + ((rd_T27 l1_6 x6_2).f0))) (wrap64 (x6_2 + 1)) a1_0 a1_1 a1_2 a1_3 a1_4 a1_5 l1_6) = some r := by rw [if_pos rfl] at H; exact H
          clear H; have H := H1; clear H1; have H' := Sd.mk H; clear H; have hnb44 := NB229_228.out; have hnc44 := NB228_229.out; obtain ⟨u45_0, u45_1, u45_2, u45_3, u45_4, u45_5, u45_6, o45_0, o45_1, o45_2, o45_3, o45_4, o45_5, o45_6⟩ := bc7 (w := wr) BK229.out
          have p230 : 0 ≤ (x6_2 : Int) := tB
          have q230 : x6_2 < (l1_6.length : Int) := tB
          obtain ⟨ad230, e230, hx230_0, hx230_1⟩ := at_T27 HR1_6.out x6_2 p230 q230; cases e230; replace hx230_0 := cU HB hx230_0; replace hx230_1 := cU HB hx230_1; replace p230 := eq_true p230; replace q230 := eq_true q230
          go_wp2_with (first | ((with_reducible refine gate_callee (f := 173) rfl ?_); refine goesL_ (some 76) rfl rfl Tryz.func173 (by kernel_rfl) rfl #[.agg #[.int .i64 ((rd_T27 l1_6 x6_2).f0), .int .i64 ((rd_T27 l1_6 x6_2).f1)], .int .i64 0, .int .i64 1000] rfl tM ?_; (with_reducible refine (rf_within.calls ((rd_T27 l1_6 x6_2).f0) ((rd_T27 l1_6 x6_2).f1) 0 1000 true _ A42.out).mono ?_); rintro e w46 ⟨rfl, hb⟩; refine ⟨_, rfl, ?_⟩; replace BK228 := Sd.mk (blk_below (bkA BK228.out) hb); replace BK229 := Sd.mk (blk_below (bkA BK229.out) hb); replace HB := Sd.mk (below_step (bBl HB.out) hb); (try clear hb); (try clear hb2); (try clear hk); (try clear hi); obtain ⟨u47_0, u47_1, u47_2, u47_3, u47_4, u47_5, u47_6, o47_0, o47_1, o47_2, o47_3, o47_4, o47_5, o47_6⟩ := bc7 (w := w46) BK229.out; have p232 : 0 ≤ (x6_2 : Int) := tB; have q232 : x6_2 < (l1_6.length : Int) := tB; obtain ⟨ad232, e232, hx232_0, hx232_1⟩ := at_T27 HR1_6.out x6_2 p232 q232; obtain rfl : ad230 = ad232 := (by injection e232); replace hx232_0 := cU HB hx232_0; replace hx232_1 := cU HB hx232_1; replace p232 := eq_true p232; replace q232 := eq_true q232))
          go_roundg k2
          case measure => have := HJ2.out; have := HK2.out; omega
          case rel => exact ⟨(wrap64 (x5_2 + ((rd_T27 l1_6 x6_2).f0))), (wrap64 (x6_2 + 1)), tS, tS, H', ⟨by have := HJ2.out; have := HK2.out; omega⟩, ⟨bkA BK228.out⟩, ⟨bkA BK229.out⟩, ⟨bBl HB.out⟩⟩
         ·replace c43 := Bool.eq_false_iff.mpr c43
          subst c43
          have H1 : (some 1) = some r := by rw [if_neg (show ¬ (false = true) by decide)] at H; exact H
          clear H; have H := H1; clear H1; obtain rfl := Option.some.inj H; have hnb48 := NB229_228.out; have hnc48 := NB228_229.out; obtain ⟨u49_0, u49_1, u49_2, u49_3, u49_4, u49_5, u49_6, o49_0, o49_1, o49_2, o49_3, o49_4, o49_5, o49_6⟩ := bc7 (w := wr) BK229.out
          have p230 : 0 ≤ (x6_2 : Int) := tB
          have q230 : x6_2 < (l1_6.length : Int) := tB
          obtain ⟨ad230, e230, hx230_0, hx230_1⟩ := at_T27 HR1_6.out x6_2 p230 q230; cases e230; replace hx230_0 := cU HB hx230_0; replace hx230_1 := cU HB hx230_1; replace p230 := eq_true p230; replace q230 := eq_true q230
          go_wp2_with (first | ((with_reducible refine gate_callee (f := 173) rfl ?_); refine goesL_ (some 76) rfl rfl Tryz.func173 (by kernel_rfl) rfl #[.agg #[.int .i64 ((rd_T27 l1_6 x6_2).f0), .int .i64 ((rd_T27 l1_6 x6_2).f1)], .int .i64 0, .int .i64 1000] rfl tM ?_; (with_reducible refine (rf_within.calls ((rd_T27 l1_6 x6_2).f0) ((rd_T27 l1_6 x6_2).f1) 0 1000 false _ A42.out).mono ?_); rintro e w50 ⟨rfl, hb⟩; refine ⟨_, rfl, ?_⟩; replace BK228 := Sd.mk (blk_below (bkA BK228.out) hb); replace BK229 := Sd.mk (blk_below (bkA BK229.out) hb); replace HB := Sd.mk (below_step (bBl HB.out) hb); (try clear hb); (try clear hb2); (try clear hk); (try clear hi)))
          go_ret
          exact ⟨tE, bBl HB.out⟩
        ·rw [if_neg c41] at H
         exact absurd H (by simp)
       ·rw [if_neg c40] at H
        have c40b0 : decide (x6_2 < (l1_6.length : Int)) = false := decide_eq_false c40
        clear c40
        by_cases c51 : x5_2 > 1000
        ·rw [if_pos c51] at H
         have c51b0 : decide (1000 < x5_2) = true := decide_eq_true c51
         clear c51; obtain rfl := Option.some.inj H; have hnb52 := NB229_228.out; have hnc52 := NB228_229.out; obtain ⟨u53_0, u53_1, u53_2, u53_3, u53_4, u53_5, u53_6, o53_0, o53_1, o53_2, o53_3, o53_4, o53_5, o53_6⟩ := bc7 (w := wr) BK229.out
         go_wp2
         go_ret
         exact ⟨tE, bBl HB.out⟩
        ·rw [if_neg c51] at H
         have c51b0 : decide (1000 < x5_2) = false := decide_eq_false c51
         clear c51; obtain rfl := Option.some.inj H; have hnb54 := NB229_228.out; have hnc54 := NB228_229.out; obtain ⟨u55_0, u55_1, u55_2, u55_3, u55_4, u55_5, u55_6, o55_0, o55_1, o55_2, o55_3, o55_4, o55_5, o55_6⟩ := bc7 (w := wr) BK229.out
         go_wp2
         go_ret
         exact ⟨tE, bBl HB.out⟩
    ·rw [if_neg c36] at H
     have c36b0 : ((l1_6.length : Int) == (l0_0.length : Int)) = false := beq_eq_false_iff_ne.mpr c36
     have c36b1 : ((l1_6.length : Int) != (l0_0.length : Int)) = true := bne_iff_ne.mpr c36
     have c36b2 : (l1_6.length == l0_0.length) = false := by first | simpa using c36 | (simp at c36 ⊢; omega)
     obtain rfl := Option.some.inj H; have hnb56 := NB229_228.out; have hnc56 := NB228_229.out; obtain ⟨u57_0, u57_1, u57_2, u57_3, u57_4, u57_5, u57_6, o57_0, o57_1, o57_2, o57_3, o57_4, o57_5, o57_6⟩ := bc7 (w := wc) BK229.out; obtain ⟨u58_0, u58_1, u58_2, u58_3, u58_4, u58_5, u58_6, o58_0, o58_1, o58_2, o58_3, o58_4, o58_5, o58_6⟩ := bc7 (w := wc) BK228.out
     go_wp2
     go_ret
     exact ⟨tE, bBl HB.out⟩
end
section
def rf_property.l0 : Nat → Int → ByteArray → List Int → Int → Int → Option (Int)
 | 0, _, _, _, _, _ => none
 | k + 1, x5, x235q0, x235q1, x235q2, x235q3 => if x5 < (x235q1.length : Int) then (if 0 ≤ x5 then (if (rd x235q1 x5) < (-10000) then (some 1) else (if (rd x235q1 x5) > 10000 then (some 1) else (rf_property.l0 k (wrap64 (x5 + 1)) x235q0 x235q1 x235q2 x235q3))) else (none)) else ((rf_within.f x235q2 x235q3 (-10000) 10000).bind fun t237 => (if t237 = true then (some 0) else (some 1)))
def rf_property.f (k : Nat) (l0_0 : List ByteArray) (l0_1 : List (S70)) (l0_2 : List (S27)) (l0_3 : List (S89)) (a0_4 : Int) (a0_5 : Int) (a0_6 : Int) (a1_0 : ByteArray) (l1_1 : List Int) (a1_2 : Int) (a1_3 : Int) : Option (Int) := if (l1_1.length : Int) = (l0_0.length : Int) then (rf_property.l0 k 0 a1_0 l1_1 a1_2 a1_3) else (some 1)
theorem rf_property.calls (k : Nat) (A0_0 : Option Addr) (c0_0 : Nat) (l0_0 : List ByteArray) (A0_1 : Option Addr) (c0_1 : Nat) (l0_1 : List (S70)) (A0_2 : Option Addr) (c0_2 : Nat) (l0_2 : List (S27)) (A0_3 : Option Addr) (c0_3 : Nat) (l0_3 : List (S89)) (a0_4 : Int) (a0_5 : Int) (a0_6 : Int) (a1_0 : ByteArray) (A1_1 : Option Addr) (c1_1 : Nat) (l1_1 : List Int) (a1_2 : Int) (a1_3 : Int) (r : Int) (w : World) (hr0_0 : Kd.C Kd.string w A0_0 l0_0.length l0_0) (hc0_0 : l0_0.length ≤ c0_0) (hr0_1 : Kd.C k70 w A0_1 l0_1.length l0_1) (hc0_1 : l0_1.length ≤ c0_1) (hr0_2 : Kd.C k27 w A0_2 l0_2.length l0_2) (hc0_2 : l0_2.length ≤ c0_2) (hr0_3 : Kd.C k89 w A0_3 l0_3.length l0_3) (hc0_3 : l0_3.length ≤ c0_3) (hr1_1 : Kd.C (Kd.int .i64) w A1_1 l1_1.length l1_1) (hc1_1 : l1_1.length ≤ c1_1) (h : rf_property.f k l0_0 l0_1 l0_2 l0_3 a0_4 a0_5 a0_6 a1_0 l1_1 a1_2 a1_3 = some r) :
  Calls Tryz.prog 174 #[.agg #[.slice A0_0 l0_0.length c0_0, .slice A0_1 l0_1.length c0_1, .slice A0_2 l0_2.length c0_2, .slice A0_3 l0_3.length c0_3, .int .i64 a0_4, .int .i64 a0_5, .int .i64 a0_6], .agg #[.string a1_0, .slice A1_1 l1_1.length c1_1, .int .i64 a1_2, .int .i64 a1_3]] w fun e w' => e = .returned (.int .i64 r) ∧ Below w.heap.size w w' := by
 have hu29 := Tryz.underlying29; have hu89 := Tryz.underlying89; have hu27 := Tryz.underlying27; have HR0_0 := Sd.mk hr0_0; have HC0_0 := Sd.mk hc0_0; clear hr0_0 hc0_0; have HR0_1 := Sd.mk hr0_1; have HC0_1 := Sd.mk hc0_1; clear hr0_1 hc0_1; have HR0_2 := Sd.mk hr0_2; have HC0_2 := Sd.mk hc0_2; clear hr0_2 hc0_2; have HR0_3 := Sd.mk hr0_3; have HC0_3 := Sd.mk hc0_3; clear hr0_3 hc0_3; have HR1_1 := Sd.mk hr1_1; have HC1_1 := Sd.mk hc1_1; clear hr1_1 hc1_1; have HB := Sd.mk (Below.refl w.heap.size w)
 have H : (if (l1_1.length : Int) = (l0_0.length : Int) then (rf_property.l0 k 0 a1_0 l1_1 a1_2 a1_3) else (some 1)) = some r := h
 clear h
 by_cases c3 : (l1_1.length : Int) = (l0_0.length : Int)
 ·rw [if_pos c3] at H
  have c3b0 : ((l1_1.length : Int) == (l0_0.length : Int)) = true := beq_iff_eq.mpr c3
  have c3b1 : ((l1_1.length : Int) != (l0_0.length : Int)) = false := bne_eq_false_iff_eq.mpr c3
  have c3b2 : (l1_1.length == l0_0.length) = true := by first | simpa using c3 | (simp at c3 ⊢; omega)
  clear c3; have H' := Sd.mk H; clear H
  go_enter Tryz.func174, Tryz.ntmps174
  go_wp2_with (first | ((with_reducible refine gate_dst (N := 2) rfl ?_); refine box_event ?hg (N := 2) ?hd (cs := #[.slice A0_0 l0_0.length c0_0, .slice A0_1 l0_1.length c0_1, .slice A0_2 l0_2.length c0_2, .slice A0_3 l0_3.length c0_3, .int .i64 a0_4, .int .i64 a0_5, .int .i64 a0_6]) (t := 29) ?hr ?_; (case hd => rfl); (case hg => rfl); (case hr => exact tG); intro gb233 hg w4 hbox hb; have BK233 := Sd.mk (hbox); have GW233 := Sd.mk (bSz hg (bBl HB.out)); have GE233 := Sd.mk (bSz hg (bBl HB.out)); replace HB := Sd.mk (below_step (bBl HB.out) hb); clear hb hbox hg) | ((with_reducible refine gate_dst (N := 3) rfl ?_); refine box_event ?hg (N := 3) ?hd (cs := #[.string a1_0, .slice A1_1 l1_1.length c1_1, .int .i64 a1_2, .int .i64 a1_3]) (t := 89) ?hr ?_; (case hd => rfl); (case hg => rfl); (case hr => exact tG); intro gb234 hg w5 hbox hb; have BK234 := Sd.mk (hbox); have GW234 := Sd.mk (bSz hg (bBl HB.out)); have GE234 := Sd.mk (bSz hg (bBl HB.out)); replace HB := Sd.mk (below_step (bBl HB.out) hb); have NB233_234 := Sd.mk (bNl hg (bkA BK233.out)); have NB234_233 := Sd.mk (bNg hg (bkA BK233.out)); replace BK233 := Sd.mk (blk_below (bkA BK233.out) hb); clear hb hbox hg; have hnb6 := NB234_233.out; have hnc6 := NB233_234.out; obtain ⟨u7_0, u7_1, u7_2, u7_3, o7_0, o7_1, o7_2, o7_3⟩ := bc4 (w := w5) BK234.out; obtain ⟨u8_0, u8_1, u8_2, u8_3, u8_4, u8_5, u8_6, o8_0, o8_1, o8_2, o8_3, o8_4, o8_5, o8_6⟩ := bc7 (w := w5) BK233.out))
  go_loopg [5] k (fun kq v5 w' => ∃ (x5_1 : Int), v5 = .int .i64 x5_1 ∧ Sd (rf_property.l0 kq x5_1 a1_0 l1_1 a1_2 a1_3 = some r) ∧ Sd (kq ≤ k) ∧ Sd (w'.heap[gb233]? = some (.cells #[(.slice A0_0 l0_0.length c0_0), (.slice A0_1 l0_1.length c0_1), (.slice A0_2 l0_2.length c0_2), (.slice A0_3 l0_3.length c0_3), .int .i64 a0_4, .int .i64 a0_5, .int .i64 a0_6] 29 (0, 0))) ∧ Sd (w'.heap[gb234]? = some (.cells #[.string a1_0, (.slice A1_1 l1_1.length c1_1), .int .i64 a1_2, .int .i64 a1_3] 89 (0, 0))) ∧ Sd (Below w.heap.size w w'))
  case atStart => exact ⟨(0), tS, H', ⟨Nat.le_refl _⟩, ⟨bkA BK233.out⟩, ⟨bkA BK234.out⟩, ⟨bBl HB.out⟩⟩
  case round =>
   clear H'; (try clear c1); (try clear p2); (try clear c3); (try clear c3b0); (try clear c3b1); (try clear c3b2); (try clear c6); (try clear u7_0 u7_1 u7_2 u7_3); (try clear u8_0 u8_1 u8_2 u8_3 u8_4 u8_5 u8_6); (try clear o7_0 o7_1 o7_2 o7_3); (try clear o8_0 o8_1 o8_2 o8_3 o8_4 o8_5 o8_6); obtain ⟨x5_1, rfl, HA, HK1, BK233, BK234, HB⟩ := hrel
   cases gk with
   | zero => exact absurd HA.out (by simp [rf_property.l0])
   | succ k1 =>
    have H := HA.out; clear HA
    simp only [rf_property.l0] at H
    by_cases c9 : x5_1 < (l1_1.length : Int)
    ·rw [if_pos c9] at H
     have c9b0 : decide (x5_1 < (l1_1.length : Int)) = true := decide_eq_true c9
     clear c9
     by_cases c10 : 0 ≤ x5_1
     ·rw [if_pos c10] at H
      have c10b0 : decide (0 ≤ x5_1) = true := decide_eq_true c10
      clear c10
      by_cases c11 : (rd l1_1 x5_1) < (-10000)
      ·rw [if_pos c11] at H
       have c11b0 : decide ((rd l1_1 x5_1) < (-10000)) = true := decide_eq_true c11
       clear c11; obtain rfl := Option.some.inj H; have hnb12 := NB234_233.out; have hnc12 := NB233_234.out; obtain ⟨u13_0, u13_1, u13_2, u13_3, o13_0, o13_1, o13_2, o13_3⟩ := bc4 (w := wr) BK234.out
       have p235 : 0 ≤ (x5_1 : Int) := tB
       have q235 : x5_1 < (l1_1.length : Int) := tB
       obtain ⟨ad235, e235, hx235_0⟩ := Kd.at_int HR1_1.out x5_1 p235 q235; cases e235; replace hx235_0 := cU HB hx235_0; replace p235 := eq_true p235; replace q235 := eq_true q235
       go_wp2
       go_ret
       exact ⟨tE, bBl HB.out⟩
      ·rw [if_neg c11] at H
       have c11b0 : decide ((rd l1_1 x5_1) < (-10000)) = false := decide_eq_false c11
       clear c11
       by_cases c14 : (rd l1_1 x5_1) > 10000
       ·rw [if_pos c14] at H
        have c14b0 : decide (10000 < (rd l1_1 x5_1)) = true := decide_eq_true c14
        clear c14; obtain rfl := Option.some.inj H; have hnb15 := NB234_233.out; have hnc15 := NB233_234.out; obtain ⟨u16_0, u16_1, u16_2, u16_3, o16_0, o16_1, o16_2, o16_3⟩ := bc4 (w := wr) BK234.out
        have p235 : 0 ≤ (x5_1 : Int) := tB
        have q235 : x5_1 < (l1_1.length : Int) := tB
        obtain ⟨ad235, e235, hx235_0⟩ := Kd.at_int HR1_1.out x5_1 p235 q235; cases e235; replace hx235_0 := cU HB hx235_0; replace p235 := eq_true p235; replace q235 := eq_true q235
        have p236 : 0 ≤ (x5_1 : Int) := tB
        have q236 : x5_1 < (l1_1.length : Int) := tB
        obtain ⟨ad236, e236, hx236_0⟩ := Kd.at_int HR1_1.out x5_1 p236 q236
        obtain rfl : ad235 = ad236 := (by injection e236)
        replace hx236_0 := cU HB hx236_0; replace p236 := eq_true p236; replace q236 := eq_true q236
        go_wp2
        go_ret
        exact ⟨tE, bBl HB.out⟩
       ·rw [if_neg c14] at H
        have c14b0 : decide (10000 < (rd l1_1 x5_1)) = false := decide_eq_false c14
        clear c14; have H' := Sd.mk H; clear H; have hnb17 := NB234_233.out; have hnc17 := NB233_234.out; obtain ⟨u18_0, u18_1, u18_2, u18_3, o18_0, o18_1, o18_2, o18_3⟩ := bc4 (w := wr) BK234.out
        have p235 : 0 ≤ (x5_1 : Int) := tB
        have q235 : x5_1 < (l1_1.length : Int) := tB
        obtain ⟨ad235, e235, hx235_0⟩ := Kd.at_int HR1_1.out x5_1 p235 q235; cases e235; replace hx235_0 := cU HB hx235_0; replace p235 := eq_true p235; replace q235 := eq_true q235
        have p236 : 0 ≤ (x5_1 : Int) := tB
        have q236 : x5_1 < (l1_1.length : Int) := tB
        obtain ⟨ad236, e236, hx236_0⟩ := Kd.at_int HR1_1.out x5_1 p236 q236
        obtain rfl : ad235 = ad236 := (by injection e236)
        replace hx236_0 := cU HB hx236_0; replace p236 := eq_true p236; replace q236 := eq_true q236
        go_wp2
        go_roundg k1
        case measure => have := HK1.out; omega
        case rel => exact ⟨(wrap64 (x5_1 + 1)), tS, H', ⟨by have := HK1.out; omega⟩, ⟨bkA BK233.out⟩, ⟨bkA BK234.out⟩, ⟨bBl HB.out⟩⟩
     ·rw [if_neg c10] at H
      exact absurd H (by simp)
    ·rw [if_neg c9] at H
     have c9b0 : decide (x5_1 < (l1_1.length : Int)) = false := decide_eq_false c9
     clear c9; replace H := Option.bind_eq_some_iff.mp H; obtain ⟨t237, A190, H⟩ := H
     try dsimp only at H
     have A19 := Sd.mk A190; clear A190
     by_cases c20 : t237 = true
     ·subst c20
      have H1 : (some 0) = some r := by rw [if_pos rfl] at H; exact H
      clear H; have H := H1; clear H1; obtain rfl := Option.some.inj H; have hnb21 := NB234_233.out; have hnc21 := NB233_234.out; obtain ⟨u22_0, u22_1, u22_2, u22_3, o22_0, o22_1, o22_2, o22_3⟩ := bc4 (w := wr) BK234.out
      go_wp2_with (first | ((with_reducible refine gate_callee (f := 173) rfl ?_); refine goesL_ (some 36) rfl rfl Tryz.func173 (by kernel_rfl) rfl #[.agg #[.int .i64 a1_2, .int .i64 a1_3], .int .i64 (-10000), .int .i64 10000] rfl tM ?_; (with_reducible refine (rf_within.calls a1_2 a1_3 (-10000) 10000 true _ A19.out).mono ?_); rintro e w23 ⟨rfl, hb⟩; refine ⟨_, rfl, ?_⟩; replace BK233 := Sd.mk (blk_below (bkA BK233.out) hb); replace BK234 := Sd.mk (blk_below (bkA BK234.out) hb); replace HB := Sd.mk (below_step (bBl HB.out) hb); (try clear hb); (try clear hb2); (try clear hk); (try clear hi)))
      go_ret
      exact ⟨tE, bBl HB.out⟩
     ·replace c20 := Bool.eq_false_iff.mpr c20
      subst c20
      have H1 : (some 1) = some r := by rw [if_neg (show ¬ (false = true) by decide)] at H; exact H
      clear H; have H := H1; clear H1; obtain rfl := Option.some.inj H; have hnb24 := NB234_233.out; have hnc24 := NB233_234.out; obtain ⟨u25_0, u25_1, u25_2, u25_3, o25_0, o25_1, o25_2, o25_3⟩ := bc4 (w := wr) BK234.out
      go_wp2_with (first | ((with_reducible refine gate_callee (f := 173) rfl ?_); refine goesL_ (some 36) rfl rfl Tryz.func173 (by kernel_rfl) rfl #[.agg #[.int .i64 a1_2, .int .i64 a1_3], .int .i64 (-10000), .int .i64 10000] rfl tM ?_; (with_reducible refine (rf_within.calls a1_2 a1_3 (-10000) 10000 false _ A19.out).mono ?_); rintro e w26 ⟨rfl, hb⟩; refine ⟨_, rfl, ?_⟩; replace BK233 := Sd.mk (blk_below (bkA BK233.out) hb); replace BK234 := Sd.mk (blk_below (bkA BK234.out) hb); replace HB := Sd.mk (below_step (bBl HB.out) hb); (try clear hb); (try clear hb2); (try clear hk); (try clear hi)))
      go_ret
      exact ⟨tE, bBl HB.out⟩
 ·rw [if_neg c3] at H
  have c3b0 : ((l1_1.length : Int) == (l0_0.length : Int)) = false := beq_eq_false_iff_ne.mpr c3
  have c3b1 : ((l1_1.length : Int) != (l0_0.length : Int)) = true := bne_iff_ne.mpr c3
  have c3b2 : (l1_1.length == l0_0.length) = false := by first | simpa using c3 | (simp at c3 ⊢; omega)
  obtain rfl := Option.some.inj H
  go_enter Tryz.func174, Tryz.ntmps174
  go_wp2_with (first | ((with_reducible refine gate_dst (N := 2) rfl ?_); refine box_event ?hg (N := 2) ?hd (cs := #[.slice A0_0 l0_0.length c0_0, .slice A0_1 l0_1.length c0_1, .slice A0_2 l0_2.length c0_2, .slice A0_3 l0_3.length c0_3, .int .i64 a0_4, .int .i64 a0_5, .int .i64 a0_6]) (t := 29) ?hr ?_; (case hd => rfl); (case hg => rfl); (case hr => exact tG); intro gb233 hg w27 hbox hb; have BK233 := Sd.mk (hbox); have GW233 := Sd.mk (bSz hg (bBl HB.out)); have GE233 := Sd.mk (bSz hg (bBl HB.out)); replace HB := Sd.mk (below_step (bBl HB.out) hb); clear hb hbox hg) | ((with_reducible refine gate_dst (N := 3) rfl ?_); refine box_event ?hg (N := 3) ?hd (cs := #[.string a1_0, .slice A1_1 l1_1.length c1_1, .int .i64 a1_2, .int .i64 a1_3]) (t := 89) ?hr ?_; (case hd => rfl); (case hg => rfl); (case hr => exact tG); intro gb234 hg w28 hbox hb; have BK234 := Sd.mk (hbox); have GW234 := Sd.mk (bSz hg (bBl HB.out)); have GE234 := Sd.mk (bSz hg (bBl HB.out)); replace HB := Sd.mk (below_step (bBl HB.out) hb); have NB233_234 := Sd.mk (bNl hg (bkA BK233.out)); have NB234_233 := Sd.mk (bNg hg (bkA BK233.out)); replace BK233 := Sd.mk (blk_below (bkA BK233.out) hb); clear hb hbox hg; have hnb29 := NB234_233.out; have hnc29 := NB233_234.out; obtain ⟨u30_0, u30_1, u30_2, u30_3, o30_0, o30_1, o30_2, o30_3⟩ := bc4 (w := w28) BK234.out; obtain ⟨u31_0, u31_1, u31_2, u31_3, u31_4, u31_5, u31_6, o31_0, o31_1, o31_2, o31_3, o31_4, o31_5, o31_6⟩ := bc7 (w := w28) BK233.out))
  go_ret
  exact ⟨tE, bBl HB.out⟩
end
end Go.Proofs.YtljfljekcpdpiaaGreat.PB
