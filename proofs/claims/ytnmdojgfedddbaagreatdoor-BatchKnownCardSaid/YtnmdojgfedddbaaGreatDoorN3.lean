import Derived.Test.YtnmdojgfedddbaaGreatDoorN2
import Derived.Deep.RegionWith
import Derived.Deep.DeepCutAuto
import Derived.Shelf.Abstract
import Derived.Laws.EntriesVeiled
import Derived.KernelRfl
set_option linter.unusedVariables false
set_option linter.unusedSimpArgs false
set_option maxHeartbeats 8000000
set_option maxRecDepth 1000000
namespace Go.Proofs.YtnmdojgfedddbaaGreatDoor.PB
open Go.RowKit Go.Proofs.YtnmdojgfedddbaaGreatDoorW.PrintWords Go.Proofs.YtnmdojgfedddbaaGreatDoorW.PrintLast Go.Proofs.YtnmdojgfedddbaaGreatDoorW.PrintMore
section
mutual
def b_grams.l0 : Nat → List Int → List (S27) → List (S50) → Int → Int → Option ((List (S27)))
 | 0, _, _, _, _, _ => none
 | k + 1, x1, x5, x15, x16, x17 => if x17 < x16 then (if 0 ≤ x17 then (if x17 < (x15.length : Int) then (b_grams.l1 k x1 x5 x17 x15 x16 x17 ((rd_T50 x15 x17).f6) (((rd_T50 x15 x17).f6).length : Int) 0) else (none)) else (none)) else (some x5)
def b_grams.l1 : Nat → List Int → List (S27) → Int → List (S50) → Int → Int → List (S27) → Int → Int → Option ((List (S27)))
 | 0, _, _, _, _, _, _, _, _, _ => none
 | k + 1, x1, x5, x6, x15, x16, x17, x23, x24, x25 => if x25 < x24 then (if 0 ≤ x25 then (if x25 < (x23.length : Int) then (if x25 < (x5.length : Int) then (if 0 ≤ x6 then (if x6 < (x1.length : Int) then ((some (x5.set (x25 : Int).toNat (⟨wrap64 (((rd_T27 x5 x25).f0) + (wrap64 ((rd x1 x6) * ((rd_T27 x23 x25).f0)))), (rd_T27 x5 x25).f1⟩ : S27) : List (S27))).bind fun y218 => (b_grams.l1 k x1 (y218.set (x25 : Int).toNat (⟨(rd_T27 y218 x25).f0, wrap64 (((rd_T27 y218 x25).f1) + (wrap64 ((rd x1 x6) * ((rd_T27 x23 x25).f1))))⟩ : S27)) x6 x15 x16 x17 x23 x24 (wrap64 (x25 + 1)))) else (none)) else (none)) else (none)) else (none)) else (none)) else (b_grams.l0 k x1 x5 x15 x16 (wrap64 (x17 + 1)))
end
def b_grams.f (k : Nat) (l0_0 : List ByteArray) (l0_1 : List (S50)) (l0_2 : List (S27)) (l0_3 : List (S77)) (a0_4 : Int) (a0_5 : Int) (a0_6 : Int) (l1 : List Int) : Option ((List (S27))) := if 0 ≤ (l0_0.length : Int) then (if ((l0_0.length : Int) : Int).toNat ≤ 17592186044416 then (b_grams.l0 k l1 (List.replicate ((l0_0.length : Int) : Int).toNat z27) l0_1 (l0_1.length : Int) 0) else (none)) else (none)
def b_grams.T8 : Bool × List (List Nat × List Nat) := (true, [([], []), ([], []), ([0, 1], [0, 1]), ([2], [2]), ([3], [3]), ([], []), ([], []), ([5, 6], [5, 6]), ([7], [7]), ([], []), ([9], [9]), ([8, 10], [8, 10]), ([4, 11], [4, 11]), ([0, 1, 0, 1, 2, 3, 4, 5, 6, 7, 8, 9, 10, 11, 12], [0, 1]), ([13, 0, 1, 2, 3, 4, 5, 6, 7, 8, 9, 10, 11, 12], [13]), ([14, 12, 0, 1, 2, 3, 4, 5, 6, 7, 8, 9, 10, 11, 12], [12, 14])])
def b_grams.B8 : List Nat := [0, 0, 3, 7, 15, 0, 0, 96, 224, 0, 512, 2016, 4095, 8191, 16383, 32767]
theorem b_grams.tab8 : rtab .any (opsOf Tryz.f140 8) = b_grams.T8 := by kernel_rfl
theorem b_grams.bits8 : waitsOk b_grams.T8.2 b_grams.B8 = true := by kernel_rfl
def b_grams.T9 : Bool × List (List Nat × List Nat) := (true, [([], []), ([], []), ([0, 1], [0, 1]), ([2], [2]), ([3], [3]), ([], []), ([], []), ([5, 6], [5, 6]), ([7], [7]), ([], []), ([9], [9]), ([8, 10], [8, 10]), ([4, 11], [4, 11]), ([0, 1, 0, 1, 2, 3, 4, 5, 6, 7, 8, 9, 10, 11, 12], [0, 1]), ([13, 0, 1, 2, 3, 4, 5, 6, 7, 8, 9, 10, 11, 12], [13]), ([14, 12, 0, 1, 2, 3, 4, 5, 6, 7, 8, 9, 10, 11, 12], [12, 14])])
def b_grams.B9 : List Nat := [0, 0, 3, 7, 15, 0, 0, 96, 224, 0, 512, 2016, 4095, 8191, 16383, 32767]
theorem b_grams.tab9 : rtab .any (opsOf Tryz.f140 9) = b_grams.T9 := by kernel_rfl
theorem b_grams.bits9 : waitsOk b_grams.T9.2 b_grams.B9 = true := by kernel_rfl
theorem b_grams.calls (k : Nat) (A0_0 : Option Addr) (c0_0 : Nat) (l0_0 : List ByteArray) (A0_1 : Option Addr) (c0_1 : Nat) (l0_1 : List (S50)) (A0_2 : Option Addr) (c0_2 : Nat) (l0_2 : List (S27)) (A0_3 : Option Addr) (c0_3 : Nat) (l0_3 : List (S77)) (a0_4 : Int) (a0_5 : Int) (a0_6 : Int) (A1 : Option Addr) (c1 : Nat) (l1 : List Int) (r : List (S27)) (w : World) (hr0_0 : Kd.C Kd.string w A0_0 l0_0.length l0_0) (hc0_0 : l0_0.length ≤ c0_0) (hr0_1 : Kd.C k50 w A0_1 l0_1.length l0_1) (hc0_1 : l0_1.length ≤ c0_1) (hr0_2 : Kd.C k27 w A0_2 l0_2.length l0_2) (hc0_2 : l0_2.length ≤ c0_2) (hr0_3 : Kd.C k77 w A0_3 l0_3.length l0_3) (hc0_3 : l0_3.length ≤ c0_3) (hr1 : Kd.C (Kd.int .i64) w A1 l1.length l1) (hc1 : l1.length ≤ c1) (h : b_grams.f k l0_0 l0_1 l0_2 l0_3 a0_4 a0_5 a0_6 l1 = some r) :
  Calls Tryz.prog 140 #[.agg #[.slice A0_0 l0_0.length c0_0, .slice A0_1 l0_1.length c0_1, .slice A0_2 l0_2.length c0_2, .slice A0_3 l0_3.length c0_3, .int .i64 a0_4, .int .i64 a0_5, .int .i64 a0_6], .slice A1 l1.length c1] w fun e w' => ∃ v0_ : Value, e = .returned (v0_) ∧ Kd.R k27 27 w' w.heap.size (fun _ => True) v0_ r ∧ Below w.heap.size w w' := by
 have hu29 := Tryz.underlying29; have hu50 := Tryz.underlying50; have hu27 := Tryz.underlying27; have HR0_0 := Sd.mk hr0_0; have HC0_0 := Sd.mk hc0_0; clear hr0_0 hc0_0; have HR0_1 := Sd.mk hr0_1; have HC0_1 := Sd.mk hc0_1; clear hr0_1 hc0_1; have HR0_2 := Sd.mk hr0_2; have HC0_2 := Sd.mk hc0_2; clear hr0_2 hc0_2; have HR0_3 := Sd.mk hr0_3; have HC0_3 := Sd.mk hc0_3; clear hr0_3 hc0_3; have HR1 := Sd.mk hr1; have HC1 := Sd.mk hc1; clear hr1 hc1; have HB := Sd.mk (Below.refl w.heap.size w)
 have H : (if 0 ≤ (l0_0.length : Int) then (if ((l0_0.length : Int) : Int).toNat ≤ 17592186044416 then (b_grams.l0 k l1 (List.replicate ((l0_0.length : Int) : Int).toNat z27) l0_1 (l0_1.length : Int) 0) else (none)) else (none)) = some r := h
 clear h
 by_cases c3 : 0 ≤ (l0_0.length : Int)
 ·rw [if_pos c3] at H
  have c3b0 := eq_true c3
  have c3b1 : decide (0 ≤ (l0_0.length : Int)) = true := decide_eq_true c3
  clear c3
  by_cases c4 : ((l0_0.length : Int) : Int).toNat ≤ 17592186044416
  ·rw [if_pos c4] at H
   have c4b0 := eq_true c4
   have c4b1 : decide (((l0_0.length : Int) : Int).toNat ≤ 17592186044416) = true := decide_eq_true c4
   clear c4
   obtain ⟨y209, hy209⟩ : ∃ y_ : List (S27), y_ = (List.replicate ((l0_0.length : Int) : Int).toNat z27) := ⟨_, rfl⟩
   replace H : (b_grams.l0 k l1 y209 l0_1 (l0_1.length : Int) 0) = some r := by first | (rw [hy209]; with_reducible exact H) | (have H2_ := (Option.bind_some _ _).symm.trans H; rw [hy209]; with_reducible exact H2_) | (have H2_ := (Option.bind_some _ _).symm.trans H; with_reducible exact H2_) | with_reducible exact H | (rw [hy209]; exact H) | exact H
   have Ny209 := Sd.mk hy209; clear hy209; have H' := Sd.mk H; clear H
   go_enter Tryz.func140, Tryz.ntmps140
   go_wp2_with (first | ((with_reducible refine gate_dst (N := 2) rfl ?_); refine box_event ?hg (N := 2) ?hd (cs := #[.slice A0_0 l0_0.length c0_0, .slice A0_1 l0_1.length c0_1, .slice A0_2 l0_2.length c0_2, .slice A0_3 l0_3.length c0_3, .int .i64 a0_4, .int .i64 a0_5, .int .i64 a0_6]) (t := 29) ?hr ?_; (case hd => rfl); (case hg => rfl); (case hr => exact tG); intro gb208 hg w5 hbox hb; have BK208 := Sd.mk (hbox); have GW208 := Sd.mk (bSz hg (bBl HB.out)); have GE208 := Sd.mk (bSz hg (bBl HB.out)); replace HB := Sd.mk (below_step (bBl HB.out) hb); clear hb hbox hg; obtain ⟨u6_0, u6_1, u6_2, u6_3, u6_4, u6_5, u6_6, o6_0, o6_1, o6_2, o6_3, o6_4, o6_5, o6_6⟩ := bc7 (w := w5) BK208.out) | ((with_reducible refine gate_dst (N := 13) rfl ?_); refine Kd.R_make k27 _ 27 rfl (N := 13) rfl 24 _ _ rfl (l0_0.length : Int) rfl rfl Tryz.underlying24 (.agg #[(.int .i64 0), (.int .i64 0)]) 16 info27 rfl (by decide) (by omega) z27 (ok := fun _ => True) (okp := fun _ => True) (k27_mkM _ _ _ z27 ) (fun _ hk => hk) trivial (tB) (Nat.le_trans (Nat.mul_le_mul_right _ (tB : (l0_0.length : Int).toNat ≤ 17592186044416)) (by omega)) (Below.refl _ _) (Nat.le_refl _) ?_; intro v210 w7 ho8 hb hg_ hnew_; clear hg_ hnew_; (first | rw [← Ny209.out] at ho8 | (simp only [Int.reduceToNat] at ho8; rw [← Ny209.out] at ho8)); have HO211 := Sd.mk (Kd.R_lower ho8 (below_size (bBl HB.out))); replace BK208 := Sd.mk (blk_below (bkA BK208.out) hb); replace HB := Sd.mk (below_step (bBl HB.out) hb); clear hb ho8; obtain ⟨u9_0, u9_1, u9_2, u9_3, u9_4, u9_5, u9_6, o9_0, o9_1, o9_2, o9_3, o9_4, o9_5, o9_6⟩ := bc7 (w := w7) BK208.out))
   go_loopg [17] k (fun kq v17 w' => ∃ (x5_1 : List (S27)) (x17_1 : Int), v17 = .int .i64 x17_1 ∧ Sd (b_grams.l0 kq l1 x5_1 l0_1 (l0_1.length : Int) x17_1 = some r) ∧ Sd (kq ≤ k) ∧ Sd (Kd.R k27 27 w' w.heap.size (fun _ => True) v210 x5_1) ∧ Sd (w'.heap[gb208]? = some (.cells #[(.slice A0_0 l0_0.length c0_0), (.slice A0_1 l0_1.length c0_1), (.slice A0_2 l0_2.length c0_2), (.slice A0_3 l0_3.length c0_3), .int .i64 a0_4, .int .i64 a0_5, .int .i64 a0_6] 29 (0, 0))) ∧ Sd (Below w.heap.size w w'))
   case atStart => exact ⟨(y209), (0), tS, H', ⟨Nat.le_refl _⟩, ⟨by (with_reducible repeat (first | apply Kd.R_alloc | apply Kd.R_drewN | apply Kd.R_drew)); exact HO211.out⟩, ⟨bkA BK208.out⟩, ⟨bBl HB.out⟩⟩
   case round =>
    clear H'; (try clear c1); (try clear p2); (try clear c3); (try clear c3b0); (try clear c3b1); (try clear c4); (try clear c4b0); (try clear c4b1); (try clear u6_0 u6_1 u6_2 u6_3 u6_4 u6_5 u6_6); (try clear u9_0 u9_1 u9_2 u9_3 u9_4 u9_5 u9_6); (try clear o6_0 o6_1 o6_2 o6_3 o6_4 o6_5 o6_6); (try clear o9_0 o9_1 o9_2 o9_3 o9_4 o9_5 o9_6); obtain ⟨x5_1, x17_1, rfl, HA, HK1, HO_5, BK208, HB⟩ := hrel
    cases gk with
    | zero => exact absurd HA.out (by simp [b_grams.l0])
    | succ k1 =>
     have H := HA.out; clear HA
     simp only [b_grams.l0] at H
     by_cases c10 : x17_1 < (l0_1.length : Int)
     ·rw [if_pos c10] at H
      have c10b0 : decide (x17_1 < (l0_1.length : Int)) = true := decide_eq_true c10
      clear c10
      by_cases c11 : 0 ≤ x17_1
      ·rw [if_pos c11] at H
       have c11b0 : decide (0 ≤ x17_1) = true := decide_eq_true c11
       clear c11
       by_cases c12 : x17_1 < (l0_1.length : Int)
       ·rw [if_pos c12] at H
        have c12b0 : decide (x17_1 < (l0_1.length : Int)) = true := decide_eq_true c12
        clear c12; have H' := Sd.mk H; clear H
        have p212 : 0 ≤ (x17_1 : Int) := tB
        have q212 : x17_1 < (l0_1.length : Int) := tB
        obtain ⟨ad212, A212_6, c212_6, e212, hx212_0, hx212_1, hx212_2, hx212_3, hx212_4, hx212_5, hx212_6, hl212_6, hi212_6⟩ := at_T50 HR0_1.out x17_1 p212 q212; cases e212; replace hx212_0 := cU HB hx212_0; replace hx212_1 := cU HB hx212_1; replace hx212_2 := cU HB hx212_2; replace hx212_3 := cU HB hx212_3; replace hx212_4 := cU HB hx212_4; replace hx212_5 := cU HB hx212_5; replace hx212_6 := cU HB hx212_6; have HR212_6 := Sd.mk hi212_6; have HC212_6 := Sd.mk hl212_6; clear hi212_6 hl212_6; replace p212 := eq_true p212; replace q212 := eq_true q212
        go_wp2_with (first | ((with_reducible refine gate_dst (N := 7) rfl ?_); refine box_event ?hg (N := 7) ?hd (cs := #[.string (⟨#[]⟩ : ByteArray), .int .i64 0, .int .i64 0, .int .i64 0, .int .i64 0, .int .i64 0, .slice none 0 0]) (t := 50) ?hr ?_; (case hd => rfl); (case hg => rfl); (case hr => exact tG); intro gb213 hg w13 hbox hb; replace HO_5 := Sd.mk (Kd.R_below (by (with_reducible repeat (first | apply Kd.R_alloc | apply Kd.R_drewN | apply Kd.R_drew)); exact HO_5.out) hb); have BK213 := Sd.mk (hbox); have GW213 := Sd.mk (bSz hg (bBl HB.out)); have GE213 := Sd.mk (bSz hg (bBl HB.out)); replace HB := Sd.mk (below_step (bBl HB.out) hb); have NB208_213 := Sd.mk (bNl hg (bkA BK208.out)); have NB213_208 := Sd.mk (bNg hg (bkA BK208.out)); replace BK208 := Sd.mk (blk_below (bkA BK208.out) hb); clear hb hbox hg; have hnb14 := NB213_208.out; have hnc14 := NB208_213.out; obtain ⟨u15_0, u15_1, u15_2, u15_3, u15_4, u15_5, u15_6, o15_0, o15_1, o15_2, o15_3, o15_4, o15_5, o15_6⟩ := bc7 (w := w13) BK213.out))
        go_loopg [25] k1 (fun kq v25 w' => ∃ (x5_2 : List (S27)) (x25_2 : Int), v25 = .int .i64 x25_2 ∧ Sd (b_grams.l1 kq l1 x5_2 x17_1 l0_1 (l0_1.length : Int) x17_1 ((rd_T50 l0_1 x17_1).f6) (((rd_T50 l0_1 x17_1).f6).length : Int) x25_2 = some r) ∧ Sd (kq ≤ k1) ∧ Sd (Kd.R k27 27 w' w.heap.size (fun _ => True) v210 x5_2) ∧ Sd (w'.heap[gb208]? = some (.cells #[(.slice A0_0 l0_0.length c0_0), (.slice (some ad212) l0_1.length c0_1), (.slice A0_2 l0_2.length c0_2), (.slice A0_3 l0_3.length c0_3), .int .i64 a0_4, .int .i64 a0_5, .int .i64 a0_6] 29 (0, 0))) ∧ Sd (w'.heap[gb213]? = some (.cells #[.string ((rd_T50 l0_1 x17_1).f0), .int .i64 ((rd_T50 l0_1 x17_1).f1), .int .i64 ((rd_T50 l0_1 x17_1).f2), .int .i64 ((rd_T50 l0_1 x17_1).f3), .int .i64 ((rd_T50 l0_1 x17_1).f4), .int .i64 ((rd_T50 l0_1 x17_1).f5), (.slice A212_6 ((rd_T50 l0_1 x17_1).f6).length c212_6)] 50 (0, 0))) ∧ Sd (Below w.heap.size w w'))
        case atStart => exact ⟨(x5_1), (0), tS, H', ⟨Nat.le_refl _⟩, ⟨by (with_reducible repeat (first | apply Kd.R_alloc | apply Kd.R_drewN | apply Kd.R_drew)); exact Kd.R_mono (Kd.R_far (p := ⟨gb213, 6, none⟩) (Kd.R_far (p := ⟨gb213, 5, none⟩) (Kd.R_far (p := ⟨gb213, 4, none⟩) (Kd.R_far (p := ⟨gb213, 3, none⟩) (Kd.R_far (p := ⟨gb213, 2, none⟩) (Kd.R_far (p := ⟨gb213, 1, none⟩) (Kd.R_far (p := ⟨gb213, 0, none⟩) (Kd.R_types HO_5.out BK213.out (by decide)) (fun _ hk => hk.2) (.string ((rd_T50 l0_1 x17_1).f0))) (fun _ hk => hk.2) (.int .i64 ((rd_T50 l0_1 x17_1).f1))) (fun _ hk => hk.2) (.int .i64 ((rd_T50 l0_1 x17_1).f2))) (fun _ hk => hk.2) (.int .i64 ((rd_T50 l0_1 x17_1).f3))) (fun _ hk => hk.2) (.int .i64 ((rd_T50 l0_1 x17_1).f4))) (fun _ hk => hk.2) (.int .i64 ((rd_T50 l0_1 x17_1).f5))) (fun _ hk => hk.2) (.slice A212_6 ((rd_T50 l0_1 x17_1).f6).length c212_6)) (fun _ hk => trivial)⟩, ⟨by (with_reducible repeat (first | refine blk_drewN ?_ _ | refine blk_drew ?_ | refine blk_alloc ?_ _)); refine blk_far ?_ NB208_213.out _; (with_reducible repeat (first | refine blk_drewN ?_ _ | refine blk_drew ?_ | refine blk_alloc ?_ _)); refine blk_far ?_ NB208_213.out _; (with_reducible repeat (first | refine blk_drewN ?_ _ | refine blk_drew ?_ | refine blk_alloc ?_ _)); refine blk_far ?_ NB208_213.out _; (with_reducible repeat (first | refine blk_drewN ?_ _ | refine blk_drew ?_ | refine blk_alloc ?_ _)); refine blk_far ?_ NB208_213.out _; (with_reducible repeat (first | refine blk_drewN ?_ _ | refine blk_drew ?_ | refine blk_alloc ?_ _)); refine blk_far ?_ NB208_213.out _; (with_reducible repeat (first | refine blk_drewN ?_ _ | refine blk_drew ?_ | refine blk_alloc ?_ _)); refine blk_far ?_ NB208_213.out _; (with_reducible repeat (first | refine blk_drewN ?_ _ | refine blk_drew ?_ | refine blk_alloc ?_ _)); refine blk_far ?_ NB208_213.out _; (with_reducible repeat (first | refine blk_drewN ?_ _ | refine blk_drew ?_ | refine blk_alloc ?_ _)); exact BK208.out⟩, ⟨by (with_reducible repeat (first | refine blk_drewN ?_ _ | refine blk_drew ?_ | refine blk_alloc ?_ _)); refine blk_put (cs := #[.string ((rd_T50 l0_1 x17_1).f0), .int .i64 ((rd_T50 l0_1 x17_1).f1), .int .i64 ((rd_T50 l0_1 x17_1).f2), .int .i64 ((rd_T50 l0_1 x17_1).f3), .int .i64 ((rd_T50 l0_1 x17_1).f4), .int .i64 ((rd_T50 l0_1 x17_1).f5), .slice none 0 0]) ?_ 6 _ rfl; (with_reducible repeat (first | refine blk_drewN ?_ _ | refine blk_drew ?_ | refine blk_alloc ?_ _)); refine blk_put (cs := #[.string ((rd_T50 l0_1 x17_1).f0), .int .i64 ((rd_T50 l0_1 x17_1).f1), .int .i64 ((rd_T50 l0_1 x17_1).f2), .int .i64 ((rd_T50 l0_1 x17_1).f3), .int .i64 ((rd_T50 l0_1 x17_1).f4), .int .i64 0, .slice none 0 0]) ?_ 5 _ rfl; (with_reducible repeat (first | refine blk_drewN ?_ _ | refine blk_drew ?_ | refine blk_alloc ?_ _)); refine blk_put (cs := #[.string ((rd_T50 l0_1 x17_1).f0), .int .i64 ((rd_T50 l0_1 x17_1).f1), .int .i64 ((rd_T50 l0_1 x17_1).f2), .int .i64 ((rd_T50 l0_1 x17_1).f3), .int .i64 0, .int .i64 0, .slice none 0 0]) ?_ 4 _ rfl; (with_reducible repeat (first | refine blk_drewN ?_ _ | refine blk_drew ?_ | refine blk_alloc ?_ _)); refine blk_put (cs := #[.string ((rd_T50 l0_1 x17_1).f0), .int .i64 ((rd_T50 l0_1 x17_1).f1), .int .i64 ((rd_T50 l0_1 x17_1).f2), .int .i64 0, .int .i64 0, .int .i64 0, .slice none 0 0]) ?_ 3 _ rfl; (with_reducible repeat (first | refine blk_drewN ?_ _ | refine blk_drew ?_ | refine blk_alloc ?_ _)); refine blk_put (cs := #[.string ((rd_T50 l0_1 x17_1).f0), .int .i64 ((rd_T50 l0_1 x17_1).f1), .int .i64 0, .int .i64 0, .int .i64 0, .int .i64 0, .slice none 0 0]) ?_ 2 _ rfl; (with_reducible repeat (first | refine blk_drewN ?_ _ | refine blk_drew ?_ | refine blk_alloc ?_ _)); refine blk_put (cs := #[.string ((rd_T50 l0_1 x17_1).f0), .int .i64 0, .int .i64 0, .int .i64 0, .int .i64 0, .int .i64 0, .slice none 0 0]) ?_ 1 _ rfl; (with_reducible repeat (first | refine blk_drewN ?_ _ | refine blk_drew ?_ | refine blk_alloc ?_ _)); refine blk_put (cs := #[.string (⟨#[]⟩ : ByteArray), .int .i64 0, .int .i64 0, .int .i64 0, .int .i64 0, .int .i64 0, .slice none 0 0]) ?_ 0 _ rfl; (with_reducible repeat (first | refine blk_drewN ?_ _ | refine blk_drew ?_ | refine blk_alloc ?_ _)); exact BK213.out⟩, ⟨bBl HB.out⟩⟩
        case round =>
         clear H'; (try clear c1); (try clear c2); (try clear p2 p2); (try clear q2); (try clear hx2); (try clear c3); (try clear c3b0); (try clear c3b1); (try clear c4); (try clear c4b0); (try clear c4b1); (try clear c10); (try clear c10b0); (try clear c11); (try clear c11b0); (try clear c12); (try clear c12b0); (try clear c14); (try clear u15_0 u15_1 u15_2 u15_3 u15_4 u15_5 u15_6); (try clear u6_0 u6_1 u6_2 u6_3 u6_4 u6_5 u6_6); (try clear u9_0 u9_1 u9_2 u9_3 u9_4 u9_5 u9_6); (try clear o15_0 o15_1 o15_2 o15_3 o15_4 o15_5 o15_6); (try clear o6_0 o6_1 o6_2 o6_3 o6_4 o6_5 o6_6); (try clear o9_0 o9_1 o9_2 o9_3 o9_4 o9_5 o9_6); (try clear hx212_0); (try clear hx212_1); (try clear hx212_2); (try clear hx212_3); (try clear hx212_4); (try clear hx212_5); (try clear hx212_6); (try clear p212); (try clear q212); obtain ⟨x5_2, x25_2, rfl, HA, HK2, HO_5, BK208, BK213, HB⟩ := hrel
         cases gk with
         | zero => exact absurd HA.out (by simp [b_grams.l1])
         | succ k2 =>
          have H := HA.out; clear HA
          simp only [b_grams.l1] at H
          by_cases c16 : x25_2 < (((rd_T50 l0_1 x17_1).f6).length : Int)
          ·rw [if_pos c16] at H
           have c16b0 : decide (x25_2 < (((rd_T50 l0_1 x17_1).f6).length : Int)) = true := decide_eq_true c16
           clear c16
           by_cases c17 : 0 ≤ x25_2
           ·rw [if_pos c17] at H
            have c17b0 : decide (0 ≤ x25_2) = true := decide_eq_true c17
            clear c17
            by_cases c18 : x25_2 < (((rd_T50 l0_1 x17_1).f6).length : Int)
            ·rw [if_pos c18] at H
             have c18b0 : decide (x25_2 < (((rd_T50 l0_1 x17_1).f6).length : Int)) = true := decide_eq_true c18
             clear c18
             by_cases c19 : x25_2 < (x5_2.length : Int)
             ·rw [if_pos c19] at H
              have c19b0 : decide (x25_2 < (x5_2.length : Int)) = true := decide_eq_true c19
              clear c19
              by_cases c20 : 0 ≤ x17_1
              ·rw [if_pos c20] at H
               have c20b0 : decide (0 ≤ x17_1) = true := decide_eq_true c20
               clear c20
               by_cases c21 : x17_1 < (l1.length : Int)
               ·rw [if_pos c21] at H
                have c21b0 : decide (x17_1 < (l1.length : Int)) = true := decide_eq_true c21
                clear c21
                obtain ⟨y218, hy218⟩ : ∃ y_ : List (S27), y_ = (x5_2.set (x25_2 : Int).toNat (⟨wrap64 (((rd_T27 x5_2 x25_2).f0) + (wrap64 ((rd l1 x17_1) * ((rd_T27 ((rd_T50 l0_1 x17_1).f6) x25_2).f0)))), (rd_T27 x5_2 x25_2).f1⟩ : S27)) := ⟨_, rfl⟩
                replace H : (b_grams.l1 k2 l1 (y218.set (x25_2 : Int).toNat (⟨(rd_T27 y218 x25_2).f0, wrap64 (((rd_T27 y218 x25_2).f1) + (wrap64 ((rd l1 x17_1) * ((rd_T27 ((rd_T50 l0_1 x17_1).f6) x25_2).f1))))⟩ : S27)) x17_1 l0_1 (l0_1.length : Int) x17_1 ((rd_T50 l0_1 x17_1).f6) (((rd_T50 l0_1 x17_1).f6).length : Int) (wrap64 (x25_2 + 1))) = some r := by first | (rw [hy218]; with_reducible exact H) | (have H2_ := (Option.bind_some _ _).symm.trans H; rw [hy218]; with_reducible exact H2_) | (have H2_ := (Option.bind_some _ _).symm.trans H; with_reducible exact H2_) | with_reducible exact H | (rw [hy218]; exact H) | exact H
                have Ny218 := Sd.mk hy218; clear hy218
                obtain ⟨y221, hy221⟩ : ∃ y_ : List (S27), y_ = (y218.set (x25_2 : Int).toNat (⟨(rd_T27 y218 x25_2).f0, wrap64 (((rd_T27 y218 x25_2).f1) + (wrap64 ((rd l1 x17_1) * ((rd_T27 ((rd_T50 l0_1 x17_1).f6) x25_2).f1))))⟩ : S27)) := ⟨_, rfl⟩
                replace H : (b_grams.l1 k2 l1 y221 x17_1 l0_1 (l0_1.length : Int) x17_1 ((rd_T50 l0_1 x17_1).f6) (((rd_T50 l0_1 x17_1).f6).length : Int) (wrap64 (x25_2 + 1))) = some r := by first | (rw [hy221]; with_reducible exact H) | (have H2_ := (Option.bind_some _ _).symm.trans H; rw [hy221]; with_reducible exact H2_) | (have H2_ := (Option.bind_some _ _).symm.trans H; with_reducible exact H2_) | with_reducible exact H | (rw [hy221]; exact H) | exact H
                have Ny221 := Sd.mk hy221; clear hy221; have H' := Sd.mk H; clear H
                have p214 : 0 ≤ (x25_2 : Int) := tB
                have q214 : x25_2 < (((rd_T50 l0_1 x17_1).f6).length : Int) := tB
                obtain ⟨ad214, e214, hx214_0, hx214_1⟩ := at_T27 HR212_6.out x25_2 p214 q214; cases e214; replace hx214_0 := cU HB hx214_0; replace hx214_1 := cU HB hx214_1; replace p214 := eq_true p214; replace q214 := eq_true q214
                try go_wp2_with (first | ((with_reducible refine gate_dst (N := 9) rfl ?_); refine box_event ?hg (N := 9) ?hd (cs := #[.int .i64 0, .int .i64 0]) (t := 27) ?hr ?_; (case hd => rfl); (case hg => rfl); (case hr => exact tG); intro gb215 hg w24 hbox hb; replace HO_5 := Sd.mk (Kd.R_below (Kd.R_elderB (by (with_reducible repeat (first | apply Kd.R_alloc | apply Kd.R_drewN | apply Kd.R_drew)); exact HO_5.out) gb215 (Nat.le_of_eq hg.symm)) hb); have BK215 := Sd.mk (hbox); have GW215 := Sd.mk (bSz hg (bBl HB.out)); have GE215 := Sd.mk (bSz hg (bBl HB.out)); replace HB := Sd.mk (below_step (bBl HB.out) hb); have NB208_215 := Sd.mk (bNl hg (bkA BK208.out)); have NB215_208 := Sd.mk (bNg hg (bkA BK208.out)); replace BK208 := Sd.mk (blk_below (bkA BK208.out) hb); have NB213_215 := Sd.mk (bNl hg (bkA BK213.out)); have NB215_213 := Sd.mk (bNg hg (bkA BK213.out)); replace BK213 := Sd.mk (blk_below (bkA BK213.out) hb); clear hb hbox hg; have hnb25 := NB215_208.out; have hnc25 := NB208_215.out; have hnb26 := NB215_213.out; have hnc26 := NB213_215.out; obtain ⟨u27_0, u27_1, o27_0, o27_1⟩ := bc2 (w := w24) BK215.out))
                have n0_ : Sd (Kd.R k27 27 ((w24.setCell ⟨gb215, 0, none⟩ (.int .i64 ((rd_T27 ((rd_T50 l0_1 x17_1).f6) x25_2).f0))).setCell ⟨gb215, 1, none⟩ (.int .i64 ((rd_T27 ((rd_T50 l0_1 x17_1).f6) x25_2).f1))) w.heap.size (fun k_ => k_ ≠ gb215) v210 x5_2) := ⟨by (with_reducible repeat (first | apply Kd.R_alloc | apply Kd.R_drewN | apply Kd.R_drew)); exact Kd.R_mono (Kd.R_far (p := ⟨gb215, 1, none⟩) (Kd.R_far (p := ⟨gb215, 0, none⟩) (Kd.R_mono HO_5.out (fun k_ hk => (⟨hk, hk.2⟩ : _ ∧ k_ ≠ gb215))) (fun _ hk => hk.2) (.int .i64 ((rd_T27 ((rd_T50 l0_1 x17_1).f6) x25_2).f0))) (fun _ hk => hk.2) (.int .i64 ((rd_T27 ((rd_T50 l0_1 x17_1).f6) x25_2).f1))) (fun _ hk => hk.1.2)⟩
                have n1_ : Sd (((w24.setCell ⟨gb215, 0, none⟩ (.int .i64 ((rd_T27 ((rd_T50 l0_1 x17_1).f6) x25_2).f0))).setCell ⟨gb215, 1, none⟩ (.int .i64 ((rd_T27 ((rd_T50 l0_1 x17_1).f6) x25_2).f1))).heap[gb208]? = some (.cells #[.slice A0_0 l0_0.length c0_0, .slice (some ad212) l0_1.length c0_1, .slice A0_2 l0_2.length c0_2, .slice A0_3 l0_3.length c0_3, .int .i64 a0_4, .int .i64 a0_5, .int .i64 a0_6] 29 (0, 0))) := ⟨by (with_reducible repeat (first | refine blk_drewN ?_ _ | refine blk_drew ?_ | refine blk_alloc ?_ _)); refine blk_far ?_ NB208_215.out _; (with_reducible repeat (first | refine blk_drewN ?_ _ | refine blk_drew ?_ | refine blk_alloc ?_ _)); refine blk_far ?_ NB208_215.out _; (with_reducible repeat (first | refine blk_drewN ?_ _ | refine blk_drew ?_ | refine blk_alloc ?_ _)); exact BK208.out⟩
                have n2_ : Sd (((w24.setCell ⟨gb215, 0, none⟩ (.int .i64 ((rd_T27 ((rd_T50 l0_1 x17_1).f6) x25_2).f0))).setCell ⟨gb215, 1, none⟩ (.int .i64 ((rd_T27 ((rd_T50 l0_1 x17_1).f6) x25_2).f1))).heap[gb213]? = some (.cells #[.string ((rd_T50 l0_1 x17_1).f0), .int .i64 ((rd_T50 l0_1 x17_1).f1), .int .i64 ((rd_T50 l0_1 x17_1).f2), .int .i64 ((rd_T50 l0_1 x17_1).f3), .int .i64 ((rd_T50 l0_1 x17_1).f4), .int .i64 ((rd_T50 l0_1 x17_1).f5), .slice (some ad214) ((rd_T50 l0_1 x17_1).f6).length c212_6] 50 (0, 0))) := ⟨by (with_reducible repeat (first | refine blk_drewN ?_ _ | refine blk_drew ?_ | refine blk_alloc ?_ _)); refine blk_far ?_ NB213_215.out _; (with_reducible repeat (first | refine blk_drewN ?_ _ | refine blk_drew ?_ | refine blk_alloc ?_ _)); refine blk_far ?_ NB213_215.out _; (with_reducible repeat (first | refine blk_drewN ?_ _ | refine blk_drew ?_ | refine blk_alloc ?_ _)); exact BK213.out⟩
                have n3_ : Sd (((w24.setCell ⟨gb215, 0, none⟩ (.int .i64 ((rd_T27 ((rd_T50 l0_1 x17_1).f6) x25_2).f0))).setCell ⟨gb215, 1, none⟩ (.int .i64 ((rd_T27 ((rd_T50 l0_1 x17_1).f6) x25_2).f1))).heap[gb215]? = some (.cells #[.int .i64 ((rd_T27 ((rd_T50 l0_1 x17_1).f6) x25_2).f0), .int .i64 ((rd_T27 ((rd_T50 l0_1 x17_1).f6) x25_2).f1)] 27 (0, 0))) := ⟨by (with_reducible repeat (first | refine blk_drewN ?_ _ | refine blk_drew ?_ | refine blk_alloc ?_ _)); refine blk_put (cs := #[.int .i64 ((rd_T27 ((rd_T50 l0_1 x17_1).f6) x25_2).f0), .int .i64 0]) ?_ 1 _ rfl; (with_reducible repeat (first | refine blk_drewN ?_ _ | refine blk_drew ?_ | refine blk_alloc ?_ _)); refine blk_put (cs := #[.int .i64 0, .int .i64 0]) ?_ 0 _ rfl; (with_reducible repeat (first | refine blk_drewN ?_ _ | refine blk_drew ?_ | refine blk_alloc ?_ _)); exact BK215.out⟩
                have n4_ : Sd (Below w.heap.size w ((w24.setCell ⟨gb215, 0, none⟩ (.int .i64 ((rd_T27 ((rd_T50 l0_1 x17_1).f6) x25_2).f0))).setCell ⟨gb215, 1, none⟩ (.int .i64 ((rd_T27 ((rd_T50 l0_1 x17_1).f6) x25_2).f1)))) := ⟨bBl HB.out⟩
                (try clear HO_5)
                (try clear BK208)
                (try clear BK213)
                (try clear BK215)
                (try clear HB)
                generalize ((w24.setCell ⟨gb215, 0, none⟩ (.int .i64 ((rd_T27 ((rd_T50 l0_1 x17_1).f6) x25_2).f0))).setCell ⟨gb215, 1, none⟩ (.int .i64 ((rd_T27 ((rd_T50 l0_1 x17_1).f6) x25_2).f1))) = w28 at n0_ n1_ n2_ n3_ n4_ ⊢
                have HO_5 := n0_; have BK208 := n1_; have BK213 := n2_; have BK215 := n3_; have HB := n4_; clear n0_ n1_ n2_ n3_ n4_; replace HO_5 := Sd.mk (Kd.R_drew HO_5.out); replace BK208 := Sd.mk (blk_drew BK208.out); replace BK213 := Sd.mk (blk_drew BK213.out); replace BK215 := Sd.mk (blk_drew BK215.out); replace HB := Sd.mk (below_drew1 HB.out); obtain ⟨Ao30, co30, eo30⟩ := Kd.R_slice HO_5.out
                (first | subst eo30 | (injection eo30 with f1_ f2_ f3_; have f4_ := f1_.symm; have f5_ := f3_.symm; clear f1_ f2_ f3_; subst f4_; subst f5_))
                have p216 : 0 ≤ (x25_2 : Int) := tB
                have q216 : x25_2 < (x5_2.length : Int) := tB
                obtain ⟨ad216, e216, hx216_0, hx216_1⟩ := at_T27 (Kd.R_reads' HO_5.out).2.2 x25_2 p216 q216; cases e216; replace p216 := eq_true p216; replace q216 := eq_true q216
                have p217 : 0 ≤ (x17_1 : Int) := tB
                have q217 : x17_1 < (l1.length : Int) := tB
                obtain ⟨ad217, e217, hx217_0⟩ := Kd.at_int HR1.out x17_1 p217 q217; have hw217_0 := hx217_0; cases e217; replace hx217_0 := cU HB hx217_0; replace p217 := eq_true p217; replace q217 := eq_true q217
                have p22 : 0 ≤ (x25_2 : Int) := tB
                have q22 : (x25_2 : Int) < ((x5_2.length : Int) : Int) := tB
                obtain ⟨go22, co22, eo22, gb22, gl22, cl22, HG22⟩ := Kd.R_form HO_5.out (by omega)
                (first | cases eo22 | (injection eo22 with ea_ en_ ec_; (first | subst ea_ | (injection ea_ with ea_; subst ea_)); subst ec_; clear en_))
                have GB22 := Sd.mk gb22; have GG22 := Sd.mk HG22; clear gb22 gl22 HG22
                (first | simp only [add_plain] at hx216_0 | skip)
                (first | simp only [add_plain] at hx216_1 | skip)
                obtain ⟨ce22, hcl22, hM22, hcc22, hfr22⟩ := Kd.R_elem HO_5.out z27 (x25_2 : Int) p22 q22; obtain rfl := k27_openM hM22
                have hx22_0 : World.cell? _ ⟨go22, (x25_2 : Int).toNat * 2, none⟩ = some (.int .i64 ((rd_T27 x5_2 x25_2).f0)) := hcc22 0 _ rfl
                have hx22_1 : World.cell? _ ⟨go22, (x25_2 : Int).toNat * 2 + 1, none⟩ = some (.int .i64 ((rd_T27 x5_2 x25_2).f1)) := hcc22 1 _ rfl
                have hf22_0 : World.frozen? _ ⟨go22, (x25_2 : Int).toNat * 2, none⟩ = false := hfr22 0
                have hf22_1 : World.frozen? _ ⟨go22, (x25_2 : Int).toNat * 2 + 1, none⟩ = false := hfr22 1
                clear hcl22 hcc22 hfr22 hM22; replace p22 := eq_true p22; replace q22 := eq_true q22
                obtain ⟨ce31, hcl31, hM31, hcc31, hfr31⟩ := Kd.R_elem HO_5.out z27 (x25_2 : Int) (tB) (by have h_ : (x25_2 : Int) < ((x5_2.length : Int) : Int) := tB; first | exact h_ | (have e_ := (Kd.R_reads' HO_5.out).1; omega) | simpa using h_)
                obtain rfl := k27_openM hM31
                have HP31 := (Kd.R_seg HO_5.out (x25_2 : Int) (tB) (by have h_ : (x25_2 : Int) < ((x5_2.length : Int) : Int) := tB; first | exact h_ | (have e_ := (Kd.R_reads' HO_5.out).1; omega) | simpa using h_) (seg := [.int .i64 (wrap64 (((rd_T27 x5_2 x25_2).f0) + (wrap64 ((rd l1 x17_1) * ((rd_T27 ((rd_T50 l0_1 x17_1).f6) x25_2).f0)))))]) (j := 0) hcl31 hcc31 (show 1 ≤ 2 from by decide) (x' := (⟨wrap64 (((rd_T27 x5_2 x25_2).f0) + (wrap64 ((rd l1 x17_1) * ((rd_T27 ((rd_T50 l0_1 x17_1).f6) x25_2).f0)))), (rd_T27 x5_2 x25_2).f1⟩ : S27)) (k27_mkM _ _ _ (⟨wrap64 (((rd_T27 x5_2 x25_2).f0) + (wrap64 ((rd l1 x17_1) * ((rd_T27 ((rd_T50 l0_1 x17_1).f6) x25_2).f0)))), (rd_T27 x5_2 x25_2).f1⟩ : S27) ) (fun _ hk => hk)).1
                rw [← Ny218.out] at HP31
                have HQ31 := Sd.mk HP31; clear hcl31 hcc31 hfr31 hM31 HP31
                refine start_ (n := 16) (S := fun w' => w'.cell? ⟨gb215, 0, none⟩ = some (.int .i64 ((rd_T27 ((rd_T50 l0_1 x17_1).f6) x25_2).f0)) ∧ w'.cell? ⟨gb215, 1, none⟩ = some (.int .i64 ((rd_T27 ((rd_T50 l0_1 x17_1).f6) x25_2).f1)) ∧ w'.cell? ⟨go22, ((x25_2).toNat * 2), none⟩ = some (.int .i64 ((rd_T27 x5_2 x25_2).f0)) ∧ w'.cell? ⟨go22, ((x25_2).toNat * 2) + 1, none⟩ = some (.int .i64 ((rd_T27 x5_2 x25_2).f1)) ∧ w'.cell? (ad217.add (x17_1).toNat) = some (.int .i64 (rd l1 x17_1))) (ds := [15]) #[false, false, false, false, false, false, false, false, false, false, false, false, false, false, false, false] (by kernel_rfl) rfl rfl ⟨(blk_cell BK215.out 0).trans rfl, (blk_cell BK215.out 1).trans rfl, hx216_0, hx216_1, ((HB.out.cell (World.block_lt_of_cell? w _ hw217_0)).trans hw217_0)⟩ (fun hHeld => ?_); refine with_tabW b_grams.tab8 b_grams.bits8 (fun HT_ HW_ => ?_)
                generalize w28.drew = w29 at HO_5 BK208 BK213 BK215 HB GG22 HQ31 hf22_0 hf22_1 hx216_0 hx216_1 hx217_0 hx22_0 hx22_1 hHeld ⊢
                refine pure_ (i := 0) (N := some 30) (v := ?_) (a' := ?_) #[true, false, false, false, false, false, false, false, false, false, false, false, false, false, false, false] rfl rfl (any_of HT_.out (by kernel_rfl)) (fun _ _ _ h => h) (Or.inl ⟨by rfl, ?_⟩) ?_ ?_
                rotate_left
                ·exact tW
                rotate_left
                ·exact tP
                refine pure_ (i := 1) (N := some 31) (v := ?_) (a' := ?_) #[true, true, false, false, false, false, false, false, false, false, false, false, false, false, false, false] rfl rfl (any_of HT_.out (by kernel_rfl)) (fun _ _ _ h => h) (Or.inl ⟨by rfl, ?_⟩) ?_ ?_
                rotate_left
                ·exact tW
                rotate_left
                ·exact tP
                refine pure_ (i := 2) (N := some 32) (v := ?_) (a' := ?_) #[true, true, true, false, false, false, false, false, false, false, false, false, false, false, false, false] rfl rfl (any_of HT_.out (by kernel_rfl)) (fun _ _ _ h => h) (Or.inl ⟨by rfl, ?_⟩) ?_ ?_
                rotate_left
                ·exact tW
                rotate_left
                ·exact tP
                refine pure_ (i := 3) (N := some 33) (v := ?_) (a' := ?_) #[true, true, true, true, false, false, false, false, false, false, false, false, false, false, false, false] rfl rfl (any_of HT_.out (by kernel_rfl)) (fun _ _ _ h => h) (Or.inl ⟨by rfl, ?_⟩) ?_ ?_
                rotate_left
                ·exact tW
                rotate_left
                ·exact tP
                refine pure_ (i := 5) (N := some 35) (v := ?_) (a' := ?_) #[true, true, true, true, false, true, false, false, false, false, false, false, false, false, false, false] rfl rfl (any_of HT_.out (by kernel_rfl)) (fun _ _ _ h => h) (Or.inl ⟨by rfl, ?_⟩) ?_ ?_
                rotate_left
                ·exact tW
                rotate_left
                ·exact tP
                refine pure_ (i := 6) (N := some 36) (v := ?_) (a' := ?_) #[true, true, true, true, false, true, true, false, false, false, false, false, false, false, false, false] rfl rfl (any_of HT_.out (by kernel_rfl)) (fun _ _ _ h => h) (Or.inl ⟨by rfl, ?_⟩) ?_ ?_
                rotate_left
                ·exact tW
                rotate_left
                ·exact tP
                refine pure_ (i := 7) (N := some 37) (v := ?_) (a' := ?_) #[true, true, true, true, false, true, true, true, false, false, false, false, false, false, false, false] rfl rfl (any_of HT_.out (by kernel_rfl)) (fun _ _ _ h => h) (Or.inl ⟨by rfl, ?_⟩) ?_ ?_
                rotate_left
                ·exact tW
                rotate_left
                ·exact tP
                refine pure_ (i := 9) (N := some 39) (v := ?_) (a' := ?_) #[true, true, true, true, false, true, true, true, false, true, false, false, false, false, false, false] rfl rfl (any_of HT_.out (by kernel_rfl)) (fun _ _ _ h => h) (Or.inl ⟨by rfl, ?_⟩) ?_ ?_
                rotate_left
                ·exact tW
                rotate_left
                ·exact tP
                refine take_ (i := 4) (N := some 34) (v := ?_) (a' := ?_) #[true, true, true, true, true, true, true, true, false, true, false, false, false, false, false, false] rfl rfl (take_ofW HT_.out HW_.out (by kernel_rfl)) (fun _ _ _ h => h) (Or.inl ⟨by rfl, ?_⟩) hHeld ?_ ?_
                rotate_left
                ·rintro w' ⟨s0, s1, s2, s3, s4⟩
                 go_simp
                 with_reducible rfl
                rotate_left
                ·exact tP
                refine take_ (i := 8) (N := some 38) (v := ?_) (a' := ?_) #[true, true, true, true, true, true, true, true, true, true, false, false, false, false, false, false] rfl rfl (take_ofW HT_.out HW_.out (by kernel_rfl)) (fun _ _ _ h => h) (Or.inl ⟨by rfl, ?_⟩) hHeld ?_ ?_
                rotate_left
                ·rintro w' ⟨s0, s1, s2, s3, s4⟩
                 go_simp
                 with_reducible rfl
                rotate_left
                ·exact tP
                refine take_ (i := 10) (N := some 40) (v := ?_) (a' := ?_) #[true, true, true, true, true, true, true, true, true, true, true, false, false, false, false, false] rfl rfl (take_ofW HT_.out HW_.out (by kernel_rfl)) (fun _ _ _ h => h) (Or.inl ⟨by rfl, ?_⟩) hHeld ?_ ?_
                rotate_left
                ·rintro w' ⟨s0, s1, s2, s3, s4⟩
                 go_simp
                 with_reducible rfl
                rotate_left
                ·exact tP
                refine pure_ (i := 11) (N := some 41) (v := ?_) (a' := ?_) #[true, true, true, true, true, true, true, true, true, true, true, true, false, false, false, false] rfl rfl (any_of HT_.out (by kernel_rfl)) (fun _ _ _ h => h) (Or.inl ⟨by rfl, ?_⟩) ?_ ?_
                rotate_left
                ·exact tW
                rotate_left
                ·exact tP
                refine pure_ (i := 12) (N := some 42) (v := ?_) (a' := ?_) #[true, true, true, true, true, true, true, true, true, true, true, true, true, false, false, false] rfl rfl (any_of HT_.out (by kernel_rfl)) (fun _ _ _ h => h) (Or.inl ⟨by rfl, ?_⟩) ?_ ?_
                rotate_left
                ·exact tW
                rotate_left
                ·exact tP
                refine pure_ (i := 13) (N := some 43) (v := ?_) (a' := ?_) #[true, true, true, true, true, true, true, true, true, true, true, true, true, true, false, false] rfl rfl (any_of HT_.out (by kernel_rfl)) (fun _ _ _ h => h) (Or.inl ⟨by rfl, ?_⟩) ?_ ?_
                rotate_left
                ·exact tW
                rotate_left
                ·exact tP
                refine pure_ (i := 14) (N := some 44) (v := ?_) (a' := ?_) #[true, true, true, true, true, true, true, true, true, true, true, true, true, true, true, false] rfl rfl (any_of HT_.out (by kernel_rfl)) (fun _ _ _ h => h) (Or.inl ⟨by rfl, ?_⟩) ?_ ?_
                rotate_left
                ·exact tW
                rotate_left
                ·exact tP
                refine last_ (i := 15) (N := none) #[true, true, true, true, true, true, true, true, true, true, true, true, true, true, true, true] rfl rfl (one_of HT_.out (by kernel_rfl)) (by decide) (fun K hK => ?_)
                refine skip_ (w1 := ?_) (by rfl) rfl ?_ ?_
                rotate_left
                ·go_simp
                 rfl
                refine hK.out _ _ ?_
                clear hK K
                refine done_ (done_of HT_.out (by kernel_rfl)) ?_
                try go_wp2
                have n0_ : Sd (Kd.R k27 27 (w29.setCell ⟨go22, (x25_2 : Int).toNat * 2, none⟩ (.int .i64 (wrap64 (((rd_T27 x5_2 x25_2).f0) + (wrap64 ((rd l1 x17_1) * ((rd_T27 ((rd_T50 l0_1 x17_1).f6) x25_2).f0))))))) w.heap.size (fun k_ => k_ ≠ gb215) (.slice (some ⟨go22, 0, none⟩) x5_2.length co30) y218) := ⟨by (with_reducible repeat (first | apply Kd.R_alloc | apply Kd.R_drewN | apply Kd.R_drew)); exact HQ31.out⟩
                have n1_ : Sd ((w29.setCell ⟨go22, (x25_2 : Int).toNat * 2, none⟩ (.int .i64 (wrap64 (((rd_T27 x5_2 x25_2).f0) + (wrap64 ((rd l1 x17_1) * ((rd_T27 ((rd_T50 l0_1 x17_1).f6) x25_2).f0))))))).heap[gb208]? = some (.cells #[.slice A0_0 l0_0.length c0_0, .slice (some ad212) l0_1.length c0_1, .slice A0_2 l0_2.length c0_2, .slice A0_3 l0_3.length c0_3, .int .i64 a0_4, .int .i64 a0_5, .int .i64 a0_6] 29 (0, 0))) := ⟨by (with_reducible repeat (first | refine blk_drewN ?_ _ | refine blk_drew ?_ | refine blk_alloc ?_ _)); refine blk_far ?_ (by have h_ := Kd.R_ne HO_5.out BK208.out (by decide); intro e_; exact h_ (by rw [e_]; rfl)) _; (with_reducible repeat (first | refine blk_drewN ?_ _ | refine blk_drew ?_ | refine blk_alloc ?_ _)); exact BK208.out⟩
                have n2_ : Sd ((w29.setCell ⟨go22, (x25_2 : Int).toNat * 2, none⟩ (.int .i64 (wrap64 (((rd_T27 x5_2 x25_2).f0) + (wrap64 ((rd l1 x17_1) * ((rd_T27 ((rd_T50 l0_1 x17_1).f6) x25_2).f0))))))).heap[gb213]? = some (.cells #[.string ((rd_T50 l0_1 x17_1).f0), .int .i64 ((rd_T50 l0_1 x17_1).f1), .int .i64 ((rd_T50 l0_1 x17_1).f2), .int .i64 ((rd_T50 l0_1 x17_1).f3), .int .i64 ((rd_T50 l0_1 x17_1).f4), .int .i64 ((rd_T50 l0_1 x17_1).f5), .slice (some ad214) ((rd_T50 l0_1 x17_1).f6).length c212_6] 50 (0, 0))) := ⟨by (with_reducible repeat (first | refine blk_drewN ?_ _ | refine blk_drew ?_ | refine blk_alloc ?_ _)); refine blk_far ?_ (by have h_ := Kd.R_ne HO_5.out BK213.out (by decide); intro e_; exact h_ (by rw [e_]; rfl)) _; (with_reducible repeat (first | refine blk_drewN ?_ _ | refine blk_drew ?_ | refine blk_alloc ?_ _)); exact BK213.out⟩
                have n3_ : Sd ((w29.setCell ⟨go22, (x25_2 : Int).toNat * 2, none⟩ (.int .i64 (wrap64 (((rd_T27 x5_2 x25_2).f0) + (wrap64 ((rd l1 x17_1) * ((rd_T27 ((rd_T50 l0_1 x17_1).f6) x25_2).f0))))))).heap[gb215]? = some (.cells #[.int .i64 ((rd_T27 ((rd_T50 l0_1 x17_1).f6) x25_2).f0), .int .i64 ((rd_T27 ((rd_T50 l0_1 x17_1).f6) x25_2).f1)] 27 (0, 0))) := ⟨by (with_reducible repeat (first | refine blk_drewN ?_ _ | refine blk_drew ?_ | refine blk_alloc ?_ _)); refine blk_far ?_ (by have h_ := Kd.R_away HO_5.out (fun _ hk => hk); intro e_; exact h_ (by rw [e_]; rfl)) _; (with_reducible repeat (first | refine blk_drewN ?_ _ | refine blk_drew ?_ | refine blk_alloc ?_ _)); exact BK215.out⟩
                have n4_ : Sd (Below w.heap.size w (w29.setCell ⟨go22, (x25_2 : Int).toNat * 2, none⟩ (.int .i64 (wrap64 (((rd_T27 x5_2 x25_2).f0) + (wrap64 ((rd l1 x17_1) * ((rd_T27 ((rd_T50 l0_1 x17_1).f6) x25_2).f0)))))))) := ⟨bBl HB.out⟩
                (try clear HO_5)
                (try clear BK208)
                (try clear BK213)
                (try clear BK215)
                (try clear HB)
                generalize (w29.setCell ⟨go22, (x25_2 : Int).toNat * 2, none⟩ (.int .i64 (wrap64 (((rd_T27 x5_2 x25_2).f0) + (wrap64 ((rd l1 x17_1) * ((rd_T27 ((rd_T50 l0_1 x17_1).f6) x25_2).f0))))))) = w32 at n0_ n1_ n2_ n3_ n4_ ⊢
                have HO_5 := n0_; have BK208 := n1_; have BK213 := n2_; have BK215 := n3_; have HB := n4_; clear n0_ n1_ n2_ n3_ n4_; replace HO_5 := Sd.mk (Kd.R_drew HO_5.out); replace BK208 := Sd.mk (blk_drew BK208.out); replace BK213 := Sd.mk (blk_drew BK213.out); replace BK215 := Sd.mk (blk_drew BK215.out); replace HB := Sd.mk (below_drew1 HB.out)
                have p219 : 0 ≤ (x25_2 : Int) := tB
                have q219 : x25_2 < (y218.length : Int) := (by have h_ : (x25_2 : Int) < ((x5_2.length : Int) : Int) := tB; first | (have e_ := (Kd.R_reads' HO_5.out).1; omega) | simpa only [Ny218.out, List.length_set] using h_)
                have ql219 : ((x25_2 : Int) < ((x5_2.length : Int) : Int)) = True := eq_true (tB)
                obtain ⟨ad219, e219, hx219_0, hx219_1⟩ := at_T27 (Kd.R_reads' HO_5.out).2.2 x25_2 p219 q219
                obtain rfl : (⟨go22, 0, none⟩ : Addr) = ad219 := (by injection e219)
                (first | simp only [add_plain] at hx219_0 | simp only [add_at] at hx219_0 | simp only [Addr.add, Nat.zero_add] at hx219_0 | skip)
                (first | simp only [add_plain] at hx219_1 | simp only [add_at] at hx219_1 | simp only [Addr.add, Nat.zero_add] at hx219_1 | skip)
                replace p219 := eq_true p219; replace q219 := eq_true q219
                have p220 : 0 ≤ (x17_1 : Int) := tB
                have q220 : x17_1 < (l1.length : Int) := tB
                obtain ⟨ad220, e220, hx220_0⟩ := Kd.at_int HR1.out x17_1 p220 q220; have hw220_0 := hx220_0
                obtain rfl : ad217 = ad220 := (by injection e220)
                replace hx220_0 := cU HB hx220_0; replace p220 := eq_true p220; replace q220 := eq_true q220
                have p23 : 0 ≤ (x25_2 : Int) := tB
                have q23 : (x25_2 : Int) < ((x5_2.length : Int) : Int) := tB
                obtain ⟨ce23, hcl23, hM23, hcc23, hfr23⟩ := Kd.R_elem HO_5.out z27 (x25_2 : Int) p23 q23; obtain rfl := k27_openM hM23
                have hx23_0 : World.cell? _ ⟨go22, (x25_2 : Int).toNat * 2, none⟩ = some (.int .i64 ((rd_T27 y218 x25_2).f0)) := hcc23 0 _ rfl
                have hx23_1 : World.cell? _ ⟨go22, (x25_2 : Int).toNat * 2 + 1, none⟩ = some (.int .i64 ((rd_T27 y218 x25_2).f1)) := hcc23 1 _ rfl
                have hf23_0 : World.frozen? _ ⟨go22, (x25_2 : Int).toNat * 2, none⟩ = false := hfr23 0
                have hf23_1 : World.frozen? _ ⟨go22, (x25_2 : Int).toNat * 2 + 1, none⟩ = false := hfr23 1
                clear hcl23 hcc23 hfr23 hM23; replace p23 := eq_true p23; replace q23 := eq_true q23
                obtain ⟨ce34, hcl34, hM34, hcc34, hfr34⟩ := Kd.R_elem HO_5.out z27 (x25_2 : Int) (tB) (by have h_ : (x25_2 : Int) < ((x5_2.length : Int) : Int) := tB; first | exact h_ | (have e_ := (Kd.R_reads' HO_5.out).1; omega) | simpa using h_)
                obtain rfl := k27_openM hM34
                have HP34 := (Kd.R_seg HO_5.out (x25_2 : Int) (tB) (by have h_ : (x25_2 : Int) < ((x5_2.length : Int) : Int) := tB; first | exact h_ | (have e_ := (Kd.R_reads' HO_5.out).1; omega) | simpa using h_) (seg := [.int .i64 (wrap64 (((rd_T27 y218 x25_2).f1) + (wrap64 ((rd l1 x17_1) * ((rd_T27 ((rd_T50 l0_1 x17_1).f6) x25_2).f1)))))]) (j := 1) hcl34 hcc34 (show 2 ≤ 2 from by decide) (x' := (⟨(rd_T27 y218 x25_2).f0, wrap64 (((rd_T27 y218 x25_2).f1) + (wrap64 ((rd l1 x17_1) * ((rd_T27 ((rd_T50 l0_1 x17_1).f6) x25_2).f1))))⟩ : S27)) (k27_mkM _ _ _ (⟨(rd_T27 y218 x25_2).f0, wrap64 (((rd_T27 y218 x25_2).f1) + (wrap64 ((rd l1 x17_1) * ((rd_T27 ((rd_T50 l0_1 x17_1).f6) x25_2).f1))))⟩ : S27) ) (fun _ hk => hk)).1
                rw [← Ny221.out] at HP34
                have HQ34 := Sd.mk HP34; clear hcl34 hcc34 hfr34 hM34 HP34
                refine start_ (n := 16) (S := fun w' => w'.cell? ⟨gb215, 0, none⟩ = some (.int .i64 ((rd_T27 ((rd_T50 l0_1 x17_1).f6) x25_2).f0)) ∧ w'.cell? ⟨gb215, 1, none⟩ = some (.int .i64 ((rd_T27 ((rd_T50 l0_1 x17_1).f6) x25_2).f1)) ∧ w'.cell? ⟨go22, (x25_2).toNat * 2, none⟩ = some (.int .i64 ((rd_T27 y218 x25_2).f0)) ∧ w'.cell? ⟨go22, (x25_2).toNat * 2 + 1, none⟩ = some (.int .i64 ((rd_T27 y218 x25_2).f1)) ∧ w'.cell? (ad217.add (x17_1).toNat) = some (.int .i64 (rd l1 x17_1))) (ds := [15]) #[false, false, false, false, false, false, false, false, false, false, false, false, false, false, false, false] (by kernel_rfl) rfl rfl ⟨(blk_cell BK215.out 0).trans rfl, (blk_cell BK215.out 1).trans rfl, hx219_0, hx219_1, ((HB.out.cell (World.block_lt_of_cell? w _ hw220_0)).trans hw220_0)⟩ (fun hHeld => ?_); refine with_tabW b_grams.tab9 b_grams.bits9 (fun HT_ HW_ => ?_)
                generalize w32.drew = w33 at HO_5 BK208 BK213 BK215 HB HQ31 HQ34 hf23_0 hf23_1 hx219_0 hx219_1 hx220_0 hx23_0 hx23_1 hHeld ⊢
                refine pure_ (i := 0) (N := some 45) (v := ?_) (a' := ?_) #[true, false, false, false, false, false, false, false, false, false, false, false, false, false, false, false] rfl rfl (any_of HT_.out (by kernel_rfl)) (fun _ _ _ h => h) (Or.inl ⟨by rfl, ?_⟩) ?_ ?_
                rotate_left
                ·exact tW
                rotate_left
                ·exact tP
                refine pure_ (i := 1) (N := some 46) (v := ?_) (a' := ?_) #[true, true, false, false, false, false, false, false, false, false, false, false, false, false, false, false] rfl rfl (any_of HT_.out (by kernel_rfl)) (fun _ _ _ h => h) (Or.inl ⟨by rfl, ?_⟩) ?_ ?_
                rotate_left
                ·exact tW
                rotate_left
                ·exact tP
                refine pure_ (i := 2) (N := some 47) (v := ?_) (a' := ?_) #[true, true, true, false, false, false, false, false, false, false, false, false, false, false, false, false] rfl rfl (any_of HT_.out (by kernel_rfl)) (fun _ _ _ h => h) (Or.inl ⟨by rfl, ?_⟩) ?_ ?_
                rotate_left
                ·exact tW
                rotate_left
                ·exact tP
                refine pure_ (i := 3) (N := some 48) (v := ?_) (a' := ?_) #[true, true, true, true, false, false, false, false, false, false, false, false, false, false, false, false] rfl rfl (any_of HT_.out (by kernel_rfl)) (fun _ _ _ h => h) (Or.inl ⟨by rfl, ?_⟩) ?_ ?_
                rotate_left
                ·exact tW
                rotate_left
                ·exact tP
                refine pure_ (i := 5) (N := some 50) (v := ?_) (a' := ?_) #[true, true, true, true, false, true, false, false, false, false, false, false, false, false, false, false] rfl rfl (any_of HT_.out (by kernel_rfl)) (fun _ _ _ h => h) (Or.inl ⟨by rfl, ?_⟩) ?_ ?_
                rotate_left
                ·exact tW
                rotate_left
                ·exact tP
                refine pure_ (i := 6) (N := some 51) (v := ?_) (a' := ?_) #[true, true, true, true, false, true, true, false, false, false, false, false, false, false, false, false] rfl rfl (any_of HT_.out (by kernel_rfl)) (fun _ _ _ h => h) (Or.inl ⟨by rfl, ?_⟩) ?_ ?_
                rotate_left
                ·exact tW
                rotate_left
                ·exact tP
                refine pure_ (i := 7) (N := some 52) (v := ?_) (a' := ?_) #[true, true, true, true, false, true, true, true, false, false, false, false, false, false, false, false] rfl rfl (any_of HT_.out (by kernel_rfl)) (fun _ _ _ h => h) (Or.inl ⟨by rfl, ?_⟩) ?_ ?_
                rotate_left
                ·exact tW
                rotate_left
                ·exact tP
                refine pure_ (i := 9) (N := some 54) (v := ?_) (a' := ?_) #[true, true, true, true, false, true, true, true, false, true, false, false, false, false, false, false] rfl rfl (any_of HT_.out (by kernel_rfl)) (fun _ _ _ h => h) (Or.inl ⟨by rfl, ?_⟩) ?_ ?_
                rotate_left
                ·exact tW
                rotate_left
                ·exact tP
                refine take_ (i := 4) (N := some 49) (v := ?_) (a' := ?_) #[true, true, true, true, true, true, true, true, false, true, false, false, false, false, false, false] rfl rfl (take_ofW HT_.out HW_.out (by kernel_rfl)) (fun _ _ _ h => h) (Or.inl ⟨by rfl, ?_⟩) hHeld ?_ ?_
                rotate_left
                ·rintro w' ⟨s0, s1, s2, s3, s4⟩
                 go_simp
                 with_reducible rfl
                rotate_left
                ·exact tP
                refine take_ (i := 8) (N := some 53) (v := ?_) (a' := ?_) #[true, true, true, true, true, true, true, true, true, true, false, false, false, false, false, false] rfl rfl (take_ofW HT_.out HW_.out (by kernel_rfl)) (fun _ _ _ h => h) (Or.inl ⟨by rfl, ?_⟩) hHeld ?_ ?_
                rotate_left
                ·rintro w' ⟨s0, s1, s2, s3, s4⟩
                 go_simp
                 with_reducible rfl
                rotate_left
                ·exact tP
                refine take_ (i := 10) (N := some 55) (v := ?_) (a' := ?_) #[true, true, true, true, true, true, true, true, true, true, true, false, false, false, false, false] rfl rfl (take_ofW HT_.out HW_.out (by kernel_rfl)) (fun _ _ _ h => h) (Or.inl ⟨by rfl, ?_⟩) hHeld ?_ ?_
                rotate_left
                ·rintro w' ⟨s0, s1, s2, s3, s4⟩
                 go_simp
                 with_reducible rfl
                rotate_left
                ·exact tP
                refine pure_ (i := 11) (N := some 56) (v := ?_) (a' := ?_) #[true, true, true, true, true, true, true, true, true, true, true, true, false, false, false, false] rfl rfl (any_of HT_.out (by kernel_rfl)) (fun _ _ _ h => h) (Or.inl ⟨by rfl, ?_⟩) ?_ ?_
                rotate_left
                ·exact tW
                rotate_left
                ·exact tP
                refine pure_ (i := 12) (N := some 57) (v := ?_) (a' := ?_) #[true, true, true, true, true, true, true, true, true, true, true, true, true, false, false, false] rfl rfl (any_of HT_.out (by kernel_rfl)) (fun _ _ _ h => h) (Or.inl ⟨by rfl, ?_⟩) ?_ ?_
                rotate_left
                ·exact tW
                rotate_left
                ·exact tP
                refine pure_ (i := 13) (N := some 58) (v := ?_) (a' := ?_) #[true, true, true, true, true, true, true, true, true, true, true, true, true, true, false, false] rfl rfl (any_of HT_.out (by kernel_rfl)) (fun _ _ _ h => h) (Or.inl ⟨by rfl, ?_⟩) ?_ ?_
                rotate_left
                ·exact tW
                rotate_left
                ·exact tP
                refine pure_ (i := 14) (N := some 59) (v := ?_) (a' := ?_) #[true, true, true, true, true, true, true, true, true, true, true, true, true, true, true, false] rfl rfl (any_of HT_.out (by kernel_rfl)) (fun _ _ _ h => h) (Or.inl ⟨by rfl, ?_⟩) ?_ ?_
                rotate_left
                ·exact tW
                rotate_left
                ·exact tP
                refine last_ (i := 15) (N := none) #[true, true, true, true, true, true, true, true, true, true, true, true, true, true, true, true] rfl rfl (one_of HT_.out (by kernel_rfl)) (by decide) (fun K hK => ?_)
                refine skip_ (w1 := ?_) (by rfl) rfl ?_ ?_
                rotate_left
                ·go_simp
                 rfl
                refine hK.out _ _ ?_
                clear hK K
                refine done_ (done_of HT_.out (by kernel_rfl)) ?_
                try go_wp2
                go_roundg k2
                case measure => have := HK1.out; have := HK2.out; omega
                case rel => exact ⟨(y221), (wrap64 (x25_2 + 1)), tS, H', ⟨by have := HK1.out; have := HK2.out; omega⟩, ⟨by (with_reducible repeat (first | apply Kd.R_alloc | apply Kd.R_drewN | apply Kd.R_drew)); exact Kd.R_mono HQ34.out (fun _ hk => trivial)⟩, ⟨by (with_reducible repeat (first | refine blk_drewN ?_ _ | refine blk_drew ?_ | refine blk_alloc ?_ _)); refine blk_far ?_ (by have h_ := Kd.R_ne HO_5.out BK208.out (by decide); intro e_; exact h_ (by rw [e_]; rfl)) _; (with_reducible repeat (first | refine blk_drewN ?_ _ | refine blk_drew ?_ | refine blk_alloc ?_ _)); exact BK208.out⟩, ⟨by (with_reducible repeat (first | refine blk_drewN ?_ _ | refine blk_drew ?_ | refine blk_alloc ?_ _)); refine blk_far ?_ (by have h_ := Kd.R_ne HO_5.out BK213.out (by decide); intro e_; exact h_ (by rw [e_]; rfl)) _; (with_reducible repeat (first | refine blk_drewN ?_ _ | refine blk_drew ?_ | refine blk_alloc ?_ _)); exact BK213.out⟩, ⟨bBl HB.out⟩⟩
               ·rw [if_neg c21] at H
                exact absurd H (by simp)
              ·rw [if_neg c20] at H
               exact absurd H (by simp)
             ·rw [if_neg c19] at H
              exact absurd H (by simp)
            ·rw [if_neg c18] at H
             exact absurd H (by simp)
           ·rw [if_neg c17] at H
            exact absurd H (by simp)
          ·rw [if_neg c16] at H
           have c16b0 : decide (x25_2 < (((rd_T50 l0_1 x17_1).f6).length : Int)) = false := decide_eq_false c16
           clear c16; have H' := Sd.mk H; clear H
           go_wp2
           go_roundg k2
           case measure => have := HK1.out; have := HK2.out; omega
           case rel => exact ⟨(x5_2), (wrap64 (x17_1 + 1)), tS, H', ⟨by have := HK1.out; have := HK2.out; omega⟩, ⟨by (with_reducible repeat (first | apply Kd.R_alloc | apply Kd.R_drewN | apply Kd.R_drew)); exact HO_5.out⟩, ⟨bkA BK208.out⟩, ⟨bBl HB.out⟩⟩
       ·rw [if_neg c12] at H
        exact absurd H (by simp)
      ·rw [if_neg c11] at H
       exact absurd H (by simp)
     ·rw [if_neg c10] at H
      have c10b0 : decide (x17_1 < (l0_1.length : Int)) = false := decide_eq_false c10
      clear c10; obtain rfl := Option.some.inj H
      go_wp2
      go_ret
      exact ⟨_, tE, by (with_reducible repeat (first | apply Kd.R_alloc | apply Kd.R_drewN | apply Kd.R_drew)); exact HO_5.out, bBl HB.out⟩
  ·rw [if_neg c4] at H
   exact absurd H (by simp)
 ·rw [if_neg c3] at H
  exact absurd H (by simp)
end
section
section
variable (o : List ByteArray) (mt : List S50) (s : List S27) (p : List S77) (a4 a5 a6 : Int) (r : List Int)
end
structure RecOk (mt : List S50) (r : List Int) : Prop where
  len : r.length = mt.length
  kilos : ∀ j : Nat, j < mt.length → 0 ≤ rd r (j : Int) ∧ rd r (j : Int) ≤ 10000
section
variable {o : List ByteArray} {mt : List S50} {s : List S27} {p : List S77} {a4 a5 a6 : Int} {r : List Int}
end
end
section
def b_weight.l0 : Nat → List (S27) → Int → Int → Int → Int → Option (Int × Int)
 | 0, _, _, _, _, _ => none
 | k + 1, x6, x7, x8, x229q0, x229q1 => if x8 < x7 then (if 0 ≤ x8 then (if x8 < (x6.length : Int) then (b_weight.l0 k x6 x7 (wrap64 (x8 + 1)) (wrap64 (x229q0 + ((rd_T27 x6 x8).f0))) (wrap64 (x229q1 + ((rd_T27 x6 x8).f1)))) else (none)) else (none)) else (some (x229q0, x229q1))
def b_weight.f (k : Nat) (l0 : List (S27)) : Option (Int × Int) := b_weight.l0 k l0 (l0.length : Int) 0 0 0
theorem b_weight.calls (k : Nat) (A0 : Option Addr) (c0 : Nat) (l0 : List (S27)) (r1 : Int) (r2 : Int) (w : World) (hr0 : Kd.C k27 w A0 l0.length l0) (hc0 : l0.length ≤ c0) (h : b_weight.f k l0 = some (r1, r2)) :
  Calls Tryz.prog 128 #[.slice A0 l0.length c0] w fun e w' => e = .returned (.agg #[.int .i64 r1, .int .i64 r2]) ∧ Below w.heap.size w w' := by
 have hu27 := Tryz.underlying27; have HR0 := Sd.mk hr0; have HC0 := Sd.mk hc0; clear hr0 hc0; have HB := Sd.mk (Below.refl w.heap.size w)
 have H : (b_weight.l0 k l0 (l0.length : Int) 0 0 0) = some (r1, r2) := h
 clear h; have H' := Sd.mk H; clear H
 go_enter Tryz.func128, Tryz.ntmps128
 go_wp2_with (first | ((with_reducible refine gate_dst (N := 2) rfl ?_); refine box_event ?hg (N := 2) ?hd (cs := #[.int .i64 0, .int .i64 0]) (t := 27) ?hr ?_; (case hd => rfl); (case hg => rfl); (case hr => exact tG); intro gb227 hg w2 hbox hb; have BK227 := Sd.mk (hbox); have GW227 := Sd.mk (bSz hg (bBl HB.out)); have GE227 := Sd.mk (bSz hg (bBl HB.out)); replace HB := Sd.mk (below_step (bBl HB.out) hb); clear hb hbox hg) | ((with_reducible refine gate_dst (N := 3) rfl ?_); refine box_event ?hg (N := 3) ?hd (cs := #[.int .i64 0, .int .i64 0]) (t := 27) ?hr ?_; (case hd => rfl); (case hg => rfl); (case hr => exact tG); intro gb228 hg w3 hbox hb; have BK228 := Sd.mk (hbox); have GW228 := Sd.mk (bSz hg (bBl HB.out)); have GE228 := Sd.mk (bSz hg (bBl HB.out)); replace HB := Sd.mk (below_step (bBl HB.out) hb); have NB227_228 := Sd.mk (bNl hg (bkA BK227.out)); have NB228_227 := Sd.mk (bNg hg (bkA BK227.out)); replace BK227 := Sd.mk (blk_below (bkA BK227.out) hb); clear hb hbox hg))
 go_loopg [8] k (fun kq v8 w' => ∃ (x8_1 : Int) (x229000_1 : Int) (x229001_1 : Int), v8 = .int .i64 x8_1 ∧ Sd (b_weight.l0 kq l0 (l0.length : Int) x8_1 x229000_1 x229001_1 = some (r1, r2)) ∧ Sd (kq ≤ k) ∧ Sd (w'.heap[gb227]? = some (.cells #[.int .i64 0, .int .i64 0] 27 (0, 0))) ∧ Sd (w'.heap[gb228]? = some (.cells #[.int .i64 x229000_1, .int .i64 x229001_1] 27 (0, 0))) ∧ Sd (Below w.heap.size w w'))
 case atStart => exact ⟨(0), (0), (0), tS, H', ⟨Nat.le_refl _⟩, ⟨bkA BK227.out⟩, ⟨bkA BK228.out⟩, ⟨bBl HB.out⟩⟩
 case round =>
  clear H'; (try clear c1); (try clear p2); obtain ⟨x8_1, x229000_1, x229001_1, rfl, HA, HK1, BK227, BK228, HB⟩ := hrel
  cases gk with
  | zero => exact absurd HA.out (by simp [b_weight.l0])
  | succ k1 =>
   have H := HA.out; clear HA
   simp only [b_weight.l0] at H
   by_cases c4 : x8_1 < (l0.length : Int)
   ·rw [if_pos c4] at H
    have c4b0 : decide (x8_1 < (l0.length : Int)) = true := decide_eq_true c4
    clear c4
    by_cases c5 : 0 ≤ x8_1
    ·rw [if_pos c5] at H
     have c5b0 : decide (0 ≤ x8_1) = true := decide_eq_true c5
     clear c5
     by_cases c6 : x8_1 < (l0.length : Int)
     ·rw [if_pos c6] at H
      have c6b0 : decide (x8_1 < (l0.length : Int)) = true := decide_eq_true c6
      clear c6; have H' := Sd.mk H; clear H
      have p229 : 0 ≤ (x8_1 : Int) := tB
      have q229 : x8_1 < (l0.length : Int) := tB
      obtain ⟨ad229, e229, hx229_0, hx229_1⟩ := at_T27 HR0.out x8_1 p229 q229; cases e229; replace hx229_0 := cU HB hx229_0; replace hx229_1 := cU HB hx229_1; replace p229 := eq_true p229; replace q229 := eq_true q229
      go_wp2_with (first | ((with_reducible refine gate_dst (N := 5) rfl ?_); refine box_event ?hg (N := 5) ?hd (cs := #[.int .i64 0, .int .i64 0]) (t := 27) ?hr ?_; (case hd => rfl); (case hg => rfl); (case hr => exact tG); intro gb230 hg w7 hbox hb; have BK230 := Sd.mk (hbox); have GW230 := Sd.mk (bSz hg (bBl HB.out)); have GE230 := Sd.mk (bSz hg (bBl HB.out)); replace HB := Sd.mk (below_step (bBl HB.out) hb); have NB227_230 := Sd.mk (bNl hg (bkA BK227.out)); have NB230_227 := Sd.mk (bNg hg (bkA BK227.out)); replace BK227 := Sd.mk (blk_below (bkA BK227.out) hb); have NB228_230 := Sd.mk (bNl hg (bkA BK228.out)); have NB230_228 := Sd.mk (bNg hg (bkA BK228.out)); replace BK228 := Sd.mk (blk_below (bkA BK228.out) hb); clear hb hbox hg; have hnb8 := NB230_227.out; have hnc8 := NB227_230.out; have hnb9 := NB230_228.out; have hnc9 := NB228_230.out; obtain ⟨u10_0, u10_1, o10_0, o10_1⟩ := bc2 (w := w7) BK230.out; have hnb11 := NB228_227.out; have hnc11 := NB227_228.out; obtain ⟨u12_0, u12_1, o12_0, o12_1⟩ := bc2 (w := w7) BK228.out))
      go_roundg k1
      case measure => have := HK1.out; omega
      case rel => exact ⟨(wrap64 (x8_1 + 1)), (wrap64 (x229000_1 + ((rd_T27 l0 x8_1).f0))), (wrap64 (x229001_1 + ((rd_T27 l0 x8_1).f1))), tS, H', ⟨by have := HK1.out; omega⟩, ⟨by (with_reducible repeat (first | refine blk_drewN ?_ _ | refine blk_drew ?_ | refine blk_alloc ?_ _)); refine blk_far ?_ NB227_228.out _; (with_reducible repeat (first | refine blk_drewN ?_ _ | refine blk_drew ?_ | refine blk_alloc ?_ _)); refine blk_far ?_ NB227_228.out _; (with_reducible repeat (first | refine blk_drewN ?_ _ | refine blk_drew ?_ | refine blk_alloc ?_ _)); refine blk_far ?_ NB227_230.out _; (with_reducible repeat (first | refine blk_drewN ?_ _ | refine blk_drew ?_ | refine blk_alloc ?_ _)); refine blk_far ?_ NB227_230.out _; (with_reducible repeat (first | refine blk_drewN ?_ _ | refine blk_drew ?_ | refine blk_alloc ?_ _)); exact BK227.out⟩, ⟨by (with_reducible repeat (first | refine blk_drewN ?_ _ | refine blk_drew ?_ | refine blk_alloc ?_ _)); refine blk_put (cs := #[.int .i64 (wrap64 (x229000_1 + ((rd_T27 l0 x8_1).f0))), .int .i64 x229001_1]) ?_ 1 _ rfl; (with_reducible repeat (first | refine blk_drewN ?_ _ | refine blk_drew ?_ | refine blk_alloc ?_ _)); refine blk_put (cs := #[.int .i64 x229000_1, .int .i64 x229001_1]) ?_ 0 _ rfl; (with_reducible repeat (first | refine blk_drewN ?_ _ | refine blk_drew ?_ | refine blk_alloc ?_ _)); refine blk_far ?_ NB228_230.out _; (with_reducible repeat (first | refine blk_drewN ?_ _ | refine blk_drew ?_ | refine blk_alloc ?_ _)); refine blk_far ?_ NB228_230.out _; (with_reducible repeat (first | refine blk_drewN ?_ _ | refine blk_drew ?_ | refine blk_alloc ?_ _)); exact BK228.out⟩, ⟨bBl HB.out⟩⟩
     ·rw [if_neg c6] at H
      exact absurd H (by simp)
    ·rw [if_neg c5] at H
     exact absurd H (by simp)
   ·rw [if_neg c4] at H
    have c4b0 : decide (x8_1 < (l0.length : Int)) = false := decide_eq_false c4
    clear c4
    simp only [Option.some.injEq, Prod.mk.injEq] at H
    obtain ⟨rfl, rfl⟩ := H; have hnb13 := NB228_227.out; have hnc13 := NB227_228.out; obtain ⟨u14_0, u14_1, o14_0, o14_1⟩ := bc2 (w := wr) BK228.out; obtain ⟨u15_0, u15_1, o15_0, o15_1⟩ := bc2 (w := wr) BK227.out
    go_wp2
    refine bodyPost_ret (results_cell_row rfl _ _ gb227 27 #[.int .i64 x229000_1, .int .i64 x229001_1] (0, 0) _ rfl (by (with_reducible repeat (first | refine blk_drewN ?_ _ | refine blk_drew ?_ | refine blk_alloc ?_ _)); refine blk_put (cs := #[.int .i64 x229000_1, .int .i64 0]) ?_ 1 _ rfl; (with_reducible repeat (first | refine blk_drewN ?_ _ | refine blk_drew ?_ | refine blk_alloc ?_ _)); refine blk_put (cs := #[.int .i64 0, .int .i64 0]) ?_ 0 _ rfl; (with_reducible repeat (first | refine blk_drewN ?_ _ | refine blk_drew ?_ | refine blk_alloc ?_ _)); exact BK227.out) Tryz.underlying27 rfl (by kernel_rfl)) rfl ?_
    exact ⟨tE, bBl HB.out⟩
end
section
theorem mx_max (a b : Int) : mx a b = max a b := by unfold mx; split <;> omega
structure GOk (l : List S27) : Prop where
  n12 : l.length ≤ 12
  at_ : ∀ j : Nat, j < l.length → 0 ≤ (rd_T27 l (j : Int)).f0 ∧ (rd_T27 l (j : Int)).f0 ≤ (rd_T27 l (j : Int)).f1 ∧ (rd_T27 l (j : Int)).f1 ≤ 120000000
def wS (F : S27 → Int) (l : List S27) (i : Nat) : Int := sumTo (fun j => F (rd_T27 l (j : Int))) i
theorem wS_bounds {l : List S27} (H : GOk l) : ∀ i, i ≤ l.length → (0 ≤ wS S27.f0 l i ∧ wS S27.f0 l i ≤ 120000000 * i) ∧ (0 ≤ wS S27.f1 l i ∧ wS S27.f1 l i ≤ 120000000 * i) ∧ wS S27.f0 l i ≤ wS S27.f1 l i := by
  intro i
  induction i with
  | zero => intro _; simp [wS, sumTo]
  | succ i ih => intro hi; have h1 := ih (by omega); have h2 := H.at_ i (by omega); simp only [wS, sumTo] at *; omega
structure CfOk (cf : Int → Int) (n : Nat) : Prop where
  at_ : ∀ j : Nat, j < n → -10000 ≤ cf (j : Int) ∧ cf (j : Int) ≤ 10000
theorem mulb {c x : Int} (h1 : -30000 ≤ c) (h2 : c ≤ 30000) (h3 : 0 ≤ x) (h4 : x ≤ 120000000) : -3600000000000 ≤ c * x ∧ c * x ≤ 3600000000000 := by
  have e1 := Int.mul_le_mul_of_nonneg_right h1 h3
  have e2 := Int.mul_le_mul_of_nonneg_right h2 h3
  omega
section
variable {cf : Int → Int} {l : List S27} {c : List Int} (H : GOk l) (C : CfOk cf l.length) (hp : 0 < wS S27.f0 l l.length) (hl : l.length ≤ c.length) (hc : ∀ j : Nat, j < l.length → rd c (j : Int) = cf (j : Int))
include H C hp hl hc
end
end
section
def b_Grams.f (k : Nat) (l0_0 : List ByteArray) (l0_1 : List (S50)) (l0_2 : List (S27)) (l0_3 : List (S77)) (a0_4 : Int) (a0_5 : Int) (a0_6 : Int) (l1 : List Int) : Option ((List (S27)) × Int) := (b_asked.f k l0_0 l0_1 l0_2 l0_3 a0_4 a0_5 a0_6 l1).bind fun t223 => (if t223 = 0 then ((b_grams.f k l0_0 l0_1 l0_2 l0_3 a0_4 a0_5 a0_6 l1).bind fun t224 => (some (t224, 0))) else (some (([] : List (S27)), t223)))
theorem b_Grams.calls (k : Nat) (A0_0 : Option Addr) (c0_0 : Nat) (l0_0 : List ByteArray) (A0_1 : Option Addr) (c0_1 : Nat) (l0_1 : List (S50)) (A0_2 : Option Addr) (c0_2 : Nat) (l0_2 : List (S27)) (A0_3 : Option Addr) (c0_3 : Nat) (l0_3 : List (S77)) (a0_4 : Int) (a0_5 : Int) (a0_6 : Int) (A1 : Option Addr) (c1 : Nat) (l1 : List Int) (r1 : List (S27)) (r2 : Int) (w : World) (hr0_0 : Kd.C Kd.string w A0_0 l0_0.length l0_0) (hc0_0 : l0_0.length ≤ c0_0) (hr0_1 : Kd.C k50 w A0_1 l0_1.length l0_1) (hc0_1 : l0_1.length ≤ c0_1) (hr0_2 : Kd.C k27 w A0_2 l0_2.length l0_2) (hc0_2 : l0_2.length ≤ c0_2) (hr0_3 : Kd.C k77 w A0_3 l0_3.length l0_3) (hc0_3 : l0_3.length ≤ c0_3) (hr1 : Kd.C (Kd.int .i64) w A1 l1.length l1) (hc1 : l1.length ≤ c1) (h : b_Grams.f k l0_0 l0_1 l0_2 l0_3 a0_4 a0_5 a0_6 l1 = some (r1, r2)) :
  Calls Tryz.prog 127 #[.agg #[.slice A0_0 l0_0.length c0_0, .slice A0_1 l0_1.length c0_1, .slice A0_2 l0_2.length c0_2, .slice A0_3 l0_3.length c0_3, .int .i64 a0_4, .int .i64 a0_5, .int .i64 a0_6], .slice A1 l1.length c1] w fun e w' => ∃ v0_ : Value, e = .returned (.tuple #[v0_, .int .i64 r2]) ∧ Kd.R k27 27 w' w.heap.size (fun _ => True) v0_ r1 ∧ Below w.heap.size w w' := by
 have hu29 := Tryz.underlying29; have HR0_0 := Sd.mk hr0_0; have HC0_0 := Sd.mk hc0_0; clear hr0_0 hc0_0; have HR0_1 := Sd.mk hr0_1; have HC0_1 := Sd.mk hc0_1; clear hr0_1 hc0_1; have HR0_2 := Sd.mk hr0_2; have HC0_2 := Sd.mk hc0_2; clear hr0_2 hc0_2; have HR0_3 := Sd.mk hr0_3; have HC0_3 := Sd.mk hc0_3; clear hr0_3 hc0_3; have HR1 := Sd.mk hr1; have HC1 := Sd.mk hc1; clear hr1 hc1; have HB := Sd.mk (Below.refl w.heap.size w)
 have H : ((b_asked.f k l0_0 l0_1 l0_2 l0_3 a0_4 a0_5 a0_6 l1).bind fun t223 => (if t223 = 0 then ((b_grams.f k l0_0 l0_1 l0_2 l0_3 a0_4 a0_5 a0_6 l1).bind fun t224 => (some (t224, 0))) else (some (([] : List (S27)), t223)))) = some (r1, r2) := h
 clear h; replace H := Option.bind_eq_some_iff.mp H; obtain ⟨t223, A30, H⟩ := H
 try dsimp only at H
 have A3 := Sd.mk A30; clear A30
 by_cases c4 : t223 = 0
 ·rw [if_pos c4] at H
  have c4b0 : (t223 == 0) = true := beq_iff_eq.mpr c4
  have c4b1 : (t223 != 0) = false := bne_eq_false_iff_eq.mpr c4
  clear c4; replace H := Option.bind_eq_some_iff.mp H; obtain ⟨t224, A50, H⟩ := H
  try dsimp only at H
  have A5 := Sd.mk A50; clear A50
  simp only [Option.some.injEq, Prod.mk.injEq] at H
  obtain ⟨rfl, rfl⟩ := H
  go_enter Tryz.func127, Tryz.ntmps127
  go_wp2_with (first | ((with_reducible refine gate_dst (N := 2) rfl ?_); refine box_event ?hg (N := 2) ?hd (cs := #[.slice A0_0 l0_0.length c0_0, .slice A0_1 l0_1.length c0_1, .slice A0_2 l0_2.length c0_2, .slice A0_3 l0_3.length c0_3, .int .i64 a0_4, .int .i64 a0_5, .int .i64 a0_6]) (t := 29) ?hr ?_; (case hd => rfl); (case hg => rfl); (case hr => exact tG); intro gb222 hg w6 hbox hb; have BK222 := Sd.mk (hbox); have GW222 := Sd.mk (bSz hg (bBl HB.out)); have GE222 := Sd.mk (bSz hg (bBl HB.out)); replace HB := Sd.mk (below_step (bBl HB.out) hb); clear hb hbox hg; obtain ⟨u7_0, u7_1, u7_2, u7_3, u7_4, u7_5, u7_6, o7_0, o7_1, o7_2, o7_3, o7_4, o7_5, o7_6⟩ := bc7 (w := w6) BK222.out) | ((with_reducible refine gate_callee (f := 20) rfl ?_); refine goesL_ (some 9) rfl rfl Tryz.func20 (by kernel_rfl) rfl #[.agg #[.slice A0_0 l0_0.length c0_0, .slice A0_1 l0_1.length c0_1, .slice A0_2 l0_2.length c0_2, .slice A0_3 l0_3.length c0_3, .int .i64 a0_4, .int .i64 a0_5, .int .i64 a0_6], .slice A1 l1.length c1] rfl tM ?_; (with_reducible refine (b_asked.calls k _ _ l0_0 _ _ l0_1 _ _ l0_2 _ _ l0_3 a0_4 a0_5 a0_6 _ _ l1 t223 _ (cS (Kd.C_below HR0_0.out HB.out)) HC0_0.out (cS (Kd.C_below HR0_1.out HB.out)) HC0_1.out (cS (Kd.C_below HR0_2.out HB.out)) HC0_2.out (cS (Kd.C_below HR0_3.out HB.out)) HC0_3.out (cS (Kd.C_below HR1.out HB.out)) HC1.out A3.out).mono ?_); rintro e w8 ⟨rfl, hb⟩; refine ⟨_, rfl, ?_⟩; replace BK222 := Sd.mk (blk_below (bkA BK222.out) hb); replace HB := Sd.mk (below_step (bBl HB.out) hb); (try clear hb); (try clear hb2); (try clear hk); (try clear hi); obtain ⟨u9_0, u9_1, u9_2, u9_3, u9_4, u9_5, u9_6, o9_0, o9_1, o9_2, o9_3, o9_4, o9_5, o9_6⟩ := bc7 (w := w8) BK222.out) | ((with_reducible refine gate_callee (f := 140) rfl ?_); refine goesL_ (some 15) rfl rfl Tryz.func140 (by kernel_rfl) rfl #[.agg #[.slice A0_0 l0_0.length c0_0, .slice A0_1 l0_1.length c0_1, .slice A0_2 l0_2.length c0_2, .slice A0_3 l0_3.length c0_3, .int .i64 a0_4, .int .i64 a0_5, .int .i64 a0_6], .slice A1 l1.length c1] rfl tM ?_; (with_reducible refine (b_grams.calls k _ _ l0_0 _ _ l0_1 _ _ l0_2 _ _ l0_3 a0_4 a0_5 a0_6 _ _ l1 t224 _ (cS (Kd.C_below HR0_0.out HB.out)) HC0_0.out (cS (Kd.C_below HR0_1.out HB.out)) HC0_1.out (cS (Kd.C_below HR0_2.out HB.out)) HC0_2.out (cS (Kd.C_below HR0_3.out HB.out)) HC0_3.out (cS (Kd.C_below HR1.out HB.out)) HC1.out A5.out).mono ?_); rintro e w10 ⟨v225, rfl, ho0, hb⟩; refine ⟨_, rfl, ?_⟩; have HO226 := Sd.mk (Kd.R_lower ho0 (below_size (bBl HB.out))); replace BK222 := Sd.mk (blk_below (bkA BK222.out) hb); replace HB := Sd.mk (below_step (bBl HB.out) hb); (try clear hb); (try clear hb2); (try clear hk); (try clear hi); (try clear ho0)))
  go_ret2
  exact ⟨_, tE, by (with_reducible repeat (first | apply Kd.R_alloc | apply Kd.R_drewN | apply Kd.R_drew)); exact HO226.out, bBl HB.out⟩
 ·rw [if_neg c4] at H
  have c4b0 : (t223 == 0) = false := beq_eq_false_iff_ne.mpr c4
  have c4b1 : (t223 != 0) = true := bne_iff_ne.mpr c4
  simp only [Option.some.injEq, Prod.mk.injEq] at H
  obtain ⟨rfl, rfl⟩ := H
  go_enter Tryz.func127, Tryz.ntmps127
  go_wp2_with (first | ((with_reducible refine gate_dst (N := 2) rfl ?_); refine box_event ?hg (N := 2) ?hd (cs := #[.slice A0_0 l0_0.length c0_0, .slice A0_1 l0_1.length c0_1, .slice A0_2 l0_2.length c0_2, .slice A0_3 l0_3.length c0_3, .int .i64 a0_4, .int .i64 a0_5, .int .i64 a0_6]) (t := 29) ?hr ?_; (case hd => rfl); (case hg => rfl); (case hr => exact tG); intro gb222 hg w11 hbox hb; have BK222 := Sd.mk (hbox); have GW222 := Sd.mk (bSz hg (bBl HB.out)); have GE222 := Sd.mk (bSz hg (bBl HB.out)); replace HB := Sd.mk (below_step (bBl HB.out) hb); clear hb hbox hg; obtain ⟨u12_0, u12_1, u12_2, u12_3, u12_4, u12_5, u12_6, o12_0, o12_1, o12_2, o12_3, o12_4, o12_5, o12_6⟩ := bc7 (w := w11) BK222.out) | ((with_reducible refine gate_callee (f := 20) rfl ?_); refine goesL_ (some 9) rfl rfl Tryz.func20 (by kernel_rfl) rfl #[.agg #[.slice A0_0 l0_0.length c0_0, .slice A0_1 l0_1.length c0_1, .slice A0_2 l0_2.length c0_2, .slice A0_3 l0_3.length c0_3, .int .i64 a0_4, .int .i64 a0_5, .int .i64 a0_6], .slice A1 l1.length c1] rfl tM ?_; (with_reducible refine (b_asked.calls k _ _ l0_0 _ _ l0_1 _ _ l0_2 _ _ l0_3 a0_4 a0_5 a0_6 _ _ l1 t223 _ (cS (Kd.C_below HR0_0.out HB.out)) HC0_0.out (cS (Kd.C_below HR0_1.out HB.out)) HC0_1.out (cS (Kd.C_below HR0_2.out HB.out)) HC0_2.out (cS (Kd.C_below HR0_3.out HB.out)) HC0_3.out (cS (Kd.C_below HR1.out HB.out)) HC1.out A3.out).mono ?_); rintro e w13 ⟨rfl, hb⟩; refine ⟨_, rfl, ?_⟩; replace BK222 := Sd.mk (blk_below (bkA BK222.out) hb); replace HB := Sd.mk (below_step (bBl HB.out) hb); (try clear hb); (try clear hb2); (try clear hk); (try clear hi)))
  go_ret2
  exact ⟨_, tE, by first | exact Kd.R_nil _ _ _ _ _ | exact Kd.N_nil _ _ _ _ _ | exact Kd.V_nil _ _ _ _ _ | exact Kd.Q_nil _ _ _ _ _ | exact Kd.S_nil _ _ _ _ _, bBl HB.out⟩
end
section
def x_glass.f (k : Nat) (l0_0 : List ByteArray) (l0_1 : List (S50)) (l0_2 : List (S27)) (l0_3 : List (S77)) (a0_4 : Int) (a0_5 : Int) (a0_6 : Int) (l1 : List Int) : Option ((List (S27)) × Int) := (b_Grams.f k l0_0 l0_1 l0_2 l0_3 a0_4 a0_5 a0_6 l1).bind fun p => if p.2 = 0 then ((b_weight.f k p.1).bind fun q => if q.1 = 0 then some ([], 8) else some (p.1, p.2)) else some (p.1, p.2)
theorem field27_0 (w : World) (a b : Int) : (Instr.field 27 (.agg #[.int .i64 a, .int .i64 b]) 0).run Tryz.prog w = .ok (.int .i64 a) w := by kernel_rfl
theorem x_glass.calls (k : Nat) (A0_0 : Option Addr) (c0_0 : Nat) (l0_0 : List ByteArray) (A0_1 : Option Addr) (c0_1 : Nat) (l0_1 : List (S50)) (A0_2 : Option Addr) (c0_2 : Nat) (l0_2 : List (S27)) (A0_3 : Option Addr) (c0_3 : Nat) (l0_3 : List (S77)) (a0_4 : Int) (a0_5 : Int) (a0_6 : Int) (A1 : Option Addr) (c1 : Nat) (l1 : List Int) (r1 : List (S27)) (r2 : Int) (w : World) (hr0_0 : Kd.C Kd.string w A0_0 l0_0.length l0_0) (hc0_0 : l0_0.length ≤ c0_0) (hr0_1 : Kd.C k50 w A0_1 l0_1.length l0_1) (hc0_1 : l0_1.length ≤ c0_1) (hr0_2 : Kd.C k27 w A0_2 l0_2.length l0_2) (hc0_2 : l0_2.length ≤ c0_2) (hr0_3 : Kd.C k77 w A0_3 l0_3.length l0_3) (hc0_3 : l0_3.length ≤ c0_3) (hr1 : Kd.C (Kd.int .i64) w A1 l1.length l1) (hc1 : l1.length ≤ c1) (h : x_glass.f k l0_0 l0_1 l0_2 l0_3 a0_4 a0_5 a0_6 l1 = some (r1, r2)) :
    Calls Tryz.prog 91 #[.agg #[.slice A0_0 l0_0.length c0_0, .slice A0_1 l0_1.length c0_1, .slice A0_2 l0_2.length c0_2, .slice A0_3 l0_3.length c0_3, .int .i64 a0_4, .int .i64 a0_5, .int .i64 a0_6], .slice A1 l1.length c1] w fun e w' => ∃ v0_ : Value, e = .returned (.tuple #[v0_, .int .i64 r2]) ∧ Kd.R k27 27 w' w.heap.size (fun _ => True) v0_ r1 ∧ Below w.heap.size w w' := by
  unfold x_glass.f at h
  obtain ⟨p, hp, H⟩ := Option.bind_eq_some_iff.mp h
  have hG := fun (W : World) (hb : Below w.heap.size w W) => b_Grams.calls k A0_0 c0_0 l0_0 A0_1 c0_1 l0_1 A0_2 c0_2 l0_2 A0_3 c0_3 l0_3 a0_4 a0_5 a0_6 A1 c1 l1 p.1 p.2 W (Kd.C_below hr0_0 hb) hc0_0 (Kd.C_below hr0_1 hb) hc0_1 (Kd.C_below hr0_2 hb) hc0_2 (Kd.C_below hr0_3 hb) hc0_3 (Kd.C_below hr1 hb) hc1 hp
  have HG := Sd.mk hG
  clear hG h hp hr0_0 hr0_1 hr0_2 hr0_3 hr1
  obtain ⟨pl, pe⟩ := p
  dsimp only at H HG
  have hb0 : Below w.heap.size w (w.alloc (.cells #[.slice A0_0 l0_0.length c0_0, .slice A0_1 l0_1.length c0_1, .slice A0_2 l0_2.length c0_2, .slice A0_3 l0_3.length c0_3, .int .i64 a0_4, .int .i64 a0_5, .int .i64 a0_6] 29)) := below_alloc (Below.refl _ _) _
  have hgo := HG.out _ hb0
  have HB0 := Sd.mk hb0
  clear hb0 HG
  have HH := Sd.mk H
  clear H
  have hfld := field27_0
  go_enter Tryz.func91, Tryz.ntmps91
  go_wp2_with fail
  refine hgo.mono ?_
  clear hgo
  rintro e w1 ⟨v, rfl, hR, hb⟩
  have hR0 := Kd.R_lower (base' := w.heap.size) hR (by simp)
  obtain ⟨A, c, rfl, hlc, hC⟩ := Kd.R_reads hR
  have HR := Sd.mk hR0
  have HB := Sd.mk (below_trans' HB0.out hb)
  have HC := Sd.mk hC
  have H := HH.out
  clear hR hb HB0 hR0 hC HH
  by_cases he : pe = 0
  · rw [if_pos he] at H
    obtain ⟨q, hq, H⟩ := Option.bind_eq_some_iff.mp H
    have hW := fun (W : World) (hb : Below w1.heap.size w1 W) => b_weight.calls k A c pl q.1 q.2 W (Kd.C_below HC.out hb) hlc hq
    have HW := Sd.mk (hW w1 (Below.refl _ _))
    clear hW hq
    have heb : (pe == 0) = true := beq_iff_eq.mpr he
    obtain ⟨q1, q2⟩ := q
    dsimp only at H HW
    have HH := Sd.mk H
    have HE := Sd.mk he
    clear H he
    go_wp2_with fail
    refine HW.out.mono ?_
    clear HW
    rintro e w2 ⟨rfl, hb2⟩
    have HB2 := Sd.mk (below_trans' HB.out hb2)
    have HR2 := Sd.mk (Kd.R_below HR.out hb2)
    clear hb2 HR HB
    have H := HH.out
    by_cases hq0 : q1 = 0
    · rw [if_pos hq0] at H
      have hqb : (q1 == 0) = true := beq_iff_eq.mpr hq0
      simp only [Option.some.injEq, Prod.mk.injEq] at H
      obtain ⟨rfl, rfl⟩ := H
      clear hq0 HH
      go_wp2
      go_ret2
      exact ⟨_, rfl, Kd.R_nil _ _ _ _ _, HB2.out⟩
    · rw [if_neg hq0] at H
      have hqb : (q1 == 0) = false := beq_eq_false_iff_ne.mpr hq0
      simp only [Option.some.injEq, Prod.mk.injEq] at H
      obtain ⟨rfl, rfl⟩ := H
      clear hq0 HH
      go_wp2
      go_ret2
      exact ⟨_, rfl, HR2.out, HB2.out⟩
  · rw [if_neg he] at H
    have heb : (pe == 0) = false := beq_eq_false_iff_ne.mpr he
    simp only [Option.some.injEq, Prod.mk.injEq] at H
    obtain ⟨rfl, rfl⟩ := H
    go_wp2
    go_ret2
    exact ⟨_, rfl, HR.out, HB.out⟩
end
section
open Go.RowKit Go.Proofs.YtnmdojgfedddbaaGreatDoorW.PrintWords Go.Proofs.YtnmdojgfedddbaaGreatDoorW.PrintLast Go.Proofs.YtnmdojgfedddbaaGreatDoorW.PrintMore
open Go.Sort (putRow Holds)
attribute [local go_sem] max2_int min2_int max_two min_two
theorem mean_calls (cf : Int → Int) (A0 : Option Addr) (c0 : Nat) (l0 : List S27) (g : Nat) (lb : Array Value) (w : World) (eg : ∀ args w, (callFunc g args).run Tryz.prog w = .ok (.enter g args) w)
    (hr0 : Kd.C k27 w A0 l0.length l0) (hc0 : l0.length ≤ c0) (hq : CoefQ g lb cf l0.length w) (hok : MeanOk cf l0) :
    Calls Tryz.prog 92 #[.slice A0 l0.length c0, .func (.func g) #[] lb] w fun e w' => e = .returned (.agg #[.int .i64 (meanLo cf l0), .int .i64 (meanHi cf l0)]) ∧ Below w.heap.size w w' := by
  have hn := hok.n12
  have HR0 := Sd.mk hr0
  have HQ := Sd.mk hq
  have HOK := Sd.mk hok
  have HMK := print_make 34 3 .i64 8 Tryz.underlying34 info3 (by decide) l0.length (by omega)
  have hpos : 0 < l0.length := by
    rcases Nat.eq_zero_or_pos l0.length with h | h
    · have := List.eq_nil_of_length_eq_zero h
      subst this
      exact absurd hok.pos (by simp)
    · exact h
  have HN := Sd.mk hn
  clear hr0 hq hok
  go_enter Tryz.func92, Tryz.ntmps92
  go_wp2
  have hz0 : (madeCells #[Value.int .i64 0] l0.length) = (Array.ofFn fun _ : Fin l0.length => Value.int .i64 0) := by
    apply Array.ext
    · simp [madeCells]
    · intro i h1 h2; simp [madeCells, Nat.mod_one]
  rw [hz0]
  have hzb : (((w.alloc (.cells #[.func (.func g) #[] lb] 111)).alloc (.cells #[.int .i64 0, .int .i64 0] 27)).alloc (.cells (Array.ofFn fun _ : Fin l0.length => Value.int .i64 0) 3)).heap[w.heap.size + 1 + 1]? = some (.cells (Array.ofFn fun _ : Fin l0.length => Value.int .i64 0) 3 (0, 0)) := by
    have := blk_new ((w.alloc (.cells #[.func (.func g) #[] lb] 111)).alloc (.cells #[.int .i64 0, .int .i64 0] 27)) (.cells (Array.ofFn fun _ : Fin l0.length => Value.int .i64 0) 3)
    simpa using this
  have hrb : (((w.alloc (.cells #[.func (.func g) #[] lb] 111)).alloc (.cells #[.int .i64 0, .int .i64 0] 27)).alloc (.cells (Array.ofFn fun _ : Fin l0.length => Value.int .i64 0) 3)).heap[w.heap.size + 1]? = some (.cells #[.int .i64 0, .int .i64 0] 27 (0, 0)) := by
    have := blk_alloc (blk_new (w.alloc (.cells #[.func (.func g) #[] lb] 111)) (.cells #[.int .i64 0, .int .i64 0] 27)) (.cells (Array.ofFn fun _ : Fin l0.length => Value.int .i64 0) 3)
    simpa using this
  have hfb : (((w.alloc (.cells #[.func (.func g) #[] lb] 111)).alloc (.cells #[.int .i64 0, .int .i64 0] 27)).alloc (.cells (Array.ofFn fun _ : Fin l0.length => Value.int .i64 0) 3)).heap[w.heap.size]? = some (.cells #[.func (.func g) #[] lb] 111 (0, 0)) :=
    blk_alloc (blk_alloc (blk_new w (.cells #[.func (.func g) #[] lb] 111)) _) _
  have hbe : Below w.heap.size w (((w.alloc (.cells #[.func (.func g) #[] lb] 111)).alloc (.cells #[.int .i64 0, .int .i64 0] 27)).alloc (.cells (Array.ofFn fun _ : Fin l0.length => Value.int .i64 0) 3)) := below_alloc (below_alloc (below_alloc (Below.refl _ _) _) _) _
  generalize ((w.alloc (.cells #[.func (.func g) #[] lb] 111)).alloc (.cells #[.int .i64 0, .int .i64 0] 27)).alloc (.cells (Array.ofFn fun _ : Fin l0.length => Value.int .i64 0) 3) = w1 at *
  have hH : Holds (Value.int .i64) w1 (w.heap.size + 1 + 1) 0 (fillTo l0.length 0) := by
    intro j hj
    rw [fillTo_size] at hj
    rw [blk_cell hzb, blk_frozen hzb, getElem!_pos _ j (by rw [fillTo_size]; exact hj)]
    simp [fillTo, hj]
  have HH := Sd.mk hH
  have HZB := Sd.mk hzb
  have HRB := Sd.mk hrb
  have HFB := Sd.mk hfb
  have HBE := Sd.mk hbe
  clear hH hzb hrb hfb hbe hz0 HMK
  have hself : w1 = putRow (Value.int .i64) w1 (w.heap.size + 1 + 1) 0 (fillTo l0.length 0) := (Go.Sort.putRow_self _ _ _ _ _ HH.out).symm
  have HSELF := Sd.mk hself
  clear hself
  go_loopg [22] l0.length (fun gq v22 wr => ∃ k : Nat, v22 = .int .i64 k ∧ k ≤ l0.length ∧ l0.length - k ≤ gq ∧ wr = putRow (Value.int .i64) w1 (w.heap.size + 1 + 1) 0 (fillTo l0.length k))
  case atStart => exact ⟨0, rfl, Nat.zero_le _, by omega, HSELF.out⟩
  case round =>
    obtain ⟨k, rfl, hk, hgk, rfl⟩ := hrel
    by_cases hlt : k < l0.length
    · have hltz : (k : Int) < (l0.length : Int) := by omega
      have hcell := (Go.Sort.holds_putRow (Value.int .i64) w1 (w.heap.size + 1 + 1) 0 (fillTo l0.length 0) (fillTo l0.length k) HH.out (by rw [fillTo_size, fillTo_size])) k (by rw [fillTo_size]; exact hlt)
      have hset := Go.Sort.putRow_set (Value.int .i64) w1 (w.heap.size + 1 + 1) 0 (fillTo l0.length k) k (k : Int) (by rw [fillTo_size]; exact hlt)
      rw [fillTo_step _ _ hlt] at hset
      simp only [Nat.zero_add] at hcell hset
      obtain ⟨hc1, hc2⟩ := hcell
      have HSET := Sd.mk hset
      clear hset
      generalize putRow (Value.int .i64) w1 (w.heap.size + 1 + 1) 0 (fillTo l0.length k) = wq at hc1 hc2 HSET ⊢
      generalize (fillTo l0.length k)[k]! = z at hc1
      go_wp2
      go_roundg (l0.length - (k + 1))
      case measure => omega
      case rel => exact ⟨k + 1, by go_num, by omega, by omega, HSET.out⟩
    · have hltz : ¬ (k : Int) < (l0.length : Int) := by omega
      obtain rfl : k = l0.length := by omega
      rw [fillTo_all]
      have hio : Holds (Value.int .i64) (putRow (Value.int .i64) w1 (w.heap.size + 1 + 1) 0 (iotaA l0.length)) (w.heap.size + 1 + 1) 0 (iotaA l0.length) :=
        Go.Sort.holds_putRow (Value.int .i64) w1 (w.heap.size + 1 + 1) 0 (fillTo l0.length 0) (iotaA l0.length) HH.out (by rw [fillTo_size, iotaA_size])
      have hb2 : Below w.heap.size w (putRow (Value.int .i64) w1 (w.heap.size + 1 + 1) 0 (iotaA l0.length)) := below_putRow HBE.out (by omega) _
      have hf2 : (putRow (Value.int .i64) w1 (w.heap.size + 1 + 1) 0 (iotaA l0.length)).heap[w.heap.size]? = some (.cells #[.func (.func g) #[] lb] 111 (0, 0)) := blk_putRow HFB.out (by omega) _
      have hr2 : (putRow (Value.int .i64) w1 (w.heap.size + 1 + 1) 0 (iotaA l0.length)).heap[w.heap.size + 1]? = some (.cells #[.int .i64 0, .int .i64 0] 27 (0, 0)) := blk_putRow HRB.out (by omega) _
      generalize putRow (Value.int .i64) w1 (w.heap.size + 1 + 1) 0 (iotaA l0.length) = w2 at hio hb2 hf2 hr2 ⊢
      clear HH HZB HRB HFB HBE HSELF
      have hsort := sortFunc_calls (fun a b => cf a - cf b) l0.length 130 #[.pointer (some ⟨w.heap.size, 0, none⟩)] rfl (w.heap.size + 1 + 1) 0 l0.length (iotaA l0.length) w2 (enters_of Tryz.func130 (by kernel_rfl) rfl)
        (fun m dk _ x y hx0 hx1 hy0 hy1 => meanCmp_calls w.heap.size g lb cf l0.length w ((putRow (Value.int .i64) w2 (w.heap.size + 1 + 1) 0 dk).drewN m) eg HQ.out
          (pw_below_drewN (below_putRow hb2 (by omega) dk) m) ((blk_cell (blk_drewN (blk_putRow hf2 (by omega) dk) m) 0).trans rfl) x y hx0 hx1 hy0 hy1 (HOK.out.c1 x hx0 hx1) (HOK.out.c2 x hx0 hx1) (HOK.out.c1 y hy0 hy1) (HOK.out.c2 y hy0 hy1))
        hio (fun j hj => by rw [iotaA_size] at hj; rw [getElem!_pos _ j (by rw [iotaA_size]; exact hj)]; simp [iotaA]; omega) (by rw [iotaA_size]; exact HN.out)
      rw [iotaA_size] at hsort
      have HSORT := Sd.mk hsort
      have HB2 := Sd.mk hb2
      have HF2 := Sd.mk hf2
      have HR2 := Sd.mk hr2
      have HIO2 := Sd.mk hio
      clear hsort hb2 hf2 hr2 hio hltz
      go_wp2_with (go_at_call 129; refine HSORT.out.mono ?_; rintro e w3 ⟨rfl, m3, rfl⟩)
      have hD : orderOf cf l0.length = Sort.insertionSort (ltC fun a b => cf a - cf b) (iotaA l0.length) 0 l0.length := rfl
      rw [← hD]
      have hholds := Go.Sort.holds_putRow (Value.int .i64) w2 (w.heap.size + 1 + 1) 0 (iotaA l0.length) (orderOf cf l0.length) HIO2.out (by rw [order_size, iotaA_size])
      have hsz : (putRow (Value.int .i64) w2 (w.heap.size + 1 + 1) 0 (orderOf cf l0.length)).heap.size = w2.heap.size := Go.Sort.size_putRow _ _ _ _ _
      have h5lt : w.heap.size + 1 + 1 < w2.heap.size := by
        have := World.block_lt_of_cell? _ _ ((hholds 0 (by rw [order_size]; exact hpos)).1)
        rw [hsz] at this; exact this
      have hout : OutW w w.heap.size (w.heap.size + 1) (w.heap.size + 1 + 1) w2.heap.size g lb (orderOf cf l0.length)
          (((putRow (Value.int .i64) w2 (w.heap.size + 1 + 1) 0 (orderOf cf l0.length)).drewN m3).alloc (.cells #[.int .i64 0, .int .i64 0] 27)) 0 0 := by
        refine ⟨below_alloc (pw_below_drewN (below_putRow HB2.out (by omega) _) m3) _, blk_alloc (blk_drewN (blk_putRow HF2.out (by omega) _) m3) _, blk_alloc (blk_drewN (blk_putRow HR2.out (by omega) _) m3) _, fun j hj => ?_, ?_⟩
        · have := (hholds j hj).1
          simp only [Nat.zero_add] at this
          exact pw_cell_below (below_alloc (pw_below_drewN (Below.refl _ _) m3) _) this
        · have := blk_new ((putRow (Value.int .i64) w2 (w.heap.size + 1 + 1) 0 (orderOf cf l0.length)).drewN m3) (.cells #[.int .i64 0, .int .i64 0] 27)
          simpa [hsz] using this
      generalize ((putRow (Value.int .i64) w2 (w.heap.size + 1 + 1) 0 (orderOf cf l0.length)).drewN m3).alloc (.cells #[.int .i64 0, .int .i64 0] 27) = w4 at hout ⊢
      generalize w2.heap.size = Bo at hout h5lt ⊢
      have HOUT := Sd.mk hout
      have hsD := order_size cf l0.length
      have hAll := order_in cf l0.length
      have HSD := Sd.mk hsD
      have HALL := Sd.mk hAll
      have HPERM := Sd.mk (order_perm cf l0.length)
      have HFIN : Sd (meanLo cf l0 = minF (lowQ cf l0 (orderOf cf l0.length)) l0.length ∧ meanHi cf l0 = maxF (highQ cf l0 (orderOf cf l0.length)) l0.length) := ⟨⟨rfl, rfl⟩⟩
      clear hout hholds hsz hD HSORT HB2 HF2 HR2 HIO2 hsD hAll
      generalize orderOf cf l0.length = D at HOUT HSD HALL HFIN HPERM
      go_loopg [8] (l0.length + 1) (fun gq v8 wr => ∃ cut : Nat, v8 = .int .i64 cut ∧ cut ≤ l0.length + 1 ∧ l0.length + 1 - cut ≤ gq ∧ Sd (OutW w w.heap.size (w.heap.size + 1) (w.heap.size + 1 + 1) Bo g lb D wr (atCut (lowQ cf l0 D) minF cut) (atCut (highQ cf l0 D) maxF cut)))
      case atStart => exact ⟨0, rfl, by omega, by omega, HOUT⟩
      case round =>
        obtain ⟨cut, rfl, hcut, hgq, HO⟩ := hrel
        by_cases hle : cut ≤ l0.length
        · have hlez : (cut : Int) ≤ (l0.length : Int) := by omega
          go_wp2
          have hsz2 : wr.heap.size + 1 = (wr.alloc (.cells #[.int .i64 0, .int .i64 0] 163)).heap.size := by simp
          have hmw : MeanW wr ((wr.alloc (.cells #[.int .i64 0, .int .i64 0] 163)).alloc (.cells #[.int .i64 0, .int .i64 0] 163)) wr.heap.size (wr.heap.size + 1) 0 0 0 0 :=
            ⟨below_alloc (below_alloc (Below.refl _ _) _) _, blk_alloc (blk_new wr _) _, by rw [hsz2]; exact blk_new _ _⟩
          have HMW := Sd.mk hmw
          clear hmw hsz2
          generalize (wr.alloc (.cells #[.int .i64 0, .int .i64 0] 163)).alloc (.cells #[.int .i64 0, .int .i64 0] 163) = w5 at HMW ⊢
          obtain ⟨wo, rfl⟩ : ∃ wo : World, wo = wr := ⟨_, rfl⟩
          go_loopg [41] l0.length (fun gq2 v41 wr2 => ∃ at_ : Nat, v41 = .int .i64 at_ ∧ at_ ≤ l0.length ∧ l0.length - at_ ≤ gq2 ∧ Sd (MeanW wo wr2 wo.heap.size (wo.heap.size + 1) (lowN cf l0 D cut at_) (lowD l0 D cut at_) (highN cf l0 D cut at_) (highD l0 D cut at_)))
          case atStart => exact ⟨0, rfl, by omega, by omega, HMW⟩
          case round =>
            obtain ⟨at_, rfl, hat, hgq2, HM⟩ := hrel
            by_cases hlt2 : at_ < l0.length
            · have hltz2 : (at_ : Int) < (l0.length : Int) := by omega
              have hm := HM.out
              have ho := HO.out.later hm.below
              have hj := HALL.out at_ (by rw [HSD.out]; exact hlt2)
              have hord := ho.row at_ (by rw [HSD.out]; exact hlt2)
              have hfn : wr.cell? ⟨w.heap.size, 0, none⟩ = some (.func (.func g) #[] lb) := (blk_cell ho.fn 0).trans rfl
              have hrg := mean_ranges HOK.out D HALL.out HSD.out cut at_ hlt2
              have hb1 := mean_sums HOK.out D HALL.out HSD.out cut at_ hat
              have hstep : lowN cf l0 D cut (at_ + 1) = lowN cf l0 D cut at_ + cf D[at_]! * wX l0 D cut at_ ∧ lowD l0 D cut (at_ + 1) = lowD l0 D cut at_ + wX l0 D cut at_ ∧ highN cf l0 D cut (at_ + 1) = highN cf l0 D cut at_ + cf D[at_]! * wY l0 D cut at_ ∧ highD l0 D cut (at_ + 1) = highD l0 D cut at_ + wY l0 D cut at_ := ⟨rfl, rfl, rfl, rfl⟩
              have HSTEP := Sd.mk hstep
              clear hstep
              have hX : wX l0 D cut at_ = if (at_ : Int) < (cut : Int) then (rd_T27 l0 D[at_]!).f1 else (rd_T27 l0 D[at_]!).f0 := rfl
              have hY : wY l0 D cut at_ = if (at_ : Int) < (cut : Int) then (rd_T27 l0 D[at_]!).f0 else (rd_T27 l0 D[at_]!).f1 := rfl
              have hcoef : ∀ W, Below wo.heap.size wo W → Calls Tryz.prog g (#[.int .i64 D[at_]!] ++ lb) W fun e w' => e = .returned (.int .i64 (cf D[at_]!)) ∧ ∃ q, w' = W.drewN q := fun W hW => HQ.out W (below_trans' HO.out.below hW) _ hj.1 hj.2
              obtain ⟨hj0, hj1⟩ := hj
              obtain ⟨ads, es, hs0, hs1⟩ := at_T27 (Kd.C_below HR0.out ho.below) D[at_]! hj0 hj1
              cases es
              generalize wX l0 D cut at_ = X at *
              generalize wY l0 D cut at_ = Y at *
              generalize cf D[at_]! = ck at *
              generalize rd_T27 l0 D[at_]! = sp at *
              generalize D[at_]! = kk at *
              have HC := Sd.mk hcoef
              have HX := Sd.mk hX
              have HY := Sd.mk hY
              have HRG := Sd.mk hrg
              have HB1 := Sd.mk hb1
              have hlen12 := HN.out
              clear hcoef hX hY hrg hb1 ho hm
              go_upto_region 16 with (fail)
              go_quiet (fail)
              go_upto_if 58 with (fail)
              go_cut [13, 14] (fun v13 v14 wx => v13 = .int .i64 X ∧ v14 = .int .i64 Y ∧ wr.drewN nq = wx)
              case first =>
                by_cases hac : (at_ : Int) < (cut : Int)
                · go_wp2
                  go_meet
                  exact ⟨by rw [HX.out, if_pos hac], by rw [HY.out, if_pos hac], rfl⟩
                · go_wp2
                  go_meet
                  exact ⟨by rw [HX.out, if_neg (show ¬ (at_ : Int) < (cut : Int) by omega)], by rw [HY.out, if_neg (show ¬ (at_ : Int) < (cut : Int) by omega)], rfl⟩
              case rest =>
                obtain ⟨rfl, rfl, rfl⟩ := hcut
                have hm := HM.out.drewN nq
                clear hfn hord hs0 hs1 HM HX HY
                obtain ⟨hX1, hY1, hp1, hp2⟩ := HRG.out
                obtain ⟨hs1, hs2, hs3, hs4⟩ := HB1.out
                obtain ⟨es1, es2, es3, es4⟩ := HSTEP.out
                have HW1 := Sd.mk (wrap_two es1 hs1.1 hs1.2 hp1.1 hp1.2)
                have HW2 := Sd.mk (wrap_one es2 hs2.1 hs2.2 hX1.1 hX1.2)
                have HW3 := Sd.mk (wrap_two es3 hs3.1 hs3.2 hp2.1 hp2.2)
                have HW4 := Sd.mk (wrap_one es4 hs4.1 hs4.2 hY1.1 hY1.2)
                clear hX1 hY1 hp1 hp2 hs1 hs2 hs3 hs4 es1 es2 es3 es4 HSTEP HRG HB1
                generalize wr.drewN nq = wn at hm ⊢
                have HM2 := Sd.mk hm
                have h90 : wn.cell? ⟨wo.heap.size, 0, none⟩ = some (.int .i64 (lowN cf l0 D cut at_)) := (blk_cell hm.b9 0).trans rfl
                have h91 : wn.cell? ⟨wo.heap.size, 1, none⟩ = some (.int .i64 (lowD l0 D cut at_)) := (blk_cell hm.b9 1).trans rfl
                have h92 := blk_frozen hm.b9 0
                have h93 := blk_frozen hm.b9 1
                have hfn : wn.cell? ⟨w.heap.size, 0, none⟩ = some (.func (.func g) #[] lb) := (blk_cell (HO.out.later hm.below).fn 0).trans rfl
                have hc1 := HC.out wn.drew (below_drew hm.below)
                clear hm
                go_upto_region 19 with (fail)
                go_cut [12] (fun v12 wx => v12 = .int .i64 kk ∧ Sd (MeanW wo wx wo.heap.size (wo.heap.size + 1) (lowN cf l0 D cut (at_ + 1)) (lowD l0 D cut (at_ + 1)) (highN cf l0 D cut at_) (highD l0 D cut at_)))
                case first =>
                  clear HSD HALL HFIN HOUT HN HO HC HQ HR0 HOK
                  go_region_with (go_at_fn g; refine hc1.mono ?_; rintro e w' ⟨rfl, q, rfl⟩)
                  all_goals
                    go_wp2_with fail
                    go_meet
                    refine ⟨rfl, ⟨?_⟩⟩
                    rw [HW1.out, HW2.out]
                    exact (HM2.out.drewN _).put9 (Nat.le_refl _) (by omega) _ _
                case rest =>
                  clear h90 h91 h92 h93 hfn hc1 HM2
                  rename_i wn2
                  obtain ⟨rfl, HM2⟩ := hcut
                  have hm := HM2.out
                  have h90 : wc.cell? ⟨wo.heap.size + 1, 0, none⟩ = some (.int .i64 (highN cf l0 D cut at_)) := (blk_cell hm.b10 0).trans rfl
                  have h91 : wc.cell? ⟨wo.heap.size + 1, 1, none⟩ = some (.int .i64 (highD l0 D cut at_)) := (blk_cell hm.b10 1).trans rfl
                  have h92 := blk_frozen hm.b10 0
                  have h93 := blk_frozen hm.b10 1
                  have hfn : wc.cell? ⟨w.heap.size, 0, none⟩ = some (.func (.func g) #[] lb) := (blk_cell (HO.out.later hm.below).fn 0).trans rfl
                  have hc1 := HC.out wc.drew (below_drew hm.below)
                  clear hm
                  go_upto_region 20 with (fail)
                  go_region_with (go_at_fn g; refine hc1.mono ?_; rintro e w' ⟨rfl, q, rfl⟩)
                  all_goals
                    have hm4 : MeanW wo (((wc.drewN (1 + q)).setCell ⟨wo.heap.size + 1, 0, none⟩ (.int .i64 (IntKind.i64.wrap (highN cf l0 D cut at_ + IntKind.i64.wrap (ck * Y))))).setCell ⟨wo.heap.size + 1, 1, none⟩ (.int .i64 (IntKind.i64.wrap (highD l0 D cut at_ + Y)))) wo.heap.size (wo.heap.size + 1) (lowN cf l0 D cut (at_ + 1)) (lowD l0 D cut (at_ + 1)) (highN cf l0 D cut (at_ + 1)) (highD l0 D cut (at_ + 1)) := by
                      rw [HW3.out, HW4.out]
                      exact (HM2.out.drewN _).put10 (by omega) (by omega) _ _
                    have HM4 := Sd.mk hm4
                    clear hm4 h90 h91 h92 h93 hfn hc1
                    generalize ((wc.drewN (1 + q)).setCell ⟨wo.heap.size + 1, 0, none⟩ (.int .i64 (IntKind.i64.wrap (highN cf l0 D cut at_ + IntKind.i64.wrap (ck * Y))))).setCell ⟨wo.heap.size + 1, 1, none⟩ (.int .i64 (IntKind.i64.wrap (highD l0 D cut at_ + Y))) = w9 at HM4 ⊢
                    go_wp2
                    go_roundg (l0.length - (at_ + 1))
                    case measure => omega
                    case rel => exact ⟨at_ + 1, by go_num, by omega, by omega, HM4⟩
            · have hltz2 : ¬ (at_ : Int) < (l0.length : Int) := by omega
              obtain rfl : at_ = l0.length := by omega
              have hm := HM.out
              have ho := HO.out.later hm.below
              have hsm := mean_sums HOK.out D HALL.out HSD.out cut l0.length (Nat.le_refl _)
              have hpl : 0 < lowD l0 D cut l0.length ∧ 0 < highD l0 D cut l0.length := mean_pos HOK.out D HALL.out HSD.out HPERM.out cut
              have hq58 : ∀ W, Calls Tryz.prog 76 #[.int .i64 (lowN cf l0 D cut l0.length), .int .i64 (lowD l0 D cut l0.length)] W fun e w' => e = .returned (.int .i64 (lowQ cf l0 D cut)) ∧ ∃ q, w' = W.drewN q := fun W =>
                (b_down.calls _ _ _ W (down_f _ _ hpl.1 (by omega) (by omega))).mono fun e w' ⟨h1, h2⟩ => ⟨h1, h2.out⟩
              have hq59 : ∀ W, Calls Tryz.prog 30 #[.int .i64 (highN cf l0 D cut l0.length), .int .i64 (highD l0 D cut l0.length)] W fun e w' => e = .returned (.int .i64 (highQ cf l0 D cut)) ∧ ∃ q, w' = W.drewN q := fun W =>
                (b_up.calls _ _ _ W (up_f _ _ hpl.2 (by omega) (by omega))).mono fun e w' ⟨h1, h2⟩ => ⟨h1, h2.out⟩
              have h90 : wr.cell? ⟨wo.heap.size, 0, none⟩ = some (.int .i64 (lowN cf l0 D cut l0.length)) := (blk_cell hm.b9 0).trans rfl
              have h91 : wr.cell? ⟨wo.heap.size, 1, none⟩ = some (.int .i64 (lowD l0 D cut l0.length)) := (blk_cell hm.b9 1).trans rfl
              have h92 : wr.cell? ⟨wo.heap.size + 1, 0, none⟩ = some (.int .i64 (highN cf l0 D cut l0.length)) := (blk_cell hm.b10 0).trans rfl
              have h93 : wr.cell? ⟨wo.heap.size + 1, 1, none⟩ = some (.int .i64 (highD l0 D cut l0.length)) := (blk_cell hm.b10 1).trans rfl
              have H58 := Sd.mk hq58
              have H59 := Sd.mk hq59
              have HO2 := Sd.mk ho
              have ho0 : wr.cell? ⟨Bo, 0, none⟩ = some (.int .i64 (atCut (lowQ cf l0 D) minF cut)) := (blk_cell ho.out 0).trans rfl
              have ho1 : wr.cell? ⟨Bo, 1, none⟩ = some (.int .i64 (atCut (highQ cf l0 D) maxF cut)) := (blk_cell ho.out 1).trans rfl
              have ho2 := blk_frozen ho.out 0
              have ho3 := blk_frozen ho.out 1
              clear hq58 hq59 hm ho hsm hpl
              go_upto_region 22 with (fail)
              go_quiet (first | (go_at_call 76; exact Calls.quiet_of (H58.out _)) | (go_at_call 30; exact Calls.quiet_of (H59.out _)))
              have ho4 := HO2.out.drewN nq
              have HO4 := Sd.mk ho4
              have hBo : w.heap.size ≤ Bo := by omega
              cases cut with
              | zero =>
                have hcb : (((0 : Nat) : Int) == 0) = true := rfl
                have e1 : atCut (lowQ cf l0 D) minF (0 + 1) = lowQ cf l0 D 0 := rfl
                have e2 : atCut (highQ cf l0 D) maxF (0 + 1) = highQ cf l0 D 0 := rfl
                have E12 := Sd.mk (And.intro e1 e2)
                clear e1 e2 H58 H59 ho4
                generalize lowQ cf l0 D 0 = q1 at *
                generalize highQ cf l0 D 0 = q2 at *
                have hcz : ((0 : Nat) : Int) = 0 := rfl
                rw [hcz]
                generalize wr.drewN nq = w8 at *
                have ho0' : w8.cell? ⟨Bo, 0, none⟩ = some (.int .i64 0) := (blk_cell HO4.out.out 0).trans rfl
                have ho1' : w8.cell? ⟨Bo, 1, none⟩ = some (.int .i64 0) := (blk_cell HO4.out.out 1).trans rfl
                have ho2' := blk_frozen HO4.out.out 0
                have ho3' := blk_frozen HO4.out.out 1
                go_wp2
                go_roundg l0.length
                case measure => omega
                case rel => exact ⟨1, by first | rfl | go_num, by omega, by omega, ⟨by rw [E12.out.1, E12.out.2]; exact (HO4.out.put hBo (by omega) (by omega) (by omega) q1 q2).put hBo (by omega) (by omega) (by omega) q1 q2⟩⟩
              | succ cc =>
                have hcb : (((cc : Int) + 1) == 0) = false := by simp; omega
                have e1 : atCut (lowQ cf l0 D) minF (cc + 1 + 1) = if lowQ cf l0 D (cc + 1) < atCut (lowQ cf l0 D) minF (cc + 1) then lowQ cf l0 D (cc + 1) else atCut (lowQ cf l0 D) minF (cc + 1) := rfl
                have e2 : atCut (highQ cf l0 D) maxF (cc + 1 + 1) = if atCut (highQ cf l0 D) maxF (cc + 1) < highQ cf l0 D (cc + 1) then highQ cf l0 D (cc + 1) else atCut (highQ cf l0 D) maxF (cc + 1) := rfl
                have E12 := Sd.mk (And.intro e1 e2)
                clear e1 e2 H58 H59 ho4
                generalize lowQ cf l0 D (cc + 1) = q1 at *
                generalize highQ cf l0 D (cc + 1) = q2 at *
                generalize atCut (lowQ cf l0 D) minF (cc + 1) = x1 at *
                generalize atCut (highQ cf l0 D) maxF (cc + 1) = y1 at *
                rw [show ((cc + 1 : Nat) : Int) = (cc : Int) + 1 from by omega]
                generalize wr.drewN nq = w8 at *
                have ho0' : w8.cell? ⟨Bo, 0, none⟩ = some (.int .i64 x1) := (blk_cell HO4.out.out 0).trans rfl
                have ho1' : w8.cell? ⟨Bo, 1, none⟩ = some (.int .i64 y1) := (blk_cell HO4.out.out 1).trans rfl
                have ho2' := blk_frozen HO4.out.out 0
                have ho3' := blk_frozen HO4.out.out 1
                have hr1 : (cc : Int) + 1 ≤ 12 := by have := HN.out; omega
                have hr0 : 0 ≤ (cc : Int) := by omega
                go_wp2
                all_goals
                  go_roundg (l0.length - (cc + 1))
                  case measure => omega
                  case rel => exact ⟨cc + 1 + 1, by first | rfl | go_num, by omega, by omega, ⟨by rw [E12.out.1, E12.out.2]; (first | rw [if_pos (show q1 < x1 by assumption)] | rw [if_neg (show ¬ q1 < x1 by omega)]); (first | rw [if_pos (show y1 < q2 by assumption)] | rw [if_neg (show ¬ y1 < q2 by omega)]); exact HO4.out.put hBo (by omega) (by omega) (by omega) _ _⟩⟩
        · have hlez : ¬ (cut : Int) ≤ (l0.length : Int) := by omega
          obtain rfl : cut = l0.length + 1 := by omega
          have ho := HO.out
          have c0 : wr.cell? ⟨Bo, 0, none⟩ = some (.int .i64 (meanLo cf l0)) := by rw [HFIN.out.1]; exact (blk_cell ho.out 0).trans rfl
          have c1 : wr.cell? ⟨Bo, 1, none⟩ = some (.int .i64 (meanHi cf l0)) := by rw [HFIN.out.2]; exact (blk_cell ho.out 1).trans rfl
          have r0 : wr.cell? ⟨w.heap.size + 1, 0, none⟩ = some (.int .i64 0) := (blk_cell ho.res 0).trans rfl
          have r1 : wr.cell? ⟨w.heap.size + 1, 1, none⟩ = some (.int .i64 0) := (blk_cell ho.res 1).trans rfl
          have f0 := blk_frozen ho.res 0
          have f1 := blk_frozen ho.res 1
          clear ho
          go_wp2
          refine bodyPost_ret (results_cell_row rfl _ _ (w.heap.size + 1) 27 #[.int .i64 (meanLo cf l0), .int .i64 (meanHi cf l0)] (0, 0) _ rfl (blk_put (cs := #[.int .i64 (meanLo cf l0), .int .i64 0]) (blk_put (cs := #[.int .i64 0, .int .i64 0]) HO.out.res 0 _ rfl) 1 _ rfl) Tryz.underlying27 (by decide) (by kernel_rfl)) rfl ?_
          exact ⟨rfl, below_set (below_set HO.out.below (by omega)) (by omega)⟩
end
section
def meanOkB (cf : Int → Int) (l : List S27) : Bool :=
  decide (l.length ≤ 12) && ((List.range l.length).all fun j => decide (0 ≤ (rd_T27 l (j : Int)).f0) && decide ((rd_T27 l (j : Int)).f0 ≤ (rd_T27 l (j : Int)).f1) && decide ((rd_T27 l (j : Int)).f1 ≤ 1000000000) && decide (-100000 ≤ cf j) && decide (cf j ≤ 100000)) && decide (0 < MeanMath.lsum S27.f0 l)
theorem meanOkB_iff {cf : Int → Int} {l : List S27} : meanOkB cf l = true ↔ MeanOk cf l := by
  unfold meanOkB
  simp only [Bool.and_eq_true, decide_eq_true_eq, List.all_eq_true, List.mem_range]
  constructor
  · rintro ⟨⟨h1, h2⟩, h3⟩
    have key : ∀ k : Int, 0 ≤ k → k < l.length → ∃ j : Nat, j < l.length ∧ k = j := fun k h0 h1 => ⟨k.toNat, by omega, by omega⟩
    refine ⟨h1, ?_, ?_, ?_, ?_, ?_, h3⟩ <;> intro k h0 hl <;> obtain ⟨j, hj, rfl⟩ := key k h0 hl <;> have := h2 j hj <;> omega
  · intro h
    refine ⟨⟨h.n12, fun j hj => ?_⟩, h.pos⟩
    have h0 : (0 : Int) ≤ j := by omega
    have hl : (j : Int) < l.length := by omega
    exact ⟨⟨⟨⟨h.lo _ h0 hl, h.le _ h0 hl⟩, h.hi _ h0 hl⟩, h.c1 _ h0 hl⟩, h.c2 _ h0 hl⟩
end
section
structure F113 where
  fn : Nat
  lb : Array Value
  tg : S27
def kfn : Kd (Nat × Array Value) := Kd.scalar (fun x => .func (.func x.1) #[] x.2) (fun _ => rfl)
def k113 : Kd F113 := Kd.iso (Kd.pair kfn k27) (fun x : F113 => ((x.fn, x.lb), x.tg))
theorem k113_open {w : World} {x : F113} {cs : List Value} (h : k113.K w x cs) : cs = [.func (.func x.fn) #[] x.lb, .int .i64 x.tg.f0, .int .i64 x.tg.f1] := by
  obtain ⟨_, _, rfl, rfl, h2⟩ := h
  rw [k27_open h2]; rfl
theorem k113_mkM (w : World) (base : Nat) (ok : Nat → Prop) (x : F113) : k113.M w base ok x [.func (.func x.fn) #[] x.lb, .int .i64 x.tg.f0, .int .i64 x.tg.f1] := ⟨[.func (.func x.fn) #[] x.lb], [.int .i64 x.tg.f0, .int .i64 x.tg.f1], rfl, rfl, k27_mkM _ _ _ _⟩
theorem info113 : (Tryz.prog.info? 113).map (fun i => (i.zero, i.size, i.bytes)) = some (some (.agg #[.nilFunc, .int .i64 0, .int .i64 0]), 3, 24) := by kernel_rfl
def putT : Bool × List (List Nat × List Nat) := (true, [([], []), ([], []), ([1], [1]), ([2], [2]), ([], []), ([4], [4]), ([3, 5], [3, 5]), ([0, 0, 1, 2, 3, 4, 5, 6], [0]), ([7, 6, 6, 0, 1, 2, 3, 4, 5, 6], [6, 7])])
def putB : List Nat := [0, 0, 2, 6, 0, 16, 62, 1, 255]
theorem put_tab : rtab .any (opsOf Tryz.f107 1) = putT := by kernel_rfl
theorem put_bits : waitsOk putT.2 putB = true := by kernel_rfl
theorem put_calls (w W : World) (H : Nat) (A : Option Addr) (n c : Nat) (xs : List F113) (x : F113) (hb : Below w.heap.size w W) (hH : w.heap.size ≤ H) (hB : W.heap[H]? = some (.cells #[.slice A n c] 109 (0, 0)))
    (hR : Kd.R k113 113 W w.heap.size (fun _ => True) (.slice A n c) xs) (hl : (xs.length + 1) * 24 ≤ 140737488355328) :
    Calls Tryz.prog 107 #[.pointer (some ⟨H, 0, none⟩), .agg #[.func (.func x.fn) #[] x.lb, .int .i64 x.tg.f0, .int .i64 x.tg.f1]] W fun e w' => e = .returned (.tuple #[]) ∧ Below w.heap.size w w' ∧ (∃ v1, w'.heap[H]? = some (.cells #[v1] 109 (0, 0)) ∧ Kd.R k113 113 w' w.heap.size (fun _ => True) v1 (xs ++ [x])) ∧
      ∀ g cs t, W.heap[g]? = some (.cells cs t (0, 0)) → t ≠ 113 → g ≠ H → w'.heap[g]? = some (.cells cs t (0, 0)) := by
  have HH := Sd.mk hH
  have HL := Sd.mk hl
  have HS := Sd.mk (Nat.le_refl w.heap.size)
  have BH := Sd.mk (blk_alloc hB (.cells #[.func (.func x.fn) #[] x.lb, .int .i64 x.tg.f0, .int .i64 x.tg.f1] 113))
  have BX := Sd.mk (blk_new W (.cells #[.func (.func x.fn) #[] x.lb, .int .i64 x.tg.f0, .int .i64 x.tg.f1] 113))
  have HB := Sd.mk (below_alloc hb (.cells #[.func (.func x.fn) #[] x.lb, .int .i64 x.tg.f0, .int .i64 x.tg.f1] 113))
  have HR := Sd.mk (Kd.R_alloc hR (.cells #[.func (.func x.fn) #[] x.lb, .int .i64 x.tg.f0, .int .i64 x.tg.f1] 113))
  have NEX := Sd.mk (show some W.heap.size ≠ (Value.slice A n c).ownBlock from fun hk => Nat.lt_irrefl _ (Kd.R_lt hR _ hk.symm))
  have HOTH := Sd.mk (fun g cs t (hg : W.heap[g]? = some (.cells cs t (0, 0))) => blk_alloc hg (.cells #[.func (.func x.fn) #[] x.lb, .int .i64 x.tg.f0, .int .i64 x.tg.f1] 113))
  have NHX := Sd.mk (blk_lt hB)
  clear hH hl hb hR hB
  go_enter Tryz.func107, Tryz.ntmps107
  go_wp2
  generalize hWX : W.alloc (.cells #[.func (.func x.fn) #[] x.lb, .int .i64 x.tg.f0, .int .i64 x.tg.f1] 113) = WX at *
  generalize hXX : W.heap.size = X at *
  clear hXX
  clear hWX
  refine start_ (n := 9) (S := fun w' => w'.cell? ⟨H, 0, none⟩ = some (.slice A n c) ∧ w'.cell? ⟨X, 0, none⟩ = some (.func (.func x.fn) #[] x.lb) ∧ w'.cell? ⟨X, 1, none⟩ = some (.int .i64 x.tg.f0) ∧ w'.cell? ⟨X, 2, none⟩ = some (.int .i64 x.tg.f1)) (ds := [8]) #[false, false, false, false, false, false, false, false, false] (by kernel_rfl) rfl rfl ⟨(blk_cell BH.out 0).trans rfl, (blk_cell BX.out 0).trans rfl, (blk_cell BX.out 1).trans rfl, (blk_cell BX.out 2).trans rfl⟩ (fun hHeld => ?_); refine with_tabW put_tab put_bits (fun HT_ HW_ => ?_)
  replace BH := Sd.mk (blk_drew BH.out)
  replace BX := Sd.mk (blk_drew BX.out)
  replace HB := Sd.mk (below_drew1 HB.out)
  replace HR := Sd.mk (Kd.R_drew HR.out)
  replace HOTH := Sd.mk (fun g cs t hg => blk_drew (HOTH.out g cs t hg))
  generalize WX.drew = W0 at BH BX HB HR HOTH hHeld ⊢
  refine pure_ (i := 0) (N := some 4) (v := ?_) (a' := ?_) #[true, false, false, false, false, false, false, false, false] rfl rfl (any_of HT_.out (by kernel_rfl)) (fun _ _ _ h => h) (Or.inl ⟨by rfl, ?_⟩) ?_ ?_
  rotate_left
  · intro w'
    go_simp
    with_reducible rfl
  rotate_left
  · simp only [Act.put, List.setIfInBounds_toArray, List.set_cons_zero, List.set_cons_succ, i64_w, i32_w]
    rfl
  refine pure_ (i := 1) (N := some 5) (v := ?_) (a' := ?_) #[true, true, false, false, false, false, false, false, false] rfl rfl (any_of HT_.out (by kernel_rfl)) (fun _ _ _ h => h) (Or.inl ⟨by rfl, ?_⟩) ?_ ?_
  rotate_left
  · intro w'
    go_simp
    with_reducible rfl
  rotate_left
  · simp only [Act.put, List.setIfInBounds_toArray, List.set_cons_zero, List.set_cons_succ, i64_w, i32_w]
    rfl
  refine pure_ (i := 2) (N := some 6) (v := ?_) (a' := ?_) #[true, true, true, false, false, false, false, false, false] rfl rfl (any_of HT_.out (by kernel_rfl)) (fun _ _ _ h => h) (Or.inl ⟨by rfl, ?_⟩) ?_ ?_
  rotate_left
  · intro w'
    go_simp
    with_reducible rfl
  rotate_left
  · simp only [Act.put, List.setIfInBounds_toArray, List.set_cons_zero, List.set_cons_succ, i64_w, i32_w]
    rfl
  refine take_ (i := 3) (N := some 7) (v := ?_) (a' := ?_) #[true, true, true, true, false, false, false, false, false] rfl rfl (take_ofW HT_.out HW_.out (by kernel_rfl)) (fun _ _ _ h => h) (Or.inl ⟨by rfl, ?_⟩) hHeld ?_ ?_
  rotate_left
  · rintro w' ⟨s0, s1, s2, s3⟩
    go_simp
    with_reducible rfl
  rotate_left
  · simp only [Act.put, List.setIfInBounds_toArray, List.set_cons_zero, List.set_cons_succ, i64_w, i32_w]
    rfl
  refine take_ (i := 4) (N := some 8) (v := ?_) (a' := ?_) #[true, true, true, true, true, false, false, false, false] rfl rfl (take_ofW HT_.out HW_.out (by kernel_rfl)) (fun _ _ _ h => h) (Or.inl ⟨by rfl, ?_⟩) hHeld ?_ ?_
  rotate_left
  · rintro w' ⟨s0, s1, s2, s3⟩
    go_simp
    with_reducible rfl
  rotate_left
  · simp only [Act.put, List.setIfInBounds_toArray, List.set_cons_zero, List.set_cons_succ, i64_w, i32_w]
    rfl
  refine one_ (i := 5) (N := some 9) #[true, true, true, true, true, true, false, false, false] rfl rfl (one_of HT_.out (by kernel_rfl)) (by decide) (fun K hK => ?_)
  refine value_ (w1 := ?_) (v := ?_) (by rfl) rfl ?_ ?_
  rotate_left 2
  · go_simp
    constructor
    · rfl
    · rfl
  refine hK.out _ _ ⟨(blk_cell (blk_alloc BH.out _) 0).trans rfl, (blk_cell (blk_alloc BX.out _) 0).trans rfl, (blk_cell (blk_alloc BX.out _) 1).trans rfl, (blk_cell (blk_alloc BX.out _) 2).trans rfl⟩ (fun hHeld => ?_)
  clear hK K
  refine norm_ (a' := ?_) ?_ ?_
  rotate_left
  · show Act.put _ (some 9) _ = _
    simp only [Act.put, List.setIfInBounds_toArray, List.set_cons_zero, List.set_cons_succ, i64_w, i32_w]
    rfl
  refine one_ (i := 6) (N := some 10) #[true, true, true, true, true, true, true, false, false] rfl rfl (one_of HT_.out (by kernel_rfl)) (by decide) (fun K hK => ?_)
  refine Kd.R_append_step k113 (w0 := w) w.heap.size (by rfl) (.tmp 7) (.tmp 9) 109 113 (.agg #[.nilFunc, .int .i64 0, .int .i64 0]) 24 rfl Tryz.underlying109 info113 rfl (by decide) (by omega) (.slice A n c) xs x [.func (.func x.fn) #[] x.lb, .int .i64 x.tg.f0, .int .i64 x.tg.f1] (fun _ => True) (fun _ => False) rfl rfl ?aP (fun _ hk => hk.elim) ?aF ?aO ?aB ?aS ?aL ?_
  (case aP => exact k113_mkM _ _ _ x)
  (case aB => exact (by repeat (first | (with_reducible first | exact HB.out | apply below_alloc | apply pw_below_drewN | apply below_drew1) | exact HB.out)))
  (case aF => exact (fun _ _ => trivial))
  (case aO => exact (by (with_reducible repeat (first | apply Kd.R_alloc | apply Kd.R_drewN | apply Kd.R_drew)); exact HR.out))
  (case aS => exact Nat.le_trans HS.out (below_size HB.out))
  (case aL => exact HL.out)
  intro v1 w2 ho hb hg hat
  have HB2 := Sd.mk hb
  have HO := Sd.mk ho
  have hne := Kd.R_ne HR.out BH.out (by decide)
  have BH2 := Sd.mk (blk_grown BH.out hg (Kd.R_ne HR.out BH.out (by decide)))
  have BX2 := Sd.mk (blk_grown BX.out hg (fun hk => NEX.out hk))
  have HOTH2 := Sd.mk (fun g cs t hg' (ht : t ≠ 113) => blk_grown (HOTH.out g cs t hg') hg (Kd.R_ne HR.out (HOTH.out g cs t hg') (Ne.symm ht)))
  clear HB HR BH BX hb ho hat hg
  refine hK.out _ _ ⟨(blk_cell BH2.out 0).trans rfl, (blk_cell BX2.out 0).trans rfl, (blk_cell BX2.out 1).trans rfl, (blk_cell BX2.out 2).trans rfl⟩ (fun hHeld => ?_)
  clear hK K
  refine norm_ (a' := ?_) ?_ ?_
  rotate_left
  · show Act.put _ (some 10) _ = _
    simp only [Act.put, List.setIfInBounds_toArray, List.set_cons_zero, List.set_cons_succ, i64_w, i32_w]
    rfl
  refine pure_ (i := 7) (N := some 11) (v := ?_) (a' := ?_) #[true, true, true, true, true, true, true, true, false] rfl rfl (any_of HT_.out (by kernel_rfl)) (fun _ _ _ h => h) (Or.inl ⟨by rfl, ?_⟩) ?_ ?_
  rotate_left
  · intro w'
    go_simp
    with_reducible rfl
  rotate_left
  · simp only [Act.put, List.setIfInBounds_toArray, List.set_cons_zero, List.set_cons_succ, i64_w, i32_w]
    rfl
  have HO' := Sd.mk (Kd.R_types (t := 109) HO.out BH2.out (by decide))
  clear HO
  obtain ⟨A1, c1, rfl⟩ := Kd.R_slice HO'.out
  have hw0 : w2.cell? ⟨H, 0, none⟩ = some (.slice A n c) := (blk_cell BH2.out 0).trans rfl
  have hwf := blk_frozen BH2.out 0
  refine last_ (i := 8) (N := none) #[true, true, true, true, true, true, true, true, true] rfl rfl (one_of HT_.out (by kernel_rfl)) (by decide) (fun K hK => ?_)
  refine skip_ (w1 := ?_) (by rfl) rfl ?_ ?_
  rotate_left
  · go_simp
    rfl
  refine hK.out _ _ ?_
  clear hK K
  refine done_ (done_of HT_.out (by kernel_rfl)) ?_
  go_wp2
  go_end0
  refine ⟨rfl, below_set HB2.out HH.out, ⟨_, blk_put (cs := #[.slice A n c]) BH2.out 0 _ rfl, by have h_ := Kd.R_mono (ok' := fun _ => True) (Kd.R_far HO'.out (fun _ hk => hk.2) (.slice A1 (xs.length + 1) c1) (p := ⟨H, 0, none⟩)) (fun _ _ => trivial); simpa using h_⟩, ?_⟩
  · intro g cs t hg ht hne
    exact blk_far (HOTH2.out g cs t hg ht) hne _
theorem forms1_calls (I : Nat) (i : Int) (W : World) (hI : W.heap[I]? = some (.cells #[.int .i64 i] 3 (0, 0))) (x : Int) :
    Calls Tryz.prog 108 #[.int .i64 x, .pointer (some ⟨I, 0, none⟩)] W fun e w' => e = .returned (.int .i64 (if x = i then 1000 else 0)) ∧ ∃ q, w' = W.drewN q := by
  have h0 : W.cell? ⟨I, 0, none⟩ = some (.int .i64 i) := (blk_cell hI 0).trans rfl
  go_enter Tryz.func108, Tryz.ntmps108
  by_cases he : x = i
  · have heb : (x == i) = true := beq_iff_eq.mpr he
    go_wp2
    go_ret
    exact ⟨by simp [he], 0, rfl⟩
  · have heb : (x == i) = false := beq_eq_false_iff_ne.mpr he
    go_wp2
    go_ret
    exact ⟨by simp [he], 0, rfl⟩
theorem forms2_calls (P n : Nat) (s : ByteArray) (A1 : Option Addr) (c1 : Nat) (xs : List Int) (lo hi : Int) (W : World) (hP : W.heap[P]? = some (.cells #[.string s, .slice A1 xs.length c1, .int .i64 lo, .int .i64 hi] 77 (0, 0)))
    (hr : Kd.C (Kd.int .i64) W A1 xs.length xs) (x : Int) (hx0 : 0 ≤ x) (hx1 : x < xs.length) :
    Calls Tryz.prog 109 #[.int .i64 x, .pointer (some ⟨P, 0, none⟩)] W fun e w' => e = .returned (.int .i64 (rd xs x)) ∧ ∃ q, w' = W.drewN q := by
  obtain ⟨ae, rfl, hqx⟩ := Kd.at_int hr x hx0 hx1
  have h1 : W.cell? ⟨P, 0 + 1, none⟩ = some (.slice (some ae) xs.length c1) := (blk_cell hP 1).trans rfl
  go_enter Tryz.func109, Tryz.ntmps109
  go_wp2
  go_ret
  exact ⟨rfl, 0, rfl⟩
def FormAt (w W : World) (l2 : List S27) (l3 : List S77) (j : Nat) (f : F113) : Prop :=
  (j < l2.length → ∃ I, f = ⟨108, #[.pointer (some ⟨I, 0, none⟩)], rd_T27 l2 j⟩ ∧ W.heap[I]? = some (.cells #[.int .i64 j] 3 (0, 0))) ∧
  (l2.length ≤ j → ∃ P A1 c1, f = ⟨109, #[.pointer (some ⟨P, 0, none⟩)], (rd_T77 l3 ((j - l2.length : Nat) : Int)).f2⟩ ∧
    W.heap[P]? = some (.cells #[.string (rd_T77 l3 ((j - l2.length : Nat) : Int)).f0, .slice A1 (rd_T77 l3 ((j - l2.length : Nat) : Int)).f1.length c1, .int .i64 (rd_T77 l3 ((j - l2.length : Nat) : Int)).f2.f0, .int .i64 (rd_T77 l3 ((j - l2.length : Nat) : Int)).f2.f1] 77 (0, 0)) ∧
    Kd.C (Kd.int .i64) w A1 (rd_T77 l3 ((j - l2.length : Nat) : Int)).f1.length (rd_T77 l3 ((j - l2.length : Nat) : Int)).f1)
theorem FormAt.below {w W W' : World} {l2 : List S27} {l3 : List S77} {j : Nat} {f : F113} (h : FormAt w W l2 l3 j f) (hb : Below W.heap.size W W') : FormAt w W' l2 l3 j f := by
  refine ⟨fun hj => ?_, fun hj => ?_⟩
  · obtain ⟨I, e, hI⟩ := h.1 hj
    exact ⟨I, e, blk_below hI hb⟩
  · obtain ⟨P, A1, c1, e, hP, hC⟩ := h.2 hj
    exact ⟨P, A1, c1, e, blk_below hP hb, hC⟩
theorem FormAt.other {w W W' : World} {l2 : List S27} {l3 : List S77} {j : Nat} {f : F113} {H : Nat} {v : Value} (h : FormAt w W l2 l3 j f) (hH : W.heap[H]? = some (.cells #[v] 109 (0, 0)))
    (ho : ∀ g cs t, W.heap[g]? = some (.cells cs t (0, 0)) → t ≠ 113 → g ≠ H → W'.heap[g]? = some (.cells cs t (0, 0))) : FormAt w W' l2 l3 j f := by
  refine ⟨fun hj => ?_, fun hj => ?_⟩
  · obtain ⟨I, e, hI⟩ := h.1 hj
    exact ⟨I, e, ho _ _ _ hI (by decide) (by rintro rfl; rw [hH] at hI; simp at hI)⟩
  · obtain ⟨P, A1, c1, e, hP, hC⟩ := h.2 hj
    exact ⟨P, A1, c1, e, ho _ _ _ hP (by decide) (by rintro rfl; rw [hH] at hP; simp at hP), hC⟩
def coefOf (l2 : List S27) (l3 : List S77) (j : Nat) : Int → Int := if j < l2.length then (fun k => if k = j then 1000 else 0) else rd (rd_T77 l3 ((j - l2.length : Nat) : Int)).f1
theorem FormAt.coef {w W : World} {l2 : List S27} {l3 : List S77} {j : Nat} {f : F113} (h : FormAt w W l2 l3 j f) (hb : Below w.heap.size w W) (N : Int) (hN : l2.length ≤ j → N ≤ (rd_T77 l3 ((j - l2.length : Nat) : Int)).f1.length) :
    CoefQ f.fn f.lb (coefOf l2 l3 j) N W := by
  intro W' hb' x hx0 hx1
  unfold coefOf
  by_cases hj : j < l2.length
  · obtain ⟨I, rfl, hI⟩ := h.1 hj
    rw [if_pos hj]
    exact forms1_calls I j W' (blk_below hI hb') x
  · obtain ⟨P, A1, c1, rfl, hP, hC⟩ := h.2 (by omega)
    rw [if_neg hj]
    exact forms2_calls P 0 _ A1 c1 _ _ _ W' (blk_below hP hb') (Kd.C_below (Kd.C_below hC hb) hb') x hx0 (by have := hN (by omega); omega)
structure FormsW (wp w W : World) (cs : Array Value) (l2 : List S27) (l3 : List S77) (k : Nat) : Prop where
  below : Below w.heap.size w W
  batch : W.heap[w.heap.size]? = some (.cells cs 29 (0, 0))
  list : ∃ A c, ∃ xs : List F113, W.heap[w.heap.size + 1]? = some (.cells #[.slice A xs.length c] 109 (0, 0)) ∧ Kd.R k113 113 W w.heap.size (fun _ => True) (.slice A xs.length c) xs ∧ xs.length = k ∧ ∀ j (hj : j < xs.length), FormAt wp W l2 l3 j xs[j]
theorem forms_lx {a b n k : Nat} (h : (a + b + 1) * 24 ≤ 140737488355328) (hx : n = k) (hk : k < a + b) : (n + 1) * 24 ≤ 140737488355328 := Nat.le_trans (Nat.mul_le_mul_right 24 (by omega)) h
theorem FormsW.step {wp w wr W2 w3 : World} {cs : Array Value} {l2 : List S27} {l3 : List S77} {k : Nat} {A : Option Addr} {c : Nat} {xs : List F113} {x : F113} (h : FormsW wp w wr cs l2 l3 k)
    (hO : wr.heap[w.heap.size + 1]? = some (.cells #[.slice A xs.length c] 109 (0, 0))) (hxl : xs.length = k) (hF : ∀ j (hj : j < xs.length), FormAt wp wr l2 l3 j xs[j]) (hb2 : Below wr.heap.size wr W2)
    (hb3 : Below w.heap.size w w3) {v1 : Value} (hv1 : w3.heap[w.heap.size + 1]? = some (.cells #[v1] 109 (0, 0))) (hr1 : Kd.R k113 113 w3 w.heap.size (fun _ => True) v1 (xs ++ [x]))
    (hoth : ∀ g cs t, W2.heap[g]? = some (.cells cs t (0, 0)) → t ≠ 113 → g ≠ w.heap.size + 1 → w3.heap[g]? = some (.cells cs t (0, 0))) (hx : FormAt wp W2 l2 l3 k x) : FormsW wp w w3 cs l2 l3 (k + 1) := by
  obtain ⟨A1, c1, rfl⟩ := Kd.R_slice hr1
  have hO2 := blk_below hO hb2
  refine ⟨hb3, hoth _ _ _ (blk_below h.batch hb2) (by decide) (by omega), A1, c1, xs ++ [x], hv1, hr1, by simp [hxl], fun j hj => ?_⟩
  by_cases hjx : j < xs.length
  · rw [List.getElem_append_left hjx]
    exact ((hF j hjx).below hb2).other hO2 hoth
  · have hjk : j = k := by simp at hj; omega
    subst hjk
    rw [List.getElem_append_right (by omega)]
    simp only [hxl, Nat.sub_self, List.getElem_cons_zero]
    exact hx.other hO2 hoth
theorem forms_calls (A0_0 : Option Addr) (c0_0 : Nat) (l0_0 : List ByteArray) (A0_1 : Option Addr) (c0_1 : Nat) (l0_1 : List (S50)) (A0_2 : Option Addr) (c0_2 : Nat) (l0_2 : List (S27)) (A0_3 : Option Addr) (c0_3 : Nat) (l0_3 : List (S77)) (a0_4 : Int) (a0_5 : Int) (a0_6 : Int) (wp w : World) (hbp : Below wp.heap.size wp w) (hr0_0 : Kd.C Kd.string w A0_0 l0_0.length l0_0) (hc0_0 : l0_0.length ≤ c0_0) (hr0_1 : Kd.C k50 w A0_1 l0_1.length l0_1) (hc0_1 : l0_1.length ≤ c0_1) (hr0_2 : Kd.C k27 w A0_2 l0_2.length l0_2) (hc0_2 : l0_2.length ≤ c0_2) (hr0_3 : Kd.C k77 wp A0_3 l0_3.length l0_3) (hc0_3 : l0_3.length ≤ c0_3) (hl : (l0_2.length + l0_3.length + 1) * 24 ≤ 140737488355328) :
    Calls Tryz.prog 64 #[.agg #[.slice A0_0 l0_0.length c0_0, .slice A0_1 l0_1.length c0_1, .slice A0_2 l0_2.length c0_2, .slice A0_3 l0_3.length c0_3, .int .i64 a0_4, .int .i64 a0_5, .int .i64 a0_6]] w fun e w' => ∃ A c fs, e = .returned (.slice A (List.length fs) c) ∧ fs.length ≤ c ∧ Kd.C k113 w' A fs.length fs ∧ fs.length = l0_2.length + l0_3.length ∧ (∀ j (hj : j < fs.length), FormAt wp w' l0_2 l0_3 j fs[j]) ∧ Below w.heap.size w w' ∧ Kd.R k113 113 w' w.heap.size (fun _ => True) (.slice A fs.length c) fs := by
  have hW0 : FormsW wp w ((w.alloc (.cells #[.slice A0_0 l0_0.length c0_0, .slice A0_1 l0_1.length c0_1, .slice A0_2 l0_2.length c0_2, .slice A0_3 l0_3.length c0_3, .int .i64 a0_4, .int .i64 a0_5, .int .i64 a0_6] 29)).alloc (.cells #[.slice none 0 0] 109)) #[.slice A0_0 l0_0.length c0_0, .slice A0_1 l0_1.length c0_1, .slice A0_2 l0_2.length c0_2, .slice A0_3 l0_3.length c0_3, .int .i64 a0_4, .int .i64 a0_5, .int .i64 a0_6] l0_2 l0_3 0 := by
    refine ⟨below_alloc (below_alloc (Below.refl _ _) _) _, blk_alloc (blk_new w _) _, none, 0, [], ?_, ?_, rfl, fun j hj => absurd hj (by simp)⟩
    · have := blk_new (w.alloc (.cells #[.slice A0_0 l0_0.length c0_0, .slice A0_1 l0_1.length c0_1, .slice A0_2 l0_2.length c0_2, .slice A0_3 l0_3.length c0_3, .int .i64 a0_4, .int .i64 a0_5, .int .i64 a0_6] 29)) (.cells #[.slice none 0 0] 109)
      simpa using this
    · exact Kd.R_nil _ _ _ _ _
  have HW0 := Sd.mk hW0
  have HR2 := Sd.mk hr0_2
  have HR3 := Sd.mk hr0_3
  have HBP := Sd.mk hbp
  have HL := Sd.mk hl
  have hl2 : (l0_2.length : Int) < 9223372036854775807 := by omega
  have hl3 : (l0_3.length : Int) < 9223372036854775807 := by omega
  have HL2 := Sd.mk hl2
  have HL3 := Sd.mk hl3
  clear hW0 hr0_0 hr0_1 hr0_2 hr0_3 hc0_0 hc0_1 hc0_2 hc0_3 hl hl2 hl3
  go_enter Tryz.func64, Tryz.ntmps64
  go_wp2
  generalize ((w.alloc (.cells #[.slice A0_0 l0_0.length c0_0, .slice A0_1 l0_1.length c0_1, .slice A0_2 l0_2.length c0_2, .slice A0_3 l0_3.length c0_3, .int .i64 a0_4, .int .i64 a0_5, .int .i64 a0_6] 29)).alloc (.cells #[.slice none 0 0] 109)) = w0 at HW0 ⊢
  go_loopg [11] l0_2.length (fun gq v11 wr => ∃ k : Nat, v11 = .int .i64 k ∧ k ≤ l0_2.length ∧ l0_2.length - k ≤ gq ∧ Sd (FormsW wp w wr #[.slice A0_0 l0_0.length c0_0, .slice A0_1 l0_1.length c0_1, .slice A0_2 l0_2.length c0_2, .slice A0_3 l0_3.length c0_3, .int .i64 a0_4, .int .i64 a0_5, .int .i64 a0_6] l0_2 l0_3 k))
  case atStart => exact ⟨0, rfl, Nat.zero_le _, by omega, HW0⟩
  case round =>
    clear HW0
    obtain ⟨k, rfl, hk, hgk, HW⟩ := hrel
    by_cases hlt : k < l0_2.length
    · have hltz : (k : Int) < (l0_2.length : Int) := by omega
      obtain ⟨A, c, xs, hO, hR, hxl, hF⟩ := HW.out.list
      obtain ⟨ad, rfl, hx0, hx1⟩ := at_T27 (Kd.C_below HR2.out HW.out.below) (k : Int) (by omega) hltz
      simp only [Int.toNat_natCast] at hx0 hx1
      have HO := Sd.mk hO
      have HR := Sd.mk hR
      have HF := Sd.mk hF
      have HXL := Sd.mk hxl
      have HK := Sd.mk hgk
      clear hO hR hF hxl hgk hk
      have hb2 := below_alloc (below_alloc (Below.refl wr.heap.size wr) (.cells #[.int .i64 (k : Int)] 3)) (.cells #[.int .i64 (rd_T27 l0_2 (k : Int)).f0, .int .i64 (rd_T27 l0_2 (k : Int)).f1] 27)
      have hI := blk_alloc (blk_new wr (.cells #[.int .i64 (k : Int)] 3)) (.cells #[.int .i64 (rd_T27 l0_2 (k : Int)).f0, .int .i64 (rd_T27 l0_2 (k : Int)).f1] 27)
      have hlx := forms_lx HL.out HXL.out (Nat.lt_of_lt_of_le hlt (Nat.le_add_right _ _))
      have hp := put_calls w _ (w.heap.size + 1) A xs.length c xs ⟨108, #[.pointer (some ⟨wr.heap.size, 0, none⟩)], rd_T27 l0_2 (k : Int)⟩ (below_trans' HW.out.below hb2) (Nat.le_succ _) (blk_below HO.out hb2) (Kd.R_below HR.out hb2) hlx
      have HI := Sd.mk hI
      have HB2 := Sd.mk hb2
      clear hI hb2
      go_wp2_with fail
      refine hp.mono ?_
      clear hp
      rintro e w3 ⟨rfl, hb3, ⟨v1, hv1, hr1⟩, hoth⟩
      have hnew := FormsW.step HW.out HO.out HXL.out HF.out HB2.out hb3 hv1 hr1 hoth ⟨fun _ => ⟨wr.heap.size, rfl, HI.out⟩, fun hj => absurd hlt (by omega)⟩
      have HN := Sd.mk hnew
      clear hb3 hv1 hr1 hoth hnew HI HB2
      go_wp2
      go_roundg (l0_2.length - (k + 1))
      case measure => have := HK.out; omega
      case rel => exact ⟨k + 1, by have := HL2.out; rw [wrap_id (by omega) (by omega)]; rfl, by omega, by omega, HN⟩
    · have hltz : ¬ (k : Int) < (l0_2.length : Int) := by omega
      obtain rfl : k = l0_2.length := by omega
      have hb3 : wr.cell? ⟨w.heap.size, 3, none⟩ = some (.slice A0_3 l0_3.length c0_3) := (blk_cell HW.out.batch 3).trans rfl
      clear hgk hk
      go_wp2
      clear hb3 hltz hlt
      have HW0 := HW
      clear HW
      generalize wr = w0' at HW0 ⊢
      go_loopg [24] l0_3.length (fun gq v24 wr => ∃ k : Nat, v24 = .int .i64 k ∧ k ≤ l0_3.length ∧ l0_3.length - k ≤ gq ∧ Sd (FormsW wp w wr #[.slice A0_0 l0_0.length c0_0, .slice A0_1 l0_1.length c0_1, .slice A0_2 l0_2.length c0_2, .slice A0_3 l0_3.length c0_3, .int .i64 a0_4, .int .i64 a0_5, .int .i64 a0_6] l0_2 l0_3 (l0_2.length + k)))
      case atStart => exact ⟨0, rfl, Nat.zero_le _, by omega, HW0⟩
      case round =>
        clear HW0
        obtain ⟨k, rfl, hk, hgk, HW⟩ := hrel
        by_cases hlt : k < l0_3.length
        · have hltz : (k : Int) < (l0_3.length : Int) := by omega
          obtain ⟨A, c, xs, hO, hR, hxl, hF⟩ := HW.out.list
          obtain ⟨ad, A1, c1, rfl, hx0, hx1, hx2, hx3, hlc, hC⟩ := at_T77 (Kd.C_below (Kd.C_below HR3.out HBP.out) HW.out.below) (k : Int) (by omega) hltz
          obtain ⟨ad', A1', c1', he', hx0', hx1', hx2', hx3', hlc', hC'⟩ := at_T77 HR3.out (k : Int) (by omega) hltz
          cases he'
          have hsame : A1 = A1' := by
            have h0 := (HBP.out.cell (World.block_lt_of_cell? wp _ hx1')).trans hx1'
            have h1 := (HW.out.below.cell (World.block_lt_of_cell? w _ h0)).trans h0
            rw [hx1] at h1
            injection h1 with h1
            injection h1 with h1 h2
          subst hsame
          clear hx0' hx1' hx2' hx3' hlc' hC
          simp only [Int.toNat_natCast] at hx0 hx1 hx2 hx3
          have HO := Sd.mk hO
          have HR := Sd.mk hR
          have HF := Sd.mk hF
          have HXL := Sd.mk hxl
          have HK := Sd.mk hgk
          have HC' := Sd.mk hC'
          clear hO hR hF hxl hgk hk hC' hlc
          have hb2 := below_alloc (Below.refl wr.heap.size wr) (.cells #[.string (rd_T77 l0_3 (k : Int)).f0, .slice A1 (rd_T77 l0_3 (k : Int)).f1.length c1, .int .i64 (rd_T77 l0_3 (k : Int)).f2.f0, .int .i64 (rd_T77 l0_3 (k : Int)).f2.f1] 77)
          have hI := blk_new wr (.cells #[.string (rd_T77 l0_3 (k : Int)).f0, .slice A1 (rd_T77 l0_3 (k : Int)).f1.length c1, .int .i64 (rd_T77 l0_3 (k : Int)).f2.f0, .int .i64 (rd_T77 l0_3 (k : Int)).f2.f1] 77)
          have hlx := forms_lx HL.out HXL.out (Nat.add_lt_add_left hlt _)
          have hp := put_calls w _ (w.heap.size + 1) A xs.length c xs ⟨109, #[.pointer (some ⟨wr.heap.size, 0, none⟩)], (rd_T77 l0_3 (k : Int)).f2⟩ (below_trans' HW.out.below hb2) (Nat.le_succ _) (blk_below HO.out hb2) (Kd.R_below HR.out hb2) hlx
          have HI := Sd.mk hI
          have HB2 := Sd.mk hb2
          clear hI hb2
          go_wp2_with fail
          refine hp.mono ?_
          clear hp
          rintro e w3 ⟨rfl, hb3, ⟨v1, hv1, hr1⟩, hoth⟩
          have hnew := FormsW.step HW.out HO.out HXL.out HF.out HB2.out hb3 hv1 hr1 hoth ⟨fun hj => absurd hj (by omega), fun _ => ⟨wr.heap.size, A1, c1, by rw [Nat.add_sub_cancel_left], by rw [Nat.add_sub_cancel_left]; exact HI.out, by rw [Nat.add_sub_cancel_left]; exact HC'.out⟩⟩
          have HN := Sd.mk hnew
          clear hb3 hv1 hr1 hoth hnew HI HB2
          go_wp2
          go_roundg (l0_3.length - (k + 1))
          case measure => have := HK.out; omega
          case rel => exact ⟨k + 1, by have := HL3.out; rw [wrap_id (by omega) (by omega)]; rfl, by omega, by omega, HN⟩
        · have hltz : ¬ (k : Int) < (l0_3.length : Int) := by omega
          obtain rfl : k = l0_3.length := by omega
          obtain ⟨A, c, xs, hO, hR, hxl, hF⟩ := HW.out.list
          have hb3 : wr.cell? ⟨w.heap.size + 1, 0, none⟩ = some (.slice A xs.length c) := (blk_cell hO 0).trans rfl
          have HR := Sd.mk hR
          have HF := Sd.mk hF
          have HXL := Sd.mk hxl
          clear hgk hk hR hF hxl
          go_wp2
          go_ret
          obtain ⟨A', c', he, hlc, hC⟩ := Kd.R_reads HR.out
          cases he
          exact ⟨A, c, xs, rfl, hlc, hC, HXL.out, HF.out, HW.out.below, HR.out⟩
end
section
def unitC (j : Nat) : Int → Int := fun k => if k = j then 1000 else 0
theorem coefOf_unit {l2 : List S27} {l3 : List S77} {j : Nat} (h : j < l2.length) : coefOf l2 l3 j = unitC j := by unfold coefOf; rw [if_pos h]; rfl
def meansOf (l : List S27) (n : Nat) : List S27 := (List.range n).map fun j => ⟨meanLo (unitC j) l, meanHi (unitC j) l⟩
theorem meansOf_succ (l : List S27) (n : Nat) : meansOf l (n + 1) = meansOf l n ++ [⟨meanLo (unitC n) l, meanHi (unitC n) l⟩] := by simp [meansOf, List.range_succ]
theorem meansOf_len (l : List S27) (n : Nat) : (meansOf l n).length = n := by simp [meansOf]
def x_Glass.f (k : Nat) (l0_0 : List ByteArray) (l0_1 : List (S50)) (l0_2 : List (S27)) (l0_3 : List (S77)) (a0_4 : Int) (a0_5 : Int) (a0_6 : Int) (l1 : List Int) : Option ((List (S27)) × Int) := (x_glass.f k l0_0 l0_1 l0_2 l0_3 a0_4 a0_5 a0_6 l1).bind fun p => if p.2 = 0 then (if p.1.length ≤ l0_2.length ∧ ((l0_2.length + l0_3.length + 1) * 24 ≤ 140737488355328 ∧ (List.range p.1.length).all (fun j => meanOkB (unitC j) p.1) = true) then some (meansOf p.1 p.1.length, 0) else none) else some ([], p.2)
theorem at_T113 {w : World} {A : Option Addr} {n : Nat} {xs : List F113} (h : Kd.C k113 w A n xs) (k : Nat) (hk : k < xs.length) : ∃ ad, A = some ad ∧ w.cell? (ad.add (k * 3)) = some (.func (.func xs[k].fn) #[] xs[k].lb) ∧ w.cell? ⟨(ad.add (k * 3)).block, (ad.add (k * 3)).off + 1, none⟩ = some (.int .i64 xs[k].tg.f0) ∧ w.cell? ⟨(ad.add (k * 3)).block, (ad.add (k * 3)).off + 2, none⟩ = some (.int .i64 xs[k].tg.f1) := by
  have hn := Kd.C_len h
  obtain ⟨ad, c, e, _, hK, hc0⟩ := Kd.C_get h ⟨0, #[], z27⟩ (k : Int) (by omega) (by omega)
  have hx : xs.getD ((k : Int)).toNat ⟨0, #[], z27⟩ = xs[k] := by simp [hk]
  rw [hx] at hK
  have hc : ∀ j u, c[j]? = some u → w.cell? (ad.add (k * 3 + j)) = some u := hc0
  obtain rfl := k113_open hK
  exact ⟨ad, e, hc 0 _ rfl, by rw [← add_field _ _ 1 (by omega)]; exact hc 1 _ rfl, by rw [← add_field _ _ 2 (by omega)]; exact hc 2 _ rfl⟩
theorem x_Glass.calls (k : Nat) (A0_0 : Option Addr) (c0_0 : Nat) (l0_0 : List ByteArray) (A0_1 : Option Addr) (c0_1 : Nat) (l0_1 : List (S50)) (A0_2 : Option Addr) (c0_2 : Nat) (l0_2 : List (S27)) (A0_3 : Option Addr) (c0_3 : Nat) (l0_3 : List (S77)) (a0_4 : Int) (a0_5 : Int) (a0_6 : Int) (A1 : Option Addr) (c1 : Nat) (l1 : List Int) (r1 : List (S27)) (r2 : Int) (w : World) (hr0_0 : Kd.C Kd.string w A0_0 l0_0.length l0_0) (hc0_0 : l0_0.length ≤ c0_0) (hr0_1 : Kd.C k50 w A0_1 l0_1.length l0_1) (hc0_1 : l0_1.length ≤ c0_1) (hr0_2 : Kd.C k27 w A0_2 l0_2.length l0_2) (hc0_2 : l0_2.length ≤ c0_2) (hr0_3 : Kd.C k77 w A0_3 l0_3.length l0_3) (hc0_3 : l0_3.length ≤ c0_3) (hr1 : Kd.C (Kd.int .i64) w A1 l1.length l1) (hc1 : l1.length ≤ c1) (h : x_Glass.f k l0_0 l0_1 l0_2 l0_3 a0_4 a0_5 a0_6 l1 = some (r1, r2)) :
    Calls Tryz.prog 42 #[.agg #[.slice A0_0 l0_0.length c0_0, .slice A0_1 l0_1.length c0_1, .slice A0_2 l0_2.length c0_2, .slice A0_3 l0_3.length c0_3, .int .i64 a0_4, .int .i64 a0_5, .int .i64 a0_6], .slice A1 l1.length c1] w fun e w' => ∃ v0_ : Value, e = .returned (.tuple #[v0_, .int .i64 r2]) ∧ Kd.R k27 27 w' w.heap.size (fun _ => True) v0_ r1 ∧ Below w.heap.size w w' := by
  unfold x_Glass.f at h
  obtain ⟨p, hp, H⟩ := Option.bind_eq_some_iff.mp h
  obtain ⟨pl, pe⟩ := p
  have hb0 : Below w.heap.size w (w.alloc (.cells #[.slice A0_0 l0_0.length c0_0, .slice A0_1 l0_1.length c0_1, .slice A0_2 l0_2.length c0_2, .slice A0_3 l0_3.length c0_3, .int .i64 a0_4, .int .i64 a0_5, .int .i64 a0_6] 29)) := below_alloc (Below.refl _ _) _
  clear h
  have HR0_0 := Sd.mk hr0_0
  have HC0_0 := Sd.mk hc0_0
  clear hr0_0 hc0_0
  have HR0_1 := Sd.mk hr0_1
  have HC0_1 := Sd.mk hc0_1
  clear hr0_1 hc0_1
  have HR0_2 := Sd.mk hr0_2
  have HC0_2 := Sd.mk hc0_2
  clear hr0_2 hc0_2
  have HR0_3 := Sd.mk hr0_3
  have HC0_3 := Sd.mk hc0_3
  clear hr0_3 hc0_3
  have HR1 := Sd.mk hr1
  have HC1 := Sd.mk hc1
  clear hr1 hc1
  have HH := Sd.mk H
  clear H
  have hgo := x_glass.calls k A0_0 c0_0 l0_0 A0_1 c0_1 l0_1 A0_2 c0_2 l0_2 A0_3 c0_3 l0_3 a0_4 a0_5 a0_6 A1 c1 l1 pl pe (w.alloc (.cells #[.slice A0_0 l0_0.length c0_0, .slice A0_1 l0_1.length c0_1, .slice A0_2 l0_2.length c0_2, .slice A0_3 l0_3.length c0_3, .int .i64 a0_4, .int .i64 a0_5, .int .i64 a0_6] 29)) (Kd.C_below HR0_0.out hb0) HC0_0.out (Kd.C_below HR0_1.out hb0) HC0_1.out (Kd.C_below HR0_2.out hb0) HC0_2.out (Kd.C_below HR0_3.out hb0) HC0_3.out (Kd.C_below HR1.out hb0) HC1.out hp
  have hC := blk_new w (.cells #[.slice A0_0 l0_0.length c0_0, .slice A0_1 l0_1.length c0_1, .slice A0_2 l0_2.length c0_2, .slice A0_3 l0_3.length c0_3, .int .i64 a0_4, .int .i64 a0_5, .int .i64 a0_6] 29)
  have BC := Sd.mk hC
  have HB := Sd.mk hb0
  clear hp hC hb0
  go_enter Tryz.func42, Tryz.ntmps42
  go_wp2_with fail
  generalize (w.alloc (.cells #[.slice A0_0 l0_0.length c0_0, .slice A0_1 l0_1.length c0_1, .slice A0_2 l0_2.length c0_2, .slice A0_3 l0_3.length c0_3, .int .i64 a0_4, .int .i64 a0_5, .int .i64 a0_6] 29)) = w0 at hgo BC HB ⊢
  refine hgo.mono ?_
  clear hgo
  rintro e w1 ⟨v, rfl, hR, hb⟩
  obtain ⟨A, c, rfl, hlc, hCpl⟩ := Kd.R_reads hR
  have BC1 := Sd.mk (blk_below BC.out hb)
  have HB1 := Sd.mk (below_trans' HB.out hb)
  have HPL := Sd.mk hCpl
  have HLC := Sd.mk hlc
  clear BC HB hb w0 hR hCpl hlc
  have H := HH.out
  clear HH
  by_cases hpe : pe = 0
  · rw [if_pos hpe] at H
    have hpb : (pe != 0) = false := by simp [hpe]
    have hif : (pl.length ≤ l0_2.length ∧ ((l0_2.length + l0_3.length + 1) * 24 ≤ 140737488355328 ∧ (List.range pl.length).all (fun j => meanOkB (unitC j) pl) = true)) := by
      by_cases hh : (pl.length ≤ l0_2.length ∧ ((l0_2.length + l0_3.length + 1) * 24 ≤ 140737488355328 ∧ (List.range pl.length).all (fun j => meanOkB (unitC j) pl) = true))
      · exact hh
      · rw [if_neg hh] at H; cases H
    rw [if_pos hif] at H
    obtain ⟨h0, h1, h2⟩ := hif
    simp only [Option.some.injEq, Prod.mk.injEq] at H
    obtain ⟨rfl, rfl⟩ := H
    have hmok : ∀ j, j < pl.length → MeanOk (unitC j) pl := fun j hj => meanOkB_iff.mp (List.all_eq_true.mp h2 j (List.mem_range.2 hj))
    have HMOK := Sd.mk hmok
    have HL0 := Sd.mk h0
    have hgo := forms_calls A0_0 c0_0 l0_0 A0_1 c0_1 l0_1 A0_2 c0_2 l0_2 A0_3 c0_3 l0_3 a0_4 a0_5 a0_6 w1 w1 (Below.refl _ _) (Kd.C_below HR0_0.out HB1.out) HC0_0.out (Kd.C_below HR0_1.out HB1.out) HC0_1.out (Kd.C_below HR0_2.out HB1.out) HC0_2.out (Kd.C_below HR0_3.out HB1.out) HC0_3.out h1
    have hc_0 : w1.cell? ⟨w.heap.size, 0, none⟩ = some (.slice A0_0 l0_0.length c0_0) := (blk_cell BC1.out 0).trans rfl
    have hc_1 : w1.cell? ⟨w.heap.size, 1, none⟩ = some (.slice A0_1 l0_1.length c0_1) := (blk_cell BC1.out 1).trans rfl
    have hc_2 : w1.cell? ⟨w.heap.size, 2, none⟩ = some (.slice A0_2 l0_2.length c0_2) := (blk_cell BC1.out 2).trans rfl
    have hc_3 : w1.cell? ⟨w.heap.size, 3, none⟩ = some (.slice A0_3 l0_3.length c0_3) := (blk_cell BC1.out 3).trans rfl
    have hc_4 : w1.cell? ⟨w.heap.size, 4, none⟩ = some (.int .i64 a0_4) := (blk_cell BC1.out 4).trans rfl
    have hc_5 : w1.cell? ⟨w.heap.size, 5, none⟩ = some (.int .i64 a0_5) := (blk_cell BC1.out 5).trans rfl
    have hc_6 : w1.cell? ⟨w.heap.size, 6, none⟩ = some (.int .i64 a0_6) := (blk_cell BC1.out 6).trans rfl
    clear hmok h0 h1 h2 hpe
    go_wp2_with fail
    refine hgo.mono ?_
    clear hgo hc_0 hc_1 hc_2 hc_3 hc_4 hc_5 hc_6
    rintro e w2 ⟨Af, cf, fs, rfl, hfc, hfC, hfl, hF, hb2, _⟩
    have HB2 := Sd.mk (below_trans' HB1.out hb2)
    have HPL2 := Sd.mk (Kd.C_below HPL.out hb2)
    have HFC := Sd.mk hfC
    have HFL := Sd.mk hfl
    have HF := Sd.mk hF
    have HB12 := Sd.mk hb2
    have hcap : pl.length ≤ cf := by have := HL0.out; omega
    have HCAP := Sd.mk hcap
    clear HB1 BC1 HPL hb2 hfC hfl hF hfc
    have hpl2 : (pl.length : Int) < 9223372036854775807 := by rcases Nat.eq_zero_or_pos pl.length with h_ | h_; (· omega); (· have := (HMOK.out 0 h_).n12; omega)
    have HPLX := Sd.mk hpl2
    clear hpl2 hcap
    have hcap := HCAP.out
    go_wp2
    clear hcap
    have HBX := Sd.mk (Below.refl w2.heap.size w2)
    go_loopg [4, 24] pl.length (fun gq v4 v24 wr => ∃ k : Nat, v24 = .int .i64 k ∧ k ≤ pl.length ∧ pl.length - k ≤ gq ∧ Sd (Kd.R k27 27 wr w2.heap.size (fun _ => True) v4 (meansOf pl k)) ∧ Sd (Below w2.heap.size w2 wr))
    case atStart => exact ⟨0, rfl, Nat.zero_le _, by omega, ⟨Kd.R_nil _ _ _ _ _⟩, HBX⟩
    case round =>
      clear HBX
      obtain ⟨k, rfl, hk, hgk, HR4, HBX⟩ := hrel
      by_cases hlt : k < pl.length
      · have hltz : (k : Int) < (pl.length : Int) := by omega
        have hkf : k < fs.length := by have := HFL.out; have := HL0.out; omega
        obtain ⟨ad, rfl, hx0, hx1, hx2⟩ := at_T113 (Kd.C_below HFC.out HBX.out) k hkf
        have hcoef := (HF.out k hkf).coef (HB12.out) pl.length (fun hh => absurd hh (by have := HL0.out; omega))
        rw [coefOf_unit (by have := HL0.out; omega)] at hcoef
        have hq : CoefQ fs[k].fn fs[k].lb (unitC k) pl.length (wr.alloc (.cells #[.func (.func fs[k].fn) #[] fs[k].lb, .int .i64 fs[k].tg.f0, .int .i64 fs[k].tg.f1] 113)) := fun W hW => hcoef W (below_then HBX.out HBX.out.size (below_then (below_alloc (Below.refl wr.heap.size wr) _) (by simp) hW))
        have hent : ∀ args w, (callFunc fs[k].fn args).run Tryz.prog w = .ok (.enter fs[k].fn args) w := by
          obtain ⟨I, e, _⟩ := (HF.out k hkf).1 (by have := HL0.out; omega)
          rw [e]
          exact enters_of Tryz.func108 (by kernel_rfl) rfl
        have hgo := mean_calls (unitC k) A c pl fs[k].fn fs[k].lb _ hent (Kd.C_below HPL2.out (below_then HBX.out HBX.out.size (below_alloc (Below.refl wr.heap.size wr) _))) HLC.out hq (HMOK.out k hlt)
        have HK := Sd.mk hgk
        have HLT := Sd.mk hlt
        clear hgk hk hq hcoef hent
        have HBY := Sd.mk (below_then HBX.out HBX.out.size (below_alloc (Below.refl wr.heap.size wr) (.cells #[.func (.func fs[k].fn) #[] fs[k].lb, .int .i64 fs[k].tg.f0, .int .i64 fs[k].tg.f1] 113)))
        have HR5 := Sd.mk (Kd.R_alloc HR4.out (.cells #[.func (.func fs[k].fn) #[] fs[k].lb, .int .i64 fs[k].tg.f0, .int .i64 fs[k].tg.f1] 113))
        clear HR4 HBX
        go_wp2_with fail
        generalize wr.alloc (.cells #[.func (.func fs[k].fn) #[] fs[k].lb, .int .i64 fs[k].tg.f0, .int .i64 fs[k].tg.f1] 113) = wx at hgo HBY HR5 ⊢
        refine hgo.mono ?_
        clear hgo
        rintro e w4 ⟨rfl, hb4⟩
        have HBX := Sd.mk (below_then HBY.out HBY.out.size hb4)
        have HR6 := Sd.mk (Kd.R_below HR5.out hb4)
        clear HBY HR5 hb4 hltz
        have hlm : ((meansOf pl k).length + 1) * 16 ≤ 140737488355328 := by
          rw [meansOf_len]
          have := (HMOK.out k HLT.out).n12
          have := HLT.out
          exact Nat.le_trans (Nat.mul_le_mul_right 16 (show k + 1 ≤ 13 by omega)) (by decide)
        go_wp2_with ((with_reducible refine gate_builtin (b := .append) (xs := #[.tmp 28, .tmp 33]) rfl ?_); at_builtin; refine Kd.R_append k27 (w0 := w2) w2.heap.size rfl (.tmp 28) (.tmp 33) 24 27 (.agg #[(.int .i64 0), (.int .i64 0)]) 16 rfl Tryz.underlying24 info27 rfl (by decide) (by omega) u4 (meansOf pl k) (⟨meanLo (unitC k) pl, meanHi (unitC k) pl⟩ : S27) [.int .i64 (meanLo (unitC k) pl), .int .i64 (meanHi (unitC k) pl)] (fun _ => True) (fun _ => False) rfl rfl ?aP (fun _ hk => hk.elim) ?aF ?aO ?aB ?aS ?aL ?_; (case aP => exact k27_mkM _ _ _ _); (case aB => exact HBX.out); (case aF => exact (fun _ _ => trivial)); (case aO => exact HR6.out); (case aS => exact below_size HBX.out); (case aL => exact hlm); intro v5 w5 ho hb hg hat)
        rw [← meansOf_succ] at ho
        have HR7 := Sd.mk ho
        have HB7 := Sd.mk hb
        clear ho hb hg hat hlm HR6 HBX
        go_roundg (pl.length - (k + 1))
        case measure => have := HK.out; have := HLT.out; omega
        case rel => exact ⟨k + 1, by have := HPLX.out; have := HLT.out; rw [wrap_id (by omega) (by omega)]; rfl, by have := HLT.out; omega, by omega, HR7, HB7⟩
      · have hltz : ¬ (k : Int) < (pl.length : Int) := by omega
        obtain rfl : k = pl.length := by omega
        clear hgk hk
        go_wp2
        go_ret2
        exact ⟨_, rfl, Kd.R_lower HR4.out (below_size HB2.out), below_trans' HB2.out HBX.out⟩
  · rw [if_neg hpe] at H
    have hpb : (pe != 0) = true := by simp [hpe]
    simp only [Option.some.injEq, Prod.mk.injEq] at H
    obtain ⟨rfl, rfl⟩ := H
    go_wp2
    go_ret2
    exact ⟨_, rfl, Kd.R_nil _ _ _ _ _, HB1.out⟩
end
section
theorem eqA27 (d : Nat) (w : World) (x0 y0 : Int) (x1 y1 : Int) :
    (Op.equalIn (d + 2) 27 (.agg #[.int .i64 x0, .int .i64 x1]) (.agg #[.int .i64 y0, .int .i64 y1])).run Tryz.prog w = .ok (x0 == y0 && (x1 == y1)) w := by
  refine eqA_of Tryz.underlying27 (by kernel_rfl) ?_
  refine eqf_cons (by rfl) (by go_simp; rfl) (by go_simp; rfl) (by go_simp) ?_
  exact eqf_last (by rfl) (by go_simp; rfl) (by go_simp; rfl) (by go_simp)
end
section
attribute [local go_sem high] eqA27
def lw_SameSpans.l0 : Nat → List (S27) → List (S27) → Int → Option (Bool)
  | 0, _, _, _ => none
  | k + 1, x0, x1, x5 => if x5 < (x0.length : Int) then (if 0 ≤ x5 then (if x5 < (x1.length : Int) then (if (!(((rd_T27 x0 x5).f0) == ((rd_T27 x1 x5).f0)) || (!(((rd_T27 x0 x5).f1) == ((rd_T27 x1 x5).f1)))) = true then (some false) else (lw_SameSpans.l0 k x0 x1 (wrap64 (x5 + 1)))) else (none)) else (none)) else (some true)
def lw_SameSpans.f (k : Nat) (l0 : List (S27)) (l1 : List (S27)) : Option (Bool) := if (l0.length : Int) = (l1.length : Int) then (lw_SameSpans.l0 k l0 l1 0) else (some false)
theorem lw_SameSpans.calls (k : Nat) (A0 : Option Addr) (c0 : Nat) (l0 : List (S27)) (A1 : Option Addr) (c1 : Nat) (l1 : List (S27)) (r : Bool) (w : World) (hr0 : Kd.C k27 w A0 l0.length l0) (hc0 : l0.length ≤ c0) (hr1 : Kd.C k27 w A1 l1.length l1) (hc1 : l1.length ≤ c1) (h : lw_SameSpans.f k l0 l1 = some r) :
    Calls Tryz.prog 43 #[.slice A0 l0.length c0, .slice A1 l1.length c1] w fun e w' => e = .returned (.bool r) ∧ Drawn0 w w' := by
  have hu27 := Tryz.underlying27
  have HR0 := Sd.mk hr0
  have HC0 := Sd.mk hc0
  clear hr0 hc0
  have HR1 := Sd.mk hr1
  have HC1 := Sd.mk hc1
  clear hr1 hc1
  have H : (if (l0.length : Int) = (l1.length : Int) then (lw_SameSpans.l0 k l0 l1 0) else (some false)) = some r := h
  clear h
  by_cases c3 : (l0.length : Int) = (l1.length : Int)
  · rw [if_pos c3] at H
    have c3b0 : ((l0.length : Int) == (l1.length : Int)) = true := beq_iff_eq.mpr c3
    have c3b1 : ((l0.length : Int) != (l1.length : Int)) = false := bne_eq_false_iff_eq.mpr c3
    have c3b2 : (l0.length == l1.length) = true := by first | simpa using c3 | (simp at c3 ⊢; omega)
    clear c3
    have H' := Sd.mk H
    clear H
    go_enter Tryz.func43, Tryz.ntmps43
    go_wp2
    repeat (go_quiet (fail); try go_wp2)
    go_loopg [5] k (fun kq v5 w' => ∃ (x5_1 : Int), v5 = .int .i64 x5_1 ∧ Sd (lw_SameSpans.l0 kq l0 l1 x5_1 = some r) ∧ Sd (kq ≤ k) ∧ Drawn0 w w')
    case atStart => exact ⟨(0), (by first | rfl | (simp; done) | (simp [*]; done)), H', ⟨Nat.le_refl _⟩, by repeat (first | exact Drawn0.refl _ | apply Drawn0.step)⟩
    case round =>
      clear H'
      try clear c1
      try clear p2
      try clear c3
      try clear c3b0
      try clear c3b1
      try clear c3b2
      obtain ⟨x5_1, rfl, HA, HK1, ⟨m1, rfl⟩⟩ := hrel
      cases gk with
      | zero => exact absurd HA.out (by simp [lw_SameSpans.l0])
      | succ k1 =>
        have H := HA.out
        clear HA
        simp only [lw_SameSpans.l0] at H
        by_cases c4 : x5_1 < (l0.length : Int)
        · rw [if_pos c4] at H
          have c4b0 : decide (x5_1 < (l0.length : Int)) = true := decide_eq_true c4
          clear c4
          by_cases c5 : 0 ≤ x5_1
          · rw [if_pos c5] at H
            have c5b0 : decide (0 ≤ x5_1) = true := decide_eq_true c5
            clear c5
            by_cases c6 : x5_1 < (l1.length : Int)
            · rw [if_pos c6] at H
              have c6b0 : decide (x5_1 < (l1.length : Int)) = true := decide_eq_true c6
              clear c6
              by_cases c7 : (!(((rd_T27 l0 x5_1).f0) == ((rd_T27 l1 x5_1).f0)) || (!(((rd_T27 l0 x5_1).f1) == ((rd_T27 l1 x5_1).f1)))) = true
              · rw [if_pos c7] at H
                have c7b0 : (!(((rd_T27 l0 x5_1).f0) == ((rd_T27 l1 x5_1).f0)) || (!(((rd_T27 l0 x5_1).f1) == ((rd_T27 l1 x5_1).f1)))) = true := c7
                clear c7
                obtain rfl := Option.some.inj H
                have p231 : 0 ≤ (x5_1 : Int) := of_decide_eq_true (by first | (with_reducible assumption) | assumption)
                have q231 : x5_1 < (l0.length : Int) := of_decide_eq_true (by first | (with_reducible assumption) | assumption)
                obtain ⟨ad231, e231, hx231_0, hx231_1⟩ := at_T27 HR0.out x5_1 p231 q231
                cases e231
                replace p231 := eq_true p231
                replace q231 := eq_true q231
                have p232 : 0 ≤ (x5_1 : Int) := of_decide_eq_true (by first | (with_reducible assumption) | assumption)
                have q232 : x5_1 < (l1.length : Int) := of_decide_eq_true (by first | (with_reducible assumption) | assumption)
                obtain ⟨ad232, e232, hx232_0, hx232_1⟩ := at_T27 HR1.out x5_1 p232 q232
                cases e232
                replace p232 := eq_true p232
                replace q232 := eq_true q232
                go_wp2
                repeat (go_quiet (fail); try go_wp2)
                go_ret
                exact ⟨by first | rfl | (simp; done) | (simp [*]; done), by repeat (first | exact Drawn0.refl _ | apply Drawn0.step)⟩
              · rw [if_neg c7] at H
                have c7b0 : (!(((rd_T27 l0 x5_1).f0) == ((rd_T27 l1 x5_1).f0)) || (!(((rd_T27 l0 x5_1).f1) == ((rd_T27 l1 x5_1).f1)))) = false := by simpa using c7
                clear c7
                have H' := Sd.mk H
                clear H
                have p231 : 0 ≤ (x5_1 : Int) := of_decide_eq_true (by first | (with_reducible assumption) | assumption)
                have q231 : x5_1 < (l0.length : Int) := of_decide_eq_true (by first | (with_reducible assumption) | assumption)
                obtain ⟨ad231, e231, hx231_0, hx231_1⟩ := at_T27 HR0.out x5_1 p231 q231
                cases e231
                replace p231 := eq_true p231
                replace q231 := eq_true q231
                have p232 : 0 ≤ (x5_1 : Int) := of_decide_eq_true (by first | (with_reducible assumption) | assumption)
                have q232 : x5_1 < (l1.length : Int) := of_decide_eq_true (by first | (with_reducible assumption) | assumption)
                obtain ⟨ad232, e232, hx232_0, hx232_1⟩ := at_T27 HR1.out x5_1 p232 q232
                cases e232
                replace p232 := eq_true p232
                replace q232 := eq_true q232
                go_wp2
                repeat (go_quiet (fail); try go_wp2)
                go_roundg k1
                case measure => have := HK1.out; omega
                case rel => exact ⟨(wrap64 (x5_1 + 1)), (by first | rfl | (simp; done) | (simp [*]; done)), H', ⟨by have := HK1.out; omega⟩, by repeat (first | exact Drawn0.refl _ | apply Drawn0.step)⟩
            · rw [if_neg c6] at H
              exact absurd H (by simp)
          · rw [if_neg c5] at H
            exact absurd H (by simp)
        · rw [if_neg c4] at H
          have c4b0 : decide (x5_1 < (l0.length : Int)) = false := decide_eq_false c4
          clear c4
          obtain rfl := Option.some.inj H
          go_wp2
          repeat (go_quiet (fail); try go_wp2)
          go_ret
          exact ⟨by first | rfl | (simp; done) | (simp [*]; done), by repeat (first | exact Drawn0.refl _ | apply Drawn0.step)⟩
  · rw [if_neg c3] at H
    have c3b0 : ((l0.length : Int) == (l1.length : Int)) = false := beq_eq_false_iff_ne.mpr c3
    have c3b1 : ((l0.length : Int) != (l1.length : Int)) = true := bne_iff_ne.mpr c3
    have c3b2 : (l0.length == l1.length) = false := by first | simpa using c3 | (simp at c3 ⊢; omega)
    obtain rfl := Option.some.inj H
    go_enter Tryz.func43, Tryz.ntmps43
    go_wp2
    repeat (go_quiet (fail); try go_wp2)
    go_ret
    exact ⟨by first | rfl | (simp; done) | (simp [*]; done), by repeat (first | exact Drawn0.refl _ | apply Drawn0.step)⟩
end
section
def lw_Example.f  : Option (List ByteArray × (List (S50)) × (List (S27)) × (List (S77)) × Int × Int × Int) := some ((([(⟨#[115, 105]⟩ : ByteArray), (⟨#[110, 97]⟩ : ByteArray)] : List ByteArray)), (([(⟨(⟨#[115, 97, 110, 100]⟩ : ByteArray), 1, 0, 0, 200, 20, (([(⟨980, 1000⟩ : S27), (⟨0, 0⟩ : S27)] : List (S27)))⟩ : S50), (⟨(⟨#[115, 111, 100, 97]⟩ : ByteArray), 4, 0, 0, 100, 20, (([(⟨0, 0⟩ : S27), (⟨570, 580⟩ : S27)] : List (S27)))⟩ : S50)] : List (S50))), (([(⟨700, 800⟩ : S27), (⟨200, 300⟩ : S27)] : List (S27))), ([] : List (S77)), (-9999), 9999, 100)
theorem lw_Example.calls  (r1 : List ByteArray) (r2 : List (S50)) (r3 : List (S27)) (r4 : List (S77)) (r5 : Int) (r6 : Int) (r7 : Int) (w : World) (h : lw_Example.f  = some (r1, r2, r3, r4, r5, r6, r7)) :
    Calls Tryz.prog 6 #[] w fun e w' => ∃ v0_ v1_ v2_ v3_ : Value, e = .returned (.agg #[v0_, v1_, v2_, v3_, .int .i64 r5, .int .i64 r6, .int .i64 r7]) ∧ Kd.R Kd.string 9 w' w.heap.size (fun k_ => (w.heap.size ≤ k_)) v0_ r1 ∧ Kd.N k50 50 w' w.heap.size (fun k_ => (w.heap.size ≤ k_) ∧ some k_ ≠ (v0_ : Value).ownBlock ∧ some k_ ≠ (v2_ : Value).ownBlock ∧ some k_ ≠ (v3_ : Value).ownBlock) v1_ r2 ∧ Kd.R k27 27 w' w.heap.size (fun k_ => (w.heap.size ≤ k_)) v2_ r3 ∧ Kd.N k77 77 w' w.heap.size (fun k_ => (w.heap.size ≤ k_) ∧ some k_ ≠ (v0_ : Value).ownBlock ∧ some k_ ≠ (v1_ : Value).ownBlock ∧ some k_ ≠ (v2_ : Value).ownBlock) v3_ r4 ∧ Below w.heap.size w w' := by
  have hu29 := Tryz.underlying29
  have hu27 := Tryz.underlying27
  have hu50 := Tryz.underlying50
  have HB := Sd.mk (Below.refl w.heap.size w)
  have H : (some ((([(⟨#[115, 105]⟩ : ByteArray), (⟨#[110, 97]⟩ : ByteArray)] : List ByteArray)), (([(⟨(⟨#[115, 97, 110, 100]⟩ : ByteArray), 1, 0, 0, 200, 20, (([(⟨980, 1000⟩ : S27), (⟨0, 0⟩ : S27)] : List (S27)))⟩ : S50), (⟨(⟨#[115, 111, 100, 97]⟩ : ByteArray), 4, 0, 0, 100, 20, (([(⟨0, 0⟩ : S27), (⟨570, 580⟩ : S27)] : List (S27)))⟩ : S50)] : List (S50))), (([(⟨700, 800⟩ : S27), (⟨200, 300⟩ : S27)] : List (S27))), ([] : List (S77)), (-9999), 9999, 100)) = some (r1, r2, r3, r4, r5, r6, r7) := h
  clear h
  obtain ⟨y102, hy102⟩ : ∃ y_ : List ByteArray, y_ = (([(⟨#[115, 105]⟩ : ByteArray), (⟨#[110, 97]⟩ : ByteArray)] : List ByteArray)) := ⟨_, rfl⟩
  replace H : (some (y102, (([(⟨(⟨#[115, 97, 110, 100]⟩ : ByteArray), 1, 0, 0, 200, 20, (([(⟨980, 1000⟩ : S27), (⟨0, 0⟩ : S27)] : List (S27)))⟩ : S50), (⟨(⟨#[115, 111, 100, 97]⟩ : ByteArray), 4, 0, 0, 100, 20, (([(⟨0, 0⟩ : S27), (⟨570, 580⟩ : S27)] : List (S27)))⟩ : S50)] : List (S50))), (([(⟨700, 800⟩ : S27), (⟨200, 300⟩ : S27)] : List (S27))), ([] : List (S77)), (-9999), 9999, 100)) = some (r1, r2, r3, r4, r5, r6, r7) := by first | (rw [hy102]; with_reducible exact H) | (have H2_ := (Option.bind_some _ _).symm.trans H; rw [hy102]; with_reducible exact H2_) | (have H2_ := (Option.bind_some _ _).symm.trans H; with_reducible exact H2_) | with_reducible exact H | (rw [hy102]; exact H) | exact H
  have Ny102 := Sd.mk hy102
  clear hy102
  obtain ⟨y105, hy105⟩ : ∃ y_ : List (S27), y_ = (([(⟨700, 800⟩ : S27), (⟨200, 300⟩ : S27)] : List (S27))) := ⟨_, rfl⟩
  replace H : (some (y102, (([(⟨(⟨#[115, 97, 110, 100]⟩ : ByteArray), 1, 0, 0, 200, 20, (([(⟨980, 1000⟩ : S27), (⟨0, 0⟩ : S27)] : List (S27)))⟩ : S50), (⟨(⟨#[115, 111, 100, 97]⟩ : ByteArray), 4, 0, 0, 100, 20, (([(⟨0, 0⟩ : S27), (⟨570, 580⟩ : S27)] : List (S27)))⟩ : S50)] : List (S50))), y105, ([] : List (S77)), (-9999), 9999, 100)) = some (r1, r2, r3, r4, r5, r6, r7) := by first | (rw [hy105]; with_reducible exact H) | (have H2_ := (Option.bind_some _ _).symm.trans H; rw [hy105]; with_reducible exact H2_) | (have H2_ := (Option.bind_some _ _).symm.trans H; with_reducible exact H2_) | with_reducible exact H | (rw [hy105]; exact H) | exact H
  have Ny105 := Sd.mk hy105
  clear hy105
  obtain ⟨y108, hy108⟩ : ∃ y_ : List (S27), y_ = (([(⟨980, 1000⟩ : S27), (⟨0, 0⟩ : S27)] : List (S27))) := ⟨_, rfl⟩
  replace H : (some (y102, (([(⟨(⟨#[115, 97, 110, 100]⟩ : ByteArray), 1, 0, 0, 200, 20, y108⟩ : S50), (⟨(⟨#[115, 111, 100, 97]⟩ : ByteArray), 4, 0, 0, 100, 20, (([(⟨0, 0⟩ : S27), (⟨570, 580⟩ : S27)] : List (S27)))⟩ : S50)] : List (S50))), y105, ([] : List (S77)), (-9999), 9999, 100)) = some (r1, r2, r3, r4, r5, r6, r7) := by first | (rw [hy108]; with_reducible exact H) | (have H2_ := (Option.bind_some _ _).symm.trans H; rw [hy108]; with_reducible exact H2_) | (have H2_ := (Option.bind_some _ _).symm.trans H; with_reducible exact H2_) | with_reducible exact H | (rw [hy108]; exact H) | exact H
  have Ny108 := Sd.mk hy108
  clear hy108
  obtain ⟨y111, hy111⟩ : ∃ y_ : List (S27), y_ = (([(⟨0, 0⟩ : S27), (⟨570, 580⟩ : S27)] : List (S27))) := ⟨_, rfl⟩
  replace H : (some (y102, (([(⟨(⟨#[115, 97, 110, 100]⟩ : ByteArray), 1, 0, 0, 200, 20, y108⟩ : S50), (⟨(⟨#[115, 111, 100, 97]⟩ : ByteArray), 4, 0, 0, 100, 20, y111⟩ : S50)] : List (S50))), y105, ([] : List (S77)), (-9999), 9999, 100)) = some (r1, r2, r3, r4, r5, r6, r7) := by first | (rw [hy111]; with_reducible exact H) | (have H2_ := (Option.bind_some _ _).symm.trans H; rw [hy111]; with_reducible exact H2_) | (have H2_ := (Option.bind_some _ _).symm.trans H; with_reducible exact H2_) | with_reducible exact H | (rw [hy111]; exact H) | exact H
  have Ny111 := Sd.mk hy111
  clear hy111
  obtain ⟨y114, hy114⟩ : ∃ y_ : List (S50), y_ = (([(⟨(⟨#[115, 97, 110, 100]⟩ : ByteArray), 1, 0, 0, 200, 20, y108⟩ : S50), (⟨(⟨#[115, 111, 100, 97]⟩ : ByteArray), 4, 0, 0, 100, 20, y111⟩ : S50)] : List (S50))) := ⟨_, rfl⟩
  replace H : (some (y102, y114, y105, ([] : List (S77)), (-9999), 9999, 100)) = some (r1, r2, r3, r4, r5, r6, r7) := by first | (rw [hy114]; with_reducible exact H) | (have H2_ := (Option.bind_some _ _).symm.trans H; rw [hy114]; with_reducible exact H2_) | (have H2_ := (Option.bind_some _ _).symm.trans H; with_reducible exact H2_) | with_reducible exact H | (rw [hy114]; exact H) | exact H
  have Ny114 := Sd.mk hy114
  clear hy114
  simp only [Option.some.injEq, Prod.mk.injEq] at H
  obtain ⟨rfl, rfl, rfl, rfl, rfl, rfl, rfl⟩ := H
  go_enter Tryz.func6, Tryz.ntmps6
  go_wp2_with (first | ((with_reducible refine gate_dst (N := 0) rfl ?_); refine box_event ?hg (N := 0) ?hd (cs := #[.slice none 0 0, .slice none 0 0, .slice none 0 0, .slice none 0 0, .int .i64 0, .int .i64 0, .int .i64 0]) (t := 29) ?hr ?_; (case hd => rfl); (case hg => rfl); (case hr => first | (go_simp; done) | (go_simp; rfl)); intro gb101 hg w1 hbox hb; have n0_ := Sd.mk (below_step (by repeat (first | (with_reducible first | exact HB.out | apply below_alloc | apply pw_below_drewN | apply below_drew1) | exact HB.out)) hb); have n1_ := Sd.mk (hbox); have n2_ := Sd.mk ((by rw [hg]; exact (below_size (by repeat (first | (with_reducible first | exact HB.out | apply below_alloc | apply pw_below_drewN | apply below_drew1) | exact HB.out))) : w.heap.size ≤ gb101)); have n3_ := Sd.mk ((by rw [hg]; exact (below_size (by repeat (first | (with_reducible first | exact HB.out | apply below_alloc | apply pw_below_drewN | apply below_drew1) | exact HB.out))) : w.heap.size ≤ gb101)); clear HB; have HB := n0_; have BK101 := n1_; have GW101 := n2_; have GE101 := n3_; clear n0_ n1_ n2_ n3_; clear hb hbox hg) | ((with_reducible refine gate_dst (N := 1) rfl ?_); refine Kd.R_lit Kd.string _ 9 ?hg (N := 1) ?hd (xs := ([(⟨#[115, 105]⟩ : ByteArray), (⟨#[110, 97]⟩ : ByteArray)] : List ByteArray)) (inner := [.string (⟨#[115, 105]⟩ : ByteArray), .string (⟨#[110, 97]⟩ : ByteArray)]) (ok := fun _ => True) (okp := fun _ => True) ?hr ?hp (fun _ hk => hk) trivial (Below.refl _ _) (Nat.le_refl _) (by simp) ?_; (case hd => rfl); (case hg => rfl); (case hr => first | (go_simp; done) | (go_simp; rfl)); (case hp => exact (Reps.one (show Kd.M Kd.string _ _ _ (⟨#[115, 105]⟩ : ByteArray) [.string (⟨#[115, 105]⟩ : ByteArray)] from rfl) (Reps.one (show Kd.M Kd.string _ _ _ (⟨#[110, 97]⟩ : ByteArray) [.string (⟨#[110, 97]⟩ : ByteArray)] from rfl) (Reps.none _ _)))); intro v103 w2 ho3 hb hg_ hnew_; clear hg_ hnew_; (first | rw [← Ny102.out] at ho3 | (simp only [Int.reduceToNat] at ho3; rw [← Ny102.out] at ho3)); have n0_ := Sd.mk (Kd.R_lower (Kd.R_newM (M := fun k_ => (w.heap.size ≤ k_)) ho3 (below_size (by repeat (first | (with_reducible first | exact HB.out | apply below_alloc | apply pw_below_drewN | apply below_drew1 | refine below_set ?_ GE101.out) | exact HB.out))) (fun k_ h_ => h_)) (below_size (by repeat (first | (with_reducible first | exact HB.out | apply below_alloc | apply pw_below_drewN | apply below_drew1 | refine below_set ?_ GE101.out) | exact HB.out)))); have n1_ := Sd.mk (blk_below (g := gb101) (o := .cells #[.slice none 0 0, .slice none 0 0, .slice none 0 0, .slice none 0 0, .int .i64 0, .int .i64 0, .int .i64 0] 29 (0, 0)) (by (with_reducible repeat (first | refine blk_drewN ?_ _ | refine blk_drew ?_ | refine blk_alloc ?_ _)); exact BK101.out) hb); have n2_ := Sd.mk (below_step (by repeat (first | (with_reducible first | exact HB.out | apply below_alloc | apply pw_below_drewN | apply below_drew1 | refine below_set ?_ GE101.out) | exact HB.out)) hb); clear BK101; clear HB; have HO104 := n0_; have BK101 := n1_; have HB := n2_; clear n0_ n1_ n2_; clear hb ho3) | ((with_reducible refine gate_dst (N := 4) rfl ?_); refine Kd.R_lit k27 _ 27 ?hg (N := 4) ?hd (xs := ([(⟨700, 800⟩ : S27), (⟨200, 300⟩ : S27)] : List (S27))) (inner := [.int .i64 700, .int .i64 800, .int .i64 200, .int .i64 300]) (ok := fun _ => True) (okp := fun _ => True) ?hr ?hp (fun _ hk => hk) trivial (Below.refl _ _) (Nat.le_refl _) (by simp) ?_; (case hd => rfl); (case hg => rfl); (case hr => first | (go_simp; done) | (go_simp; rfl)); (case hp => exact (Reps.c2 (show Kd.M k27 _ _ _ (⟨700, 800⟩ : S27) [.int .i64 700, .int .i64 800] from (k27_mkM _ _ _ (⟨700, 800⟩ : S27) )) (Reps.c2 (show Kd.M k27 _ _ _ (⟨200, 300⟩ : S27) [.int .i64 200, .int .i64 300] from (k27_mkM _ _ _ (⟨200, 300⟩ : S27) )) (Reps.none _ _)))); intro v106 w4 ho5 hb hg_ hnew_; clear hg_ hnew_; (first | rw [← Ny105.out] at ho5 | (simp only [Int.reduceToNat] at ho5; rw [← Ny105.out] at ho5)); have n0_ := Sd.mk (Kd.R_below (by (with_reducible repeat (first | apply Kd.R_alloc | apply Kd.R_drewN | apply Kd.R_drew)); exact HO104.out) hb); have n1_ := Sd.mk (Kd.R_lower (Kd.R_newM (M := fun k_ => (w.heap.size ≤ k_)) ho5 (below_size (by repeat (first | (with_reducible first | exact HB.out | apply below_alloc | apply pw_below_drewN | apply below_drew1 | refine below_set ?_ GE101.out) | exact HB.out))) (fun k_ h_ => h_)) (below_size (by repeat (first | (with_reducible first | exact HB.out | apply below_alloc | apply pw_below_drewN | apply below_drew1 | refine below_set ?_ GE101.out) | exact HB.out)))); have n2_ := Sd.mk (blk_below (g := gb101) (o := .cells #[.slice none 0 0, .slice none 0 0, .slice none 0 0, .slice none 0 0, .int .i64 0, .int .i64 0, .int .i64 0] 29 (0, 0)) (by (with_reducible repeat (first | refine blk_drewN ?_ _ | refine blk_drew ?_ | refine blk_alloc ?_ _)); exact BK101.out) hb); have n3_ := Sd.mk (below_step (by repeat (first | (with_reducible first | exact HB.out | apply below_alloc | apply pw_below_drewN | apply below_drew1 | refine below_set ?_ GE101.out) | exact HB.out)) hb); clear HO104; clear BK101; clear HB; have HO104 := n0_; have HO107 := n1_; have BK101 := n2_; have HB := n3_; clear n0_ n1_ n2_ n3_; clear hb ho5) | ((with_reducible refine gate_dst (N := 8) rfl ?_); refine Kd.R_lit k27 _ 27 ?hg (N := 8) ?hd (xs := ([(⟨980, 1000⟩ : S27), (⟨0, 0⟩ : S27)] : List (S27))) (inner := [.int .i64 980, .int .i64 1000, .int .i64 0, .int .i64 0]) (ok := fun _ => True) (okp := fun _ => True) ?hr ?hp (fun _ hk => hk) trivial (Below.refl _ _) (Nat.le_refl _) (by simp) ?_; (case hd => rfl); (case hg => rfl); (case hr => first | (go_simp; done) | (go_simp; rfl)); (case hp => exact (Reps.c2 (show Kd.M k27 _ _ _ (⟨980, 1000⟩ : S27) [.int .i64 980, .int .i64 1000] from (k27_mkM _ _ _ (⟨980, 1000⟩ : S27) )) (Reps.c2 (show Kd.M k27 _ _ _ (⟨0, 0⟩ : S27) [.int .i64 0, .int .i64 0] from (k27_mkM _ _ _ (⟨0, 0⟩ : S27) )) (Reps.none _ _)))); intro v109 w6 ho7 hb hg_ hnew_; clear hg_ hnew_; (first | rw [← Ny108.out] at ho7 | (simp only [Int.reduceToNat] at ho7; rw [← Ny108.out] at ho7)); have n0_ := Sd.mk (Kd.R_below (by (with_reducible repeat (first | apply Kd.R_alloc | apply Kd.R_drewN | apply Kd.R_drew)); exact HO104.out) hb); have n1_ := Sd.mk (Kd.R_elder' (by (with_reducible repeat (first | apply Kd.R_alloc | apply Kd.R_drewN | apply Kd.R_drew)); exact HO107.out) (Kd.R_base ho7) hb); have n2_ := Sd.mk (Kd.R_lower (Kd.R_new' (Kd.R_newM (M := fun k_ => (w.heap.size ≤ k_)) ho7 (below_size (by repeat (first | (with_reducible first | exact HB.out | apply below_alloc | apply pw_below_drewN | apply below_drew1 | refine below_set ?_ GE101.out) | exact HB.out))) (fun k_ h_ => h_)) (Kd.R_lt (by (with_reducible repeat (first | apply Kd.R_alloc | apply Kd.R_drewN | apply Kd.R_drew)); exact HO107.out))) (below_size (by repeat (first | (with_reducible first | exact HB.out | apply below_alloc | apply pw_below_drewN | apply below_drew1 | refine below_set ?_ GE101.out) | exact HB.out)))); have n3_ := Sd.mk (blk_below (g := gb101) (o := .cells #[.slice none 0 0, .slice none 0 0, .slice none 0 0, .slice none 0 0, .int .i64 0, .int .i64 0, .int .i64 0] 29 (0, 0)) (by (with_reducible repeat (first | refine blk_drewN ?_ _ | refine blk_drew ?_ | refine blk_alloc ?_ _)); exact BK101.out) hb); have n4_ := Sd.mk (below_step (by repeat (first | (with_reducible first | exact HB.out | apply below_alloc | apply pw_below_drewN | apply below_drew1 | refine below_set ?_ GE101.out) | exact HB.out)) hb); clear HO104; clear HO107; clear BK101; clear HB; have HO104 := n0_; have HO107 := n1_; have HO110 := n2_; have BK101 := n3_; have HB := n4_; clear n0_ n1_ n2_ n3_ n4_; clear hb ho7; obtain ⟨Ao8, co8, eo8⟩ := Kd.R_slice HO110.out; subst eo8) | ((with_reducible refine gate_dst (N := 12) rfl ?_); refine Kd.R_lit k27 _ 27 ?hg (N := 12) ?hd (xs := ([(⟨0, 0⟩ : S27), (⟨570, 580⟩ : S27)] : List (S27))) (inner := [.int .i64 0, .int .i64 0, .int .i64 570, .int .i64 580]) (ok := fun _ => True) (okp := fun _ => True) ?hr ?hp (fun _ hk => hk) trivial (Below.refl _ _) (Nat.le_refl _) (by simp) ?_; (case hd => rfl); (case hg => rfl); (case hr => first | (go_simp; done) | (go_simp; rfl)); (case hp => exact (Reps.c2 (show Kd.M k27 _ _ _ (⟨0, 0⟩ : S27) [.int .i64 0, .int .i64 0] from (k27_mkM _ _ _ (⟨0, 0⟩ : S27) )) (Reps.c2 (show Kd.M k27 _ _ _ (⟨570, 580⟩ : S27) [.int .i64 570, .int .i64 580] from (k27_mkM _ _ _ (⟨570, 580⟩ : S27) )) (Reps.none _ _)))); intro v112 w9 ho10 hb hg_ hnew_; clear hg_ hnew_; (first | rw [← Ny111.out] at ho10 | (simp only [Int.reduceToNat] at ho10; rw [← Ny111.out] at ho10)); have n0_ := Sd.mk (Kd.R_below (by (with_reducible repeat (first | apply Kd.R_alloc | apply Kd.R_drewN | apply Kd.R_drew)); exact HO104.out) hb); have n1_ := Sd.mk (Kd.R_elder' (by (with_reducible repeat (first | apply Kd.R_alloc | apply Kd.R_drewN | apply Kd.R_drew)); exact HO107.out) (Kd.R_base ho10) hb); have n2_ := Sd.mk (Kd.R_elder' (by (with_reducible repeat (first | apply Kd.R_alloc | apply Kd.R_drewN | apply Kd.R_drew)); exact HO110.out) (Kd.R_base ho10) hb); have n3_ := Sd.mk (Kd.R_lower (Kd.R_new' (Kd.R_new' (Kd.R_newM (M := fun k_ => (w.heap.size ≤ k_)) ho10 (below_size (by repeat (first | (with_reducible first | exact HB.out | apply below_alloc | apply pw_below_drewN | apply below_drew1 | refine below_set ?_ GE101.out) | exact HB.out))) (fun k_ h_ => h_)) (Kd.R_lt (by (with_reducible repeat (first | apply Kd.R_alloc | apply Kd.R_drewN | apply Kd.R_drew)); exact HO107.out))) (Kd.R_lt (by (with_reducible repeat (first | apply Kd.R_alloc | apply Kd.R_drewN | apply Kd.R_drew)); exact HO110.out))) (below_size (by repeat (first | (with_reducible first | exact HB.out | apply below_alloc | apply pw_below_drewN | apply below_drew1 | refine below_set ?_ GE101.out) | exact HB.out)))); have n4_ := Sd.mk (blk_below (g := gb101) (o := .cells #[.slice none 0 0, .slice none 0 0, .slice none 0 0, .slice none 0 0, .int .i64 0, .int .i64 0, .int .i64 0] 29 (0, 0)) (by (with_reducible repeat (first | refine blk_drewN ?_ _ | refine blk_drew ?_ | refine blk_alloc ?_ _)); exact BK101.out) hb); have n5_ := Sd.mk (below_step (by repeat (first | (with_reducible first | exact HB.out | apply below_alloc | apply pw_below_drewN | apply below_drew1 | refine below_set ?_ GE101.out) | exact HB.out)) hb); clear HO104; clear HO107; clear HO110; clear BK101; clear HB; have HO104 := n0_; have HO107 := n1_; have HO110 := n2_; have HO113 := n3_; have BK101 := n4_; have HB := n5_; clear n0_ n1_ n2_ n3_ n4_ n5_; clear hb ho10; obtain ⟨Ao11, co11, eo11⟩ := Kd.R_slice HO113.out; subst eo11) | ((with_reducible refine gate_dst (N := 14) rfl ?_); refine Kd.N_lit k50 _ 50 ?hg (N' := 14) ?hd (xs := ([(⟨(⟨#[115, 97, 110, 100]⟩ : ByteArray), 1, 0, 0, 200, 20, y108⟩ : S50), (⟨(⟨#[115, 111, 100, 97]⟩ : ByteArray), 4, 0, 0, 100, 20, y111⟩ : S50)] : List (S50))) (inner := [.string (⟨#[115, 97, 110, 100]⟩ : ByteArray), .int .i64 1, .int .i64 0, .int .i64 0, .int .i64 200, .int .i64 20, .slice Ao8 y108.length co8, .string (⟨#[115, 111, 100, 97]⟩ : ByteArray), .int .i64 4, .int .i64 0, .int .i64 0, .int .i64 100, .int .i64 20, .slice Ao11 y111.length co11]) (ok := (fun k_ => (w.heap.size ≤ k_) ∧ some k_ ≠ (v103 : Value).ownBlock ∧ some k_ ≠ (v106 : Value).ownBlock ∧ k_ ≠ gb101)) (okp := (fun k_ => (w.heap.size ≤ k_) ∧ some k_ ≠ (v103 : Value).ownBlock ∧ some k_ ≠ (v106 : Value).ownBlock ∧ k_ ≠ gb101)) ?hr ?hp (fun _ hk => hk) ((show ∀ k_, w9.heap.size ≤ k_ → (fun k_ => (w.heap.size ≤ k_) ∧ some k_ ≠ (v103 : Value).ownBlock ∧ some k_ ≠ (v106 : Value).ownBlock ∧ k_ ≠ gb101) k_ from fun k_ hk => ⟨(Nat.le_trans (below_size (by repeat (first | (with_reducible first | exact HB.out | apply below_alloc | apply pw_below_drewN | apply below_drew1 | refine below_set ?_ GE101.out) | exact HB.out))) hk), Kd.fresh' (Kd.R_lt (by (with_reducible repeat (first | apply Kd.R_alloc | apply Kd.R_drewN | apply Kd.R_drew)); exact HO104.out)) k_ hk, Kd.fresh' (Kd.R_lt (by (with_reducible repeat (first | apply Kd.R_alloc | apply Kd.R_drewN | apply Kd.R_drew)); exact HO107.out)) k_ hk, Kd.freshB (g := gb101) (o := .cells #[.slice none 0 0, .slice none 0 0, .slice none 0 0, .slice none 0 0, .int .i64 0, .int .i64 0, .int .i64 0] 29 (0, 0)) (by (with_reducible repeat (first | refine blk_drewN ?_ _ | refine blk_drew ?_ | refine blk_alloc ?_ _)); exact BK101.out) k_ hk⟩) _ (Nat.le_refl _)) (Below.refl _ _) (Nat.le_refl _) (by simp) ?_; (case hd => rfl); (case hg => rfl); (case hr => first | (go_simp; done) | (go_simp; rfl)); (case hp => exact (Reps.c7 (show Kd.FK k50 _ _ (⟨(⟨#[115, 97, 110, 100]⟩ : ByteArray), 1, 0, 0, 200, 20, y108⟩ : S50) [.string (⟨#[115, 97, 110, 100]⟩ : ByteArray), .int .i64 1, .int .i64 0, .int .i64 0, .int .i64 200, .int .i64 20, .slice Ao8 y108.length co8] from (k50_mkF _ _ (⟨(⟨#[115, 97, 110, 100]⟩ : ByteArray), 1, 0, 0, 200, 20, y108⟩ : S50) (Kd.R_reads' (Kd.R_mono (ok' := (fun k_ => (w.heap.size ≤ k_) ∧ some k_ ≠ (v103 : Value).ownBlock ∧ some k_ ≠ (v106 : Value).ownBlock ∧ k_ ≠ gb101)) (Kd.R_types (Kd.R_apart' (HO110.out) (Kd.R_typed HO104.out) (by decide)) BK101.out (by decide)) (fun k_ hk => ⟨hk.1.1.1.1.1, ⟨hk.1.2, ⟨hk.1.1.1.2, hk.2⟩⟩⟩))).2.1 (Kd.R_F (Kd.R_mono (ok' := (fun k_ => (w.heap.size ≤ k_) ∧ some k_ ≠ (v103 : Value).ownBlock ∧ some k_ ≠ (v106 : Value).ownBlock ∧ k_ ≠ gb101)) (Kd.R_types (Kd.R_apart' (HO110.out) (Kd.R_typed HO104.out) (by decide)) BK101.out (by decide)) (fun k_ hk => ⟨hk.1.1.1.1.1, ⟨hk.1.2, ⟨hk.1.1.1.2, hk.2⟩⟩⟩))))) (Reps.c7 (show Kd.FK k50 _ _ (⟨(⟨#[115, 111, 100, 97]⟩ : ByteArray), 4, 0, 0, 100, 20, y111⟩ : S50) [.string (⟨#[115, 111, 100, 97]⟩ : ByteArray), .int .i64 4, .int .i64 0, .int .i64 0, .int .i64 100, .int .i64 20, .slice Ao11 y111.length co11] from (k50_mkF _ _ (⟨(⟨#[115, 111, 100, 97]⟩ : ByteArray), 4, 0, 0, 100, 20, y111⟩ : S50) (Kd.R_reads' (Kd.R_mono (ok' := (fun k_ => (w.heap.size ≤ k_) ∧ some k_ ≠ (v103 : Value).ownBlock ∧ some k_ ≠ (v106 : Value).ownBlock ∧ k_ ≠ gb101)) (Kd.R_types (Kd.R_apart' (HO113.out) (Kd.R_typed HO104.out) (by decide)) BK101.out (by decide)) (fun k_ hk => ⟨hk.1.1.1.1.1, ⟨hk.1.2, ⟨hk.1.1.1.2, hk.2⟩⟩⟩))).2.1 (Kd.R_F (Kd.R_mono (ok' := (fun k_ => (w.heap.size ≤ k_) ∧ some k_ ≠ (v103 : Value).ownBlock ∧ some k_ ≠ (v106 : Value).ownBlock ∧ k_ ≠ gb101)) (Kd.R_types (Kd.R_apart' (HO113.out) (Kd.R_typed HO104.out) (by decide)) BK101.out (by decide)) (fun k_ hk => ⟨hk.1.1.1.1.1, ⟨hk.1.2, ⟨hk.1.1.1.2, hk.2⟩⟩⟩))))) (Reps.none _ _)))); intro v115 w12 ho13 hb hg_ hnew_; clear hg_ hnew_; (first | rw [← Ny114.out] at ho13 | (simp only [Int.reduceToNat] at ho13; rw [← Ny114.out] at ho13)); have n0_ := Sd.mk (Kd.R_below (by (with_reducible repeat (first | apply Kd.R_alloc | apply Kd.R_drewN | apply Kd.R_drew)); exact HO104.out) hb); have n1_ := Sd.mk (Kd.R_below (by (with_reducible repeat (first | apply Kd.R_alloc | apply Kd.R_drewN | apply Kd.R_drew)); exact HO107.out) hb); have n2_ := Sd.mk (Kd.N_lower ho13 (below_size (by repeat (first | (with_reducible first | exact HB.out | apply below_alloc | apply pw_below_drewN | apply below_drew1 | refine below_set ?_ GE101.out) | exact HB.out)))); have n3_ := Sd.mk (blk_below (g := gb101) (o := .cells #[.slice none 0 0, .slice none 0 0, .slice none 0 0, .slice none 0 0, .int .i64 0, .int .i64 0, .int .i64 0] 29 (0, 0)) (by (with_reducible repeat (first | refine blk_drewN ?_ _ | refine blk_drew ?_ | refine blk_alloc ?_ _)); exact BK101.out) hb); have n4_ := Sd.mk (below_step (by repeat (first | (with_reducible first | exact HB.out | apply below_alloc | apply pw_below_drewN | apply below_drew1 | refine below_set ?_ GE101.out) | exact HB.out)) hb); clear HO104; clear HO107; clear BK101; clear HB; clear HO110; clear HO113; have HO104 := n0_; have HO107 := n1_; have HO116 := n2_; have BK101 := n3_; have HB := n4_; clear n0_ n1_ n2_ n3_ n4_; clear hb ho13; obtain ⟨Ao14, co14, eo14⟩ := Kd.R_slice HO107.out; subst eo14; obtain ⟨Ao15, co15, eo15⟩ := Kd.N_slice HO116.out; subst eo15; obtain ⟨Ao16, co16, eo16⟩ := Kd.R_slice HO104.out; subst eo16; have hcz17_0 : w12.cell? ⟨gb101, 0, none⟩ = some (.slice none 0 0) := (blk_cell BK101.out 0).trans rfl; have hcz17_1 : w12.cell? ⟨gb101, 1, none⟩ = some (.slice none 0 0) := (blk_cell BK101.out 1).trans rfl; have hcz17_2 : w12.cell? ⟨gb101, 2, none⟩ = some (.slice none 0 0) := (blk_cell BK101.out 2).trans rfl; have hcz17_3 : w12.cell? ⟨gb101, 3, none⟩ = some (.slice none 0 0) := (blk_cell BK101.out 3).trans rfl; have hcz17_4 : w12.cell? ⟨gb101, 4, none⟩ = some (.int .i64 0) := (blk_cell BK101.out 4).trans rfl; have hcz17_5 : w12.cell? ⟨gb101, 5, none⟩ = some (.int .i64 0) := (blk_cell BK101.out 5).trans rfl; have hcz17_6 : w12.cell? ⟨gb101, 6, none⟩ = some (.int .i64 0) := (blk_cell BK101.out 6).trans rfl; have hfz17_0 := blk_frozen BK101.out 0; have hfz17_1 := blk_frozen BK101.out 1; have hfz17_2 := blk_frozen BK101.out 2; have hfz17_3 := blk_frozen BK101.out 3; have hfz17_4 := blk_frozen BK101.out 4; have hfz17_5 := blk_frozen BK101.out 5; have hfz17_6 := blk_frozen BK101.out 6))
  refine bodyPost_ret (results_cell_row rfl _ _ gb101 29 #[.slice Ao16 y102.length co16, .slice Ao15 y114.length co15, .slice Ao14 y105.length co14, .slice none 0 0, .int .i64 (-9999), .int .i64 9999, .int .i64 100] (0, 0) _ rfl (by (with_reducible repeat (first | refine blk_drewN ?_ _ | refine blk_drew ?_ | refine blk_alloc ?_ _)); refine blk_put (cs := #[.slice Ao16 y102.length co16, .slice Ao15 y114.length co15, .slice Ao14 y105.length co14, .slice none 0 0, .int .i64 (-9999), .int .i64 9999, .int .i64 0]) ?_ 6 _ rfl; (with_reducible repeat (first | refine blk_drewN ?_ _ | refine blk_drew ?_ | refine blk_alloc ?_ _)); refine blk_put (cs := #[.slice Ao16 y102.length co16, .slice Ao15 y114.length co15, .slice Ao14 y105.length co14, .slice none 0 0, .int .i64 (-9999), .int .i64 0, .int .i64 0]) ?_ 5 _ rfl; (with_reducible repeat (first | refine blk_drewN ?_ _ | refine blk_drew ?_ | refine blk_alloc ?_ _)); refine blk_put (cs := #[.slice Ao16 y102.length co16, .slice Ao15 y114.length co15, .slice Ao14 y105.length co14, .slice none 0 0, .int .i64 0, .int .i64 0, .int .i64 0]) ?_ 4 _ rfl; (with_reducible repeat (first | refine blk_drewN ?_ _ | refine blk_drew ?_ | refine blk_alloc ?_ _)); refine blk_put (cs := #[.slice Ao16 y102.length co16, .slice Ao15 y114.length co15, .slice Ao14 y105.length co14, .slice none 0 0, .int .i64 0, .int .i64 0, .int .i64 0]) ?_ 3 _ rfl; (with_reducible repeat (first | refine blk_drewN ?_ _ | refine blk_drew ?_ | refine blk_alloc ?_ _)); refine blk_put (cs := #[.slice Ao16 y102.length co16, .slice Ao15 y114.length co15, .slice none 0 0, .slice none 0 0, .int .i64 0, .int .i64 0, .int .i64 0]) ?_ 2 _ rfl; (with_reducible repeat (first | refine blk_drewN ?_ _ | refine blk_drew ?_ | refine blk_alloc ?_ _)); refine blk_put (cs := #[.slice Ao16 y102.length co16, .slice none 0 0, .slice none 0 0, .slice none 0 0, .int .i64 0, .int .i64 0, .int .i64 0]) ?_ 1 _ rfl; (with_reducible repeat (first | refine blk_drewN ?_ _ | refine blk_drew ?_ | refine blk_alloc ?_ _)); refine blk_put (cs := #[.slice none 0 0, .slice none 0 0, .slice none 0 0, .slice none 0 0, .int .i64 0, .int .i64 0, .int .i64 0]) ?_ 0 _ rfl; (with_reducible repeat (first | refine blk_drewN ?_ _ | refine blk_drew ?_ | refine blk_alloc ?_ _)); exact BK101.out) Tryz.underlying29 rfl (by kernel_rfl)) rfl ?_
  exact ⟨_, _, _, _, by first | rfl | (simp [errW_none, errW_some] <;> rfl) | (simp [*, errW_none, errW_some] <;> rfl), by (with_reducible repeat (first | apply Kd.R_alloc | apply Kd.R_drewN | apply Kd.R_drew)); exact Kd.R_mono (Kd.R_far (p := ⟨gb101, 6, none⟩) (Kd.R_far (p := ⟨gb101, 5, none⟩) (Kd.R_far (p := ⟨gb101, 4, none⟩) (Kd.R_far (p := ⟨gb101, 3, none⟩) (Kd.R_far (p := ⟨gb101, 2, none⟩) (Kd.R_far (p := ⟨gb101, 1, none⟩) (Kd.R_far (p := ⟨gb101, 0, none⟩) (Kd.R_types HO104.out BK101.out (by decide)) (fun _ hk => hk.2) (.slice Ao16 y102.length co16)) (fun _ hk => hk.2) (.slice Ao15 y114.length co15)) (fun _ hk => hk.2) (.slice Ao14 y105.length co14)) (fun _ hk => hk.2) (.slice none 0 0)) (fun _ hk => hk.2) (.int .i64 (-9999))) (fun _ hk => hk.2) (.int .i64 9999)) (fun _ hk => hk.2) (.int .i64 100)) (fun _ hk => hk.1.1), by (with_reducible repeat (first | apply Kd.N_alloc | apply Kd.N_drewN | apply Kd.N_drew)); exact Kd.N_mono (Kd.N_far (p := ⟨gb101, 6, none⟩) (Kd.N_far (p := ⟨gb101, 5, none⟩) (Kd.N_far (p := ⟨gb101, 4, none⟩) (Kd.N_far (p := ⟨gb101, 3, none⟩) (Kd.N_far (p := ⟨gb101, 2, none⟩) (Kd.N_far (p := ⟨gb101, 1, none⟩) (Kd.N_far (p := ⟨gb101, 0, none⟩) (Kd.N_mono HO116.out (fun k_ hk => (⟨hk, hk.2.2.2⟩ : _ ∧ k_ ≠ gb101))) (fun _ hk => hk.2) (.slice Ao16 y102.length co16)) (fun _ hk => hk.2) (.slice Ao15 y114.length co15)) (fun _ hk => hk.2) (.slice Ao14 y105.length co14)) (fun _ hk => hk.2) (.slice none 0 0)) (fun _ hk => hk.2) (.int .i64 (-9999))) (fun _ hk => hk.2) (.int .i64 9999)) (fun _ hk => hk.2) (.int .i64 100)) (fun _ hk => ⟨hk.1.1, ⟨hk.1.2.1, ⟨hk.1.2.2.1, (by simp [Value.ownBlock])⟩⟩⟩), by (with_reducible repeat (first | apply Kd.R_alloc | apply Kd.R_drewN | apply Kd.R_drew)); exact Kd.R_mono (Kd.R_far (p := ⟨gb101, 6, none⟩) (Kd.R_far (p := ⟨gb101, 5, none⟩) (Kd.R_far (p := ⟨gb101, 4, none⟩) (Kd.R_far (p := ⟨gb101, 3, none⟩) (Kd.R_far (p := ⟨gb101, 2, none⟩) (Kd.R_far (p := ⟨gb101, 1, none⟩) (Kd.R_far (p := ⟨gb101, 0, none⟩) (Kd.R_types HO107.out BK101.out (by decide)) (fun _ hk => hk.2) (.slice Ao16 y102.length co16)) (fun _ hk => hk.2) (.slice Ao15 y114.length co15)) (fun _ hk => hk.2) (.slice Ao14 y105.length co14)) (fun _ hk => hk.2) (.slice none 0 0)) (fun _ hk => hk.2) (.int .i64 (-9999))) (fun _ hk => hk.2) (.int .i64 9999)) (fun _ hk => hk.2) (.int .i64 100)) (fun _ hk => hk.1.1.1.1), by first | exact Kd.R_nil _ _ _ _ _ | exact Kd.N_nil _ _ _ _ _ | exact Kd.V_nil _ _ _ _ _ | exact Kd.Q_nil _ _ _ _ _ | exact Kd.S_nil _ _ _ _ _, by repeat (first | (with_reducible first | exact HB.out | apply below_alloc | apply pw_below_drewN | apply below_drew1 | refine below_set ?_ GE101.out) | exact HB.out)⟩
end
section
def lw_lives.f (k : Nat)  : Option (Bool) := (lw_Example.f).bind fun bt233 => ((x_Glass.f k bt233.1 bt233.2.1 bt233.2.2.1 bt233.2.2.2.1 bt233.2.2.2.2.1 bt233.2.2.2.2.2.1 bt233.2.2.2.2.2.2 (([80, 60] : List Int))).bind fun bt251 => (if bt251.2 = 0 then ((lw_SameSpans.f k bt251.1 (([(⟨692, 701⟩ : S27), (⟨299, 308⟩ : S27)] : List (S27)))).bind fun t258 => (some t258)) else (some false)))
theorem lw_lives.calls (k : Nat)  (r : Bool) (w : World) (h : lw_lives.f k  = some r) :
  Calls Tryz.prog 14 #[] w fun e w' => e = .returned (.bool r) ∧ Below w.heap.size w w' := by
 have hu27 := Tryz.underlying27; have HB := Sd.mk (Below.refl w.heap.size w)
 have H : ((lw_Example.f).bind fun bt233 => ((x_Glass.f k bt233.1 bt233.2.1 bt233.2.2.1 bt233.2.2.2.1 bt233.2.2.2.2.1 bt233.2.2.2.2.2.1 bt233.2.2.2.2.2.2 (([80, 60] : List Int))).bind fun bt251 => (if bt251.2 = 0 then ((lw_SameSpans.f k bt251.1 (([(⟨692, 701⟩ : S27), (⟨299, 308⟩ : S27)] : List (S27)))).bind fun t258 => (some t258)) else (some false)))) = some r := h
 clear h; replace H := Option.bind_eq_some_iff.mp H
 obtain ⟨⟨t233, t236, t239, t242, t245, t246, t247⟩, A10, H⟩ := H
 try dsimp only at H
 have A1 := Sd.mk A10; clear A10
 obtain ⟨y248, hy248⟩ : ∃ y_ : List Int, y_ = (([80, 60] : List Int)) := ⟨_, rfl⟩
 replace H : ((x_Glass.f k t233 t236 t239 t242 t245 t246 t247 y248).bind fun bt251 => (if bt251.2 = 0 then ((lw_SameSpans.f k bt251.1 (([(⟨692, 701⟩ : S27), (⟨299, 308⟩ : S27)] : List (S27)))).bind fun t258 => (some t258)) else (some false))) = some r := by first | (rw [hy248]; with_reducible exact H) | (have H2_ := (Option.bind_some _ _).symm.trans H; rw [hy248]; with_reducible exact H2_) | (have H2_ := (Option.bind_some _ _).symm.trans H; with_reducible exact H2_) | with_reducible exact H | (rw [hy248]; exact H) | exact H
 have Ny248 := Sd.mk hy248; clear hy248; replace H := Option.bind_eq_some_iff.mp H
 obtain ⟨⟨t251, t254⟩, A20, H⟩ := H
 try dsimp only at H
 have A2 := Sd.mk A20; clear A20
 by_cases c3 : t254 = 0
 ·rw [if_pos c3] at H
  have c3b0 : (t254 == 0) = true := beq_iff_eq.mpr c3
  have c3b1 : (t254 != 0) = false := bne_eq_false_iff_eq.mpr c3
  clear c3
  obtain ⟨y255, hy255⟩ : ∃ y_ : List (S27), y_ = (([(⟨692, 701⟩ : S27), (⟨299, 308⟩ : S27)] : List (S27))) := ⟨_, rfl⟩
  replace H : ((lw_SameSpans.f k t251 y255).bind fun t258 => (some t258)) = some r := by first | (rw [hy255]; with_reducible exact H) | (have H2_ := (Option.bind_some _ _).symm.trans H; rw [hy255]; with_reducible exact H2_) | (have H2_ := (Option.bind_some _ _).symm.trans H; with_reducible exact H2_) | with_reducible exact H | (rw [hy255]; exact H) | exact H
  have Ny255 := Sd.mk hy255; clear hy255; replace H := Option.bind_eq_some_iff.mp H; obtain ⟨t258, A40, H⟩ := H
  try dsimp only at H
  have A4 := Sd.mk A40; clear A40; obtain rfl := Option.some.inj H
  go_enter Tryz.func14, Tryz.ntmps14
  go_wp2_with (first | ((with_reducible refine gate_callee (f := 6) rfl ?_); refine goesL_ (some 4) rfl rfl Tryz.func6 (by kernel_rfl) rfl #[] rfl tM ?_; (with_reducible refine (lw_Example.calls  t233 t236 t239 t242 t245 t246 t247 _ A1.out).mono ?_); rintro e w5 ⟨v234, v237, v240, v243, rfl, ho0, ho1, ho2, ho3, hb⟩; refine ⟨_, rfl, ?_⟩; have HO235 := Sd.mk (Kd.R_lower (Kd.R_mono (ok' := fun k_ => True) ho0 (fun _ hk_ => trivial)) (below_size (bBl HB.out))); have HO238 := Sd.mk (Kd.N_lower (Kd.N_mono (ok' := fun k_ => some k_ ≠ (v234 : Value).ownBlock ∧ some k_ ≠ (v240 : Value).ownBlock ∧ some k_ ≠ (v243 : Value).ownBlock) ho1 (fun k_ hk_ => ⟨hk_.2.1, hk_.2.2.1, hk_.2.2.2⟩)) (below_size (bBl HB.out))); have HO241 := Sd.mk (Kd.R_lower (Kd.R_mono (ok' := fun k_ => True) ho2 (fun _ hk_ => trivial)) (below_size (bBl HB.out))); have HO244 := Sd.mk (Kd.N_lower (Kd.N_mono (ok' := fun k_ => some k_ ≠ (v234 : Value).ownBlock ∧ some k_ ≠ (v237 : Value).ownBlock ∧ some k_ ≠ (v240 : Value).ownBlock) ho3 (fun k_ hk_ => ⟨hk_.2.1, hk_.2.2.1, hk_.2.2.2⟩)) (below_size (bBl HB.out))); replace HB := Sd.mk (below_step (bBl HB.out) hb); (try clear hb); (try clear hb2); (try clear hk); (try clear hi); (try clear ho0); (try clear ho1); (try clear ho2); (try clear ho3)) | ((with_reducible refine gate_dst (N := 5) rfl ?_); (try (refine gate_guard (by rfl) ?_; dsimp only)); refine Kd.R_lit (Kd.int .i64) _ 3 ?hg (N := 5) ?hd (xs := ([80, 60] : List Int)) (inner := [.int .i64 80, .int .i64 60]) (ok := fun _ => True) (okp := fun _ => True) ?hr ?hp (fun _ hk => hk) trivial (Below.refl _ _) (Nat.le_refl _) (by simp) ?_; (case hd => rfl); (case hg => rfl); (case hr => exact tG); (case hp => exact (Reps.one (show Kd.M (Kd.int .i64) _ _ _ 80 [.int .i64 80] from rfl) (Reps.one (show Kd.M (Kd.int .i64) _ _ _ 60 [.int .i64 60] from rfl) (Reps.none _ _)))); intro v249 w6 ho7 hb hg_ hnew_; clear hg_ hnew_; (first | rw [← Ny248.out] at ho7 | (simp only [Int.reduceToNat] at ho7; rw [← Ny248.out] at ho7)); replace HO235 := Sd.mk (Kd.R_below (by (with_reducible repeat (first | apply Kd.R_alloc | apply Kd.R_drewN | apply Kd.R_drew)); exact HO235.out) hb); replace HO238 := Sd.mk (Kd.N_elder' (by (with_reducible repeat (first | apply Kd.N_alloc | apply Kd.N_drewN | apply Kd.N_drew)); exact HO238.out) (Kd.R_base ho7) hb); replace HO241 := Sd.mk (Kd.R_below (by (with_reducible repeat (first | apply Kd.R_alloc | apply Kd.R_drewN | apply Kd.R_drew)); exact HO241.out) hb); replace HO244 := Sd.mk (Kd.N_elder' (by (with_reducible repeat (first | apply Kd.N_alloc | apply Kd.N_drewN | apply Kd.N_drew)); exact HO244.out) (Kd.R_base ho7) hb); have HO250 := Sd.mk (Kd.R_lower ho7 (below_size (bBl HB.out))); replace HB := Sd.mk (below_step (bBl HB.out) hb); clear hb ho7; obtain ⟨Ao8, co8, eo8⟩ := Kd.R_slice HO235.out; subst eo8; obtain ⟨Ao9, co9, eo9⟩ := Kd.N_slice HO238.out; subst eo9; obtain ⟨Ao10, co10, eo10⟩ := Kd.R_slice HO241.out; subst eo10; obtain ⟨Ao11, co11, eo11⟩ := Kd.N_slice HO244.out; subst eo11; obtain ⟨Ao12, co12, eo12⟩ := Kd.R_slice HO250.out; subst eo12) | ((with_reducible refine gate_callee (f := 42) rfl ?_); refine goesL_ (some 6) rfl rfl Tryz.func42 (by kernel_rfl) rfl #[.agg #[.slice Ao8 t233.length co8, .slice Ao9 t236.length co9, .slice Ao10 t239.length co10, .slice Ao11 t242.length co11, .int .i64 t245, .int .i64 t246, .int .i64 t247], .slice Ao12 y248.length co12] rfl tM ?_; (with_reducible refine (x_Glass.calls k _ _ t233 _ _ t236 _ _ t239 _ _ t242 t245 t246 t247 _ _ y248 t251 t254 _ (cS ((Kd.R_reads' HO235.out).2.2)) ((Kd.R_reads' HO235.out).2.1) (cS ((Kd.N_reads' HO238.out).2.2)) ((Kd.N_reads' HO238.out).2.1) (cS ((Kd.R_reads' HO241.out).2.2)) ((Kd.R_reads' HO241.out).2.1) (cS ((Kd.N_reads' HO244.out).2.2)) ((Kd.N_reads' HO244.out).2.1) (cS ((Kd.R_reads' HO250.out).2.2)) ((Kd.R_reads' HO250.out).2.1) A2.out).mono ?_); rintro e w13 ⟨v252, rfl, ho0, hb⟩; refine ⟨_, rfl, ?_⟩; replace HO235 := Sd.mk (Kd.R_below (by (with_reducible repeat (first | apply Kd.R_alloc | apply Kd.R_drewN | apply Kd.R_drew)); exact HO235.out) hb); replace HO238 := Sd.mk (Kd.N_elder' (by (with_reducible repeat (first | apply Kd.N_alloc | apply Kd.N_drewN | apply Kd.N_drew)); exact HO238.out) (Kd.R_base ho0) hb); replace HO244 := Sd.mk (Kd.N_elder' (by (with_reducible repeat (first | apply Kd.N_alloc | apply Kd.N_drewN | apply Kd.N_drew)); exact HO244.out) (Kd.R_base ho0) hb); replace HO250 := Sd.mk (Kd.R_below (by (with_reducible repeat (first | apply Kd.R_alloc | apply Kd.R_drewN | apply Kd.R_drew)); exact HO250.out) hb); have HO253 := Sd.mk (Kd.R_lower (Kd.R_new' ho0 (Kd.R_lt (by (with_reducible repeat (first | apply Kd.R_alloc | apply Kd.R_drewN | apply Kd.R_drew)); exact HO241.out))) (below_size (bBl HB.out))); replace HO241 := Sd.mk (Kd.R_elder' (by (with_reducible repeat (first | apply Kd.R_alloc | apply Kd.R_drewN | apply Kd.R_drew)); exact HO241.out) (Kd.R_base ho0) hb); replace HB := Sd.mk (below_step (bBl HB.out) hb); (try clear hb); (try clear hb2); (try clear hk); (try clear hi); (try clear ho0)) | ((with_reducible refine gate_dst (N := 15) rfl ?_); (try (refine gate_guard (by rfl) ?_; dsimp only)); refine Kd.R_lit k27 _ 27 ?hg (N := 15) ?hd (xs := ([(⟨692, 701⟩ : S27), (⟨299, 308⟩ : S27)] : List (S27))) (inner := [.int .i64 692, .int .i64 701, .int .i64 299, .int .i64 308]) (ok := fun _ => True) (okp := fun _ => True) ?hr ?hp (fun _ hk => hk) trivial (Below.refl _ _) (Nat.le_refl _) (by simp) ?_; (case hd => rfl); (case hg => rfl); (case hr => exact tG); (case hp => exact (Reps.c2 (show Kd.M k27 _ _ _ (⟨692, 701⟩ : S27) [.int .i64 692, .int .i64 701] from (k27_mkM _ _ _ (⟨692, 701⟩ : S27) )) (Reps.c2 (show Kd.M k27 _ _ _ (⟨299, 308⟩ : S27) [.int .i64 299, .int .i64 308] from (k27_mkM _ _ _ (⟨299, 308⟩ : S27) )) (Reps.none _ _)))); intro v256 w14 ho15 hb hg_ hnew_; clear hg_ hnew_; (first | rw [← Ny255.out] at ho15 | (simp only [Int.reduceToNat] at ho15; rw [← Ny255.out] at ho15)); replace HO235 := Sd.mk (Kd.R_below (by (with_reducible repeat (first | apply Kd.R_alloc | apply Kd.R_drewN | apply Kd.R_drew)); exact HO235.out) hb); replace HO238 := Sd.mk (Kd.N_elder' (by (with_reducible repeat (first | apply Kd.N_alloc | apply Kd.N_drewN | apply Kd.N_drew)); exact HO238.out) (Kd.R_base ho15) hb); replace HO244 := Sd.mk (Kd.N_elder' (by (with_reducible repeat (first | apply Kd.N_alloc | apply Kd.N_drewN | apply Kd.N_drew)); exact HO244.out) (Kd.R_base ho15) hb); replace HO250 := Sd.mk (Kd.R_below (by (with_reducible repeat (first | apply Kd.R_alloc | apply Kd.R_drewN | apply Kd.R_drew)); exact HO250.out) hb); have HO257 := Sd.mk (Kd.R_lower (Kd.R_new' (Kd.R_new' ho15 (Kd.R_lt (by (with_reducible repeat (first | apply Kd.R_alloc | apply Kd.R_drewN | apply Kd.R_drew)); exact HO241.out))) (Kd.R_lt (by (with_reducible repeat (first | apply Kd.R_alloc | apply Kd.R_drewN | apply Kd.R_drew)); exact HO253.out))) (below_size (bBl HB.out))); replace HO241 := Sd.mk (Kd.R_elder' (by (with_reducible repeat (first | apply Kd.R_alloc | apply Kd.R_drewN | apply Kd.R_drew)); exact HO241.out) (Kd.R_base ho15) hb); replace HO253 := Sd.mk (Kd.R_elder' (by (with_reducible repeat (first | apply Kd.R_alloc | apply Kd.R_drewN | apply Kd.R_drew)); exact HO253.out) (Kd.R_base ho15) hb); replace HB := Sd.mk (below_step (bBl HB.out) hb); clear hb ho15; obtain ⟨Ao16, co16, eo16⟩ := Kd.R_slice HO253.out; subst eo16; obtain ⟨Ao17, co17, eo17⟩ := Kd.R_slice HO257.out; subst eo17) | (go_at_call 43; (with_reducible refine (lw_SameSpans.calls k _ _ t251 _ _ y255 t258 _ (cS ((Kd.R_reads' HO253.out).2.2)) ((Kd.R_reads' HO253.out).2.1) (cS ((Kd.R_reads' HO257.out).2.2)) ((Kd.R_reads' HO257.out).2.1) A4.out).mono ?_); rintro e w' ⟨rfl, ⟨nd, rfl⟩⟩))
  go_ret
  exact ⟨tE, bBl HB.out⟩
 ·rw [if_neg c3] at H
  have c3b0 : (t254 == 0) = false := beq_eq_false_iff_ne.mpr c3
  have c3b1 : (t254 != 0) = true := bne_iff_ne.mpr c3
  obtain rfl := Option.some.inj H
  go_enter Tryz.func14, Tryz.ntmps14
  go_wp2_with (first | ((with_reducible refine gate_callee (f := 6) rfl ?_); refine goesL_ (some 4) rfl rfl Tryz.func6 (by kernel_rfl) rfl #[] rfl tM ?_; (with_reducible refine (lw_Example.calls  t233 t236 t239 t242 t245 t246 t247 _ A1.out).mono ?_); rintro e w18 ⟨v234, v237, v240, v243, rfl, ho0, ho1, ho2, ho3, hb⟩; refine ⟨_, rfl, ?_⟩; have HO235 := Sd.mk (Kd.R_lower (Kd.R_mono (ok' := fun k_ => True) ho0 (fun _ hk_ => trivial)) (below_size (bBl HB.out))); have HO238 := Sd.mk (Kd.N_lower (Kd.N_mono (ok' := fun k_ => some k_ ≠ (v234 : Value).ownBlock ∧ some k_ ≠ (v240 : Value).ownBlock ∧ some k_ ≠ (v243 : Value).ownBlock) ho1 (fun k_ hk_ => ⟨hk_.2.1, hk_.2.2.1, hk_.2.2.2⟩)) (below_size (bBl HB.out))); have HO241 := Sd.mk (Kd.R_lower (Kd.R_mono (ok' := fun k_ => True) ho2 (fun _ hk_ => trivial)) (below_size (bBl HB.out))); have HO244 := Sd.mk (Kd.N_lower (Kd.N_mono (ok' := fun k_ => some k_ ≠ (v234 : Value).ownBlock ∧ some k_ ≠ (v237 : Value).ownBlock ∧ some k_ ≠ (v240 : Value).ownBlock) ho3 (fun k_ hk_ => ⟨hk_.2.1, hk_.2.2.1, hk_.2.2.2⟩)) (below_size (bBl HB.out))); replace HB := Sd.mk (below_step (bBl HB.out) hb); (try clear hb); (try clear hb2); (try clear hk); (try clear hi); (try clear ho0); (try clear ho1); (try clear ho2); (try clear ho3)) | ((with_reducible refine gate_dst (N := 5) rfl ?_); (try (refine gate_guard (by rfl) ?_; dsimp only)); refine Kd.R_lit (Kd.int .i64) _ 3 ?hg (N := 5) ?hd (xs := ([80, 60] : List Int)) (inner := [.int .i64 80, .int .i64 60]) (ok := fun _ => True) (okp := fun _ => True) ?hr ?hp (fun _ hk => hk) trivial (Below.refl _ _) (Nat.le_refl _) (by simp) ?_; (case hd => rfl); (case hg => rfl); (case hr => exact tG); (case hp => exact (Reps.one (show Kd.M (Kd.int .i64) _ _ _ 80 [.int .i64 80] from rfl) (Reps.one (show Kd.M (Kd.int .i64) _ _ _ 60 [.int .i64 60] from rfl) (Reps.none _ _)))); intro v249 w19 ho20 hb hg_ hnew_; clear hg_ hnew_; (first | rw [← Ny248.out] at ho20 | (simp only [Int.reduceToNat] at ho20; rw [← Ny248.out] at ho20)); replace HO235 := Sd.mk (Kd.R_below (by (with_reducible repeat (first | apply Kd.R_alloc | apply Kd.R_drewN | apply Kd.R_drew)); exact HO235.out) hb); replace HO238 := Sd.mk (Kd.N_elder' (by (with_reducible repeat (first | apply Kd.N_alloc | apply Kd.N_drewN | apply Kd.N_drew)); exact HO238.out) (Kd.R_base ho20) hb); replace HO241 := Sd.mk (Kd.R_below (by (with_reducible repeat (first | apply Kd.R_alloc | apply Kd.R_drewN | apply Kd.R_drew)); exact HO241.out) hb); replace HO244 := Sd.mk (Kd.N_elder' (by (with_reducible repeat (first | apply Kd.N_alloc | apply Kd.N_drewN | apply Kd.N_drew)); exact HO244.out) (Kd.R_base ho20) hb); have HO250 := Sd.mk (Kd.R_lower ho20 (below_size (bBl HB.out))); replace HB := Sd.mk (below_step (bBl HB.out) hb); clear hb ho20; obtain ⟨Ao21, co21, eo21⟩ := Kd.R_slice HO235.out; subst eo21; obtain ⟨Ao22, co22, eo22⟩ := Kd.N_slice HO238.out; subst eo22; obtain ⟨Ao23, co23, eo23⟩ := Kd.R_slice HO241.out; subst eo23; obtain ⟨Ao24, co24, eo24⟩ := Kd.N_slice HO244.out; subst eo24; obtain ⟨Ao25, co25, eo25⟩ := Kd.R_slice HO250.out; subst eo25) | ((with_reducible refine gate_callee (f := 42) rfl ?_); refine goesL_ (some 6) rfl rfl Tryz.func42 (by kernel_rfl) rfl #[.agg #[.slice Ao21 t233.length co21, .slice Ao22 t236.length co22, .slice Ao23 t239.length co23, .slice Ao24 t242.length co24, .int .i64 t245, .int .i64 t246, .int .i64 t247], .slice Ao25 y248.length co25] rfl tM ?_; (with_reducible refine (x_Glass.calls k _ _ t233 _ _ t236 _ _ t239 _ _ t242 t245 t246 t247 _ _ y248 t251 t254 _ (cS ((Kd.R_reads' HO235.out).2.2)) ((Kd.R_reads' HO235.out).2.1) (cS ((Kd.N_reads' HO238.out).2.2)) ((Kd.N_reads' HO238.out).2.1) (cS ((Kd.R_reads' HO241.out).2.2)) ((Kd.R_reads' HO241.out).2.1) (cS ((Kd.N_reads' HO244.out).2.2)) ((Kd.N_reads' HO244.out).2.1) (cS ((Kd.R_reads' HO250.out).2.2)) ((Kd.R_reads' HO250.out).2.1) A2.out).mono ?_); rintro e w26 ⟨v252, rfl, ho0, hb⟩; refine ⟨_, rfl, ?_⟩; replace HO235 := Sd.mk (Kd.R_below (by (with_reducible repeat (first | apply Kd.R_alloc | apply Kd.R_drewN | apply Kd.R_drew)); exact HO235.out) hb); replace HO238 := Sd.mk (Kd.N_elder' (by (with_reducible repeat (first | apply Kd.N_alloc | apply Kd.N_drewN | apply Kd.N_drew)); exact HO238.out) (Kd.R_base ho0) hb); replace HO244 := Sd.mk (Kd.N_elder' (by (with_reducible repeat (first | apply Kd.N_alloc | apply Kd.N_drewN | apply Kd.N_drew)); exact HO244.out) (Kd.R_base ho0) hb); replace HO250 := Sd.mk (Kd.R_below (by (with_reducible repeat (first | apply Kd.R_alloc | apply Kd.R_drewN | apply Kd.R_drew)); exact HO250.out) hb); have HO253 := Sd.mk (Kd.R_lower (Kd.R_new' ho0 (Kd.R_lt (by (with_reducible repeat (first | apply Kd.R_alloc | apply Kd.R_drewN | apply Kd.R_drew)); exact HO241.out))) (below_size (bBl HB.out))); replace HO241 := Sd.mk (Kd.R_elder' (by (with_reducible repeat (first | apply Kd.R_alloc | apply Kd.R_drewN | apply Kd.R_drew)); exact HO241.out) (Kd.R_base ho0) hb); replace HB := Sd.mk (below_step (bBl HB.out) hb); (try clear hb); (try clear hb2); (try clear hk); (try clear hi); (try clear ho0)))
  go_ret
  exact ⟨tE, bBl HB.out⟩
end
section
end
section
def b_ends.l0 : Nat → Int → Int → List (S27) → Int → Int → Option (Int × Int)
  | 0, _, _, _, _, _ => none
  | k + 1, x2, x3, x7, x8, x9 => if x9 < x8 then (if 0 ≤ x9 then (if x9 < (x7.length : Int) then (b_ends.l0 k (wrap64 (x2 + ((rd_T27 x7 x9).f0))) (wrap64 (x3 + ((rd_T27 x7 x9).f1))) x7 x8 (wrap64 (x9 + 1))) else (none)) else (none)) else (some (x2, x3))
def b_ends.f (k : Nat) (a0_0 : ByteArray) (a0_1 : Int) (a0_2 : Int) (a0_3 : Int) (a0_4 : Int) (a0_5 : Int) (l0_6 : List (S27)) : Option (Int × Int) := b_ends.l0 k 0 0 l0_6 (l0_6.length : Int) 0
theorem b_ends.calls (k : Nat) (a0_0 : ByteArray) (a0_1 : Int) (a0_2 : Int) (a0_3 : Int) (a0_4 : Int) (a0_5 : Int) (A0_6 : Option Addr) (c0_6 : Nat) (l0_6 : List (S27)) (r1 : Int) (r2 : Int) (w : World) (hr0_6 : Kd.C k27 w A0_6 l0_6.length l0_6) (hc0_6 : l0_6.length ≤ c0_6) (h : b_ends.f k a0_0 a0_1 a0_2 a0_3 a0_4 a0_5 l0_6 = some (r1, r2)) :
    Calls Tryz.prog 63 #[.agg #[.string a0_0, .int .i64 a0_1, .int .i64 a0_2, .int .i64 a0_3, .int .i64 a0_4, .int .i64 a0_5, .slice A0_6 l0_6.length c0_6]] w fun e w' => e = .returned (.tuple #[.int .i64 r1, .int .i64 r2]) ∧ Below w.heap.size w w' := by
  have hu50 := Tryz.underlying50
  have hu27 := Tryz.underlying27
  have HR0_6 := Sd.mk hr0_6
  have HC0_6 := Sd.mk hc0_6
  clear hr0_6 hc0_6
  have HB := Sd.mk (Below.refl w.heap.size w)
  have H : (b_ends.l0 k 0 0 l0_6 (l0_6.length : Int) 0) = some (r1, r2) := h
  clear h
  have H' := Sd.mk H
  clear H
  go_enter Tryz.func63, Tryz.ntmps63
  go_wp2_with (first | ((with_reducible refine gate_dst (N := 1) rfl ?_); refine box_event ?hg (N := 1) ?hd (cs := #[.string a0_0, .int .i64 a0_1, .int .i64 a0_2, .int .i64 a0_3, .int .i64 a0_4, .int .i64 a0_5, .slice A0_6 l0_6.length c0_6]) (t := 50) ?hr ?_; (case hd => rfl); (case hg => rfl); (case hr => first | (go_simp; done) | (go_simp; rfl)); intro gb422 hg w2 hbox hb; have n0_ := Sd.mk (below_step (by repeat (first | (with_reducible first | exact HB.out | apply below_alloc | apply pw_below_drewN | apply below_drew1) | exact HB.out)) hb); have n1_ := Sd.mk (hbox); have n2_ := Sd.mk ((by rw [hg]; exact (below_size (by repeat (first | (with_reducible first | exact HB.out | apply below_alloc | apply pw_below_drewN | apply below_drew1) | exact HB.out))) : w.heap.size ≤ gb422)); have n3_ := Sd.mk ((by rw [hg]; exact (below_size (by repeat (first | (with_reducible first | exact HB.out | apply below_alloc | apply pw_below_drewN | apply below_drew1) | exact HB.out))) : w.heap.size ≤ gb422)); clear HB; have HB := n0_; have BK422 := n1_; have GW422 := n2_; have GE422 := n3_; clear n0_ n1_ n2_ n3_; clear hb hbox hg; have hcz3_0 : w2.cell? ⟨gb422, 0, none⟩ = some (.string a0_0) := (blk_cell BK422.out 0).trans rfl; have hcz3_1 : w2.cell? ⟨gb422, 1, none⟩ = some (.int .i64 a0_1) := (blk_cell BK422.out 1).trans rfl; have hcz3_2 : w2.cell? ⟨gb422, 2, none⟩ = some (.int .i64 a0_2) := (blk_cell BK422.out 2).trans rfl; have hcz3_3 : w2.cell? ⟨gb422, 3, none⟩ = some (.int .i64 a0_3) := (blk_cell BK422.out 3).trans rfl; have hcz3_4 : w2.cell? ⟨gb422, 4, none⟩ = some (.int .i64 a0_4) := (blk_cell BK422.out 4).trans rfl; have hcz3_5 : w2.cell? ⟨gb422, 5, none⟩ = some (.int .i64 a0_5) := (blk_cell BK422.out 5).trans rfl; have hcz3_6 : w2.cell? ⟨gb422, 6, none⟩ = some (.slice A0_6 l0_6.length c0_6) := (blk_cell BK422.out 6).trans rfl; have hfz3_0 := blk_frozen BK422.out 0; have hfz3_1 := blk_frozen BK422.out 1; have hfz3_2 := blk_frozen BK422.out 2; have hfz3_3 := blk_frozen BK422.out 3; have hfz3_4 := blk_frozen BK422.out 4; have hfz3_5 := blk_frozen BK422.out 5; have hfz3_6 := blk_frozen BK422.out 6))
  go_loopg [2, 3, 9] k (fun kq v2 v3 v9 w' => ∃ (x2_1 : Int) (x3_1 : Int) (x9_1 : Int), v2 = .int .i64 x2_1 ∧ v3 = .int .i64 x3_1 ∧ v9 = .int .i64 x9_1 ∧ Sd (b_ends.l0 kq x2_1 x3_1 l0_6 (l0_6.length : Int) x9_1 = some (r1, r2)) ∧ Sd (kq ≤ k) ∧ Sd (w'.heap[gb422]? = some (.cells #[.string a0_0, .int .i64 a0_1, .int .i64 a0_2, .int .i64 a0_3, .int .i64 a0_4, .int .i64 a0_5, (.slice A0_6 l0_6.length c0_6)] 50 (0, 0))) ∧ Sd (Below w.heap.size w w'))
  case atStart => exact ⟨(0), (0), (0), (by first | rfl | (simp; done) | (simp [*]; done)), (by first | rfl | (simp; done) | (simp [*]; done)), (by first | rfl | (simp; done) | (simp [*]; done)), H', ⟨Nat.le_refl _⟩, ⟨by (with_reducible repeat (first | refine blk_drewN ?_ _ | refine blk_drew ?_ | refine blk_alloc ?_ _)); exact BK422.out⟩, ⟨by repeat (first | (with_reducible first | exact HB.out | apply below_alloc | apply pw_below_drewN | apply below_drew1 | refine below_set ?_ GE422.out) | exact HB.out)⟩⟩
  case round =>
    clear H'
    try clear p2
    try clear hcz3_0
    try clear hcz3_1
    try clear hcz3_2
    try clear hcz3_3
    try clear hcz3_4
    try clear hcz3_5
    try clear hcz3_6
    try clear hfz3_0
    try clear hfz3_1
    try clear hfz3_2
    try clear hfz3_3
    try clear hfz3_4
    try clear hfz3_5
    try clear hfz3_6
    obtain ⟨x2_1, x3_1, x9_1, rfl, rfl, rfl, HA, HK1, BK422, HB⟩ := hrel
    cases gk with
    | zero => exact absurd HA.out (by simp [b_ends.l0])
    | succ k1 =>
      have H := HA.out
      clear HA
      simp only [b_ends.l0] at H
      by_cases c4 : x9_1 < (l0_6.length : Int)
      · rw [if_pos c4] at H
        have c4b0 : decide (x9_1 < (l0_6.length : Int)) = true := decide_eq_true c4
        clear c4
        by_cases c5 : 0 ≤ x9_1
        · rw [if_pos c5] at H
          have c5b0 : decide (0 ≤ x9_1) = true := decide_eq_true c5
          clear c5
          by_cases c6 : x9_1 < (l0_6.length : Int)
          · rw [if_pos c6] at H
            have c6b0 : decide (x9_1 < (l0_6.length : Int)) = true := decide_eq_true c6
            clear c6
            have H' := Sd.mk H
            clear H
            have p423 : 0 ≤ (x9_1 : Int) := of_decide_eq_true (by first | (with_reducible assumption) | assumption)
            have q423 : x9_1 < (l0_6.length : Int) := of_decide_eq_true (by first | (with_reducible assumption) | assumption)
            obtain ⟨ad423, e423, hx423_0, hx423_1⟩ := at_T27 HR0_6.out x9_1 p423 q423
            cases e423
            replace hx423_0 := (HB.out.cell (World.block_lt_of_cell? w _ hx423_0)).trans hx423_0
            replace hx423_1 := (HB.out.cell (World.block_lt_of_cell? w _ hx423_1)).trans hx423_1
            replace p423 := eq_true p423
            replace q423 := eq_true q423
            go_wp2_with (first | ((with_reducible refine gate_dst (N := 5) rfl ?_); refine box_event ?hg (N := 5) ?hd (cs := #[.int .i64 0, .int .i64 0]) (t := 27) ?hr ?_; (case hd => rfl); (case hg => rfl); (case hr => first | (go_simp; done) | (go_simp; rfl)); intro gb424 hg w7 hbox hb; have n0_ := Sd.mk (blk_below (g := gb422) (o := .cells #[.string a0_0, .int .i64 a0_1, .int .i64 a0_2, .int .i64 a0_3, .int .i64 a0_4, .int .i64 a0_5, .slice (some ad423) l0_6.length c0_6] 50 (0, 0)) (by (with_reducible repeat (first | refine blk_drewN ?_ _ | refine blk_drew ?_ | refine blk_alloc ?_ _)); exact BK422.out) hb); have n1_ := Sd.mk (below_step (by repeat (first | (with_reducible first | exact HB.out | apply below_alloc | apply pw_below_drewN | apply below_drew1 | refine below_set ?_ GE422.out) | exact HB.out)) hb); have n2_ := Sd.mk (hbox); have n3_ := Sd.mk ((by rw [hg]; exact (below_size (by repeat (first | (with_reducible first | exact HB.out | apply below_alloc | apply pw_below_drewN | apply below_drew1 | refine below_set ?_ GE422.out) | exact HB.out))) : w.heap.size ≤ gb424)); have n4_ := Sd.mk ((by rw [hg]; exact (below_size (by repeat (first | (with_reducible first | exact HB.out | apply below_alloc | apply pw_below_drewN | apply below_drew1 | refine below_set ?_ GE422.out) | exact HB.out))) : w.heap.size ≤ gb424)); have n5_ := Sd.mk ((by rw [hg]; exact Nat.ne_of_lt (blk_lt (g := gb422) (o := .cells #[.string a0_0, .int .i64 a0_1, .int .i64 a0_2, .int .i64 a0_3, .int .i64 a0_4, .int .i64 a0_5, .slice (some ad423) l0_6.length c0_6] 50 (0, 0)) (by (with_reducible repeat (first | refine blk_drewN ?_ _ | refine blk_drew ?_ | refine blk_alloc ?_ _)); exact BK422.out)) : gb422 ≠ gb424)); have n6_ := Sd.mk ((by rw [hg]; exact Nat.ne_of_gt (blk_lt (g := gb422) (o := .cells #[.string a0_0, .int .i64 a0_1, .int .i64 a0_2, .int .i64 a0_3, .int .i64 a0_4, .int .i64 a0_5, .slice (some ad423) l0_6.length c0_6] 50 (0, 0)) (by (with_reducible repeat (first | refine blk_drewN ?_ _ | refine blk_drew ?_ | refine blk_alloc ?_ _)); exact BK422.out)) : gb424 ≠ gb422)); clear BK422; clear HB; have BK422 := n0_; have HB := n1_; have BK424 := n2_; have GW424 := n3_; have GE424 := n4_; have NB422_424 := n5_; have NB424_422 := n6_; clear n0_ n1_ n2_ n3_ n4_ n5_ n6_; clear hb hbox hg; have hnb8 := NB424_422.out; have hnc8 := NB422_424.out; have hcz9_0 : w7.cell? ⟨gb424, 0, none⟩ = some (.int .i64 0) := (blk_cell BK424.out 0).trans rfl; have hcz9_1 : w7.cell? ⟨gb424, 1, none⟩ = some (.int .i64 0) := (blk_cell BK424.out 1).trans rfl; have hfz9_0 := blk_frozen BK424.out 0; have hfz9_1 := blk_frozen BK424.out 1))
            go_roundg k1
            case measure => have := HK1.out; omega
            case rel => exact ⟨(wrap64 (x2_1 + ((rd_T27 l0_6 x9_1).f0))), (wrap64 (x3_1 + ((rd_T27 l0_6 x9_1).f1))), (wrap64 (x9_1 + 1)), (by first | rfl | (simp; done) | (simp [*]; done)), (by first | rfl | (simp; done) | (simp [*]; done)), (by first | rfl | (simp; done) | (simp [*]; done)), H', ⟨by have := HK1.out; omega⟩, ⟨by (with_reducible repeat (first | refine blk_drewN ?_ _ | refine blk_drew ?_ | refine blk_alloc ?_ _)); refine blk_far ?_ NB422_424.out _; (with_reducible repeat (first | refine blk_drewN ?_ _ | refine blk_drew ?_ | refine blk_alloc ?_ _)); refine blk_far ?_ NB422_424.out _; (with_reducible repeat (first | refine blk_drewN ?_ _ | refine blk_drew ?_ | refine blk_alloc ?_ _)); exact BK422.out⟩, ⟨by repeat (first | (with_reducible first | exact HB.out | apply below_alloc | apply pw_below_drewN | apply below_drew1 | refine below_set ?_ GE422.out | refine below_set ?_ GE424.out) | exact HB.out)⟩⟩
          · rw [if_neg c6] at H
            exact absurd H (by simp)
        · rw [if_neg c5] at H
          exact absurd H (by simp)
      · rw [if_neg c4] at H
        have c4b0 : decide (x9_1 < (l0_6.length : Int)) = false := decide_eq_false c4
        clear c4
        simp only [Option.some.injEq, Prod.mk.injEq] at H
        obtain ⟨rfl, rfl⟩ := H
        go_wp2
        go_ret2
        exact ⟨by first | rfl | (simp [errW_none, errW_some] <;> rfl) | (simp [*, errW_none, errW_some] <;> rfl), by repeat (first | (with_reducible first | exact HB.out | apply below_alloc | apply pw_below_drewN | apply below_drew1 | refine below_set ?_ GE422.out) | exact HB.out)⟩
end
section
attribute [local go_sem] max2_int min2_int max_two min_two
theorem l122_calls (F g : Nat) (lb : Array Value) (cf : Int → Int) (N t0 t1 : Int) (w W : World) (eg : ∀ args w, (callFunc g args).run Tryz.prog w = .ok (.enter g args) w)
    (hq : CoefQ g lb cf N w) (hb : Below w.heap.size w W) (hF : W.heap[F]? = some (.cells #[.func (.func g) #[] lb, .int .i64 t0, .int .i64 t1] 113 (0, 0))) (x : Int) (hx0 : 0 ≤ x) (hx1 : x < N)
    (hw : wrap64 (cf x - t1) = cf x - t1) :
    Calls Tryz.prog 67 #[.int .i64 x, .pointer (some ⟨F, 0, none⟩)] W fun e w' => e = .returned (.int .i64 (cf x - t1)) ∧ ∃ q, w' = W.drewN q := by
  have h1 : ∀ n, Calls Tryz.prog g (#[.int .i64 x] ++ lb) (W.drewN n) fun e w' => e = .returned (.int .i64 (cf x)) ∧ ∃ q, w' = (W.drewN n).drewN q := fun n => hq _ (pw_below_drewN hb n) x hx0 hx1
  have H1 : Sd _ := ⟨h1⟩
  have HW := Sd.mk hw
  have c0 : W.cell? ⟨F, 0, none⟩ = some (.func (.func g) #[] lb) := (blk_cell hF 0).trans rfl
  have c2 : W.cell? ⟨F, 0 + 1 + 1, none⟩ = some (.int .i64 t1) := (blk_cell hF 2).trans rfl
  clear h1 hq hb hw hF
  generalize cf x = cx at *
  go_enter Tryz.func67, Tryz.ntmps67
  go_wp2_with fail
  go_quiet (first | (go_at_fn g; exact Calls.quiet_of (H1.out _)))
  go_wp2
  go_ret
  exact ⟨by show Ending.returned (.int .i64 (wrap64 (cx - t1))) = _; rw [HW.out], _, rfl⟩
theorem l124_calls (F g : Nat) (lb : Array Value) (cf : Int → Int) (N t0 t1 : Int) (w W : World) (eg : ∀ args w, (callFunc g args).run Tryz.prog w = .ok (.enter g args) w)
    (hq : CoefQ g lb cf N w) (hb : Below w.heap.size w W) (hF : W.heap[F]? = some (.cells #[.func (.func g) #[] lb, .int .i64 t0, .int .i64 t1] 113 (0, 0))) (x : Int) (hx0 : 0 ≤ x) (hx1 : x < N)
    (hw : wrap64 (t0 - cf x) = t0 - cf x) :
    Calls Tryz.prog 69 #[.int .i64 x, .pointer (some ⟨F, 0, none⟩)] W fun e w' => e = .returned (.int .i64 (t0 - cf x)) ∧ ∃ q, w' = W.drewN q := by
  have h1 : ∀ n, Calls Tryz.prog g (#[.int .i64 x] ++ lb) (W.drewN n) fun e w' => e = .returned (.int .i64 (cf x)) ∧ ∃ q, w' = (W.drewN n).drewN q := fun n => hq _ (pw_below_drewN hb n) x hx0 hx1
  have H1 : Sd _ := ⟨h1⟩
  have HW := Sd.mk hw
  have c0 : W.cell? ⟨F, 0, none⟩ = some (.func (.func g) #[] lb) := (blk_cell hF 0).trans rfl
  have c2 : W.cell? ⟨F, 0 + 1, none⟩ = some (.int .i64 t0) := (blk_cell hF 1).trans rfl
  clear h1 hq hb hw hF
  generalize cf x = cx at *
  go_enter Tryz.func69, Tryz.ntmps69
  go_wp2_with fail
  go_quiet (first | (go_at_fn g; exact Calls.quiet_of (H1.out _)))
  go_wp2
  go_ret
  exact ⟨by show Ending.returned (.int .i64 (wrap64 (t0 - cx))) = _; rw [HW.out], _, rfl⟩
def gT (df : Int → Int) (l : List S27) (j : Nat) : Int := max (df (j : Int) * (rd_T27 l (j : Int)).f0) (df (j : Int) * (rd_T27 l (j : Int)).f1)
def gTS (df : Int → Int) (l : List S27) (n : Nat) : Int := sumTo (gT df l) n
structure DfOk (df : Int → Int) (n : Nat) : Prop where
  at_ : ∀ j : Nat, j < n → -20000 ≤ df (j : Int) ∧ df (j : Int) ≤ 20000
theorem gT_bound {df : Int → Int} {l : List S27} (H : GOk l) (C : DfOk df l.length) : ∀ j, j < l.length → -3600000000000 ≤ gT df l j ∧ gT df l j ≤ 3600000000000 := by
  intro j hj
  have a1 := H.at_ j hj
  have a2 := C.at_ j hj
  have b1 := mulb (c := df j) (x := (rd_T27 l (j : Int)).f0) (by omega) (by omega) (by omega) (by omega)
  have b2 := mulb (c := df j) (x := (rd_T27 l (j : Int)).f1) (by omega) (by omega) (by omega) (by omega)
  unfold gT
  omega
theorem gTS_step {df : Int → Int} {l : List S27} (H : GOk l) (C : DfOk df l.length) {k : Nat} (hk : k < l.length) :
    wrap64 (gTS df l k + mx (wrap64 (df (k : Int) * (rd_T27 l (k : Int)).f0)) (wrap64 (df (k : Int) * (rd_T27 l (k : Int)).f1))) = gTS df l (k + 1) := by
  have hn := H.n12
  have a1 := H.at_ k hk
  have a2 := C.at_ k hk
  have b1 := mulb (c := df k) (x := (rd_T27 l (k : Int)).f0) (by omega) (by omega) (by omega) (by omega)
  have b2 := mulb (c := df k) (x := (rd_T27 l (k : Int)).f1) (by omega) (by omega) (by omega) (by omega)
  have b3 := gT_bound H C k hk
  have b4 := sumTo_bound (f := gT df l) (M := 3600000000000) (n := l.length) (gT_bound H C) k (by omega)
  rw [wrap_id (x := df k * (rd_T27 l (k : Int)).f0) (by omega) (by omega), wrap_id (x := df k * (rd_T27 l (k : Int)).f1) (by omega) (by omega), mx_max]
  show wrap64 (gTS df l k + gT df l k) = _
  unfold gTS
  rw [wrap_id (by omega) (by omega)]
  rfl
theorem greatest_calls (x : S50) (A : Option Addr) (c g : Nat) (lb : Array Value) (df : Int → Int) (w : World) (eg : ∀ args w, (callFunc g args).run Tryz.prog w = .ok (.enter g args) w)
    (hq : CoefQ g lb df x.f6.length w) (hC : Kd.C k27 w A x.f6.length x.f6) (hc : x.f6.length ≤ c) (hG : GOk x.f6) (hd : DfOk df x.f6.length) :
    Calls Tryz.prog 66 #[.agg #[.string x.f0, .int .i64 x.f1, .int .i64 x.f2, .int .i64 x.f3, .int .i64 x.f4, .int .i64 x.f5, .slice A x.f6.length c], .func (.func g) #[] lb] w fun e w' => e = .returned (.int .i64 (gTS df x.f6 x.f6.length)) ∧ Below w.heap.size w w' := by
  have hb0 : Below w.heap.size w (w.alloc (.cells #[.string x.f0, .int .i64 x.f1, .int .i64 x.f2, .int .i64 x.f3, .int .i64 x.f4, .int .i64 x.f5, .slice A x.f6.length c] 50)) := below_alloc (Below.refl _ _) _
  have HB := Sd.mk hb0
  have hbk := blk_new w (.cells #[.string x.f0, .int .i64 x.f1, .int .i64 x.f2, .int .i64 x.f3, .int .i64 x.f4, .int .i64 x.f5, .slice A x.f6.length c] 50)
  have HBK := Sd.mk hbk
  have HQ := Sd.mk hq
  have HC := Sd.mk hC
  have HG := Sd.mk hG
  have HD := Sd.mk hd
  clear hq hC hc hG hd hb0
  go_enter Tryz.func66, Tryz.ntmps66
  have hc6 : (w.alloc (.cells #[.string x.f0, .int .i64 x.f1, .int .i64 x.f2, .int .i64 x.f3, .int .i64 x.f4, .int .i64 x.f5, .slice A x.f6.length c] 50)).cell? ⟨w.heap.size, 0 + 6, none⟩ = some (.slice A x.f6.length c) := (blk_cell hbk 6).trans rfl
  go_wp2
  have hl12 : x.f6.length ≤ 12 := HG.out.n12
  have HL12 := Sd.mk hl12
  clear hc6 hbk hl12
  generalize w.alloc (.cells #[.string x.f0, .int .i64 x.f1, .int .i64 x.f2, .int .i64 x.f3, .int .i64 x.f4, .int .i64 x.f5, .slice A x.f6.length c] 50) = w0 at HB HBK ⊢
  go_loopg [11, 5] x.f6.length (fun gq v11 v5 wr => ∃ k : Nat, v11 = .int .i64 k ∧ v5 = .int .i64 (gTS df x.f6 k) ∧ k ≤ x.f6.length ∧ x.f6.length - k ≤ gq ∧ Sd (Below w.heap.size w wr))
  case atStart => exact ⟨0, rfl, rfl, Nat.zero_le _, by omega, HB⟩
  case round =>
    clear HB HBK
    obtain ⟨k, rfl, rfl, hk, hgk, HB⟩ := hrel
    have hl12 := HL12.out
    by_cases hlt : k < x.f6.length
    · have hltz : (k : Int) < (x.f6.length : Int) := by omega
      obtain ⟨ad, rfl, hx0, hx1⟩ := at_T27 (Kd.C_below HC.out HB.out) (k : Int) (by omega) hltz
      simp only [Int.toNat_natCast] at hx0 hx1
      have HB2 := Sd.mk (below_alloc HB.out (.cells #[.int .i64 (rd_T27 x.f6 (k : Int)).f0, .int .i64 (rd_T27 x.f6 (k : Int)).f1] 27))
      have hbk := blk_new wr (.cells #[.int .i64 (rd_T27 x.f6 (k : Int)).f0, .int .i64 (rd_T27 x.f6 (k : Int)).f1] 27)
      have HSTEP := Sd.mk (gTS_step HG.out HD.out hlt)
      have h0 : (wr.alloc (.cells #[.int .i64 (rd_T27 x.f6 (k : Int)).f0, .int .i64 (rd_T27 x.f6 (k : Int)).f1] 27)).cell? ⟨wr.heap.size, 0, none⟩ = some (.int .i64 (rd_T27 x.f6 (k : Int)).f0) := (blk_cell hbk 0).trans rfl
      have h1 : (wr.alloc (.cells #[.int .i64 (rd_T27 x.f6 (k : Int)).f0, .int .i64 (rd_T27 x.f6 (k : Int)).f1] 27)).cell? ⟨wr.heap.size, 0 + 1, none⟩ = some (.int .i64 (rd_T27 x.f6 (k : Int)).f1) := (blk_cell hbk 1).trans rfl
      have HH0 := Sd.mk h0
      have HH1 := Sd.mk h1
      have hcoef : ∀ W, Below wr.heap.size wr W → Calls Tryz.prog g (#[.int .i64 (k : Int)] ++ lb) W fun e w' => e = .returned (.int .i64 (df k)) ∧ ∃ q, w' = W.drewN q := fun W hW => HQ.out W (below_then HB.out HB.out.size hW) _ (by omega) hltz
      have HCF := Sd.mk hcoef
      clear hbk h0 h1 hcoef
      go_upto_region 5 with (fail)
      generalize gTS df x.f6 k = acc at *
      have H1 : Sd (∀ n, Calls Tryz.prog g (#[.int .i64 (k : Int)] ++ lb) ((wr.alloc (.cells #[.int .i64 (rd_T27 x.f6 (k : Int)).f0, .int .i64 (rd_T27 x.f6 (k : Int)).f1] 27)).drewN n) fun e w' => e = .returned (.int .i64 (df k)) ∧ ∃ q, w' = ((wr.alloc (.cells #[.int .i64 (rd_T27 x.f6 (k : Int)).f0, .int .i64 (rd_T27 x.f6 (k : Int)).f1] 27)).drewN n).drewN q) := ⟨fun n => HCF.out _ (pw_below_drewN (below_alloc (Below.refl _ _) _) n)⟩
      generalize wr.alloc (.cells #[.int .i64 (rd_T27 x.f6 (k : Int)).f0, .int .i64 (rd_T27 x.f6 (k : Int)).f1] 27) = wa at *
      have h0 := HH0.out
      have h1 := HH1.out
      go_quiet (first | (go_at_fn g; exact Calls.quiet_of (H1.out _)))
      clear h0 h1 HH0 HH1 H1
      go_wp2
      all_goals
        go_roundg (x.f6.length - (k + 1))
        case measure => omega
        case rel => exact ⟨k + 1, rfl, by rw [← HSTEP.out]; unfold mx; first | rw [if_pos (by assumption)] | rw [if_neg (Int.not_lt.2 (by assumption))], by omega, by omega, ⟨by repeat (first | (with_reducible first | exact HB2.out | apply pw_below_drewN | apply below_drew1) | exact HB2.out)⟩⟩
    · have hltz : ¬ (k : Int) < (x.f6.length : Int) := by omega
      obtain rfl : k = x.f6.length := by omega
      go_wp2
      go_ret
      exact ⟨rfl, HB.out⟩
def lowM (x : S50) : Int := wS S27.f0 x.f6 x.f6.length
def highM (x : S50) : Int := wS S27.f1 x.f6 x.f6.length
theorem ends_l0 {l : List S27} (H : GOk l) : ∀ (m i : Nat), i + m = l.length → Ev (fun k => b_ends.l0 k (wS S27.f0 l i) (wS S27.f1 l i) l (l.length : Int) (i : Int)) (wS S27.f0 l l.length, wS S27.f1 l l.length)
  | 0, i, hi => by
    apply Ev.step
    simp only [b_ends.l0, if_neg (show ¬ (i : Int) < (l.length : Int) by omega)]
    rw [show i = l.length by omega]
    exact Ev.const _
  | m + 1, i, hi => by
    have ih := ends_l0 H m (i + 1) (by omega)
    have hn := H.n12
    have hb := wS_bounds H i (by omega)
    have hc := H.at_ i (by omega)
    apply Ev.step
    simp only [b_ends.l0, if_pos (show (i : Int) < (l.length : Int) by omega), if_pos (i_pos i), wrap_succ (i_pos i) (show (i : Int) ≤ 1000000000 by omega)]
    rw [wrap_id (x := wS S27.f0 l i + (rd_T27 l (i : Int)).f0) (by omega) (by omega), wrap_id (x := wS S27.f1 l i + (rd_T27 l (i : Int)).f1) (by omega) (by omega)]
    exact ih
theorem ends_calls (x : S50) (A : Option Addr) (c : Nat) (w : World) (hC : Kd.C k27 w A x.f6.length x.f6) (hc : x.f6.length ≤ c) (hG : GOk x.f6) :
    Calls Tryz.prog 63 #[.agg #[.string x.f0, .int .i64 x.f1, .int .i64 x.f2, .int .i64 x.f3, .int .i64 x.f4, .int .i64 x.f5, .slice A x.f6.length c]] w fun e w' => e = .returned (.tuple #[.int .i64 (lowM x), .int .i64 (highM x)]) ∧ Below w.heap.size w w' := by
  obtain ⟨K, hK⟩ := ends_l0 hG x.f6.length 0 (by omega)
  exact b_ends.calls K x.f0 x.f1 x.f2 x.f3 x.f4 x.f5 A c x.f6 (lowM x) (highM x) w hC hc (hK K (Nat.le_refl _))
theorem lowM_bound {x : S50} (H : GOk x.f6) : 0 ≤ lowM x ∧ lowM x ≤ highM x ∧ highM x ≤ 1440000000 := by
  have h := wS_bounds H x.f6.length (Nat.le_refl _)
  have hn := H.n12
  unfold lowM highM
  omega
theorem l118_calls (x : S50) (A : Option Addr) (c : Nat) (w : World) (hC : Kd.C k27 w A x.f6.length x.f6) (hc : x.f6.length ≤ c) (hG : GOk x.f6) :
    Calls Tryz.prog 62 #[.agg #[.string x.f0, .int .i64 x.f1, .int .i64 x.f2, .int .i64 x.f3, .int .i64 x.f4, .int .i64 x.f5, .slice A x.f6.length c]] w fun e w' => e = .returned (.int .i64 (-lowM x)) ∧ Below w.heap.size w w' := by
  have hb0 : Below w.heap.size w (w.alloc (.cells #[.string x.f0, .int .i64 x.f1, .int .i64 x.f2, .int .i64 x.f3, .int .i64 x.f4, .int .i64 x.f5, .slice A x.f6.length c] 50)) := below_alloc (Below.refl _ _) _
  have hgo := ends_calls x A c (w.alloc (.cells #[.string x.f0, .int .i64 x.f1, .int .i64 x.f2, .int .i64 x.f3, .int .i64 x.f4, .int .i64 x.f5, .slice A x.f6.length c] 50)) (Kd.C_below hC hb0) hc hG
  have HLB := Sd.mk (lowM_bound hG)
  have HB := Sd.mk hb0
  clear hC hc hG hb0
  go_enter Tryz.func62, Tryz.ntmps62
  go_wp2_with fail
  generalize w.alloc (.cells #[.string x.f0, .int .i64 x.f1, .int .i64 x.f2, .int .i64 x.f3, .int .i64 x.f4, .int .i64 x.f5, .slice A x.f6.length c] 50) = w0 at *
  refine hgo.mono ?_
  clear hgo
  rintro e w1 ⟨rfl, hb⟩
  have hlb := HLB.out
  go_wp2
  go_ret
  exact ⟨rfl, below_trans' HB.out hb⟩
theorem l120_calls (x : S50) (A : Option Addr) (c F g : Nat) (lb : Array Value) (cf : Int → Int) (t0 t1 : Int) (w W : World) (eg : ∀ args w, (callFunc g args).run Tryz.prog w = .ok (.enter g args) w)
    (hq : CoefQ g lb cf x.f6.length w) (hb : Below w.heap.size w W) (hF : W.heap[F]? = some (.cells #[.func (.func g) #[] lb, .int .i64 t0, .int .i64 t1] 113 (0, 0)))
    (hC : Kd.C k27 W A x.f6.length x.f6) (hc : x.f6.length ≤ c) (hG : GOk x.f6) (hcf : CfOk cf x.f6.length) (ht : (-10000 ≤ t0 ∧ t0 ≤ 10000) ∧ -10000 ≤ t1 ∧ t1 ≤ 10000) :
    Calls Tryz.prog 65 (#[.agg #[.string x.f0, .int .i64 x.f1, .int .i64 x.f2, .int .i64 x.f3, .int .i64 x.f4, .int .i64 x.f5, .slice A x.f6.length c]] ++ #[.pointer (some ⟨F, 0, none⟩)]) W fun e w' => e = .returned (.int .i64 (gTS (fun k => cf k - t1) x.f6 x.f6.length)) ∧ Below W.heap.size W w' := by
  have hb0 : Below W.heap.size W (W.alloc (.cells #[.string x.f0, .int .i64 x.f1, .int .i64 x.f2, .int .i64 x.f3, .int .i64 x.f4, .int .i64 x.f5, .slice A x.f6.length c] 50)) := below_alloc (Below.refl _ _) _
  have hq2 : CoefQ 67 #[.pointer (some ⟨F, 0, none⟩)] (fun k => cf k - t1) x.f6.length (W.alloc (.cells #[.string x.f0, .int .i64 x.f1, .int .i64 x.f2, .int .i64 x.f3, .int .i64 x.f4, .int .i64 x.f5, .slice A x.f6.length c] 50)) := by
    intro W' hW' y hy0 hy1
    obtain ⟨j, hj, rfl⟩ : ∃ j : Nat, j < x.f6.length ∧ y = j := ⟨y.toNat, by omega, by omega⟩
    have h1 := hcf.at_ j hj
    exact l122_calls F g lb cf x.f6.length t0 t1 w W' eg hq (below_trans' hb (below_trans' hb0 hW')) (blk_below hF (below_trans' hb0 hW')) (j : Int) hy0 hy1 (wrap_id (by omega) (by omega))
  have hgo := greatest_calls x A c 67 #[.pointer (some ⟨F, 0, none⟩)] (fun k => cf k - t1) (W.alloc (.cells #[.string x.f0, .int .i64 x.f1, .int .i64 x.f2, .int .i64 x.f3, .int .i64 x.f4, .int .i64 x.f5, .slice A x.f6.length c] 50)) (enters_of Tryz.func67 (by kernel_rfl) rfl) hq2 (Kd.C_below hC hb0) hc hG ⟨fun j hj => by have h1 := hcf.at_ j hj; omega⟩
  have HB := Sd.mk hb0
  clear hC hc hG hb0 hq2 hq hb hF
  show Calls Tryz.prog 65 #[.agg #[.string x.f0, .int .i64 x.f1, .int .i64 x.f2, .int .i64 x.f3, .int .i64 x.f4, .int .i64 x.f5, .slice A x.f6.length c], .pointer (some ⟨F, 0, none⟩)] W _
  go_enter Tryz.func65, Tryz.ntmps65
  go_wp2_with fail
  generalize W.alloc (.cells #[.string x.f0, .int .i64 x.f1, .int .i64 x.f2, .int .i64 x.f3, .int .i64 x.f4, .int .i64 x.f5, .slice A x.f6.length c] 50) = w0 at *
  refine hgo.mono ?_
  clear hgo
  rintro e w1 ⟨rfl, hb⟩
  go_wp2
  go_ret
  exact ⟨rfl, below_trans' HB.out hb⟩
theorem l123_calls (x : S50) (A : Option Addr) (c F g : Nat) (lb : Array Value) (cf : Int → Int) (t0 t1 : Int) (w W : World) (eg : ∀ args w, (callFunc g args).run Tryz.prog w = .ok (.enter g args) w)
    (hq : CoefQ g lb cf x.f6.length w) (hb : Below w.heap.size w W) (hF : W.heap[F]? = some (.cells #[.func (.func g) #[] lb, .int .i64 t0, .int .i64 t1] 113 (0, 0)))
    (hC : Kd.C k27 W A x.f6.length x.f6) (hc : x.f6.length ≤ c) (hG : GOk x.f6) (hcf : CfOk cf x.f6.length) (ht : (-10000 ≤ t0 ∧ t0 ≤ 10000) ∧ -10000 ≤ t1 ∧ t1 ≤ 10000) :
    Calls Tryz.prog 68 (#[.agg #[.string x.f0, .int .i64 x.f1, .int .i64 x.f2, .int .i64 x.f3, .int .i64 x.f4, .int .i64 x.f5, .slice A x.f6.length c]] ++ #[.pointer (some ⟨F, 0, none⟩)]) W fun e w' => e = .returned (.int .i64 (gTS (fun k => t0 - cf k) x.f6 x.f6.length)) ∧ Below W.heap.size W w' := by
  have hb0 : Below W.heap.size W (W.alloc (.cells #[.string x.f0, .int .i64 x.f1, .int .i64 x.f2, .int .i64 x.f3, .int .i64 x.f4, .int .i64 x.f5, .slice A x.f6.length c] 50)) := below_alloc (Below.refl _ _) _
  have hq2 : CoefQ 69 #[.pointer (some ⟨F, 0, none⟩)] (fun k => t0 - cf k) x.f6.length (W.alloc (.cells #[.string x.f0, .int .i64 x.f1, .int .i64 x.f2, .int .i64 x.f3, .int .i64 x.f4, .int .i64 x.f5, .slice A x.f6.length c] 50)) := by
    intro W' hW' y hy0 hy1
    obtain ⟨j, hj, rfl⟩ : ∃ j : Nat, j < x.f6.length ∧ y = j := ⟨y.toNat, by omega, by omega⟩
    have h1 := hcf.at_ j hj
    exact l124_calls F g lb cf x.f6.length t0 t1 w W' eg hq (below_trans' hb (below_trans' hb0 hW')) (blk_below hF (below_trans' hb0 hW')) (j : Int) hy0 hy1 (wrap_id (by omega) (by omega))
  have hgo := greatest_calls x A c 69 #[.pointer (some ⟨F, 0, none⟩)] (fun k => t0 - cf k) (W.alloc (.cells #[.string x.f0, .int .i64 x.f1, .int .i64 x.f2, .int .i64 x.f3, .int .i64 x.f4, .int .i64 x.f5, .slice A x.f6.length c] 50)) (enters_of Tryz.func69 (by kernel_rfl) rfl) hq2 (Kd.C_below hC hb0) hc hG ⟨fun j hj => by have h1 := hcf.at_ j hj; omega⟩
  have HB := Sd.mk hb0
  clear hC hc hG hb0 hq2 hq hb hF
  show Calls Tryz.prog 68 #[.agg #[.string x.f0, .int .i64 x.f1, .int .i64 x.f2, .int .i64 x.f3, .int .i64 x.f4, .int .i64 x.f5, .slice A x.f6.length c], .pointer (some ⟨F, 0, none⟩)] W _
  go_enter Tryz.func68, Tryz.ntmps68
  go_wp2_with fail
  generalize W.alloc (.cells #[.string x.f0, .int .i64 x.f1, .int .i64 x.f2, .int .i64 x.f3, .int .i64 x.f4, .int .i64 x.f5, .slice A x.f6.length c] 50) = w0 at *
  refine hgo.mono ?_
  clear hgo
  rintro e w1 ⟨rfl, hb⟩
  go_wp2
  go_ret
  exact ⟨rfl, below_trans' HB.out hb⟩
def rUp (u : Int) (x : S50) : Int := 1000000 * x.f2 - mn (u * lowM x) (u * highM x)
def rDn (t : Int) (x : S50) : Int := mx (t * lowM x) (t * highM x) - 1000000 * x.f2
theorem mulr {c x : Int} (h1 : -10000 ≤ c) (h2 : c ≤ 10000) (h3 : 0 ≤ x) (h4 : x ≤ 1440000000) : -14400000000000 ≤ c * x ∧ c * x ≤ 14400000000000 := by
  have e1 := Int.mul_le_mul_of_nonneg_right h1 h3
  have e2 := Int.mul_le_mul_of_nonneg_right h2 h3
  omega
theorem l125_calls (x : S50) (A : Option Addr) (c U : Nat) (u : Int) (W : World) (hU : W.heap[U]? = some (.cells #[.int .i64 u] 3 (0, 0)))
    (hC : Kd.C k27 W A x.f6.length x.f6) (hc : x.f6.length ≤ c) (hG : GOk x.f6) (hu : -10000 ≤ u ∧ u ≤ 10000) (hr : -1000 ≤ x.f2 ∧ x.f2 ≤ 1000) :
    Calls Tryz.prog 70 (#[.agg #[.string x.f0, .int .i64 x.f1, .int .i64 x.f2, .int .i64 x.f3, .int .i64 x.f4, .int .i64 x.f5, .slice A x.f6.length c]] ++ #[.pointer (some ⟨U, 0, none⟩)]) W fun e w' => e = .returned (.int .i64 (rUp u x)) ∧ Below W.heap.size W w' := by
  have hb0 : Below W.heap.size W (W.alloc (.cells #[.string x.f0, .int .i64 x.f1, .int .i64 x.f2, .int .i64 x.f3, .int .i64 x.f4, .int .i64 x.f5, .slice A x.f6.length c] 50)) := below_alloc (Below.refl _ _) _
  have hgo := ends_calls x A c (W.alloc (.cells #[.string x.f0, .int .i64 x.f1, .int .i64 x.f2, .int .i64 x.f3, .int .i64 x.f4, .int .i64 x.f5, .slice A x.f6.length c] 50)) (Kd.C_below hC hb0) hc hG
  have hlb := lowM_bound hG
  have hp1 := mulr hu.1 hu.2 hlb.1 (Int.le_trans hlb.2.1 hlb.2.2)
  have hp2 := mulr hu.1 hu.2 (Int.le_trans hlb.1 hlb.2.1) hlb.2.2
  have HP1 := Sd.mk hp1
  have HP2 := Sd.mk hp2
  have HR := Sd.mk hr
  have HB := Sd.mk hb0
  have BU := Sd.mk (blk_below hU hb0)
  have BM := Sd.mk (blk_new W (.cells #[.string x.f0, .int .i64 x.f1, .int .i64 x.f2, .int .i64 x.f3, .int .i64 x.f4, .int .i64 x.f5, .slice A x.f6.length c] 50))
  clear hC hc hG hb0 hu hr hlb hp1 hp2 hU
  show Calls Tryz.prog 70 #[.agg #[.string x.f0, .int .i64 x.f1, .int .i64 x.f2, .int .i64 x.f3, .int .i64 x.f4, .int .i64 x.f5, .slice A x.f6.length c], .pointer (some ⟨U, 0, none⟩)] W _
  go_enter Tryz.func70, Tryz.ntmps70
  go_wp2_with fail
  generalize W.alloc (.cells #[.string x.f0, .int .i64 x.f1, .int .i64 x.f2, .int .i64 x.f3, .int .i64 x.f4, .int .i64 x.f5, .slice A x.f6.length c] 50) = w0 at *
  refine hgo.mono ?_
  clear hgo
  rintro e w1 ⟨rfl, hb⟩
  have HB1 := Sd.mk hb
  have hm2 : w1.cell? ⟨W.heap.size, 0 + 2, none⟩ = some (.int .i64 x.f2) := (blk_cell (blk_below BM.out hb) 2).trans rfl
  have hu0 : w1.cell? ⟨U, 0, none⟩ = some (.int .i64 u) := (blk_cell (blk_below BU.out hb) 0).trans rfl
  obtain ⟨hp1, hp1'⟩ := HP1.out
  obtain ⟨hp2, hp2'⟩ := HP2.out
  obtain ⟨hr1, hr2⟩ := HR.out
  clear hb
  go_wp2
  all_goals
    go_ret
    refine ⟨?_, below_trans' HB.out HB1.out⟩
    unfold rUp mn
    first | rw [if_pos (by assumption)] | rw [if_neg (Int.not_lt.2 (by assumption))]
    try rfl
theorem l126_calls (x : S50) (A : Option Addr) (c U : Nat) (u : Int) (W : World) (hU : W.heap[U]? = some (.cells #[.int .i64 u] 3 (0, 0)))
    (hC : Kd.C k27 W A x.f6.length x.f6) (hc : x.f6.length ≤ c) (hG : GOk x.f6) (hu : -10000 ≤ u ∧ u ≤ 10000) (hr : -1000 ≤ x.f2 ∧ x.f2 ≤ 1000) :
    Calls Tryz.prog 71 (#[.agg #[.string x.f0, .int .i64 x.f1, .int .i64 x.f2, .int .i64 x.f3, .int .i64 x.f4, .int .i64 x.f5, .slice A x.f6.length c]] ++ #[.pointer (some ⟨U, 0, none⟩)]) W fun e w' => e = .returned (.int .i64 (rDn u x)) ∧ Below W.heap.size W w' := by
  have hb0 : Below W.heap.size W (W.alloc (.cells #[.string x.f0, .int .i64 x.f1, .int .i64 x.f2, .int .i64 x.f3, .int .i64 x.f4, .int .i64 x.f5, .slice A x.f6.length c] 50)) := below_alloc (Below.refl _ _) _
  have hgo := ends_calls x A c (W.alloc (.cells #[.string x.f0, .int .i64 x.f1, .int .i64 x.f2, .int .i64 x.f3, .int .i64 x.f4, .int .i64 x.f5, .slice A x.f6.length c] 50)) (Kd.C_below hC hb0) hc hG
  have hlb := lowM_bound hG
  have hp1 := mulr hu.1 hu.2 hlb.1 (Int.le_trans hlb.2.1 hlb.2.2)
  have hp2 := mulr hu.1 hu.2 (Int.le_trans hlb.1 hlb.2.1) hlb.2.2
  have HP1 := Sd.mk hp1
  have HP2 := Sd.mk hp2
  have HR := Sd.mk hr
  have HB := Sd.mk hb0
  have BU := Sd.mk (blk_below hU hb0)
  have BM := Sd.mk (blk_new W (.cells #[.string x.f0, .int .i64 x.f1, .int .i64 x.f2, .int .i64 x.f3, .int .i64 x.f4, .int .i64 x.f5, .slice A x.f6.length c] 50))
  clear hC hc hG hb0 hu hr hlb hp1 hp2 hU
  show Calls Tryz.prog 71 #[.agg #[.string x.f0, .int .i64 x.f1, .int .i64 x.f2, .int .i64 x.f3, .int .i64 x.f4, .int .i64 x.f5, .slice A x.f6.length c], .pointer (some ⟨U, 0, none⟩)] W _
  go_enter Tryz.func71, Tryz.ntmps71
  go_wp2_with fail
  generalize W.alloc (.cells #[.string x.f0, .int .i64 x.f1, .int .i64 x.f2, .int .i64 x.f3, .int .i64 x.f4, .int .i64 x.f5, .slice A x.f6.length c] 50) = w0 at *
  refine hgo.mono ?_
  clear hgo
  rintro e w1 ⟨rfl, hb⟩
  have HB1 := Sd.mk hb
  have hm2 : w1.cell? ⟨W.heap.size, 0 + 2, none⟩ = some (.int .i64 x.f2) := (blk_cell (blk_below BM.out hb) 2).trans rfl
  have hu0 : w1.cell? ⟨U, 0, none⟩ = some (.int .i64 u) := (blk_cell (blk_below BU.out hb) 0).trans rfl
  obtain ⟨hp1, hp1'⟩ := HP1.out
  obtain ⟨hp2, hp2'⟩ := HP2.out
  obtain ⟨hr1, hr2⟩ := HR.out
  clear hb
  go_wp2
  all_goals
    go_ret
    refine ⟨?_, below_trans' HB.out HB1.out⟩
    unfold rDn mx
    first | rw [if_pos (by assumption)] | rw [if_neg (Int.not_lt.2 (by assumption))]
    try rfl
end
section
attribute [local go_sem] max2_int min2_int max_two min_two
theorem goesV_ {P : Program} {ops : Array Oper} {Q : Exit → Act → World → Prop} {oi : Oper} {N : Option Tmp} {a : Act} {w : World} {K : Act → World → Prop} (f : FuncId) (lb : Array Value) (eg : ∀ args w, (callFunc f args).run P w = .ok (.enter f args) w)
    {t : Tmp} {as_ : Array Operand} {ts : Array TypeId} (args : Array Value) (hw : Region.wanted oi (yielded ops a.tmps) = true) (hN : oi.dst = N) (hop : oi.op = .call { callee := .value (.tmp t), args := as_, argTypes := ts })
    (ht : a.eval (.tmp t) = .func (.func f) #[] lb) (hargs : as_.map a.eval = args) (h : Calls P f (args ++ lb) w fun e w' => ∃ v, e = .returned v ∧ K (a.put N v) w') : if Region.wanted oi (yielded ops a.tmps) = true then Oper.wp P oi a w K Q else K (a.put N undef) w := by
  refine call_ f (args ++ lb) hw hN ?_ h
  have he := eg (args ++ lb) w
  have ht' : a.tmps.getD t undef = .func (.func f) #[] lb := ht
  unfold execOp
  simp [hop, resolve, Deferred.ofValue, invoke, Act.eval, ht', ht, hargs, he]
def FacQ (g : Nat) (lb : Array Value) (fc : S50 → Int) (mt : List S50) (w : World) : Prop :=
  ∀ W, Below w.heap.size w W → ∀ i : Nat, i < mt.length → ∀ A c, Kd.C k27 W A (rd_T50 mt (i : Int)).f6.length (rd_T50 mt (i : Int)).f6 → (rd_T50 mt (i : Int)).f6.length ≤ c →
    Calls Tryz.prog g (#[.agg #[.string (rd_T50 mt (i : Int)).f0, .int .i64 (rd_T50 mt (i : Int)).f1, .int .i64 (rd_T50 mt (i : Int)).f2, .int .i64 (rd_T50 mt (i : Int)).f3, .int .i64 (rd_T50 mt (i : Int)).f4, .int .i64 (rd_T50 mt (i : Int)).f5, .slice A (rd_T50 mt (i : Int)).f6.length c]] ++ lb) W fun e w' => e = .returned (.int .i64 (fc (rd_T50 mt (i : Int)))) ∧ Below W.heap.size W w'
def lineT : Bool × List (List Nat × List Nat) := (true, [([], []), ([0], [0]), ([], []), ([], []), ([2, 3], [2, 3]), ([4], [4]), ([1, 5, 4], [1, 5]), ([0, 1, 2, 3, 4, 5, 6], []), ([7, 6, 6, 0, 1, 2, 3, 4, 5, 6], [6, 7])])
def lineB : List Nat := [0, 1, 0, 0, 12, 28, 63, 127, 255]
theorem line_tab : rtab .any (opsOf Tryz.f61 5) = lineT := by kernel_rfl
theorem line_bits : waitsOk lineT.2 lineB = true := by kernel_rfl
structure LineW (w W : World) (b : Int) (fl : List Int) : Prop where
  below : Below w.heap.size w W
  res : W.heap[w.heap.size + 1]? = some (.cells #[.slice none 0 0, .int .i64 0] 40 (0, 0))
  out : ∃ A c, W.heap[w.heap.size + 2]? = some (.cells #[.slice A fl.length c, .int .i64 b] 40 (0, 0)) ∧ Kd.R (Kd.int .i64) 3 W w.heap.size (fun _ => True) (.slice A fl.length c) fl
theorem line_calls (A0 A1 A2 A3 : Option Addr) (n0 c0 c1 n2 c2 n3 c3 : Nat) (mt : List S50) (a4 a5 a6 b : Int) (g : Nat) (lb : Array Value) (fc : S50 → Int) (w : World)
    (eg : ∀ args w, (callFunc g args).run Tryz.prog w = .ok (.enter g args) w) (hq : FacQ g lb fc mt w) (hC : Kd.C k50 w A1 mt.length mt) (hm : mt.length ≤ 12) :
    Calls Tryz.prog 61 #[.agg #[.slice A0 n0 c0, .slice A1 mt.length c1, .slice A2 n2 c2, .slice A3 n3 c3, .int .i64 a4, .int .i64 a5, .int .i64 a6], .int .i64 b, .func (.func g) #[] lb] w fun e w' =>
      ∃ v, e = .returned (.agg #[v, .int .i64 b]) ∧ Kd.R (Kd.int .i64) 3 w' w.heap.size (fun _ => True) v (mt.map fc) ∧ Below w.heap.size w w' := by
  have hlw : LineW w (((w.alloc (.cells #[.slice A0 n0 c0, .slice A1 mt.length c1, .slice A2 n2 c2, .slice A3 n3 c3, .int .i64 a4, .int .i64 a5, .int .i64 a6] 29)).alloc (.cells #[.slice none 0 0, .int .i64 0] 40)).alloc (.cells #[.slice none 0 0, .int .i64 b] 40)) b (List.map fc (mt.take 0)) := by
    refine ⟨below_alloc (below_alloc (below_alloc (Below.refl _ _) _) _) _, ?_, none, 0, ?_, ?_⟩
    · have := blk_alloc (blk_new (w.alloc (.cells #[.slice A0 n0 c0, .slice A1 mt.length c1, .slice A2 n2 c2, .slice A3 n3 c3, .int .i64 a4, .int .i64 a5, .int .i64 a6] 29)) (.cells #[.slice none 0 0, .int .i64 0] 40)) (.cells #[.slice none 0 0, .int .i64 b] 40)
      simpa using this
    · have := blk_new ((w.alloc (.cells #[.slice A0 n0 c0, .slice A1 mt.length c1, .slice A2 n2 c2, .slice A3 n3 c3, .int .i64 a4, .int .i64 a5, .int .i64 a6] 29)).alloc (.cells #[.slice none 0 0, .int .i64 0] 40)) (.cells #[.slice none 0 0, .int .i64 b] 40)
      simpa using this
    · exact Kd.R_nil _ _ _ _ _
  have HQ := Sd.mk hq
  have HC := Sd.mk hC
  have HM := Sd.mk hm
  have HLW := Sd.mk hlw
  have hc1 : (((w.alloc (.cells #[.slice A0 n0 c0, .slice A1 mt.length c1, .slice A2 n2 c2, .slice A3 n3 c3, .int .i64 a4, .int .i64 a5, .int .i64 a6] 29)).alloc (.cells #[.slice none 0 0, .int .i64 0] 40)).alloc (.cells #[.slice none 0 0, .int .i64 b] 40)).cell? ⟨w.heap.size, 0 + 1, none⟩ = some (.slice A1 mt.length c1) := (blk_cell (blk_alloc (blk_alloc (blk_new w _) _) _) 1).trans rfl
  clear hq hC hlw
  go_enter Tryz.func61, Tryz.ntmps61
  go_wp2
  clear hc1
  generalize ((w.alloc (.cells #[.slice A0 n0 c0, .slice A1 mt.length c1, .slice A2 n2 c2, .slice A3 n3 c3, .int .i64 a4, .int .i64 a5, .int .i64 a6] 29)).alloc (.cells #[.slice none 0 0, .int .i64 0] 40)).alloc (.cells #[.slice none 0 0, .int .i64 b] 40) = w0 at HLW ⊢
  go_loopg [15] mt.length (fun gq v15 wr => ∃ k : Nat, v15 = .int .i64 k ∧ k ≤ mt.length ∧ mt.length - k ≤ gq ∧ Sd (LineW w wr b (List.map fc (mt.take k))))
  case atStart => exact ⟨0, rfl, Nat.zero_le _, by omega, HLW⟩
  case round =>
    clear HLW
    obtain ⟨k, rfl, hk, hgk, HW⟩ := hrel
    have hm12 := HM.out
    by_cases hlt : k < mt.length
    · have hltz : (k : Int) < (mt.length : Int) := by omega
      obtain ⟨A, c, hO, hR⟩ := HW.out.out
      obtain ⟨ad, A6, c6, rfl, hx0, hx1, hx2, hx3, hx4, hx5, hx6, hl6, hi6⟩ := at_T50 (Kd.C_below HC.out HW.out.below) (k : Int) (by omega) hltz
      simp only [Int.toNat_natCast] at hx0 hx1 hx2 hx3 hx4 hx5 hx6
      have BM := Sd.mk (blk_new wr (.cells #[.string (rd_T50 mt (k : Int)).f0, .int .i64 (rd_T50 mt (k : Int)).f1, .int .i64 (rd_T50 mt (k : Int)).f2, .int .i64 (rd_T50 mt (k : Int)).f3, .int .i64 (rd_T50 mt (k : Int)).f4, .int .i64 (rd_T50 mt (k : Int)).f5, .slice A6 (rd_T50 mt (k : Int)).f6.length c6] 50))
      have BO := Sd.mk (blk_alloc hO (.cells #[.string (rd_T50 mt (k : Int)).f0, .int .i64 (rd_T50 mt (k : Int)).f1, .int .i64 (rd_T50 mt (k : Int)).f2, .int .i64 (rd_T50 mt (k : Int)).f3, .int .i64 (rd_T50 mt (k : Int)).f4, .int .i64 (rd_T50 mt (k : Int)).f5, .slice A6 (rd_T50 mt (k : Int)).f6.length c6] 50))
      have BR := Sd.mk (blk_alloc HW.out.res (.cells #[.string (rd_T50 mt (k : Int)).f0, .int .i64 (rd_T50 mt (k : Int)).f1, .int .i64 (rd_T50 mt (k : Int)).f2, .int .i64 (rd_T50 mt (k : Int)).f3, .int .i64 (rd_T50 mt (k : Int)).f4, .int .i64 (rd_T50 mt (k : Int)).f5, .slice A6 (rd_T50 mt (k : Int)).f6.length c6] 50))
      have HB := Sd.mk (below_alloc HW.out.below (.cells #[.string (rd_T50 mt (k : Int)).f0, .int .i64 (rd_T50 mt (k : Int)).f1, .int .i64 (rd_T50 mt (k : Int)).f2, .int .i64 (rd_T50 mt (k : Int)).f3, .int .i64 (rd_T50 mt (k : Int)).f4, .int .i64 (rd_T50 mt (k : Int)).f5, .slice A6 (rd_T50 mt (k : Int)).f6.length c6] 50))
      have HR := Sd.mk (Kd.R_alloc hR (.cells #[.string (rd_T50 mt (k : Int)).f0, .int .i64 (rd_T50 mt (k : Int)).f1, .int .i64 (rd_T50 mt (k : Int)).f2, .int .i64 (rd_T50 mt (k : Int)).f3, .int .i64 (rd_T50 mt (k : Int)).f4, .int .i64 (rd_T50 mt (k : Int)).f5, .slice A6 (rd_T50 mt (k : Int)).f6.length c6] 50))
      have NXO := Sd.mk (show w.heap.size + 2 ≠ wr.heap.size from Nat.ne_of_lt (blk_lt hO))
      have hfl : (List.map fc (mt.take k)).length = k := by simp; omega
      have HFL := Sd.mk hfl
      have HSTEP : Sd (List.map fc (mt.take k) ++ [fc (rd_T50 mt (k : Int))] = List.map fc (mt.take (k + 1))) := ⟨by rw [List.take_succ_eq_append_getElem hlt, List.map_append]; simp [rd_T50, hlt]⟩
      have HCALL := Sd.mk (fun W hW => HQ.out W hW k hlt A6 c6)
      have HL6 := Sd.mk hl6
      have HI6 := Sd.mk (Kd.C_alloc hi6 (.cells #[.string (rd_T50 mt (k : Int)).f0, .int .i64 (rd_T50 mt (k : Int)).f1, .int .i64 (rd_T50 mt (k : Int)).f2, .int .i64 (rd_T50 mt (k : Int)).f3, .int .i64 (rd_T50 mt (k : Int)).f4, .int .i64 (rd_T50 mt (k : Int)).f5, .slice A6 (rd_T50 mt (k : Int)).f6.length c6] 50))
      clear hO hR HW hfl hl6 hi6
      go_upto_region 5 with (fail)
      clear hx0 hx1 hx2 hx3 hx4 hx5 hx6
      generalize hfv : List.map fc (mt.take k) = fl at *
      clear hfv
      generalize hWX : wr.alloc (.cells #[.string (rd_T50 mt (k : Int)).f0, .int .i64 (rd_T50 mt (k : Int)).f1, .int .i64 (rd_T50 mt (k : Int)).f2, .int .i64 (rd_T50 mt (k : Int)).f3, .int .i64 (rd_T50 mt (k : Int)).f4, .int .i64 (rd_T50 mt (k : Int)).f5, .slice A6 (rd_T50 mt (k : Int)).f6.length c6] 50) = WX at *
      clear hWX
      generalize hXX : wr.heap.size = X at *
      generalize hOO : w.heap.size + 2 = O at *
      refine start_ (n := 9) (S := fun w' => w'.cell? ⟨O, 0, none⟩ = some (.slice A fl.length c) ∧ w'.cell? ⟨X, 0, none⟩ = some (.string (rd_T50 mt (k : Int)).f0) ∧ w'.cell? ⟨X, 1, none⟩ = some (.int .i64 (rd_T50 mt (k : Int)).f1) ∧ w'.cell? ⟨X, 2, none⟩ = some (.int .i64 (rd_T50 mt (k : Int)).f2) ∧ w'.cell? ⟨X, 3, none⟩ = some (.int .i64 (rd_T50 mt (k : Int)).f3) ∧ w'.cell? ⟨X, 4, none⟩ = some (.int .i64 (rd_T50 mt (k : Int)).f4) ∧ w'.cell? ⟨X, 5, none⟩ = some (.int .i64 (rd_T50 mt (k : Int)).f5) ∧ w'.cell? ⟨X, 6, none⟩ = some (.slice A6 (rd_T50 mt (k : Int)).f6.length c6)) (ds := [8]) #[false, false, false, false, false, false, false, false, false] (by kernel_rfl) rfl rfl ⟨(blk_cell BO.out 0).trans rfl, (blk_cell BM.out 0).trans rfl, (blk_cell BM.out 1).trans rfl, (blk_cell BM.out 2).trans rfl, (blk_cell BM.out 3).trans rfl, (blk_cell BM.out 4).trans rfl, (blk_cell BM.out 5).trans rfl, (blk_cell BM.out 6).trans rfl⟩ (fun hHeld => ?_); refine with_tabW line_tab line_bits (fun HT_ HW_ => ?_)
      replace BM := Sd.mk (blk_drew BM.out)
      replace BO := Sd.mk (blk_drew BO.out)
      replace BR := Sd.mk (blk_drew BR.out)
      replace HB := Sd.mk (below_drew1 HB.out)
      replace HI6 := Sd.mk (Kd.C_drew HI6.out)
      replace HR := Sd.mk (Kd.R_drew HR.out)
      generalize WX.drew = W0 at BM BO BR HB HI6 HR hHeld ⊢
      refine pure_ (i := 0) (N := some 19) (v := ?_) (a' := ?_) #[true, false, false, false, false, false, false, false, false] rfl rfl (any_of HT_.out (by kernel_rfl)) (fun _ _ _ h => h) (Or.inl ⟨by rfl, ?_⟩) ?_ ?_
      rotate_left
      · intro w'
        go_simp
        with_reducible rfl
      rotate_left
      · simp only [Act.put, List.setIfInBounds_toArray, List.set_cons_zero, List.set_cons_succ, i64_w, i32_w]
        rfl
      refine take_ (i := 1) (N := some 20) (v := ?_) (a' := ?_) #[true, true, false, false, false, false, false, false, false] rfl rfl (take_ofW HT_.out HW_.out (by kernel_rfl)) (fun _ _ _ h => h) (Or.inl ⟨by rfl, ?_⟩) hHeld ?_ ?_
      rotate_left
      · rintro w' ⟨s0, s1, s2, s3, s4, s5, s6, s7⟩
        go_simp
        with_reducible rfl
      rotate_left
      · simp only [Act.put, List.setIfInBounds_toArray, List.set_cons_zero, List.set_cons_succ, i64_w, i32_w]
        rfl
      refine pure_ (i := 2) (N := some 21) (v := ?_) (a' := ?_) #[true, true, true, false, false, false, false, false, false] rfl rfl (any_of HT_.out (by kernel_rfl)) (fun _ _ _ h => h) (Or.inl ⟨by rfl, ?_⟩) ?_ ?_
      rotate_left
      · intro w'
        go_simp
        with_reducible rfl
      rotate_left
      · simp only [Act.put, List.setIfInBounds_toArray, List.set_cons_zero, List.set_cons_succ, i64_w, i32_w]
        rfl
      refine take_ (i := 3) (N := some 22) (v := ?_) (a' := ?_) #[true, true, true, true, false, false, false, false, false] rfl rfl (take_ofW HT_.out HW_.out (by kernel_rfl)) (fun _ _ _ h => h) (Or.inl ⟨by rfl, ?_⟩) hHeld ?_ ?_
      rotate_left
      · rintro w' ⟨s0, s1, s2, s3, s4, s5, s6, s7⟩
        go_simp
        with_reducible rfl
      rotate_left
      · simp only [Act.put, List.setIfInBounds_toArray, List.set_cons_zero, List.set_cons_succ, i64_w, i32_w]
        rfl
      refine one_ (i := 4) (N := some 23) #[true, true, true, true, true, false, false, false, false] rfl rfl (one_of HT_.out (by kernel_rfl)) (by decide) (fun K hK => ?_)
      refine goesV_ g lb eg #[.agg #[.string (rd_T50 mt (k : Int)).f0, .int .i64 (rd_T50 mt (k : Int)).f1, .int .i64 (rd_T50 mt (k : Int)).f2, .int .i64 (rd_T50 mt (k : Int)).f3, .int .i64 (rd_T50 mt (k : Int)).f4, .int .i64 (rd_T50 mt (k : Int)).f5, .slice A6 (rd_T50 mt (k : Int)).f6.length c6]] (by rfl) rfl rfl (by rfl) (by (try simp only [List.map_toArray, List.map_cons, List.map_nil]); first | done | rfl) ?_
      refine (HCALL.out W0 HB.out HI6.out HL6.out).mono ?_
      rintro e w4 ⟨rfl, hb⟩
      refine ⟨_, rfl, ?_⟩
      replace BM := Sd.mk (blk_below BM.out hb)
      replace BO := Sd.mk (blk_below BO.out hb)
      replace BR := Sd.mk (blk_below BR.out hb)
      replace HB := Sd.mk (below_step HB.out hb)
      replace HR := Sd.mk (Kd.R_below HR.out hb)
      clear hb HI6 HCALL
      refine hK.out _ _ ⟨(blk_cell BO.out 0).trans rfl, (blk_cell BM.out 0).trans rfl, (blk_cell BM.out 1).trans rfl, (blk_cell BM.out 2).trans rfl, (blk_cell BM.out 3).trans rfl, (blk_cell BM.out 4).trans rfl, (blk_cell BM.out 5).trans rfl, (blk_cell BM.out 6).trans rfl⟩ (fun hHeld => ?_)
      clear hK K
      refine norm_ (a' := ?_) ?_ ?_
      rotate_left
      · show Act.put _ (some 23) _ = _
        simp only [Act.put, List.setIfInBounds_toArray, List.set_cons_zero, List.set_cons_succ, i64_w, i32_w]
        rfl
      refine one_ (i := 5) (N := some 24) #[true, true, true, true, true, true, false, false, false] rfl rfl (one_of HT_.out (by kernel_rfl)) (by decide) (fun K hK => ?_)
      refine value_ (w1 := ?_) (v := ?_) (by rfl) rfl ?_ ?_
      rotate_left 2
      · go_simp
        constructor
        · rfl
        · rfl
      refine hK.out _ _ ⟨(blk_cell (blk_alloc BO.out _) 0).trans rfl, (blk_cell (blk_alloc BM.out _) 0).trans rfl, (blk_cell (blk_alloc BM.out _) 1).trans rfl, (blk_cell (blk_alloc BM.out _) 2).trans rfl, (blk_cell (blk_alloc BM.out _) 3).trans rfl, (blk_cell (blk_alloc BM.out _) 4).trans rfl, (blk_cell (blk_alloc BM.out _) 5).trans rfl, (blk_cell (blk_alloc BM.out _) 6).trans rfl⟩ (fun hHeld => ?_)
      clear hK K
      refine norm_ (a' := ?_) ?_ ?_
      rotate_left
      · show Act.put _ (some 24) _ = _
        simp only [Act.put, List.setIfInBounds_toArray, List.set_cons_zero, List.set_cons_succ, i64_w, i32_w]
        rfl
      refine one_ (i := 6) (N := some 25) #[true, true, true, true, true, true, true, false, false] rfl rfl (one_of HT_.out (by kernel_rfl)) (by decide) (fun K hK => ?_)
      refine Kd.R_append_step (Kd.int .i64) (w0 := w) w.heap.size (by rfl) (.tmp 20) (.tmp 24) 34 3 (.int .i64 0) 8 rfl Tryz.underlying34 info3 rfl (by decide) (by omega) (.slice A fl.length c) fl (fc (rd_T50 mt (k : Int))) [.int .i64 (fc (rd_T50 mt (k : Int)))] (fun _ => True) (fun _ => False) rfl rfl ?aP (fun _ hk => hk.elim) ?aF ?aO ?aB ?aS ?aL ?_
      (case aP => exact rfl)
      (case aB => exact (by repeat (first | (with_reducible first | exact HB.out | apply below_alloc | apply pw_below_drewN | apply below_drew1) | exact HB.out)))
      (case aF => exact (fun _ _ => trivial))
      (case aO => exact (by (with_reducible repeat (first | apply Kd.R_alloc | apply Kd.R_drewN | apply Kd.R_drew)); exact HR.out))
      (case aS => exact below_size HB.out)
      (case aL => exact (by rw [HFL.out]; exact Nat.le_trans (Nat.mul_le_mul_right 8 (show k + 1 ≤ 13 by omega)) (by decide)))
      intro v1 w5 ho hb hg hat
      have HB2 := Sd.mk hb
      have HO := Sd.mk ho
      have BO2 := Sd.mk (blk_grown BO.out hg (Kd.R_ne HR.out BO.out (by decide)))
      have BM2 := Sd.mk (blk_grown BM.out hg (Kd.R_ne HR.out BM.out (by decide)))
      have BR2 := Sd.mk (blk_grown BR.out hg (Kd.R_ne HR.out BR.out (by decide)))
      clear HB HR BO BM BR hb ho hat hg
      refine hK.out _ _ ⟨(blk_cell BO2.out 0).trans rfl, (blk_cell BM2.out 0).trans rfl, (blk_cell BM2.out 1).trans rfl, (blk_cell BM2.out 2).trans rfl, (blk_cell BM2.out 3).trans rfl, (blk_cell BM2.out 4).trans rfl, (blk_cell BM2.out 5).trans rfl, (blk_cell BM2.out 6).trans rfl⟩ (fun hHeld => ?_)
      clear hK K
      refine norm_ (a' := ?_) ?_ ?_
      rotate_left
      · show Act.put _ (some 25) _ = _
        simp only [Act.put, List.setIfInBounds_toArray, List.set_cons_zero, List.set_cons_succ, i64_w, i32_w]
        rfl
      refine pure_ (i := 7) (N := some 26) (v := ?_) (a' := ?_) #[true, true, true, true, true, true, true, true, false] rfl rfl (any_of HT_.out (by kernel_rfl)) (fun _ _ _ h => h) (Or.inl ⟨by rfl, ?_⟩) ?_ ?_
      rotate_left
      · intro w'
        go_simp
        with_reducible rfl
      rotate_left
      · simp only [Act.put, List.setIfInBounds_toArray, List.set_cons_zero, List.set_cons_succ, i64_w, i32_w]
        rfl
      have HO' := Sd.mk (Kd.R_types (t := 40) HO.out BO2.out (by decide))
      clear HO
      obtain ⟨A1', c1', rfl⟩ := Kd.R_slice HO'.out
      have hw0 : w5.cell? ⟨O, 0, none⟩ = some (.slice A fl.length c) := (blk_cell BO2.out 0).trans rfl
      have hwf := blk_frozen BO2.out 0
      refine last_ (i := 8) (N := none) #[true, true, true, true, true, true, true, true, true] rfl rfl (one_of HT_.out (by kernel_rfl)) (by decide) (fun K hK => ?_)
      refine skip_ (w1 := ?_) (by rfl) rfl ?_ ?_
      rotate_left
      · go_simp
        rfl
      refine hK.out _ _ ?_
      clear hK K
      refine done_ (done_of HT_.out (by kernel_rfl)) ?_
      clear hw0 hwf
      go_wp2
      go_roundg (mt.length - (k + 1))
      case measure => omega
      case rel =>
        subst hOO
        refine ⟨k + 1, rfl, by omega, by omega, ⟨?_⟩⟩
        rw [← HSTEP.out]
        refine ⟨below_set HB2.out (by omega), blk_far BR2.out (p := ⟨w.heap.size + 2, 0, none⟩) (by simp) _, A1', c1', ?_, ?_⟩
        · have h_ := blk_put (cs := #[.slice A fl.length c, .int .i64 b]) BO2.out 0 (.slice A1' (fl.length + 1) c1') rfl
          simpa using h_
        · have h_ := Kd.R_mono (ok' := fun _ => True) (Kd.R_far HO'.out (fun _ hk => hk.2) (.slice A1' (fl.length + 1) c1') (p := ⟨w.heap.size + 2, 0, none⟩)) (fun _ _ => trivial)
          simpa using h_
    · have hltz : ¬ (k : Int) < (mt.length : Int) := by omega
      obtain rfl : k = mt.length := by omega
      obtain ⟨A, c, hO, hR⟩ := HW.out.out
      have hT : List.map fc (mt.take mt.length) = List.map fc mt := by rw [List.take_length]
      rw [hT] at hO hR
      rw [List.length_map] at hO hR
      have HR := Sd.mk (Kd.R_types (t := 40) hR hO (by decide))
      have HR2 := Sd.mk (Kd.R_types (t := 40) hR HW.out.res (by decide))
      have c0 : wr.cell? ⟨w.heap.size + 2, 0, none⟩ = some (.slice A mt.length c) := (blk_cell hO 0).trans rfl
      have c1 : wr.cell? ⟨w.heap.size + 2, 1, none⟩ = some (.int .i64 b) := (blk_cell hO 1).trans rfl
      have r0 : wr.cell? ⟨w.heap.size + 1, 0, none⟩ = some (.slice none 0 0) := (blk_cell HW.out.res 0).trans rfl
      have r1 : wr.cell? ⟨w.heap.size + 1, 1, none⟩ = some (.int .i64 0) := (blk_cell HW.out.res 1).trans rfl
      have f0 := blk_frozen HW.out.res 0
      have f1 := blk_frozen HW.out.res 1
      clear hO hR hT
      go_wp2
      refine bodyPost_ret (results_cell_row rfl _ _ (w.heap.size + 1) 40 #[.slice A mt.length c, .int .i64 b] (0, 0) _ rfl (blk_put (cs := #[.slice A mt.length c, .int .i64 0]) (blk_put (cs := #[.slice none 0 0, .int .i64 0]) HW.out.res 0 _ rfl) 1 _ rfl) Tryz.underlying40 (by decide) (by kernel_rfl)) rfl ?_
      refine ⟨_, rfl, ?_, below_set (below_set HW.out.below (by omega)) (by omega)⟩
      exact Kd.R_mono (Kd.R_far (Kd.R_far HR2.out (fun _ hk => hk.2) _) (fun _ hk => hk.2) _) (fun _ _ => trivial)
end
end Go.Proofs.YtnmdojgfedddbaaGreatDoor.PB
