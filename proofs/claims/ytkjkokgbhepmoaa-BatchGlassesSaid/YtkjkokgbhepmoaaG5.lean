import Derived.Test.YtkjkokgbhepmoaaG4
set_option linter.unusedVariables false
set_option linter.unusedSimpArgs false
namespace Go.Proofs.Ytkjkokgbhepmoaa.PB
open Go.RowKit Go.Proofs.YtkjkokgbhepmoaaW.PrintWords Go.Proofs.YtkjkokgbhepmoaaW.PrintLast Go.Proofs.YtkjkokgbhepmoaaW.PrintMore
attribute [local go_sem] max2_int min2_int max_two min_two max_three min_three max_four min_four
mutual
def rf_bounds.j1 : Nat → List Int → List (S27) → Int → Int → Option (Int × Int)
 | 0, _, _, _, _ => none
 | k + 1, x0, x1, x315q0, x315q1 => rf_bounds.l1 k x0 x1 x315q0 x315q1
def rf_bounds.l1 : Nat → List Int → List (S27) → Int → Int → Option (Int × Int)
 | 0, _, _, _, _ => none
 | k + 1, x0, x1, x315q0, x315q1 => if x315q1 > (-10000) then ((rf_above.f k x0 x1 (wrap64 (x315q1 - 1))).bind fun t316 => (if t316 ≤ 0 then (rf_bounds.l1 k x0 x1 x315q0 (wrap64 (x315q1 - 1))) else (some (x315q0, x315q1)))) else (some (x315q0, x315q1))
def rf_bounds.l0 : Nat → List Int → List (S27) → Int → Int → Option (Int × Int)
 | 0, _, _, _, _ => none
 | k + 1, x0, x1, x315q0, x315q1 => if x315q0 < 10000 then ((rf_below.f k x0 x1 (wrap64 (x315q0 + 1))).bind fun t315 => (if t315 ≤ 0 then (rf_bounds.l0 k x0 x1 (wrap64 (x315q0 + 1)) x315q1) else (rf_bounds.j1 k x0 x1 x315q0 x315q1))) else (rf_bounds.j1 k x0 x1 x315q0 x315q1)
end
def rf_bounds.f (k : Nat) (l0 : List Int) (l1 : List (S27)) : Option (Int × Int) := rf_bounds.l0 k l0 l1 (-10000) 10000
theorem rf_bounds.mono_l : ∀ k, (∀ y0 y1 y2 y3, LeO (rf_bounds.j1 k y0 y1 y2 y3) (rf_bounds.j1 (k + 1) y0 y1 y2 y3)) ∧ (∀ y0 y1 y2 y3, LeO (rf_bounds.l1 k y0 y1 y2 y3) (rf_bounds.l1 (k + 1) y0 y1 y2 y3)) ∧ (∀ y0 y1 y2 y3, LeO (rf_bounds.l0 k y0 y1 y2 y3) (rf_bounds.l0 (k + 1) y0 y1 y2 y3))
 | 0 => ⟨fun _ _ _ _ r h => by simp [rf_bounds.j1] at h, fun _ _ _ _ r h => by simp [rf_bounds.l1] at h, fun _ _ _ _ r h => by simp [rf_bounds.l0] at h⟩
 | k + 1 => by
  obtain ⟨ih0, ih1, ih2⟩ := rf_bounds.mono_l k
  refine ⟨?_, ?_, ?_⟩
  ·intro y0 y1 y2 y3
   unfold rf_bounds.j1
   repeat' first
   | (with_reducible exact ih0 _ _ _ _)
   | (with_reducible exact ih1 _ _ _ _)
   | (with_reducible exact ih2 _ _ _ _)
   | (with_reducible exact rf_above.mono _ _ _ _)
   | (with_reducible exact rf_below.mono _ _ _ _)
   | (with_reducible exact LeO.refl _)
   | (with_reducible exact LeO.none _)
   | (with_reducible refine LeO.ite ?_ ?_)
   | (with_reducible refine LeO.bind ?_ (fun _ => ?_))
   | exact LeO.none _
   | refine LeO.ite ?_ ?_
   | refine LeO.bind ?_ (fun _ => ?_)
  ·intro y0 y1 y2 y3
   unfold rf_bounds.l1
   repeat' first
   | (with_reducible exact ih0 _ _ _ _)
   | (with_reducible exact ih1 _ _ _ _)
   | (with_reducible exact ih2 _ _ _ _)
   | (with_reducible exact rf_above.mono _ _ _ _)
   | (with_reducible exact rf_below.mono _ _ _ _)
   | (with_reducible exact LeO.refl _)
   | (with_reducible exact LeO.none _)
   | (with_reducible refine LeO.ite ?_ ?_)
   | (with_reducible refine LeO.bind ?_ (fun _ => ?_))
   | exact LeO.none _
   | refine LeO.ite ?_ ?_
   | refine LeO.bind ?_ (fun _ => ?_)
  ·intro y0 y1 y2 y3
   unfold rf_bounds.l0
   repeat' first
   | (with_reducible exact ih0 _ _ _ _)
   | (with_reducible exact ih1 _ _ _ _)
   | (with_reducible exact ih2 _ _ _ _)
   | (with_reducible exact rf_above.mono _ _ _ _)
   | (with_reducible exact rf_below.mono _ _ _ _)
   | (with_reducible exact LeO.refl _)
   | (with_reducible exact LeO.none _)
   | (with_reducible refine LeO.ite ?_ ?_)
   | (with_reducible refine LeO.bind ?_ (fun _ => ?_))
   | exact LeO.none _
   | refine LeO.ite ?_ ?_
   | refine LeO.bind ?_ (fun _ => ?_)
theorem rf_bounds.mono : ∀ a0 a1 k, LeO (rf_bounds.f k a0 a1) (rf_bounds.f (k + 1) a0 a1) := by
 intro a0 a1 k
 obtain ⟨ih0, ih1, ih2⟩ := rf_bounds.mono_l k
 unfold rf_bounds.f
 repeat' first
   | (with_reducible exact ih0 _ _ _ _)
   | (with_reducible exact ih1 _ _ _ _)
   | (with_reducible exact ih2 _ _ _ _)
   | (with_reducible exact rf_above.mono _ _ _ _)
   | (with_reducible exact rf_below.mono _ _ _ _)
   | (with_reducible exact LeO.refl _)
   | (with_reducible exact LeO.none _)
   | (with_reducible refine LeO.ite ?_ ?_)
   | (with_reducible refine LeO.bind ?_ (fun _ => ?_))
   | exact LeO.none _
   | refine LeO.ite ?_ ?_
   | refine LeO.bind ?_ (fun _ => ?_)
set_option maxHeartbeats 8000000 in
set_option maxRecDepth 100000 in
theorem rf_bounds.calls (k : Nat) (A0 : Option Addr) (c0 : Nat) (l0 : List Int) (A1 : Option Addr) (c1 : Nat) (l1 : List (S27)) (r1 : Int) (r2 : Int) (w : World) (hr0 : Kd.C (Kd.int .i64) w A0 l0.length l0) (hc0 : l0.length ≤ c0) (hr1 : Kd.C k27 w A1 l1.length l1) (hc1 : l1.length ≤ c1) (h : rf_bounds.f k l0 l1 = some (r1, r2)) :
  Calls Try.prog 54 #[.slice A0 l0.length c0, .slice A1 l1.length c1] w fun e w' => e = .returned (.agg #[.int .i64 r1, .int .i64 r2]) ∧ Below w.heap.size w w' := by
 have hu27 := Try.underlying27; have HR0 := Sd.mk hr0; have HC0 := Sd.mk hc0; clear hr0 hc0; have HR1 := Sd.mk hr1; have HC1 := Sd.mk hc1; clear hr1 hc1; have HB := Sd.mk (Below.refl w.heap.size w)
 have H : (rf_bounds.l0 k l0 l1 (-10000) 10000) = some (r1, r2) := h
 clear h; have HC3 := Sd.mk H; clear H
 go_enter Try.func54, Try.ntmps54
 go_upto_block 0 with (first | ((with_reducible refine gate_dst (N := 4) rfl ?_); refine box_event ?hg (N := 4) ?hd (cs := #[.int .i64 0, .int .i64 0]) (t := 27) ?hr ?_; (case hd => rfl); (case hg => rfl); (case hr => exact tG); intro gb313 hg w4 hbox hb; have BK313 := Sd.mk (hbox); have GW313 := Sd.mk (bSz hg (bBl HB.out)); have GE313 := Sd.mk (bSz hg (bBl HB.out)); replace HB := Sd.mk (below_step (bBl HB.out) hb); clear hb hbox hg) | ((with_reducible refine gate_dst (N := 5) rfl ?_); refine box_event ?hg (N := 5) ?hd (cs := #[.int .i64 0, .int .i64 0]) (t := 27) ?hr ?_; (case hd => rfl); (case hg => rfl); (case hr => exact tG); intro gb314 hg w5 hbox hb; have BK314 := Sd.mk (hbox); have GW314 := Sd.mk (bSz hg (bBl HB.out)); have GE314 := Sd.mk (bSz hg (bBl HB.out)); replace HB := Sd.mk (below_step (bBl HB.out) hb); have NB313_314 := Sd.mk (bNl hg (bkA BK313.out)); have NB314_313 := Sd.mk (bNg hg (bkA BK313.out)); replace BK313 := Sd.mk (blk_below (bkA BK313.out) hb); clear hb hbox hg; have hnb6 := NB314_313.out; have hnc6 := NB313_314.out; obtain ⟨u7_0, u7_1, o7_0, o7_1⟩ := bc2 (w := w5) BK314.out))
 (try simp only [Act.put, List.setIfInBounds_toArray, List.set_cons_zero, List.set_cons_succ])
 go_cut [] (fun wc => ∃ (kq : Nat) (x315000_2 : Int), Sd (rf_bounds.j1 kq l0 l1 x315000_2 10000 = some (r1, r2)) ∧ Sd (kq ≤ k) ∧ Sd (wc.heap[gb313]? = some (.cells #[.int .i64 0, .int .i64 0] 27 (0, 0))) ∧ Sd (wc.heap[gb314]? = some (.cells #[.int .i64 x315000_2, .int .i64 10000] 27 (0, 0))) ∧ Sd (Below w.heap.size w wc))
 case first =>
  have H := HC3.out; clear HC3; have H' := Sd.mk H; clear H
  go_wp2
  go_loopg [] k (fun kq w' => ∃ (x315000_1 : Int), Sd (rf_bounds.l0 kq l0 l1 x315000_1 10000 = some (r1, r2)) ∧ Sd (kq ≤ k) ∧ Sd (w'.heap[gb313]? = some (.cells #[.int .i64 0, .int .i64 0] 27 (0, 0))) ∧ Sd (w'.heap[gb314]? = some (.cells #[.int .i64 x315000_1, .int .i64 10000] 27 (0, 0))) ∧ Sd (Below w.heap.size w w'))
  case atStart => exact ⟨((-10000)), H', ⟨Nat.le_refl _⟩, ⟨by (with_reducible repeat (first | refine blk_drewN ?_ _ | refine blk_drew ?_ | refine blk_alloc ?_ _)); refine blk_far ?_ NB313_314.out _; (with_reducible repeat (first | refine blk_drewN ?_ _ | refine blk_drew ?_ | refine blk_alloc ?_ _)); refine blk_far ?_ NB313_314.out _; (with_reducible repeat (first | refine blk_drewN ?_ _ | refine blk_drew ?_ | refine blk_alloc ?_ _)); exact BK313.out⟩, ⟨by (with_reducible repeat (first | refine blk_drewN ?_ _ | refine blk_drew ?_ | refine blk_alloc ?_ _)); refine blk_put (cs := #[.int .i64 (-10000), .int .i64 0]) ?_ 1 _ rfl; (with_reducible repeat (first | refine blk_drewN ?_ _ | refine blk_drew ?_ | refine blk_alloc ?_ _)); refine blk_put (cs := #[.int .i64 0, .int .i64 0]) ?_ 0 _ rfl; (with_reducible repeat (first | refine blk_drewN ?_ _ | refine blk_drew ?_ | refine blk_alloc ?_ _)); exact BK314.out⟩, ⟨bBl HB.out⟩⟩
  case round =>
   clear H'; (try clear c1); (try clear p2); (try clear c5); (try clear c6); (try clear u7_0 u7_1); (try clear o7_0 o7_1); obtain ⟨x315000_1, HA, HK1, BK313, BK314, HB⟩ := hrel
   cases gk with
   | zero => exact absurd HA.out (by simp [rf_bounds.l0])
   | succ k1 =>
    have H := HA.out; clear HA
    simp only [rf_bounds.l0] at H
    by_cases c8 : x315000_1 < 10000
    ·rw [if_pos c8] at H
     have c8b0 : decide (x315000_1 < 10000) = true := decide_eq_true c8
     clear c8
     (first | rw [c8b0] | (simp only [i64_w, i32_w]; rw [c8b0]) | skip)
     replace H := Option.bind_eq_some_iff.mp H; obtain ⟨t315, A90, H⟩ := H
     try dsimp only at H
     have A9 := Sd.mk A90; clear A90
     by_cases c10 : t315 ≤ 0
     ·rw [if_pos c10] at H
      have c10b0 : decide (t315 ≤ 0) = true := decide_eq_true c10
      clear c10; have H' := Sd.mk H; clear H; have hnb11 := NB314_313.out; have hnc11 := NB313_314.out; obtain ⟨u12_0, u12_1, o12_0, o12_1⟩ := bc2 (w := wr) BK314.out
      go_wp2_with (first | (go_at_call 115; (with_reducible refine (rf_below.calls k1 _ _ l0 _ _ l1 (wrap64 (x315000_1 + 1)) t315 _ (cS (Kd.C_below HR0.out HB.out)) HC0.out (cS (Kd.C_below HR1.out HB.out)) HC1.out A9.out).mono ?_); rintro e w13 ⟨rfl, hb⟩; replace BK313 := Sd.mk (blk_below (bkA BK313.out) hb); replace BK314 := Sd.mk (blk_below (bkA BK314.out) hb); replace HB := Sd.mk (below_step (bBl HB.out) hb); (try clear hb); (try clear hb2); (try clear hk); (try clear hi); obtain ⟨u14_0, u14_1, o14_0, o14_1⟩ := bc2 (w := w13) BK314.out))
      go_roundg k1
      case measure => have := HK1.out; omega
      case rel => exact ⟨(wrap64 (x315000_1 + 1)), H', ⟨by have := HK1.out; omega⟩, ⟨by (with_reducible repeat (first | refine blk_drewN ?_ _ | refine blk_drew ?_ | refine blk_alloc ?_ _)); refine blk_far ?_ NB313_314.out _; (with_reducible repeat (first | refine blk_drewN ?_ _ | refine blk_drew ?_ | refine blk_alloc ?_ _)); exact BK313.out⟩, ⟨by (with_reducible repeat (first | refine blk_drewN ?_ _ | refine blk_drew ?_ | refine blk_alloc ?_ _)); refine blk_put (cs := #[.int .i64 x315000_1, .int .i64 10000]) ?_ 0 _ rfl; (with_reducible repeat (first | refine blk_drewN ?_ _ | refine blk_drew ?_ | refine blk_alloc ?_ _)); exact BK314.out⟩, ⟨bBl HB.out⟩⟩
     ·rw [if_neg c10] at H
      have c10b0 : decide (t315 ≤ 0) = false := decide_eq_false c10
      clear c10; have H' := Sd.mk H; clear H; have hnb15 := NB314_313.out; have hnc15 := NB313_314.out; obtain ⟨u16_0, u16_1, o16_0, o16_1⟩ := bc2 (w := wr) BK314.out
      go_wp2_with (first | (go_at_call 115; (with_reducible refine (rf_below.calls k1 _ _ l0 _ _ l1 (wrap64 (x315000_1 + 1)) t315 _ (cS (Kd.C_below HR0.out HB.out)) HC0.out (cS (Kd.C_below HR1.out HB.out)) HC1.out A9.out).mono ?_); rintro e w17 ⟨rfl, hb⟩; replace BK313 := Sd.mk (blk_below (bkA BK313.out) hb); replace BK314 := Sd.mk (blk_below (bkA BK314.out) hb); replace HB := Sd.mk (below_step (bBl HB.out) hb); (try clear hb); (try clear hb2); (try clear hk); (try clear hi)))
      go_meet
      case rel => exact ⟨_, (x315000_1), H', ⟨by have := HK1.out; first | omega | exact Nat.le_refl _⟩, ⟨bkA BK313.out⟩, ⟨bkA BK314.out⟩, ⟨bBl HB.out⟩⟩
    ·rw [if_neg c8] at H
     have c8b0 : decide (x315000_1 < 10000) = false := decide_eq_false c8
     clear c8
     (first | rw [c8b0] | (simp only [i64_w, i32_w]; rw [c8b0]) | skip)
     have H' := Sd.mk H; clear H; have hnb18 := NB314_313.out; have hnc18 := NB313_314.out; obtain ⟨u19_0, u19_1, o19_0, o19_1⟩ := bc2 (w := wr) BK314.out
     go_wp2
     go_meet
     case rel => exact ⟨_, (x315000_1), H', ⟨by have := HK1.out; first | omega | exact Nat.le_refl _⟩, ⟨bkA BK313.out⟩, ⟨bkA BK314.out⟩, ⟨bBl HB.out⟩⟩
 case rest =>
  clear HC3; (try clear c1); (try clear p2 p2); (try clear c5); (try clear c6); (try clear p6); (try clear c8); (try clear c8b0); (try clear c10); (try clear c10b0); (try clear c11); (try clear c15); (try clear c18); (try clear u12_0 u12_1); (try clear u14_0 u14_1); (try clear u16_0 u16_1); (try clear u19_0 u19_1); (try clear u7_0 u7_1); (try clear o12_0 o12_1); (try clear o14_0 o14_1); (try clear o16_0 o16_1); (try clear o19_0 o19_1); (try clear o7_0 o7_1); obtain ⟨kq, x315000_2, HA, HJ2, BK313, BK314, HB⟩ := hcut
  cases kq with
  | zero => exact absurd HA.out (by simp [rf_bounds.j1])
  | succ kj2 =>
   have H := HA.out; clear HA
   simp only [rf_bounds.j1] at H
   have H' := Sd.mk H; clear H
   go_wp2
   go_loopg [] kj2 (fun kq w' => ∃ (x315001_2 : Int), Sd (rf_bounds.l1 kq l0 l1 x315000_2 x315001_2 = some (r1, r2)) ∧ Sd (kq ≤ kj2) ∧ Sd (w'.heap[gb313]? = some (.cells #[.int .i64 0, .int .i64 0] 27 (0, 0))) ∧ Sd (w'.heap[gb314]? = some (.cells #[.int .i64 x315000_2, .int .i64 x315001_2] 27 (0, 0))) ∧ Sd (Below w.heap.size w w'))
   case atStart => exact ⟨(10000), H', ⟨Nat.le_refl _⟩, ⟨bkA BK313.out⟩, ⟨bkA BK314.out⟩, ⟨bBl HB.out⟩⟩
   case round =>
    clear H'; (try clear c1); (try clear p2 p2); (try clear c5); (try clear c6); (try clear p6 p6); (try clear c8); (try clear c8b0); (try clear c10); (try clear c10b0); (try clear c11); (try clear c15); (try clear c18); (try clear u12_0 u12_1); (try clear u14_0 u14_1); (try clear u16_0 u16_1); (try clear u19_0 u19_1); (try clear u7_0 u7_1); (try clear o12_0 o12_1); (try clear o14_0 o14_1); (try clear o16_0 o16_1); (try clear o19_0 o19_1); (try clear o7_0 o7_1); obtain ⟨x315001_2, HA, HK2, BK313, BK314, HB⟩ := hrel
    cases gk with
    | zero => exact absurd HA.out (by simp [rf_bounds.l1])
    | succ k2 =>
     have H := HA.out; clear HA
     simp only [rf_bounds.l1] at H
     by_cases c20 : x315001_2 > (-10000)
     ·rw [if_pos c20] at H
      have c20b0 : decide ((-10000) < x315001_2) = true := decide_eq_true c20
      clear c20; replace H := Option.bind_eq_some_iff.mp H; obtain ⟨t316, A210, H⟩ := H
      try dsimp only at H
      have A21 := Sd.mk A210; clear A210
      by_cases c22 : t316 ≤ 0
      ·rw [if_pos c22] at H
       have c22b0 : decide (t316 ≤ 0) = true := decide_eq_true c22
       clear c22; have H' := Sd.mk H; clear H; have hnb23 := NB314_313.out; have hnc23 := NB313_314.out; obtain ⟨u24_0, u24_1, o24_0, o24_1⟩ := bc2 (w := wr) BK314.out
       go_wp2_with (first | (go_at_call 116; (with_reducible refine (rf_above.calls k2 _ _ l0 _ _ l1 (wrap64 (x315001_2 - 1)) t316 _ (cS (Kd.C_below HR0.out HB.out)) HC0.out (cS (Kd.C_below HR1.out HB.out)) HC1.out A21.out).mono ?_); rintro e w25 ⟨rfl, hb⟩; replace BK313 := Sd.mk (blk_below (bkA BK313.out) hb); replace BK314 := Sd.mk (blk_below (bkA BK314.out) hb); replace HB := Sd.mk (below_step (bBl HB.out) hb); (try clear hb); (try clear hb2); (try clear hk); (try clear hi); obtain ⟨u26_0, u26_1, o26_0, o26_1⟩ := bc2 (w := w25) BK314.out))
       go_roundg k2
       case measure => have := HJ2.out; have := HK2.out; omega
       case rel => exact ⟨(wrap64 (x315001_2 - 1)), H', ⟨by have := HJ2.out; have := HK2.out; omega⟩, ⟨by (with_reducible repeat (first | refine blk_drewN ?_ _ | refine blk_drew ?_ | refine blk_alloc ?_ _)); refine blk_far ?_ NB313_314.out _; (with_reducible repeat (first | refine blk_drewN ?_ _ | refine blk_drew ?_ | refine blk_alloc ?_ _)); exact BK313.out⟩, ⟨by (with_reducible repeat (first | refine blk_drewN ?_ _ | refine blk_drew ?_ | refine blk_alloc ?_ _)); refine blk_put (cs := #[.int .i64 x315000_2, .int .i64 x315001_2]) ?_ 1 _ rfl; (with_reducible repeat (first | refine blk_drewN ?_ _ | refine blk_drew ?_ | refine blk_alloc ?_ _)); exact BK314.out⟩, ⟨bBl HB.out⟩⟩
      ·rw [if_neg c22] at H
       have c22b0 : decide (t316 ≤ 0) = false := decide_eq_false c22
       clear c22
       simp only [Option.some.injEq, Prod.mk.injEq] at H
       obtain ⟨rfl, rfl⟩ := H; have hnb27 := NB314_313.out; have hnc27 := NB313_314.out; obtain ⟨u28_0, u28_1, o28_0, o28_1⟩ := bc2 (w := wr) BK314.out
       go_wp2_with (first | (go_at_call 116; (with_reducible refine (rf_above.calls k2 _ _ l0 _ _ l1 (wrap64 (x315001_2 - 1)) t316 _ (cS (Kd.C_below HR0.out HB.out)) HC0.out (cS (Kd.C_below HR1.out HB.out)) HC1.out A21.out).mono ?_); rintro e w29 ⟨rfl, hb⟩; replace BK313 := Sd.mk (blk_below (bkA BK313.out) hb); replace BK314 := Sd.mk (blk_below (bkA BK314.out) hb); replace HB := Sd.mk (below_step (bBl HB.out) hb); (try clear hb); (try clear hb2); (try clear hk); (try clear hi); obtain ⟨u30_0, u30_1, o30_0, o30_1⟩ := bc2 (w := w29) BK314.out; obtain ⟨u31_0, u31_1, o31_0, o31_1⟩ := bc2 (w := w29) BK313.out))
       refine bodyPost_ret (results_cell_row rfl _ _ gb313 27 #[.int .i64 x315000_2, .int .i64 x315001_2] (0, 0) _ rfl (by (with_reducible repeat (first | refine blk_drewN ?_ _ | refine blk_drew ?_ | refine blk_alloc ?_ _)); refine blk_put (cs := #[.int .i64 x315000_2, .int .i64 0]) ?_ 1 _ rfl; (with_reducible repeat (first | refine blk_drewN ?_ _ | refine blk_drew ?_ | refine blk_alloc ?_ _)); refine blk_put (cs := #[.int .i64 0, .int .i64 0]) ?_ 0 _ rfl; (with_reducible repeat (first | refine blk_drewN ?_ _ | refine blk_drew ?_ | refine blk_alloc ?_ _)); exact BK313.out) Try.underlying27 rfl (by kernel_rfl)) rfl ?_
       exact ⟨tE, bBl HB.out⟩
     ·rw [if_neg c20] at H
      have c20b0 : decide ((-10000) < x315001_2) = false := decide_eq_false c20
      clear c20
      simp only [Option.some.injEq, Prod.mk.injEq] at H
      obtain ⟨rfl, rfl⟩ := H; have hnb32 := NB314_313.out; have hnc32 := NB313_314.out; obtain ⟨u33_0, u33_1, o33_0, o33_1⟩ := bc2 (w := wr) BK314.out; obtain ⟨u34_0, u34_1, o34_0, o34_1⟩ := bc2 (w := wr) BK313.out
      go_wp2
      refine bodyPost_ret (results_cell_row rfl _ _ gb313 27 #[.int .i64 x315000_2, .int .i64 x315001_2] (0, 0) _ rfl (by (with_reducible repeat (first | refine blk_drewN ?_ _ | refine blk_drew ?_ | refine blk_alloc ?_ _)); refine blk_put (cs := #[.int .i64 x315000_2, .int .i64 0]) ?_ 1 _ rfl; (with_reducible repeat (first | refine blk_drewN ?_ _ | refine blk_drew ?_ | refine blk_alloc ?_ _)); refine blk_put (cs := #[.int .i64 0, .int .i64 0]) ?_ 0 _ rfl; (with_reducible repeat (first | refine blk_drewN ?_ _ | refine blk_drew ?_ | refine blk_alloc ?_ _)); exact BK313.out) Try.underlying27 rfl (by kernel_rfl)) rfl ?_
      exact ⟨tE, bBl HB.out⟩
def rf_Glass.l0 : Nat → List (S27) → List (S27) → List (S65) → Int → List ByteArray → List (S63) → List (S27) → List (S65) → Int → Int → Int → Option ((List (S27)) × Int)
 | 0, _, _, _, _, _, _, _, _, _, _, _ => none
 | k + 1, x7, x9, x10, x11, x318q0, x318q1, x318q2, x318q3, x318q4, x318q5, x318q6 => if x11 < (x318q0.length : Int) then (if 0 ≤ x11 then (if x11 < (x10.length : Int) then ((rf_bounds.f k ((rd_T65 x10 x11).f1) x7).bind fun bt327 => (if x9.length < 8796093022208 then (rf_Glass.l0 k x7 (x9 ++ [(⟨bt327.1, bt327.2⟩ : S27)]) x10 (wrap64 (x11 + 1)) x318q0 x318q1 x318q2 x318q3 x318q4 x318q5 x318q6) else (none))) else (none)) else (none)) else (some (x9, 0))
def rf_Glass.f (k : Nat) (l0_0 : List ByteArray) (l0_1 : List (S63)) (l0_2 : List (S27)) (l0_3 : List (S65)) (a0_4 : Int) (a0_5 : Int) (a0_6 : Int) (l1 : List Int) : Option ((List (S27)) × Int) := (rf_asked.f k l0_0 l0_1 l0_2 l0_3 a0_4 a0_5 a0_6 l1).bind fun t318 => (if t318 = 0 then ((rf_weighed.f k l0_0 l0_1 l0_2 l0_3 a0_4 a0_5 a0_6 l1).bind fun bt319 => (if bt319.2 = 0 then ((rf_Forms.f k l0_0 l0_1 l0_2 l0_3 a0_4 a0_5 a0_6).bind fun t323 => (rf_Glass.l0 k bt319.1 ([] : List (S27)) t323 0 l0_0 l0_1 l0_2 l0_3 a0_4 a0_5 a0_6)) else (some (([] : List (S27)), bt319.2)))) else (some (([] : List (S27)), t318)))
theorem rf_Glass.mono_l : ∀ k, (∀ y0 y1 y2 y3 y4 y5 y6 y7 y8 y9 y10, LeO (rf_Glass.l0 k y0 y1 y2 y3 y4 y5 y6 y7 y8 y9 y10) (rf_Glass.l0 (k + 1) y0 y1 y2 y3 y4 y5 y6 y7 y8 y9 y10))
 | 0 => fun _ _ _ _ _ _ _ _ _ _ _ r h => by simp [rf_Glass.l0] at h
 | k + 1 => by
  have ih0 := rf_Glass.mono_l k
  ·intro y0 y1 y2 y3 y4 y5 y6 y7 y8 y9 y10
   unfold rf_Glass.l0
   repeat' first
   | (with_reducible exact ih0 _ _ _ _ _ _ _ _ _ _ _)
   | (with_reducible exact rf_Forms.mono _ _ _ _ _ _ _ _)
   | (with_reducible exact rf_asked.mono _ _ _ _ _ _ _ _ _)
   | (with_reducible exact rf_bounds.mono _ _ _)
   | (with_reducible exact rf_weighed.mono _ _ _ _ _ _ _ _ _)
   | (with_reducible exact LeO.refl _)
   | (with_reducible exact LeO.none _)
   | (with_reducible refine LeO.ite ?_ ?_)
   | (with_reducible refine LeO.bind ?_ (fun _ => ?_))
   | exact LeO.none _
   | refine LeO.ite ?_ ?_
   | refine LeO.bind ?_ (fun _ => ?_)
theorem rf_Glass.mono : ∀ a0 a1 a2 a3 a4 a5 a6 a7 k, LeO (rf_Glass.f k a0 a1 a2 a3 a4 a5 a6 a7) (rf_Glass.f (k + 1) a0 a1 a2 a3 a4 a5 a6 a7) := by
 intro a0 a1 a2 a3 a4 a5 a6 a7 k
 have ih0 := rf_Glass.mono_l k
 unfold rf_Glass.f
 repeat' first
   | (with_reducible exact ih0 _ _ _ _ _ _ _ _ _ _ _)
   | (with_reducible exact rf_Forms.mono _ _ _ _ _ _ _ _)
   | (with_reducible exact rf_asked.mono _ _ _ _ _ _ _ _ _)
   | (with_reducible exact rf_bounds.mono _ _ _)
   | (with_reducible exact rf_weighed.mono _ _ _ _ _ _ _ _ _)
   | (with_reducible exact LeO.refl _)
   | (with_reducible exact LeO.none _)
   | (with_reducible refine LeO.ite ?_ ?_)
   | (with_reducible refine LeO.bind ?_ (fun _ => ?_))
   | exact LeO.none _
   | refine LeO.ite ?_ ?_
   | refine LeO.bind ?_ (fun _ => ?_)
set_option maxHeartbeats 8000000 in
set_option maxRecDepth 100000 in
theorem rf_Glass.calls (k : Nat) (A0_0 : Option Addr) (c0_0 : Nat) (l0_0 : List ByteArray) (A0_1 : Option Addr) (c0_1 : Nat) (l0_1 : List (S63)) (A0_2 : Option Addr) (c0_2 : Nat) (l0_2 : List (S27)) (A0_3 : Option Addr) (c0_3 : Nat) (l0_3 : List (S65)) (a0_4 : Int) (a0_5 : Int) (a0_6 : Int) (A1 : Option Addr) (c1 : Nat) (l1 : List Int) (r1 : List (S27)) (r2 : Int) (w : World) (hr0_0 : Kd.C Kd.string w A0_0 l0_0.length l0_0) (hc0_0 : l0_0.length ≤ c0_0) (hr0_1 : Kd.C k63 w A0_1 l0_1.length l0_1) (hc0_1 : l0_1.length ≤ c0_1) (hr0_2 : Kd.C k27 w A0_2 l0_2.length l0_2) (hc0_2 : l0_2.length ≤ c0_2) (hr0_3 : Kd.C k65 w A0_3 l0_3.length l0_3) (hc0_3 : l0_3.length ≤ c0_3) (hr1 : Kd.C (Kd.int .i64) w A1 l1.length l1) (hc1 : l1.length ≤ c1) (h : rf_Glass.f k l0_0 l0_1 l0_2 l0_3 a0_4 a0_5 a0_6 l1 = some (r1, r2)) :
  Calls Try.prog 19 #[.agg #[.slice A0_0 l0_0.length c0_0, .slice A0_1 l0_1.length c0_1, .slice A0_2 l0_2.length c0_2, .slice A0_3 l0_3.length c0_3, .int .i64 a0_4, .int .i64 a0_5, .int .i64 a0_6], .slice A1 l1.length c1] w fun e w' => ∃ v0_ : Value, e = .returned (.tuple #[v0_, .int .i64 r2]) ∧ Kd.R k27 27 w' w.heap.size (fun _ => True) v0_ r1 ∧ Below w.heap.size w w' := by
 have hu29 := Try.underlying29; have HR0_0 := Sd.mk hr0_0; have HC0_0 := Sd.mk hc0_0; clear hr0_0 hc0_0; have HR0_1 := Sd.mk hr0_1; have HC0_1 := Sd.mk hc0_1; clear hr0_1 hc0_1; have HR0_2 := Sd.mk hr0_2; have HC0_2 := Sd.mk hc0_2; clear hr0_2 hc0_2; have HR0_3 := Sd.mk hr0_3; have HC0_3 := Sd.mk hc0_3; clear hr0_3 hc0_3; have HR1 := Sd.mk hr1; have HC1 := Sd.mk hc1; clear hr1 hc1; have HB := Sd.mk (Below.refl w.heap.size w)
 have H : ((rf_asked.f k l0_0 l0_1 l0_2 l0_3 a0_4 a0_5 a0_6 l1).bind fun t318 => (if t318 = 0 then ((rf_weighed.f k l0_0 l0_1 l0_2 l0_3 a0_4 a0_5 a0_6 l1).bind fun bt319 => (if bt319.2 = 0 then ((rf_Forms.f k l0_0 l0_1 l0_2 l0_3 a0_4 a0_5 a0_6).bind fun t323 => (rf_Glass.l0 k bt319.1 ([] : List (S27)) t323 0 l0_0 l0_1 l0_2 l0_3 a0_4 a0_5 a0_6)) else (some (([] : List (S27)), bt319.2)))) else (some (([] : List (S27)), t318)))) = some (r1, r2) := h
 clear h; replace H := Option.bind_eq_some_iff.mp H; obtain ⟨t318, A30, H⟩ := H
 try dsimp only at H
 have A3 := Sd.mk A30; clear A30
 by_cases c4 : t318 = 0
 ·rw [if_pos c4] at H
  have c4b0 : (t318 == 0) = true := beq_iff_eq.mpr c4
  have c4b1 : (t318 != 0) = false := bne_eq_false_iff_eq.mpr c4
  clear c4; replace H := Option.bind_eq_some_iff.mp H
  obtain ⟨⟨t319, t322⟩, A50, H⟩ := H
  try dsimp only at H
  have A5 := Sd.mk A50; clear A50
  by_cases c6 : t322 = 0
  ·rw [if_pos c6] at H
   have c6b0 : (t322 == 0) = true := beq_iff_eq.mpr c6
   have c6b1 : (t322 != 0) = false := bne_eq_false_iff_eq.mpr c6
   clear c6; replace H := Option.bind_eq_some_iff.mp H; obtain ⟨t323, A70, H⟩ := H
   try dsimp only at H
   have A7 := Sd.mk A70; clear A70; have H' := Sd.mk H; clear H
   go_enter Try.func19, Try.ntmps19
   go_wp2_with (first | ((with_reducible refine gate_dst (N := 2) rfl ?_); refine box_event ?hg (N := 2) ?hd (cs := #[.slice A0_0 l0_0.length c0_0, .slice A0_1 l0_1.length c0_1, .slice A0_2 l0_2.length c0_2, .slice A0_3 l0_3.length c0_3, .int .i64 a0_4, .int .i64 a0_5, .int .i64 a0_6]) (t := 29) ?hr ?_; (case hd => rfl); (case hg => rfl); (case hr => exact tG); intro gb317 hg w8 hbox hb; have BK317 := Sd.mk (hbox); have GW317 := Sd.mk (bSz hg (bBl HB.out)); have GE317 := Sd.mk (bSz hg (bBl HB.out)); replace HB := Sd.mk (below_step (bBl HB.out) hb); clear hb hbox hg; obtain ⟨u9_0, u9_1, u9_2, u9_3, u9_4, u9_5, u9_6, o9_0, o9_1, o9_2, o9_3, o9_4, o9_5, o9_6⟩ := bc7 (w := w8) BK317.out) | ((with_reducible refine gate_callee (f := 48) rfl ?_); refine goesL_ (some 14) rfl rfl Try.func48 (by kernel_rfl) rfl #[.agg #[.slice A0_0 l0_0.length c0_0, .slice A0_1 l0_1.length c0_1, .slice A0_2 l0_2.length c0_2, .slice A0_3 l0_3.length c0_3, .int .i64 a0_4, .int .i64 a0_5, .int .i64 a0_6], .slice A1 l1.length c1] rfl tM ?_; (with_reducible refine (rf_asked.calls k _ _ l0_0 _ _ l0_1 _ _ l0_2 _ _ l0_3 a0_4 a0_5 a0_6 _ _ l1 t318 _ (cS (Kd.C_below HR0_0.out HB.out)) HC0_0.out (cS (Kd.C_below HR0_1.out HB.out)) HC0_1.out (cS (Kd.C_below HR0_2.out HB.out)) HC0_2.out (cS (Kd.C_below HR0_3.out HB.out)) HC0_3.out (cS (Kd.C_below HR1.out HB.out)) HC1.out A3.out).mono ?_); rintro e w10 ⟨rfl, hb⟩; refine ⟨_, rfl, ?_⟩; replace BK317 := Sd.mk (blk_below (bkA BK317.out) hb); replace HB := Sd.mk (below_step (bBl HB.out) hb); (try clear hb); (try clear hb2); (try clear hk); (try clear hi); obtain ⟨u11_0, u11_1, u11_2, u11_3, u11_4, u11_5, u11_6, o11_0, o11_1, o11_2, o11_3, o11_4, o11_5, o11_6⟩ := bc7 (w := w10) BK317.out) | ((with_reducible refine gate_callee (f := 52) rfl ?_); refine goesL_ (some 21) rfl rfl Try.func52 (by kernel_rfl) rfl #[.agg #[.slice A0_0 l0_0.length c0_0, .slice A0_1 l0_1.length c0_1, .slice A0_2 l0_2.length c0_2, .slice A0_3 l0_3.length c0_3, .int .i64 a0_4, .int .i64 a0_5, .int .i64 a0_6], .slice A1 l1.length c1] rfl tM ?_; (with_reducible refine (rf_weighed.calls k _ _ l0_0 _ _ l0_1 _ _ l0_2 _ _ l0_3 a0_4 a0_5 a0_6 _ _ l1 t319 t322 _ (cS (Kd.C_below HR0_0.out HB.out)) HC0_0.out (cS (Kd.C_below HR0_1.out HB.out)) HC0_1.out (cS (Kd.C_below HR0_2.out HB.out)) HC0_2.out (cS (Kd.C_below HR0_3.out HB.out)) HC0_3.out (cS (Kd.C_below HR1.out HB.out)) HC1.out A5.out).mono ?_); rintro e w12 ⟨v320, rfl, ho0, hb⟩; refine ⟨_, rfl, ?_⟩; have HO321 := Sd.mk (Kd.R_lower ho0 (below_size (bBl HB.out))); replace BK317 := Sd.mk (blk_below (bkA BK317.out) hb); replace HB := Sd.mk (below_step (bBl HB.out) hb); (try clear hb); (try clear hb2); (try clear hk); (try clear hi); (try clear ho0); obtain ⟨u13_0, u13_1, u13_2, u13_3, u13_4, u13_5, u13_6, o13_0, o13_1, o13_2, o13_3, o13_4, o13_5, o13_6⟩ := bc7 (w := w12) BK317.out) | ((with_reducible refine gate_callee (f := 53) rfl ?_); refine goesL_ (some 28) rfl rfl Try.func53 (by kernel_rfl) rfl #[.agg #[.slice A0_0 l0_0.length c0_0, .slice A0_1 l0_1.length c0_1, .slice A0_2 l0_2.length c0_2, .slice A0_3 l0_3.length c0_3, .int .i64 a0_4, .int .i64 a0_5, .int .i64 a0_6]] rfl tM ?_; (with_reducible refine (rf_Forms.calls k _ _ l0_0 _ _ l0_1 _ _ l0_2 (fun k_ => k_ < w.heap.size) _ _ l0_3 a0_4 a0_5 a0_6 t323 _ (cS (Kd.C_below HR0_0.out HB.out)) HC0_0.out (cS (Kd.C_below HR0_1.out HB.out)) HC0_1.out (cS (Kd.C_below HR0_2.out HB.out)) HC0_2.out (Kd.V_mk HC0_3.out (Kd.F_below (Kd.C_F k65_heap HR0_3.out) (bBl HB.out))) A7.out).mono ?_); rintro e w14 ⟨v324, rfl, ho0, hb⟩; refine ⟨_, rfl, ?_⟩; have HO325 := Sd.mk (Kd.N_lower (Kd.N_mono (ok' := fun k_ => some k_ ≠ (v320 : Value).ownBlock ∧ k_ ≠ gb317) ho0 (fun k_ hk_ => ⟨Or.elim hk_ (fun hs_ => fun e_ => Nat.not_le.2 hs_ (Kd.R_base HO321.out k_ e_.symm)) (fun hn_ => (Kd.fresh' (Kd.R_lt (by (with_reducible repeat (first | apply Kd.R_alloc | apply Kd.R_drewN | apply Kd.R_drew)); exact HO321.out)) k_ hn_)), Or.elim hk_ (fun hs_ => fun e_ => Nat.not_le.2 hs_ (by rw [e_]; exact GW317.out)) (fun hn_ => (Kd.freshB (bkA BK317.out) k_ hn_))⟩)) (below_size (bBl HB.out))); replace HO321 := Sd.mk (Kd.R_below (by (with_reducible repeat (first | apply Kd.R_alloc | apply Kd.R_drewN | apply Kd.R_drew)); exact HO321.out) hb); replace BK317 := Sd.mk (blk_below (bkA BK317.out) hb); replace HB := Sd.mk (below_step (bBl HB.out) hb); (try clear hb); (try clear hb2); (try clear hk); (try clear hi); (try clear ho0)))
   go_loopg [9, 11] k (fun kq v9 v11 w' => ∃ (x9_1 : List (S27)) (x11_1 : Int), v11 = .int .i64 x11_1 ∧ Sd (rf_Glass.l0 kq t319 x9_1 t323 x11_1 l0_0 l0_1 l0_2 l0_3 a0_4 a0_5 a0_6 = some (r1, r2)) ∧ Sd (kq ≤ k) ∧ Sd (Kd.R k27 27 w' w.heap.size (fun k_ => some k_ ≠ (v9 : Value).ownBlock) v320 t319) ∧ Sd (Kd.R k27 27 w' w.heap.size (fun k_ => some k_ ≠ (v320 : Value).ownBlock) v9 x9_1) ∧ Sd (Kd.N k65 65 w' w.heap.size (fun k_ => some k_ ≠ (v320 : Value).ownBlock ∧ some k_ ≠ (v9 : Value).ownBlock ∧ k_ ≠ gb317) v324 t323) ∧ Sd (w'.heap[gb317]? = some (.cells #[(.slice A0_0 l0_0.length c0_0), (.slice A0_1 l0_1.length c0_1), (.slice A0_2 l0_2.length c0_2), (.slice A0_3 l0_3.length c0_3), .int .i64 a0_4, .int .i64 a0_5, .int .i64 a0_6] 29 (0, 0))) ∧ Sd (Below w.heap.size w w'))
   case atStart => exact ⟨(([] : List (S27))), (0), tS, H', ⟨Nat.le_refl _⟩, ⟨by (with_reducible repeat (first | apply Kd.R_alloc | apply Kd.R_drewN | apply Kd.R_drew)); exact Kd.R_mono HO321.out (fun _ hk => (by simp [Value.ownBlock]))⟩, ⟨by first | exact Kd.R_nil _ _ _ _ _ | exact Kd.N_nil _ _ _ _ _ | exact Kd.V_nil _ _ _ _ _ | exact Kd.Q_nil _ _ _ _ _ | exact Kd.S_nil _ _ _ _ _⟩, ⟨by (with_reducible repeat (first | apply Kd.N_alloc | apply Kd.N_drewN | apply Kd.N_drew)); exact Kd.N_mono HO325.out (fun _ hk => ⟨hk.1, ⟨(by simp [Value.ownBlock]), hk.2⟩⟩)⟩, ⟨bkA BK317.out⟩, ⟨bBl HB.out⟩⟩
   case round =>
    clear H'; (try clear c1); (try clear p2); (try clear c4); (try clear c4b0); (try clear c4b1); (try clear c5); (try clear c6); (try clear c6b0); (try clear c6b1); (try clear u11_0 u11_1 u11_2 u11_3 u11_4 u11_5 u11_6); (try clear u13_0 u13_1 u13_2 u13_3 u13_4 u13_5 u13_6); (try clear u9_0 u9_1 u9_2 u9_3 u9_4 u9_5 u9_6); (try clear o11_0 o11_1 o11_2 o11_3 o11_4 o11_5 o11_6); (try clear o13_0 o13_1 o13_2 o13_3 o13_4 o13_5 o13_6); (try clear o9_0 o9_1 o9_2 o9_3 o9_4 o9_5 o9_6); obtain ⟨x9_1, x11_1, rfl, HA, HK1, HO_7, HO_9, HO_10, BK317, HB⟩ := hrel
    cases gk with
    | zero => exact absurd HA.out (by simp [rf_Glass.l0])
    | succ k1 =>
     have H := HA.out; clear HA
     simp only [rf_Glass.l0] at H
     by_cases c15 : x11_1 < (l0_0.length : Int)
     ·rw [if_pos c15] at H
      have c15b0 : decide (x11_1 < (l0_0.length : Int)) = true := decide_eq_true c15
      clear c15
      by_cases c16 : 0 ≤ x11_1
      ·rw [if_pos c16] at H
       have c16b0 : decide (0 ≤ x11_1) = true := decide_eq_true c16
       clear c16
       by_cases c17 : x11_1 < (t323.length : Int)
       ·rw [if_pos c17] at H
        have c17b0 : decide (x11_1 < (t323.length : Int)) = true := decide_eq_true c17
        clear c17; replace H := Option.bind_eq_some_iff.mp H
        obtain ⟨⟨t327, t328⟩, A180, H⟩ := H
        try dsimp only at H
        have A18 := Sd.mk A180; clear A180
        by_cases c19 : x9_1.length < 8796093022208
        ·rw [if_pos c19] at H
         have LMc19 := Sd.mk c19; clear c19
         obtain ⟨y329, hy329⟩ : ∃ y_ : List (S27), y_ = (x9_1 ++ [(⟨t327, t328⟩ : S27)]) := ⟨_, rfl⟩
         replace H : (rf_Glass.l0 k1 t319 y329 t323 (wrap64 (x11_1 + 1)) l0_0 l0_1 l0_2 l0_3 a0_4 a0_5 a0_6) = some (r1, r2) := by first | (rw [hy329]; with_reducible exact H) | (have H2_ := (Option.bind_some _ _).symm.trans H; rw [hy329]; with_reducible exact H2_) | (have H2_ := (Option.bind_some _ _).symm.trans H; with_reducible exact H2_) | with_reducible exact H | (rw [hy329]; exact H) | exact H
         have Ny329 := Sd.mk hy329; clear hy329; have H' := Sd.mk H; clear H; obtain ⟨u20_0, u20_1, u20_2, u20_3, u20_4, u20_5, u20_6, o20_0, o20_1, o20_2, o20_3, o20_4, o20_5, o20_6⟩ := bc7 (w := wr) BK317.out; obtain ⟨Ao21, co21, eo21⟩ := Kd.N_slice HO_10.out; subst eo21
         have p326 : 0 ≤ (x11_1 : Int) := tB
         have q326 : x11_1 < (t323.length : Int) := tB
         obtain ⟨ad326, A326_1, c326_1, e326, hx326_0, hx326_1, hx326_2, hx326_3, hl326_1, hi326_1⟩ := at_T65 (Kd.N_reads' HO_10.out).2.2 x11_1 p326 q326; cases e326
         obtain ⟨ce326, hce326, hMe326, hcc326⟩ := Kd.N_get HO_10.out z65 x11_1 p326 (by first | exact q326 | exact tB | (have e_ := (Kd.N_reads' HO_10.out).1; omega))
         obtain ⟨ua326_1, uc326_1, rfl, ul326_1, ge326_1⟩ := k65_openF hMe326; have hv326_1 := hcc326 1 _ rfl
         rw [add_field _ _ 1 (by omega)] at hv326_1
         replace hv326_1 := Option.some.inj (hv326_1.symm.trans hx326_1)
         injection hv326_1 with hva_ hvn_ hvc_
         rw [hva_] at ge326_1
         rw [hvc_] at ul326_1
         have HL326_1 := Sd.mk (show Kd.V (Kd.int .i64) 3 _ w.heap.size _ _ ((rd_T65 t323 x11_1).f1) from Kd.V_mk ul326_1 ge326_1)
         clear hva_ hvn_ hvc_ ge326_1 ul326_1; clear hcc326 hce326; have HR326_1 := Sd.mk hi326_1; have HC326_1 := Sd.mk hl326_1; clear hi326_1 hl326_1; replace p326 := eq_true p326; replace q326 := eq_true q326; obtain ⟨Ao22, co22, eo22⟩ := Kd.R_slice HO_7.out; subst eo22
         go_wp2_with (first | ((with_reducible refine gate_callee (f := 54) rfl ?_); refine goesL_ (some 43) rfl rfl Try.func54 (by kernel_rfl) rfl #[.slice A326_1 ((rd_T65 t323 x11_1).f1).length c326_1, .slice Ao22 t319.length co22] rfl tM ?_; (with_reducible refine (rf_bounds.calls k1 _ _ ((rd_T65 t323 x11_1).f1) _ _ t319 t327 t328 _ (cS (by repeat (first | (with_reducible exact HR326_1.out) | (with_reducible refine Kd.C_alloc ?_ _) | (with_reducible refine Kd.C_drewN ?_ _) | (with_reducible refine Kd.C_drew ?_) | exact HR326_1.out))) HC326_1.out (cS ((Kd.R_reads' HO_7.out).2.2)) ((Kd.R_reads' HO_7.out).2.1) A18.out).mono ?_); rintro e w23 ⟨rfl, hb⟩; refine ⟨_, rfl, ?_⟩; replace HO_7 := Sd.mk (Kd.R_below (by (with_reducible repeat (first | apply Kd.R_alloc | apply Kd.R_drewN | apply Kd.R_drew)); exact HO_7.out) hb); replace HO_9 := Sd.mk (Kd.R_below (by (with_reducible repeat (first | apply Kd.R_alloc | apply Kd.R_drewN | apply Kd.R_drew)); exact HO_9.out) hb); replace HO_10 := Sd.mk (Kd.N_below (by (with_reducible repeat (first | apply Kd.N_alloc | apply Kd.N_drewN | apply Kd.N_drew)); exact HO_10.out) hb); replace HL326_1 := Sd.mk (Kd.V_below (by (with_reducible repeat (first | apply Kd.V_alloc | apply Kd.V_drewN | apply Kd.V_drew)); exact HL326_1.out) hb); replace BK317 := Sd.mk (blk_below (bkA BK317.out) hb); replace HR326_1 := Sd.mk (Kd.C_below (by repeat (first | (with_reducible exact HR326_1.out) | (with_reducible refine Kd.C_alloc ?_ _) | (with_reducible refine Kd.C_drewN ?_ _) | (with_reducible refine Kd.C_drew ?_) | exact HR326_1.out)) hb); replace HB := Sd.mk (below_step (bBl HB.out) hb); (try clear hb); (try clear hb2); (try clear hk); (try clear hi)) | ((with_reducible refine gate_builtin (b := .append) (xs := #[.tmp 36, .tmp 44]) rfl ?_); at_builtin; refine Kd.R_append k27 (w0 := w) w.heap.size rfl (.tmp 36) (.tmp 44) 24 27 (.agg #[(.int .i64 0), (.int .i64 0)]) 16 rfl Try.underlying24 info27 rfl (by decide) (by omega) u9 x9_1 (⟨t327, t328⟩ : S27) [.int .i64 t327, .int .i64 t328] (fun k_ => some k_ ≠ (.slice Ao22 t319.length co22 : Value).ownBlock) (fun _ => False) rfl rfl ?aP (fun _ hk => hk.elim) ?aF ?aO ?aB ?aS ?aL ?_; (case aP => exact k27_mkM _ _ _ (⟨t327, t328⟩ : S27)); (case aB => exact (bBl HB.out)); (case aF => exact (fun k_ hk => Kd.fresh' (Kd.R_lt (by (with_reducible repeat (first | apply Kd.R_alloc | apply Kd.R_drewN | apply Kd.R_drew)); exact HO_7.out)) k_ hk)); (case aO => exact (by (with_reducible repeat (first | apply Kd.R_alloc | apply Kd.R_drewN | apply Kd.R_drew)); exact HO_9.out)); (case aS => exact (below_size (bBl HB.out))); (case aL => have := LMc19.out; omega); intro v330 w24 ho hb hg hat; rw [← Ny329.out] at ho; replace HO_7 := Sd.mk (Kd.R_after (ok := (fun _ => True)) (by (with_reducible repeat (first | apply Kd.R_alloc | apply Kd.R_drewN | apply Kd.R_drew)); exact Kd.R_mono HO_7.out (fun _ hk => ⟨trivial, hk⟩)) hg hat); replace HO_10 := Sd.mk (Kd.N_afterv (ok := (fun k_ => some k_ ≠ (.slice Ao22 t319.length co22 : Value).ownBlock ∧ k_ ≠ gb317)) (by (with_reducible repeat (first | apply Kd.N_alloc | apply Kd.N_drewN | apply Kd.N_drew)); exact Kd.N_mono HO_10.out (fun _ hk => ⟨⟨hk.1, hk.2.2⟩, hk.2.1⟩)) hg hat); replace BK317 := Sd.mk (blk_grown (bkA BK317.out) hg (Kd.R_ne HO_9.out BK317.out (by decide))); replace HL326_1 := Sd.mk (Kd.V_afterv (ok := (fun k_ => some k_ ≠ (.slice Ao22 t319.length co22 : Value).ownBlock ∧ some k_ ≠ (.slice (some ad326) t323.length co21 : Value).ownBlock ∧ k_ ≠ gb317)) (by (with_reducible repeat (first | apply Kd.V_alloc | apply Kd.V_drewN | apply Kd.V_drew)); exact Kd.V_mono HL326_1.out (fun _ hk => ⟨⟨hk.1.1, ⟨hk.2, hk.1.2.2⟩⟩, hk.1.2.1⟩)) hg hat); replace HB := Sd.mk (hb); have HO331 := Sd.mk (ho); clear HO_9; clear ho hb hg hat))
         go_roundg k1
         case measure => have := HK1.out; omega
         case rel => exact ⟨(y329), (wrap64 (x11_1 + 1)), tS, H', ⟨by have := HK1.out; omega⟩, ⟨by (with_reducible repeat (first | apply Kd.R_alloc | apply Kd.R_drewN | apply Kd.R_drew)); exact Kd.R_mono HO_7.out (fun _ hk => hk.2)⟩, ⟨by (with_reducible repeat (first | apply Kd.R_alloc | apply Kd.R_drewN | apply Kd.R_drew)); exact HO331.out⟩, ⟨by (with_reducible repeat (first | apply Kd.N_alloc | apply Kd.N_drewN | apply Kd.N_drew)); exact Kd.N_mono HO_10.out (fun _ hk => ⟨hk.1.1, ⟨hk.2, hk.1.2⟩⟩)⟩, ⟨bkA BK317.out⟩, ⟨bBl HB.out⟩⟩
        ·rw [if_neg c19] at H
         exact absurd H (by simp)
       ·rw [if_neg c17] at H
        exact absurd H (by simp)
      ·rw [if_neg c16] at H
       exact absurd H (by simp)
     ·rw [if_neg c15] at H
      have c15b0 : decide (x11_1 < (l0_0.length : Int)) = false := decide_eq_false c15
      clear c15
      simp only [Option.some.injEq, Prod.mk.injEq] at H
      obtain ⟨rfl, rfl⟩ := H; obtain ⟨u25_0, u25_1, u25_2, u25_3, u25_4, u25_5, u25_6, o25_0, o25_1, o25_2, o25_3, o25_4, o25_5, o25_6⟩ := bc7 (w := wr) BK317.out
      go_wp2
      go_ret2
      exact ⟨_, tE, by (with_reducible repeat (first | apply Kd.R_alloc | apply Kd.R_drewN | apply Kd.R_drew)); exact Kd.R_mono HO_9.out (fun _ hk => trivial), bBl HB.out⟩
  ·rw [if_neg c6] at H
   have c6b0 : (t322 == 0) = false := beq_eq_false_iff_ne.mpr c6
   have c6b1 : (t322 != 0) = true := bne_iff_ne.mpr c6
   simp only [Option.some.injEq, Prod.mk.injEq] at H
   obtain ⟨rfl, rfl⟩ := H
   go_enter Try.func19, Try.ntmps19
   go_wp2_with (first | ((with_reducible refine gate_dst (N := 2) rfl ?_); refine box_event ?hg (N := 2) ?hd (cs := #[.slice A0_0 l0_0.length c0_0, .slice A0_1 l0_1.length c0_1, .slice A0_2 l0_2.length c0_2, .slice A0_3 l0_3.length c0_3, .int .i64 a0_4, .int .i64 a0_5, .int .i64 a0_6]) (t := 29) ?hr ?_; (case hd => rfl); (case hg => rfl); (case hr => exact tG); intro gb317 hg w26 hbox hb; have BK317 := Sd.mk (hbox); have GW317 := Sd.mk (bSz hg (bBl HB.out)); have GE317 := Sd.mk (bSz hg (bBl HB.out)); replace HB := Sd.mk (below_step (bBl HB.out) hb); clear hb hbox hg; obtain ⟨u27_0, u27_1, u27_2, u27_3, u27_4, u27_5, u27_6, o27_0, o27_1, o27_2, o27_3, o27_4, o27_5, o27_6⟩ := bc7 (w := w26) BK317.out) | ((with_reducible refine gate_callee (f := 48) rfl ?_); refine goesL_ (some 14) rfl rfl Try.func48 (by kernel_rfl) rfl #[.agg #[.slice A0_0 l0_0.length c0_0, .slice A0_1 l0_1.length c0_1, .slice A0_2 l0_2.length c0_2, .slice A0_3 l0_3.length c0_3, .int .i64 a0_4, .int .i64 a0_5, .int .i64 a0_6], .slice A1 l1.length c1] rfl tM ?_; (with_reducible refine (rf_asked.calls k _ _ l0_0 _ _ l0_1 _ _ l0_2 _ _ l0_3 a0_4 a0_5 a0_6 _ _ l1 t318 _ (cS (Kd.C_below HR0_0.out HB.out)) HC0_0.out (cS (Kd.C_below HR0_1.out HB.out)) HC0_1.out (cS (Kd.C_below HR0_2.out HB.out)) HC0_2.out (cS (Kd.C_below HR0_3.out HB.out)) HC0_3.out (cS (Kd.C_below HR1.out HB.out)) HC1.out A3.out).mono ?_); rintro e w28 ⟨rfl, hb⟩; refine ⟨_, rfl, ?_⟩; replace BK317 := Sd.mk (blk_below (bkA BK317.out) hb); replace HB := Sd.mk (below_step (bBl HB.out) hb); (try clear hb); (try clear hb2); (try clear hk); (try clear hi); obtain ⟨u29_0, u29_1, u29_2, u29_3, u29_4, u29_5, u29_6, o29_0, o29_1, o29_2, o29_3, o29_4, o29_5, o29_6⟩ := bc7 (w := w28) BK317.out) | ((with_reducible refine gate_callee (f := 52) rfl ?_); refine goesL_ (some 21) rfl rfl Try.func52 (by kernel_rfl) rfl #[.agg #[.slice A0_0 l0_0.length c0_0, .slice A0_1 l0_1.length c0_1, .slice A0_2 l0_2.length c0_2, .slice A0_3 l0_3.length c0_3, .int .i64 a0_4, .int .i64 a0_5, .int .i64 a0_6], .slice A1 l1.length c1] rfl tM ?_; (with_reducible refine (rf_weighed.calls k _ _ l0_0 _ _ l0_1 _ _ l0_2 _ _ l0_3 a0_4 a0_5 a0_6 _ _ l1 t319 t322 _ (cS (Kd.C_below HR0_0.out HB.out)) HC0_0.out (cS (Kd.C_below HR0_1.out HB.out)) HC0_1.out (cS (Kd.C_below HR0_2.out HB.out)) HC0_2.out (cS (Kd.C_below HR0_3.out HB.out)) HC0_3.out (cS (Kd.C_below HR1.out HB.out)) HC1.out A5.out).mono ?_); rintro e w30 ⟨v320, rfl, ho0, hb⟩; refine ⟨_, rfl, ?_⟩; have HO321 := Sd.mk (Kd.R_lower ho0 (below_size (bBl HB.out))); replace BK317 := Sd.mk (blk_below (bkA BK317.out) hb); replace HB := Sd.mk (below_step (bBl HB.out) hb); (try clear hb); (try clear hb2); (try clear hk); (try clear hi); (try clear ho0)))
   go_ret2
   exact ⟨_, tE, by first | exact Kd.R_nil _ _ _ _ _ | exact Kd.N_nil _ _ _ _ _ | exact Kd.V_nil _ _ _ _ _ | exact Kd.Q_nil _ _ _ _ _ | exact Kd.S_nil _ _ _ _ _, bBl HB.out⟩
 ·rw [if_neg c4] at H
  have c4b0 : (t318 == 0) = false := beq_eq_false_iff_ne.mpr c4
  have c4b1 : (t318 != 0) = true := bne_iff_ne.mpr c4
  simp only [Option.some.injEq, Prod.mk.injEq] at H
  obtain ⟨rfl, rfl⟩ := H
  go_enter Try.func19, Try.ntmps19
  go_wp2_with (first | ((with_reducible refine gate_dst (N := 2) rfl ?_); refine box_event ?hg (N := 2) ?hd (cs := #[.slice A0_0 l0_0.length c0_0, .slice A0_1 l0_1.length c0_1, .slice A0_2 l0_2.length c0_2, .slice A0_3 l0_3.length c0_3, .int .i64 a0_4, .int .i64 a0_5, .int .i64 a0_6]) (t := 29) ?hr ?_; (case hd => rfl); (case hg => rfl); (case hr => exact tG); intro gb317 hg w31 hbox hb; have BK317 := Sd.mk (hbox); have GW317 := Sd.mk (bSz hg (bBl HB.out)); have GE317 := Sd.mk (bSz hg (bBl HB.out)); replace HB := Sd.mk (below_step (bBl HB.out) hb); clear hb hbox hg; obtain ⟨u32_0, u32_1, u32_2, u32_3, u32_4, u32_5, u32_6, o32_0, o32_1, o32_2, o32_3, o32_4, o32_5, o32_6⟩ := bc7 (w := w31) BK317.out) | ((with_reducible refine gate_callee (f := 48) rfl ?_); refine goesL_ (some 14) rfl rfl Try.func48 (by kernel_rfl) rfl #[.agg #[.slice A0_0 l0_0.length c0_0, .slice A0_1 l0_1.length c0_1, .slice A0_2 l0_2.length c0_2, .slice A0_3 l0_3.length c0_3, .int .i64 a0_4, .int .i64 a0_5, .int .i64 a0_6], .slice A1 l1.length c1] rfl tM ?_; (with_reducible refine (rf_asked.calls k _ _ l0_0 _ _ l0_1 _ _ l0_2 _ _ l0_3 a0_4 a0_5 a0_6 _ _ l1 t318 _ (cS (Kd.C_below HR0_0.out HB.out)) HC0_0.out (cS (Kd.C_below HR0_1.out HB.out)) HC0_1.out (cS (Kd.C_below HR0_2.out HB.out)) HC0_2.out (cS (Kd.C_below HR0_3.out HB.out)) HC0_3.out (cS (Kd.C_below HR1.out HB.out)) HC1.out A3.out).mono ?_); rintro e w33 ⟨rfl, hb⟩; refine ⟨_, rfl, ?_⟩; replace BK317 := Sd.mk (blk_below (bkA BK317.out) hb); replace HB := Sd.mk (below_step (bBl HB.out) hb); (try clear hb); (try clear hb2); (try clear hk); (try clear hi)))
  go_ret2
  exact ⟨_, tE, by first | exact Kd.R_nil _ _ _ _ _ | exact Kd.N_nil _ _ _ _ _ | exact Kd.V_nil _ _ _ _ _ | exact Kd.Q_nil _ _ _ _ _ | exact Kd.S_nil _ _ _ _ _, bBl HB.out⟩
end Go.Proofs.Ytkjkokgbhepmoaa.PB

namespace Go.Proofs.Ytkjkokgbhepmoaa.PB
open Go.RowKit Go.Proofs.YtkjkokgbhepmoaaW.PrintWords Go.Proofs.YtkjkokgbhepmoaaW.PrintLast Go.Proofs.YtkjkokgbhepmoaaW.PrintMore
attribute [local go_sem] max2_int min2_int max_two min_two max_three min_three max_four min_four
def rf_Value.j0 : Nat → List Int → Int → Bool → List ByteArray → List (S63) → List (S27) → List (S65) → Int → Int → Int → Option (Int × Int × Int)
 | 0, _, _, _, _, _, _, _, _, _, _ => none
 | k + 1, x1, x2, x26, x333q0, x333q1, x333q2, x333q3, x333q4, x333q5, x333q6 => if x26 = true then (some (0, 0, 7)) else ((rf_weighed.f k x333q0 x333q1 x333q2 x333q3 x333q4 x333q5 x333q6 x1).bind fun bt335 => (if bt335.2 = 0 then (if 0 ≤ x2 then (if x2 < (x333q3.length : Int) then ((rf_bounds.f k ((rd_T65 x333q3 x2).f1) bt335.1).bind fun bt340 => (some (bt340.1, bt340.2, 0))) else (none)) else (none)) else (some (0, 0, bt335.2))))
def rf_Value.f (k : Nat) (l0_0 : List ByteArray) (l0_1 : List (S63)) (l0_2 : List (S27)) (l0_3 : List (S65)) (a0_4 : Int) (a0_5 : Int) (a0_6 : Int) (l1 : List Int) (a2 : Int) : Option (Int × Int × Int) := (rf_asked.f k l0_0 l0_1 l0_2 l0_3 a0_4 a0_5 a0_6 l1).bind fun t334 => (if t334 = 0 then (if a2 < 0 then (rf_Value.j0 k l1 a2 true l0_0 l0_1 l0_2 l0_3 a0_4 a0_5 a0_6) else (rf_Value.j0 k l1 a2 (decide (a2 ≥ (l0_3.length : Int))) l0_0 l0_1 l0_2 l0_3 a0_4 a0_5 a0_6)) else (some (0, 0, t334)))
theorem rf_Value.mono_l : ∀ k, (∀ y0 y1 y2 y3 y4 y5 y6 y7 y8 y9, LeO (rf_Value.j0 k y0 y1 y2 y3 y4 y5 y6 y7 y8 y9) (rf_Value.j0 (k + 1) y0 y1 y2 y3 y4 y5 y6 y7 y8 y9))
 | 0 => fun _ _ _ _ _ _ _ _ _ _ r h => by simp [rf_Value.j0] at h
 | k + 1 => by
  have ih0 := rf_Value.mono_l k
  ·intro y0 y1 y2 y3 y4 y5 y6 y7 y8 y9
   unfold rf_Value.j0
   repeat' first
   | (with_reducible exact ih0 _ _ _ _ _ _ _ _ _ _)
   | (with_reducible exact rf_asked.mono _ _ _ _ _ _ _ _ _)
   | (with_reducible exact rf_bounds.mono _ _ _)
   | (with_reducible exact rf_weighed.mono _ _ _ _ _ _ _ _ _)
   | (with_reducible exact LeO.refl _)
   | (with_reducible exact LeO.none _)
   | (with_reducible refine LeO.ite ?_ ?_)
   | (with_reducible refine LeO.bind ?_ (fun _ => ?_))
   | exact LeO.none _
   | refine LeO.ite ?_ ?_
   | refine LeO.bind ?_ (fun _ => ?_)
theorem rf_Value.mono : ∀ a0 a1 a2 a3 a4 a5 a6 a7 a8 k, LeO (rf_Value.f k a0 a1 a2 a3 a4 a5 a6 a7 a8) (rf_Value.f (k + 1) a0 a1 a2 a3 a4 a5 a6 a7 a8) := by
 intro a0 a1 a2 a3 a4 a5 a6 a7 a8 k
 have ih0 := rf_Value.mono_l k
 unfold rf_Value.f
 repeat' first
   | (with_reducible exact ih0 _ _ _ _ _ _ _ _ _ _)
   | (with_reducible exact rf_asked.mono _ _ _ _ _ _ _ _ _)
   | (with_reducible exact rf_bounds.mono _ _ _)
   | (with_reducible exact rf_weighed.mono _ _ _ _ _ _ _ _ _)
   | (with_reducible exact LeO.refl _)
   | (with_reducible exact LeO.none _)
   | (with_reducible refine LeO.ite ?_ ?_)
   | (with_reducible refine LeO.bind ?_ (fun _ => ?_))
   | exact LeO.none _
   | refine LeO.ite ?_ ?_
   | refine LeO.bind ?_ (fun _ => ?_)
set_option maxHeartbeats 8000000 in
set_option maxRecDepth 100000 in
theorem rf_Value.calls (k : Nat) (A0_0 : Option Addr) (c0_0 : Nat) (l0_0 : List ByteArray) (A0_1 : Option Addr) (c0_1 : Nat) (l0_1 : List (S63)) (A0_2 : Option Addr) (c0_2 : Nat) (l0_2 : List (S27)) (A0_3 : Option Addr) (c0_3 : Nat) (l0_3 : List (S65)) (a0_4 : Int) (a0_5 : Int) (a0_6 : Int) (A1 : Option Addr) (c1 : Nat) (l1 : List Int) (a2 : Int) (r1 : Int) (r2 : Int) (r3 : Int) (w : World) (hr0_0 : Kd.C Kd.string w A0_0 l0_0.length l0_0) (hc0_0 : l0_0.length ≤ c0_0) (hr0_1 : Kd.C k63 w A0_1 l0_1.length l0_1) (hc0_1 : l0_1.length ≤ c0_1) (hr0_2 : Kd.C k27 w A0_2 l0_2.length l0_2) (hc0_2 : l0_2.length ≤ c0_2) (hr0_3 : Kd.C k65 w A0_3 l0_3.length l0_3) (hc0_3 : l0_3.length ≤ c0_3) (hr1 : Kd.C (Kd.int .i64) w A1 l1.length l1) (hc1 : l1.length ≤ c1) (h : rf_Value.f k l0_0 l0_1 l0_2 l0_3 a0_4 a0_5 a0_6 l1 a2 = some (r1, r2, r3)) :
  Calls Try.prog 21 #[.agg #[.slice A0_0 l0_0.length c0_0, .slice A0_1 l0_1.length c0_1, .slice A0_2 l0_2.length c0_2, .slice A0_3 l0_3.length c0_3, .int .i64 a0_4, .int .i64 a0_5, .int .i64 a0_6], .slice A1 l1.length c1, .int .i64 a2] w fun e w' => e = .returned (.tuple #[.agg #[.int .i64 r1, .int .i64 r2], .int .i64 r3]) ∧ Below w.heap.size w w' := by
 have hu29 := Try.underlying29; have hu27 := Try.underlying27; have HR0_0 := Sd.mk hr0_0; have HC0_0 := Sd.mk hc0_0; clear hr0_0 hc0_0; have HR0_1 := Sd.mk hr0_1; have HC0_1 := Sd.mk hc0_1; clear hr0_1 hc0_1; have HR0_2 := Sd.mk hr0_2; have HC0_2 := Sd.mk hc0_2; clear hr0_2 hc0_2; have HR0_3 := Sd.mk hr0_3; have HC0_3 := Sd.mk hc0_3; clear hr0_3 hc0_3; have HR1 := Sd.mk hr1; have HC1 := Sd.mk hc1; clear hr1 hc1; have HB := Sd.mk (Below.refl w.heap.size w)
 have H : ((rf_asked.f k l0_0 l0_1 l0_2 l0_3 a0_4 a0_5 a0_6 l1).bind fun t334 => (if t334 = 0 then (if a2 < 0 then (rf_Value.j0 k l1 a2 true l0_0 l0_1 l0_2 l0_3 a0_4 a0_5 a0_6) else (rf_Value.j0 k l1 a2 (decide (a2 ≥ (l0_3.length : Int))) l0_0 l0_1 l0_2 l0_3 a0_4 a0_5 a0_6)) else (some (0, 0, t334)))) = some (r1, r2, r3) := h
 clear h; replace H := Option.bind_eq_some_iff.mp H; obtain ⟨t334, A40, H⟩ := H
 try dsimp only at H
 have A4 := Sd.mk A40; clear A40
 by_cases c5 : t334 = 0
 ·rw [if_pos c5] at H
  have c5b0 : (t334 == 0) = true := beq_iff_eq.mpr c5
  have c5b1 : (t334 != 0) = false := bne_eq_false_iff_eq.mpr c5
  clear c5; have HC6 := Sd.mk H; clear H
  go_enter Try.func21, Try.ntmps21
  go_upto_region 4 with (first | ((with_reducible refine gate_dst (N := 3) rfl ?_); (try (refine gate_guard (by rfl) ?_; dsimp only)); refine box_event ?hg (N := 3) ?hd (cs := #[.slice A0_0 l0_0.length c0_0, .slice A0_1 l0_1.length c0_1, .slice A0_2 l0_2.length c0_2, .slice A0_3 l0_3.length c0_3, .int .i64 a0_4, .int .i64 a0_5, .int .i64 a0_6]) (t := 29) ?hr ?_; (case hd => rfl); (case hg => rfl); (case hr => exact tG); intro gb332 hg w7 hbox hb; have BK332 := Sd.mk (hbox); have GW332 := Sd.mk (bSz hg (bBl HB.out)); have GE332 := Sd.mk (bSz hg (bBl HB.out)); replace HB := Sd.mk (below_step (bBl HB.out) hb); clear hb hbox hg) | ((with_reducible refine gate_dst (N := 6) rfl ?_); (try (refine gate_guard (by rfl) ?_; dsimp only)); refine box_event ?hg (N := 6) ?hd (cs := #[.int .i64 0, .int .i64 0]) (t := 27) ?hr ?_; (case hd => rfl); (case hg => rfl); (case hr => exact tG); intro gb333 hg w8 hbox hb; have BK333 := Sd.mk (hbox); have GW333 := Sd.mk (bSz hg (bBl HB.out)); have GE333 := Sd.mk (bSz hg (bBl HB.out)); replace HB := Sd.mk (below_step (bBl HB.out) hb); have NB332_333 := Sd.mk (bNl hg (bkA BK332.out)); have NB333_332 := Sd.mk (bNg hg (bkA BK332.out)); replace BK332 := Sd.mk (blk_below (bkA BK332.out) hb); clear hb hbox hg; have hnb9 := NB332_333.out; have hnc9 := NB333_332.out; obtain ⟨u10_0, u10_1, u10_2, u10_3, u10_4, u10_5, u10_6, o10_0, o10_1, o10_2, o10_3, o10_4, o10_5, o10_6⟩ := bc7 (w := w8) BK332.out) | ((with_reducible refine gate_callee (f := 48) rfl ?_); refine goesL_ (some 13) rfl rfl Try.func48 (by kernel_rfl) rfl #[.agg #[.slice A0_0 l0_0.length c0_0, .slice A0_1 l0_1.length c0_1, .slice A0_2 l0_2.length c0_2, .slice A0_3 l0_3.length c0_3, .int .i64 a0_4, .int .i64 a0_5, .int .i64 a0_6], .slice A1 l1.length c1] rfl tM ?_; (with_reducible refine (rf_asked.calls k _ _ l0_0 _ _ l0_1 _ _ l0_2 _ _ l0_3 a0_4 a0_5 a0_6 _ _ l1 t334 _ (cS (Kd.C_below HR0_0.out HB.out)) HC0_0.out (cS (Kd.C_below HR0_1.out HB.out)) HC0_1.out (cS (Kd.C_below HR0_2.out HB.out)) HC0_2.out (cS (Kd.C_below HR0_3.out HB.out)) HC0_3.out (cS (Kd.C_below HR1.out HB.out)) HC1.out A4.out).mono ?_); rintro e w11 ⟨rfl, hb⟩; refine ⟨_, rfl, ?_⟩; replace BK332 := Sd.mk (blk_below (bkA BK332.out) hb); replace BK333 := Sd.mk (blk_below (bkA BK333.out) hb); replace HB := Sd.mk (below_step (bBl HB.out) hb); (try clear hb); (try clear hb2); (try clear hk); (try clear hi)))
  (try simp only [Act.put, List.setIfInBounds_toArray, List.set_cons_zero, List.set_cons_succ])
  go_cut [26] (fun v26 wc => ∃ (kq : Nat) (x26_5 : Bool), v26 = .bool x26_5 ∧ Sd (rf_Value.j0 kq l1 a2 x26_5 l0_0 l0_1 l0_2 l0_3 a0_4 a0_5 a0_6 = some (r1, r2, r3)) ∧ Sd (kq ≤ k) ∧ Sd (wc.heap[gb332]? = some (.cells #[(.slice A0_0 l0_0.length c0_0), (.slice A0_1 l0_1.length c0_1), (.slice A0_2 l0_2.length c0_2), (.slice A0_3 l0_3.length c0_3), .int .i64 a0_4, .int .i64 a0_5, .int .i64 a0_6] 29 (0, 0))) ∧ Sd (wc.heap[gb333]? = some (.cells #[.int .i64 0, .int .i64 0] 27 (0, 0))) ∧ Sd (Below w.heap.size w wc))
  case first =>
   have H := HC6.out; clear HC6
   by_cases c12 : a2 < 0
   ·rw [if_pos c12] at H
    have c12b0 : decide (a2 < 0) = true := decide_eq_true c12
    clear c12
    (first | rw [c12b0] | (simp only [i64_w, i32_w]; rw [c12b0]) | skip)
    have H' := Sd.mk H; clear H
    go_wp2
    go_meet
    case rel => exact ⟨_, (true), tS, H', ⟨by first | omega | exact Nat.le_refl _⟩, ⟨bkA BK332.out⟩, ⟨bkA BK333.out⟩, ⟨bBl HB.out⟩⟩
   ·rw [if_neg c12] at H
    have c12b0 : decide (a2 < 0) = false := decide_eq_false c12
    clear c12
    (first | rw [c12b0] | (simp only [i64_w, i32_w]; rw [c12b0]) | skip)
    have H' := Sd.mk H; clear H; have hnb13 := NB332_333.out; have hnc13 := NB333_332.out; obtain ⟨u14_0, u14_1, u14_2, u14_3, u14_4, u14_5, u14_6, o14_0, o14_1, o14_2, o14_3, o14_4, o14_5, o14_6⟩ := bc7 (w := w11) BK332.out
    go_wp2
    go_meet
    case rel => exact ⟨_, (decide (a2 ≥ (l0_3.length : Int))), tS, H', ⟨by first | omega | exact Nat.le_refl _⟩, ⟨bkA BK332.out⟩, ⟨bkA BK333.out⟩, ⟨bBl HB.out⟩⟩
  case rest =>
   clear HC6; (try clear c1); (try clear c2); (try clear p2); (try clear c4); (try clear c5); (try clear c5b0); (try clear c5b1); (try clear c9); (try clear c12); (try clear c12b0); (try clear c13); (try clear u10_0 u10_1 u10_2 u10_3 u10_4 u10_5 u10_6); (try clear u14_0 u14_1 u14_2 u14_3 u14_4 u14_5 u14_6); (try clear o10_0 o10_1 o10_2 o10_3 o10_4 o10_5 o10_6); (try clear o14_0 o14_1 o14_2 o14_3 o14_4 o14_5 o14_6); obtain ⟨kq, x26_5, rfl, HA, HJ5, BK332, BK333, HB⟩ := hcut
   cases kq with
   | zero => exact absurd HA.out (by simp [rf_Value.j0])
   | succ kj5 =>
    have H := HA.out; clear HA
    simp only [rf_Value.j0] at H
    by_cases c15 : x26_5 = true
    ·subst c15
     have H1 : (some (0, 0, 7)) = some (r1, r2, r3) := by rw [if_pos rfl] at H; exact H
     clear H; have H := H1; clear H1
     simp only [Option.some.injEq, Prod.mk.injEq] at H
     obtain ⟨rfl, rfl, rfl⟩ := H; have hnb16 := NB333_332.out; have hnc16 := NB332_333.out; obtain ⟨u17_0, u17_1, o17_0, o17_1⟩ := bc2 (w := wc) BK333.out
     go_wp2
     refine bodyPost_ret (results_ct rfl _ _ gb333 27 #[.int .i64 0, .int .i64 0] (0, 0) _ rfl (by (with_reducible repeat (first | refine blk_drewN ?_ _ | refine blk_drew ?_ | refine blk_alloc ?_ _)); refine blk_put (cs := #[.int .i64 0, .int .i64 0]) ?_ 1 _ rfl; (with_reducible repeat (first | refine blk_drewN ?_ _ | refine blk_drew ?_ | refine blk_alloc ?_ _)); refine blk_put (cs := #[.int .i64 0, .int .i64 0]) ?_ 0 _ rfl; (with_reducible repeat (first | refine blk_drewN ?_ _ | refine blk_drew ?_ | refine blk_alloc ?_ _)); exact BK333.out) Try.underlying27 rfl (by kernel_rfl)) rfl ?_
     exact ⟨tE, bBl HB.out⟩
    ·replace c15 := Bool.eq_false_iff.mpr c15
     subst c15
     have H1 : ((rf_weighed.f kj5 l0_0 l0_1 l0_2 l0_3 a0_4 a0_5 a0_6 l1).bind fun bt335 => (if bt335.2 = 0 then (if 0 ≤ a2 then (if a2 < (l0_3.length : Int) then ((rf_bounds.f kj5 ((rd_T65 l0_3 a2).f1) bt335.1).bind fun bt340 => (some (bt340.1, bt340.2, 0))) else (none)) else (none)) else (some (0, 0, bt335.2)))) = some (r1, r2, r3) := by rw [if_neg (show ¬ (false = true) by decide)] at H; exact H
     clear H; have H := H1; clear H1; replace H := Option.bind_eq_some_iff.mp H
     obtain ⟨⟨t335, t338⟩, A180, H⟩ := H
     try dsimp only at H
     have A18 := Sd.mk A180; clear A180
     by_cases c19 : t338 = 0
     ·rw [if_pos c19] at H
      have c19b0 : (t338 == 0) = true := beq_iff_eq.mpr c19
      have c19b1 : (t338 != 0) = false := bne_eq_false_iff_eq.mpr c19
      clear c19
      by_cases c20 : 0 ≤ a2
      ·rw [if_pos c20] at H
       have c20b0 : decide (0 ≤ a2) = true := decide_eq_true c20
       clear c20
       by_cases c21 : a2 < (l0_3.length : Int)
       ·rw [if_pos c21] at H
        have c21b0 : decide (a2 < (l0_3.length : Int)) = true := decide_eq_true c21
        clear c21; replace H := Option.bind_eq_some_iff.mp H
        obtain ⟨⟨t340, t341⟩, A220, H⟩ := H
        try dsimp only at H
        have A22 := Sd.mk A220; clear A220
        simp only [Option.some.injEq, Prod.mk.injEq] at H
        obtain ⟨rfl, rfl, rfl⟩ := H; have hnb23 := NB332_333.out; have hnc23 := NB333_332.out; obtain ⟨u24_0, u24_1, u24_2, u24_3, u24_4, u24_5, u24_6, o24_0, o24_1, o24_2, o24_3, o24_4, o24_5, o24_6⟩ := bc7 (w := wc) BK332.out
        go_wp2_with (first | ((with_reducible refine gate_callee (f := 52) rfl ?_); refine goesL_ (some 31) rfl rfl Try.func52 (by kernel_rfl) rfl #[.agg #[.slice A0_0 l0_0.length c0_0, .slice A0_1 l0_1.length c0_1, .slice A0_2 l0_2.length c0_2, .slice A0_3 l0_3.length c0_3, .int .i64 a0_4, .int .i64 a0_5, .int .i64 a0_6], .slice A1 l1.length c1] rfl tM ?_; (with_reducible refine (rf_weighed.calls kj5 _ _ l0_0 _ _ l0_1 _ _ l0_2 _ _ l0_3 a0_4 a0_5 a0_6 _ _ l1 t335 t338 _ (cS (Kd.C_below HR0_0.out HB.out)) HC0_0.out (cS (Kd.C_below HR0_1.out HB.out)) HC0_1.out (cS (Kd.C_below HR0_2.out HB.out)) HC0_2.out (cS (Kd.C_below HR0_3.out HB.out)) HC0_3.out (cS (Kd.C_below HR1.out HB.out)) HC1.out A18.out).mono ?_); rintro e w25 ⟨v336, rfl, ho0, hb⟩; refine ⟨_, rfl, ?_⟩; have HO337 := Sd.mk (Kd.R_lower (Kd.R_newB ho0 (bkA BK333.out)) (below_size (bBl HB.out))); replace BK332 := Sd.mk (blk_below (bkA BK332.out) hb); replace BK333 := Sd.mk (blk_below (bkA BK333.out) hb); replace HB := Sd.mk (below_step (bBl HB.out) hb); (try clear hb); (try clear hb2); (try clear hk); (try clear hi); (try clear ho0); obtain ⟨u26_0, u26_1, u26_2, u26_3, u26_4, u26_5, u26_6, o26_0, o26_1, o26_2, o26_3, o26_4, o26_5, o26_6⟩ := bc7 (w := w25) BK332.out; have p339 : 0 ≤ (a2 : Int) := tB; have q339 : a2 < (l0_3.length : Int) := tB; obtain ⟨ad339, A339_1, c339_1, e339, hx339_0, hx339_1, hx339_2, hx339_3, hl339_1, hi339_1⟩ := at_T65 HR0_3.out a2 p339 q339; cases e339; replace hx339_0 := cU HB hx339_0; replace hx339_1 := cU HB hx339_1; replace hx339_2 := cU HB hx339_2; replace hx339_3 := cU HB hx339_3; have HR339_1 := Sd.mk hi339_1; have HC339_1 := Sd.mk hl339_1; clear hi339_1 hl339_1; replace p339 := eq_true p339; replace q339 := eq_true q339; obtain ⟨Ao27, co27, eo27⟩ := Kd.R_slice HO337.out; subst eo27) | ((with_reducible refine gate_callee (f := 54) rfl ?_); refine goesL_ (some 45) rfl rfl Try.func54 (by kernel_rfl) rfl #[.slice A339_1 ((rd_T65 l0_3 a2).f1).length c339_1, .slice Ao27 t335.length co27] rfl tM ?_; (with_reducible refine (rf_bounds.calls kj5 _ _ ((rd_T65 l0_3 a2).f1) _ _ t335 t340 t341 _ (cS (Kd.C_below HR339_1.out HB.out)) HC339_1.out (cS ((Kd.R_reads' HO337.out).2.2)) ((Kd.R_reads' HO337.out).2.1) A22.out).mono ?_); rintro e w28 ⟨rfl, hb⟩; refine ⟨_, rfl, ?_⟩; replace HO337 := Sd.mk (Kd.R_below (by (with_reducible repeat (first | apply Kd.R_alloc | apply Kd.R_drewN | apply Kd.R_drew)); exact HO337.out) hb); replace BK332 := Sd.mk (blk_below (bkA BK332.out) hb); replace BK333 := Sd.mk (blk_below (bkA BK333.out) hb); replace HB := Sd.mk (below_step (bBl HB.out) hb); (try clear hb); (try clear hb2); (try clear hk); (try clear hi); obtain ⟨u29_0, u29_1, o29_0, o29_1⟩ := bc2 (w := w28) BK333.out))
        refine bodyPost_ret (results_ct rfl _ _ gb333 27 #[.int .i64 t340, .int .i64 t341] (0, 0) _ rfl (by (with_reducible repeat (first | refine blk_drewN ?_ _ | refine blk_drew ?_ | refine blk_alloc ?_ _)); refine blk_put (cs := #[.int .i64 t340, .int .i64 0]) ?_ 1 _ rfl; (with_reducible repeat (first | refine blk_drewN ?_ _ | refine blk_drew ?_ | refine blk_alloc ?_ _)); refine blk_put (cs := #[.int .i64 0, .int .i64 0]) ?_ 0 _ rfl; (with_reducible repeat (first | refine blk_drewN ?_ _ | refine blk_drew ?_ | refine blk_alloc ?_ _)); exact BK333.out) Try.underlying27 rfl (by kernel_rfl)) rfl ?_
        exact ⟨tE, bBl HB.out⟩
       ·rw [if_neg c21] at H
        exact absurd H (by simp)
      ·rw [if_neg c20] at H
       exact absurd H (by simp)
     ·rw [if_neg c19] at H
      have c19b0 : (t338 == 0) = false := beq_eq_false_iff_ne.mpr c19
      have c19b1 : (t338 != 0) = true := bne_iff_ne.mpr c19
      simp only [Option.some.injEq, Prod.mk.injEq] at H
      obtain ⟨rfl, rfl, rfl⟩ := H; have hnb30 := NB332_333.out; have hnc30 := NB333_332.out; obtain ⟨u31_0, u31_1, u31_2, u31_3, u31_4, u31_5, u31_6, o31_0, o31_1, o31_2, o31_3, o31_4, o31_5, o31_6⟩ := bc7 (w := wc) BK332.out
      go_wp2_with (first | ((with_reducible refine gate_callee (f := 52) rfl ?_); refine goesL_ (some 31) rfl rfl Try.func52 (by kernel_rfl) rfl #[.agg #[.slice A0_0 l0_0.length c0_0, .slice A0_1 l0_1.length c0_1, .slice A0_2 l0_2.length c0_2, .slice A0_3 l0_3.length c0_3, .int .i64 a0_4, .int .i64 a0_5, .int .i64 a0_6], .slice A1 l1.length c1] rfl tM ?_; (with_reducible refine (rf_weighed.calls kj5 _ _ l0_0 _ _ l0_1 _ _ l0_2 _ _ l0_3 a0_4 a0_5 a0_6 _ _ l1 t335 t338 _ (cS (Kd.C_below HR0_0.out HB.out)) HC0_0.out (cS (Kd.C_below HR0_1.out HB.out)) HC0_1.out (cS (Kd.C_below HR0_2.out HB.out)) HC0_2.out (cS (Kd.C_below HR0_3.out HB.out)) HC0_3.out (cS (Kd.C_below HR1.out HB.out)) HC1.out A18.out).mono ?_); rintro e w32 ⟨v336, rfl, ho0, hb⟩; refine ⟨_, rfl, ?_⟩; have HO337 := Sd.mk (Kd.R_lower (Kd.R_newB ho0 (bkA BK333.out)) (below_size (bBl HB.out))); replace BK332 := Sd.mk (blk_below (bkA BK332.out) hb); replace BK333 := Sd.mk (blk_below (bkA BK333.out) hb); replace HB := Sd.mk (below_step (bBl HB.out) hb); (try clear hb); (try clear hb2); (try clear hk); (try clear hi); (try clear ho0); obtain ⟨u33_0, u33_1, o33_0, o33_1⟩ := bc2 (w := w32) BK333.out))
      refine bodyPost_ret (results_ct rfl _ _ gb333 27 #[.int .i64 0, .int .i64 0] (0, 0) _ rfl (by (with_reducible repeat (first | refine blk_drewN ?_ _ | refine blk_drew ?_ | refine blk_alloc ?_ _)); refine blk_put (cs := #[.int .i64 0, .int .i64 0]) ?_ 1 _ rfl; (with_reducible repeat (first | refine blk_drewN ?_ _ | refine blk_drew ?_ | refine blk_alloc ?_ _)); refine blk_put (cs := #[.int .i64 0, .int .i64 0]) ?_ 0 _ rfl; (with_reducible repeat (first | refine blk_drewN ?_ _ | refine blk_drew ?_ | refine blk_alloc ?_ _)); exact BK333.out) Try.underlying27 rfl (by kernel_rfl)) rfl ?_
      exact ⟨tE, bBl HB.out⟩
 ·rw [if_neg c5] at H
  have c5b0 : (t334 == 0) = false := beq_eq_false_iff_ne.mpr c5
  have c5b1 : (t334 != 0) = true := bne_iff_ne.mpr c5
  simp only [Option.some.injEq, Prod.mk.injEq] at H
  obtain ⟨rfl, rfl, rfl⟩ := H
  go_enter Try.func21, Try.ntmps21
  go_wp2_with (first | ((with_reducible refine gate_dst (N := 3) rfl ?_); (try (refine gate_guard (by rfl) ?_; dsimp only)); refine box_event ?hg (N := 3) ?hd (cs := #[.slice A0_0 l0_0.length c0_0, .slice A0_1 l0_1.length c0_1, .slice A0_2 l0_2.length c0_2, .slice A0_3 l0_3.length c0_3, .int .i64 a0_4, .int .i64 a0_5, .int .i64 a0_6]) (t := 29) ?hr ?_; (case hd => rfl); (case hg => rfl); (case hr => exact tG); intro gb332 hg w34 hbox hb; have BK332 := Sd.mk (hbox); have GW332 := Sd.mk (bSz hg (bBl HB.out)); have GE332 := Sd.mk (bSz hg (bBl HB.out)); replace HB := Sd.mk (below_step (bBl HB.out) hb); clear hb hbox hg) | ((with_reducible refine gate_dst (N := 6) rfl ?_); (try (refine gate_guard (by rfl) ?_; dsimp only)); refine box_event ?hg (N := 6) ?hd (cs := #[.int .i64 0, .int .i64 0]) (t := 27) ?hr ?_; (case hd => rfl); (case hg => rfl); (case hr => exact tG); intro gb333 hg w35 hbox hb; have BK333 := Sd.mk (hbox); have GW333 := Sd.mk (bSz hg (bBl HB.out)); have GE333 := Sd.mk (bSz hg (bBl HB.out)); replace HB := Sd.mk (below_step (bBl HB.out) hb); have NB332_333 := Sd.mk (bNl hg (bkA BK332.out)); have NB333_332 := Sd.mk (bNg hg (bkA BK332.out)); replace BK332 := Sd.mk (blk_below (bkA BK332.out) hb); clear hb hbox hg; have hnb36 := NB332_333.out; have hnc36 := NB333_332.out; obtain ⟨u37_0, u37_1, u37_2, u37_3, u37_4, u37_5, u37_6, o37_0, o37_1, o37_2, o37_3, o37_4, o37_5, o37_6⟩ := bc7 (w := w35) BK332.out) | ((with_reducible refine gate_callee (f := 48) rfl ?_); refine goesL_ (some 13) rfl rfl Try.func48 (by kernel_rfl) rfl #[.agg #[.slice A0_0 l0_0.length c0_0, .slice A0_1 l0_1.length c0_1, .slice A0_2 l0_2.length c0_2, .slice A0_3 l0_3.length c0_3, .int .i64 a0_4, .int .i64 a0_5, .int .i64 a0_6], .slice A1 l1.length c1] rfl tM ?_; (with_reducible refine (rf_asked.calls k _ _ l0_0 _ _ l0_1 _ _ l0_2 _ _ l0_3 a0_4 a0_5 a0_6 _ _ l1 t334 _ (cS (Kd.C_below HR0_0.out HB.out)) HC0_0.out (cS (Kd.C_below HR0_1.out HB.out)) HC0_1.out (cS (Kd.C_below HR0_2.out HB.out)) HC0_2.out (cS (Kd.C_below HR0_3.out HB.out)) HC0_3.out (cS (Kd.C_below HR1.out HB.out)) HC1.out A4.out).mono ?_); rintro e w38 ⟨rfl, hb⟩; refine ⟨_, rfl, ?_⟩; replace BK332 := Sd.mk (blk_below (bkA BK332.out) hb); replace BK333 := Sd.mk (blk_below (bkA BK333.out) hb); replace HB := Sd.mk (below_step (bBl HB.out) hb); (try clear hb); (try clear hb2); (try clear hk); (try clear hi); obtain ⟨u39_0, u39_1, o39_0, o39_1⟩ := bc2 (w := w38) BK333.out))
  refine bodyPost_ret (results_ct rfl _ _ gb333 27 #[.int .i64 0, .int .i64 0] (0, 0) _ rfl (by (with_reducible repeat (first | refine blk_drewN ?_ _ | refine blk_drew ?_ | refine blk_alloc ?_ _)); refine blk_put (cs := #[.int .i64 0, .int .i64 0]) ?_ 1 _ rfl; (with_reducible repeat (first | refine blk_drewN ?_ _ | refine blk_drew ?_ | refine blk_alloc ?_ _)); refine blk_put (cs := #[.int .i64 0, .int .i64 0]) ?_ 0 _ rfl; (with_reducible repeat (first | refine blk_drewN ?_ _ | refine blk_drew ?_ | refine blk_alloc ?_ _)); exact BK333.out) Try.underlying27 rfl (by kernel_rfl)) rfl ?_
  exact ⟨tE, bBl HB.out⟩
def batch_Redox.l0 : Nat → List Int → List (S27) → Int → List (S63) → Int → Int → Option (Int × Int × Int)
 | 0, _, _, _, _, _, _ => none
 | k + 1, x1, x6, x8, x23, x24, x25 => if x25 < x24 then (if 0 ≤ x25 then (if x25 < (x23.length : Int) then (if x25 < (x1.length : Int) then (batch_Redox.l0 k x1 x6 (wrap64 (x8 + (wrap64 ((wrap64 (1000000 * (rd x1 x25))) * ((rd_T63 x23 x25).f2))))) x23 x24 (wrap64 (x25 + 1))) else (none)) else (none)) else (none)) else ((batch_weight.f k x6).bind fun bt351 => ((batch_down.f x8 bt351.1).bind fun t354 => ((batch_down.f x8 bt351.2).bind fun t355 => ((batch_up.f x8 bt351.1).bind fun t356 => ((batch_up.f x8 bt351.2).bind fun t357 => (some (mn t354 t355, mx t356 t357, 0)))))))
def batch_Redox.f (k : Nat) (l0_0 : List ByteArray) (l0_1 : List (S63)) (l0_2 : List (S27)) (l0_3 : List (S65)) (a0_4 : Int) (a0_5 : Int) (a0_6 : Int) (l1 : List Int) : Option (Int × Int × Int) := (x_glass.f k l0_0 l0_1 l0_2 l0_3 a0_4 a0_5 a0_6 l1).bind fun bt344 => (if bt344.2 = 0 then (batch_Redox.l0 k l1 bt344.1 0 l0_1 (l0_1.length : Int) 0) else (some (0, 0, bt344.2)))
theorem batch_Redox.mono_l : ∀ k, (∀ y0 y1 y2 y3 y4 y5, LeO (batch_Redox.l0 k y0 y1 y2 y3 y4 y5) (batch_Redox.l0 (k + 1) y0 y1 y2 y3 y4 y5))
 | 0 => fun _ _ _ _ _ _ r h => by simp [batch_Redox.l0] at h
 | k + 1 => by
  have ih0 := batch_Redox.mono_l k
  ·intro y0 y1 y2 y3 y4 y5
   unfold batch_Redox.l0
   repeat' first
   | (with_reducible exact ih0 _ _ _ _ _ _)
   | (with_reducible exact batch_weight.mono _ _)
   | (with_reducible exact x_glass.mono _ _ _ _ _ _ _ _ _)
   | (with_reducible exact LeO.refl _)
   | (with_reducible exact LeO.none _)
   | (with_reducible refine LeO.ite ?_ ?_)
   | (with_reducible refine LeO.bind ?_ (fun _ => ?_))
   | exact LeO.none _
   | refine LeO.ite ?_ ?_
   | refine LeO.bind ?_ (fun _ => ?_)
theorem batch_Redox.mono : ∀ a0 a1 a2 a3 a4 a5 a6 a7 k, LeO (batch_Redox.f k a0 a1 a2 a3 a4 a5 a6 a7) (batch_Redox.f (k + 1) a0 a1 a2 a3 a4 a5 a6 a7) := by
 intro a0 a1 a2 a3 a4 a5 a6 a7 k
 have ih0 := batch_Redox.mono_l k
 unfold batch_Redox.f
 repeat' first
   | (with_reducible exact ih0 _ _ _ _ _ _)
   | (with_reducible exact batch_weight.mono _ _)
   | (with_reducible exact x_glass.mono _ _ _ _ _ _ _ _ _)
   | (with_reducible exact LeO.refl _)
   | (with_reducible exact LeO.none _)
   | (with_reducible refine LeO.ite ?_ ?_)
   | (with_reducible refine LeO.bind ?_ (fun _ => ?_))
   | exact LeO.none _
   | refine LeO.ite ?_ ?_
   | refine LeO.bind ?_ (fun _ => ?_)
def batch_Redox.T8 : Bool × List (List Nat × List Nat) := (true, [([], []), ([], []), ([], []), ([1, 2], [1, 2]), ([3], [3]), ([4], [4]), ([], []), ([6], [6]), ([5, 7], [5, 7]), ([0, 8], [0, 8]), ([9, 0, 1, 2, 3, 4, 5, 6, 7, 8, 9], [0, 9])])
def batch_Redox.B8 : List Nat := [0, 0, 0, 6, 14, 30, 0, 64, 254, 511, 1023]
theorem batch_Redox.tab8 : rtab .any (opsOf Try.f22 8) = batch_Redox.T8 := by kernel_rfl
theorem batch_Redox.bits8 : waitsOk batch_Redox.T8.2 batch_Redox.B8 = true := by kernel_rfl
def batch_Redox.T11 : Bool × List (List Nat × List Nat) := (true, [([], []), ([], []), ([1], [1]), ([0, 2], [0, 2]), ([], []), ([], []), ([5], [5]), ([4, 6, 3], [4, 6]), ([3, 7], [3, 7]), ([], []), ([], []), ([10], [10]), ([9, 11, 7], [9, 11]), ([], []), ([], []), ([14], [14]), ([13, 15, 12], [13, 15]), ([12, 16], [12, 16]), ([8, 17], [8, 17]), ([18, 16, 0, 1, 2, 3, 4, 5, 6, 7, 8, 9, 10, 11, 12, 13, 14, 15, 16, 17, 18], [18]), ([19, 0, 1, 2, 3, 4, 5, 6, 7, 8, 9, 10, 11, 12, 13, 14, 15, 16, 17, 18, 19], [])])
def batch_Redox.B11 : List Nat := [0, 0, 2, 7, 0, 0, 32, 127, 255, 0, 0, 1024, 3839, 0, 0, 16384, 65279, 130815, 262143, 524287, 1048575]
theorem batch_Redox.tab11 : rtab .any (opsOf Try.f22 11) = batch_Redox.T11 := by kernel_rfl
theorem batch_Redox.bits11 : waitsOk batch_Redox.T11.2 batch_Redox.B11 = true := by kernel_rfl
set_option maxHeartbeats 8000000 in
set_option maxRecDepth 100000 in
theorem batch_Redox.calls (k : Nat) (A0_0 : Option Addr) (c0_0 : Nat) (l0_0 : List ByteArray) (A0_1 : Option Addr) (c0_1 : Nat) (l0_1 : List (S63)) (A0_2 : Option Addr) (c0_2 : Nat) (l0_2 : List (S27)) (A0_3 : Option Addr) (c0_3 : Nat) (l0_3 : List (S65)) (a0_4 : Int) (a0_5 : Int) (a0_6 : Int) (A1 : Option Addr) (c1 : Nat) (l1 : List Int) (r1 : Int) (r2 : Int) (r3 : Int) (w : World) (hr0_0 : Kd.C Kd.string w A0_0 l0_0.length l0_0) (hc0_0 : l0_0.length ≤ c0_0) (hr0_1 : Kd.C k63 w A0_1 l0_1.length l0_1) (hc0_1 : l0_1.length ≤ c0_1) (hr0_2 : Kd.C k27 w A0_2 l0_2.length l0_2) (hc0_2 : l0_2.length ≤ c0_2) (hr0_3 : Kd.C k65 w A0_3 l0_3.length l0_3) (hc0_3 : l0_3.length ≤ c0_3) (hr1 : Kd.C (Kd.int .i64) w A1 l1.length l1) (hc1 : l1.length ≤ c1) (h : batch_Redox.f k l0_0 l0_1 l0_2 l0_3 a0_4 a0_5 a0_6 l1 = some (r1, r2, r3)) :
  Calls Try.prog 22 #[.agg #[.slice A0_0 l0_0.length c0_0, .slice A0_1 l0_1.length c0_1, .slice A0_2 l0_2.length c0_2, .slice A0_3 l0_3.length c0_3, .int .i64 a0_4, .int .i64 a0_5, .int .i64 a0_6], .slice A1 l1.length c1] w fun e w' => e = .returned (.tuple #[.agg #[.int .i64 r1, .int .i64 r2], .int .i64 r3]) ∧ Below w.heap.size w w' := by
 have hu29 := Try.underlying29; have hu27 := Try.underlying27; have hu63 := Try.underlying63; have HR0_0 := Sd.mk hr0_0; have HC0_0 := Sd.mk hc0_0; clear hr0_0 hc0_0; have HR0_1 := Sd.mk hr0_1; have HC0_1 := Sd.mk hc0_1; clear hr0_1 hc0_1; have HR0_2 := Sd.mk hr0_2; have HC0_2 := Sd.mk hc0_2; clear hr0_2 hc0_2; have HR0_3 := Sd.mk hr0_3; have HC0_3 := Sd.mk hc0_3; clear hr0_3 hc0_3; have HR1 := Sd.mk hr1; have HC1 := Sd.mk hc1; clear hr1 hc1; have HB := Sd.mk (Below.refl w.heap.size w)
 have H : ((x_glass.f k l0_0 l0_1 l0_2 l0_3 a0_4 a0_5 a0_6 l1).bind fun bt344 => (if bt344.2 = 0 then (batch_Redox.l0 k l1 bt344.1 0 l0_1 (l0_1.length : Int) 0) else (some (0, 0, bt344.2)))) = some (r1, r2, r3) := h
 clear h; replace H := Option.bind_eq_some_iff.mp H
 obtain ⟨⟨t344, t347⟩, A30, H⟩ := H
 try dsimp only at H
 have A3 := Sd.mk A30; clear A30
 by_cases c4 : t347 = 0
 ·rw [if_pos c4] at H
  have c4b0 : (t347 == 0) = true := beq_iff_eq.mpr c4
  have c4b1 : (t347 != 0) = false := bne_eq_false_iff_eq.mpr c4
  clear c4; have H' := Sd.mk H; clear H
  go_enter Try.func22, Try.ntmps22
  go_wp2_with (first | ((with_reducible refine gate_dst (N := 2) rfl ?_); refine box_event ?hg (N := 2) ?hd (cs := #[.slice A0_0 l0_0.length c0_0, .slice A0_1 l0_1.length c0_1, .slice A0_2 l0_2.length c0_2, .slice A0_3 l0_3.length c0_3, .int .i64 a0_4, .int .i64 a0_5, .int .i64 a0_6]) (t := 29) ?hr ?_; (case hd => rfl); (case hg => rfl); (case hr => exact tG); intro gb342 hg w5 hbox hb; have BK342 := Sd.mk (hbox); have GW342 := Sd.mk (bSz hg (bBl HB.out)); have GE342 := Sd.mk (bSz hg (bBl HB.out)); replace HB := Sd.mk (below_step (bBl HB.out) hb); clear hb hbox hg) | ((with_reducible refine gate_dst (N := 4) rfl ?_); refine box_event ?hg (N := 4) ?hd (cs := #[.int .i64 0, .int .i64 0]) (t := 27) ?hr ?_; (case hd => rfl); (case hg => rfl); (case hr => exact tG); intro gb343 hg w6 hbox hb; have BK343 := Sd.mk (hbox); have GW343 := Sd.mk (bSz hg (bBl HB.out)); have GE343 := Sd.mk (bSz hg (bBl HB.out)); replace HB := Sd.mk (below_step (bBl HB.out) hb); have NB342_343 := Sd.mk (bNl hg (bkA BK342.out)); have NB343_342 := Sd.mk (bNg hg (bkA BK342.out)); replace BK342 := Sd.mk (blk_below (bkA BK342.out) hb); clear hb hbox hg; have hnb7 := NB342_343.out; have hnc7 := NB343_342.out; obtain ⟨u8_0, u8_1, u8_2, u8_3, u8_4, u8_5, u8_6, o8_0, o8_1, o8_2, o8_3, o8_4, o8_5, o8_6⟩ := bc7 (w := w6) BK342.out) | ((with_reducible refine gate_callee (f := 49) rfl ?_); refine goesL_ (some 15) rfl rfl Try.func49 (by kernel_rfl) rfl #[.agg #[.slice A0_0 l0_0.length c0_0, .slice A0_1 l0_1.length c0_1, .slice A0_2 l0_2.length c0_2, .slice A0_3 l0_3.length c0_3, .int .i64 a0_4, .int .i64 a0_5, .int .i64 a0_6], .slice A1 l1.length c1] rfl tM ?_; (with_reducible refine (x_glass.calls k _ _ l0_0 _ _ l0_1 _ _ l0_2 _ _ l0_3 a0_4 a0_5 a0_6 _ _ l1 t344 t347 _ (cS (Kd.C_below HR0_0.out HB.out)) HC0_0.out (cS (Kd.C_below HR0_1.out HB.out)) HC0_1.out (cS (Kd.C_below HR0_2.out HB.out)) HC0_2.out (cS (Kd.C_below HR0_3.out HB.out)) HC0_3.out (cS (Kd.C_below HR1.out HB.out)) HC1.out A3.out).mono ?_); rintro e w9 ⟨v345, rfl, ho0, hb⟩; refine ⟨_, rfl, ?_⟩; have HO346 := Sd.mk (Kd.R_lower (Kd.R_newB ho0 (bkA BK343.out)) (below_size (bBl HB.out))); replace BK342 := Sd.mk (blk_below (bkA BK342.out) hb); replace BK343 := Sd.mk (blk_below (bkA BK343.out) hb); replace HB := Sd.mk (below_step (bBl HB.out) hb); (try clear hb); (try clear hb2); (try clear hk); (try clear hi); (try clear ho0); obtain ⟨u10_0, u10_1, u10_2, u10_3, u10_4, u10_5, u10_6, o10_0, o10_1, o10_2, o10_3, o10_4, o10_5, o10_6⟩ := bc7 (w := w9) BK342.out))
  go_loopg [8, 25] k (fun kq v8 v25 w' => ∃ (x8_1 : Int) (x25_1 : Int), v8 = .int .i64 x8_1 ∧ v25 = .int .i64 x25_1 ∧ Sd (batch_Redox.l0 kq l1 t344 x8_1 l0_1 (l0_1.length : Int) x25_1 = some (r1, r2, r3)) ∧ Sd (kq ≤ k) ∧ Sd (Kd.R k27 27 w' w.heap.size (fun k_ => k_ ≠ gb343) v345 t344) ∧ Sd (w'.heap[gb342]? = some (.cells #[(.slice A0_0 l0_0.length c0_0), (.slice A0_1 l0_1.length c0_1), (.slice A0_2 l0_2.length c0_2), (.slice A0_3 l0_3.length c0_3), .int .i64 a0_4, .int .i64 a0_5, .int .i64 a0_6] 29 (0, 0))) ∧ Sd (w'.heap[gb343]? = some (.cells #[.int .i64 0, .int .i64 0] 27 (0, 0))) ∧ Sd (Below w.heap.size w w'))
  case atStart => exact ⟨(0), (0), tS, tS, H', ⟨Nat.le_refl _⟩, ⟨by (with_reducible repeat (first | apply Kd.R_alloc | apply Kd.R_drewN | apply Kd.R_drew)); exact Kd.R_mono HO346.out (fun _ hk => hk.2)⟩, ⟨bkA BK342.out⟩, ⟨bkA BK343.out⟩, ⟨bBl HB.out⟩⟩
  case round =>
   clear H'; (try clear c1); (try clear c2); (try clear p2); (try clear c4); (try clear c4b0); (try clear c4b1); (try clear c7); (try clear u10_0 u10_1 u10_2 u10_3 u10_4 u10_5 u10_6); (try clear u8_0 u8_1 u8_2 u8_3 u8_4 u8_5 u8_6); (try clear o10_0 o10_1 o10_2 o10_3 o10_4 o10_5 o10_6); (try clear o8_0 o8_1 o8_2 o8_3 o8_4 o8_5 o8_6); obtain ⟨x8_1, x25_1, rfl, rfl, HA, HK1, HO_6, BK342, BK343, HB⟩ := hrel
   cases gk with
   | zero => exact absurd HA.out (by simp [batch_Redox.l0])
   | succ k1 =>
    have H := HA.out; clear HA
    simp only [batch_Redox.l0] at H
    by_cases c11 : x25_1 < (l0_1.length : Int)
    ·rw [if_pos c11] at H
     have c11b0 : decide (x25_1 < (l0_1.length : Int)) = true := decide_eq_true c11
     clear c11
     by_cases c12 : 0 ≤ x25_1
     ·rw [if_pos c12] at H
      have c12b0 : decide (0 ≤ x25_1) = true := decide_eq_true c12
      clear c12
      by_cases c13 : x25_1 < (l0_1.length : Int)
      ·rw [if_pos c13] at H
       have c13b0 : decide (x25_1 < (l0_1.length : Int)) = true := decide_eq_true c13
       clear c13
       by_cases c14 : x25_1 < (l1.length : Int)
       ·rw [if_pos c14] at H
        have c14b0 : decide (x25_1 < (l1.length : Int)) = true := decide_eq_true c14
        clear c14; have H' := Sd.mk H; clear H
        have p348 : 0 ≤ (x25_1 : Int) := tB
        have q348 : x25_1 < (l0_1.length : Int) := tB
        obtain ⟨ad348, A348_6, c348_6, e348, hx348_0, hx348_1, hx348_2, hx348_3, hx348_4, hx348_5, hx348_6, hl348_6, hi348_6⟩ := at_T63 HR0_1.out x25_1 p348 q348; cases e348; replace hx348_0 := cU HB hx348_0; replace hx348_1 := cU HB hx348_1; replace hx348_2 := cU HB hx348_2; replace hx348_3 := cU HB hx348_3; replace hx348_4 := cU HB hx348_4; replace hx348_5 := cU HB hx348_5; replace hx348_6 := cU HB hx348_6; have HR348_6 := Sd.mk hi348_6; have HC348_6 := Sd.mk hl348_6; clear hi348_6 hl348_6; replace p348 := eq_true p348; replace q348 := eq_true q348
        try go_wp2_with (first | ((with_reducible refine gate_dst (N := 10) rfl ?_); refine box_event ?hg (N := 10) ?hd (cs := #[.string (⟨#[]⟩ : ByteArray), .int .i64 0, .int .i64 0, .int .i64 0, .int .i64 0, .int .i64 0, .slice none 0 0]) (t := 63) ?hr ?_; (case hd => rfl); (case hg => rfl); (case hr => exact tG); intro gb349 hg w15 hbox hb; replace HO_6 := Sd.mk (Kd.R_below (by (with_reducible repeat (first | apply Kd.R_alloc | apply Kd.R_drewN | apply Kd.R_drew)); exact HO_6.out) hb); have BK349 := Sd.mk (hbox); have GW349 := Sd.mk (bSz hg (bBl HB.out)); have GE349 := Sd.mk (bSz hg (bBl HB.out)); replace HB := Sd.mk (below_step (bBl HB.out) hb); have NB342_349 := Sd.mk (bNl hg (bkA BK342.out)); have NB349_342 := Sd.mk (bNg hg (bkA BK342.out)); replace BK342 := Sd.mk (blk_below (bkA BK342.out) hb); have NB343_349 := Sd.mk (bNl hg (bkA BK343.out)); have NB349_343 := Sd.mk (bNg hg (bkA BK343.out)); replace BK343 := Sd.mk (blk_below (bkA BK343.out) hb); clear hb hbox hg; have hnb16 := NB349_342.out; have hnc16 := NB342_349.out; have hnb17 := NB349_343.out; have hnc17 := NB343_349.out; obtain ⟨u18_0, u18_1, u18_2, u18_3, u18_4, u18_5, u18_6, o18_0, o18_1, o18_2, o18_3, o18_4, o18_5, o18_6⟩ := bc7 (w := w15) BK349.out))
        have n0_ : Sd (Kd.R k27 27 (((((((w15.setCell ⟨gb349, 0, none⟩ (.string ((rd_T63 l0_1 x25_1).f0))).setCell ⟨gb349, 1, none⟩ (.int .i64 ((rd_T63 l0_1 x25_1).f1))).setCell ⟨gb349, 2, none⟩ (.int .i64 ((rd_T63 l0_1 x25_1).f2))).setCell ⟨gb349, 3, none⟩ (.int .i64 ((rd_T63 l0_1 x25_1).f3))).setCell ⟨gb349, 4, none⟩ (.int .i64 ((rd_T63 l0_1 x25_1).f4))).setCell ⟨gb349, 5, none⟩ (.int .i64 ((rd_T63 l0_1 x25_1).f5))).setCell ⟨gb349, 6, none⟩ (.slice A348_6 ((rd_T63 l0_1 x25_1).f6).length c348_6)) w.heap.size (fun k_ => k_ ≠ gb343) v345 t344) := ⟨by (with_reducible repeat (first | apply Kd.R_alloc | apply Kd.R_drewN | apply Kd.R_drew)); exact Kd.R_mono (Kd.R_far (p := ⟨gb349, 6, none⟩) (Kd.R_far (p := ⟨gb349, 5, none⟩) (Kd.R_far (p := ⟨gb349, 4, none⟩) (Kd.R_far (p := ⟨gb349, 3, none⟩) (Kd.R_far (p := ⟨gb349, 2, none⟩) (Kd.R_far (p := ⟨gb349, 1, none⟩) (Kd.R_far (p := ⟨gb349, 0, none⟩) (Kd.R_types HO_6.out BK349.out (by decide)) (fun _ hk => hk.2) (.string ((rd_T63 l0_1 x25_1).f0))) (fun _ hk => hk.2) (.int .i64 ((rd_T63 l0_1 x25_1).f1))) (fun _ hk => hk.2) (.int .i64 ((rd_T63 l0_1 x25_1).f2))) (fun _ hk => hk.2) (.int .i64 ((rd_T63 l0_1 x25_1).f3))) (fun _ hk => hk.2) (.int .i64 ((rd_T63 l0_1 x25_1).f4))) (fun _ hk => hk.2) (.int .i64 ((rd_T63 l0_1 x25_1).f5))) (fun _ hk => hk.2) (.slice A348_6 ((rd_T63 l0_1 x25_1).f6).length c348_6)) (fun _ hk => hk.1)⟩
        have n1_ : Sd ((((((((w15.setCell ⟨gb349, 0, none⟩ (.string ((rd_T63 l0_1 x25_1).f0))).setCell ⟨gb349, 1, none⟩ (.int .i64 ((rd_T63 l0_1 x25_1).f1))).setCell ⟨gb349, 2, none⟩ (.int .i64 ((rd_T63 l0_1 x25_1).f2))).setCell ⟨gb349, 3, none⟩ (.int .i64 ((rd_T63 l0_1 x25_1).f3))).setCell ⟨gb349, 4, none⟩ (.int .i64 ((rd_T63 l0_1 x25_1).f4))).setCell ⟨gb349, 5, none⟩ (.int .i64 ((rd_T63 l0_1 x25_1).f5))).setCell ⟨gb349, 6, none⟩ (.slice A348_6 ((rd_T63 l0_1 x25_1).f6).length c348_6)).heap[gb342]? = some (.cells #[.slice A0_0 l0_0.length c0_0, .slice (some ad348) l0_1.length c0_1, .slice A0_2 l0_2.length c0_2, .slice A0_3 l0_3.length c0_3, .int .i64 a0_4, .int .i64 a0_5, .int .i64 a0_6] 29 (0, 0))) := ⟨by (with_reducible repeat (first | refine blk_drewN ?_ _ | refine blk_drew ?_ | refine blk_alloc ?_ _)); refine blk_far ?_ NB342_349.out _; (with_reducible repeat (first | refine blk_drewN ?_ _ | refine blk_drew ?_ | refine blk_alloc ?_ _)); refine blk_far ?_ NB342_349.out _; (with_reducible repeat (first | refine blk_drewN ?_ _ | refine blk_drew ?_ | refine blk_alloc ?_ _)); refine blk_far ?_ NB342_349.out _; (with_reducible repeat (first | refine blk_drewN ?_ _ | refine blk_drew ?_ | refine blk_alloc ?_ _)); refine blk_far ?_ NB342_349.out _; (with_reducible repeat (first | refine blk_drewN ?_ _ | refine blk_drew ?_ | refine blk_alloc ?_ _)); refine blk_far ?_ NB342_349.out _; (with_reducible repeat (first | refine blk_drewN ?_ _ | refine blk_drew ?_ | refine blk_alloc ?_ _)); refine blk_far ?_ NB342_349.out _; (with_reducible repeat (first | refine blk_drewN ?_ _ | refine blk_drew ?_ | refine blk_alloc ?_ _)); refine blk_far ?_ NB342_349.out _; (with_reducible repeat (first | refine blk_drewN ?_ _ | refine blk_drew ?_ | refine blk_alloc ?_ _)); exact BK342.out⟩
        have n2_ : Sd ((((((((w15.setCell ⟨gb349, 0, none⟩ (.string ((rd_T63 l0_1 x25_1).f0))).setCell ⟨gb349, 1, none⟩ (.int .i64 ((rd_T63 l0_1 x25_1).f1))).setCell ⟨gb349, 2, none⟩ (.int .i64 ((rd_T63 l0_1 x25_1).f2))).setCell ⟨gb349, 3, none⟩ (.int .i64 ((rd_T63 l0_1 x25_1).f3))).setCell ⟨gb349, 4, none⟩ (.int .i64 ((rd_T63 l0_1 x25_1).f4))).setCell ⟨gb349, 5, none⟩ (.int .i64 ((rd_T63 l0_1 x25_1).f5))).setCell ⟨gb349, 6, none⟩ (.slice A348_6 ((rd_T63 l0_1 x25_1).f6).length c348_6)).heap[gb343]? = some (.cells #[.int .i64 0, .int .i64 0] 27 (0, 0))) := ⟨by (with_reducible repeat (first | refine blk_drewN ?_ _ | refine blk_drew ?_ | refine blk_alloc ?_ _)); refine blk_far ?_ NB343_349.out _; (with_reducible repeat (first | refine blk_drewN ?_ _ | refine blk_drew ?_ | refine blk_alloc ?_ _)); refine blk_far ?_ NB343_349.out _; (with_reducible repeat (first | refine blk_drewN ?_ _ | refine blk_drew ?_ | refine blk_alloc ?_ _)); refine blk_far ?_ NB343_349.out _; (with_reducible repeat (first | refine blk_drewN ?_ _ | refine blk_drew ?_ | refine blk_alloc ?_ _)); refine blk_far ?_ NB343_349.out _; (with_reducible repeat (first | refine blk_drewN ?_ _ | refine blk_drew ?_ | refine blk_alloc ?_ _)); refine blk_far ?_ NB343_349.out _; (with_reducible repeat (first | refine blk_drewN ?_ _ | refine blk_drew ?_ | refine blk_alloc ?_ _)); refine blk_far ?_ NB343_349.out _; (with_reducible repeat (first | refine blk_drewN ?_ _ | refine blk_drew ?_ | refine blk_alloc ?_ _)); refine blk_far ?_ NB343_349.out _; (with_reducible repeat (first | refine blk_drewN ?_ _ | refine blk_drew ?_ | refine blk_alloc ?_ _)); exact BK343.out⟩
        have n3_ : Sd ((((((((w15.setCell ⟨gb349, 0, none⟩ (.string ((rd_T63 l0_1 x25_1).f0))).setCell ⟨gb349, 1, none⟩ (.int .i64 ((rd_T63 l0_1 x25_1).f1))).setCell ⟨gb349, 2, none⟩ (.int .i64 ((rd_T63 l0_1 x25_1).f2))).setCell ⟨gb349, 3, none⟩ (.int .i64 ((rd_T63 l0_1 x25_1).f3))).setCell ⟨gb349, 4, none⟩ (.int .i64 ((rd_T63 l0_1 x25_1).f4))).setCell ⟨gb349, 5, none⟩ (.int .i64 ((rd_T63 l0_1 x25_1).f5))).setCell ⟨gb349, 6, none⟩ (.slice A348_6 ((rd_T63 l0_1 x25_1).f6).length c348_6)).heap[gb349]? = some (.cells #[.string ((rd_T63 l0_1 x25_1).f0), .int .i64 ((rd_T63 l0_1 x25_1).f1), .int .i64 ((rd_T63 l0_1 x25_1).f2), .int .i64 ((rd_T63 l0_1 x25_1).f3), .int .i64 ((rd_T63 l0_1 x25_1).f4), .int .i64 ((rd_T63 l0_1 x25_1).f5), .slice A348_6 ((rd_T63 l0_1 x25_1).f6).length c348_6] 63 (0, 0))) := ⟨by (with_reducible repeat (first | refine blk_drewN ?_ _ | refine blk_drew ?_ | refine blk_alloc ?_ _)); refine blk_put (cs := #[.string ((rd_T63 l0_1 x25_1).f0), .int .i64 ((rd_T63 l0_1 x25_1).f1), .int .i64 ((rd_T63 l0_1 x25_1).f2), .int .i64 ((rd_T63 l0_1 x25_1).f3), .int .i64 ((rd_T63 l0_1 x25_1).f4), .int .i64 ((rd_T63 l0_1 x25_1).f5), .slice none 0 0]) ?_ 6 _ rfl; (with_reducible repeat (first | refine blk_drewN ?_ _ | refine blk_drew ?_ | refine blk_alloc ?_ _)); refine blk_put (cs := #[.string ((rd_T63 l0_1 x25_1).f0), .int .i64 ((rd_T63 l0_1 x25_1).f1), .int .i64 ((rd_T63 l0_1 x25_1).f2), .int .i64 ((rd_T63 l0_1 x25_1).f3), .int .i64 ((rd_T63 l0_1 x25_1).f4), .int .i64 0, .slice none 0 0]) ?_ 5 _ rfl; (with_reducible repeat (first | refine blk_drewN ?_ _ | refine blk_drew ?_ | refine blk_alloc ?_ _)); refine blk_put (cs := #[.string ((rd_T63 l0_1 x25_1).f0), .int .i64 ((rd_T63 l0_1 x25_1).f1), .int .i64 ((rd_T63 l0_1 x25_1).f2), .int .i64 ((rd_T63 l0_1 x25_1).f3), .int .i64 0, .int .i64 0, .slice none 0 0]) ?_ 4 _ rfl; (with_reducible repeat (first | refine blk_drewN ?_ _ | refine blk_drew ?_ | refine blk_alloc ?_ _)); refine blk_put (cs := #[.string ((rd_T63 l0_1 x25_1).f0), .int .i64 ((rd_T63 l0_1 x25_1).f1), .int .i64 ((rd_T63 l0_1 x25_1).f2), .int .i64 0, .int .i64 0, .int .i64 0, .slice none 0 0]) ?_ 3 _ rfl; (with_reducible repeat (first | refine blk_drewN ?_ _ | refine blk_drew ?_ | refine blk_alloc ?_ _)); refine blk_put (cs := #[.string ((rd_T63 l0_1 x25_1).f0), .int .i64 ((rd_T63 l0_1 x25_1).f1), .int .i64 0, .int .i64 0, .int .i64 0, .int .i64 0, .slice none 0 0]) ?_ 2 _ rfl; (with_reducible repeat (first | refine blk_drewN ?_ _ | refine blk_drew ?_ | refine blk_alloc ?_ _)); refine blk_put (cs := #[.string ((rd_T63 l0_1 x25_1).f0), .int .i64 0, .int .i64 0, .int .i64 0, .int .i64 0, .int .i64 0, .slice none 0 0]) ?_ 1 _ rfl; (with_reducible repeat (first | refine blk_drewN ?_ _ | refine blk_drew ?_ | refine blk_alloc ?_ _)); refine blk_put (cs := #[.string (⟨#[]⟩ : ByteArray), .int .i64 0, .int .i64 0, .int .i64 0, .int .i64 0, .int .i64 0, .slice none 0 0]) ?_ 0 _ rfl; (with_reducible repeat (first | refine blk_drewN ?_ _ | refine blk_drew ?_ | refine blk_alloc ?_ _)); exact BK349.out⟩
        have n4_ : Sd (Below w.heap.size w (((((((w15.setCell ⟨gb349, 0, none⟩ (.string ((rd_T63 l0_1 x25_1).f0))).setCell ⟨gb349, 1, none⟩ (.int .i64 ((rd_T63 l0_1 x25_1).f1))).setCell ⟨gb349, 2, none⟩ (.int .i64 ((rd_T63 l0_1 x25_1).f2))).setCell ⟨gb349, 3, none⟩ (.int .i64 ((rd_T63 l0_1 x25_1).f3))).setCell ⟨gb349, 4, none⟩ (.int .i64 ((rd_T63 l0_1 x25_1).f4))).setCell ⟨gb349, 5, none⟩ (.int .i64 ((rd_T63 l0_1 x25_1).f5))).setCell ⟨gb349, 6, none⟩ (.slice A348_6 ((rd_T63 l0_1 x25_1).f6).length c348_6))) := ⟨bBl HB.out⟩
        (try clear HO_6)
        (try clear BK342)
        (try clear BK343)
        (try clear BK349)
        (try clear HB)
        generalize (((((((w15.setCell ⟨gb349, 0, none⟩ (.string ((rd_T63 l0_1 x25_1).f0))).setCell ⟨gb349, 1, none⟩ (.int .i64 ((rd_T63 l0_1 x25_1).f1))).setCell ⟨gb349, 2, none⟩ (.int .i64 ((rd_T63 l0_1 x25_1).f2))).setCell ⟨gb349, 3, none⟩ (.int .i64 ((rd_T63 l0_1 x25_1).f3))).setCell ⟨gb349, 4, none⟩ (.int .i64 ((rd_T63 l0_1 x25_1).f4))).setCell ⟨gb349, 5, none⟩ (.int .i64 ((rd_T63 l0_1 x25_1).f5))).setCell ⟨gb349, 6, none⟩ (.slice A348_6 ((rd_T63 l0_1 x25_1).f6).length c348_6)) = w19 at n0_ n1_ n2_ n3_ n4_ ⊢
        have HO_6 := n0_; have BK342 := n1_; have BK343 := n2_; have BK349 := n3_; have HB := n4_; clear n0_ n1_ n2_ n3_ n4_; replace HO_6 := Sd.mk (Kd.R_drew HO_6.out); replace BK342 := Sd.mk (blk_drew BK342.out); replace BK343 := Sd.mk (blk_drew BK343.out); replace BK349 := Sd.mk (blk_drew BK349.out); replace HB := Sd.mk (below_drew1 HB.out)
        have p350 : 0 ≤ (x25_1 : Int) := tB
        have q350 : x25_1 < (l1.length : Int) := tB
        obtain ⟨ad350, e350, hx350_0⟩ := Kd.at_int HR1.out x25_1 p350 q350; have hw350_0 := hx350_0; cases e350; replace hx350_0 := cU HB hx350_0; replace p350 := eq_true p350; replace q350 := eq_true q350
        refine start_ (n := 11) (S := fun w' => w'.cell? ⟨gb349, 0, none⟩ = some (.string ((rd_T63 l0_1 x25_1).f0)) ∧ w'.cell? ⟨gb349, 1, none⟩ = some (.int .i64 ((rd_T63 l0_1 x25_1).f1)) ∧ w'.cell? ⟨gb349, 2, none⟩ = some (.int .i64 ((rd_T63 l0_1 x25_1).f2)) ∧ w'.cell? ⟨gb349, 3, none⟩ = some (.int .i64 ((rd_T63 l0_1 x25_1).f3)) ∧ w'.cell? ⟨gb349, 4, none⟩ = some (.int .i64 ((rd_T63 l0_1 x25_1).f4)) ∧ w'.cell? ⟨gb349, 5, none⟩ = some (.int .i64 ((rd_T63 l0_1 x25_1).f5)) ∧ w'.cell? ⟨gb349, 6, none⟩ = some (.slice A348_6 ((rd_T63 l0_1 x25_1).f6).length c348_6) ∧ w'.cell? (ad350.add (x25_1).toNat) = some (.int .i64 (rd l1 x25_1))) (ds := []) #[false, false, false, false, false, false, false, false, false, false, false] (by kernel_rfl) rfl rfl ⟨(blk_cell BK349.out 0).trans rfl, (blk_cell BK349.out 1).trans rfl, (blk_cell BK349.out 2).trans rfl, (blk_cell BK349.out 3).trans rfl, (blk_cell BK349.out 4).trans rfl, (blk_cell BK349.out 5).trans rfl, (blk_cell BK349.out 6).trans rfl, ((HB.out.cell (World.block_lt_of_cell? w _ hw350_0)).trans hw350_0)⟩ (fun hHeld => ?_); refine with_tabW batch_Redox.tab8 batch_Redox.bits8 (fun HT_ HW_ => ?_)
        generalize w19.drew = w20 at HO_6 BK342 BK343 BK349 HB hx350_0 hHeld ⊢
        refine pure_ (i := 0) (N := some 30) (v := ?_) (a' := ?_) #[true, false, false, false, false, false, false, false, false, false, false] rfl rfl (any_of HT_.out (by kernel_rfl)) (fun _ _ _ h => h) (Or.inl ⟨by rfl, ?_⟩) ?_ ?_
        rotate_left
        ·exact tW
        rotate_left
        ·exact tP
        refine pure_ (i := 1) (N := some 31) (v := ?_) (a' := ?_) #[true, true, false, false, false, false, false, false, false, false, false] rfl rfl (any_of HT_.out (by kernel_rfl)) (fun _ _ _ h => h) (Or.inl ⟨by rfl, ?_⟩) ?_ ?_
        rotate_left
        ·exact tW
        rotate_left
        ·exact tP
        refine pure_ (i := 2) (N := some 32) (v := ?_) (a' := ?_) #[true, true, true, false, false, false, false, false, false, false, false] rfl rfl (any_of HT_.out (by kernel_rfl)) (fun _ _ _ h => h) (Or.inl ⟨by rfl, ?_⟩) ?_ ?_
        rotate_left
        ·exact tW
        rotate_left
        ·exact tP
        refine pure_ (i := 3) (N := some 33) (v := ?_) (a' := ?_) #[true, true, true, true, false, false, false, false, false, false, false] rfl rfl (any_of HT_.out (by kernel_rfl)) (fun _ _ _ h => h) (Or.inl ⟨by rfl, ?_⟩) ?_ ?_
        rotate_left
        ·exact tW
        rotate_left
        ·exact tP
        refine pure_ (i := 6) (N := some 36) (v := ?_) (a' := ?_) #[true, true, true, true, false, false, true, false, false, false, false] rfl rfl (any_of HT_.out (by kernel_rfl)) (fun _ _ _ h => h) (Or.inl ⟨by rfl, ?_⟩) ?_ ?_
        rotate_left
        ·exact tW
        rotate_left
        ·exact tP
        refine take_ (i := 4) (N := some 34) (v := ?_) (a' := ?_) #[true, true, true, true, true, false, true, false, false, false, false] rfl rfl (take_ofW HT_.out HW_.out (by kernel_rfl)) (fun _ _ _ h => h) (Or.inl ⟨by rfl, ?_⟩) hHeld ?_ ?_
        rotate_left
        ·rintro w' ⟨s0, s1, s2, s3, s4, s5, s6, s7⟩
         go_simp
         with_reducible rfl
        rotate_left
        ·exact tP
        refine pure_ (i := 5) (N := some 35) (v := ?_) (a' := ?_) #[true, true, true, true, true, true, true, false, false, false, false] rfl rfl (any_of HT_.out (by kernel_rfl)) (fun _ _ _ h => h) (Or.inl ⟨by rfl, ?_⟩) ?_ ?_
        rotate_left
        ·exact tW
        rotate_left
        ·exact tP
        refine take_ (i := 7) (N := some 37) (v := ?_) (a' := ?_) #[true, true, true, true, true, true, true, true, false, false, false] rfl rfl (take_ofW HT_.out HW_.out (by kernel_rfl)) (fun _ _ _ h => h) (Or.inl ⟨by rfl, ?_⟩) hHeld ?_ ?_
        rotate_left
        ·rintro w' ⟨s0, s1, s2, s3, s4, s5, s6, s7⟩
         go_simp
         with_reducible rfl
        rotate_left
        ·exact tP
        refine pure_ (i := 8) (N := some 38) (v := ?_) (a' := ?_) #[true, true, true, true, true, true, true, true, true, false, false] rfl rfl (any_of HT_.out (by kernel_rfl)) (fun _ _ _ h => h) (Or.inl ⟨by rfl, ?_⟩) ?_ ?_
        rotate_left
        ·exact tW
        rotate_left
        ·exact tP
        refine pure_ (i := 9) (N := some 39) (v := ?_) (a' := ?_) #[true, true, true, true, true, true, true, true, true, true, false] rfl rfl (any_of HT_.out (by kernel_rfl)) (fun _ _ _ h => h) (Or.inl ⟨by rfl, ?_⟩) ?_ ?_
        rotate_left
        ·exact tW
        rotate_left
        ·exact tP
        refine pure_ (i := 10) (N := some 8) (v := ?_) (a' := ?_) #[true, true, true, true, true, true, true, true, true, true, true] rfl rfl (any_of HT_.out (by kernel_rfl)) (fun _ _ _ h => h) (Or.inl ⟨by rfl, ?_⟩) ?_ ?_
        rotate_left
        ·exact tW
        rotate_left
        ·exact tP
        refine done_ (done_of HT_.out (by kernel_rfl)) ?_
        try go_wp2
        go_roundg k1
        case measure => have := HK1.out; omega
        case rel => exact ⟨(wrap64 (x8_1 + (wrap64 ((wrap64 (1000000 * (rd l1 x25_1))) * ((rd_T63 l0_1 x25_1).f2))))), (wrap64 (x25_1 + 1)), tS, tS, H', ⟨by have := HK1.out; omega⟩, ⟨by (with_reducible repeat (first | apply Kd.R_alloc | apply Kd.R_drewN | apply Kd.R_drew)); exact HO_6.out⟩, ⟨bkA BK342.out⟩, ⟨bkA BK343.out⟩, ⟨bBl HB.out⟩⟩
       ·rw [if_neg c14] at H
        exact absurd H (by simp)
      ·rw [if_neg c13] at H
       exact absurd H (by simp)
     ·rw [if_neg c12] at H
      exact absurd H (by simp)
    ·rw [if_neg c11] at H
     have c11b0 : decide (x25_1 < (l0_1.length : Int)) = false := decide_eq_false c11
     clear c11; replace H := Option.bind_eq_some_iff.mp H
     obtain ⟨⟨t351, t352⟩, A210, H⟩ := H
     try dsimp only at H
     have A21 := Sd.mk A210; clear A210; replace H := Option.bind_eq_some_iff.mp H; obtain ⟨t354, A220, H⟩ := H
     try dsimp only at H
     have A22 := Sd.mk A220; clear A220; replace H := Option.bind_eq_some_iff.mp H; obtain ⟨t355, A230, H⟩ := H
     try dsimp only at H
     have A23 := Sd.mk A230; clear A230
     obtain ⟨ji24, hji24⟩ : ∃ j_ : Int, (mn t354 t355) = j_ := ⟨_, rfl⟩
     replace H : ((batch_up.f x8_1 t351).bind fun t356 => ((batch_up.f x8_1 t352).bind fun t357 => (some (ji24, mx t356 t357, 0)))) = some (r1, r2, r3) := by first | (rw [hji24] at H; exact H) | (simp only [hji24] at H ⊢; exact H)
     (try rw [hji24] at A21)
     (try rw [hji24] at A22)
     (try rw [hji24] at A23)
     have hji24_ : (if t355 < t354 then t355 else t354) = ji24 := hji24
     replace H := Option.bind_eq_some_iff.mp H; obtain ⟨t356, A250, H⟩ := H
     try dsimp only at H
     have A25 := Sd.mk A250; clear A250; replace H := Option.bind_eq_some_iff.mp H; obtain ⟨t357, A260, H⟩ := H
     try dsimp only at H
     have A26 := Sd.mk A260; clear A260
     obtain ⟨ji27, hji27⟩ : ∃ j_ : Int, (mx t356 t357) = j_ := ⟨_, rfl⟩
     replace H : (some (ji24, ji27, 0)) = some (r1, r2, r3) := by first | (rw [hji27] at H; exact H) | (simp only [hji27] at H ⊢; exact H)
     (try rw [hji27] at A21)
     (try rw [hji27] at A22)
     (try rw [hji27] at A23)
     (try rw [hji27] at A25)
     (try rw [hji27] at A26)
     have hji27_ : (if t356 < t357 then t357 else t356) = ji27 := hji27
     simp only [Option.some.injEq, Prod.mk.injEq] at H
     obtain ⟨rfl, rfl, rfl⟩ := H; obtain ⟨Ao28, co28, eo28⟩ := Kd.R_slice HO_6.out; subst eo28
     try go_wp2_with (first | ((with_reducible refine gate_callee (f := 57) rfl ?_); refine goesL_ (some 42) rfl rfl Try.func57 (by kernel_rfl) rfl #[.slice Ao28 t344.length co28] rfl tM ?_; (with_reducible refine (batch_weight.calls k1 _ _ t344 t351 t352 _ (cS ((Kd.R_reads' HO_6.out).2.2)) ((Kd.R_reads' HO_6.out).2.1) A21.out).mono ?_); rintro e w29 ⟨rfl, hb⟩; refine ⟨_, rfl, ?_⟩; replace HO_6 := Sd.mk (Kd.R_below (by (with_reducible repeat (first | apply Kd.R_alloc | apply Kd.R_drewN | apply Kd.R_drew)); exact HO_6.out) hb); replace BK342 := Sd.mk (blk_below (bkA BK342.out) hb); replace BK343 := Sd.mk (blk_below (bkA BK343.out) hb); replace HB := Sd.mk (below_step (bBl HB.out) hb); (try clear hb); (try clear hb2); (try clear hk); (try clear hi)) | ((with_reducible refine gate_dst (N := 11) rfl ?_); refine box_event ?hg (N := 11) ?hd (cs := #[.int .i64 0, .int .i64 0]) (t := 27) ?hr ?_; (case hd => rfl); (case hg => rfl); (case hr => exact tG); intro gb353 hg w30 hbox hb; replace HO_6 := Sd.mk (Kd.R_below (Kd.R_elderB (by (with_reducible repeat (first | apply Kd.R_alloc | apply Kd.R_drewN | apply Kd.R_drew)); exact HO_6.out) gb353 (Nat.le_of_eq hg.symm)) hb); have BK353 := Sd.mk (hbox); have GW353 := Sd.mk (bSz hg (bBl HB.out)); have GE353 := Sd.mk (bSz hg (bBl HB.out)); replace HB := Sd.mk (below_step (bBl HB.out) hb); have NB342_353 := Sd.mk (bNl hg (bkA BK342.out)); have NB353_342 := Sd.mk (bNg hg (bkA BK342.out)); replace BK342 := Sd.mk (blk_below (bkA BK342.out) hb); have NB343_353 := Sd.mk (bNl hg (bkA BK343.out)); have NB353_343 := Sd.mk (bNg hg (bkA BK343.out)); replace BK343 := Sd.mk (blk_below (bkA BK343.out) hb); clear hb hbox hg; have hnb31 := NB353_342.out; have hnc31 := NB342_353.out; have hnb32 := NB353_343.out; have hnc32 := NB343_353.out; obtain ⟨u33_0, u33_1, o33_0, o33_1⟩ := bc2 (w := w30) BK353.out))
     have n0_ : Sd (Kd.R k27 27 ((w30.setCell ⟨gb353, 0, none⟩ (.int .i64 t351)).setCell ⟨gb353, 1, none⟩ (.int .i64 t352)) w.heap.size (fun k_ => k_ ≠ gb343 ∧ k_ ≠ gb353) (.slice Ao28 t344.length co28) t344) := ⟨by (with_reducible repeat (first | apply Kd.R_alloc | apply Kd.R_drewN | apply Kd.R_drew)); exact Kd.R_mono (Kd.R_far (p := ⟨gb353, 1, none⟩) (Kd.R_far (p := ⟨gb353, 0, none⟩) (Kd.R_mono HO_6.out (fun k_ hk => (⟨hk, hk.2⟩ : _ ∧ k_ ≠ gb353))) (fun _ hk => hk.2) (.int .i64 t351)) (fun _ hk => hk.2) (.int .i64 t352)) (fun _ hk => ⟨hk.1.1, hk.1.2⟩)⟩
     have n1_ : Sd (((w30.setCell ⟨gb353, 0, none⟩ (.int .i64 t351)).setCell ⟨gb353, 1, none⟩ (.int .i64 t352)).heap[gb342]? = some (.cells #[.slice A0_0 l0_0.length c0_0, .slice A0_1 l0_1.length c0_1, .slice A0_2 l0_2.length c0_2, .slice A0_3 l0_3.length c0_3, .int .i64 a0_4, .int .i64 a0_5, .int .i64 a0_6] 29 (0, 0))) := ⟨by (with_reducible repeat (first | refine blk_drewN ?_ _ | refine blk_drew ?_ | refine blk_alloc ?_ _)); refine blk_far ?_ NB342_353.out _; (with_reducible repeat (first | refine blk_drewN ?_ _ | refine blk_drew ?_ | refine blk_alloc ?_ _)); refine blk_far ?_ NB342_353.out _; (with_reducible repeat (first | refine blk_drewN ?_ _ | refine blk_drew ?_ | refine blk_alloc ?_ _)); exact BK342.out⟩
     have n2_ : Sd (((w30.setCell ⟨gb353, 0, none⟩ (.int .i64 t351)).setCell ⟨gb353, 1, none⟩ (.int .i64 t352)).heap[gb343]? = some (.cells #[.int .i64 0, .int .i64 0] 27 (0, 0))) := ⟨by (with_reducible repeat (first | refine blk_drewN ?_ _ | refine blk_drew ?_ | refine blk_alloc ?_ _)); refine blk_far ?_ NB343_353.out _; (with_reducible repeat (first | refine blk_drewN ?_ _ | refine blk_drew ?_ | refine blk_alloc ?_ _)); refine blk_far ?_ NB343_353.out _; (with_reducible repeat (first | refine blk_drewN ?_ _ | refine blk_drew ?_ | refine blk_alloc ?_ _)); exact BK343.out⟩
     have n3_ : Sd (((w30.setCell ⟨gb353, 0, none⟩ (.int .i64 t351)).setCell ⟨gb353, 1, none⟩ (.int .i64 t352)).heap[gb353]? = some (.cells #[.int .i64 t351, .int .i64 t352] 27 (0, 0))) := ⟨by (with_reducible repeat (first | refine blk_drewN ?_ _ | refine blk_drew ?_ | refine blk_alloc ?_ _)); refine blk_put (cs := #[.int .i64 t351, .int .i64 0]) ?_ 1 _ rfl; (with_reducible repeat (first | refine blk_drewN ?_ _ | refine blk_drew ?_ | refine blk_alloc ?_ _)); refine blk_put (cs := #[.int .i64 0, .int .i64 0]) ?_ 0 _ rfl; (with_reducible repeat (first | refine blk_drewN ?_ _ | refine blk_drew ?_ | refine blk_alloc ?_ _)); exact BK353.out⟩
     have n4_ : Sd (Below w.heap.size w ((w30.setCell ⟨gb353, 0, none⟩ (.int .i64 t351)).setCell ⟨gb353, 1, none⟩ (.int .i64 t352))) := ⟨bBl HB.out⟩
     (try clear HO_6)
     (try clear BK342)
     (try clear BK343)
     (try clear BK353)
     (try clear HB)
     generalize ((w30.setCell ⟨gb353, 0, none⟩ (.int .i64 t351)).setCell ⟨gb353, 1, none⟩ (.int .i64 t352)) = w34 at n0_ n1_ n2_ n3_ n4_ ⊢
     have HO_6 := n0_; have BK342 := n1_; have BK343 := n2_; have BK353 := n3_; have HB := n4_; clear n0_ n1_ n2_ n3_ n4_; replace HO_6 := Sd.mk (Kd.R_drew HO_6.out); replace BK342 := Sd.mk (blk_drew BK342.out); replace BK343 := Sd.mk (blk_drew BK343.out); replace BK353 := Sd.mk (blk_drew BK353.out); replace HB := Sd.mk (below_drew1 HB.out)
     refine start_ (n := 21) (S := fun w' => w'.cell? ⟨gb353, 0, none⟩ = some (.int .i64 t351) ∧ w'.cell? ⟨gb353, 1, none⟩ = some (.int .i64 t352)) (ds := []) #[false, false, false, false, false, false, false, false, false, false, false, false, false, false, false, false, false, false, false, false, false] (by kernel_rfl) rfl rfl ⟨(blk_cell BK353.out 0).trans rfl, (blk_cell BK353.out 1).trans rfl⟩ (fun hHeld => ?_); refine with_tabW batch_Redox.tab11 batch_Redox.bits11 (fun HT_ HW_ => ?_)
     generalize w34.drew = w35 at HO_6 BK342 BK343 BK353 HB hHeld ⊢
     refine pure_ (i := 0) (N := some 43) (v := ?_) (a' := ?_) #[true, false, false, false, false, false, false, false, false, false, false, false, false, false, false, false, false, false, false, false, false] rfl rfl (any_of HT_.out (by kernel_rfl)) (fun _ _ _ h => h) (Or.inl ⟨by rfl, ?_⟩) ?_ ?_
     rotate_left
     ·exact tW
     rotate_left
     ·exact tP
     refine pure_ (i := 1) (N := some 44) (v := ?_) (a' := ?_) #[true, true, false, false, false, false, false, false, false, false, false, false, false, false, false, false, false, false, false, false, false] rfl rfl (any_of HT_.out (by kernel_rfl)) (fun _ _ _ h => h) (Or.inl ⟨by rfl, ?_⟩) ?_ ?_
     rotate_left
     ·exact tW
     rotate_left
     ·exact tP
     refine pure_ (i := 4) (N := some 47) (v := ?_) (a' := ?_) #[true, true, false, false, true, false, false, false, false, false, false, false, false, false, false, false, false, false, false, false, false] rfl rfl (any_of HT_.out (by kernel_rfl)) (fun _ _ _ h => h) (Or.inl ⟨by rfl, ?_⟩) ?_ ?_
     rotate_left
     ·exact tW
     rotate_left
     ·exact tP
     refine pure_ (i := 5) (N := some 48) (v := ?_) (a' := ?_) #[true, true, false, false, true, true, false, false, false, false, false, false, false, false, false, false, false, false, false, false, false] rfl rfl (any_of HT_.out (by kernel_rfl)) (fun _ _ _ h => h) (Or.inl ⟨by rfl, ?_⟩) ?_ ?_
     rotate_left
     ·exact tW
     rotate_left
     ·exact tP
     refine pure_ (i := 9) (N := some 52) (v := ?_) (a' := ?_) #[true, true, false, false, true, true, false, false, false, true, false, false, false, false, false, false, false, false, false, false, false] rfl rfl (any_of HT_.out (by kernel_rfl)) (fun _ _ _ h => h) (Or.inl ⟨by rfl, ?_⟩) ?_ ?_
     rotate_left
     ·exact tW
     rotate_left
     ·exact tP
     refine pure_ (i := 10) (N := some 53) (v := ?_) (a' := ?_) #[true, true, false, false, true, true, false, false, false, true, true, false, false, false, false, false, false, false, false, false, false] rfl rfl (any_of HT_.out (by kernel_rfl)) (fun _ _ _ h => h) (Or.inl ⟨by rfl, ?_⟩) ?_ ?_
     rotate_left
     ·exact tW
     rotate_left
     ·exact tP
     refine pure_ (i := 13) (N := some 56) (v := ?_) (a' := ?_) #[true, true, false, false, true, true, false, false, false, true, true, false, false, true, false, false, false, false, false, false, false] rfl rfl (any_of HT_.out (by kernel_rfl)) (fun _ _ _ h => h) (Or.inl ⟨by rfl, ?_⟩) ?_ ?_
     rotate_left
     ·exact tW
     rotate_left
     ·exact tP
     refine pure_ (i := 14) (N := some 57) (v := ?_) (a' := ?_) #[true, true, false, false, true, true, false, false, false, true, true, false, false, true, true, false, false, false, false, false, false] rfl rfl (any_of HT_.out (by kernel_rfl)) (fun _ _ _ h => h) (Or.inl ⟨by rfl, ?_⟩) ?_ ?_
     rotate_left
     ·exact tW
     rotate_left
     ·exact tP
     refine take_ (i := 2) (N := some 45) (v := ?_) (a' := ?_) #[true, true, true, false, true, true, false, false, false, true, true, false, false, true, true, false, false, false, false, false, false] rfl rfl (take_ofW HT_.out HW_.out (by kernel_rfl)) (fun _ _ _ h => h) (Or.inl ⟨by rfl, ?_⟩) hHeld ?_ ?_
     rotate_left
     ·rintro w' ⟨s0, s1⟩
      go_simp
      with_reducible rfl
     rotate_left
     ·exact tP
     refine take_ (i := 6) (N := some 49) (v := ?_) (a' := ?_) #[true, true, true, false, true, true, true, false, false, true, true, false, false, true, true, false, false, false, false, false, false] rfl rfl (take_ofW HT_.out HW_.out (by kernel_rfl)) (fun _ _ _ h => h) (Or.inl ⟨by rfl, ?_⟩) hHeld ?_ ?_
     rotate_left
     ·rintro w' ⟨s0, s1⟩
      go_simp
      with_reducible rfl
     rotate_left
     ·exact tP
     refine take_ (i := 11) (N := some 54) (v := ?_) (a' := ?_) #[true, true, true, false, true, true, true, false, false, true, true, true, false, true, true, false, false, false, false, false, false] rfl rfl (take_ofW HT_.out HW_.out (by kernel_rfl)) (fun _ _ _ h => h) (Or.inl ⟨by rfl, ?_⟩) hHeld ?_ ?_
     rotate_left
     ·rintro w' ⟨s0, s1⟩
      go_simp
      with_reducible rfl
     rotate_left
     ·exact tP
     refine take_ (i := 15) (N := some 58) (v := ?_) (a' := ?_) #[true, true, true, false, true, true, true, false, false, true, true, true, false, true, true, true, false, false, false, false, false] rfl rfl (take_ofW HT_.out HW_.out (by kernel_rfl)) (fun _ _ _ h => h) (Or.inl ⟨by rfl, ?_⟩) hHeld ?_ ?_
     rotate_left
     ·rintro w' ⟨s0, s1⟩
      go_simp
      with_reducible rfl
     rotate_left
     ·exact tP
     refine one_ (i := 3) (N := some 46) #[true, true, true, true, true, true, true, false, false, true, true, true, false, true, true, true, false, false, false, false, false] rfl rfl (one_of HT_.out (by kernel_rfl)) (by decide) (fun K hK => ?_)
     refine goes_ Try.func58 (by kernel_rfl) rfl #[.int .i64 x8_1, .int .i64 t351] (by rfl) rfl rfl tM ?_
     with_reducible refine (batch_down.calls x8_1 t351 t354 _ A22.out).mono ?_
     rintro e w' ⟨rfl, ⟨nd, rfl⟩⟩
     refine ⟨_, rfl, ?_⟩
     refine hK.out _ _ ⟨(blk_cell BK353.out 0).trans rfl, (blk_cell BK353.out 1).trans rfl⟩ (fun hHeld => ?_)
     clear hK K
     refine norm_ (a' := ?_) ?_ ?_
     rotate_left
     ·show Act.put _ (some 46) _ = _
      exact tP
     refine one_ (i := 7) (N := some 50) #[true, true, true, true, true, true, true, true, false, true, true, true, false, true, true, true, false, false, false, false, false] rfl rfl (one_of HT_.out (by kernel_rfl)) (by decide) (fun K hK => ?_)
     refine goes_ Try.func58 (by kernel_rfl) rfl #[.int .i64 x8_1, .int .i64 t352] (by rfl) rfl rfl tM ?_
     with_reducible refine (batch_down.calls x8_1 t352 t355 _ A23.out).mono ?_
     rintro e w' ⟨rfl, ⟨nd, rfl⟩⟩
     refine ⟨_, rfl, ?_⟩
     refine hK.out _ _ ⟨(blk_cell BK353.out 0).trans rfl, (blk_cell BK353.out 1).trans rfl⟩ (fun hHeld => ?_)
     clear hK K
     refine norm_ (a' := ?_) ?_ ?_
     rotate_left
     ·show Act.put _ (some 50) _ = _
      exact tP
     refine pure_ (i := 8) (N := some 51) (v := ?_) (a' := ?_) #[true, true, true, true, true, true, true, true, true, true, true, true, false, true, true, true, false, false, false, false, false] rfl rfl (any_of HT_.out (by kernel_rfl)) (fun _ _ _ h => h) (Or.inl ⟨by rfl, ?_⟩) ?_ ?_
     rotate_left
     ·exact tW
     rotate_left
     ·exact tP
     refine one_ (i := 12) (N := some 55) #[true, true, true, true, true, true, true, true, true, true, true, true, true, true, true, true, false, false, false, false, false] rfl rfl (one_of HT_.out (by kernel_rfl)) (by decide) (fun K hK => ?_)
     refine goes_ Try.func59 (by kernel_rfl) rfl #[.int .i64 x8_1, .int .i64 t351] (by rfl) rfl rfl tM ?_
     with_reducible refine (batch_up.calls x8_1 t351 t356 _ A25.out).mono ?_
     rintro e w' ⟨rfl, ⟨nd, rfl⟩⟩
     refine ⟨_, rfl, ?_⟩
     refine hK.out _ _ ⟨(blk_cell BK353.out 0).trans rfl, (blk_cell BK353.out 1).trans rfl⟩ (fun hHeld => ?_)
     clear hK K
     refine norm_ (a' := ?_) ?_ ?_
     rotate_left
     ·show Act.put _ (some 55) _ = _
      exact tP
     refine one_ (i := 16) (N := some 59) #[true, true, true, true, true, true, true, true, true, true, true, true, true, true, true, true, true, false, false, false, false] rfl rfl (one_of HT_.out (by kernel_rfl)) (by decide) (fun K hK => ?_)
     refine goes_ Try.func59 (by kernel_rfl) rfl #[.int .i64 x8_1, .int .i64 t352] (by rfl) rfl rfl tM ?_
     with_reducible refine (batch_up.calls x8_1 t352 t357 _ A26.out).mono ?_
     rintro e w' ⟨rfl, ⟨nd, rfl⟩⟩
     refine ⟨_, rfl, ?_⟩
     refine hK.out _ _ ⟨(blk_cell BK353.out 0).trans rfl, (blk_cell BK353.out 1).trans rfl⟩ (fun hHeld => ?_)
     clear hK K
     refine norm_ (a' := ?_) ?_ ?_
     rotate_left
     ·show Act.put _ (some 59) _ = _
      exact tP
     refine pure_ (i := 17) (N := some 60) (v := ?_) (a' := ?_) #[true, true, true, true, true, true, true, true, true, true, true, true, true, true, true, true, true, true, false, false, false] rfl rfl (any_of HT_.out (by kernel_rfl)) (fun _ _ _ h => h) (Or.inl ⟨by rfl, ?_⟩) ?_ ?_
     rotate_left
     ·exact tW
     rotate_left
     ·exact tP
     refine pure_ (i := 18) (N := some 61) (v := ?_) (a' := ?_) #[true, true, true, true, true, true, true, true, true, true, true, true, true, true, true, true, true, true, true, false, false] rfl rfl (any_of HT_.out (by kernel_rfl)) (fun _ _ _ h => h) (Or.inl ⟨by rfl, ?_⟩) ?_ ?_
     rotate_left
     ·exact tW
     rotate_left
     ·exact tP
     refine one_ (i := 19) (N := none) #[true, true, true, true, true, true, true, true, true, true, true, true, true, true, true, true, true, true, true, true, false] rfl rfl (one_of HT_.out (by kernel_rfl)) (by decide) (fun K hK => ?_)
     have hs36 : w35.cell? ⟨gb343, 0, none⟩ = some (.int .i64 0) := (blk_cell BK343.out 0).trans rfl
     have hfs36 := blk_frozen BK343.out 0; have hns36_0 := NB342_343.out; have hns36_2 := NB353_343.out; have hms36_0 := NB343_342.out; have hms36_2 := NB343_353.out
     have hs37 : w35.cell? ⟨gb343, 1, none⟩ = some (.int .i64 0) := (blk_cell BK343.out 1).trans rfl
     have hfs37 := blk_frozen BK343.out 1; have hns37_0 := NB342_343.out; have hns37_2 := NB353_343.out; have hms37_0 := NB343_342.out; have hms37_2 := NB343_353.out
     refine skip_ (w1 := ?_) (by rfl) rfl ?_ ?_
     rotate_left
     ·go_simp
      rfl
     refine hK.out _ _ ⟨((cell_far (p := ⟨gb343, _, none⟩) NB353_343.out _).trans (((cell_far (p := ⟨gb343, _, none⟩) NB353_343.out _).trans (hHeld.1)))), ((cell_far (p := ⟨gb343, _, none⟩) NB353_343.out _).trans (((cell_far (p := ⟨gb343, _, none⟩) NB353_343.out _).trans (hHeld.2))))⟩ (fun hHeld => ?_)
     clear hK K
     refine pure_ (i := 20) (N := some 5) (v := ?_) (a' := ?_) #[true, true, true, true, true, true, true, true, true, true, true, true, true, true, true, true, true, true, true, true, true] rfl rfl (any_of HT_.out (by kernel_rfl)) (fun _ _ _ h => h) (Or.inl ⟨by rfl, ?_⟩) ?_ ?_
     rotate_left
     ·exact tW
     rotate_left
     ·exact tP
     refine done_ (done_of HT_.out (by kernel_rfl)) ?_
     try go_wp2
     refine bodyPost_ret (results_ct rfl _ _ gb343 27 #[.int .i64 ji24, .int .i64 ji27] (0, 0) _ rfl (by (with_reducible repeat (first | refine blk_drewN ?_ _ | refine blk_drew ?_ | refine blk_alloc ?_ _)); refine blk_put (cs := #[.int .i64 ji24, .int .i64 0]) ?_ 1 _ rfl; (with_reducible repeat (first | refine blk_drewN ?_ _ | refine blk_drew ?_ | refine blk_alloc ?_ _)); refine blk_put (cs := #[.int .i64 0, .int .i64 0]) ?_ 0 _ rfl; (with_reducible repeat (first | refine blk_drewN ?_ _ | refine blk_drew ?_ | refine blk_alloc ?_ _)); exact BK343.out) Try.underlying27 rfl (by kernel_rfl)) rfl ?_
     exact ⟨by first | rfl | (simp [errW_none, errW_some] <;> rfl) | (simp only [← hji24, ← hji27]; first | rfl | (simp [errW_none, errW_some] <;> rfl)) | (simp [*, errW_none, errW_some] <;> rfl), bBl HB.out⟩
 ·rw [if_neg c4] at H
  have c4b0 : (t347 == 0) = false := beq_eq_false_iff_ne.mpr c4
  have c4b1 : (t347 != 0) = true := bne_iff_ne.mpr c4
  simp only [Option.some.injEq, Prod.mk.injEq] at H
  obtain ⟨rfl, rfl, rfl⟩ := H
  go_enter Try.func22, Try.ntmps22
  go_wp2_with (first | ((with_reducible refine gate_dst (N := 2) rfl ?_); refine box_event ?hg (N := 2) ?hd (cs := #[.slice A0_0 l0_0.length c0_0, .slice A0_1 l0_1.length c0_1, .slice A0_2 l0_2.length c0_2, .slice A0_3 l0_3.length c0_3, .int .i64 a0_4, .int .i64 a0_5, .int .i64 a0_6]) (t := 29) ?hr ?_; (case hd => rfl); (case hg => rfl); (case hr => exact tG); intro gb342 hg w38 hbox hb; have BK342 := Sd.mk (hbox); have GW342 := Sd.mk (bSz hg (bBl HB.out)); have GE342 := Sd.mk (bSz hg (bBl HB.out)); replace HB := Sd.mk (below_step (bBl HB.out) hb); clear hb hbox hg) | ((with_reducible refine gate_dst (N := 4) rfl ?_); refine box_event ?hg (N := 4) ?hd (cs := #[.int .i64 0, .int .i64 0]) (t := 27) ?hr ?_; (case hd => rfl); (case hg => rfl); (case hr => exact tG); intro gb343 hg w39 hbox hb; have BK343 := Sd.mk (hbox); have GW343 := Sd.mk (bSz hg (bBl HB.out)); have GE343 := Sd.mk (bSz hg (bBl HB.out)); replace HB := Sd.mk (below_step (bBl HB.out) hb); have NB342_343 := Sd.mk (bNl hg (bkA BK342.out)); have NB343_342 := Sd.mk (bNg hg (bkA BK342.out)); replace BK342 := Sd.mk (blk_below (bkA BK342.out) hb); clear hb hbox hg; have hnb40 := NB342_343.out; have hnc40 := NB343_342.out; obtain ⟨u41_0, u41_1, u41_2, u41_3, u41_4, u41_5, u41_6, o41_0, o41_1, o41_2, o41_3, o41_4, o41_5, o41_6⟩ := bc7 (w := w39) BK342.out) | ((with_reducible refine gate_callee (f := 49) rfl ?_); refine goesL_ (some 15) rfl rfl Try.func49 (by kernel_rfl) rfl #[.agg #[.slice A0_0 l0_0.length c0_0, .slice A0_1 l0_1.length c0_1, .slice A0_2 l0_2.length c0_2, .slice A0_3 l0_3.length c0_3, .int .i64 a0_4, .int .i64 a0_5, .int .i64 a0_6], .slice A1 l1.length c1] rfl tM ?_; (with_reducible refine (x_glass.calls k _ _ l0_0 _ _ l0_1 _ _ l0_2 _ _ l0_3 a0_4 a0_5 a0_6 _ _ l1 t344 t347 _ (cS (Kd.C_below HR0_0.out HB.out)) HC0_0.out (cS (Kd.C_below HR0_1.out HB.out)) HC0_1.out (cS (Kd.C_below HR0_2.out HB.out)) HC0_2.out (cS (Kd.C_below HR0_3.out HB.out)) HC0_3.out (cS (Kd.C_below HR1.out HB.out)) HC1.out A3.out).mono ?_); rintro e w42 ⟨v345, rfl, ho0, hb⟩; refine ⟨_, rfl, ?_⟩; have HO346 := Sd.mk (Kd.R_lower (Kd.R_newB ho0 (bkA BK343.out)) (below_size (bBl HB.out))); replace BK342 := Sd.mk (blk_below (bkA BK342.out) hb); replace BK343 := Sd.mk (blk_below (bkA BK343.out) hb); replace HB := Sd.mk (below_step (bBl HB.out) hb); (try clear hb); (try clear hb2); (try clear hk); (try clear hi); (try clear ho0); obtain ⟨u43_0, u43_1, o43_0, o43_1⟩ := bc2 (w := w42) BK343.out))
  refine bodyPost_ret (results_ct rfl _ _ gb343 27 #[.int .i64 0, .int .i64 0] (0, 0) _ rfl (by (with_reducible repeat (first | refine blk_drewN ?_ _ | refine blk_drew ?_ | refine blk_alloc ?_ _)); refine blk_put (cs := #[.int .i64 0, .int .i64 0]) ?_ 1 _ rfl; (with_reducible repeat (first | refine blk_drewN ?_ _ | refine blk_drew ?_ | refine blk_alloc ?_ _)); refine blk_put (cs := #[.int .i64 0, .int .i64 0]) ?_ 0 _ rfl; (with_reducible repeat (first | refine blk_drewN ?_ _ | refine blk_drew ?_ | refine blk_alloc ?_ _)); exact BK343.out) Try.underlying27 rfl (by kernel_rfl)) rfl ?_
  exact ⟨tE, bBl HB.out⟩
end Go.Proofs.Ytkjkokgbhepmoaa.PB

namespace Go.Proofs.Ytkjkokgbhepmoaa.PB
open Go.RowKit Go.Proofs.YtkjkokgbhepmoaaW.PrintWords Go.Proofs.YtkjkokgbhepmoaaW.PrintLast Go.Proofs.YtkjkokgbhepmoaaW.PrintMore
attribute [local go_sem] max2_int min2_int max_two min_two max_three min_three max_four min_four
def rf_floor.f (a0 : Int) (a1 : Int) : Option (Int) := if a1 = 0 then (none) else (if (wrap64 ((wrap64 (Int.tdiv a0 a1)) * a1)) > a0 then (some (wrap64 ((wrap64 (Int.tdiv a0 a1)) - 1))) else (some (wrap64 (Int.tdiv a0 a1))))
set_option maxHeartbeats 8000000 in
set_option maxRecDepth 100000 in
theorem rf_floor.calls (a0 : Int) (a1 : Int) (r : Int) (w : World) (h : rf_floor.f a0 a1 = some r) :
  Calls Try.prog 61 #[.int .i64 a0, .int .i64 a1] w fun e w' => e = .returned (.int .i64 r) ∧ Drawn0 w w' := by
 have H : (if a1 = 0 then (none) else (if (wrap64 ((wrap64 (Int.tdiv a0 a1)) * a1)) > a0 then (some (wrap64 ((wrap64 (Int.tdiv a0 a1)) - 1))) else (some (wrap64 (Int.tdiv a0 a1))))) = some r := h
 clear h
 by_cases c3 : a1 = 0
 ·rw [if_pos c3] at H
  exact absurd H (by simp)
 ·rw [if_neg c3] at H
  have c3b0 : (a1 == 0) = false := beq_eq_false_iff_ne.mpr c3
  have c3b1 : (a1 != 0) = true := bne_iff_ne.mpr c3
  by_cases c4 : (wrap64 ((wrap64 (Int.tdiv a0 a1)) * a1)) > a0
  ·rw [if_pos c4] at H
   have c4b0 : decide (a0 < (wrap64 ((wrap64 (Int.tdiv a0 a1)) * a1))) = true := decide_eq_true c4
   clear c4; obtain rfl := Option.some.inj H
   go_enter Try.func61, Try.ntmps61
   go_wp2
   go_ret
   exact ⟨by first | rfl | (simp; done) | (simp [*]; done), by repeat (first | exact Drawn0.refl _ | apply Drawn0.step)⟩
  ·rw [if_neg c4] at H
   have c4b0 : decide (a0 < (wrap64 ((wrap64 (Int.tdiv a0 a1)) * a1))) = false := decide_eq_false c4
   clear c4; obtain rfl := Option.some.inj H
   go_enter Try.func61, Try.ntmps61
   go_wp2
   go_ret
   exact ⟨by first | rfl | (simp; done) | (simp [*]; done), by repeat (first | exact Drawn0.refl _ | apply Drawn0.step)⟩
def rf_ceiling.f (a0 : Int) (a1 : Int) : Option (Int) := (rf_floor.f (wrap64 (-a0)) a1).bind fun t358 => (some (wrap64 (-t358)))
set_option maxHeartbeats 8000000 in
set_option maxRecDepth 100000 in
theorem rf_ceiling.calls (a0 : Int) (a1 : Int) (r : Int) (w : World) (h : rf_ceiling.f a0 a1 = some r) :
  Calls Try.prog 62 #[.int .i64 a0, .int .i64 a1] w fun e w' => e = .returned (.int .i64 r) ∧ Drawn0 w w' := by
 have H : ((rf_floor.f (wrap64 (-a0)) a1).bind fun t358 => (some (wrap64 (-t358)))) = some r := h
 clear h; replace H := Option.bind_eq_some_iff.mp H; obtain ⟨t358, A30, H⟩ := H
 try dsimp only at H
 have A3 := Sd.mk A30; clear A30; obtain rfl := Option.some.inj H
 go_enter Try.func62, Try.ntmps62
 go_wp2_with (first | ((with_reducible refine gate_callee (f := 61) rfl ?_); refine goesL_ (some 8) rfl rfl Try.func61 (by kernel_rfl) rfl #[.int .i64 (wrap64 (-a0)), .int .i64 a1] rfl tM ?_; (with_reducible refine (rf_floor.calls (wrap64 (-a0)) a1 t358 _ A3.out).mono ?_); rintro e w' ⟨rfl, ⟨nd, rfl⟩⟩; refine ⟨_, rfl, ?_⟩))
 go_ret
 exact ⟨by first | rfl | (simp; done) | (simp [*]; done), by repeat (first | exact Drawn0.refl _ | apply Drawn0.step)⟩
def rf_Redox.l0 : Nat → List Int → Int → Int → Int → Int → List ByteArray → List (S63) → List (S27) → List (S65) → Int → Int → Int → Option (Int × Int × Int)
 | 0, _, _, _, _, _, _, _, _, _, _, _, _ => none
 | k + 1, x1, x9, x10, x11, x12, x360q0, x360q1, x360q2, x360q3, x360q4, x360q5, x360q6 => if x12 < (x1.length : Int) then (if 0 ≤ x12 then (if x12 < (x360q1.length : Int) then (rf_Redox.l0 k x1 x9 x10 (wrap64 (x11 + (wrap64 ((rd x1 x12) * ((rd_T63 x360q1 x12).f2))))) (wrap64 (x12 + 1)) x360q0 x360q1 x360q2 x360q3 x360q4 x360q5 x360q6) else (none)) else (none)) else ((rf_floor.f (wrap64 (1000000 * x11)) x9).bind fun t370 => ((rf_floor.f (wrap64 (1000000 * x11)) x10).bind fun t371 => ((rf_ceiling.f (wrap64 (1000000 * x11)) x9).bind fun t372 => ((rf_ceiling.f (wrap64 (1000000 * x11)) x10).bind fun t373 => (some (mn t370 t371, mx t372 t373, 0))))))
def rf_Redox.f (k : Nat) (l0_0 : List ByteArray) (l0_1 : List (S63)) (l0_2 : List (S27)) (l0_3 : List (S65)) (a0_4 : Int) (a0_5 : Int) (a0_6 : Int) (l1 : List Int) : Option (Int × Int × Int) := (rf_asked.f k l0_0 l0_1 l0_2 l0_3 a0_4 a0_5 a0_6 l1).bind fun t361 => (if t361 = 0 then ((rf_weighed.f k l0_0 l0_1 l0_2 l0_3 a0_4 a0_5 a0_6 l1).bind fun bt362 => (if bt362.2 = 0 then ((rf_sums.f k bt362.1).bind fun bt366 => (rf_Redox.l0 k l1 bt366.1 bt366.2 0 0 l0_0 l0_1 l0_2 l0_3 a0_4 a0_5 a0_6)) else (some (0, 0, bt362.2)))) else (some (0, 0, t361)))
theorem rf_Redox.mono_l : ∀ k, (∀ y0 y1 y2 y3 y4 y5 y6 y7 y8 y9 y10 y11, LeO (rf_Redox.l0 k y0 y1 y2 y3 y4 y5 y6 y7 y8 y9 y10 y11) (rf_Redox.l0 (k + 1) y0 y1 y2 y3 y4 y5 y6 y7 y8 y9 y10 y11))
 | 0 => fun _ _ _ _ _ _ _ _ _ _ _ _ r h => by simp [rf_Redox.l0] at h
 | k + 1 => by
  have ih0 := rf_Redox.mono_l k
  ·intro y0 y1 y2 y3 y4 y5 y6 y7 y8 y9 y10 y11
   unfold rf_Redox.l0
   repeat' first
   | (with_reducible exact ih0 _ _ _ _ _ _ _ _ _ _ _ _)
   | (with_reducible exact rf_asked.mono _ _ _ _ _ _ _ _ _)
   | (with_reducible exact rf_sums.mono _ _)
   | (with_reducible exact rf_weighed.mono _ _ _ _ _ _ _ _ _)
   | (with_reducible exact LeO.refl _)
   | (with_reducible exact LeO.none _)
   | (with_reducible refine LeO.ite ?_ ?_)
   | (with_reducible refine LeO.bind ?_ (fun _ => ?_))
   | exact LeO.none _
   | refine LeO.ite ?_ ?_
   | refine LeO.bind ?_ (fun _ => ?_)
theorem rf_Redox.mono : ∀ a0 a1 a2 a3 a4 a5 a6 a7 k, LeO (rf_Redox.f k a0 a1 a2 a3 a4 a5 a6 a7) (rf_Redox.f (k + 1) a0 a1 a2 a3 a4 a5 a6 a7) := by
 intro a0 a1 a2 a3 a4 a5 a6 a7 k
 have ih0 := rf_Redox.mono_l k
 unfold rf_Redox.f
 repeat' first
   | (with_reducible exact ih0 _ _ _ _ _ _ _ _ _ _ _ _)
   | (with_reducible exact rf_asked.mono _ _ _ _ _ _ _ _ _)
   | (with_reducible exact rf_sums.mono _ _)
   | (with_reducible exact rf_weighed.mono _ _ _ _ _ _ _ _ _)
   | (with_reducible exact LeO.refl _)
   | (with_reducible exact LeO.none _)
   | (with_reducible refine LeO.ite ?_ ?_)
   | (with_reducible refine LeO.bind ?_ (fun _ => ?_))
   | exact LeO.none _
   | refine LeO.ite ?_ ?_
   | refine LeO.bind ?_ (fun _ => ?_)
set_option maxHeartbeats 8000000 in
set_option maxRecDepth 100000 in
theorem rf_Redox.calls (k : Nat) (A0_0 : Option Addr) (c0_0 : Nat) (l0_0 : List ByteArray) (A0_1 : Option Addr) (c0_1 : Nat) (l0_1 : List (S63)) (A0_2 : Option Addr) (c0_2 : Nat) (l0_2 : List (S27)) (A0_3 : Option Addr) (c0_3 : Nat) (l0_3 : List (S65)) (a0_4 : Int) (a0_5 : Int) (a0_6 : Int) (A1 : Option Addr) (c1 : Nat) (l1 : List Int) (r1 : Int) (r2 : Int) (r3 : Int) (w : World) (hr0_0 : Kd.C Kd.string w A0_0 l0_0.length l0_0) (hc0_0 : l0_0.length ≤ c0_0) (hr0_1 : Kd.C k63 w A0_1 l0_1.length l0_1) (hc0_1 : l0_1.length ≤ c0_1) (hr0_2 : Kd.C k27 w A0_2 l0_2.length l0_2) (hc0_2 : l0_2.length ≤ c0_2) (hr0_3 : Kd.C k65 w A0_3 l0_3.length l0_3) (hc0_3 : l0_3.length ≤ c0_3) (hr1 : Kd.C (Kd.int .i64) w A1 l1.length l1) (hc1 : l1.length ≤ c1) (h : rf_Redox.f k l0_0 l0_1 l0_2 l0_3 a0_4 a0_5 a0_6 l1 = some (r1, r2, r3)) :
  Calls Try.prog 23 #[.agg #[.slice A0_0 l0_0.length c0_0, .slice A0_1 l0_1.length c0_1, .slice A0_2 l0_2.length c0_2, .slice A0_3 l0_3.length c0_3, .int .i64 a0_4, .int .i64 a0_5, .int .i64 a0_6], .slice A1 l1.length c1] w fun e w' => e = .returned (.tuple #[.agg #[.int .i64 r1, .int .i64 r2], .int .i64 r3]) ∧ Below w.heap.size w w' := by
 have hu29 := Try.underlying29; have hu27 := Try.underlying27; have HR0_0 := Sd.mk hr0_0; have HC0_0 := Sd.mk hc0_0; clear hr0_0 hc0_0; have HR0_1 := Sd.mk hr0_1; have HC0_1 := Sd.mk hc0_1; clear hr0_1 hc0_1; have HR0_2 := Sd.mk hr0_2; have HC0_2 := Sd.mk hc0_2; clear hr0_2 hc0_2; have HR0_3 := Sd.mk hr0_3; have HC0_3 := Sd.mk hc0_3; clear hr0_3 hc0_3; have HR1 := Sd.mk hr1; have HC1 := Sd.mk hc1; clear hr1 hc1; have HB := Sd.mk (Below.refl w.heap.size w)
 have H : ((rf_asked.f k l0_0 l0_1 l0_2 l0_3 a0_4 a0_5 a0_6 l1).bind fun t361 => (if t361 = 0 then ((rf_weighed.f k l0_0 l0_1 l0_2 l0_3 a0_4 a0_5 a0_6 l1).bind fun bt362 => (if bt362.2 = 0 then ((rf_sums.f k bt362.1).bind fun bt366 => (rf_Redox.l0 k l1 bt366.1 bt366.2 0 0 l0_0 l0_1 l0_2 l0_3 a0_4 a0_5 a0_6)) else (some (0, 0, bt362.2)))) else (some (0, 0, t361)))) = some (r1, r2, r3) := h
 clear h; replace H := Option.bind_eq_some_iff.mp H; obtain ⟨t361, A30, H⟩ := H
 try dsimp only at H
 have A3 := Sd.mk A30; clear A30
 by_cases c4 : t361 = 0
 ·rw [if_pos c4] at H
  have c4b0 : (t361 == 0) = true := beq_iff_eq.mpr c4
  have c4b1 : (t361 != 0) = false := bne_eq_false_iff_eq.mpr c4
  clear c4; replace H := Option.bind_eq_some_iff.mp H
  obtain ⟨⟨t362, t365⟩, A50, H⟩ := H
  try dsimp only at H
  have A5 := Sd.mk A50; clear A50
  by_cases c6 : t365 = 0
  ·rw [if_pos c6] at H
   have c6b0 : (t365 == 0) = true := beq_iff_eq.mpr c6
   have c6b1 : (t365 != 0) = false := bne_eq_false_iff_eq.mpr c6
   clear c6; replace H := Option.bind_eq_some_iff.mp H
   obtain ⟨⟨t366, t367⟩, A70, H⟩ := H
   try dsimp only at H
   have A7 := Sd.mk A70; clear A70; have H' := Sd.mk H; clear H
   go_enter Try.func23, Try.ntmps23
   go_wp2_with (first | ((with_reducible refine gate_dst (N := 2) rfl ?_); refine box_event ?hg (N := 2) ?hd (cs := #[.slice A0_0 l0_0.length c0_0, .slice A0_1 l0_1.length c0_1, .slice A0_2 l0_2.length c0_2, .slice A0_3 l0_3.length c0_3, .int .i64 a0_4, .int .i64 a0_5, .int .i64 a0_6]) (t := 29) ?hr ?_; (case hd => rfl); (case hg => rfl); (case hr => exact tG); intro gb359 hg w8 hbox hb; have BK359 := Sd.mk (hbox); have GW359 := Sd.mk (bSz hg (bBl HB.out)); have GE359 := Sd.mk (bSz hg (bBl HB.out)); replace HB := Sd.mk (below_step (bBl HB.out) hb); clear hb hbox hg) | ((with_reducible refine gate_dst (N := 4) rfl ?_); refine box_event ?hg (N := 4) ?hd (cs := #[.int .i64 0, .int .i64 0]) (t := 27) ?hr ?_; (case hd => rfl); (case hg => rfl); (case hr => exact tG); intro gb360 hg w9 hbox hb; have BK360 := Sd.mk (hbox); have GW360 := Sd.mk (bSz hg (bBl HB.out)); have GE360 := Sd.mk (bSz hg (bBl HB.out)); replace HB := Sd.mk (below_step (bBl HB.out) hb); have NB359_360 := Sd.mk (bNl hg (bkA BK359.out)); have NB360_359 := Sd.mk (bNg hg (bkA BK359.out)); replace BK359 := Sd.mk (blk_below (bkA BK359.out) hb); clear hb hbox hg; have hnb10 := NB359_360.out; have hnc10 := NB360_359.out; obtain ⟨u11_0, u11_1, u11_2, u11_3, u11_4, u11_5, u11_6, o11_0, o11_1, o11_2, o11_3, o11_4, o11_5, o11_6⟩ := bc7 (w := w9) BK359.out) | (go_at_call 48; (with_reducible refine (rf_asked.calls k _ _ l0_0 _ _ l0_1 _ _ l0_2 _ _ l0_3 a0_4 a0_5 a0_6 _ _ l1 t361 _ (cS (Kd.C_below HR0_0.out HB.out)) HC0_0.out (cS (Kd.C_below HR0_1.out HB.out)) HC0_1.out (cS (Kd.C_below HR0_2.out HB.out)) HC0_2.out (cS (Kd.C_below HR0_3.out HB.out)) HC0_3.out (cS (Kd.C_below HR1.out HB.out)) HC1.out A3.out).mono ?_); rintro e w12 ⟨rfl, hb⟩; replace BK359 := Sd.mk (blk_below (bkA BK359.out) hb); replace BK360 := Sd.mk (blk_below (bkA BK360.out) hb); replace HB := Sd.mk (below_step (bBl HB.out) hb); (try clear hb); (try clear hb2); (try clear hk); (try clear hi); obtain ⟨u13_0, u13_1, u13_2, u13_3, u13_4, u13_5, u13_6, o13_0, o13_1, o13_2, o13_3, o13_4, o13_5, o13_6⟩ := bc7 (w := w12) BK359.out) | (go_at_call 52; (with_reducible refine (rf_weighed.calls k _ _ l0_0 _ _ l0_1 _ _ l0_2 _ _ l0_3 a0_4 a0_5 a0_6 _ _ l1 t362 t365 _ (cS (Kd.C_below HR0_0.out HB.out)) HC0_0.out (cS (Kd.C_below HR0_1.out HB.out)) HC0_1.out (cS (Kd.C_below HR0_2.out HB.out)) HC0_2.out (cS (Kd.C_below HR0_3.out HB.out)) HC0_3.out (cS (Kd.C_below HR1.out HB.out)) HC1.out A5.out).mono ?_); rintro e w14 ⟨v363, rfl, ho0, hb⟩; have HO364 := Sd.mk (Kd.R_lower (Kd.R_newB ho0 (bkA BK360.out)) (below_size (bBl HB.out))); replace BK359 := Sd.mk (blk_below (bkA BK359.out) hb); replace BK360 := Sd.mk (blk_below (bkA BK360.out) hb); replace HB := Sd.mk (below_step (bBl HB.out) hb); (try clear hb); (try clear hb2); (try clear hk); (try clear hi); (try clear ho0); obtain ⟨Ao15, co15, eo15⟩ := Kd.R_slice HO364.out; subst eo15) | (go_at_call 60; (with_reducible refine (rf_sums.calls k _ _ t362 t366 t367 _ (cS ((Kd.R_reads' HO364.out).2.2)) ((Kd.R_reads' HO364.out).2.1) A7.out).mono ?_); rintro e w' ⟨rfl, ⟨nd, rfl⟩⟩; (try exact tD)))
   repeat (go_quiet (first | ((with_reducible refine gate_dst (N := 2) rfl ?_); refine box_event ?hg (N := 2) ?hd (cs := #[.slice A0_0 l0_0.length c0_0, .slice A0_1 l0_1.length c0_1, .slice A0_2 l0_2.length c0_2, .slice A0_3 l0_3.length c0_3, .int .i64 a0_4, .int .i64 a0_5, .int .i64 a0_6]) (t := 29) ?hr ?_; (case hd => rfl); (case hg => rfl); (case hr => exact tG); intro gb359 hg w8 hbox hb; have BK359 := Sd.mk (hbox); have GW359 := Sd.mk (bSz hg (bBl HB.out)); have GE359 := Sd.mk (bSz hg (bBl HB.out)); replace HB := Sd.mk (below_step (bBl HB.out) hb); clear hb hbox hg) | ((with_reducible refine gate_dst (N := 4) rfl ?_); refine box_event ?hg (N := 4) ?hd (cs := #[.int .i64 0, .int .i64 0]) (t := 27) ?hr ?_; (case hd => rfl); (case hg => rfl); (case hr => exact tG); intro gb360 hg w9 hbox hb; have BK360 := Sd.mk (hbox); have GW360 := Sd.mk (bSz hg (bBl HB.out)); have GE360 := Sd.mk (bSz hg (bBl HB.out)); replace HB := Sd.mk (below_step (bBl HB.out) hb); have NB359_360 := Sd.mk (bNl hg (bkA BK359.out)); have NB360_359 := Sd.mk (bNg hg (bkA BK359.out)); replace BK359 := Sd.mk (blk_below (bkA BK359.out) hb); clear hb hbox hg; have hnb10 := NB359_360.out; have hnc10 := NB360_359.out; obtain ⟨u11_0, u11_1, u11_2, u11_3, u11_4, u11_5, u11_6, o11_0, o11_1, o11_2, o11_3, o11_4, o11_5, o11_6⟩ := bc7 (w := w9) BK359.out) | (go_at_call 48; (with_reducible refine (rf_asked.calls k _ _ l0_0 _ _ l0_1 _ _ l0_2 _ _ l0_3 a0_4 a0_5 a0_6 _ _ l1 t361 _ (cS (Kd.C_below HR0_0.out HB.out)) HC0_0.out (cS (Kd.C_below HR0_1.out HB.out)) HC0_1.out (cS (Kd.C_below HR0_2.out HB.out)) HC0_2.out (cS (Kd.C_below HR0_3.out HB.out)) HC0_3.out (cS (Kd.C_below HR1.out HB.out)) HC1.out A3.out).mono ?_); rintro e w12 ⟨rfl, hb⟩; replace BK359 := Sd.mk (blk_below (bkA BK359.out) hb); replace BK360 := Sd.mk (blk_below (bkA BK360.out) hb); replace HB := Sd.mk (below_step (bBl HB.out) hb); (try clear hb); (try clear hb2); (try clear hk); (try clear hi); obtain ⟨u13_0, u13_1, u13_2, u13_3, u13_4, u13_5, u13_6, o13_0, o13_1, o13_2, o13_3, o13_4, o13_5, o13_6⟩ := bc7 (w := w12) BK359.out) | (go_at_call 52; (with_reducible refine (rf_weighed.calls k _ _ l0_0 _ _ l0_1 _ _ l0_2 _ _ l0_3 a0_4 a0_5 a0_6 _ _ l1 t362 t365 _ (cS (Kd.C_below HR0_0.out HB.out)) HC0_0.out (cS (Kd.C_below HR0_1.out HB.out)) HC0_1.out (cS (Kd.C_below HR0_2.out HB.out)) HC0_2.out (cS (Kd.C_below HR0_3.out HB.out)) HC0_3.out (cS (Kd.C_below HR1.out HB.out)) HC1.out A5.out).mono ?_); rintro e w14 ⟨v363, rfl, ho0, hb⟩; have HO364 := Sd.mk (Kd.R_lower (Kd.R_newB ho0 (bkA BK360.out)) (below_size (bBl HB.out))); replace BK359 := Sd.mk (blk_below (bkA BK359.out) hb); replace BK360 := Sd.mk (blk_below (bkA BK360.out) hb); replace HB := Sd.mk (below_step (bBl HB.out) hb); (try clear hb); (try clear hb2); (try clear hk); (try clear hi); (try clear ho0); obtain ⟨Ao15, co15, eo15⟩ := Kd.R_slice HO364.out; subst eo15) | (go_at_call 60; (with_reducible refine (rf_sums.calls k _ _ t362 t366 t367 _ (cS ((Kd.R_reads' HO364.out).2.2)) ((Kd.R_reads' HO364.out).2.1) A7.out).mono ?_); rintro e w' ⟨rfl, ⟨nd, rfl⟩⟩; (try exact tD))); try go_wp2_with (first | ((with_reducible refine gate_dst (N := 2) rfl ?_); refine box_event ?hg (N := 2) ?hd (cs := #[.slice A0_0 l0_0.length c0_0, .slice A0_1 l0_1.length c0_1, .slice A0_2 l0_2.length c0_2, .slice A0_3 l0_3.length c0_3, .int .i64 a0_4, .int .i64 a0_5, .int .i64 a0_6]) (t := 29) ?hr ?_; (case hd => rfl); (case hg => rfl); (case hr => exact tG); intro gb359 hg w8 hbox hb; have BK359 := Sd.mk (hbox); have GW359 := Sd.mk (bSz hg (bBl HB.out)); have GE359 := Sd.mk (bSz hg (bBl HB.out)); replace HB := Sd.mk (below_step (bBl HB.out) hb); clear hb hbox hg) | ((with_reducible refine gate_dst (N := 4) rfl ?_); refine box_event ?hg (N := 4) ?hd (cs := #[.int .i64 0, .int .i64 0]) (t := 27) ?hr ?_; (case hd => rfl); (case hg => rfl); (case hr => exact tG); intro gb360 hg w9 hbox hb; have BK360 := Sd.mk (hbox); have GW360 := Sd.mk (bSz hg (bBl HB.out)); have GE360 := Sd.mk (bSz hg (bBl HB.out)); replace HB := Sd.mk (below_step (bBl HB.out) hb); have NB359_360 := Sd.mk (bNl hg (bkA BK359.out)); have NB360_359 := Sd.mk (bNg hg (bkA BK359.out)); replace BK359 := Sd.mk (blk_below (bkA BK359.out) hb); clear hb hbox hg; have hnb10 := NB359_360.out; have hnc10 := NB360_359.out; obtain ⟨u11_0, u11_1, u11_2, u11_3, u11_4, u11_5, u11_6, o11_0, o11_1, o11_2, o11_3, o11_4, o11_5, o11_6⟩ := bc7 (w := w9) BK359.out) | (go_at_call 48; (with_reducible refine (rf_asked.calls k _ _ l0_0 _ _ l0_1 _ _ l0_2 _ _ l0_3 a0_4 a0_5 a0_6 _ _ l1 t361 _ (cS (Kd.C_below HR0_0.out HB.out)) HC0_0.out (cS (Kd.C_below HR0_1.out HB.out)) HC0_1.out (cS (Kd.C_below HR0_2.out HB.out)) HC0_2.out (cS (Kd.C_below HR0_3.out HB.out)) HC0_3.out (cS (Kd.C_below HR1.out HB.out)) HC1.out A3.out).mono ?_); rintro e w12 ⟨rfl, hb⟩; replace BK359 := Sd.mk (blk_below (bkA BK359.out) hb); replace BK360 := Sd.mk (blk_below (bkA BK360.out) hb); replace HB := Sd.mk (below_step (bBl HB.out) hb); (try clear hb); (try clear hb2); (try clear hk); (try clear hi); obtain ⟨u13_0, u13_1, u13_2, u13_3, u13_4, u13_5, u13_6, o13_0, o13_1, o13_2, o13_3, o13_4, o13_5, o13_6⟩ := bc7 (w := w12) BK359.out) | (go_at_call 52; (with_reducible refine (rf_weighed.calls k _ _ l0_0 _ _ l0_1 _ _ l0_2 _ _ l0_3 a0_4 a0_5 a0_6 _ _ l1 t362 t365 _ (cS (Kd.C_below HR0_0.out HB.out)) HC0_0.out (cS (Kd.C_below HR0_1.out HB.out)) HC0_1.out (cS (Kd.C_below HR0_2.out HB.out)) HC0_2.out (cS (Kd.C_below HR0_3.out HB.out)) HC0_3.out (cS (Kd.C_below HR1.out HB.out)) HC1.out A5.out).mono ?_); rintro e w14 ⟨v363, rfl, ho0, hb⟩; have HO364 := Sd.mk (Kd.R_lower (Kd.R_newB ho0 (bkA BK360.out)) (below_size (bBl HB.out))); replace BK359 := Sd.mk (blk_below (bkA BK359.out) hb); replace BK360 := Sd.mk (blk_below (bkA BK360.out) hb); replace HB := Sd.mk (below_step (bBl HB.out) hb); (try clear hb); (try clear hb2); (try clear hk); (try clear hi); (try clear ho0); obtain ⟨Ao15, co15, eo15⟩ := Kd.R_slice HO364.out; subst eo15) | (go_at_call 60; (with_reducible refine (rf_sums.calls k _ _ t362 t366 t367 _ (cS ((Kd.R_reads' HO364.out).2.2)) ((Kd.R_reads' HO364.out).2.1) A7.out).mono ?_); rintro e w' ⟨rfl, ⟨nd, rfl⟩⟩; (try exact tD))))
   go_loopg [11, 12] k (fun kq v11 v12 w' => ∃ (x11_1 : Int) (x12_1 : Int), v11 = .int .i64 x11_1 ∧ v12 = .int .i64 x12_1 ∧ Sd (rf_Redox.l0 kq l1 t366 t367 x11_1 x12_1 l0_0 l0_1 l0_2 l0_3 a0_4 a0_5 a0_6 = some (r1, r2, r3)) ∧ Sd (kq ≤ k) ∧ Sd (w'.heap[gb359]? = some (.cells #[(.slice A0_0 l0_0.length c0_0), (.slice A0_1 l0_1.length c0_1), (.slice A0_2 l0_2.length c0_2), (.slice A0_3 l0_3.length c0_3), .int .i64 a0_4, .int .i64 a0_5, .int .i64 a0_6] 29 (0, 0))) ∧ Sd (w'.heap[gb360]? = some (.cells #[.int .i64 0, .int .i64 0] 27 (0, 0))) ∧ Sd (Below w.heap.size w w'))
   case atStart => exact ⟨(0), (0), tS, tS, H', ⟨Nat.le_refl _⟩, ⟨bkA BK359.out⟩, ⟨bkA BK360.out⟩, ⟨bBl HB.out⟩⟩
   case round =>
    clear H'; (try clear c1); (try clear c2); (try clear p2); (try clear c4); (try clear c4b0); (try clear c4b1); (try clear c6); (try clear c6b0); (try clear c6b1); (try clear c10); (try clear u11_0 u11_1 u11_2 u11_3 u11_4 u11_5 u11_6); (try clear u13_0 u13_1 u13_2 u13_3 u13_4 u13_5 u13_6); (try clear o11_0 o11_1 o11_2 o11_3 o11_4 o11_5 o11_6); (try clear o13_0 o13_1 o13_2 o13_3 o13_4 o13_5 o13_6); obtain ⟨x11_1, x12_1, rfl, rfl, HA, HK1, BK359, BK360, HB⟩ := hrel
    cases gk with
    | zero => exact absurd HA.out (by simp [rf_Redox.l0])
    | succ k1 =>
     have H := HA.out; clear HA
     simp only [rf_Redox.l0] at H
     by_cases c16 : x12_1 < (l1.length : Int)
     ·rw [if_pos c16] at H
      have c16b0 : decide (x12_1 < (l1.length : Int)) = true := decide_eq_true c16
      clear c16
      by_cases c17 : 0 ≤ x12_1
      ·rw [if_pos c17] at H
       have c17b0 : decide (0 ≤ x12_1) = true := decide_eq_true c17
       clear c17
       by_cases c18 : x12_1 < (l0_1.length : Int)
       ·rw [if_pos c18] at H
        have c18b0 : decide (x12_1 < (l0_1.length : Int)) = true := decide_eq_true c18
        clear c18; have H' := Sd.mk H; clear H
        have p368 : 0 ≤ (x12_1 : Int) := tB
        have q368 : x12_1 < (l1.length : Int) := tB
        obtain ⟨ad368, e368, hx368_0⟩ := Kd.at_int HR1.out x12_1 p368 q368; cases e368; replace hx368_0 := cU HB hx368_0; replace p368 := eq_true p368; replace q368 := eq_true q368; have hnb19 := NB359_360.out; have hnc19 := NB360_359.out; obtain ⟨u20_0, u20_1, u20_2, u20_3, u20_4, u20_5, u20_6, o20_0, o20_1, o20_2, o20_3, o20_4, o20_5, o20_6⟩ := bc7 (w := wr) BK359.out
        have p369 : 0 ≤ (x12_1 : Int) := tB
        have q369 : x12_1 < (l0_1.length : Int) := tB
        obtain ⟨ad369, A369_6, c369_6, e369, hx369_0, hx369_1, hx369_2, hx369_3, hx369_4, hx369_5, hx369_6, hl369_6, hi369_6⟩ := at_T63 HR0_1.out x12_1 p369 q369; cases e369; replace hx369_0 := cU HB hx369_0; replace hx369_1 := cU HB hx369_1; replace hx369_2 := cU HB hx369_2; replace hx369_3 := cU HB hx369_3; replace hx369_4 := cU HB hx369_4; replace hx369_5 := cU HB hx369_5; replace hx369_6 := cU HB hx369_6; have HR369_6 := Sd.mk hi369_6; have HC369_6 := Sd.mk hl369_6; clear hi369_6 hl369_6; replace p369 := eq_true p369; replace q369 := eq_true q369
        go_wp2
        repeat (go_quiet (fail); try go_wp2)
        go_roundg k1
        case measure => have := HK1.out; omega
        case rel => exact ⟨(wrap64 (x11_1 + (wrap64 ((rd l1 x12_1) * ((rd_T63 l0_1 x12_1).f2))))), (wrap64 (x12_1 + 1)), tS, tS, H', ⟨by have := HK1.out; omega⟩, ⟨bkA BK359.out⟩, ⟨bkA BK360.out⟩, ⟨bBl HB.out⟩⟩
       ·rw [if_neg c18] at H
        exact absurd H (by simp)
      ·rw [if_neg c17] at H
       exact absurd H (by simp)
     ·rw [if_neg c16] at H
      have c16b0 : decide (x12_1 < (l1.length : Int)) = false := decide_eq_false c16
      clear c16; replace H := Option.bind_eq_some_iff.mp H; obtain ⟨t370, A210, H⟩ := H
      try dsimp only at H
      have A21 := Sd.mk A210; clear A210; replace H := Option.bind_eq_some_iff.mp H; obtain ⟨t371, A220, H⟩ := H
      try dsimp only at H
      have A22 := Sd.mk A220; clear A220
      obtain ⟨ji23, hji23⟩ : ∃ j_ : Int, (mn t370 t371) = j_ := ⟨_, rfl⟩
      replace H : ((rf_ceiling.f (wrap64 (1000000 * x11_1)) t366).bind fun t372 => ((rf_ceiling.f (wrap64 (1000000 * x11_1)) t367).bind fun t373 => (some (ji23, mx t372 t373, 0)))) = some (r1, r2, r3) := by first | (rw [hji23] at H; exact H) | (simp only [hji23] at H ⊢; exact H)
      (try rw [hji23] at A21)
      (try rw [hji23] at A22)
      have hji23_ : (if t371 < t370 then t371 else t370) = ji23 := hji23
      replace H := Option.bind_eq_some_iff.mp H; obtain ⟨t372, A240, H⟩ := H
      try dsimp only at H
      have A24 := Sd.mk A240; clear A240; replace H := Option.bind_eq_some_iff.mp H; obtain ⟨t373, A250, H⟩ := H
      try dsimp only at H
      have A25 := Sd.mk A250; clear A250
      obtain ⟨ji26, hji26⟩ : ∃ j_ : Int, (mx t372 t373) = j_ := ⟨_, rfl⟩
      replace H : (some (ji23, ji26, 0)) = some (r1, r2, r3) := by first | (rw [hji26] at H; exact H) | (simp only [hji26] at H ⊢; exact H)
      (try rw [hji26] at A21)
      (try rw [hji26] at A22)
      (try rw [hji26] at A24)
      (try rw [hji26] at A25)
      have hji26_ : (if t372 < t373 then t373 else t372) = ji26 := hji26
      simp only [Option.some.injEq, Prod.mk.injEq] at H
      obtain ⟨rfl, rfl, rfl⟩ := H
      go_wp2_with (first | (go_at_call 61; (with_reducible refine (rf_floor.calls (wrap64 (1000000 * x11_1)) t366 t370 _ A21.out).mono ?_); rintro e w' ⟨rfl, ⟨nd, rfl⟩⟩; (try exact tD)) | (go_at_call 61; (with_reducible refine (rf_floor.calls (wrap64 (1000000 * x11_1)) t367 t371 _ A22.out).mono ?_); rintro e w' ⟨rfl, ⟨nd, rfl⟩⟩; (try exact tD)) | (go_at_call 62; (with_reducible refine (rf_ceiling.calls (wrap64 (1000000 * x11_1)) t366 t372 _ A24.out).mono ?_); rintro e w' ⟨rfl, ⟨nd, rfl⟩⟩; (try exact tD)) | (go_at_call 62; (with_reducible refine (rf_ceiling.calls (wrap64 (1000000 * x11_1)) t367 t373 _ A25.out).mono ?_); rintro e w' ⟨rfl, ⟨nd, rfl⟩⟩; (try exact tD); have hnb27 := NB360_359.out; have hnc27 := NB359_360.out; obtain ⟨u28_0, u28_1, o28_0, o28_1⟩ := bc2 (w := wr) BK360.out))
      repeat (go_quiet (first | (go_at_call 61; (with_reducible refine (rf_floor.calls (wrap64 (1000000 * x11_1)) t366 t370 _ A21.out).mono ?_); rintro e w' ⟨rfl, ⟨nd, rfl⟩⟩; (try exact tD)) | (go_at_call 61; (with_reducible refine (rf_floor.calls (wrap64 (1000000 * x11_1)) t367 t371 _ A22.out).mono ?_); rintro e w' ⟨rfl, ⟨nd, rfl⟩⟩; (try exact tD)) | (go_at_call 62; (with_reducible refine (rf_ceiling.calls (wrap64 (1000000 * x11_1)) t366 t372 _ A24.out).mono ?_); rintro e w' ⟨rfl, ⟨nd, rfl⟩⟩; (try exact tD)) | (go_at_call 62; (with_reducible refine (rf_ceiling.calls (wrap64 (1000000 * x11_1)) t367 t373 _ A25.out).mono ?_); rintro e w' ⟨rfl, ⟨nd, rfl⟩⟩; (try exact tD); have hnb27 := NB360_359.out; have hnc27 := NB359_360.out; obtain ⟨u28_0, u28_1, o28_0, o28_1⟩ := bc2 (w := wr) BK360.out)); try go_wp2_with (first | (go_at_call 61; (with_reducible refine (rf_floor.calls (wrap64 (1000000 * x11_1)) t366 t370 _ A21.out).mono ?_); rintro e w' ⟨rfl, ⟨nd, rfl⟩⟩; (try exact tD)) | (go_at_call 61; (with_reducible refine (rf_floor.calls (wrap64 (1000000 * x11_1)) t367 t371 _ A22.out).mono ?_); rintro e w' ⟨rfl, ⟨nd, rfl⟩⟩; (try exact tD)) | (go_at_call 62; (with_reducible refine (rf_ceiling.calls (wrap64 (1000000 * x11_1)) t366 t372 _ A24.out).mono ?_); rintro e w' ⟨rfl, ⟨nd, rfl⟩⟩; (try exact tD)) | (go_at_call 62; (with_reducible refine (rf_ceiling.calls (wrap64 (1000000 * x11_1)) t367 t373 _ A25.out).mono ?_); rintro e w' ⟨rfl, ⟨nd, rfl⟩⟩; (try exact tD); have hnb27 := NB360_359.out; have hnc27 := NB359_360.out; obtain ⟨u28_0, u28_1, o28_0, o28_1⟩ := bc2 (w := wr) BK360.out)))
      refine bodyPost_ret (results_ct rfl _ _ gb360 27 #[.int .i64 ji23, .int .i64 ji26] (0, 0) _ rfl (by (with_reducible repeat (first | refine blk_drewN ?_ _ | refine blk_drew ?_ | refine blk_alloc ?_ _)); refine blk_put (cs := #[.int .i64 ji23, .int .i64 0]) ?_ 1 _ rfl; (with_reducible repeat (first | refine blk_drewN ?_ _ | refine blk_drew ?_ | refine blk_alloc ?_ _)); refine blk_put (cs := #[.int .i64 0, .int .i64 0]) ?_ 0 _ rfl; (with_reducible repeat (first | refine blk_drewN ?_ _ | refine blk_drew ?_ | refine blk_alloc ?_ _)); exact BK360.out) Try.underlying27 rfl (by kernel_rfl)) rfl ?_
      exact ⟨by first | rfl | (simp [errW_none, errW_some] <;> rfl) | (simp only [← hji23, ← hji26]; first | rfl | (simp [errW_none, errW_some] <;> rfl)) | (simp [*, errW_none, errW_some] <;> rfl), bBl HB.out⟩
  ·rw [if_neg c6] at H
   have c6b0 : (t365 == 0) = false := beq_eq_false_iff_ne.mpr c6
   have c6b1 : (t365 != 0) = true := bne_iff_ne.mpr c6
   simp only [Option.some.injEq, Prod.mk.injEq] at H
   obtain ⟨rfl, rfl, rfl⟩ := H
   go_enter Try.func23, Try.ntmps23
   go_wp2_with (first | ((with_reducible refine gate_dst (N := 2) rfl ?_); refine box_event ?hg (N := 2) ?hd (cs := #[.slice A0_0 l0_0.length c0_0, .slice A0_1 l0_1.length c0_1, .slice A0_2 l0_2.length c0_2, .slice A0_3 l0_3.length c0_3, .int .i64 a0_4, .int .i64 a0_5, .int .i64 a0_6]) (t := 29) ?hr ?_; (case hd => rfl); (case hg => rfl); (case hr => exact tG); intro gb359 hg w29 hbox hb; have BK359 := Sd.mk (hbox); have GW359 := Sd.mk (bSz hg (bBl HB.out)); have GE359 := Sd.mk (bSz hg (bBl HB.out)); replace HB := Sd.mk (below_step (bBl HB.out) hb); clear hb hbox hg) | ((with_reducible refine gate_dst (N := 4) rfl ?_); refine box_event ?hg (N := 4) ?hd (cs := #[.int .i64 0, .int .i64 0]) (t := 27) ?hr ?_; (case hd => rfl); (case hg => rfl); (case hr => exact tG); intro gb360 hg w30 hbox hb; have BK360 := Sd.mk (hbox); have GW360 := Sd.mk (bSz hg (bBl HB.out)); have GE360 := Sd.mk (bSz hg (bBl HB.out)); replace HB := Sd.mk (below_step (bBl HB.out) hb); have NB359_360 := Sd.mk (bNl hg (bkA BK359.out)); have NB360_359 := Sd.mk (bNg hg (bkA BK359.out)); replace BK359 := Sd.mk (blk_below (bkA BK359.out) hb); clear hb hbox hg; have hnb31 := NB359_360.out; have hnc31 := NB360_359.out; obtain ⟨u32_0, u32_1, u32_2, u32_3, u32_4, u32_5, u32_6, o32_0, o32_1, o32_2, o32_3, o32_4, o32_5, o32_6⟩ := bc7 (w := w30) BK359.out) | (go_at_call 48; (with_reducible refine (rf_asked.calls k _ _ l0_0 _ _ l0_1 _ _ l0_2 _ _ l0_3 a0_4 a0_5 a0_6 _ _ l1 t361 _ (cS (Kd.C_below HR0_0.out HB.out)) HC0_0.out (cS (Kd.C_below HR0_1.out HB.out)) HC0_1.out (cS (Kd.C_below HR0_2.out HB.out)) HC0_2.out (cS (Kd.C_below HR0_3.out HB.out)) HC0_3.out (cS (Kd.C_below HR1.out HB.out)) HC1.out A3.out).mono ?_); rintro e w33 ⟨rfl, hb⟩; replace BK359 := Sd.mk (blk_below (bkA BK359.out) hb); replace BK360 := Sd.mk (blk_below (bkA BK360.out) hb); replace HB := Sd.mk (below_step (bBl HB.out) hb); (try clear hb); (try clear hb2); (try clear hk); (try clear hi); obtain ⟨u34_0, u34_1, u34_2, u34_3, u34_4, u34_5, u34_6, o34_0, o34_1, o34_2, o34_3, o34_4, o34_5, o34_6⟩ := bc7 (w := w33) BK359.out) | (go_at_call 52; (with_reducible refine (rf_weighed.calls k _ _ l0_0 _ _ l0_1 _ _ l0_2 _ _ l0_3 a0_4 a0_5 a0_6 _ _ l1 t362 t365 _ (cS (Kd.C_below HR0_0.out HB.out)) HC0_0.out (cS (Kd.C_below HR0_1.out HB.out)) HC0_1.out (cS (Kd.C_below HR0_2.out HB.out)) HC0_2.out (cS (Kd.C_below HR0_3.out HB.out)) HC0_3.out (cS (Kd.C_below HR1.out HB.out)) HC1.out A5.out).mono ?_); rintro e w35 ⟨v363, rfl, ho0, hb⟩; have HO364 := Sd.mk (Kd.R_lower (Kd.R_newB ho0 (bkA BK360.out)) (below_size (bBl HB.out))); replace BK359 := Sd.mk (blk_below (bkA BK359.out) hb); replace BK360 := Sd.mk (blk_below (bkA BK360.out) hb); replace HB := Sd.mk (below_step (bBl HB.out) hb); (try clear hb); (try clear hb2); (try clear hk); (try clear hi); (try clear ho0); obtain ⟨u36_0, u36_1, o36_0, o36_1⟩ := bc2 (w := w35) BK360.out))
   repeat (go_quiet (first | ((with_reducible refine gate_dst (N := 2) rfl ?_); refine box_event ?hg (N := 2) ?hd (cs := #[.slice A0_0 l0_0.length c0_0, .slice A0_1 l0_1.length c0_1, .slice A0_2 l0_2.length c0_2, .slice A0_3 l0_3.length c0_3, .int .i64 a0_4, .int .i64 a0_5, .int .i64 a0_6]) (t := 29) ?hr ?_; (case hd => rfl); (case hg => rfl); (case hr => exact tG); intro gb359 hg w29 hbox hb; have BK359 := Sd.mk (hbox); have GW359 := Sd.mk (bSz hg (bBl HB.out)); have GE359 := Sd.mk (bSz hg (bBl HB.out)); replace HB := Sd.mk (below_step (bBl HB.out) hb); clear hb hbox hg) | ((with_reducible refine gate_dst (N := 4) rfl ?_); refine box_event ?hg (N := 4) ?hd (cs := #[.int .i64 0, .int .i64 0]) (t := 27) ?hr ?_; (case hd => rfl); (case hg => rfl); (case hr => exact tG); intro gb360 hg w30 hbox hb; have BK360 := Sd.mk (hbox); have GW360 := Sd.mk (bSz hg (bBl HB.out)); have GE360 := Sd.mk (bSz hg (bBl HB.out)); replace HB := Sd.mk (below_step (bBl HB.out) hb); have NB359_360 := Sd.mk (bNl hg (bkA BK359.out)); have NB360_359 := Sd.mk (bNg hg (bkA BK359.out)); replace BK359 := Sd.mk (blk_below (bkA BK359.out) hb); clear hb hbox hg; have hnb31 := NB359_360.out; have hnc31 := NB360_359.out; obtain ⟨u32_0, u32_1, u32_2, u32_3, u32_4, u32_5, u32_6, o32_0, o32_1, o32_2, o32_3, o32_4, o32_5, o32_6⟩ := bc7 (w := w30) BK359.out) | (go_at_call 48; (with_reducible refine (rf_asked.calls k _ _ l0_0 _ _ l0_1 _ _ l0_2 _ _ l0_3 a0_4 a0_5 a0_6 _ _ l1 t361 _ (cS (Kd.C_below HR0_0.out HB.out)) HC0_0.out (cS (Kd.C_below HR0_1.out HB.out)) HC0_1.out (cS (Kd.C_below HR0_2.out HB.out)) HC0_2.out (cS (Kd.C_below HR0_3.out HB.out)) HC0_3.out (cS (Kd.C_below HR1.out HB.out)) HC1.out A3.out).mono ?_); rintro e w33 ⟨rfl, hb⟩; replace BK359 := Sd.mk (blk_below (bkA BK359.out) hb); replace BK360 := Sd.mk (blk_below (bkA BK360.out) hb); replace HB := Sd.mk (below_step (bBl HB.out) hb); (try clear hb); (try clear hb2); (try clear hk); (try clear hi); obtain ⟨u34_0, u34_1, u34_2, u34_3, u34_4, u34_5, u34_6, o34_0, o34_1, o34_2, o34_3, o34_4, o34_5, o34_6⟩ := bc7 (w := w33) BK359.out) | (go_at_call 52; (with_reducible refine (rf_weighed.calls k _ _ l0_0 _ _ l0_1 _ _ l0_2 _ _ l0_3 a0_4 a0_5 a0_6 _ _ l1 t362 t365 _ (cS (Kd.C_below HR0_0.out HB.out)) HC0_0.out (cS (Kd.C_below HR0_1.out HB.out)) HC0_1.out (cS (Kd.C_below HR0_2.out HB.out)) HC0_2.out (cS (Kd.C_below HR0_3.out HB.out)) HC0_3.out (cS (Kd.C_below HR1.out HB.out)) HC1.out A5.out).mono ?_); rintro e w35 ⟨v363, rfl, ho0, hb⟩; have HO364 := Sd.mk (Kd.R_lower (Kd.R_newB ho0 (bkA BK360.out)) (below_size (bBl HB.out))); replace BK359 := Sd.mk (blk_below (bkA BK359.out) hb); replace BK360 := Sd.mk (blk_below (bkA BK360.out) hb); replace HB := Sd.mk (below_step (bBl HB.out) hb); (try clear hb); (try clear hb2); (try clear hk); (try clear hi); (try clear ho0); obtain ⟨u36_0, u36_1, o36_0, o36_1⟩ := bc2 (w := w35) BK360.out)); try go_wp2_with (first | ((with_reducible refine gate_dst (N := 2) rfl ?_); refine box_event ?hg (N := 2) ?hd (cs := #[.slice A0_0 l0_0.length c0_0, .slice A0_1 l0_1.length c0_1, .slice A0_2 l0_2.length c0_2, .slice A0_3 l0_3.length c0_3, .int .i64 a0_4, .int .i64 a0_5, .int .i64 a0_6]) (t := 29) ?hr ?_; (case hd => rfl); (case hg => rfl); (case hr => exact tG); intro gb359 hg w29 hbox hb; have BK359 := Sd.mk (hbox); have GW359 := Sd.mk (bSz hg (bBl HB.out)); have GE359 := Sd.mk (bSz hg (bBl HB.out)); replace HB := Sd.mk (below_step (bBl HB.out) hb); clear hb hbox hg) | ((with_reducible refine gate_dst (N := 4) rfl ?_); refine box_event ?hg (N := 4) ?hd (cs := #[.int .i64 0, .int .i64 0]) (t := 27) ?hr ?_; (case hd => rfl); (case hg => rfl); (case hr => exact tG); intro gb360 hg w30 hbox hb; have BK360 := Sd.mk (hbox); have GW360 := Sd.mk (bSz hg (bBl HB.out)); have GE360 := Sd.mk (bSz hg (bBl HB.out)); replace HB := Sd.mk (below_step (bBl HB.out) hb); have NB359_360 := Sd.mk (bNl hg (bkA BK359.out)); have NB360_359 := Sd.mk (bNg hg (bkA BK359.out)); replace BK359 := Sd.mk (blk_below (bkA BK359.out) hb); clear hb hbox hg; have hnb31 := NB359_360.out; have hnc31 := NB360_359.out; obtain ⟨u32_0, u32_1, u32_2, u32_3, u32_4, u32_5, u32_6, o32_0, o32_1, o32_2, o32_3, o32_4, o32_5, o32_6⟩ := bc7 (w := w30) BK359.out) | (go_at_call 48; (with_reducible refine (rf_asked.calls k _ _ l0_0 _ _ l0_1 _ _ l0_2 _ _ l0_3 a0_4 a0_5 a0_6 _ _ l1 t361 _ (cS (Kd.C_below HR0_0.out HB.out)) HC0_0.out (cS (Kd.C_below HR0_1.out HB.out)) HC0_1.out (cS (Kd.C_below HR0_2.out HB.out)) HC0_2.out (cS (Kd.C_below HR0_3.out HB.out)) HC0_3.out (cS (Kd.C_below HR1.out HB.out)) HC1.out A3.out).mono ?_); rintro e w33 ⟨rfl, hb⟩; replace BK359 := Sd.mk (blk_below (bkA BK359.out) hb); replace BK360 := Sd.mk (blk_below (bkA BK360.out) hb); replace HB := Sd.mk (below_step (bBl HB.out) hb); (try clear hb); (try clear hb2); (try clear hk); (try clear hi); obtain ⟨u34_0, u34_1, u34_2, u34_3, u34_4, u34_5, u34_6, o34_0, o34_1, o34_2, o34_3, o34_4, o34_5, o34_6⟩ := bc7 (w := w33) BK359.out) | (go_at_call 52; (with_reducible refine (rf_weighed.calls k _ _ l0_0 _ _ l0_1 _ _ l0_2 _ _ l0_3 a0_4 a0_5 a0_6 _ _ l1 t362 t365 _ (cS (Kd.C_below HR0_0.out HB.out)) HC0_0.out (cS (Kd.C_below HR0_1.out HB.out)) HC0_1.out (cS (Kd.C_below HR0_2.out HB.out)) HC0_2.out (cS (Kd.C_below HR0_3.out HB.out)) HC0_3.out (cS (Kd.C_below HR1.out HB.out)) HC1.out A5.out).mono ?_); rintro e w35 ⟨v363, rfl, ho0, hb⟩; have HO364 := Sd.mk (Kd.R_lower (Kd.R_newB ho0 (bkA BK360.out)) (below_size (bBl HB.out))); replace BK359 := Sd.mk (blk_below (bkA BK359.out) hb); replace BK360 := Sd.mk (blk_below (bkA BK360.out) hb); replace HB := Sd.mk (below_step (bBl HB.out) hb); (try clear hb); (try clear hb2); (try clear hk); (try clear hi); (try clear ho0); obtain ⟨u36_0, u36_1, o36_0, o36_1⟩ := bc2 (w := w35) BK360.out)))
   refine bodyPost_ret (results_ct rfl _ _ gb360 27 #[.int .i64 0, .int .i64 0] (0, 0) _ rfl (by (with_reducible repeat (first | refine blk_drewN ?_ _ | refine blk_drew ?_ | refine blk_alloc ?_ _)); refine blk_put (cs := #[.int .i64 0, .int .i64 0]) ?_ 1 _ rfl; (with_reducible repeat (first | refine blk_drewN ?_ _ | refine blk_drew ?_ | refine blk_alloc ?_ _)); refine blk_put (cs := #[.int .i64 0, .int .i64 0]) ?_ 0 _ rfl; (with_reducible repeat (first | refine blk_drewN ?_ _ | refine blk_drew ?_ | refine blk_alloc ?_ _)); exact BK360.out) Try.underlying27 rfl (by kernel_rfl)) rfl ?_
   exact ⟨tE, bBl HB.out⟩
 ·rw [if_neg c4] at H
  have c4b0 : (t361 == 0) = false := beq_eq_false_iff_ne.mpr c4
  have c4b1 : (t361 != 0) = true := bne_iff_ne.mpr c4
  simp only [Option.some.injEq, Prod.mk.injEq] at H
  obtain ⟨rfl, rfl, rfl⟩ := H
  go_enter Try.func23, Try.ntmps23
  go_wp2_with (first | ((with_reducible refine gate_dst (N := 2) rfl ?_); refine box_event ?hg (N := 2) ?hd (cs := #[.slice A0_0 l0_0.length c0_0, .slice A0_1 l0_1.length c0_1, .slice A0_2 l0_2.length c0_2, .slice A0_3 l0_3.length c0_3, .int .i64 a0_4, .int .i64 a0_5, .int .i64 a0_6]) (t := 29) ?hr ?_; (case hd => rfl); (case hg => rfl); (case hr => exact tG); intro gb359 hg w37 hbox hb; have BK359 := Sd.mk (hbox); have GW359 := Sd.mk (bSz hg (bBl HB.out)); have GE359 := Sd.mk (bSz hg (bBl HB.out)); replace HB := Sd.mk (below_step (bBl HB.out) hb); clear hb hbox hg) | ((with_reducible refine gate_dst (N := 4) rfl ?_); refine box_event ?hg (N := 4) ?hd (cs := #[.int .i64 0, .int .i64 0]) (t := 27) ?hr ?_; (case hd => rfl); (case hg => rfl); (case hr => exact tG); intro gb360 hg w38 hbox hb; have BK360 := Sd.mk (hbox); have GW360 := Sd.mk (bSz hg (bBl HB.out)); have GE360 := Sd.mk (bSz hg (bBl HB.out)); replace HB := Sd.mk (below_step (bBl HB.out) hb); have NB359_360 := Sd.mk (bNl hg (bkA BK359.out)); have NB360_359 := Sd.mk (bNg hg (bkA BK359.out)); replace BK359 := Sd.mk (blk_below (bkA BK359.out) hb); clear hb hbox hg; have hnb39 := NB359_360.out; have hnc39 := NB360_359.out; obtain ⟨u40_0, u40_1, u40_2, u40_3, u40_4, u40_5, u40_6, o40_0, o40_1, o40_2, o40_3, o40_4, o40_5, o40_6⟩ := bc7 (w := w38) BK359.out) | (go_at_call 48; (with_reducible refine (rf_asked.calls k _ _ l0_0 _ _ l0_1 _ _ l0_2 _ _ l0_3 a0_4 a0_5 a0_6 _ _ l1 t361 _ (cS (Kd.C_below HR0_0.out HB.out)) HC0_0.out (cS (Kd.C_below HR0_1.out HB.out)) HC0_1.out (cS (Kd.C_below HR0_2.out HB.out)) HC0_2.out (cS (Kd.C_below HR0_3.out HB.out)) HC0_3.out (cS (Kd.C_below HR1.out HB.out)) HC1.out A3.out).mono ?_); rintro e w41 ⟨rfl, hb⟩; replace BK359 := Sd.mk (blk_below (bkA BK359.out) hb); replace BK360 := Sd.mk (blk_below (bkA BK360.out) hb); replace HB := Sd.mk (below_step (bBl HB.out) hb); (try clear hb); (try clear hb2); (try clear hk); (try clear hi); obtain ⟨u42_0, u42_1, o42_0, o42_1⟩ := bc2 (w := w41) BK360.out))
  repeat (go_quiet (first | ((with_reducible refine gate_dst (N := 2) rfl ?_); refine box_event ?hg (N := 2) ?hd (cs := #[.slice A0_0 l0_0.length c0_0, .slice A0_1 l0_1.length c0_1, .slice A0_2 l0_2.length c0_2, .slice A0_3 l0_3.length c0_3, .int .i64 a0_4, .int .i64 a0_5, .int .i64 a0_6]) (t := 29) ?hr ?_; (case hd => rfl); (case hg => rfl); (case hr => exact tG); intro gb359 hg w37 hbox hb; have BK359 := Sd.mk (hbox); have GW359 := Sd.mk (bSz hg (bBl HB.out)); have GE359 := Sd.mk (bSz hg (bBl HB.out)); replace HB := Sd.mk (below_step (bBl HB.out) hb); clear hb hbox hg) | ((with_reducible refine gate_dst (N := 4) rfl ?_); refine box_event ?hg (N := 4) ?hd (cs := #[.int .i64 0, .int .i64 0]) (t := 27) ?hr ?_; (case hd => rfl); (case hg => rfl); (case hr => exact tG); intro gb360 hg w38 hbox hb; have BK360 := Sd.mk (hbox); have GW360 := Sd.mk (bSz hg (bBl HB.out)); have GE360 := Sd.mk (bSz hg (bBl HB.out)); replace HB := Sd.mk (below_step (bBl HB.out) hb); have NB359_360 := Sd.mk (bNl hg (bkA BK359.out)); have NB360_359 := Sd.mk (bNg hg (bkA BK359.out)); replace BK359 := Sd.mk (blk_below (bkA BK359.out) hb); clear hb hbox hg; have hnb39 := NB359_360.out; have hnc39 := NB360_359.out; obtain ⟨u40_0, u40_1, u40_2, u40_3, u40_4, u40_5, u40_6, o40_0, o40_1, o40_2, o40_3, o40_4, o40_5, o40_6⟩ := bc7 (w := w38) BK359.out) | (go_at_call 48; (with_reducible refine (rf_asked.calls k _ _ l0_0 _ _ l0_1 _ _ l0_2 _ _ l0_3 a0_4 a0_5 a0_6 _ _ l1 t361 _ (cS (Kd.C_below HR0_0.out HB.out)) HC0_0.out (cS (Kd.C_below HR0_1.out HB.out)) HC0_1.out (cS (Kd.C_below HR0_2.out HB.out)) HC0_2.out (cS (Kd.C_below HR0_3.out HB.out)) HC0_3.out (cS (Kd.C_below HR1.out HB.out)) HC1.out A3.out).mono ?_); rintro e w41 ⟨rfl, hb⟩; replace BK359 := Sd.mk (blk_below (bkA BK359.out) hb); replace BK360 := Sd.mk (blk_below (bkA BK360.out) hb); replace HB := Sd.mk (below_step (bBl HB.out) hb); (try clear hb); (try clear hb2); (try clear hk); (try clear hi); obtain ⟨u42_0, u42_1, o42_0, o42_1⟩ := bc2 (w := w41) BK360.out)); try go_wp2_with (first | ((with_reducible refine gate_dst (N := 2) rfl ?_); refine box_event ?hg (N := 2) ?hd (cs := #[.slice A0_0 l0_0.length c0_0, .slice A0_1 l0_1.length c0_1, .slice A0_2 l0_2.length c0_2, .slice A0_3 l0_3.length c0_3, .int .i64 a0_4, .int .i64 a0_5, .int .i64 a0_6]) (t := 29) ?hr ?_; (case hd => rfl); (case hg => rfl); (case hr => exact tG); intro gb359 hg w37 hbox hb; have BK359 := Sd.mk (hbox); have GW359 := Sd.mk (bSz hg (bBl HB.out)); have GE359 := Sd.mk (bSz hg (bBl HB.out)); replace HB := Sd.mk (below_step (bBl HB.out) hb); clear hb hbox hg) | ((with_reducible refine gate_dst (N := 4) rfl ?_); refine box_event ?hg (N := 4) ?hd (cs := #[.int .i64 0, .int .i64 0]) (t := 27) ?hr ?_; (case hd => rfl); (case hg => rfl); (case hr => exact tG); intro gb360 hg w38 hbox hb; have BK360 := Sd.mk (hbox); have GW360 := Sd.mk (bSz hg (bBl HB.out)); have GE360 := Sd.mk (bSz hg (bBl HB.out)); replace HB := Sd.mk (below_step (bBl HB.out) hb); have NB359_360 := Sd.mk (bNl hg (bkA BK359.out)); have NB360_359 := Sd.mk (bNg hg (bkA BK359.out)); replace BK359 := Sd.mk (blk_below (bkA BK359.out) hb); clear hb hbox hg; have hnb39 := NB359_360.out; have hnc39 := NB360_359.out; obtain ⟨u40_0, u40_1, u40_2, u40_3, u40_4, u40_5, u40_6, o40_0, o40_1, o40_2, o40_3, o40_4, o40_5, o40_6⟩ := bc7 (w := w38) BK359.out) | (go_at_call 48; (with_reducible refine (rf_asked.calls k _ _ l0_0 _ _ l0_1 _ _ l0_2 _ _ l0_3 a0_4 a0_5 a0_6 _ _ l1 t361 _ (cS (Kd.C_below HR0_0.out HB.out)) HC0_0.out (cS (Kd.C_below HR0_1.out HB.out)) HC0_1.out (cS (Kd.C_below HR0_2.out HB.out)) HC0_2.out (cS (Kd.C_below HR0_3.out HB.out)) HC0_3.out (cS (Kd.C_below HR1.out HB.out)) HC1.out A3.out).mono ?_); rintro e w41 ⟨rfl, hb⟩; replace BK359 := Sd.mk (blk_below (bkA BK359.out) hb); replace BK360 := Sd.mk (blk_below (bkA BK360.out) hb); replace HB := Sd.mk (below_step (bBl HB.out) hb); (try clear hb); (try clear hb2); (try clear hk); (try clear hi); obtain ⟨u42_0, u42_1, o42_0, o42_1⟩ := bc2 (w := w41) BK360.out)))
  refine bodyPost_ret (results_ct rfl _ _ gb360 27 #[.int .i64 0, .int .i64 0] (0, 0) _ rfl (by (with_reducible repeat (first | refine blk_drewN ?_ _ | refine blk_drew ?_ | refine blk_alloc ?_ _)); refine blk_put (cs := #[.int .i64 0, .int .i64 0]) ?_ 1 _ rfl; (with_reducible repeat (first | refine blk_drewN ?_ _ | refine blk_drew ?_ | refine blk_alloc ?_ _)); refine blk_put (cs := #[.int .i64 0, .int .i64 0]) ?_ 0 _ rfl; (with_reducible repeat (first | refine blk_drewN ?_ _ | refine blk_drew ?_ | refine blk_alloc ?_ _)); exact BK360.out) Try.underlying27 rfl (by kernel_rfl)) rfl ?_
  exact ⟨tE, bBl HB.out⟩
end Go.Proofs.Ytkjkokgbhepmoaa.PB

namespace Go.Proofs.Ytkjkokgbhepmoaa.PB
open Go.RowKit Go.Proofs.YtkjkokgbhepmoaaW.PrintWords Go.Proofs.YtkjkokgbhepmoaaW.PrintLast Go.Proofs.YtkjkokgbhepmoaaW.PrintMore
attribute [local go_sem] max2_int min2_int max_two min_two max_three min_three max_four min_four
attribute [local go_sem high] eqA27
mutual
def lw_BatchGlasses.j0 : Nat → Bool → List ByteArray → List (S63) → List (S27) → List (S65) → Int → Int → Int → List Int → List Int → Int → Int → Int → List Int → Option (Bool)
 | 0, _, _, _, _, _, _, _, _, _, _, _, _, _, _ => none
 | k + 1, x16, x375q0, x375q1, x375q2, x375q3, x375q4, x375q5, x375q6, x376q0, x376q1, x376q2, x376q3, x376q4, x376q5 => if x16 = true then ((lw_lives.f k).bind fun t378 => (some t378)) else ((batch_Grams.f k x375q0 x375q1 x375q2 x375q3 x375q4 x375q5 x375q6 x376q0).bind fun bt379 => ((rf_Grams.f k x375q0 x375q1 x375q2 x375q3 x375q4 x375q5 x375q6 x376q0).bind fun bt383 => (if bt379.2 = bt383.2 then ((lw_SameSpans.f k bt379.1 bt383.1).bind fun t387 => (lw_BatchGlasses.j1 k (!t387) x375q0 x375q1 x375q2 x375q3 x375q4 x375q5 x375q6 x376q0 x376q1 x376q2 x376q3 x376q4 x376q5)) else (lw_BatchGlasses.j1 k true x375q0 x375q1 x375q2 x375q3 x375q4 x375q5 x375q6 x376q0 x376q1 x376q2 x376q3 x376q4 x376q5))))
def lw_BatchGlasses.j1 : Nat → Bool → List ByteArray → List (S63) → List (S27) → List (S65) → Int → Int → Int → List Int → List Int → Int → Int → Int → List Int → Option (Bool)
 | 0, _, _, _, _, _, _, _, _, _, _, _, _, _, _ => none
 | k + 1, x40, x375q0, x375q1, x375q2, x375q3, x375q4, x375q5, x375q6, x376q0, x376q1, x376q2, x376q3, x376q4, x376q5 => if x40 = true then (some false) else ((x_Glass.f k x375q0 x375q1 x375q2 x375q3 x375q4 x375q5 x375q6 x376q0).bind fun bt388 => ((rf_Glass.f k x375q0 x375q1 x375q2 x375q3 x375q4 x375q5 x375q6 x376q0).bind fun bt392 => (if bt388.2 = bt392.2 then ((lw_SameSpans.f k bt388.1 bt392.1).bind fun t396 => (lw_BatchGlasses.j2 k (!t396) x375q0 x375q1 x375q2 x375q3 x375q4 x375q5 x375q6 x376q0 x376q1 x376q2 x376q3 x376q4 x376q5)) else (lw_BatchGlasses.j2 k true x375q0 x375q1 x375q2 x375q3 x375q4 x375q5 x375q6 x376q0 x376q1 x376q2 x376q3 x376q4 x376q5))))
def lw_BatchGlasses.j2 : Nat → Bool → List ByteArray → List (S63) → List (S27) → List (S65) → Int → Int → Int → List Int → List Int → Int → Int → Int → List Int → Option (Bool)
 | 0, _, _, _, _, _, _, _, _, _, _, _, _, _, _ => none
 | k + 1, x63, x375q0, x375q1, x375q2, x375q3, x375q4, x375q5, x375q6, x376q0, x376q1, x376q2, x376q3, x376q4, x376q5 => if x63 = true then (some false) else ((x_Value.f k x375q0 x375q1 x375q2 x375q3 x375q4 x375q5 x375q6 x376q0 x376q2).bind fun bt397 => ((rf_Value.f k x375q0 x375q1 x375q2 x375q3 x375q4 x375q5 x375q6 x376q0 x376q2).bind fun bt401 => (if bt397.2.2 = bt401.2.2 then (lw_BatchGlasses.j3 k (!(bt397.1 == bt401.1) || (!(bt397.2.1 == bt401.2.1))) x375q0 x375q1 x375q2 x375q3 x375q4 x375q5 x375q6 x376q0 x376q1 x376q2 x376q3 x376q4 x376q5) else (lw_BatchGlasses.j3 k true x375q0 x375q1 x375q2 x375q3 x375q4 x375q5 x375q6 x376q0 x376q1 x376q2 x376q3 x376q4 x376q5))))
def lw_BatchGlasses.j3 : Nat → Bool → List ByteArray → List (S63) → List (S27) → List (S65) → Int → Int → Int → List Int → List Int → Int → Int → Int → List Int → Option (Bool)
 | 0, _, _, _, _, _, _, _, _, _, _, _, _, _, _ => none
 | k + 1, x89, x375q0, x375q1, x375q2, x375q3, x375q4, x375q5, x375q6, x376q0, x376q1, x376q2, x376q3, x376q4, x376q5 => if x89 = true then (some false) else ((batch_Redox.f k x375q0 x375q1 x375q2 x375q3 x375q4 x375q5 x375q6 x376q0).bind fun bt405 => ((rf_Redox.f k x375q0 x375q1 x375q2 x375q3 x375q4 x375q5 x375q6 x376q0).bind fun bt408 => (if bt405.2.2 = bt408.2.2 then (if (bt405.1 == bt408.1 && (bt405.2.1 == bt408.2.1)) = true then ((lw_lives.f k).bind fun t411 => (some t411)) else (some false)) else (some false))))
end
def lw_BatchGlasses.f (k : Nat) (l0_0 : List ByteArray) (l0_1 : List (S63)) (l0_2 : List (S27)) (l0_3 : List (S65)) (a0_4 : Int) (a0_5 : Int) (a0_6 : Int) (l1_0 : List Int) (l1_1 : List Int) (a1_2 : Int) (a1_3 : Int) (a1_4 : Int) (l1_5 : List Int) : Option (Bool) := (lw_Great.f k l0_0 l0_1 l0_2 l0_3 a0_4 a0_5 a0_6).bind fun t376 => (if t376 = true then (lw_BatchGlasses.j0 k true l0_0 l0_1 l0_2 l0_3 a0_4 a0_5 a0_6 l1_0 l1_1 a1_2 a1_3 a1_4 l1_5) else ((lw_wide.f l1_0 l1_1 a1_2 a1_3 a1_4 l1_5).bind fun t377 => (lw_BatchGlasses.j0 k t377 l0_0 l0_1 l0_2 l0_3 a0_4 a0_5 a0_6 l1_0 l1_1 a1_2 a1_3 a1_4 l1_5)))
theorem lw_BatchGlasses.mono_l : ∀ k, (∀ y0 y1 y2 y3 y4 y5 y6 y7 y8 y9 y10 y11 y12 y13, LeO (lw_BatchGlasses.j0 k y0 y1 y2 y3 y4 y5 y6 y7 y8 y9 y10 y11 y12 y13) (lw_BatchGlasses.j0 (k + 1) y0 y1 y2 y3 y4 y5 y6 y7 y8 y9 y10 y11 y12 y13)) ∧ (∀ y0 y1 y2 y3 y4 y5 y6 y7 y8 y9 y10 y11 y12 y13, LeO (lw_BatchGlasses.j1 k y0 y1 y2 y3 y4 y5 y6 y7 y8 y9 y10 y11 y12 y13) (lw_BatchGlasses.j1 (k + 1) y0 y1 y2 y3 y4 y5 y6 y7 y8 y9 y10 y11 y12 y13)) ∧ (∀ y0 y1 y2 y3 y4 y5 y6 y7 y8 y9 y10 y11 y12 y13, LeO (lw_BatchGlasses.j2 k y0 y1 y2 y3 y4 y5 y6 y7 y8 y9 y10 y11 y12 y13) (lw_BatchGlasses.j2 (k + 1) y0 y1 y2 y3 y4 y5 y6 y7 y8 y9 y10 y11 y12 y13)) ∧ (∀ y0 y1 y2 y3 y4 y5 y6 y7 y8 y9 y10 y11 y12 y13, LeO (lw_BatchGlasses.j3 k y0 y1 y2 y3 y4 y5 y6 y7 y8 y9 y10 y11 y12 y13) (lw_BatchGlasses.j3 (k + 1) y0 y1 y2 y3 y4 y5 y6 y7 y8 y9 y10 y11 y12 y13))
 | 0 => ⟨fun _ _ _ _ _ _ _ _ _ _ _ _ _ _ r h => by simp [lw_BatchGlasses.j0] at h, fun _ _ _ _ _ _ _ _ _ _ _ _ _ _ r h => by simp [lw_BatchGlasses.j1] at h, fun _ _ _ _ _ _ _ _ _ _ _ _ _ _ r h => by simp [lw_BatchGlasses.j2] at h, fun _ _ _ _ _ _ _ _ _ _ _ _ _ _ r h => by simp [lw_BatchGlasses.j3] at h⟩
 | k + 1 => by
  obtain ⟨ih0, ih1, ih2, ih3⟩ := lw_BatchGlasses.mono_l k
  refine ⟨?_, ?_, ?_, ?_⟩
  ·intro y0 y1 y2 y3 y4 y5 y6 y7 y8 y9 y10 y11 y12 y13
   unfold lw_BatchGlasses.j0
   repeat' first
   | (with_reducible exact ih0 _ _ _ _ _ _ _ _ _ _ _ _ _ _)
   | (with_reducible exact ih1 _ _ _ _ _ _ _ _ _ _ _ _ _ _)
   | (with_reducible exact ih2 _ _ _ _ _ _ _ _ _ _ _ _ _ _)
   | (with_reducible exact ih3 _ _ _ _ _ _ _ _ _ _ _ _ _ _)
   | (with_reducible exact batch_Grams.mono _ _ _ _ _ _ _ _ _)
   | (with_reducible exact batch_Redox.mono _ _ _ _ _ _ _ _ _)
   | (with_reducible exact lw_Great.mono _ _ _ _ _ _ _ _)
   | (with_reducible exact lw_SameSpans.mono _ _ _)
   | (with_reducible exact lw_lives.mono _)
   | (with_reducible exact rf_Glass.mono _ _ _ _ _ _ _ _ _)
   | (with_reducible exact rf_Grams.mono _ _ _ _ _ _ _ _ _)
   | (with_reducible exact rf_Redox.mono _ _ _ _ _ _ _ _ _)
   | (with_reducible exact rf_Value.mono _ _ _ _ _ _ _ _ _ _)
   | (with_reducible exact x_Glass.mono _ _ _ _ _ _ _ _ _)
   | (with_reducible exact x_Value.mono _ _ _ _ _ _ _ _ _ _)
   | (with_reducible exact LeO.refl _)
   | (with_reducible exact LeO.none _)
   | (with_reducible refine LeO.ite ?_ ?_)
   | (with_reducible refine LeO.bind ?_ (fun _ => ?_))
   | exact LeO.none _
   | refine LeO.ite ?_ ?_
   | refine LeO.bind ?_ (fun _ => ?_)
  ·intro y0 y1 y2 y3 y4 y5 y6 y7 y8 y9 y10 y11 y12 y13
   unfold lw_BatchGlasses.j1
   repeat' first
   | (with_reducible exact ih0 _ _ _ _ _ _ _ _ _ _ _ _ _ _)
   | (with_reducible exact ih1 _ _ _ _ _ _ _ _ _ _ _ _ _ _)
   | (with_reducible exact ih2 _ _ _ _ _ _ _ _ _ _ _ _ _ _)
   | (with_reducible exact ih3 _ _ _ _ _ _ _ _ _ _ _ _ _ _)
   | (with_reducible exact batch_Grams.mono _ _ _ _ _ _ _ _ _)
   | (with_reducible exact batch_Redox.mono _ _ _ _ _ _ _ _ _)
   | (with_reducible exact lw_Great.mono _ _ _ _ _ _ _ _)
   | (with_reducible exact lw_SameSpans.mono _ _ _)
   | (with_reducible exact lw_lives.mono _)
   | (with_reducible exact rf_Glass.mono _ _ _ _ _ _ _ _ _)
   | (with_reducible exact rf_Grams.mono _ _ _ _ _ _ _ _ _)
   | (with_reducible exact rf_Redox.mono _ _ _ _ _ _ _ _ _)
   | (with_reducible exact rf_Value.mono _ _ _ _ _ _ _ _ _ _)
   | (with_reducible exact x_Glass.mono _ _ _ _ _ _ _ _ _)
   | (with_reducible exact x_Value.mono _ _ _ _ _ _ _ _ _ _)
   | (with_reducible exact LeO.refl _)
   | (with_reducible exact LeO.none _)
   | (with_reducible refine LeO.ite ?_ ?_)
   | (with_reducible refine LeO.bind ?_ (fun _ => ?_))
   | exact LeO.none _
   | refine LeO.ite ?_ ?_
   | refine LeO.bind ?_ (fun _ => ?_)
  ·intro y0 y1 y2 y3 y4 y5 y6 y7 y8 y9 y10 y11 y12 y13
   unfold lw_BatchGlasses.j2
   repeat' first
   | (with_reducible exact ih0 _ _ _ _ _ _ _ _ _ _ _ _ _ _)
   | (with_reducible exact ih1 _ _ _ _ _ _ _ _ _ _ _ _ _ _)
   | (with_reducible exact ih2 _ _ _ _ _ _ _ _ _ _ _ _ _ _)
   | (with_reducible exact ih3 _ _ _ _ _ _ _ _ _ _ _ _ _ _)
   | (with_reducible exact batch_Grams.mono _ _ _ _ _ _ _ _ _)
   | (with_reducible exact batch_Redox.mono _ _ _ _ _ _ _ _ _)
   | (with_reducible exact lw_Great.mono _ _ _ _ _ _ _ _)
   | (with_reducible exact lw_SameSpans.mono _ _ _)
   | (with_reducible exact lw_lives.mono _)
   | (with_reducible exact rf_Glass.mono _ _ _ _ _ _ _ _ _)
   | (with_reducible exact rf_Grams.mono _ _ _ _ _ _ _ _ _)
   | (with_reducible exact rf_Redox.mono _ _ _ _ _ _ _ _ _)
   | (with_reducible exact rf_Value.mono _ _ _ _ _ _ _ _ _ _)
   | (with_reducible exact x_Glass.mono _ _ _ _ _ _ _ _ _)
   | (with_reducible exact x_Value.mono _ _ _ _ _ _ _ _ _ _)
   | (with_reducible exact LeO.refl _)
   | (with_reducible exact LeO.none _)
   | (with_reducible refine LeO.ite ?_ ?_)
   | (with_reducible refine LeO.bind ?_ (fun _ => ?_))
   | exact LeO.none _
   | refine LeO.ite ?_ ?_
   | refine LeO.bind ?_ (fun _ => ?_)
  ·intro y0 y1 y2 y3 y4 y5 y6 y7 y8 y9 y10 y11 y12 y13
   unfold lw_BatchGlasses.j3
   repeat' first
   | (with_reducible exact ih0 _ _ _ _ _ _ _ _ _ _ _ _ _ _)
   | (with_reducible exact ih1 _ _ _ _ _ _ _ _ _ _ _ _ _ _)
   | (with_reducible exact ih2 _ _ _ _ _ _ _ _ _ _ _ _ _ _)
   | (with_reducible exact ih3 _ _ _ _ _ _ _ _ _ _ _ _ _ _)
   | (with_reducible exact batch_Grams.mono _ _ _ _ _ _ _ _ _)
   | (with_reducible exact batch_Redox.mono _ _ _ _ _ _ _ _ _)
   | (with_reducible exact lw_Great.mono _ _ _ _ _ _ _ _)
   | (with_reducible exact lw_SameSpans.mono _ _ _)
   | (with_reducible exact lw_lives.mono _)
   | (with_reducible exact rf_Glass.mono _ _ _ _ _ _ _ _ _)
   | (with_reducible exact rf_Grams.mono _ _ _ _ _ _ _ _ _)
   | (with_reducible exact rf_Redox.mono _ _ _ _ _ _ _ _ _)
   | (with_reducible exact rf_Value.mono _ _ _ _ _ _ _ _ _ _)
   | (with_reducible exact x_Glass.mono _ _ _ _ _ _ _ _ _)
   | (with_reducible exact x_Value.mono _ _ _ _ _ _ _ _ _ _)
   | (with_reducible exact LeO.refl _)
   | (with_reducible exact LeO.none _)
   | (with_reducible refine LeO.ite ?_ ?_)
   | (with_reducible refine LeO.bind ?_ (fun _ => ?_))
   | exact LeO.none _
   | refine LeO.ite ?_ ?_
   | refine LeO.bind ?_ (fun _ => ?_)
theorem lw_BatchGlasses.mono : ∀ a0 a1 a2 a3 a4 a5 a6 a7 a8 a9 a10 a11 a12 k, LeO (lw_BatchGlasses.f k a0 a1 a2 a3 a4 a5 a6 a7 a8 a9 a10 a11 a12) (lw_BatchGlasses.f (k + 1) a0 a1 a2 a3 a4 a5 a6 a7 a8 a9 a10 a11 a12) := by
 intro a0 a1 a2 a3 a4 a5 a6 a7 a8 a9 a10 a11 a12 k
 obtain ⟨ih0, ih1, ih2, ih3⟩ := lw_BatchGlasses.mono_l k
 unfold lw_BatchGlasses.f
 repeat' first
   | (with_reducible exact ih0 _ _ _ _ _ _ _ _ _ _ _ _ _ _)
   | (with_reducible exact ih1 _ _ _ _ _ _ _ _ _ _ _ _ _ _)
   | (with_reducible exact ih2 _ _ _ _ _ _ _ _ _ _ _ _ _ _)
   | (with_reducible exact ih3 _ _ _ _ _ _ _ _ _ _ _ _ _ _)
   | (with_reducible exact batch_Grams.mono _ _ _ _ _ _ _ _ _)
   | (with_reducible exact batch_Redox.mono _ _ _ _ _ _ _ _ _)
   | (with_reducible exact lw_Great.mono _ _ _ _ _ _ _ _)
   | (with_reducible exact lw_SameSpans.mono _ _ _)
   | (with_reducible exact lw_lives.mono _)
   | (with_reducible exact rf_Glass.mono _ _ _ _ _ _ _ _ _)
   | (with_reducible exact rf_Grams.mono _ _ _ _ _ _ _ _ _)
   | (with_reducible exact rf_Redox.mono _ _ _ _ _ _ _ _ _)
   | (with_reducible exact rf_Value.mono _ _ _ _ _ _ _ _ _ _)
   | (with_reducible exact x_Glass.mono _ _ _ _ _ _ _ _ _)
   | (with_reducible exact x_Value.mono _ _ _ _ _ _ _ _ _ _)
   | (with_reducible exact LeO.refl _)
   | (with_reducible exact LeO.none _)
   | (with_reducible refine LeO.ite ?_ ?_)
   | (with_reducible refine LeO.bind ?_ (fun _ => ?_))
   | exact LeO.none _
   | refine LeO.ite ?_ ?_
   | refine LeO.bind ?_ (fun _ => ?_)
set_option maxHeartbeats 8000000 in
set_option maxRecDepth 100000 in
theorem lw_BatchGlasses.calls (k : Nat) (A0_0 : Option Addr) (c0_0 : Nat) (l0_0 : List ByteArray) (A0_1 : Option Addr) (c0_1 : Nat) (l0_1 : List (S63)) (A0_2 : Option Addr) (c0_2 : Nat) (l0_2 : List (S27)) (A0_3 : Option Addr) (c0_3 : Nat) (l0_3 : List (S65)) (a0_4 : Int) (a0_5 : Int) (a0_6 : Int) (A1_0 : Option Addr) (c1_0 : Nat) (l1_0 : List Int) (A1_1 : Option Addr) (c1_1 : Nat) (l1_1 : List Int) (a1_2 : Int) (a1_3 : Int) (a1_4 : Int) (A1_5 : Option Addr) (c1_5 : Nat) (l1_5 : List Int) (r : Bool) (w : World) (hr0_0 : Kd.C Kd.string w A0_0 l0_0.length l0_0) (hc0_0 : l0_0.length ≤ c0_0) (hr0_1 : Kd.C k63 w A0_1 l0_1.length l0_1) (hc0_1 : l0_1.length ≤ c0_1) (hr0_2 : Kd.C k27 w A0_2 l0_2.length l0_2) (hc0_2 : l0_2.length ≤ c0_2) (hr0_3 : Kd.C k65 w A0_3 l0_3.length l0_3) (hc0_3 : l0_3.length ≤ c0_3) (hr1_0 : Kd.C (Kd.int .i64) w A1_0 l1_0.length l1_0) (hc1_0 : l1_0.length ≤ c1_0) (hr1_1 : Kd.C (Kd.int .i64) w A1_1 l1_1.length l1_1) (hc1_1 : l1_1.length ≤ c1_1) (hr1_5 : Kd.C (Kd.int .i64) w A1_5 l1_5.length l1_5) (hc1_5 : l1_5.length ≤ c1_5) (h : lw_BatchGlasses.f k l0_0 l0_1 l0_2 l0_3 a0_4 a0_5 a0_6 l1_0 l1_1 a1_2 a1_3 a1_4 l1_5 = some r) :
  Calls Try.prog 3 #[.agg #[.slice A0_0 l0_0.length c0_0, .slice A0_1 l0_1.length c0_1, .slice A0_2 l0_2.length c0_2, .slice A0_3 l0_3.length c0_3, .int .i64 a0_4, .int .i64 a0_5, .int .i64 a0_6], .agg #[.slice A1_0 l1_0.length c1_0, .slice A1_1 l1_1.length c1_1, .int .i64 a1_2, .int .i64 a1_3, .int .i64 a1_4, .slice A1_5 l1_5.length c1_5]] w fun e w' => e = .returned (.bool r) ∧ Below w.heap.size w w' := by
 have hu29 := Try.underlying29; have hu34 := Try.underlying34; have hu27 := Try.underlying27; have HR0_0 := Sd.mk hr0_0; have HC0_0 := Sd.mk hc0_0; clear hr0_0 hc0_0; have HR0_1 := Sd.mk hr0_1; have HC0_1 := Sd.mk hc0_1; clear hr0_1 hc0_1; have HR0_2 := Sd.mk hr0_2; have HC0_2 := Sd.mk hc0_2; clear hr0_2 hc0_2; have HR0_3 := Sd.mk hr0_3; have HC0_3 := Sd.mk hc0_3; clear hr0_3 hc0_3; have HR1_0 := Sd.mk hr1_0; have HC1_0 := Sd.mk hc1_0; clear hr1_0 hc1_0; have HR1_1 := Sd.mk hr1_1; have HC1_1 := Sd.mk hc1_1; clear hr1_1 hc1_1; have HR1_5 := Sd.mk hr1_5; have HC1_5 := Sd.mk hc1_5; clear hr1_5 hc1_5; have HB := Sd.mk (Below.refl w.heap.size w)
 have H : ((lw_Great.f k l0_0 l0_1 l0_2 l0_3 a0_4 a0_5 a0_6).bind fun t376 => (if t376 = true then (lw_BatchGlasses.j0 k true l0_0 l0_1 l0_2 l0_3 a0_4 a0_5 a0_6 l1_0 l1_1 a1_2 a1_3 a1_4 l1_5) else ((lw_wide.f l1_0 l1_1 a1_2 a1_3 a1_4 l1_5).bind fun t377 => (lw_BatchGlasses.j0 k t377 l0_0 l0_1 l0_2 l0_3 a0_4 a0_5 a0_6 l1_0 l1_1 a1_2 a1_3 a1_4 l1_5)))) = some r := h
 clear h; have HC3 := Sd.mk H; clear H
 go_enter Try.func3, Try.ntmps3
 go_upto_region 1 with (first | ((with_reducible refine gate_dst (N := 2) rfl ?_); refine box_event ?hg (N := 2) ?hd (cs := #[.slice A0_0 l0_0.length c0_0, .slice A0_1 l0_1.length c0_1, .slice A0_2 l0_2.length c0_2, .slice A0_3 l0_3.length c0_3, .int .i64 a0_4, .int .i64 a0_5, .int .i64 a0_6]) (t := 29) ?hr ?_; (case hd => rfl); (case hg => rfl); (case hr => exact tG); intro gb374 hg w4 hbox hb; have BK374 := Sd.mk (hbox); have GW374 := Sd.mk (bSz hg (bBl HB.out)); have GE374 := Sd.mk (bSz hg (bBl HB.out)); replace HB := Sd.mk (below_step (bBl HB.out) hb); clear hb hbox hg) | ((with_reducible refine gate_dst (N := 3) rfl ?_); refine box_event ?hg (N := 3) ?hd (cs := #[.slice A1_0 l1_0.length c1_0, .slice A1_1 l1_1.length c1_1, .int .i64 a1_2, .int .i64 a1_3, .int .i64 a1_4, .slice A1_5 l1_5.length c1_5]) (t := 34) ?hr ?_; (case hd => rfl); (case hg => rfl); (case hr => exact tG); intro gb375 hg w5 hbox hb; have BK375 := Sd.mk (hbox); have GW375 := Sd.mk (bSz hg (bBl HB.out)); have GE375 := Sd.mk (bSz hg (bBl HB.out)); replace HB := Sd.mk (below_step (bBl HB.out) hb); have NB374_375 := Sd.mk (bNl hg (bkA BK374.out)); have NB375_374 := Sd.mk (bNg hg (bkA BK374.out)); replace BK374 := Sd.mk (blk_below (bkA BK374.out) hb); clear hb hbox hg))
 (try simp only [Act.put, List.setIfInBounds_toArray, List.set_cons_zero, List.set_cons_succ])
 go_cut [16] (fun v16 wc => ∃ (kq : Nat) (x16_2 : Bool), v16 = .bool x16_2 ∧ Sd (lw_BatchGlasses.j0 kq x16_2 l0_0 l0_1 l0_2 l0_3 a0_4 a0_5 a0_6 l1_0 l1_1 a1_2 a1_3 a1_4 l1_5 = some r) ∧ Sd (kq ≤ k) ∧ Sd (wc.heap[gb374]? = some (.cells #[(.slice A0_0 l0_0.length c0_0), (.slice A0_1 l0_1.length c0_1), (.slice A0_2 l0_2.length c0_2), (.slice A0_3 l0_3.length c0_3), .int .i64 a0_4, .int .i64 a0_5, .int .i64 a0_6] 29 (0, 0))) ∧ Sd (wc.heap[gb375]? = some (.cells #[(.slice A1_0 l1_0.length c1_0), (.slice A1_1 l1_1.length c1_1), .int .i64 a1_2, .int .i64 a1_3, .int .i64 a1_4, (.slice A1_5 l1_5.length c1_5)] 34 (0, 0))) ∧ Sd (Below w.heap.size w wc))
 case first =>
  have H := HC3.out; clear HC3; replace H := Option.bind_eq_some_iff.mp H; obtain ⟨t376, A60, H⟩ := H
  try dsimp only at H
  have A6 := Sd.mk A60; clear A60
  by_cases c7 : t376 = true
  ·subst c7
   have H1 : (lw_BatchGlasses.j0 k true l0_0 l0_1 l0_2 l0_3 a0_4 a0_5 a0_6 l1_0 l1_1 a1_2 a1_3 a1_4 l1_5) = some r := by rw [if_pos rfl] at H; exact H
   clear H; have H := H1; clear H1; have H' := Sd.mk H; clear H; have hnb8 := NB374_375.out; have hnc8 := NB375_374.out; obtain ⟨u9_0, u9_1, u9_2, u9_3, u9_4, u9_5, u9_6, o9_0, o9_1, o9_2, o9_3, o9_4, o9_5, o9_6⟩ := bc7 (w := w5) BK374.out
   go_wp2_with (first | ((with_reducible refine gate_callee (f := 12) rfl ?_); refine goesL_ (some 12) rfl rfl Try.func12 (by kernel_rfl) rfl #[.agg #[.slice A0_0 l0_0.length c0_0, .slice A0_1 l0_1.length c0_1, .slice A0_2 l0_2.length c0_2, .slice A0_3 l0_3.length c0_3, .int .i64 a0_4, .int .i64 a0_5, .int .i64 a0_6]] rfl tM ?_; (with_reducible refine (lw_Great.calls k _ _ l0_0 _ _ l0_1 _ _ l0_2 _ _ l0_3 a0_4 a0_5 a0_6 true _ (cS (Kd.C_below HR0_0.out HB.out)) HC0_0.out (cS (Kd.C_below HR0_1.out HB.out)) HC0_1.out (cS (Kd.C_below HR0_2.out HB.out)) HC0_2.out (cS (Kd.C_below HR0_3.out HB.out)) HC0_3.out A6.out).mono ?_); rintro e w10 ⟨rfl, hb⟩; refine ⟨_, rfl, ?_⟩; replace BK374 := Sd.mk (blk_below (bkA BK374.out) hb); replace BK375 := Sd.mk (blk_below (bkA BK375.out) hb); replace HB := Sd.mk (below_step (bBl HB.out) hb); (try clear hb); (try clear hb2); (try clear hk); (try clear hi)))
   go_meet
   case rel => exact ⟨_, (true), tS, H', ⟨by first | omega | exact Nat.le_refl _⟩, ⟨bkA BK374.out⟩, ⟨bkA BK375.out⟩, ⟨bBl HB.out⟩⟩
  ·replace c7 := Bool.eq_false_iff.mpr c7
   subst c7
   have H1 : ((lw_wide.f l1_0 l1_1 a1_2 a1_3 a1_4 l1_5).bind fun t377 => (lw_BatchGlasses.j0 k t377 l0_0 l0_1 l0_2 l0_3 a0_4 a0_5 a0_6 l1_0 l1_1 a1_2 a1_3 a1_4 l1_5)) = some r := by rw [if_neg (show ¬ (false = true) by decide)] at H; exact H
   clear H; have H := H1; clear H1; replace H := Option.bind_eq_some_iff.mp H; obtain ⟨t377, A110, H⟩ := H
   try dsimp only at H
   have A11 := Sd.mk A110; clear A110; have H' := Sd.mk H; clear H; have hnb12 := NB374_375.out; have hnc12 := NB375_374.out; obtain ⟨u13_0, u13_1, u13_2, u13_3, u13_4, u13_5, u13_6, o13_0, o13_1, o13_2, o13_3, o13_4, o13_5, o13_6⟩ := bc7 (w := w5) BK374.out
   go_wp2_with (first | ((with_reducible refine gate_callee (f := 12) rfl ?_); refine goesL_ (some 12) rfl rfl Try.func12 (by kernel_rfl) rfl #[.agg #[.slice A0_0 l0_0.length c0_0, .slice A0_1 l0_1.length c0_1, .slice A0_2 l0_2.length c0_2, .slice A0_3 l0_3.length c0_3, .int .i64 a0_4, .int .i64 a0_5, .int .i64 a0_6]] rfl tM ?_; (with_reducible refine (lw_Great.calls k _ _ l0_0 _ _ l0_1 _ _ l0_2 _ _ l0_3 a0_4 a0_5 a0_6 false _ (cS (Kd.C_below HR0_0.out HB.out)) HC0_0.out (cS (Kd.C_below HR0_1.out HB.out)) HC0_1.out (cS (Kd.C_below HR0_2.out HB.out)) HC0_2.out (cS (Kd.C_below HR0_3.out HB.out)) HC0_3.out A6.out).mono ?_); rintro e w14 ⟨rfl, hb⟩; refine ⟨_, rfl, ?_⟩; replace BK374 := Sd.mk (blk_below (bkA BK374.out) hb); replace BK375 := Sd.mk (blk_below (bkA BK375.out) hb); replace HB := Sd.mk (below_step (bBl HB.out) hb); (try clear hb); (try clear hb2); (try clear hk); (try clear hi); obtain ⟨u15_0, u15_1, u15_2, u15_3, u15_4, u15_5, o15_0, o15_1, o15_2, o15_3, o15_4, o15_5⟩ := bc6 (w := w14) BK375.out) | (go_at_call 13; (with_reducible refine (lw_wide.calls _ _ l1_0 _ _ l1_1 a1_2 a1_3 a1_4 _ _ l1_5 t377 _ (cS (Kd.C_below HR1_0.out HB.out)) HC1_0.out (cS (Kd.C_below HR1_1.out HB.out)) HC1_1.out (cS (Kd.C_below HR1_5.out HB.out)) HC1_5.out A11.out).mono ?_); rintro e w16 ⟨rfl, hb⟩; replace BK374 := Sd.mk (blk_below (bkA BK374.out) hb); replace BK375 := Sd.mk (blk_below (bkA BK375.out) hb); replace HB := Sd.mk (below_step (bBl HB.out) hb); (try clear hb); (try clear hb2); (try clear hk); (try clear hi)))
   go_meet
   case rel => exact ⟨_, (t377), tS, H', ⟨by first | omega | exact Nat.le_refl _⟩, ⟨bkA BK374.out⟩, ⟨bkA BK375.out⟩, ⟨bBl HB.out⟩⟩
 case rest =>
  clear HC3; (try clear c1); (try clear p2); (try clear c3); (try clear c7); (try clear c8); (try clear c12); (try clear u13_0 u13_1 u13_2 u13_3 u13_4 u13_5 u13_6); (try clear u15_0 u15_1 u15_2 u15_3 u15_4 u15_5); (try clear u9_0 u9_1 u9_2 u9_3 u9_4 u9_5 u9_6); (try clear o13_0 o13_1 o13_2 o13_3 o13_4 o13_5 o13_6); (try clear o15_0 o15_1 o15_2 o15_3 o15_4 o15_5); (try clear o9_0 o9_1 o9_2 o9_3 o9_4 o9_5 o9_6); obtain ⟨kq, x16_2, rfl, HA, HJ2, BK374, BK375, HB⟩ := hcut
  cases kq with
  | zero => exact absurd HA.out (by simp [lw_BatchGlasses.j0])
  | succ kj2 =>
   have H := HA.out; clear HA
   simp only [lw_BatchGlasses.j0] at H
   by_cases c17 : x16_2 = true
   ·subst c17
    have H1 : ((lw_lives.f kj2).bind fun t378 => (some t378)) = some r := by rw [if_pos rfl] at H; exact H
    clear H; have H := H1; clear H1; replace H := Option.bind_eq_some_iff.mp H; obtain ⟨t378, A180, H⟩ := H
    try dsimp only at H
    have A18 := Sd.mk A180; clear A180; obtain rfl := Option.some.inj H
    go_wp2_with (first | ((with_reducible refine gate_callee (f := 14) rfl ?_); refine goesL_ (some 17) rfl rfl Try.func14 (by kernel_rfl) rfl #[] rfl tM ?_; (with_reducible refine (lw_lives.calls kj2  t378 _ A18.out).mono ?_); rintro e w19 ⟨rfl, hb⟩; refine ⟨_, rfl, ?_⟩; replace BK374 := Sd.mk (blk_below (bkA BK374.out) hb); replace BK375 := Sd.mk (blk_below (bkA BK375.out) hb); replace HB := Sd.mk (below_step (bBl HB.out) hb); (try clear hb); (try clear hb2); (try clear hk); (try clear hi)))
    go_ret
    exact ⟨tE, bBl HB.out⟩
   ·replace c17 := Bool.eq_false_iff.mpr c17
    subst c17
    have H1 : ((batch_Grams.f kj2 l0_0 l0_1 l0_2 l0_3 a0_4 a0_5 a0_6 l1_0).bind fun bt379 => ((rf_Grams.f kj2 l0_0 l0_1 l0_2 l0_3 a0_4 a0_5 a0_6 l1_0).bind fun bt383 => (if bt379.2 = bt383.2 then ((lw_SameSpans.f kj2 bt379.1 bt383.1).bind fun t387 => (lw_BatchGlasses.j1 kj2 (!t387) l0_0 l0_1 l0_2 l0_3 a0_4 a0_5 a0_6 l1_0 l1_1 a1_2 a1_3 a1_4 l1_5)) else (lw_BatchGlasses.j1 kj2 true l0_0 l0_1 l0_2 l0_3 a0_4 a0_5 a0_6 l1_0 l1_1 a1_2 a1_3 a1_4 l1_5)))) = some r := by rw [if_neg (show ¬ (false = true) by decide)] at H; exact H
    clear H; have H := H1; clear H1; replace H := Option.bind_eq_some_iff.mp H
    obtain ⟨⟨t379, t382⟩, A200, H⟩ := H
    try dsimp only at H
    have A20 := Sd.mk A200; clear A200; replace H := Option.bind_eq_some_iff.mp H
    obtain ⟨⟨t383, t386⟩, A210, H⟩ := H
    try dsimp only at H
    have A21 := Sd.mk A210; clear A210; have HC22 := Sd.mk H; clear H; have hnb23 := NB374_375.out; have hnc23 := NB375_374.out; obtain ⟨u24_0, u24_1, u24_2, u24_3, u24_4, u24_5, u24_6, o24_0, o24_1, o24_2, o24_3, o24_4, o24_5, o24_6⟩ := bc7 (w := wc) BK374.out; obtain ⟨u25_0, u25_1, u25_2, u25_3, u25_4, u25_5, o25_0, o25_1, o25_2, o25_3, o25_4, o25_5⟩ := bc6 (w := wc) BK375.out
    go_upto_region 5 with (first | ((with_reducible refine gate_callee (f := 15) rfl ?_); refine goesL_ (some 22) rfl rfl Try.func15 (by kernel_rfl) rfl #[.agg #[.slice A0_0 l0_0.length c0_0, .slice A0_1 l0_1.length c0_1, .slice A0_2 l0_2.length c0_2, .slice A0_3 l0_3.length c0_3, .int .i64 a0_4, .int .i64 a0_5, .int .i64 a0_6], .slice A1_0 l1_0.length c1_0] rfl tM ?_; (with_reducible refine (batch_Grams.calls kj2 _ _ l0_0 _ _ l0_1 _ _ l0_2 _ _ l0_3 a0_4 a0_5 a0_6 _ _ l1_0 t379 t382 _ (cS (Kd.C_below HR0_0.out HB.out)) HC0_0.out (cS (Kd.C_below HR0_1.out HB.out)) HC0_1.out (cS (Kd.C_below HR0_2.out HB.out)) HC0_2.out (cS (Kd.C_below HR0_3.out HB.out)) HC0_3.out (cS (Kd.C_below HR1_0.out HB.out)) HC1_0.out A20.out).mono ?_); rintro e w26 ⟨v380, rfl, ho0, hb⟩; refine ⟨_, rfl, ?_⟩; have HO381 := Sd.mk (Kd.R_lower ho0 (below_size (bBl HB.out))); replace BK374 := Sd.mk (blk_below (bkA BK374.out) hb); replace BK375 := Sd.mk (blk_below (bkA BK375.out) hb); replace HB := Sd.mk (below_step (bBl HB.out) hb); (try clear hb); (try clear hb2); (try clear hk); (try clear hi); (try clear ho0); obtain ⟨u27_0, u27_1, u27_2, u27_3, u27_4, u27_5, u27_6, o27_0, o27_1, o27_2, o27_3, o27_4, o27_5, o27_6⟩ := bc7 (w := w26) BK374.out; obtain ⟨u28_0, u28_1, u28_2, u28_3, u28_4, u28_5, o28_0, o28_1, o28_2, o28_3, o28_4, o28_5⟩ := bc6 (w := w26) BK375.out) | ((with_reducible refine gate_callee (f := 16) rfl ?_); refine goesL_ (some 29) rfl rfl Try.func16 (by kernel_rfl) rfl #[.agg #[.slice A0_0 l0_0.length c0_0, .slice A0_1 l0_1.length c0_1, .slice A0_2 l0_2.length c0_2, .slice A0_3 l0_3.length c0_3, .int .i64 a0_4, .int .i64 a0_5, .int .i64 a0_6], .slice A1_0 l1_0.length c1_0] rfl tM ?_; (with_reducible refine (rf_Grams.calls kj2 _ _ l0_0 _ _ l0_1 _ _ l0_2 _ _ l0_3 a0_4 a0_5 a0_6 _ _ l1_0 t383 t386 _ (cS (Kd.C_below HR0_0.out HB.out)) HC0_0.out (cS (Kd.C_below HR0_1.out HB.out)) HC0_1.out (cS (Kd.C_below HR0_2.out HB.out)) HC0_2.out (cS (Kd.C_below HR0_3.out HB.out)) HC0_3.out (cS (Kd.C_below HR1_0.out HB.out)) HC1_0.out A21.out).mono ?_); rintro e w29 ⟨v384, rfl, ho0, hb⟩; refine ⟨_, rfl, ?_⟩; have HO385 := Sd.mk (Kd.R_lower (Kd.R_new' ho0 (Kd.R_lt (by (with_reducible repeat (first | apply Kd.R_alloc | apply Kd.R_drewN | apply Kd.R_drew)); exact HO381.out))) (below_size (bBl HB.out))); replace HO381 := Sd.mk (Kd.R_elder' (by (with_reducible repeat (first | apply Kd.R_alloc | apply Kd.R_drewN | apply Kd.R_drew)); exact HO381.out) (Kd.R_base ho0) hb); replace BK374 := Sd.mk (blk_below (bkA BK374.out) hb); replace BK375 := Sd.mk (blk_below (bkA BK375.out) hb); replace HB := Sd.mk (below_step (bBl HB.out) hb); (try clear hb); (try clear hb2); (try clear hk); (try clear hi); (try clear ho0)))
    (try simp only [Act.put, List.setIfInBounds_toArray, List.set_cons_zero, List.set_cons_succ])
    go_cut [40] (fun v40 wc => ∃ (kq : Nat) (x40_21 : Bool), v40 = .bool x40_21 ∧ Sd (lw_BatchGlasses.j1 kq x40_21 l0_0 l0_1 l0_2 l0_3 a0_4 a0_5 a0_6 l1_0 l1_1 a1_2 a1_3 a1_4 l1_5 = some r) ∧ Sd (kq ≤ kj2) ∧ Sd (wc.heap[gb374]? = some (.cells #[(.slice A0_0 l0_0.length c0_0), (.slice A0_1 l0_1.length c0_1), (.slice A0_2 l0_2.length c0_2), (.slice A0_3 l0_3.length c0_3), .int .i64 a0_4, .int .i64 a0_5, .int .i64 a0_6] 29 (0, 0))) ∧ Sd (wc.heap[gb375]? = some (.cells #[(.slice A1_0 l1_0.length c1_0), (.slice A1_1 l1_1.length c1_1), .int .i64 a1_2, .int .i64 a1_3, .int .i64 a1_4, (.slice A1_5 l1_5.length c1_5)] 34 (0, 0))) ∧ Sd (Below w.heap.size w wc))
    case first =>
     have H := HC22.out; clear HC22
     by_cases c30 : t382 = t386
     ·rw [if_pos c30] at H
      have c30b0 : (t382 == t386) = true := beq_iff_eq.mpr c30
      have c30b1 : (t382 != t386) = false := bne_eq_false_iff_eq.mpr c30
      clear c30
      (first | rw [c30b0] | (simp only [i64_w, i32_w]; rw [c30b0]) | skip)
      replace H := Option.bind_eq_some_iff.mp H; obtain ⟨t387, A310, H⟩ := H
      try dsimp only at H
      have A31 := Sd.mk A310; clear A310; have H' := Sd.mk H; clear H; obtain ⟨Ao32, co32, eo32⟩ := Kd.R_slice HO381.out; subst eo32; obtain ⟨Ao33, co33, eo33⟩ := Kd.R_slice HO385.out; subst eo33
      go_wp2_with (first | (go_at_call 17; (with_reducible refine (lw_SameSpans.calls kj2 _ _ t379 _ _ t383 t387 _ (cS ((Kd.R_reads' HO381.out).2.2)) ((Kd.R_reads' HO381.out).2.1) (cS ((Kd.R_reads' HO385.out).2.2)) ((Kd.R_reads' HO385.out).2.1) A31.out).mono ?_); rintro e w' ⟨rfl, ⟨nd, rfl⟩⟩))
      go_meet
      case rel => exact ⟨_, (!t387), tS, H', ⟨by have := HJ2.out; first | omega | exact Nat.le_refl _⟩, ⟨bkA BK374.out⟩, ⟨bkA BK375.out⟩, ⟨bBl HB.out⟩⟩
     ·rw [if_neg c30] at H
      have c30b0 : (t382 == t386) = false := beq_eq_false_iff_ne.mpr c30
      have c30b1 : (t382 != t386) = true := bne_iff_ne.mpr c30
      (first | rw [c30b0] | (simp only [i64_w, i32_w]; rw [c30b0]) | skip)
      have H' := Sd.mk H; clear H
      go_wp2
      go_meet
      case rel => exact ⟨_, (true), tS, H', ⟨by have := HJ2.out; first | omega | exact Nat.le_refl _⟩, ⟨bkA BK374.out⟩, ⟨bkA BK375.out⟩, ⟨bBl HB.out⟩⟩
    case rest =>
     clear HC22; (try clear c1); (try clear c2); (try clear p2 p2); (try clear c3); (try clear c7); (try clear c8); (try clear c12); (try clear c14); (try clear c15); (try clear c16); (try clear c17); (try clear c23); (try clear c30); (try clear c30b0); (try clear c30b1); (try clear u13_0 u13_1 u13_2 u13_3 u13_4 u13_5 u13_6); (try clear u15_0 u15_1 u15_2 u15_3 u15_4 u15_5); (try clear u24_0 u24_1 u24_2 u24_3 u24_4 u24_5 u24_6); (try clear u25_0 u25_1 u25_2 u25_3 u25_4 u25_5); (try clear u27_0 u27_1 u27_2 u27_3 u27_4 u27_5 u27_6); (try clear u28_0 u28_1 u28_2 u28_3 u28_4 u28_5); (try clear u9_0 u9_1 u9_2 u9_3 u9_4 u9_5 u9_6); (try clear o13_0 o13_1 o13_2 o13_3 o13_4 o13_5 o13_6); (try clear o15_0 o15_1 o15_2 o15_3 o15_4 o15_5); (try clear o24_0 o24_1 o24_2 o24_3 o24_4 o24_5 o24_6); (try clear o25_0 o25_1 o25_2 o25_3 o25_4 o25_5); (try clear o27_0 o27_1 o27_2 o27_3 o27_4 o27_5 o27_6); (try clear o28_0 o28_1 o28_2 o28_3 o28_4 o28_5); (try clear o9_0 o9_1 o9_2 o9_3 o9_4 o9_5 o9_6); obtain ⟨kq, x40_21, rfl, HA, HJ21, BK374, BK375, HB⟩ := hcut
     cases kq with
     | zero => exact absurd HA.out (by simp [lw_BatchGlasses.j1])
     | succ kj21 =>
      have H := HA.out; clear HA
      simp only [lw_BatchGlasses.j1] at H
      by_cases c34 : x40_21 = true
      ·subst c34
       have H1 : (some false) = some r := by rw [if_pos rfl] at H; exact H
       clear H; have H := H1; clear H1; obtain rfl := Option.some.inj H
       go_wp2
       go_ret
       exact ⟨tE, bBl HB.out⟩
      ·replace c34 := Bool.eq_false_iff.mpr c34
       subst c34
       have H1 : ((x_Glass.f kj21 l0_0 l0_1 l0_2 l0_3 a0_4 a0_5 a0_6 l1_0).bind fun bt388 => ((rf_Glass.f kj21 l0_0 l0_1 l0_2 l0_3 a0_4 a0_5 a0_6 l1_0).bind fun bt392 => (if bt388.2 = bt392.2 then ((lw_SameSpans.f kj21 bt388.1 bt392.1).bind fun t396 => (lw_BatchGlasses.j2 kj21 (!t396) l0_0 l0_1 l0_2 l0_3 a0_4 a0_5 a0_6 l1_0 l1_1 a1_2 a1_3 a1_4 l1_5)) else (lw_BatchGlasses.j2 kj21 true l0_0 l0_1 l0_2 l0_3 a0_4 a0_5 a0_6 l1_0 l1_1 a1_2 a1_3 a1_4 l1_5)))) = some r := by rw [if_neg (show ¬ (false = true) by decide)] at H; exact H
       clear H; have H := H1; clear H1; replace H := Option.bind_eq_some_iff.mp H
       obtain ⟨⟨t388, t391⟩, A350, H⟩ := H
       try dsimp only at H
       have A35 := Sd.mk A350; clear A350; replace H := Option.bind_eq_some_iff.mp H
       obtain ⟨⟨t392, t395⟩, A360, H⟩ := H
       try dsimp only at H
       have A36 := Sd.mk A360; clear A360; have HC37 := Sd.mk H; clear H; have hnb38 := NB374_375.out; have hnc38 := NB375_374.out; obtain ⟨u39_0, u39_1, u39_2, u39_3, u39_4, u39_5, u39_6, o39_0, o39_1, o39_2, o39_3, o39_4, o39_5, o39_6⟩ := bc7 (w := wc) BK374.out; obtain ⟨u40_0, u40_1, u40_2, u40_3, u40_4, u40_5, o40_0, o40_1, o40_2, o40_3, o40_4, o40_5⟩ := bc6 (w := wc) BK375.out
       go_upto_region 9 with (first | ((with_reducible refine gate_callee (f := 18) rfl ?_); refine goesL_ (some 45) rfl rfl Try.func18 (by kernel_rfl) rfl #[.agg #[.slice A0_0 l0_0.length c0_0, .slice A0_1 l0_1.length c0_1, .slice A0_2 l0_2.length c0_2, .slice A0_3 l0_3.length c0_3, .int .i64 a0_4, .int .i64 a0_5, .int .i64 a0_6], .slice A1_0 l1_0.length c1_0] rfl tM ?_; (with_reducible refine (x_Glass.calls kj21 _ _ l0_0 _ _ l0_1 _ _ l0_2 _ _ l0_3 a0_4 a0_5 a0_6 _ _ l1_0 t388 t391 _ (cS (Kd.C_below HR0_0.out HB.out)) HC0_0.out (cS (Kd.C_below HR0_1.out HB.out)) HC0_1.out (cS (Kd.C_below HR0_2.out HB.out)) HC0_2.out (cS (Kd.C_below HR0_3.out HB.out)) HC0_3.out (cS (Kd.C_below HR1_0.out HB.out)) HC1_0.out A35.out).mono ?_); rintro e w41 ⟨v389, rfl, ho0, hb⟩; refine ⟨_, rfl, ?_⟩; have HO390 := Sd.mk (Kd.R_lower ho0 (below_size (bBl HB.out))); replace BK374 := Sd.mk (blk_below (bkA BK374.out) hb); replace BK375 := Sd.mk (blk_below (bkA BK375.out) hb); replace HB := Sd.mk (below_step (bBl HB.out) hb); (try clear hb); (try clear hb2); (try clear hk); (try clear hi); (try clear ho0); obtain ⟨u42_0, u42_1, u42_2, u42_3, u42_4, u42_5, u42_6, o42_0, o42_1, o42_2, o42_3, o42_4, o42_5, o42_6⟩ := bc7 (w := w41) BK374.out; obtain ⟨u43_0, u43_1, u43_2, u43_3, u43_4, u43_5, o43_0, o43_1, o43_2, o43_3, o43_4, o43_5⟩ := bc6 (w := w41) BK375.out) | ((with_reducible refine gate_callee (f := 19) rfl ?_); refine goesL_ (some 52) rfl rfl Try.func19 (by kernel_rfl) rfl #[.agg #[.slice A0_0 l0_0.length c0_0, .slice A0_1 l0_1.length c0_1, .slice A0_2 l0_2.length c0_2, .slice A0_3 l0_3.length c0_3, .int .i64 a0_4, .int .i64 a0_5, .int .i64 a0_6], .slice A1_0 l1_0.length c1_0] rfl tM ?_; (with_reducible refine (rf_Glass.calls kj21 _ _ l0_0 _ _ l0_1 _ _ l0_2 _ _ l0_3 a0_4 a0_5 a0_6 _ _ l1_0 t392 t395 _ (cS (Kd.C_below HR0_0.out HB.out)) HC0_0.out (cS (Kd.C_below HR0_1.out HB.out)) HC0_1.out (cS (Kd.C_below HR0_2.out HB.out)) HC0_2.out (cS (Kd.C_below HR0_3.out HB.out)) HC0_3.out (cS (Kd.C_below HR1_0.out HB.out)) HC1_0.out A36.out).mono ?_); rintro e w44 ⟨v393, rfl, ho0, hb⟩; refine ⟨_, rfl, ?_⟩; have HO394 := Sd.mk (Kd.R_lower (Kd.R_new' ho0 (Kd.R_lt (by (with_reducible repeat (first | apply Kd.R_alloc | apply Kd.R_drewN | apply Kd.R_drew)); exact HO390.out))) (below_size (bBl HB.out))); replace HO390 := Sd.mk (Kd.R_elder' (by (with_reducible repeat (first | apply Kd.R_alloc | apply Kd.R_drewN | apply Kd.R_drew)); exact HO390.out) (Kd.R_base ho0) hb); replace BK374 := Sd.mk (blk_below (bkA BK374.out) hb); replace BK375 := Sd.mk (blk_below (bkA BK375.out) hb); replace HB := Sd.mk (below_step (bBl HB.out) hb); (try clear hb); (try clear hb2); (try clear hk); (try clear hi); (try clear ho0)))
       (try simp only [Act.put, List.setIfInBounds_toArray, List.set_cons_zero, List.set_cons_succ])
       go_cut [63] (fun v63 wc => ∃ (kq : Nat) (x63_36 : Bool), v63 = .bool x63_36 ∧ Sd (lw_BatchGlasses.j2 kq x63_36 l0_0 l0_1 l0_2 l0_3 a0_4 a0_5 a0_6 l1_0 l1_1 a1_2 a1_3 a1_4 l1_5 = some r) ∧ Sd (kq ≤ kj21) ∧ Sd (wc.heap[gb374]? = some (.cells #[(.slice A0_0 l0_0.length c0_0), (.slice A0_1 l0_1.length c0_1), (.slice A0_2 l0_2.length c0_2), (.slice A0_3 l0_3.length c0_3), .int .i64 a0_4, .int .i64 a0_5, .int .i64 a0_6] 29 (0, 0))) ∧ Sd (wc.heap[gb375]? = some (.cells #[(.slice A1_0 l1_0.length c1_0), (.slice A1_1 l1_1.length c1_1), .int .i64 a1_2, .int .i64 a1_3, .int .i64 a1_4, (.slice A1_5 l1_5.length c1_5)] 34 (0, 0))) ∧ Sd (Below w.heap.size w wc))
       case first =>
        have H := HC37.out; clear HC37
        by_cases c45 : t391 = t395
        ·rw [if_pos c45] at H
         have c45b0 : (t391 == t395) = true := beq_iff_eq.mpr c45
         have c45b1 : (t391 != t395) = false := bne_eq_false_iff_eq.mpr c45
         clear c45
         (first | rw [c45b0] | (simp only [i64_w, i32_w]; rw [c45b0]) | skip)
         replace H := Option.bind_eq_some_iff.mp H; obtain ⟨t396, A460, H⟩ := H
         try dsimp only at H
         have A46 := Sd.mk A460; clear A460; have H' := Sd.mk H; clear H; obtain ⟨Ao47, co47, eo47⟩ := Kd.R_slice HO390.out; subst eo47; obtain ⟨Ao48, co48, eo48⟩ := Kd.R_slice HO394.out; subst eo48
         go_wp2_with (first | (go_at_call 17; (with_reducible refine (lw_SameSpans.calls kj21 _ _ t388 _ _ t392 t396 _ (cS ((Kd.R_reads' HO390.out).2.2)) ((Kd.R_reads' HO390.out).2.1) (cS ((Kd.R_reads' HO394.out).2.2)) ((Kd.R_reads' HO394.out).2.1) A46.out).mono ?_); rintro e w' ⟨rfl, ⟨nd, rfl⟩⟩))
         go_meet
         case rel => exact ⟨_, (!t396), tS, H', ⟨by have := HJ2.out; have := HJ21.out; first | omega | exact Nat.le_refl _⟩, ⟨bkA BK374.out⟩, ⟨bkA BK375.out⟩, ⟨bBl HB.out⟩⟩
        ·rw [if_neg c45] at H
         have c45b0 : (t391 == t395) = false := beq_eq_false_iff_ne.mpr c45
         have c45b1 : (t391 != t395) = true := bne_iff_ne.mpr c45
         (first | rw [c45b0] | (simp only [i64_w, i32_w]; rw [c45b0]) | skip)
         have H' := Sd.mk H; clear H
         go_wp2
         go_meet
         case rel => exact ⟨_, (true), tS, H', ⟨by have := HJ2.out; have := HJ21.out; first | omega | exact Nat.le_refl _⟩, ⟨bkA BK374.out⟩, ⟨bkA BK375.out⟩, ⟨bBl HB.out⟩⟩
       case rest =>
        clear HC37; (try clear c1); (try clear c2); (try clear p2 p2); (try clear c3); (try clear c4); (try clear c7); (try clear c8); (try clear c12); (try clear c14); (try clear c15); (try clear c16); (try clear c17); (try clear c18); (try clear c19); (try clear c23); (try clear c30); (try clear c30b0); (try clear c30b1); (try clear c34); (try clear c38); (try clear c45); (try clear c45b0); (try clear c45b1); (try clear u13_0 u13_1 u13_2 u13_3 u13_4 u13_5 u13_6); (try clear u15_0 u15_1 u15_2 u15_3 u15_4 u15_5); (try clear u24_0 u24_1 u24_2 u24_3 u24_4 u24_5 u24_6); (try clear u25_0 u25_1 u25_2 u25_3 u25_4 u25_5); (try clear u27_0 u27_1 u27_2 u27_3 u27_4 u27_5 u27_6); (try clear u28_0 u28_1 u28_2 u28_3 u28_4 u28_5); (try clear u39_0 u39_1 u39_2 u39_3 u39_4 u39_5 u39_6); (try clear u40_0 u40_1 u40_2 u40_3 u40_4 u40_5); (try clear u42_0 u42_1 u42_2 u42_3 u42_4 u42_5 u42_6); (try clear u43_0 u43_1 u43_2 u43_3 u43_4 u43_5); (try clear u9_0 u9_1 u9_2 u9_3 u9_4 u9_5 u9_6); (try clear o13_0 o13_1 o13_2 o13_3 o13_4 o13_5 o13_6); (try clear o15_0 o15_1 o15_2 o15_3 o15_4 o15_5); (try clear o24_0 o24_1 o24_2 o24_3 o24_4 o24_5 o24_6); (try clear o25_0 o25_1 o25_2 o25_3 o25_4 o25_5); (try clear o27_0 o27_1 o27_2 o27_3 o27_4 o27_5 o27_6); (try clear o28_0 o28_1 o28_2 o28_3 o28_4 o28_5); (try clear o39_0 o39_1 o39_2 o39_3 o39_4 o39_5 o39_6); (try clear o40_0 o40_1 o40_2 o40_3 o40_4 o40_5); (try clear o42_0 o42_1 o42_2 o42_3 o42_4 o42_5 o42_6); (try clear o43_0 o43_1 o43_2 o43_3 o43_4 o43_5); (try clear o9_0 o9_1 o9_2 o9_3 o9_4 o9_5 o9_6); obtain ⟨kq, x63_36, rfl, HA, HJ36, BK374, BK375, HB⟩ := hcut
        cases kq with
        | zero => exact absurd HA.out (by simp [lw_BatchGlasses.j2])
        | succ kj36 =>
         have H := HA.out; clear HA
         simp only [lw_BatchGlasses.j2] at H
         by_cases c49 : x63_36 = true
         ·subst c49
          have H1 : (some false) = some r := by rw [if_pos rfl] at H; exact H
          clear H; have H := H1; clear H1; obtain rfl := Option.some.inj H
          go_wp2
          go_ret
          exact ⟨tE, bBl HB.out⟩
         ·replace c49 := Bool.eq_false_iff.mpr c49
          subst c49
          have H1 : ((x_Value.f kj36 l0_0 l0_1 l0_2 l0_3 a0_4 a0_5 a0_6 l1_0 a1_2).bind fun bt397 => ((rf_Value.f kj36 l0_0 l0_1 l0_2 l0_3 a0_4 a0_5 a0_6 l1_0 a1_2).bind fun bt401 => (if bt397.2.2 = bt401.2.2 then (lw_BatchGlasses.j3 kj36 (!(bt397.1 == bt401.1) || (!(bt397.2.1 == bt401.2.1))) l0_0 l0_1 l0_2 l0_3 a0_4 a0_5 a0_6 l1_0 l1_1 a1_2 a1_3 a1_4 l1_5) else (lw_BatchGlasses.j3 kj36 true l0_0 l0_1 l0_2 l0_3 a0_4 a0_5 a0_6 l1_0 l1_1 a1_2 a1_3 a1_4 l1_5)))) = some r := by rw [if_neg (show ¬ (false = true) by decide)] at H; exact H
          clear H; have H := H1; clear H1; replace H := Option.bind_eq_some_iff.mp H
          obtain ⟨⟨t397, t398, t399⟩, A500, H⟩ := H
          try dsimp only at H
          have A50 := Sd.mk A500; clear A500; replace H := Option.bind_eq_some_iff.mp H
          obtain ⟨⟨t401, t402, t403⟩, A510, H⟩ := H
          try dsimp only at H
          have A51 := Sd.mk A510; clear A510; have HC52 := Sd.mk H; clear H; have hnb53 := NB374_375.out; have hnc53 := NB375_374.out; obtain ⟨u54_0, u54_1, u54_2, u54_3, u54_4, u54_5, u54_6, o54_0, o54_1, o54_2, o54_3, o54_4, o54_5, o54_6⟩ := bc7 (w := wc) BK374.out; obtain ⟨u55_0, u55_1, u55_2, u55_3, u55_4, u55_5, o55_0, o55_1, o55_2, o55_3, o55_4, o55_5⟩ := bc6 (w := wc) BK375.out
          go_upto_region 13 with (first | ((with_reducible refine gate_callee (f := 20) rfl ?_); refine goesL_ (some 70) rfl rfl Try.func20 (by kernel_rfl) rfl #[.agg #[.slice A0_0 l0_0.length c0_0, .slice A0_1 l0_1.length c0_1, .slice A0_2 l0_2.length c0_2, .slice A0_3 l0_3.length c0_3, .int .i64 a0_4, .int .i64 a0_5, .int .i64 a0_6], .slice A1_0 l1_0.length c1_0, .int .i64 a1_2] rfl tM ?_; (with_reducible refine (x_Value.calls kj36 _ _ l0_0 _ _ l0_1 _ _ l0_2 _ _ l0_3 a0_4 a0_5 a0_6 _ _ l1_0 a1_2 t397 t398 t399 _ (cS (Kd.C_below HR0_0.out HB.out)) HC0_0.out (cS (Kd.C_below HR0_1.out HB.out)) HC0_1.out (cS (Kd.C_below HR0_2.out HB.out)) HC0_2.out (cS (Kd.C_below HR0_3.out HB.out)) HC0_3.out (cS (Kd.C_below HR1_0.out HB.out)) HC1_0.out A50.out).mono ?_); rintro e w56 ⟨rfl, hb⟩; refine ⟨_, rfl, ?_⟩; replace BK374 := Sd.mk (blk_below (bkA BK374.out) hb); replace BK375 := Sd.mk (blk_below (bkA BK375.out) hb); replace HB := Sd.mk (below_step (bBl HB.out) hb); (try clear hb); (try clear hb2); (try clear hk); (try clear hi)) | ((with_reducible refine gate_dst (N := 9) rfl ?_); refine box_event ?hg (N := 9) ?hd (cs := #[.int .i64 0, .int .i64 0]) (t := 27) ?hr ?_; (case hd => rfl); (case hg => rfl); (case hr => exact tG); intro gb400 hg w57 hbox hb; have BK400 := Sd.mk (hbox); have GW400 := Sd.mk (bSz hg (bBl HB.out)); have GE400 := Sd.mk (bSz hg (bBl HB.out)); replace HB := Sd.mk (below_step (bBl HB.out) hb); have NB374_400 := Sd.mk (bNl hg (bkA BK374.out)); have NB400_374 := Sd.mk (bNg hg (bkA BK374.out)); replace BK374 := Sd.mk (blk_below (bkA BK374.out) hb); have NB375_400 := Sd.mk (bNl hg (bkA BK375.out)); have NB400_375 := Sd.mk (bNg hg (bkA BK375.out)); replace BK375 := Sd.mk (blk_below (bkA BK375.out) hb); clear hb hbox hg; have hnb58 := NB400_374.out; have hnc58 := NB374_400.out; have hnb59 := NB400_375.out; have hnc59 := NB375_400.out; obtain ⟨u60_0, u60_1, o60_0, o60_1⟩ := bc2 (w := w57) BK400.out; obtain ⟨u61_0, u61_1, u61_2, u61_3, u61_4, u61_5, u61_6, o61_0, o61_1, o61_2, o61_3, o61_4, o61_5, o61_6⟩ := bc7 (w := w57) BK374.out; obtain ⟨u62_0, u62_1, u62_2, u62_3, u62_4, u62_5, o62_0, o62_1, o62_2, o62_3, o62_4, o62_5⟩ := bc6 (w := w57) BK375.out) | ((with_reducible refine gate_callee (f := 21) rfl ?_); refine goesL_ (some 79) rfl rfl Try.func21 (by kernel_rfl) rfl #[.agg #[.slice A0_0 l0_0.length c0_0, .slice A0_1 l0_1.length c0_1, .slice A0_2 l0_2.length c0_2, .slice A0_3 l0_3.length c0_3, .int .i64 a0_4, .int .i64 a0_5, .int .i64 a0_6], .slice A1_0 l1_0.length c1_0, .int .i64 a1_2] rfl tM ?_; (with_reducible refine (rf_Value.calls kj36 _ _ l0_0 _ _ l0_1 _ _ l0_2 _ _ l0_3 a0_4 a0_5 a0_6 _ _ l1_0 a1_2 t401 t402 t403 _ (Kd.C_below HR0_0.out (bBl HB.out)) HC0_0.out (Kd.C_below HR0_1.out (bBl HB.out)) HC0_1.out (Kd.C_below HR0_2.out (bBl HB.out)) HC0_2.out (Kd.C_below HR0_3.out (bBl HB.out)) HC0_3.out (Kd.C_below HR1_0.out (bBl HB.out)) HC1_0.out A51.out).mono ?_); rintro e w63 ⟨rfl, hb⟩; refine ⟨_, rfl, ?_⟩; replace BK374 := Sd.mk (blk_below (g := gb374) (o := .cells #[.slice A0_0 l0_0.length c0_0, .slice A0_1 l0_1.length c0_1, .slice A0_2 l0_2.length c0_2, .slice A0_3 l0_3.length c0_3, .int .i64 a0_4, .int .i64 a0_5, .int .i64 a0_6] 29 (0, 0)) (by (with_reducible repeat (first | refine blk_drewN ?_ _ | refine blk_drew ?_ | refine blk_alloc ?_ _)); refine blk_far ?_ NB374_400.out _; (with_reducible repeat (first | refine blk_drewN ?_ _ | refine blk_drew ?_ | refine blk_alloc ?_ _)); refine blk_far ?_ NB374_400.out _; (with_reducible repeat (first | refine blk_drewN ?_ _ | refine blk_drew ?_ | refine blk_alloc ?_ _)); exact BK374.out) hb); replace BK375 := Sd.mk (blk_below (g := gb375) (o := .cells #[.slice A1_0 l1_0.length c1_0, .slice A1_1 l1_1.length c1_1, .int .i64 a1_2, .int .i64 a1_3, .int .i64 a1_4, .slice A1_5 l1_5.length c1_5] 34 (0, 0)) (by (with_reducible repeat (first | refine blk_drewN ?_ _ | refine blk_drew ?_ | refine blk_alloc ?_ _)); refine blk_far ?_ NB375_400.out _; (with_reducible repeat (first | refine blk_drewN ?_ _ | refine blk_drew ?_ | refine blk_alloc ?_ _)); refine blk_far ?_ NB375_400.out _; (with_reducible repeat (first | refine blk_drewN ?_ _ | refine blk_drew ?_ | refine blk_alloc ?_ _)); exact BK375.out) hb); replace BK400 := Sd.mk (blk_below (g := gb400) (o := .cells #[.int .i64 t397, .int .i64 t398] 27 (0, 0)) (by (with_reducible repeat (first | refine blk_drewN ?_ _ | refine blk_drew ?_ | refine blk_alloc ?_ _)); refine blk_put (cs := #[.int .i64 t397, .int .i64 0]) ?_ 1 _ rfl; (with_reducible repeat (first | refine blk_drewN ?_ _ | refine blk_drew ?_ | refine blk_alloc ?_ _)); refine blk_put (cs := #[.int .i64 0, .int .i64 0]) ?_ 0 _ rfl; (with_reducible repeat (first | refine blk_drewN ?_ _ | refine blk_drew ?_ | refine blk_alloc ?_ _)); exact BK400.out) hb); replace HB := Sd.mk (below_step (bBl HB.out) hb); (try clear hb); (try clear hb2); (try clear hk); (try clear hi)) | ((with_reducible refine gate_dst (N := 10) rfl ?_); refine box_event ?hg (N := 10) ?hd (cs := #[.int .i64 0, .int .i64 0]) (t := 27) ?hr ?_; (case hd => rfl); (case hg => rfl); (case hr => exact tG); intro gb404 hg w64 hbox hb; have BK404 := Sd.mk (hbox); have GW404 := Sd.mk (bSz hg (bBl HB.out)); have GE404 := Sd.mk (bSz hg (bBl HB.out)); replace HB := Sd.mk (below_step (bBl HB.out) hb); have NB374_404 := Sd.mk (bNl hg (bkA BK374.out)); have NB404_374 := Sd.mk (bNg hg (bkA BK374.out)); replace BK374 := Sd.mk (blk_below (bkA BK374.out) hb); have NB375_404 := Sd.mk (bNl hg (bkA BK375.out)); have NB404_375 := Sd.mk (bNg hg (bkA BK375.out)); replace BK375 := Sd.mk (blk_below (bkA BK375.out) hb); have NB400_404 := Sd.mk (bNl hg (bkA BK400.out)); have NB404_400 := Sd.mk (bNg hg (bkA BK400.out)); replace BK400 := Sd.mk (blk_below (bkA BK400.out) hb); clear hb hbox hg; have hnb65 := NB404_374.out; have hnc65 := NB374_404.out; have hnb66 := NB404_375.out; have hnc66 := NB375_404.out; have hnb67 := NB404_400.out; have hnc67 := NB400_404.out; obtain ⟨u68_0, u68_1, o68_0, o68_1⟩ := bc2 (w := w64) BK404.out))
          (try simp only [Act.put, List.setIfInBounds_toArray, List.set_cons_zero, List.set_cons_succ])
          go_cut [89] (fun v89 wc => ∃ (kq : Nat) (x89_51 : Bool), v89 = .bool x89_51 ∧ Sd (lw_BatchGlasses.j3 kq x89_51 l0_0 l0_1 l0_2 l0_3 a0_4 a0_5 a0_6 l1_0 l1_1 a1_2 a1_3 a1_4 l1_5 = some r) ∧ Sd (kq ≤ kj36) ∧ Sd (wc.heap[gb374]? = some (.cells #[(.slice A0_0 l0_0.length c0_0), (.slice A0_1 l0_1.length c0_1), (.slice A0_2 l0_2.length c0_2), (.slice A0_3 l0_3.length c0_3), .int .i64 a0_4, .int .i64 a0_5, .int .i64 a0_6] 29 (0, 0))) ∧ Sd (wc.heap[gb375]? = some (.cells #[(.slice A1_0 l1_0.length c1_0), (.slice A1_1 l1_1.length c1_1), .int .i64 a1_2, .int .i64 a1_3, .int .i64 a1_4, (.slice A1_5 l1_5.length c1_5)] 34 (0, 0))) ∧ Sd (wc.heap[gb400]? = some (.cells #[.int .i64 t397, .int .i64 t398] 27 (0, 0))) ∧ Sd (wc.heap[gb404]? = some (.cells #[.int .i64 t401, .int .i64 t402] 27 (0, 0))) ∧ Sd (Below w.heap.size w wc))
          case first =>
           have H := HC52.out; clear HC52
           by_cases c69 : t399 = t403
           ·rw [if_pos c69] at H
            have c69b0 : (t399 == t403) = true := beq_iff_eq.mpr c69
            have c69b1 : (t399 != t403) = false := bne_eq_false_iff_eq.mpr c69
            clear c69
            (first | rw [c69b0] | (simp only [i64_w, i32_w]; rw [c69b0]) | skip)
            have H' := Sd.mk H; clear H; have hnb70 := NB400_374.out; have hnc70 := NB374_400.out; have hnb71 := NB400_375.out; have hnc71 := NB375_400.out; have hnb72 := NB400_404.out; have hnc72 := NB404_400.out; obtain ⟨u73_0, u73_1, o73_0, o73_1⟩ := bc2 (w := w64) BK400.out; have hnb74 := NB404_374.out; have hnc74 := NB374_404.out; have hnb75 := NB404_375.out; have hnc75 := NB375_404.out; obtain ⟨u76_0, u76_1, o76_0, o76_1⟩ := bc2 (w := w64) BK404.out
            go_wp2
            go_meet
            case rel => exact ⟨_, ((!(t397 == t401) || (!(t398 == t402)))), tS, H', ⟨by have := HJ2.out; have := HJ21.out; have := HJ36.out; first | omega | exact Nat.le_refl _⟩, ⟨by (with_reducible repeat (first | refine blk_drewN ?_ _ | refine blk_drew ?_ | refine blk_alloc ?_ _)); refine blk_far ?_ NB374_404.out _; (with_reducible repeat (first | refine blk_drewN ?_ _ | refine blk_drew ?_ | refine blk_alloc ?_ _)); refine blk_far ?_ NB374_404.out _; (with_reducible repeat (first | refine blk_drewN ?_ _ | refine blk_drew ?_ | refine blk_alloc ?_ _)); exact BK374.out⟩, ⟨by (with_reducible repeat (first | refine blk_drewN ?_ _ | refine blk_drew ?_ | refine blk_alloc ?_ _)); refine blk_far ?_ NB375_404.out _; (with_reducible repeat (first | refine blk_drewN ?_ _ | refine blk_drew ?_ | refine blk_alloc ?_ _)); refine blk_far ?_ NB375_404.out _; (with_reducible repeat (first | refine blk_drewN ?_ _ | refine blk_drew ?_ | refine blk_alloc ?_ _)); exact BK375.out⟩, ⟨by (with_reducible repeat (first | refine blk_drewN ?_ _ | refine blk_drew ?_ | refine blk_alloc ?_ _)); refine blk_far ?_ NB400_404.out _; (with_reducible repeat (first | refine blk_drewN ?_ _ | refine blk_drew ?_ | refine blk_alloc ?_ _)); refine blk_far ?_ NB400_404.out _; (with_reducible repeat (first | refine blk_drewN ?_ _ | refine blk_drew ?_ | refine blk_alloc ?_ _)); exact BK400.out⟩, ⟨by (with_reducible repeat (first | refine blk_drewN ?_ _ | refine blk_drew ?_ | refine blk_alloc ?_ _)); refine blk_put (cs := #[.int .i64 t401, .int .i64 0]) ?_ 1 _ rfl; (with_reducible repeat (first | refine blk_drewN ?_ _ | refine blk_drew ?_ | refine blk_alloc ?_ _)); refine blk_put (cs := #[.int .i64 0, .int .i64 0]) ?_ 0 _ rfl; (with_reducible repeat (first | refine blk_drewN ?_ _ | refine blk_drew ?_ | refine blk_alloc ?_ _)); exact BK404.out⟩, ⟨bBl HB.out⟩⟩
           ·rw [if_neg c69] at H
            have c69b0 : (t399 == t403) = false := beq_eq_false_iff_ne.mpr c69
            have c69b1 : (t399 != t403) = true := bne_iff_ne.mpr c69
            (first | rw [c69b0] | (simp only [i64_w, i32_w]; rw [c69b0]) | skip)
            have H' := Sd.mk H; clear H
            go_wp2
            go_meet
            case rel => exact ⟨_, (true), tS, H', ⟨by have := HJ2.out; have := HJ21.out; have := HJ36.out; first | omega | exact Nat.le_refl _⟩, ⟨by (with_reducible repeat (first | refine blk_drewN ?_ _ | refine blk_drew ?_ | refine blk_alloc ?_ _)); refine blk_far ?_ NB374_404.out _; (with_reducible repeat (first | refine blk_drewN ?_ _ | refine blk_drew ?_ | refine blk_alloc ?_ _)); refine blk_far ?_ NB374_404.out _; (with_reducible repeat (first | refine blk_drewN ?_ _ | refine blk_drew ?_ | refine blk_alloc ?_ _)); exact BK374.out⟩, ⟨by (with_reducible repeat (first | refine blk_drewN ?_ _ | refine blk_drew ?_ | refine blk_alloc ?_ _)); refine blk_far ?_ NB375_404.out _; (with_reducible repeat (first | refine blk_drewN ?_ _ | refine blk_drew ?_ | refine blk_alloc ?_ _)); refine blk_far ?_ NB375_404.out _; (with_reducible repeat (first | refine blk_drewN ?_ _ | refine blk_drew ?_ | refine blk_alloc ?_ _)); exact BK375.out⟩, ⟨by (with_reducible repeat (first | refine blk_drewN ?_ _ | refine blk_drew ?_ | refine blk_alloc ?_ _)); refine blk_far ?_ NB400_404.out _; (with_reducible repeat (first | refine blk_drewN ?_ _ | refine blk_drew ?_ | refine blk_alloc ?_ _)); refine blk_far ?_ NB400_404.out _; (with_reducible repeat (first | refine blk_drewN ?_ _ | refine blk_drew ?_ | refine blk_alloc ?_ _)); exact BK400.out⟩, ⟨by (with_reducible repeat (first | refine blk_drewN ?_ _ | refine blk_drew ?_ | refine blk_alloc ?_ _)); refine blk_put (cs := #[.int .i64 t401, .int .i64 0]) ?_ 1 _ rfl; (with_reducible repeat (first | refine blk_drewN ?_ _ | refine blk_drew ?_ | refine blk_alloc ?_ _)); refine blk_put (cs := #[.int .i64 0, .int .i64 0]) ?_ 0 _ rfl; (with_reducible repeat (first | refine blk_drewN ?_ _ | refine blk_drew ?_ | refine blk_alloc ?_ _)); exact BK404.out⟩, ⟨bBl HB.out⟩⟩
          case rest =>
           clear HC52; (try clear c1); (try clear c2); (try clear p2 p2); (try clear c3); (try clear c4); (try clear c5); (try clear c6); (try clear c7); (try clear c8); (try clear c12); (try clear c14); (try clear c15); (try clear c16); (try clear c17); (try clear c18); (try clear c19); (try clear c20); (try clear c21); (try clear c23); (try clear c30); (try clear c30b0); (try clear c30b1); (try clear c34); (try clear c38); (try clear c45); (try clear c45b0); (try clear c45b1); (try clear c49); (try clear c53); (try clear c58); (try clear c59); (try clear c65); (try clear c66); (try clear c67); (try clear c69); (try clear c69b0); (try clear c69b1); (try clear c70); (try clear c71); (try clear c72); (try clear c74); (try clear c75); (try clear u13_0 u13_1 u13_2 u13_3 u13_4 u13_5 u13_6); (try clear u15_0 u15_1 u15_2 u15_3 u15_4 u15_5); (try clear u24_0 u24_1 u24_2 u24_3 u24_4 u24_5 u24_6); (try clear u25_0 u25_1 u25_2 u25_3 u25_4 u25_5); (try clear u27_0 u27_1 u27_2 u27_3 u27_4 u27_5 u27_6); (try clear u28_0 u28_1 u28_2 u28_3 u28_4 u28_5); (try clear u39_0 u39_1 u39_2 u39_3 u39_4 u39_5 u39_6); (try clear u40_0 u40_1 u40_2 u40_3 u40_4 u40_5); (try clear u42_0 u42_1 u42_2 u42_3 u42_4 u42_5 u42_6); (try clear u43_0 u43_1 u43_2 u43_3 u43_4 u43_5); (try clear u54_0 u54_1 u54_2 u54_3 u54_4 u54_5 u54_6); (try clear u55_0 u55_1 u55_2 u55_3 u55_4 u55_5); (try clear u60_0 u60_1); (try clear u61_0 u61_1 u61_2 u61_3 u61_4 u61_5 u61_6); (try clear u62_0 u62_1 u62_2 u62_3 u62_4 u62_5); (try clear u68_0 u68_1); (try clear u73_0 u73_1); (try clear u76_0 u76_1); (try clear u9_0 u9_1 u9_2 u9_3 u9_4 u9_5 u9_6); (try clear o13_0 o13_1 o13_2 o13_3 o13_4 o13_5 o13_6); (try clear o15_0 o15_1 o15_2 o15_3 o15_4 o15_5); (try clear o24_0 o24_1 o24_2 o24_3 o24_4 o24_5 o24_6); (try clear o25_0 o25_1 o25_2 o25_3 o25_4 o25_5); (try clear o27_0 o27_1 o27_2 o27_3 o27_4 o27_5 o27_6); (try clear o28_0 o28_1 o28_2 o28_3 o28_4 o28_5); (try clear o39_0 o39_1 o39_2 o39_3 o39_4 o39_5 o39_6); (try clear o40_0 o40_1 o40_2 o40_3 o40_4 o40_5); (try clear o42_0 o42_1 o42_2 o42_3 o42_4 o42_5 o42_6); (try clear o43_0 o43_1 o43_2 o43_3 o43_4 o43_5); (try clear o54_0 o54_1 o54_2 o54_3 o54_4 o54_5 o54_6); (try clear o55_0 o55_1 o55_2 o55_3 o55_4 o55_5); (try clear o60_0 o60_1); (try clear o61_0 o61_1 o61_2 o61_3 o61_4 o61_5 o61_6); (try clear o62_0 o62_1 o62_2 o62_3 o62_4 o62_5); (try clear o68_0 o68_1); (try clear o73_0 o73_1); (try clear o76_0 o76_1); (try clear o9_0 o9_1 o9_2 o9_3 o9_4 o9_5 o9_6); obtain ⟨kq, x89_51, rfl, HA, HJ51, BK374, BK375, BK400, BK404, HB⟩ := hcut
           cases kq with
           | zero => exact absurd HA.out (by simp [lw_BatchGlasses.j3])
           | succ kj51 =>
            have H := HA.out; clear HA
            simp only [lw_BatchGlasses.j3] at H
            by_cases c77 : x89_51 = true
            ·subst c77
             have H1 : (some false) = some r := by rw [if_pos rfl] at H; exact H
             clear H; have H := H1; clear H1; obtain rfl := Option.some.inj H
             go_wp2
             go_ret
             exact ⟨tE, bBl HB.out⟩
            ·replace c77 := Bool.eq_false_iff.mpr c77
             subst c77
             have H1 : ((batch_Redox.f kj51 l0_0 l0_1 l0_2 l0_3 a0_4 a0_5 a0_6 l1_0).bind fun bt405 => ((rf_Redox.f kj51 l0_0 l0_1 l0_2 l0_3 a0_4 a0_5 a0_6 l1_0).bind fun bt408 => (if bt405.2.2 = bt408.2.2 then (if (bt405.1 == bt408.1 && (bt405.2.1 == bt408.2.1)) = true then ((lw_lives.f kj51).bind fun t411 => (some t411)) else (some false)) else (some false)))) = some r := by rw [if_neg (show ¬ (false = true) by decide)] at H; exact H
             clear H; have H := H1; clear H1; replace H := Option.bind_eq_some_iff.mp H
             obtain ⟨⟨t405, t406, t407⟩, A780, H⟩ := H
             try dsimp only at H
             have A78 := Sd.mk A780; clear A780; replace H := Option.bind_eq_some_iff.mp H
             obtain ⟨⟨t408, t409, t410⟩, A790, H⟩ := H
             try dsimp only at H
             have A79 := Sd.mk A790; clear A790
             by_cases c80 : t407 = t410
             ·rw [if_pos c80] at H
              have c80b0 : (t407 == t410) = true := beq_iff_eq.mpr c80
              have c80b1 : (t407 != t410) = false := bne_eq_false_iff_eq.mpr c80
              clear c80
              by_cases c81 : (t405 == t408 && (t406 == t409)) = true
              ·rw [if_pos c81] at H
               have c81b0 : (t405 == t408 && (t406 == t409)) = true := c81
               (try (have c81b1 : decide (t405 = t408 && (t406 == t409)) = true := by simpa using c81))
               (try (have c81b2 : (t405 == t408 && (t406 == t409)) = true := by simpa using c81))
               clear c81; replace H := Option.bind_eq_some_iff.mp H; obtain ⟨t411, A820, H⟩ := H
               try dsimp only at H
               have A82 := Sd.mk A820; clear A820; obtain rfl := Option.some.inj H; have hnb83 := NB374_375.out; have hnc83 := NB375_374.out; have hnb84 := NB374_400.out; have hnc84 := NB400_374.out; have hnb85 := NB374_404.out; have hnc85 := NB404_374.out; obtain ⟨u86_0, u86_1, u86_2, u86_3, u86_4, u86_5, u86_6, o86_0, o86_1, o86_2, o86_3, o86_4, o86_5, o86_6⟩ := bc7 (w := wc) BK374.out; have hnb87 := NB375_400.out; have hnc87 := NB400_375.out; have hnb88 := NB375_404.out; have hnc88 := NB404_375.out; obtain ⟨u89_0, u89_1, u89_2, u89_3, u89_4, u89_5, o89_0, o89_1, o89_2, o89_3, o89_4, o89_5⟩ := bc6 (w := wc) BK375.out
               go_wp2_with (first | ((with_reducible refine gate_callee (f := 22) rfl ?_); refine goesL_ (some 94) rfl rfl Try.func22 (by kernel_rfl) rfl #[.agg #[.slice A0_0 l0_0.length c0_0, .slice A0_1 l0_1.length c0_1, .slice A0_2 l0_2.length c0_2, .slice A0_3 l0_3.length c0_3, .int .i64 a0_4, .int .i64 a0_5, .int .i64 a0_6], .slice A1_0 l1_0.length c1_0] rfl tM ?_; (with_reducible refine (batch_Redox.calls kj51 _ _ l0_0 _ _ l0_1 _ _ l0_2 _ _ l0_3 a0_4 a0_5 a0_6 _ _ l1_0 t405 t406 t407 _ (cS (Kd.C_below HR0_0.out HB.out)) HC0_0.out (cS (Kd.C_below HR0_1.out HB.out)) HC0_1.out (cS (Kd.C_below HR0_2.out HB.out)) HC0_2.out (cS (Kd.C_below HR0_3.out HB.out)) HC0_3.out (cS (Kd.C_below HR1_0.out HB.out)) HC1_0.out A78.out).mono ?_); rintro e w90 ⟨rfl, hb⟩; refine ⟨_, rfl, ?_⟩; replace BK374 := Sd.mk (blk_below (bkA BK374.out) hb); replace BK375 := Sd.mk (blk_below (bkA BK375.out) hb); replace BK400 := Sd.mk (blk_below (bkA BK400.out) hb); replace BK404 := Sd.mk (blk_below (bkA BK404.out) hb); replace HB := Sd.mk (below_step (bBl HB.out) hb); (try clear hb); (try clear hb2); (try clear hk); (try clear hi); have hnb91 := NB400_404.out; have hnc91 := NB404_400.out; obtain ⟨u92_0, u92_1, o92_0, o92_1⟩ := bc2 (w := w90) BK400.out; obtain ⟨u93_0, u93_1, u93_2, u93_3, u93_4, u93_5, u93_6, o93_0, o93_1, o93_2, o93_3, o93_4, o93_5, o93_6⟩ := bc7 (w := w90) BK374.out; obtain ⟨u94_0, u94_1, u94_2, u94_3, u94_4, u94_5, o94_0, o94_1, o94_2, o94_3, o94_4, o94_5⟩ := bc6 (w := w90) BK375.out) | ((with_reducible refine gate_callee (f := 23) rfl ?_); refine goesL_ (some 101) rfl rfl Try.func23 (by kernel_rfl) rfl #[.agg #[.slice A0_0 l0_0.length c0_0, .slice A0_1 l0_1.length c0_1, .slice A0_2 l0_2.length c0_2, .slice A0_3 l0_3.length c0_3, .int .i64 a0_4, .int .i64 a0_5, .int .i64 a0_6], .slice A1_0 l1_0.length c1_0] rfl tM ?_; (with_reducible refine (rf_Redox.calls kj51 _ _ l0_0 _ _ l0_1 _ _ l0_2 _ _ l0_3 a0_4 a0_5 a0_6 _ _ l1_0 t408 t409 t410 _ (Kd.C_below HR0_0.out (bBl HB.out)) HC0_0.out (Kd.C_below HR0_1.out (bBl HB.out)) HC0_1.out (Kd.C_below HR0_2.out (bBl HB.out)) HC0_2.out (Kd.C_below HR0_3.out (bBl HB.out)) HC0_3.out (Kd.C_below HR1_0.out (bBl HB.out)) HC1_0.out A79.out).mono ?_); rintro e w95 ⟨rfl, hb⟩; refine ⟨_, rfl, ?_⟩; replace BK374 := Sd.mk (blk_below (g := gb374) (o := .cells #[.slice A0_0 l0_0.length c0_0, .slice A0_1 l0_1.length c0_1, .slice A0_2 l0_2.length c0_2, .slice A0_3 l0_3.length c0_3, .int .i64 a0_4, .int .i64 a0_5, .int .i64 a0_6] 29 (0, 0)) (by (with_reducible repeat (first | refine blk_drewN ?_ _ | refine blk_drew ?_ | refine blk_alloc ?_ _)); refine blk_far ?_ NB374_400.out _; (with_reducible repeat (first | refine blk_drewN ?_ _ | refine blk_drew ?_ | refine blk_alloc ?_ _)); refine blk_far ?_ NB374_400.out _; (with_reducible repeat (first | refine blk_drewN ?_ _ | refine blk_drew ?_ | refine blk_alloc ?_ _)); exact BK374.out) hb); replace BK375 := Sd.mk (blk_below (g := gb375) (o := .cells #[.slice A1_0 l1_0.length c1_0, .slice A1_1 l1_1.length c1_1, .int .i64 a1_2, .int .i64 a1_3, .int .i64 a1_4, .slice A1_5 l1_5.length c1_5] 34 (0, 0)) (by (with_reducible repeat (first | refine blk_drewN ?_ _ | refine blk_drew ?_ | refine blk_alloc ?_ _)); refine blk_far ?_ NB375_400.out _; (with_reducible repeat (first | refine blk_drewN ?_ _ | refine blk_drew ?_ | refine blk_alloc ?_ _)); refine blk_far ?_ NB375_400.out _; (with_reducible repeat (first | refine blk_drewN ?_ _ | refine blk_drew ?_ | refine blk_alloc ?_ _)); exact BK375.out) hb); replace BK400 := Sd.mk (blk_below (g := gb400) (o := .cells #[.int .i64 t405, .int .i64 t406] 27 (0, 0)) (by (with_reducible repeat (first | refine blk_drewN ?_ _ | refine blk_drew ?_ | refine blk_alloc ?_ _)); refine blk_put (cs := #[.int .i64 t405, .int .i64 t398]) ?_ 1 _ rfl; (with_reducible repeat (first | refine blk_drewN ?_ _ | refine blk_drew ?_ | refine blk_alloc ?_ _)); refine blk_put (cs := #[.int .i64 t397, .int .i64 t398]) ?_ 0 _ rfl; (with_reducible repeat (first | refine blk_drewN ?_ _ | refine blk_drew ?_ | refine blk_alloc ?_ _)); exact BK400.out) hb); replace BK404 := Sd.mk (blk_below (g := gb404) (o := .cells #[.int .i64 t401, .int .i64 t402] 27 (0, 0)) (by (with_reducible repeat (first | refine blk_drewN ?_ _ | refine blk_drew ?_ | refine blk_alloc ?_ _)); refine blk_far ?_ NB404_400.out _; (with_reducible repeat (first | refine blk_drewN ?_ _ | refine blk_drew ?_ | refine blk_alloc ?_ _)); refine blk_far ?_ NB404_400.out _; (with_reducible repeat (first | refine blk_drewN ?_ _ | refine blk_drew ?_ | refine blk_alloc ?_ _)); exact BK404.out) hb); replace HB := Sd.mk (below_step (bBl HB.out) hb); (try clear hb); (try clear hb2); (try clear hk); (try clear hi); obtain ⟨u96_0, u96_1, o96_0, o96_1⟩ := bc2 (w := w95) BK404.out; obtain ⟨u97_0, u97_1, o97_0, o97_1⟩ := bc2 (w := w95) BK400.out) | (go_at_call 14; (with_reducible refine (lw_lives.calls kj51  t411 _ A82.out).mono ?_); rintro e w98 ⟨rfl, hb⟩; replace BK374 := Sd.mk (blk_below (g := gb374) (o := .cells #[.slice A0_0 l0_0.length c0_0, .slice A0_1 l0_1.length c0_1, .slice A0_2 l0_2.length c0_2, .slice A0_3 l0_3.length c0_3, .int .i64 a0_4, .int .i64 a0_5, .int .i64 a0_6] 29 (0, 0)) (by (with_reducible repeat (first | refine blk_drewN ?_ _ | refine blk_drew ?_ | refine blk_alloc ?_ _)); refine blk_far ?_ NB374_404.out _; (with_reducible repeat (first | refine blk_drewN ?_ _ | refine blk_drew ?_ | refine blk_alloc ?_ _)); refine blk_far ?_ NB374_404.out _; (with_reducible repeat (first | refine blk_drewN ?_ _ | refine blk_drew ?_ | refine blk_alloc ?_ _)); exact BK374.out) hb); replace BK375 := Sd.mk (blk_below (g := gb375) (o := .cells #[.slice A1_0 l1_0.length c1_0, .slice A1_1 l1_1.length c1_1, .int .i64 a1_2, .int .i64 a1_3, .int .i64 a1_4, .slice A1_5 l1_5.length c1_5] 34 (0, 0)) (by (with_reducible repeat (first | refine blk_drewN ?_ _ | refine blk_drew ?_ | refine blk_alloc ?_ _)); refine blk_far ?_ NB375_404.out _; (with_reducible repeat (first | refine blk_drewN ?_ _ | refine blk_drew ?_ | refine blk_alloc ?_ _)); refine blk_far ?_ NB375_404.out _; (with_reducible repeat (first | refine blk_drewN ?_ _ | refine blk_drew ?_ | refine blk_alloc ?_ _)); exact BK375.out) hb); replace BK400 := Sd.mk (blk_below (g := gb400) (o := .cells #[.int .i64 t405, .int .i64 t406] 27 (0, 0)) (by (with_reducible repeat (first | refine blk_drewN ?_ _ | refine blk_drew ?_ | refine blk_alloc ?_ _)); refine blk_far ?_ NB400_404.out _; (with_reducible repeat (first | refine blk_drewN ?_ _ | refine blk_drew ?_ | refine blk_alloc ?_ _)); refine blk_far ?_ NB400_404.out _; (with_reducible repeat (first | refine blk_drewN ?_ _ | refine blk_drew ?_ | refine blk_alloc ?_ _)); exact BK400.out) hb); replace BK404 := Sd.mk (blk_below (g := gb404) (o := .cells #[.int .i64 t408, .int .i64 t409] 27 (0, 0)) (by (with_reducible repeat (first | refine blk_drewN ?_ _ | refine blk_drew ?_ | refine blk_alloc ?_ _)); refine blk_put (cs := #[.int .i64 t408, .int .i64 t402]) ?_ 1 _ rfl; (with_reducible repeat (first | refine blk_drewN ?_ _ | refine blk_drew ?_ | refine blk_alloc ?_ _)); refine blk_put (cs := #[.int .i64 t401, .int .i64 t402]) ?_ 0 _ rfl; (with_reducible repeat (first | refine blk_drewN ?_ _ | refine blk_drew ?_ | refine blk_alloc ?_ _)); exact BK404.out) hb); replace HB := Sd.mk (below_step (bBl HB.out) hb); (try clear hb); (try clear hb2); (try clear hk); (try clear hi)))
               go_ret
               exact ⟨tE, bBl HB.out⟩
              ·rw [if_neg c81] at H
               have c81b0 : (t405 == t408 && (t406 == t409)) = false := by simpa using c81
               (try (have c81b1 : decide (t405 = t408 && (t406 == t409)) = false := by simpa using c81))
               (try (have c81b2 : (t405 == t408 && (t406 == t409)) = false := by simpa using c81))
               (try (have c81b3 : ¬ (t405 = t408 && (t406 == t409)) := by simpa using c81))
               clear c81; obtain rfl := Option.some.inj H; have hnb99 := NB374_375.out; have hnc99 := NB375_374.out; have hnb100 := NB374_400.out; have hnc100 := NB400_374.out; have hnb101 := NB374_404.out; have hnc101 := NB404_374.out; obtain ⟨u102_0, u102_1, u102_2, u102_3, u102_4, u102_5, u102_6, o102_0, o102_1, o102_2, o102_3, o102_4, o102_5, o102_6⟩ := bc7 (w := wc) BK374.out; have hnb103 := NB375_400.out; have hnc103 := NB400_375.out; have hnb104 := NB375_404.out; have hnc104 := NB404_375.out; obtain ⟨u105_0, u105_1, u105_2, u105_3, u105_4, u105_5, o105_0, o105_1, o105_2, o105_3, o105_4, o105_5⟩ := bc6 (w := wc) BK375.out
               go_wp2_with (first | ((with_reducible refine gate_callee (f := 22) rfl ?_); refine goesL_ (some 94) rfl rfl Try.func22 (by kernel_rfl) rfl #[.agg #[.slice A0_0 l0_0.length c0_0, .slice A0_1 l0_1.length c0_1, .slice A0_2 l0_2.length c0_2, .slice A0_3 l0_3.length c0_3, .int .i64 a0_4, .int .i64 a0_5, .int .i64 a0_6], .slice A1_0 l1_0.length c1_0] rfl tM ?_; (with_reducible refine (batch_Redox.calls kj51 _ _ l0_0 _ _ l0_1 _ _ l0_2 _ _ l0_3 a0_4 a0_5 a0_6 _ _ l1_0 t405 t406 t407 _ (cS (Kd.C_below HR0_0.out HB.out)) HC0_0.out (cS (Kd.C_below HR0_1.out HB.out)) HC0_1.out (cS (Kd.C_below HR0_2.out HB.out)) HC0_2.out (cS (Kd.C_below HR0_3.out HB.out)) HC0_3.out (cS (Kd.C_below HR1_0.out HB.out)) HC1_0.out A78.out).mono ?_); rintro e w106 ⟨rfl, hb⟩; refine ⟨_, rfl, ?_⟩; replace BK374 := Sd.mk (blk_below (bkA BK374.out) hb); replace BK375 := Sd.mk (blk_below (bkA BK375.out) hb); replace BK400 := Sd.mk (blk_below (bkA BK400.out) hb); replace BK404 := Sd.mk (blk_below (bkA BK404.out) hb); replace HB := Sd.mk (below_step (bBl HB.out) hb); (try clear hb); (try clear hb2); (try clear hk); (try clear hi); have hnb107 := NB400_404.out; have hnc107 := NB404_400.out; obtain ⟨u108_0, u108_1, o108_0, o108_1⟩ := bc2 (w := w106) BK400.out; obtain ⟨u109_0, u109_1, u109_2, u109_3, u109_4, u109_5, u109_6, o109_0, o109_1, o109_2, o109_3, o109_4, o109_5, o109_6⟩ := bc7 (w := w106) BK374.out; obtain ⟨u110_0, u110_1, u110_2, u110_3, u110_4, u110_5, o110_0, o110_1, o110_2, o110_3, o110_4, o110_5⟩ := bc6 (w := w106) BK375.out) | ((with_reducible refine gate_callee (f := 23) rfl ?_); refine goesL_ (some 101) rfl rfl Try.func23 (by kernel_rfl) rfl #[.agg #[.slice A0_0 l0_0.length c0_0, .slice A0_1 l0_1.length c0_1, .slice A0_2 l0_2.length c0_2, .slice A0_3 l0_3.length c0_3, .int .i64 a0_4, .int .i64 a0_5, .int .i64 a0_6], .slice A1_0 l1_0.length c1_0] rfl tM ?_; (with_reducible refine (rf_Redox.calls kj51 _ _ l0_0 _ _ l0_1 _ _ l0_2 _ _ l0_3 a0_4 a0_5 a0_6 _ _ l1_0 t408 t409 t410 _ (Kd.C_below HR0_0.out (bBl HB.out)) HC0_0.out (Kd.C_below HR0_1.out (bBl HB.out)) HC0_1.out (Kd.C_below HR0_2.out (bBl HB.out)) HC0_2.out (Kd.C_below HR0_3.out (bBl HB.out)) HC0_3.out (Kd.C_below HR1_0.out (bBl HB.out)) HC1_0.out A79.out).mono ?_); rintro e w111 ⟨rfl, hb⟩; refine ⟨_, rfl, ?_⟩; replace BK374 := Sd.mk (blk_below (g := gb374) (o := .cells #[.slice A0_0 l0_0.length c0_0, .slice A0_1 l0_1.length c0_1, .slice A0_2 l0_2.length c0_2, .slice A0_3 l0_3.length c0_3, .int .i64 a0_4, .int .i64 a0_5, .int .i64 a0_6] 29 (0, 0)) (by (with_reducible repeat (first | refine blk_drewN ?_ _ | refine blk_drew ?_ | refine blk_alloc ?_ _)); refine blk_far ?_ NB374_400.out _; (with_reducible repeat (first | refine blk_drewN ?_ _ | refine blk_drew ?_ | refine blk_alloc ?_ _)); refine blk_far ?_ NB374_400.out _; (with_reducible repeat (first | refine blk_drewN ?_ _ | refine blk_drew ?_ | refine blk_alloc ?_ _)); exact BK374.out) hb); replace BK375 := Sd.mk (blk_below (g := gb375) (o := .cells #[.slice A1_0 l1_0.length c1_0, .slice A1_1 l1_1.length c1_1, .int .i64 a1_2, .int .i64 a1_3, .int .i64 a1_4, .slice A1_5 l1_5.length c1_5] 34 (0, 0)) (by (with_reducible repeat (first | refine blk_drewN ?_ _ | refine blk_drew ?_ | refine blk_alloc ?_ _)); refine blk_far ?_ NB375_400.out _; (with_reducible repeat (first | refine blk_drewN ?_ _ | refine blk_drew ?_ | refine blk_alloc ?_ _)); refine blk_far ?_ NB375_400.out _; (with_reducible repeat (first | refine blk_drewN ?_ _ | refine blk_drew ?_ | refine blk_alloc ?_ _)); exact BK375.out) hb); replace BK400 := Sd.mk (blk_below (g := gb400) (o := .cells #[.int .i64 t405, .int .i64 t406] 27 (0, 0)) (by (with_reducible repeat (first | refine blk_drewN ?_ _ | refine blk_drew ?_ | refine blk_alloc ?_ _)); refine blk_put (cs := #[.int .i64 t405, .int .i64 t398]) ?_ 1 _ rfl; (with_reducible repeat (first | refine blk_drewN ?_ _ | refine blk_drew ?_ | refine blk_alloc ?_ _)); refine blk_put (cs := #[.int .i64 t397, .int .i64 t398]) ?_ 0 _ rfl; (with_reducible repeat (first | refine blk_drewN ?_ _ | refine blk_drew ?_ | refine blk_alloc ?_ _)); exact BK400.out) hb); replace BK404 := Sd.mk (blk_below (g := gb404) (o := .cells #[.int .i64 t401, .int .i64 t402] 27 (0, 0)) (by (with_reducible repeat (first | refine blk_drewN ?_ _ | refine blk_drew ?_ | refine blk_alloc ?_ _)); refine blk_far ?_ NB404_400.out _; (with_reducible repeat (first | refine blk_drewN ?_ _ | refine blk_drew ?_ | refine blk_alloc ?_ _)); refine blk_far ?_ NB404_400.out _; (with_reducible repeat (first | refine blk_drewN ?_ _ | refine blk_drew ?_ | refine blk_alloc ?_ _)); exact BK404.out) hb); replace HB := Sd.mk (below_step (bBl HB.out) hb); (try clear hb); (try clear hb2); (try clear hk); (try clear hi); obtain ⟨u112_0, u112_1, o112_0, o112_1⟩ := bc2 (w := w111) BK404.out; obtain ⟨u113_0, u113_1, o113_0, o113_1⟩ := bc2 (w := w111) BK400.out))
               go_ret
               exact ⟨tE, bBl HB.out⟩
             ·rw [if_neg c80] at H
              have c80b0 : (t407 == t410) = false := beq_eq_false_iff_ne.mpr c80
              have c80b1 : (t407 != t410) = true := bne_iff_ne.mpr c80
              obtain rfl := Option.some.inj H; have hnb114 := NB374_375.out; have hnc114 := NB375_374.out; have hnb115 := NB374_400.out; have hnc115 := NB400_374.out; have hnb116 := NB374_404.out; have hnc116 := NB404_374.out; obtain ⟨u117_0, u117_1, u117_2, u117_3, u117_4, u117_5, u117_6, o117_0, o117_1, o117_2, o117_3, o117_4, o117_5, o117_6⟩ := bc7 (w := wc) BK374.out; have hnb118 := NB375_400.out; have hnc118 := NB400_375.out; have hnb119 := NB375_404.out; have hnc119 := NB404_375.out; obtain ⟨u120_0, u120_1, u120_2, u120_3, u120_4, u120_5, o120_0, o120_1, o120_2, o120_3, o120_4, o120_5⟩ := bc6 (w := wc) BK375.out
              go_wp2_with (first | ((with_reducible refine gate_callee (f := 22) rfl ?_); refine goesL_ (some 94) rfl rfl Try.func22 (by kernel_rfl) rfl #[.agg #[.slice A0_0 l0_0.length c0_0, .slice A0_1 l0_1.length c0_1, .slice A0_2 l0_2.length c0_2, .slice A0_3 l0_3.length c0_3, .int .i64 a0_4, .int .i64 a0_5, .int .i64 a0_6], .slice A1_0 l1_0.length c1_0] rfl tM ?_; (with_reducible refine (batch_Redox.calls kj51 _ _ l0_0 _ _ l0_1 _ _ l0_2 _ _ l0_3 a0_4 a0_5 a0_6 _ _ l1_0 t405 t406 t407 _ (cS (Kd.C_below HR0_0.out HB.out)) HC0_0.out (cS (Kd.C_below HR0_1.out HB.out)) HC0_1.out (cS (Kd.C_below HR0_2.out HB.out)) HC0_2.out (cS (Kd.C_below HR0_3.out HB.out)) HC0_3.out (cS (Kd.C_below HR1_0.out HB.out)) HC1_0.out A78.out).mono ?_); rintro e w121 ⟨rfl, hb⟩; refine ⟨_, rfl, ?_⟩; replace BK374 := Sd.mk (blk_below (bkA BK374.out) hb); replace BK375 := Sd.mk (blk_below (bkA BK375.out) hb); replace BK400 := Sd.mk (blk_below (bkA BK400.out) hb); replace BK404 := Sd.mk (blk_below (bkA BK404.out) hb); replace HB := Sd.mk (below_step (bBl HB.out) hb); (try clear hb); (try clear hb2); (try clear hk); (try clear hi); have hnb122 := NB400_404.out; have hnc122 := NB404_400.out; obtain ⟨u123_0, u123_1, o123_0, o123_1⟩ := bc2 (w := w121) BK400.out; obtain ⟨u124_0, u124_1, u124_2, u124_3, u124_4, u124_5, u124_6, o124_0, o124_1, o124_2, o124_3, o124_4, o124_5, o124_6⟩ := bc7 (w := w121) BK374.out; obtain ⟨u125_0, u125_1, u125_2, u125_3, u125_4, u125_5, o125_0, o125_1, o125_2, o125_3, o125_4, o125_5⟩ := bc6 (w := w121) BK375.out) | ((with_reducible refine gate_callee (f := 23) rfl ?_); refine goesL_ (some 101) rfl rfl Try.func23 (by kernel_rfl) rfl #[.agg #[.slice A0_0 l0_0.length c0_0, .slice A0_1 l0_1.length c0_1, .slice A0_2 l0_2.length c0_2, .slice A0_3 l0_3.length c0_3, .int .i64 a0_4, .int .i64 a0_5, .int .i64 a0_6], .slice A1_0 l1_0.length c1_0] rfl tM ?_; (with_reducible refine (rf_Redox.calls kj51 _ _ l0_0 _ _ l0_1 _ _ l0_2 _ _ l0_3 a0_4 a0_5 a0_6 _ _ l1_0 t408 t409 t410 _ (Kd.C_below HR0_0.out (bBl HB.out)) HC0_0.out (Kd.C_below HR0_1.out (bBl HB.out)) HC0_1.out (Kd.C_below HR0_2.out (bBl HB.out)) HC0_2.out (Kd.C_below HR0_3.out (bBl HB.out)) HC0_3.out (Kd.C_below HR1_0.out (bBl HB.out)) HC1_0.out A79.out).mono ?_); rintro e w126 ⟨rfl, hb⟩; refine ⟨_, rfl, ?_⟩; replace BK374 := Sd.mk (blk_below (g := gb374) (o := .cells #[.slice A0_0 l0_0.length c0_0, .slice A0_1 l0_1.length c0_1, .slice A0_2 l0_2.length c0_2, .slice A0_3 l0_3.length c0_3, .int .i64 a0_4, .int .i64 a0_5, .int .i64 a0_6] 29 (0, 0)) (by (with_reducible repeat (first | refine blk_drewN ?_ _ | refine blk_drew ?_ | refine blk_alloc ?_ _)); refine blk_far ?_ NB374_400.out _; (with_reducible repeat (first | refine blk_drewN ?_ _ | refine blk_drew ?_ | refine blk_alloc ?_ _)); refine blk_far ?_ NB374_400.out _; (with_reducible repeat (first | refine blk_drewN ?_ _ | refine blk_drew ?_ | refine blk_alloc ?_ _)); exact BK374.out) hb); replace BK375 := Sd.mk (blk_below (g := gb375) (o := .cells #[.slice A1_0 l1_0.length c1_0, .slice A1_1 l1_1.length c1_1, .int .i64 a1_2, .int .i64 a1_3, .int .i64 a1_4, .slice A1_5 l1_5.length c1_5] 34 (0, 0)) (by (with_reducible repeat (first | refine blk_drewN ?_ _ | refine blk_drew ?_ | refine blk_alloc ?_ _)); refine blk_far ?_ NB375_400.out _; (with_reducible repeat (first | refine blk_drewN ?_ _ | refine blk_drew ?_ | refine blk_alloc ?_ _)); refine blk_far ?_ NB375_400.out _; (with_reducible repeat (first | refine blk_drewN ?_ _ | refine blk_drew ?_ | refine blk_alloc ?_ _)); exact BK375.out) hb); replace BK400 := Sd.mk (blk_below (g := gb400) (o := .cells #[.int .i64 t405, .int .i64 t406] 27 (0, 0)) (by (with_reducible repeat (first | refine blk_drewN ?_ _ | refine blk_drew ?_ | refine blk_alloc ?_ _)); refine blk_put (cs := #[.int .i64 t405, .int .i64 t398]) ?_ 1 _ rfl; (with_reducible repeat (first | refine blk_drewN ?_ _ | refine blk_drew ?_ | refine blk_alloc ?_ _)); refine blk_put (cs := #[.int .i64 t397, .int .i64 t398]) ?_ 0 _ rfl; (with_reducible repeat (first | refine blk_drewN ?_ _ | refine blk_drew ?_ | refine blk_alloc ?_ _)); exact BK400.out) hb); replace BK404 := Sd.mk (blk_below (g := gb404) (o := .cells #[.int .i64 t401, .int .i64 t402] 27 (0, 0)) (by (with_reducible repeat (first | refine blk_drewN ?_ _ | refine blk_drew ?_ | refine blk_alloc ?_ _)); refine blk_far ?_ NB404_400.out _; (with_reducible repeat (first | refine blk_drewN ?_ _ | refine blk_drew ?_ | refine blk_alloc ?_ _)); refine blk_far ?_ NB404_400.out _; (with_reducible repeat (first | refine blk_drewN ?_ _ | refine blk_drew ?_ | refine blk_alloc ?_ _)); exact BK404.out) hb); replace HB := Sd.mk (below_step (bBl HB.out) hb); (try clear hb); (try clear hb2); (try clear hk); (try clear hi); obtain ⟨u127_0, u127_1, o127_0, o127_1⟩ := bc2 (w := w126) BK404.out))
              go_ret
              exact ⟨tE, bBl HB.out⟩
end Go.Proofs.Ytkjkokgbhepmoaa.PB

namespace Go.Proofs.Ytkjkokgbhepmoaa.PB
open Go.RowKit Go.Proofs.YtkjkokgbhepmoaaW.PrintWords Go.Proofs.YtkjkokgbhepmoaaW.PrintLast Go.Proofs.YtkjkokgbhepmoaaW.PrintMore
def Ev {α : Type} (f : Nat → Option α) (v : α) : Prop := ∃ K, ∀ k, K ≤ k → f k = some v
namespace Ev
variable {α β : Type} {v u : α} {b : β}
theorem const (v : α) : Ev (fun _ => some v) v := ⟨0, fun _ _ => rfl⟩
theorem bind {f : Nat → Option α} {g : Nat → α → Option β} (h : Ev f v) (h' : Ev (fun k => g k v) b) : Ev (fun k => (f k).bind (g k)) b := by
  obtain ⟨K, h⟩ := h
  obtain ⟨K', h'⟩ := h'
  exact ⟨max K K', fun k hk => by show (f k).bind (g k) = some b; rw [h k (by omega)]; exact h' k (by omega)⟩
theorem step {f : Nat → Option α} (h : Ev (fun k => f (k + 1)) v) : Ev f v := by
  obtain ⟨K, h⟩ := h
  exact ⟨K + 1, fun k hk => by cases k with | zero => omega | succ k => exact h k (by omega)⟩
theorem cast {f : Nat → Option α} (h : Ev f v) (e : v = u) : Ev f u := e ▸ h
end Ev
theorem wrap_succ {i : Int} (h0 : 0 ≤ i) (h : i ≤ 1000000000) : wrap64 (i + 1) = i + 1 := wrap_id (by omega) (by omega)
def charB (c : Int) : Bool := decide (97 ≤ c ∧ c ≤ 122) || decide (48 ≤ c ∧ c ≤ 57) || decide (c = 45)
def nameFrom (x : ByteArray) : Nat → Int → Bool
  | 0, _ => true
  | m + 1, i => charB (bt x i) && nameFrom x m (i + 1)
def nameOk (x : ByteArray) : Bool := decide (1 ≤ x.size) && decide (x.size ≤ 16) && decide (97 ≤ bt x 0) && decide (bt x 0 ≤ 122) && nameFrom x x.size 0
theorem bname_l0 (x : ByteArray) (hx : x.size ≤ 16) : ∀ (m : Nat) (i : Int), 0 ≤ i → i + m = x.size → Ev (fun k => batch_name.l0 k x x.size i) (nameFrom x m i)
  | 0, i, h0, hi => by
    apply Ev.step
    simp only [batch_name.l0, if_neg (show ¬ i < (x.size : Int) by omega)]
    exact Ev.const _
  | m + 1, i, h0, hi => by
    have ih := bname_l0 x hx m (i + 1) (by omega) (by omega)
    apply Ev.step
    simp only [batch_name.l0, if_pos (show i < (x.size : Int) by omega), if_pos h0, wrap_succ h0 (show i ≤ 1000000000 by omega)]
    by_cases h1 : bt x i ≥ 97 <;> by_cases h2 : bt x i ≤ 122 <;> by_cases h3 : bt x i ≥ 48 <;> by_cases h4 : bt x i ≤ 57 <;> by_cases h5 : bt x i = 45 <;> first
      | omega
      | (simp only [h1, h2, h3, h4, h5, if_true, if_false, ite_true, ite_false]
         first
           | exact ih.cast (by have hc : charB (bt x i) = true := (by simp only [charB, Bool.or_eq_true, decide_eq_true_eq]; omega); simp [nameFrom, hc])
           | exact (Ev.const false).cast (by have hc : charB (bt x i) = false := (by simp only [charB, Bool.or_eq_false_iff, decide_eq_false_iff_not]; omega); simp [nameFrom, hc]))
theorem bname (x : ByteArray) : Ev (fun k => batch_name.f k x) (nameOk x) := by
  unfold batch_name.f
  have hj : ∀ b : Bool, (b = false → x.size ≤ 16) → Ev (fun k => batch_name.j0 k x b) (!b && nameFrom x x.size 0) := by
    intro b hb
    apply Ev.step
    cases b with
    | true => simp only [batch_name.j0, if_true]; exact Ev.const _
    | false => simp only [batch_name.j0, Bool.false_eq_true, if_false]; exact (bname_l0 x (hb rfl) x.size 0 (by omega) (by omega)).cast (by simp)
  by_cases h1 : (x.size : Int) < 1
  · simp only [if_pos h1]; exact (hj true (by simp)).cast (by simp [nameOk]; omega)
  · simp only [if_neg h1]
    by_cases h2 : (x.size : Int) > 16
    · simp only [if_pos h2]; exact (hj true (by simp)).cast (by simp [nameOk]; omega)
    · simp only [if_neg h2, if_pos (show 0 < (x.size : Int) by omega)]
      by_cases h3 : bt x 0 < 97
      · simp only [if_pos h3]; exact (hj true (by simp)).cast (by simp [nameOk]; omega)
      · simp only [if_neg h3]
        refine (hj _ (fun _ => by omega)).cast ?_
        by_cases h4 : bt x 0 > 122
        · simp [nameOk, h4]; try omega
        · have : 97 ≤ bt x 0 := by omega
          have : bt x 0 ≤ 122 := by omega
          have : x.size ≤ 16 := by omega
          have : 1 ≤ x.size := by omega
          simp [nameOk, *]
end Go.Proofs.Ytkjkokgbhepmoaa.PB

namespace Go.Proofs.Ytkjkokgbhepmoaa.PB
open Go.RowKit Go.Proofs.YtkjkokgbhepmoaaW.PrintWords Go.Proofs.YtkjkokgbhepmoaaW.PrintLast Go.Proofs.YtkjkokgbhepmoaaW.PrintMore
theorem toList_loop (x : ByteArray) : ∀ (m i : Nat) (r : List UInt8), i + m = x.size → (ByteArray.toList.loop x i r).length = r.length + m
  | 0, i, r, h => by
    unfold ByteArray.toList.loop
    rw [if_neg (by omega)]; simp
  | m + 1, i, r, h => by
    unfold ByteArray.toList.loop
    rw [if_pos (by omega), toList_loop x m (i + 1) _ (by omega)]; simp; omega
theorem toList_len (x : ByteArray) : x.toList.length = x.size := by
  have := toList_loop x x.size 0 [] (by omega)
  simpa [ByteArray.toList] using this
theorem toList_nil (x : ByteArray) : x.toList = [] ↔ x.size = 0 := by
  rw [← toList_len]; exact List.length_eq_zero_iff.symm
theorem rname_l0 (x : ByteArray) (hx : x.size ≤ 16) : ∀ (m : Nat) (i : Int), 0 ≤ i → i + m = x.size → Ev (fun k => rf_Name.l0 k x i) (nameFrom x m i)
  | 0, i, h0, hi => by
    apply Ev.step
    simp only [rf_Name.l0, if_neg (show ¬ i < (x.size : Int) by omega)]
    exact Ev.const _
  | m + 1, i, h0, hi => by
    have ih := rname_l0 x hx m (i + 1) (by omega) (by omega)
    apply Ev.step
    simp only [rf_Name.l0, if_pos (show i < (x.size : Int) by omega), if_pos h0, wrap_succ h0 (show i ≤ 1000000000 by omega)]
    by_cases h1 : bt x i ≥ 97 <;> by_cases h2 : bt x i ≤ 122 <;> by_cases h3 : bt x i ≥ 48 <;> by_cases h4 : bt x i ≤ 57 <;> by_cases h5 : bt x i = 45 <;> first
      | omega
      | (simp only [h1, h2, h3, h4, h5, if_true, if_false, ite_true, ite_false]
         first
           | exact ih.cast (by have hc : charB (bt x i) = true := (by simp only [charB, Bool.or_eq_true, decide_eq_true_eq]; omega); simp [nameFrom, hc])
           | exact (Ev.const false).cast (by have hc : charB (bt x i) = false := (by simp only [charB, Bool.or_eq_false_iff, decide_eq_false_iff_not]; omega); simp [nameFrom, hc]))
theorem rname (x : ByteArray) : Ev (fun k => rf_Name.f k x) (nameOk x) := by
  unfold rf_Name.f
  have hj : ∀ b : Bool, (b = false → x.size ≤ 16) → Ev (fun k => rf_Name.j0 k x b) (!b && nameFrom x x.size 0) := by
    intro b hb
    apply Ev.step
    cases b with
    | true => simp only [rf_Name.j0, if_true]; exact Ev.const _
    | false => simp only [rf_Name.j0, Bool.false_eq_true, if_false]; exact (rname_l0 x (hb rfl) x.size 0 (by omega) (by omega)).cast (by simp)
  by_cases h1 : x.toList = []
  · have := (toList_nil x).1 h1
    simp only [if_pos h1]; exact (hj true (by simp)).cast (by simp [nameOk]; omega)
  · have : ¬ x.size = 0 := fun h => h1 ((toList_nil x).2 h)
    simp only [if_neg h1]
    by_cases h2 : (x.size : Int) > 16
    · simp only [if_pos h2]; exact (hj true (by simp)).cast (by simp [nameOk]; omega)
    · simp only [if_neg h2, if_pos (show 0 < (x.size : Int) by omega)]
      by_cases h3 : bt x 0 < 97
      · simp only [if_pos h3]; exact (hj true (by simp)).cast (by simp [nameOk]; omega)
      · simp only [if_neg h3]
        refine (hj _ (fun _ => by omega)).cast ?_
        by_cases h4 : bt x 0 > 122
        · simp [nameOk, h4]; try omega
        · have : 97 ≤ bt x 0 := by omega
          have : bt x 0 ≤ 122 := by omega
          have : x.size ≤ 16 := by omega
          have : 1 ≤ x.size := by omega
          simp [nameOk, *]
theorem rin_l0 (l : List ByteArray) (x : ByteArray) (hl : l.length ≤ 1000) : ∀ (m : Nat) (i : Nat), i + m = l.length → Ev (fun k => rf_in.l0 k l x (i : Int)) ((l.drop i).any fun y => y.toList == x.toList)
  | 0, i, hi => by
    apply Ev.step
    simp only [rf_in.l0, if_neg (show ¬ (i : Int) < (l.length : Int) by omega)]
    exact (Ev.const _).cast (by rw [List.drop_eq_nil_of_le (by omega)]; rfl)
  | m + 1, i, hi => by
    have ih := rin_l0 l x hl m (i + 1) (by omega)
    have hlt : i < l.length := by omega
    apply Ev.step
    simp only [rf_in.l0, if_pos (show (i : Int) < (l.length : Int) by omega), if_pos (show 0 ≤ (i : Int) by omega), wrap_succ (show 0 ≤ (i : Int) by omega) (show (i : Int) ≤ 1000000000 by omega)]
    have hr : rdOf ByteArray.empty l (i : Int) = l[i] := by simp [rdOf, hlt]
    rw [hr, List.drop_eq_getElem_cons hlt]
    by_cases h : l[i].toList = x.toList
    · simp only [if_pos h]
      exact (Ev.const _).cast (by rw [List.any_cons, h, beq_self_eq_true, Bool.true_or])
    · simp only [if_neg h]
      exact ih.cast (by rw [List.any_cons, beq_eq_false_iff_ne.mpr h, Bool.false_or])
theorem rin (l : List ByteArray) (x : ByteArray) (hl : l.length ≤ 1000) : Ev (fun k => rf_in.f k l x) (l.any fun y => y.toList == x.toList) := by
  unfold rf_in.f
  exact (rin_l0 l x hl l.length 0 (by omega)).cast (by simp)
theorem bidx_l0 (l : List ByteArray) (x : ByteArray) (hl : l.length ≤ 1000) : ∀ (m : Nat) (i : Nat), i + m = l.length → ∃ r : Int, Ev (fun k => slices_Index_string_string.l0 k l x (l.length : Int) (i : Int)) r ∧ (decide (r ≥ 0) = (l.drop i).any fun y => y.toList == x.toList)
  | 0, i, hi => by
    refine ⟨-1, ?_, by rw [List.drop_eq_nil_of_le (by omega)]; rfl⟩
    apply Ev.step
    simp only [slices_Index_string_string.l0, if_neg (show ¬ (i : Int) < (l.length : Int) by omega)]
    exact Ev.const _
  | m + 1, i, hi => by
    obtain ⟨r, ih, hr'⟩ := bidx_l0 l x hl m (i + 1) (by omega)
    have hlt : i < l.length := by omega
    have hr : rdOf ByteArray.empty l (i : Int) = l[i] := by simp [rdOf, hlt]
    by_cases h : x.toList = l[i].toList
    · refine ⟨i, ?_, ?_⟩
      · apply Ev.step
        simp only [slices_Index_string_string.l0, if_pos (show (i : Int) < (l.length : Int) by omega), if_pos (show 0 ≤ (i : Int) by omega), hr, if_pos h]
        exact Ev.const _
      · rw [List.drop_eq_getElem_cons hlt, List.any_cons, h, beq_self_eq_true, Bool.true_or]; simp
    · refine ⟨r, ?_, ?_⟩
      · apply Ev.step
        simp only [slices_Index_string_string.l0, if_pos (show (i : Int) < (l.length : Int) by omega), if_pos (show 0 ≤ (i : Int) by omega), hr, if_neg h, wrap_succ (show 0 ≤ (i : Int) by omega) (show (i : Int) ≤ 1000000000 by omega)]
        exact ih
      · rw [List.drop_eq_getElem_cons hlt, hr']
        have h' : ¬ l[i].toList = x.toList := fun e => h e.symm
        rw [List.any_cons, beq_eq_false_iff_ne.mpr h', Bool.false_or]
theorem bcontains (l : List ByteArray) (x : ByteArray) (hl : l.length ≤ 1000) : Ev (fun k => slices_Contains_string_string.f k l x) (l.any fun y => y.toList == x.toList) := by
  unfold slices_Contains_string_string.f slices_Index_string_string.f
  obtain ⟨r, h, e⟩ := bidx_l0 l x hl l.length 0 (by omega)
  refine Ev.bind h ?_
  exact (Ev.const _).cast (by rw [e]; simp)
end Go.Proofs.Ytkjkokgbhepmoaa.PB

namespace Go.Proofs.Ytkjkokgbhepmoaa.PB
open Go.RowKit Go.Proofs.YtkjkokgbhepmoaaW.PrintWords Go.Proofs.YtkjkokgbhepmoaaW.PrintLast Go.Proofs.YtkjkokgbhepmoaaW.PrintMore
def oxE (o : List ByteArray) : Nat → Nat → Int
  | 0, _ => 0
  | m + 1, i => if nameOk (rdOf ByteArray.empty o (i : Int)) = true then (if ((o.take i).any fun y => y.toList == (rdOf ByteArray.empty o (i : Int)).toList) = true then 6 else oxE o m (i + 1)) else 5
theorem i_pos (i : Nat) : 0 ≤ (i : Int) := by omega
section
variable (o : List ByteArray) (mt : List S63) (s : List S27) (p : List S65) (a4 a5 a6 : Int)
theorem box_l0 (ho : o.length ≤ 12) : ∀ (m i : Nat), i + m = o.length → Ev (fun k => batch_checkOxides.l0 k o (o.length : Int) (i : Int) o mt s p a4 a5 a6) (oxE o m i)
  | 0, i, hi => by
    apply Ev.step
    simp only [batch_checkOxides.l0, if_neg (show ¬ (i : Int) < (o.length : Int) by omega)]
    exact Ev.const _
  | m + 1, i, hi => by
    have ih := box_l0 ho m (i + 1) (by omega)
    apply Ev.step
    simp only [batch_checkOxides.l0, if_pos (show (i : Int) < (o.length : Int) by omega), if_pos (i_pos i), if_pos (show (i : Int) ≤ (o.length : Int) by omega), wrap_succ (i_pos i) (show (i : Int) ≤ 1000000000 by omega), Int.toNat_natCast]
    refine Ev.bind (bname _) ?_
    unfold oxE
    by_cases h : nameOk (rdOf ByteArray.empty o (i : Int)) = true
    · simp only [if_pos h]
      refine Ev.bind (bcontains _ _ (by simp; omega)) ?_
      by_cases h' : ((o.take i).any fun y => y.toList == (rdOf ByteArray.empty o (i : Int)).toList) = true
      · simp only [if_pos h']; exact Ev.const _
      · simp only [if_neg h']; exact ih
    · simp only [if_neg h]; exact Ev.const _
theorem box_f : Ev (fun k => batch_checkOxides.f k o mt s p a4 a5 a6) (if o.length > 12 then 3 else if o.length = 0 then 1 else oxE o o.length 0) := by
  unfold batch_checkOxides.f
  by_cases h : o.length > 12
  · simp only [if_pos h, if_pos (show (o.length : Int) > 12 by omega)]; exact Ev.const _
  · by_cases h' : o.length = 0
    · simp only [if_neg h, if_neg (show ¬ (o.length : Int) > 12 by omega), if_pos h', if_pos (show (o.length : Int) = 0 by omega)]; exact Ev.const _
    · simp only [if_neg h, if_neg (show ¬ (o.length : Int) > 12 by omega), if_neg h', if_neg (show ¬ (o.length : Int) = 0 by omega)]
      exact box_l0 o mt s p a4 a5 a6 (by omega) o.length 0 (by omega)
theorem rox_l0 (ho : o.length ≤ 12) (R : Int) (hR : Ev (fun k => if (mt.length : Int) > 12 then some 3 else (if (mt.length : Int) = 0 then some 1 else rf_Check.l1 k [] 0 o mt s p a4 a5 a6)) R) :
    ∀ (m i : Nat), i + m = o.length → Ev (fun k => rf_Check.l0 k (i : Int) o mt s p a4 a5 a6) (if oxE o m i = 0 then R else oxE o m i)
  | 0, i, hi => by
    apply Ev.step
    simp only [rf_Check.l0, if_neg (show ¬ (i : Int) < (o.length : Int) by omega)]
    exact hR.cast (by simp [oxE])
  | m + 1, i, hi => by
    have ih := rox_l0 ho R hR m (i + 1) (by omega)
    apply Ev.step
    simp only [rf_Check.l0, if_pos (show (i : Int) < (o.length : Int) by omega), if_pos (i_pos i), if_pos (show (i : Int) ≤ (o.length : Int) by omega), wrap_succ (i_pos i) (show (i : Int) ≤ 1000000000 by omega), Int.toNat_natCast]
    refine Ev.bind (rname _) ?_
    unfold oxE
    by_cases h : nameOk (rdOf ByteArray.empty o (i : Int)) = true
    · simp only [if_pos h]
      refine Ev.bind (rin _ _ (by simp; omega)) ?_
      by_cases h' : ((o.take i).any fun y => y.toList == (rdOf ByteArray.empty o (i : Int)).toList) = true
      · simp only [if_pos h']; exact (Ev.const _).cast (by simp)
      · simp only [if_neg h']; exact ih
    · simp only [if_neg h]; exact (Ev.const _).cast (by simp)
def conE (l : List S27) : Nat → Nat → Int → Int
  | 0, _, acc => if acc > 1000 then 12 else 0
  | m + 1, i, acc => if badSpan (rd_T27 l (i : Int)) = true then 1 else conE l m (i + 1) (acc + (rd_T27 l (i : Int)).f0)
def matC (n : Nat) (x : S63) : Int :=
  if (0 ≤ x.f1 ∧ x.f1 ≤ 10000) ∧ (-1000 ≤ x.f2 ∧ x.f2 ≤ 1000) ∧ (0 ≤ x.f3 ∧ x.f3 ≤ 10000) ∧ (x.f3 ≤ x.f4 ∧ x.f4 ≤ 10000) ∧ (1 ≤ x.f5 ∧ x.f5 ≤ 10000) ∧ x.f6.length = n then conE x.f6 x.f6.length 0 0 else 1
theorem span_bad (x : S27) : batch_span.f x.f0 x.f1 0 1000 = some (!badSpan x) := by
  rw [span_f]; unfold badSpan; simp
theorem rwithin_bad (x : S27) : rf_within.f x.f0 x.f1 0 1000 = some (!badSpan x) := by
  rw [← span_bad]; rfl
theorem bad_false {x : S27} (h : badSpan x = false) : 0 ≤ x.f0 ∧ x.f0 ≤ x.f1 ∧ x.f1 ≤ 1000 := by
  simp [badSpan] at h; omega
theorem bcon_l0 (l : List S27) (hl : l.length ≤ 12) : ∀ (m i : Nat) (acc : Int), i + m = l.length → 0 ≤ acc → acc ≤ 1000 * i → Ev (fun k => batch_checkMaterial.l0 k acc l (l.length : Int) (i : Int)) (conE l m i acc)
  | 0, i, acc, hi, h0, h1 => by
    apply Ev.step
    simp only [batch_checkMaterial.l0, if_neg (show ¬ (i : Int) < (l.length : Int) by omega)]
    unfold conE
    by_cases h : acc > 1000
    · simp only [if_pos h]; exact Ev.const _
    · simp only [if_neg h]; exact Ev.const _
  | m + 1, i, acc, hi, h0, h1 => by
    apply Ev.step
    simp only [batch_checkMaterial.l0, if_pos (show (i : Int) < (l.length : Int) by omega), if_pos (i_pos i), wrap_succ (i_pos i) (show (i : Int) ≤ 1000000000 by omega), span_bad, Option.bind_some]
    unfold conE
    by_cases h : badSpan (rd_T27 l (i : Int)) = true
    · simp only [h, Bool.not_true, Bool.false_eq_true, if_false, if_true]; exact Ev.const _
    · have hb := bad_false (Bool.not_eq_true _ ▸ h)
      have ih := bcon_l0 l hl m (i + 1) (acc + (rd_T27 l (i : Int)).f0) (by omega) (by omega) (by omega)
      simp only [h, Bool.not_false, Bool.false_eq_true, if_true, if_false, wrap_id (x := acc + (rd_T27 l (i : Int)).f0) (by omega) (by omega)]
      exact ih
theorem rcon_l0 (n : ByteArray) (b1 b2 b3 b4 b5 : Int) (l : List S27) (hl : l.length ≤ 12) : ∀ (m i : Nat) (acc : Int), i + m = l.length → 0 ≤ acc → acc ≤ 1000 * i → Ev (fun k => rf_material.l0 k acc (i : Int) n b1 b2 b3 b4 b5 l) (conE l m i acc)
  | 0, i, acc, hi, h0, h1 => by
    apply Ev.step
    simp only [rf_material.l0, if_neg (show ¬ (i : Int) < (l.length : Int) by omega)]
    unfold conE
    by_cases h : acc > 1000
    · simp only [if_pos h]; exact Ev.const _
    · simp only [if_neg h]; exact Ev.const _
  | m + 1, i, acc, hi, h0, h1 => by
    apply Ev.step
    simp only [rf_material.l0, if_pos (show (i : Int) < (l.length : Int) by omega), if_pos (i_pos i), wrap_succ (i_pos i) (show (i : Int) ≤ 1000000000 by omega), rwithin_bad, Option.bind_some]
    unfold conE
    by_cases h : badSpan (rd_T27 l (i : Int)) = true
    · simp only [h, Bool.not_true, Bool.false_eq_true, if_false, if_true]; exact Ev.const _
    · have hb := bad_false (Bool.not_eq_true _ ▸ h)
      have ih := rcon_l0 n b1 b2 b3 b4 b5 l hl m (i + 1) (acc + (rd_T27 l (i : Int)).f0) (by omega) (by omega) (by omega)
      simp only [h, Bool.not_false, Bool.false_eq_true, if_true, if_false, wrap_id (x := acc + (rd_T27 l (i : Int)).f0) (by omega) (by omega)]
      exact ih
theorem bmat (ho : o.length ≤ 12) (x : S63) : Ev (fun k => batch_checkMaterial.f k o mt s p a4 a5 a6 x.f0 x.f1 x.f2 x.f3 x.f4 x.f5 x.f6) (matC o.length x) := by
  have hj1 : Ev (fun k => batch_checkMaterial.j0 k true x.f0 x.f1 x.f2 x.f3 x.f4 x.f5 x.f6) 1 := by
    apply Ev.step; simp only [batch_checkMaterial.j0, if_true]; exact Ev.const _
  have hj0 : x.f6.length = o.length → Ev (fun k => batch_checkMaterial.j0 k false x.f0 x.f1 x.f2 x.f3 x.f4 x.f5 x.f6) (conE x.f6 x.f6.length 0 0) := by
    intro hh
    apply Ev.step; simp only [batch_checkMaterial.j0, Bool.false_eq_true, if_false]
    exact bcon_l0 x.f6 (by omega) x.f6.length 0 0 (by omega) (by omega) (by omega)
  unfold batch_checkMaterial.f
  simp only [within_f, Option.bind_some, Bool.and_eq_true, decide_eq_true_eq]
  unfold matC
  by_cases h1 : 0 ≤ x.f1 ∧ x.f1 ≤ 10000
  · by_cases h2 : -1000 ≤ x.f2 ∧ x.f2 ≤ 1000
    · by_cases h3 : 0 ≤ x.f3 ∧ x.f3 ≤ 10000
      · by_cases h4 : x.f3 ≤ x.f4 ∧ x.f4 ≤ 10000
        · by_cases h5 : 1 ≤ x.f5 ∧ x.f5 ≤ 10000
          · by_cases h6 : x.f6.length = o.length
            · simp only [if_pos h1, if_pos h2, if_pos h3, if_pos h4, if_pos h5, h1, h2, h3, h4, h5, h6, and_self, if_true, bne_self_eq_false]
              exact (hj0 h6).cast (by rw [h6])
            · have hb : ((x.f6.length : Int) != (o.length : Int)) = true := by simp; omega
              simp only [if_pos h1, if_pos h2, if_pos h3, if_pos h4, if_pos h5, hb]
              exact hj1.cast (by rw [if_neg (fun hh => h6 hh.2.2.2.2.2)])
          · simp only [if_pos h1, if_pos h2, if_pos h3, if_pos h4, if_neg h5]
            exact hj1.cast (by rw [if_neg (fun hh => h5 hh.2.2.2.2.1)])
        · simp only [if_pos h1, if_pos h2, if_pos h3, if_neg h4]
          exact hj1.cast (by rw [if_neg (fun hh => h4 hh.2.2.2.1)])
      · simp only [if_pos h1, if_pos h2, if_neg h3]
        exact hj1.cast (by rw [if_neg (fun hh => h3 hh.2.2.1)])
    · simp only [if_pos h1, if_neg h2]
      exact hj1.cast (by rw [if_neg (fun hh => h2 hh.2.1)])
  · simp only [if_neg h1]
    exact hj1.cast (by rw [if_neg (fun hh => h1 hh.1)])
theorem rmat (ho : o.length ≤ 12) (x : S63) : Ev (fun k => rf_material.f k o mt s p a4 a5 a6 x.f0 x.f1 x.f2 x.f3 x.f4 x.f5 x.f6) (matC o.length x) := by
  have hj1 : Ev (fun k => rf_material.j0 k true o mt s p a4 a5 a6 x.f0 x.f1 x.f2 x.f3 x.f4 x.f5 x.f6) 1 := by
    apply Ev.step; simp only [rf_material.j0, if_true]; exact Ev.const _
  have hj0 : Ev (fun k => rf_material.j0 k false o mt s p a4 a5 a6 x.f0 x.f1 x.f2 x.f3 x.f4 x.f5 x.f6) (if x.f6.length = o.length then conE x.f6 x.f6.length 0 0 else 1) := by
    apply Ev.step; simp only [rf_material.j0, Bool.false_eq_true, if_false]
    by_cases hh : x.f6.length = o.length
    · simp only [if_pos hh, if_pos (show (x.f6.length : Int) = (o.length : Int) by omega)]
      exact rcon_l0 x.f0 x.f1 x.f2 x.f3 x.f4 x.f5 x.f6 (by omega) x.f6.length 0 0 (by omega) (by omega) (by omega)
    · simp only [if_neg hh, if_neg (show ¬ (x.f6.length : Int) = (o.length : Int) by omega)]; exact Ev.const _
  unfold rf_material.f matC
  by_cases h1 : x.f1 < 0
  · simp only [if_pos h1]; exact hj1.cast (by rw [if_neg]; omega)
  · simp only [if_neg h1]
    by_cases h2 : x.f1 > 10000
    · simp only [if_pos h2]; exact hj1.cast (by rw [if_neg]; omega)
    · simp only [if_neg h2]
      by_cases h3 : x.f2 < -1000
      · simp only [if_pos h3]; exact hj1.cast (by rw [if_neg]; omega)
      · simp only [if_neg h3]
        by_cases h4 : x.f2 > 1000
        · simp only [if_pos h4]; exact hj1.cast (by rw [if_neg]; omega)
        · simp only [if_neg h4]
          by_cases h5 : x.f3 < 0
          · simp only [if_pos h5]; exact hj1.cast (by rw [if_neg]; omega)
          · simp only [if_neg h5]
            by_cases h6 : x.f3 > 10000
            · simp only [if_pos h6]; exact hj1.cast (by rw [if_neg]; omega)
            · simp only [if_neg h6]
              by_cases h7 : x.f4 < x.f3
              · simp only [if_pos h7]; exact hj1.cast (by rw [if_neg]; omega)
              · simp only [if_neg h7]
                by_cases h8 : x.f4 > 10000
                · simp only [if_pos h8]; exact hj1.cast (by rw [if_neg]; omega)
                · simp only [if_neg h8]
                  by_cases h9 : x.f5 < 1
                  · simp only [if_pos h9]; exact hj1.cast (by rw [if_neg]; omega)
                  · simp only [if_neg h9]
                    by_cases h10 : x.f5 > 10000
                    · simp only [h10, decide_true]; exact hj1.cast (by rw [if_neg]; omega)
                    · simp only [h10, decide_false]
                      refine hj0.cast ?_
                      by_cases hh : x.f6.length = o.length
                      · rw [if_pos hh, if_pos (by omega)]
                      · rw [if_neg hh, if_neg (by omega)]
end
end Go.Proofs.Ytkjkokgbhepmoaa.PB

namespace Go.Proofs.Ytkjkokgbhepmoaa.PB
open Go.RowKit Go.Proofs.YtkjkokgbhepmoaaW.PrintWords Go.Proofs.YtkjkokgbhepmoaaW.PrintLast Go.Proofs.YtkjkokgbhepmoaaW.PrintMore
def proC (n : Nat) (x : S65) : Int := if x.f1.length = n then (if x.f1.any (outside (-10000) 10000) = true then 1 else if -10000 ≤ x.f2.f0 ∧ x.f2.f0 ≤ x.f2.f1 ∧ x.f2.f1 ≤ 10000 then 0 else 1) else 1
def proE (p : List S65) (n : Nat) : Nat → Nat → Int
  | 0, _ => 0
  | m + 1, i => if nameOk (rd_T65 p (i : Int)).f0 = true then (if ((p.take i).any fun x => x.f0.toList == (rd_T65 p (i : Int)).f0.toList) = true then 6 else (if proC n (rd_T65 p (i : Int)) = 0 then proE p n m (i + 1) else proC n (rd_T65 p (i : Int)))) else 5
def matE (mt : List S63) (n : Nat) : Nat → Nat → Int
  | 0, _ => 0
  | m + 1, i => if nameOk (rd_T63 mt (i : Int)).f0 = true then (if ((mt.take i).any fun x => x.f0.toList == (rd_T63 mt (i : Int)).f0.toList) = true then 6 else (if matC n (rd_T63 mt (i : Int)) = 0 then matE mt n m (i + 1) else matC n (rd_T63 mt (i : Int)))) else 5
theorem rwithin_f (a b lo hi : Int) : rf_within.f a b lo hi = some (decide (lo ≤ a) && decide (a ≤ b) && decide (b ≤ hi)) := by
  rw [← span_f]; rfl
section
variable (o : List ByteArray) (mt : List S63) (s : List S27) (p : List S65) (a4 a5 a6 : Int)
theorem bpro (x : S65) : Ev (fun _ => batch_checkProperty.f o mt s p a4 a5 a6 x.f0 x.f1 x.f2.f0 x.f2.f1) (proC o.length x) := by
  unfold batch_checkProperty.f proC
  by_cases h : x.f1.length = o.length
  · simp only [if_pos h, if_pos (show (x.f1.length : Int) = (o.length : Int) by omega), x_coefs.f, Option.bind_some, span_f, Bool.and_eq_true, decide_eq_true_eq]
    by_cases h' : x.f1.any (outside (-10000) 10000) = true
    · simp only [if_pos h']; exact Ev.const _
    · simp only [if_neg h']
      by_cases h2 : -10000 ≤ x.f2.f0 ∧ x.f2.f0 ≤ x.f2.f1 ∧ x.f2.f1 ≤ 10000
      · rw [if_pos (by omega), if_pos h2]; exact Ev.const _
      · rw [if_neg (by omega), if_neg h2]; exact Ev.const _
  · simp only [if_neg h, if_neg (show ¬ (x.f1.length : Int) = (o.length : Int) by omega)]; exact Ev.const _
theorem rpro_l0 (n : ByteArray) (l : List Int) (t0 t1 : Int) (hl : l.length ≤ 12) : ∀ (m i : Nat), i + m = l.length → Ev (fun k => rf_property.l0 k (i : Int) n l t0 t1) (if (l.drop i).any (outside (-10000) 10000) = true then 1 else if -10000 ≤ t0 ∧ t0 ≤ t1 ∧ t1 ≤ 10000 then 0 else 1)
  | 0, i, hi => by
    apply Ev.step
    simp only [rf_property.l0, if_neg (show ¬ (i : Int) < (l.length : Int) by omega), rwithin_f, Option.bind_some, Bool.and_eq_true, decide_eq_true_eq]
    have h3 : (l.drop i).any (outside (-10000) 10000) = false := by rw [List.drop_eq_nil_of_le (by omega)]; rfl
    rw [h3]
    by_cases h2 : -10000 ≤ t0 ∧ t0 ≤ t1 ∧ t1 ≤ 10000
    · have h2' : (-10000 ≤ t0 ∧ t0 ≤ t1) ∧ t1 ≤ 10000 := by omega
      simp only [if_pos h2', if_pos h2, Bool.false_eq_true, if_false]; exact Ev.const _
    · have h2' : ¬ ((-10000 ≤ t0 ∧ t0 ≤ t1) ∧ t1 ≤ 10000) := by omega
      simp only [if_neg h2', if_neg h2, Bool.false_eq_true, if_false]; exact Ev.const _
  | m + 1, i, hi => by
    have ih := rpro_l0 n l t0 t1 hl m (i + 1) (by omega)
    have hlt : i < l.length := by omega
    have hr : rd l (i : Int) = l[i] := by simp [rd, hlt]
    apply Ev.step
    simp only [rf_property.l0, if_pos (show (i : Int) < (l.length : Int) by omega), if_pos (i_pos i), wrap_succ (i_pos i) (show (i : Int) ≤ 1000000000 by omega), hr]
    rw [List.drop_eq_getElem_cons hlt, List.any_cons]
    by_cases h1 : l[i] < -10000
    · simp only [if_pos h1]
      have hb : outside (-10000) 10000 l[i] = true := by simp [outside]; omega
      exact (Ev.const _).cast (by rw [hb]; rfl)
    · simp only [if_neg h1]
      by_cases h2 : l[i] > 10000
      · simp only [if_pos h2]
        have hb : outside (-10000) 10000 l[i] = true := by simp [outside]; omega
        exact (Ev.const _).cast (by rw [hb]; rfl)
      · simp only [if_neg h2]
        have hb : outside (-10000) 10000 l[i] = false := by simp [outside]; omega
        exact ih.cast (by rw [hb, Bool.false_or])
theorem rpro (ho : o.length ≤ 12) (x : S65) : Ev (fun k => rf_property.f k o mt s p a4 a5 a6 x.f0 x.f1 x.f2.f0 x.f2.f1) (proC o.length x) := by
  unfold rf_property.f proC
  by_cases h : x.f1.length = o.length
  · simp only [if_pos h, if_pos (show (x.f1.length : Int) = (o.length : Int) by omega)]
    exact (rpro_l0 x.f0 x.f1 x.f2.f0 x.f2.f1 (by omega) x.f1.length 0 (by omega)).cast (by rw [List.drop_zero])
  · simp only [if_neg h, if_neg (show ¬ (x.f1.length : Int) = (o.length : Int) by omega)]; exact Ev.const _
theorem bmats_l0 (ho : o.length ≤ 12) (hm : mt.length ≤ 12) : ∀ (m i : Nat), i + m = mt.length → Ev (fun k => batch_checkMaterials.l0 k mt (mt.length : Int) (i : Int) o mt s p a4 a5 a6) (matE mt o.length m i)
  | 0, i, hi => by
    apply Ev.step
    simp only [batch_checkMaterials.l0, if_neg (show ¬ (i : Int) < (mt.length : Int) by omega)]
    exact Ev.const _
  | m + 1, i, hi => by
    have ih := bmats_l0 ho hm m (i + 1) (by omega)
    apply Ev.step
    simp only [batch_checkMaterials.l0, if_pos (show (i : Int) < (mt.length : Int) by omega), if_pos (i_pos i), wrap_succ (i_pos i) (show (i : Int) ≤ 1000000000 by omega), x_twiceM.f, Int.toNat_natCast, Option.bind_some]
    refine Ev.bind (bname _) ?_
    unfold matE
    by_cases h : nameOk (rd_T63 mt (i : Int)).f0 = true
    · simp only [if_pos h]
      by_cases h' : ((mt.take i).any fun x => x.f0.toList == (rd_T63 mt (i : Int)).f0.toList) = true
      · simp only [if_pos h']; exact Ev.const _
      · simp only [if_neg h']
        refine Ev.bind (bmat o mt s p a4 a5 a6 ho _) ?_
        by_cases h2 : matC o.length (rd_T63 mt (i : Int)) = 0
        · simp only [if_pos h2]; exact ih
        · simp only [if_neg h2]; exact Ev.const _
    · simp only [if_neg h]; exact Ev.const _
theorem bmats (ho : o.length ≤ 12) : Ev (fun k => batch_checkMaterials.f k o mt s p a4 a5 a6) (if mt.length > 12 then 3 else if mt.length = 0 then 1 else matE mt o.length mt.length 0) := by
  unfold batch_checkMaterials.f
  by_cases h : mt.length > 12
  · simp only [if_pos h, if_pos (show (mt.length : Int) > 12 by omega)]; exact Ev.const _
  · by_cases h' : mt.length = 0
    · simp only [if_neg h, if_neg (show ¬ (mt.length : Int) > 12 by omega), if_pos h', if_pos (show (mt.length : Int) = 0 by omega)]; exact Ev.const _
    · simp only [if_neg h, if_neg (show ¬ (mt.length : Int) > 12 by omega), if_neg h', if_neg (show ¬ (mt.length : Int) = 0 by omega)]
      exact bmats_l0 o mt s p a4 a5 a6 ho (by omega) mt.length 0 (by omega)
theorem rmats_l1 (ho : o.length ≤ 12) (hm : mt.length ≤ 12) (R : Int) (hR : Ev (fun k => if (s.length : Int) = (o.length : Int) then rf_Check.l2 k 0 o mt s p a4 a5 a6 else some 1) R) :
    ∀ (m i : Nat), i + m = mt.length → Ev (fun k => rf_Check.l1 k ((mt.take i).map (·.f0)) (i : Int) o mt s p a4 a5 a6) (if matE mt o.length m i = 0 then R else matE mt o.length m i)
  | 0, i, hi => by
    apply Ev.step
    simp only [rf_Check.l1, if_neg (show ¬ (i : Int) < (mt.length : Int) by omega)]
    exact hR.cast (by simp [matE])
  | m + 1, i, hi => by
    have ih := rmats_l1 ho hm R hR m (i + 1) (by omega)
    have hlt : i < mt.length := by omega
    have hr : rd_T63 mt (i : Int) = mt[i] := by simp [rd_T63, hlt]
    have htk : (mt.take i).map (·.f0) ++ [(rd_T63 mt (i : Int)).f0] = (mt.take (i + 1)).map (·.f0) := by
      rw [hr, List.take_succ_eq_append_getElem hlt, List.map_append]; rfl
    apply Ev.step
    simp only [rf_Check.l1, if_pos (show (i : Int) < (mt.length : Int) by omega), if_pos (i_pos i), wrap_succ (i_pos i) (show (i : Int) ≤ 1000000000 by omega), htk]
    refine Ev.bind (rname _) ?_
    unfold matE
    by_cases h : nameOk (rd_T63 mt (i : Int)).f0 = true
    · simp only [if_pos h]
      have hany : (((mt.take i).map (·.f0)).any fun y => y.toList == (rd_T63 mt (i : Int)).f0.toList) = ((mt.take i).any fun x => x.f0.toList == (rd_T63 mt (i : Int)).f0.toList) := by rw [List.any_map]; rfl
      refine Ev.bind (rin _ _ (by simp; omega)) ?_
      rw [hany]
      by_cases h' : ((mt.take i).any fun x => x.f0.toList == (rd_T63 mt (i : Int)).f0.toList) = true
      · simp only [if_pos h']; exact (Ev.const _).cast (by simp)
      · simp only [if_neg h']
        have hlt8 : ((mt.take i).map (·.f0)).length < 8796093022208 := by rw [List.length_map, List.length_take]; omega
        simp only [if_pos hlt8]
        refine Ev.bind (rmat o mt s p a4 a5 a6 ho _) ?_
        by_cases h2 : matC o.length (rd_T63 mt (i : Int)) = 0
        · simp only [if_pos h2]; exact ih
        · simp only [if_neg h2]; exact Ev.const _
    · simp only [if_neg h]; exact (Ev.const _).cast (by simp)
theorem bpros_l0 (hp : p.length ≤ 6) (R : Int) (hR : Ev (fun _ => (batch_span.f a4 a5 (-10000) 10000).bind fun t147 => (if t147 = true then ((batch_within.f a6 1 10000).bind fun t148 => (if t148 = true then (some 0) else (some 1))) else (some 1))) R) :
    ∀ (m i : Nat), i + m = p.length → Ev (fun k => batch_Check.l0 k p (p.length : Int) (i : Int) o mt s p a4 a5 a6) (if proE p o.length m i = 0 then R else proE p o.length m i)
  | 0, i, hi => by
    apply Ev.step
    simp only [batch_Check.l0, if_neg (show ¬ (i : Int) < (p.length : Int) by omega)]
    exact hR.cast (by simp [proE])
  | m + 1, i, hi => by
    have ih := bpros_l0 hp R hR m (i + 1) (by omega)
    apply Ev.step
    simp only [batch_Check.l0, if_pos (show (i : Int) < (p.length : Int) by omega), if_pos (i_pos i), wrap_succ (i_pos i) (show (i : Int) ≤ 1000000000 by omega), x_twiceP.f, Int.toNat_natCast, Option.bind_some]
    refine Ev.bind (bname _) ?_
    unfold proE
    by_cases h : nameOk (rd_T65 p (i : Int)).f0 = true
    · simp only [if_pos h]
      by_cases h' : ((p.take i).any fun x => x.f0.toList == (rd_T65 p (i : Int)).f0.toList) = true
      · simp only [if_pos h']; exact (Ev.const _).cast (by simp)
      · simp only [if_neg h']
        refine Ev.bind (bpro o mt s p a4 a5 a6 _) ?_
        by_cases h2 : proC o.length (rd_T65 p (i : Int)) = 0
        · simp only [if_pos h2]; exact ih
        · simp only [if_neg h2]; exact Ev.const _
    · simp only [if_neg h]; exact (Ev.const _).cast (by simp)
theorem rpros_l3 (ho : o.length ≤ 12) (hp : p.length ≤ 6) (R : Int) (hR : Ev (fun _ => (rf_within.f a4 a5 (-10000) 10000).bind fun t264 => (if t264 = true then (if a6 < 1 then (some 1) else (if a6 > 10000 then (some 1) else (some 0))) else (some 1))) R) :
    ∀ (m i : Nat), i + m = p.length → Ev (fun k => rf_Check.l3 k ((p.take i).map (·.f0)) (i : Int) o mt s p a4 a5 a6) (if proE p o.length m i = 0 then R else proE p o.length m i)
  | 0, i, hi => by
    apply Ev.step
    simp only [rf_Check.l3, if_neg (show ¬ (i : Int) < (p.length : Int) by omega)]
    exact hR.cast (by simp [proE])
  | m + 1, i, hi => by
    have ih := rpros_l3 ho hp R hR m (i + 1) (by omega)
    have hlt : i < p.length := by omega
    have hr : rd_T65 p (i : Int) = p[i] := by simp [rd_T65, hlt]
    have htk : (p.take i).map (·.f0) ++ [(rd_T65 p (i : Int)).f0] = (p.take (i + 1)).map (·.f0) := by
      rw [hr, List.take_succ_eq_append_getElem hlt, List.map_append]; rfl
    apply Ev.step
    simp only [rf_Check.l3, if_pos (show (i : Int) < (p.length : Int) by omega), if_pos (i_pos i), wrap_succ (i_pos i) (show (i : Int) ≤ 1000000000 by omega), htk]
    refine Ev.bind (rname _) ?_
    unfold proE
    by_cases h : nameOk (rd_T65 p (i : Int)).f0 = true
    · simp only [if_pos h]
      have hany : (((p.take i).map (·.f0)).any fun y => y.toList == (rd_T65 p (i : Int)).f0.toList) = ((p.take i).any fun x => x.f0.toList == (rd_T65 p (i : Int)).f0.toList) := by rw [List.any_map]; rfl
      refine Ev.bind (rin _ _ (by simp; omega)) ?_
      rw [hany]
      by_cases h' : ((p.take i).any fun x => x.f0.toList == (rd_T65 p (i : Int)).f0.toList) = true
      · simp only [if_pos h']; exact (Ev.const _).cast (by simp)
      · simp only [if_neg h']
        have hlt8 : ((p.take i).map (·.f0)).length < 8796093022208 := by rw [List.length_map, List.length_take]; omega
        simp only [if_pos hlt8]
        refine Ev.bind (rpro o mt s p a4 a5 a6 ho _) ?_
        by_cases h2 : proC o.length (rd_T65 p (i : Int)) = 0
        · simp only [if_pos h2]; exact ih
        · simp only [if_neg h2]; exact Ev.const _
    · simp only [if_neg h]; exact (Ev.const _).cast (by simp)
end
end Go.Proofs.Ytkjkokgbhepmoaa.PB

