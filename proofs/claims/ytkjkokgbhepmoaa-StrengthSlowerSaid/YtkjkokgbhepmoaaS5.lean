import Derived.Test.YtkjkokgbhepmoaaS4
import Derived.KernelRfl
import Derived.RangeFuncNested
import Derived.RangeFuncBound
import Derived.RangeFuncCalls
import Derived.RangeFuncLeaves
import Derived.Shelf.Abstract
import Derived.Shelf.RegionOpen
import Derived.WalkKit
import Derived.OwnWalkIn
import Derived.TacticsInMore
import Derived.LoopNIn
import Derived.LoopIn
set_option linter.unusedVariables false
set_option linter.unusedSimpArgs false
namespace Go.Proofs.Ytkjkokgbhepmoaa.PB
open Go.RowKit Go.Proofs.YtkjkokgbhepmoaaW.PrintWords Go.Proofs.YtkjkokgbhepmoaaW.PrintLast Go.Proofs.YtkjkokgbhepmoaaW.PrintMore
attribute [local go_sem] max2_int min2_int max_two min_two max_three min_three max_four min_four
mutual
def lw_Great.j0 : Nat → Bool → List ByteArray → List (S63) → List (S27) → List (S65) → Int → Int → Int → Option (Bool)
 | 0, _, _, _, _, _, _, _, _ => none
 | k + 1, x28, x102q0, x102q1, x102q2, x102q3, x102q4, x102q5, x102q6 => if x28 = true then (some true) else (lw_Great.l0 k 0 0 x102q0 x102q1 x102q2 x102q3 x102q4 x102q5 x102q6)
def lw_Great.l0 : Nat → Int → Int → List ByteArray → List (S63) → List (S27) → List (S65) → Int → Int → Int → Option (Bool)
 | 0, _, _, _, _, _, _, _, _, _ => none
 | k + 1, x3, x4, x102q0, x102q1, x102q2, x102q3, x102q4, x102q5, x102q6 => if x4 < (x102q0.length : Int) then (if 0 ≤ x4 then (lw_Great.l0 k (wrap64 (x3 + ((rdOf ByteArray.empty x102q0 x4).size : Int))) (wrap64 (x4 + 1)) x102q0 x102q1 x102q2 x102q3 x102q4 x102q5 x102q6) else (none)) else (lw_Great.l1 k x3 0 x102q0 x102q1 x102q2 x102q3 x102q4 x102q5 x102q6)
def lw_Great.l1 : Nat → Int → Int → List ByteArray → List (S63) → List (S27) → List (S65) → Int → Int → Int → Option (Bool)
 | 0, _, _, _, _, _, _, _, _, _ => none
 | k + 1, x3, x5, x102q0, x102q1, x102q2, x102q3, x102q4, x102q5, x102q6 => if x5 < (x102q1.length : Int) then (if 0 ≤ x5 then (if (((rd_T63 x102q1 x5).f6).length : Int) > 20 then (some true) else (lw_Great.l1 k (wrap64 (x3 + (((rd_T63 x102q1 x5).f0).size : Int))) (wrap64 (x5 + 1)) x102q0 x102q1 x102q2 x102q3 x102q4 x102q5 x102q6)) else (none)) else (lw_Great.l2 k x3 0 x102q0 x102q1 x102q2 x102q3 x102q4 x102q5 x102q6)
def lw_Great.l2 : Nat → Int → Int → List ByteArray → List (S63) → List (S27) → List (S65) → Int → Int → Int → Option (Bool)
 | 0, _, _, _, _, _, _, _, _, _ => none
 | k + 1, x3, x6, x102q0, x102q1, x102q2, x102q3, x102q4, x102q5, x102q6 => if x6 < (x102q3.length : Int) then (if 0 ≤ x6 then (if (((rd_T65 x102q3 x6).f1).length : Int) > 20 then (some true) else (lw_Great.l2 k (wrap64 (x3 + (((rd_T65 x102q3 x6).f0).size : Int))) (wrap64 (x6 + 1)) x102q0 x102q1 x102q2 x102q3 x102q4 x102q5 x102q6)) else (none)) else (some (decide (x3 > 2000)))
end
def lw_Great.f (k : Nat) (l0_0 : List ByteArray) (l0_1 : List (S63)) (l0_2 : List (S27)) (l0_3 : List (S65)) (a0_4 : Int) (a0_5 : Int) (a0_6 : Int) : Option (Bool) := if (l0_0.length : Int) > 20 then (lw_Great.j0 k true l0_0 l0_1 l0_2 l0_3 a0_4 a0_5 a0_6) else (if (l0_1.length : Int) > 20 then (lw_Great.j0 k true l0_0 l0_1 l0_2 l0_3 a0_4 a0_5 a0_6) else (if (l0_2.length : Int) > 20 then (lw_Great.j0 k true l0_0 l0_1 l0_2 l0_3 a0_4 a0_5 a0_6) else (lw_Great.j0 k (decide ((l0_3.length : Int) > 20)) l0_0 l0_1 l0_2 l0_3 a0_4 a0_5 a0_6)))
theorem lw_Great.mono_l : ∀ k, (∀ y0 y1 y2 y3 y4 y5 y6 y7, LeO (lw_Great.j0 k y0 y1 y2 y3 y4 y5 y6 y7) (lw_Great.j0 (k + 1) y0 y1 y2 y3 y4 y5 y6 y7)) ∧ (∀ y0 y1 y2 y3 y4 y5 y6 y7 y8, LeO (lw_Great.l0 k y0 y1 y2 y3 y4 y5 y6 y7 y8) (lw_Great.l0 (k + 1) y0 y1 y2 y3 y4 y5 y6 y7 y8)) ∧ (∀ y0 y1 y2 y3 y4 y5 y6 y7 y8, LeO (lw_Great.l1 k y0 y1 y2 y3 y4 y5 y6 y7 y8) (lw_Great.l1 (k + 1) y0 y1 y2 y3 y4 y5 y6 y7 y8)) ∧ (∀ y0 y1 y2 y3 y4 y5 y6 y7 y8, LeO (lw_Great.l2 k y0 y1 y2 y3 y4 y5 y6 y7 y8) (lw_Great.l2 (k + 1) y0 y1 y2 y3 y4 y5 y6 y7 y8))
 | 0 => ⟨fun _ _ _ _ _ _ _ _ r h => by simp [lw_Great.j0] at h, fun _ _ _ _ _ _ _ _ _ r h => by simp [lw_Great.l0] at h, fun _ _ _ _ _ _ _ _ _ r h => by simp [lw_Great.l1] at h, fun _ _ _ _ _ _ _ _ _ r h => by simp [lw_Great.l2] at h⟩
 | k + 1 => by
  obtain ⟨ih0, ih1, ih2, ih3⟩ := lw_Great.mono_l k
  refine ⟨?_, ?_, ?_, ?_⟩
  ·intro y0 y1 y2 y3 y4 y5 y6 y7
   unfold lw_Great.j0
   repeat' first
   | (with_reducible exact ih0 _ _ _ _ _ _ _ _)
   | (with_reducible exact ih1 _ _ _ _ _ _ _ _ _)
   | (with_reducible exact ih2 _ _ _ _ _ _ _ _ _)
   | (with_reducible exact ih3 _ _ _ _ _ _ _ _ _)
   | (with_reducible exact LeO.refl _)
   | (with_reducible exact LeO.none _)
   | (with_reducible refine LeO.ite ?_ ?_)
   | (with_reducible refine LeO.bind ?_ (fun _ => ?_))
   | exact LeO.none _
   | refine LeO.ite ?_ ?_
   | refine LeO.bind ?_ (fun _ => ?_)
  ·intro y0 y1 y2 y3 y4 y5 y6 y7 y8
   unfold lw_Great.l0
   repeat' first
   | (with_reducible exact ih0 _ _ _ _ _ _ _ _)
   | (with_reducible exact ih1 _ _ _ _ _ _ _ _ _)
   | (with_reducible exact ih2 _ _ _ _ _ _ _ _ _)
   | (with_reducible exact ih3 _ _ _ _ _ _ _ _ _)
   | (with_reducible exact LeO.refl _)
   | (with_reducible exact LeO.none _)
   | (with_reducible refine LeO.ite ?_ ?_)
   | (with_reducible refine LeO.bind ?_ (fun _ => ?_))
   | exact LeO.none _
   | refine LeO.ite ?_ ?_
   | refine LeO.bind ?_ (fun _ => ?_)
  ·intro y0 y1 y2 y3 y4 y5 y6 y7 y8
   unfold lw_Great.l1
   repeat' first
   | (with_reducible exact ih0 _ _ _ _ _ _ _ _)
   | (with_reducible exact ih1 _ _ _ _ _ _ _ _ _)
   | (with_reducible exact ih2 _ _ _ _ _ _ _ _ _)
   | (with_reducible exact ih3 _ _ _ _ _ _ _ _ _)
   | (with_reducible exact LeO.refl _)
   | (with_reducible exact LeO.none _)
   | (with_reducible refine LeO.ite ?_ ?_)
   | (with_reducible refine LeO.bind ?_ (fun _ => ?_))
   | exact LeO.none _
   | refine LeO.ite ?_ ?_
   | refine LeO.bind ?_ (fun _ => ?_)
  ·intro y0 y1 y2 y3 y4 y5 y6 y7 y8
   unfold lw_Great.l2
   repeat' first
   | (with_reducible exact ih0 _ _ _ _ _ _ _ _)
   | (with_reducible exact ih1 _ _ _ _ _ _ _ _ _)
   | (with_reducible exact ih2 _ _ _ _ _ _ _ _ _)
   | (with_reducible exact ih3 _ _ _ _ _ _ _ _ _)
   | (with_reducible exact LeO.refl _)
   | (with_reducible exact LeO.none _)
   | (with_reducible refine LeO.ite ?_ ?_)
   | (with_reducible refine LeO.bind ?_ (fun _ => ?_))
   | exact LeO.none _
   | refine LeO.ite ?_ ?_
   | refine LeO.bind ?_ (fun _ => ?_)
theorem lw_Great.mono : ∀ a0 a1 a2 a3 a4 a5 a6 k, LeO (lw_Great.f k a0 a1 a2 a3 a4 a5 a6) (lw_Great.f (k + 1) a0 a1 a2 a3 a4 a5 a6) := by
 intro a0 a1 a2 a3 a4 a5 a6 k
 obtain ⟨ih0, ih1, ih2, ih3⟩ := lw_Great.mono_l k
 unfold lw_Great.f
 repeat' first
   | (with_reducible exact ih0 _ _ _ _ _ _ _ _)
   | (with_reducible exact ih1 _ _ _ _ _ _ _ _ _)
   | (with_reducible exact ih2 _ _ _ _ _ _ _ _ _)
   | (with_reducible exact ih3 _ _ _ _ _ _ _ _ _)
   | (with_reducible exact LeO.refl _)
   | (with_reducible exact LeO.none _)
   | (with_reducible refine LeO.ite ?_ ?_)
   | (with_reducible refine LeO.bind ?_ (fun _ => ?_))
   | exact LeO.none _
   | refine LeO.ite ?_ ?_
   | refine LeO.bind ?_ (fun _ => ?_)
set_option maxHeartbeats 8000000 in
set_option maxRecDepth 100000 in
theorem lw_Great.calls (k : Nat) (A0_0 : Option Addr) (c0_0 : Nat) (l0_0 : List ByteArray) (A0_1 : Option Addr) (c0_1 : Nat) (l0_1 : List (S63)) (A0_2 : Option Addr) (c0_2 : Nat) (l0_2 : List (S27)) (A0_3 : Option Addr) (c0_3 : Nat) (l0_3 : List (S65)) (a0_4 : Int) (a0_5 : Int) (a0_6 : Int) (r : Bool) (w : World) (hr0_0 : Kd.C Kd.string w A0_0 l0_0.length l0_0) (hc0_0 : l0_0.length ≤ c0_0) (hr0_1 : Kd.C k63 w A0_1 l0_1.length l0_1) (hc0_1 : l0_1.length ≤ c0_1) (hr0_2 : Kd.C k27 w A0_2 l0_2.length l0_2) (hc0_2 : l0_2.length ≤ c0_2) (hr0_3 : Kd.C k65 w A0_3 l0_3.length l0_3) (hc0_3 : l0_3.length ≤ c0_3) (h : lw_Great.f k l0_0 l0_1 l0_2 l0_3 a0_4 a0_5 a0_6 = some r) :
  Calls Try.prog 12 #[.agg #[.slice A0_0 l0_0.length c0_0, .slice A0_1 l0_1.length c0_1, .slice A0_2 l0_2.length c0_2, .slice A0_3 l0_3.length c0_3, .int .i64 a0_4, .int .i64 a0_5, .int .i64 a0_6]] w fun e w' => e = .returned (.bool r) ∧ Below w.heap.size w w' := by
 have hu29 := Try.underlying29; have HR0_0 := Sd.mk hr0_0; have HC0_0 := Sd.mk hc0_0; clear hr0_0 hc0_0; have HR0_1 := Sd.mk hr0_1; have HC0_1 := Sd.mk hc0_1; clear hr0_1 hc0_1; have HR0_2 := Sd.mk hr0_2; have HC0_2 := Sd.mk hc0_2; clear hr0_2 hc0_2; have HR0_3 := Sd.mk hr0_3; have HC0_3 := Sd.mk hc0_3; clear hr0_3 hc0_3; have HB := Sd.mk (Below.refl w.heap.size w)
 have H : (if (l0_0.length : Int) > 20 then (lw_Great.j0 k true l0_0 l0_1 l0_2 l0_3 a0_4 a0_5 a0_6) else (if (l0_1.length : Int) > 20 then (lw_Great.j0 k true l0_0 l0_1 l0_2 l0_3 a0_4 a0_5 a0_6) else (if (l0_2.length : Int) > 20 then (lw_Great.j0 k true l0_0 l0_1 l0_2 l0_3 a0_4 a0_5 a0_6) else (lw_Great.j0 k (decide ((l0_3.length : Int) > 20)) l0_0 l0_1 l0_2 l0_3 a0_4 a0_5 a0_6)))) = some r := h
 clear h; have HC2 := Sd.mk H; clear H
 go_enter Try.func12, Try.ntmps12
 go_upto_region 1 with (first | ((with_reducible refine gate_dst (N := 1) rfl ?_); (try (refine gate_guard (by rfl) ?_; dsimp only)); refine box_event ?hg (N := 1) ?hd (cs := #[.slice A0_0 l0_0.length c0_0, .slice A0_1 l0_1.length c0_1, .slice A0_2 l0_2.length c0_2, .slice A0_3 l0_3.length c0_3, .int .i64 a0_4, .int .i64 a0_5, .int .i64 a0_6]) (t := 29) ?hr ?_; (case hd => rfl); (case hg => rfl); (case hr => exact tG); intro gb101 hg w3 hbox hb; have BK101 := Sd.mk (hbox); have GW101 := Sd.mk (bSz hg (bBl HB.out)); have GE101 := Sd.mk (bSz hg (bBl HB.out)); replace HB := Sd.mk (below_step (bBl HB.out) hb); clear hb hbox hg))
 (try simp only [Act.put, List.setIfInBounds_toArray, List.set_cons_zero, List.set_cons_succ])
 go_cut [28] (fun v28 wc => ∃ (kq : Nat) (x28_1 : Bool), v28 = .bool x28_1 ∧ Sd (lw_Great.j0 kq x28_1 l0_0 l0_1 l0_2 l0_3 a0_4 a0_5 a0_6 = some r) ∧ Sd (kq ≤ k) ∧ Sd (wc.heap[gb101]? = some (.cells #[(.slice A0_0 l0_0.length c0_0), (.slice A0_1 l0_1.length c0_1), (.slice A0_2 l0_2.length c0_2), (.slice A0_3 l0_3.length c0_3), .int .i64 a0_4, .int .i64 a0_5, .int .i64 a0_6] 29 (0, 0))) ∧ Sd (Below w.heap.size w wc))
 case first =>
  have H := HC2.out; clear HC2
  by_cases c4 : (l0_0.length : Int) > 20
  ·rw [if_pos c4] at H
   have c4b0 : decide (20 < (l0_0.length : Int)) = true := decide_eq_true c4
   have c4b1 : decide (20 < l0_0.length) = true := decide_eq_true (by omega)
   clear c4
   (first | rw [c4b0] | (simp only [i64_w, i32_w]; rw [c4b0]) | skip)
   have H' := Sd.mk H; clear H; obtain ⟨u5_0, u5_1, u5_2, u5_3, u5_4, u5_5, u5_6, o5_0, o5_1, o5_2, o5_3, o5_4, o5_5, o5_6⟩ := bc7 (w := w3) BK101.out
   go_wp2
   go_meet
   case rel => exact ⟨_, (true), tS, H', ⟨by first | omega | exact Nat.le_refl _⟩, ⟨bkA BK101.out⟩, ⟨bBl HB.out⟩⟩
  ·rw [if_neg c4] at H
   have c4b0 : decide (20 < (l0_0.length : Int)) = false := decide_eq_false c4
   have c4b1 : decide (20 < l0_0.length) = false := decide_eq_false (by omega)
   clear c4
   (first | rw [c4b0] | (simp only [i64_w, i32_w]; rw [c4b0]) | skip)
   by_cases c6 : (l0_1.length : Int) > 20
   ·rw [if_pos c6] at H
    have c6b0 : decide (20 < (l0_1.length : Int)) = true := decide_eq_true c6
    have c6b1 : decide (20 < l0_1.length) = true := decide_eq_true (by omega)
    clear c6; have H' := Sd.mk H; clear H; obtain ⟨u7_0, u7_1, u7_2, u7_3, u7_4, u7_5, u7_6, o7_0, o7_1, o7_2, o7_3, o7_4, o7_5, o7_6⟩ := bc7 (w := w3) BK101.out
    go_wp2
    go_meet
    case rel => exact ⟨_, (true), tS, H', ⟨by first | omega | exact Nat.le_refl _⟩, ⟨bkA BK101.out⟩, ⟨bBl HB.out⟩⟩
   ·rw [if_neg c6] at H
    have c6b0 : decide (20 < (l0_1.length : Int)) = false := decide_eq_false c6
    have c6b1 : decide (20 < l0_1.length) = false := decide_eq_false (by omega)
    clear c6
    by_cases c8 : (l0_2.length : Int) > 20
    ·rw [if_pos c8] at H
     have c8b0 : decide (20 < (l0_2.length : Int)) = true := decide_eq_true c8
     have c8b1 : decide (20 < l0_2.length) = true := decide_eq_true (by omega)
     clear c8; have H' := Sd.mk H; clear H; obtain ⟨u9_0, u9_1, u9_2, u9_3, u9_4, u9_5, u9_6, o9_0, o9_1, o9_2, o9_3, o9_4, o9_5, o9_6⟩ := bc7 (w := w3) BK101.out
     go_wp2
     go_meet
     case rel => exact ⟨_, (true), tS, H', ⟨by first | omega | exact Nat.le_refl _⟩, ⟨bkA BK101.out⟩, ⟨bBl HB.out⟩⟩
    ·rw [if_neg c8] at H
     have c8b0 : decide (20 < (l0_2.length : Int)) = false := decide_eq_false c8
     have c8b1 : decide (20 < l0_2.length) = false := decide_eq_false (by omega)
     clear c8; have H' := Sd.mk H; clear H; obtain ⟨u10_0, u10_1, u10_2, u10_3, u10_4, u10_5, u10_6, o10_0, o10_1, o10_2, o10_3, o10_4, o10_5, o10_6⟩ := bc7 (w := w3) BK101.out
     go_wp2
     go_meet
     case rel => exact ⟨_, (decide ((l0_3.length : Int) > 20)), tS, H', ⟨by first | omega | exact Nat.le_refl _⟩, ⟨bkA BK101.out⟩, ⟨bBl HB.out⟩⟩
 case rest =>
  clear HC2; (try clear c1); (try clear p2); (try clear c4); (try clear c4b0); (try clear c4b1); (try clear c6); (try clear c6b0); (try clear c6b1); (try clear c8); (try clear c8b0); (try clear c8b1); (try clear u10_0 u10_1 u10_2 u10_3 u10_4 u10_5 u10_6); (try clear u5_0 u5_1 u5_2 u5_3 u5_4 u5_5 u5_6); (try clear u7_0 u7_1 u7_2 u7_3 u7_4 u7_5 u7_6); (try clear u9_0 u9_1 u9_2 u9_3 u9_4 u9_5 u9_6); (try clear o10_0 o10_1 o10_2 o10_3 o10_4 o10_5 o10_6); (try clear o5_0 o5_1 o5_2 o5_3 o5_4 o5_5 o5_6); (try clear o7_0 o7_1 o7_2 o7_3 o7_4 o7_5 o7_6); (try clear o9_0 o9_1 o9_2 o9_3 o9_4 o9_5 o9_6); obtain ⟨kq, x28_1, rfl, HA, HJ1, BK101, HB⟩ := hcut
  cases kq with
  | zero => exact absurd HA.out (by simp [lw_Great.j0])
  | succ kj1 =>
   have H := HA.out; clear HA
   simp only [lw_Great.j0] at H
   by_cases c11 : x28_1 = true
   ·subst c11
    have H1 : (some true) = some r := by rw [if_pos rfl] at H; exact H
    clear H; have H := H1; clear H1; obtain rfl := Option.some.inj H
    go_wp2
    go_ret
    exact ⟨tE, bBl HB.out⟩
   ·replace c11 := Bool.eq_false_iff.mpr c11
    subst c11
    have H1 : (lw_Great.l0 kj1 0 0 l0_0 l0_1 l0_2 l0_3 a0_4 a0_5 a0_6) = some r := by rw [if_neg (show ¬ (false = true) by decide)] at H; exact H
    clear H; have H := H1; clear H1; have H' := Sd.mk H; clear H
    go_wp2
    go_loopg [3, 4] kj1 (fun kq v3 v4 w' => ∃ (x3_2 : Int) (x4_2 : Int), v3 = .int .i64 x3_2 ∧ v4 = .int .i64 x4_2 ∧ Sd (lw_Great.l0 kq x3_2 x4_2 l0_0 l0_1 l0_2 l0_3 a0_4 a0_5 a0_6 = some r) ∧ Sd (kq ≤ kj1) ∧ Sd (w'.heap[gb101]? = some (.cells #[(.slice A0_0 l0_0.length c0_0), (.slice A0_1 l0_1.length c0_1), (.slice A0_2 l0_2.length c0_2), (.slice A0_3 l0_3.length c0_3), .int .i64 a0_4, .int .i64 a0_5, .int .i64 a0_6] 29 (0, 0))) ∧ Sd (Below w.heap.size w w'))
    case atStart => exact ⟨(0), (0), tS, tS, H', ⟨Nat.le_refl _⟩, ⟨bkA BK101.out⟩, ⟨bBl HB.out⟩⟩
    case round =>
     clear H'; (try clear c1); (try clear p2 p2); (try clear c4); (try clear c4b0); (try clear c4b1); (try clear c6); (try clear c6b0); (try clear c6b1); (try clear c8); (try clear c8b0); (try clear c8b1); (try clear c11); (try clear u10_0 u10_1 u10_2 u10_3 u10_4 u10_5 u10_6); (try clear u5_0 u5_1 u5_2 u5_3 u5_4 u5_5 u5_6); (try clear u7_0 u7_1 u7_2 u7_3 u7_4 u7_5 u7_6); (try clear u9_0 u9_1 u9_2 u9_3 u9_4 u9_5 u9_6); (try clear o10_0 o10_1 o10_2 o10_3 o10_4 o10_5 o10_6); (try clear o5_0 o5_1 o5_2 o5_3 o5_4 o5_5 o5_6); (try clear o7_0 o7_1 o7_2 o7_3 o7_4 o7_5 o7_6); (try clear o9_0 o9_1 o9_2 o9_3 o9_4 o9_5 o9_6); obtain ⟨x3_2, x4_2, rfl, rfl, HA, HK2, BK101, HB⟩ := hrel
     cases gk with
     | zero => exact absurd HA.out (by simp [lw_Great.l0])
     | succ k2 =>
      have H := HA.out; clear HA
      simp only [lw_Great.l0] at H
      by_cases c12 : x4_2 < (l0_0.length : Int)
      ·rw [if_pos c12] at H
       have c12b0 : decide (x4_2 < (l0_0.length : Int)) = true := decide_eq_true c12
       clear c12
       by_cases c13 : 0 ≤ x4_2
       ·rw [if_pos c13] at H
        have c13b0 : decide (0 ≤ x4_2) = true := decide_eq_true c13
        clear c13; have H' := Sd.mk H; clear H; obtain ⟨u14_0, u14_1, u14_2, u14_3, u14_4, u14_5, u14_6, o14_0, o14_1, o14_2, o14_3, o14_4, o14_5, o14_6⟩ := bc7 (w := wr) BK101.out
        have p102 : 0 ≤ (x4_2 : Int) := tB
        have q102 : x4_2 < (l0_0.length : Int) := tB
        obtain ⟨ad102, e102, hx102_0⟩ := Kd.at_string HR0_0.out x4_2 p102 q102; cases e102; replace hx102_0 := cU HB hx102_0; replace p102 := eq_true p102; replace q102 := eq_true q102
        go_wp2
        go_roundg k2
        case measure => have := HJ1.out; have := HK2.out; omega
        case rel => exact ⟨(wrap64 (x3_2 + ((rdOf ByteArray.empty l0_0 x4_2).size : Int))), (wrap64 (x4_2 + 1)), tS, tS, H', ⟨by have := HJ1.out; have := HK2.out; omega⟩, ⟨bkA BK101.out⟩, ⟨bBl HB.out⟩⟩
       ·rw [if_neg c13] at H
        exact absurd H (by simp)
      ·rw [if_neg c12] at H
       have c12b0 : decide (x4_2 < (l0_0.length : Int)) = false := decide_eq_false c12
       clear c12; have H' := Sd.mk H; clear H; obtain ⟨u15_0, u15_1, u15_2, u15_3, u15_4, u15_5, u15_6, o15_0, o15_1, o15_2, o15_3, o15_4, o15_5, o15_6⟩ := bc7 (w := wr) BK101.out
       go_wp2
       go_loopg [3, 5] k2 (fun kq v3 v5 w' => ∃ (x3_3 : Int) (x5_3 : Int), v3 = .int .i64 x3_3 ∧ v5 = .int .i64 x5_3 ∧ Sd (lw_Great.l1 kq x3_3 x5_3 l0_0 l0_1 l0_2 l0_3 a0_4 a0_5 a0_6 = some r) ∧ Sd (kq ≤ k2) ∧ Sd (w'.heap[gb101]? = some (.cells #[(.slice A0_0 l0_0.length c0_0), (.slice A0_1 l0_1.length c0_1), (.slice A0_2 l0_2.length c0_2), (.slice A0_3 l0_3.length c0_3), .int .i64 a0_4, .int .i64 a0_5, .int .i64 a0_6] 29 (0, 0))) ∧ Sd (Below w.heap.size w w'))
       case atStart => exact ⟨(x3_2), (0), tS, tS, H', ⟨Nat.le_refl _⟩, ⟨bkA BK101.out⟩, ⟨bBl HB.out⟩⟩
       case round =>
        clear H'; (try clear c1); (try clear p1); (try clear q1); (try clear hx1); (try clear p2 p2); (try clear c4); (try clear c4b0); (try clear c4b1); (try clear c6); (try clear c6b0); (try clear c6b1); (try clear p6); (try clear c8); (try clear c8b0); (try clear c8b1); (try clear p10); (try clear q10); (try clear hx10); (try clear c11); (try clear c12); (try clear c12b0); (try clear c13); (try clear c13b0); (try clear u10_0 u10_1 u10_2 u10_3 u10_4 u10_5 u10_6); (try clear u14_0 u14_1 u14_2 u14_3 u14_4 u14_5 u14_6); (try clear u15_0 u15_1 u15_2 u15_3 u15_4 u15_5 u15_6); (try clear u5_0 u5_1 u5_2 u5_3 u5_4 u5_5 u5_6); (try clear u7_0 u7_1 u7_2 u7_3 u7_4 u7_5 u7_6); (try clear u9_0 u9_1 u9_2 u9_3 u9_4 u9_5 u9_6); (try clear o10_0 o10_1 o10_2 o10_3 o10_4 o10_5 o10_6); (try clear o14_0 o14_1 o14_2 o14_3 o14_4 o14_5 o14_6); (try clear o15_0 o15_1 o15_2 o15_3 o15_4 o15_5 o15_6); (try clear o5_0 o5_1 o5_2 o5_3 o5_4 o5_5 o5_6); (try clear o7_0 o7_1 o7_2 o7_3 o7_4 o7_5 o7_6); (try clear o9_0 o9_1 o9_2 o9_3 o9_4 o9_5 o9_6); (try clear hx102_0); (try clear p102); (try clear q102); obtain ⟨x3_3, x5_3, rfl, rfl, HA, HK3, BK101, HB⟩ := hrel
        cases gk with
        | zero => exact absurd HA.out (by simp [lw_Great.l1])
        | succ k3 =>
         have H := HA.out; clear HA
         simp only [lw_Great.l1] at H
         by_cases c16 : x5_3 < (l0_1.length : Int)
         ·rw [if_pos c16] at H
          have c16b0 : decide (x5_3 < (l0_1.length : Int)) = true := decide_eq_true c16
          clear c16
          by_cases c17 : 0 ≤ x5_3
          ·rw [if_pos c17] at H
           have c17b0 : decide (0 ≤ x5_3) = true := decide_eq_true c17
           clear c17
           by_cases c18 : (((rd_T63 l0_1 x5_3).f6).length : Int) > 20
           ·rw [if_pos c18] at H
            have c18b0 : decide (20 < (((rd_T63 l0_1 x5_3).f6).length : Int)) = true := decide_eq_true c18
            have c18b1 : decide (20 < ((rd_T63 l0_1 x5_3).f6).length) = true := decide_eq_true (by omega)
            clear c18; obtain rfl := Option.some.inj H; obtain ⟨u19_0, u19_1, u19_2, u19_3, u19_4, u19_5, u19_6, o19_0, o19_1, o19_2, o19_3, o19_4, o19_5, o19_6⟩ := bc7 (w := wr) BK101.out
            have p103 : 0 ≤ (x5_3 : Int) := tB
            have q103 : x5_3 < (l0_1.length : Int) := tB
            obtain ⟨ad103, A103_6, c103_6, e103, hx103_0, hx103_1, hx103_2, hx103_3, hx103_4, hx103_5, hx103_6, hl103_6, hi103_6⟩ := at_T63 HR0_1.out x5_3 p103 q103; cases e103; replace hx103_0 := cU HB hx103_0; replace hx103_1 := cU HB hx103_1; replace hx103_2 := cU HB hx103_2; replace hx103_3 := cU HB hx103_3; replace hx103_4 := cU HB hx103_4; replace hx103_5 := cU HB hx103_5; replace hx103_6 := cU HB hx103_6; have HR103_6 := Sd.mk hi103_6; have HC103_6 := Sd.mk hl103_6; clear hi103_6 hl103_6; replace p103 := eq_true p103; replace q103 := eq_true q103
            have p104 : 0 ≤ (x5_3 : Int) := tB
            have q104 : x5_3 < (l0_1.length : Int) := tB
            obtain ⟨ad104, A104_6, c104_6, e104, hx104_0, hx104_1, hx104_2, hx104_3, hx104_4, hx104_5, hx104_6, hl104_6, hi104_6⟩ := at_T63 HR0_1.out x5_3 p104 q104
            obtain rfl : ad103 = ad104 := (by injection e104)
            replace hx104_0 := cU HB hx104_0; replace hx104_1 := cU HB hx104_1; replace hx104_2 := cU HB hx104_2; replace hx104_3 := cU HB hx104_3; replace hx104_4 := cU HB hx104_4; replace hx104_5 := cU HB hx104_5; replace hx104_6 := cU HB hx104_6; have HR104_6 := Sd.mk hi104_6; have HC104_6 := Sd.mk hl104_6; clear hi104_6 hl104_6; replace p104 := eq_true p104; replace q104 := eq_true q104; have ea_ := Option.some.inj (hx103_6.symm.trans hx104_6)
            injection ea_ with ea_ en_ ec_
            subst ea_; subst ec_; clear en_
            go_wp2
            go_ret
            exact ⟨tE, bBl HB.out⟩
           ·rw [if_neg c18] at H
            have c18b0 : decide (20 < (((rd_T63 l0_1 x5_3).f6).length : Int)) = false := decide_eq_false c18
            have c18b1 : decide (20 < ((rd_T63 l0_1 x5_3).f6).length) = false := decide_eq_false (by omega)
            clear c18; have H' := Sd.mk H; clear H; obtain ⟨u20_0, u20_1, u20_2, u20_3, u20_4, u20_5, u20_6, o20_0, o20_1, o20_2, o20_3, o20_4, o20_5, o20_6⟩ := bc7 (w := wr) BK101.out
            have p103 : 0 ≤ (x5_3 : Int) := tB
            have q103 : x5_3 < (l0_1.length : Int) := tB
            obtain ⟨ad103, A103_6, c103_6, e103, hx103_0, hx103_1, hx103_2, hx103_3, hx103_4, hx103_5, hx103_6, hl103_6, hi103_6⟩ := at_T63 HR0_1.out x5_3 p103 q103; cases e103; replace hx103_0 := cU HB hx103_0; replace hx103_1 := cU HB hx103_1; replace hx103_2 := cU HB hx103_2; replace hx103_3 := cU HB hx103_3; replace hx103_4 := cU HB hx103_4; replace hx103_5 := cU HB hx103_5; replace hx103_6 := cU HB hx103_6; have HR103_6 := Sd.mk hi103_6; have HC103_6 := Sd.mk hl103_6; clear hi103_6 hl103_6; replace p103 := eq_true p103; replace q103 := eq_true q103
            have p104 : 0 ≤ (x5_3 : Int) := tB
            have q104 : x5_3 < (l0_1.length : Int) := tB
            obtain ⟨ad104, A104_6, c104_6, e104, hx104_0, hx104_1, hx104_2, hx104_3, hx104_4, hx104_5, hx104_6, hl104_6, hi104_6⟩ := at_T63 HR0_1.out x5_3 p104 q104
            obtain rfl : ad103 = ad104 := (by injection e104)
            replace hx104_0 := cU HB hx104_0; replace hx104_1 := cU HB hx104_1; replace hx104_2 := cU HB hx104_2; replace hx104_3 := cU HB hx104_3; replace hx104_4 := cU HB hx104_4; replace hx104_5 := cU HB hx104_5; replace hx104_6 := cU HB hx104_6; have HR104_6 := Sd.mk hi104_6; have HC104_6 := Sd.mk hl104_6; clear hi104_6 hl104_6; replace p104 := eq_true p104; replace q104 := eq_true q104; have ea_ := Option.some.inj (hx103_6.symm.trans hx104_6)
            injection ea_ with ea_ en_ ec_
            subst ea_; subst ec_; clear en_
            go_wp2
            go_roundg k3
            case measure => have := HJ1.out; have := HK2.out; have := HK3.out; omega
            case rel => exact ⟨(wrap64 (x3_3 + (((rd_T63 l0_1 x5_3).f0).size : Int))), (wrap64 (x5_3 + 1)), tS, tS, H', ⟨by have := HJ1.out; have := HK2.out; have := HK3.out; omega⟩, ⟨bkA BK101.out⟩, ⟨bBl HB.out⟩⟩
          ·rw [if_neg c17] at H
           exact absurd H (by simp)
         ·rw [if_neg c16] at H
          have c16b0 : decide (x5_3 < (l0_1.length : Int)) = false := decide_eq_false c16
          clear c16; have H' := Sd.mk H; clear H; obtain ⟨u21_0, u21_1, u21_2, u21_3, u21_4, u21_5, u21_6, o21_0, o21_1, o21_2, o21_3, o21_4, o21_5, o21_6⟩ := bc7 (w := wr) BK101.out
          go_wp2
          go_loopg [3, 6] k3 (fun kq v3 v6 w' => ∃ (x3_4 : Int) (x6_4 : Int), v3 = .int .i64 x3_4 ∧ v6 = .int .i64 x6_4 ∧ Sd (lw_Great.l2 kq x3_4 x6_4 l0_0 l0_1 l0_2 l0_3 a0_4 a0_5 a0_6 = some r) ∧ Sd (kq ≤ k3) ∧ Sd (w'.heap[gb101]? = some (.cells #[(.slice A0_0 l0_0.length c0_0), (.slice A0_1 l0_1.length c0_1), (.slice A0_2 l0_2.length c0_2), (.slice A0_3 l0_3.length c0_3), .int .i64 a0_4, .int .i64 a0_5, .int .i64 a0_6] 29 (0, 0))) ∧ Sd (Below w.heap.size w w'))
          case atStart => exact ⟨(x3_3), (0), tS, tS, H', ⟨Nat.le_refl _⟩, ⟨bkA BK101.out⟩, ⟨bBl HB.out⟩⟩
          case round =>
           clear H'; (try clear c1); (try clear p1 p1); (try clear q1 q1); (try clear hx1); (try clear p2 p2); (try clear c4); (try clear c4b0); (try clear c4b1); (try clear c6); (try clear c6b0); (try clear c6b1); (try clear p6 p6); (try clear c8); (try clear c8b0); (try clear c8b1); (try clear c10); (try clear p10 p10); (try clear q10 q10); (try clear hx10); (try clear c11); (try clear c12); (try clear c12b0); (try clear c13); (try clear c13b0); (try clear c16); (try clear c16b0); (try clear c17); (try clear c17b0); (try clear c18); (try clear c18b0); (try clear c18b1); (try clear u10_0 u10_1 u10_2 u10_3 u10_4 u10_5 u10_6); (try clear u14_0 u14_1 u14_2 u14_3 u14_4 u14_5 u14_6); (try clear u15_0 u15_1 u15_2 u15_3 u15_4 u15_5 u15_6); (try clear u19_0 u19_1 u19_2 u19_3 u19_4 u19_5 u19_6); (try clear u20_0 u20_1 u20_2 u20_3 u20_4 u20_5 u20_6); (try clear u21_0 u21_1 u21_2 u21_3 u21_4 u21_5 u21_6); (try clear u5_0 u5_1 u5_2 u5_3 u5_4 u5_5 u5_6); (try clear u7_0 u7_1 u7_2 u7_3 u7_4 u7_5 u7_6); (try clear u9_0 u9_1 u9_2 u9_3 u9_4 u9_5 u9_6); (try clear o10_0 o10_1 o10_2 o10_3 o10_4 o10_5 o10_6); (try clear o14_0 o14_1 o14_2 o14_3 o14_4 o14_5 o14_6); (try clear o15_0 o15_1 o15_2 o15_3 o15_4 o15_5 o15_6); (try clear o19_0 o19_1 o19_2 o19_3 o19_4 o19_5 o19_6); (try clear o20_0 o20_1 o20_2 o20_3 o20_4 o20_5 o20_6); (try clear o21_0 o21_1 o21_2 o21_3 o21_4 o21_5 o21_6); (try clear o5_0 o5_1 o5_2 o5_3 o5_4 o5_5 o5_6); (try clear o7_0 o7_1 o7_2 o7_3 o7_4 o7_5 o7_6); (try clear o9_0 o9_1 o9_2 o9_3 o9_4 o9_5 o9_6); (try clear hx102_0); (try clear hx103_0); (try clear hx103_1); (try clear hx103_2); (try clear hx103_3); (try clear hx103_4); (try clear hx103_5); (try clear hx103_6); (try clear hx104_0); (try clear hx104_1); (try clear hx104_2); (try clear hx104_3); (try clear hx104_4); (try clear hx104_5); (try clear hx104_6); (try clear p102); (try clear p103); (try clear p104); (try clear q102); (try clear q103); (try clear q104); obtain ⟨x3_4, x6_4, rfl, rfl, HA, HK4, BK101, HB⟩ := hrel
           cases gk with
           | zero => exact absurd HA.out (by simp [lw_Great.l2])
           | succ k4 =>
            have H := HA.out; clear HA
            simp only [lw_Great.l2] at H
            by_cases c22 : x6_4 < (l0_3.length : Int)
            ·rw [if_pos c22] at H
             have c22b0 : decide (x6_4 < (l0_3.length : Int)) = true := decide_eq_true c22
             clear c22
             by_cases c23 : 0 ≤ x6_4
             ·rw [if_pos c23] at H
              have c23b0 : decide (0 ≤ x6_4) = true := decide_eq_true c23
              clear c23
              by_cases c24 : (((rd_T65 l0_3 x6_4).f1).length : Int) > 20
              ·rw [if_pos c24] at H
               have c24b0 : decide (20 < (((rd_T65 l0_3 x6_4).f1).length : Int)) = true := decide_eq_true c24
               have c24b1 : decide (20 < ((rd_T65 l0_3 x6_4).f1).length) = true := decide_eq_true (by omega)
               clear c24; obtain rfl := Option.some.inj H; obtain ⟨u25_0, u25_1, u25_2, u25_3, u25_4, u25_5, u25_6, o25_0, o25_1, o25_2, o25_3, o25_4, o25_5, o25_6⟩ := bc7 (w := wr) BK101.out
               have p105 : 0 ≤ (x6_4 : Int) := tB
               have q105 : x6_4 < (l0_3.length : Int) := tB
               obtain ⟨ad105, A105_1, c105_1, e105, hx105_0, hx105_1, hx105_2, hx105_3, hl105_1, hi105_1⟩ := at_T65 HR0_3.out x6_4 p105 q105; cases e105; replace hx105_0 := cU HB hx105_0; replace hx105_1 := cU HB hx105_1; replace hx105_2 := cU HB hx105_2; replace hx105_3 := cU HB hx105_3; have HR105_1 := Sd.mk hi105_1; have HC105_1 := Sd.mk hl105_1; clear hi105_1 hl105_1; replace p105 := eq_true p105; replace q105 := eq_true q105
               have p106 : 0 ≤ (x6_4 : Int) := tB
               have q106 : x6_4 < (l0_3.length : Int) := tB
               obtain ⟨ad106, A106_1, c106_1, e106, hx106_0, hx106_1, hx106_2, hx106_3, hl106_1, hi106_1⟩ := at_T65 HR0_3.out x6_4 p106 q106
               obtain rfl : ad105 = ad106 := (by injection e106)
               replace hx106_0 := cU HB hx106_0; replace hx106_1 := cU HB hx106_1; replace hx106_2 := cU HB hx106_2; replace hx106_3 := cU HB hx106_3; have HR106_1 := Sd.mk hi106_1; have HC106_1 := Sd.mk hl106_1; clear hi106_1 hl106_1; replace p106 := eq_true p106; replace q106 := eq_true q106; have ea_ := Option.some.inj (hx105_1.symm.trans hx106_1)
               injection ea_ with ea_ en_ ec_
               subst ea_; subst ec_; clear en_
               go_wp2
               go_ret
               exact ⟨tE, bBl HB.out⟩
              ·rw [if_neg c24] at H
               have c24b0 : decide (20 < (((rd_T65 l0_3 x6_4).f1).length : Int)) = false := decide_eq_false c24
               have c24b1 : decide (20 < ((rd_T65 l0_3 x6_4).f1).length) = false := decide_eq_false (by omega)
               clear c24; have H' := Sd.mk H; clear H; obtain ⟨u26_0, u26_1, u26_2, u26_3, u26_4, u26_5, u26_6, o26_0, o26_1, o26_2, o26_3, o26_4, o26_5, o26_6⟩ := bc7 (w := wr) BK101.out
               have p105 : 0 ≤ (x6_4 : Int) := tB
               have q105 : x6_4 < (l0_3.length : Int) := tB
               obtain ⟨ad105, A105_1, c105_1, e105, hx105_0, hx105_1, hx105_2, hx105_3, hl105_1, hi105_1⟩ := at_T65 HR0_3.out x6_4 p105 q105; cases e105; replace hx105_0 := cU HB hx105_0; replace hx105_1 := cU HB hx105_1; replace hx105_2 := cU HB hx105_2; replace hx105_3 := cU HB hx105_3; have HR105_1 := Sd.mk hi105_1; have HC105_1 := Sd.mk hl105_1; clear hi105_1 hl105_1; replace p105 := eq_true p105; replace q105 := eq_true q105
               have p106 : 0 ≤ (x6_4 : Int) := tB
               have q106 : x6_4 < (l0_3.length : Int) := tB
               obtain ⟨ad106, A106_1, c106_1, e106, hx106_0, hx106_1, hx106_2, hx106_3, hl106_1, hi106_1⟩ := at_T65 HR0_3.out x6_4 p106 q106
               obtain rfl : ad105 = ad106 := (by injection e106)
               replace hx106_0 := cU HB hx106_0; replace hx106_1 := cU HB hx106_1; replace hx106_2 := cU HB hx106_2; replace hx106_3 := cU HB hx106_3; have HR106_1 := Sd.mk hi106_1; have HC106_1 := Sd.mk hl106_1; clear hi106_1 hl106_1; replace p106 := eq_true p106; replace q106 := eq_true q106; have ea_ := Option.some.inj (hx105_1.symm.trans hx106_1)
               injection ea_ with ea_ en_ ec_
               subst ea_; subst ec_; clear en_
               go_wp2
               go_roundg k4
               case measure => have := HJ1.out; have := HK2.out; have := HK3.out; have := HK4.out; omega
               case rel => exact ⟨(wrap64 (x3_4 + (((rd_T65 l0_3 x6_4).f0).size : Int))), (wrap64 (x6_4 + 1)), tS, tS, H', ⟨by have := HJ1.out; have := HK2.out; have := HK3.out; have := HK4.out; omega⟩, ⟨bkA BK101.out⟩, ⟨bBl HB.out⟩⟩
             ·rw [if_neg c23] at H
              exact absurd H (by simp)
            ·rw [if_neg c22] at H
             have c22b0 : decide (x6_4 < (l0_3.length : Int)) = false := decide_eq_false c22
             clear c22; obtain rfl := Option.some.inj H; obtain ⟨u27_0, u27_1, u27_2, u27_3, u27_4, u27_5, u27_6, o27_0, o27_1, o27_2, o27_3, o27_4, o27_5, o27_6⟩ := bc7 (w := wr) BK101.out
             go_wp2
             go_ret
             exact ⟨tE, bBl HB.out⟩
end Go.Proofs.Ytkjkokgbhepmoaa.PB

namespace Go.Proofs.Ytkjkokgbhepmoaa.PB
open Go.RowKit Go.Proofs.YtkjkokgbhepmoaaW.PrintWords Go.Proofs.YtkjkokgbhepmoaaW.PrintLast Go.Proofs.YtkjkokgbhepmoaaW.PrintMore
attribute [local go_sem] max2_int min2_int max_two min_two max_three min_three max_four min_four
theorem eqA27 (d : Nat) (w : World) (x0 y0 : Int) (x1 y1 : Int) :
  (Op.equalIn (d + 2) 27 (.agg #[.int .i64 x0, .int .i64 x1]) (.agg #[.int .i64 y0, .int .i64 y1])).run Try.prog w = .ok (x0 == y0 && (x1 == y1)) w := by
 refine eqA_of Try.underlying27 (by kernel_rfl) ?_
 refine eqf_cons (by rfl) (by go_simp; rfl) (by go_simp; rfl) (by go_simp) ?_
 exact eqf_last (by rfl) (by go_simp; rfl) (by go_simp; rfl) (by go_simp)
end Go.Proofs.Ytkjkokgbhepmoaa.PB

namespace Go.Proofs.Ytkjkokgbhepmoaa.PB
open Go.RowKit Go.Proofs.YtkjkokgbhepmoaaW.PrintWords Go.Proofs.YtkjkokgbhepmoaaW.PrintLast Go.Proofs.YtkjkokgbhepmoaaW.PrintMore
attribute [local go_sem] max2_int min2_int max_two min_two max_three min_three max_four min_four
attribute [local go_sem high] eqA27
def lw_SameSpans.l0 : Nat → List (S27) → List (S27) → Int → Option (Bool)
 | 0, _, _, _ => none
 | k + 1, x0, x1, x5 => if x5 < (x0.length : Int) then (if 0 ≤ x5 then (if x5 < (x1.length : Int) then (if (!(((rd_T27 x0 x5).f0) == ((rd_T27 x1 x5).f0)) || (!(((rd_T27 x0 x5).f1) == ((rd_T27 x1 x5).f1)))) = true then (some false) else (lw_SameSpans.l0 k x0 x1 (wrap64 (x5 + 1)))) else (none)) else (none)) else (some true)
def lw_SameSpans.f (k : Nat) (l0 : List (S27)) (l1 : List (S27)) : Option (Bool) := if (l0.length : Int) = (l1.length : Int) then (lw_SameSpans.l0 k l0 l1 0) else (some false)
theorem lw_SameSpans.mono_l : ∀ k, (∀ y0 y1 y2, LeO (lw_SameSpans.l0 k y0 y1 y2) (lw_SameSpans.l0 (k + 1) y0 y1 y2))
 | 0 => fun _ _ _ r h => by simp [lw_SameSpans.l0] at h
 | k + 1 => by
  have ih0 := lw_SameSpans.mono_l k
  ·intro y0 y1 y2
   unfold lw_SameSpans.l0
   repeat' first
   | (with_reducible exact ih0 _ _ _)
   | (with_reducible exact LeO.refl _)
   | (with_reducible exact LeO.none _)
   | (with_reducible refine LeO.ite ?_ ?_)
   | (with_reducible refine LeO.bind ?_ (fun _ => ?_))
   | exact LeO.none _
   | refine LeO.ite ?_ ?_
   | refine LeO.bind ?_ (fun _ => ?_)
theorem lw_SameSpans.mono : ∀ a0 a1 k, LeO (lw_SameSpans.f k a0 a1) (lw_SameSpans.f (k + 1) a0 a1) := by
 intro a0 a1 k
 have ih0 := lw_SameSpans.mono_l k
 unfold lw_SameSpans.f
 repeat' first
   | (with_reducible exact ih0 _ _ _)
   | (with_reducible exact LeO.refl _)
   | (with_reducible exact LeO.none _)
   | (with_reducible refine LeO.ite ?_ ?_)
   | (with_reducible refine LeO.bind ?_ (fun _ => ?_))
   | exact LeO.none _
   | refine LeO.ite ?_ ?_
   | refine LeO.bind ?_ (fun _ => ?_)
set_option maxHeartbeats 8000000 in
set_option maxRecDepth 100000 in
theorem lw_SameSpans.calls (k : Nat) (A0 : Option Addr) (c0 : Nat) (l0 : List (S27)) (A1 : Option Addr) (c1 : Nat) (l1 : List (S27)) (r : Bool) (w : World) (hr0 : Kd.C k27 w A0 l0.length l0) (hc0 : l0.length ≤ c0) (hr1 : Kd.C k27 w A1 l1.length l1) (hc1 : l1.length ≤ c1) (h : lw_SameSpans.f k l0 l1 = some r) :
  Calls Try.prog 17 #[.slice A0 l0.length c0, .slice A1 l1.length c1] w fun e w' => e = .returned (.bool r) ∧ Drawn0 w w' := by
 have hu27 := Try.underlying27; have HR0 := Sd.mk hr0; have HC0 := Sd.mk hc0; clear hr0 hc0; have HR1 := Sd.mk hr1; have HC1 := Sd.mk hc1; clear hr1 hc1
 have H : (if (l0.length : Int) = (l1.length : Int) then (lw_SameSpans.l0 k l0 l1 0) else (some false)) = some r := h
 clear h
 by_cases c3 : (l0.length : Int) = (l1.length : Int)
 ·rw [if_pos c3] at H
  have c3b0 : ((l0.length : Int) == (l1.length : Int)) = true := beq_iff_eq.mpr c3
  have c3b1 : ((l0.length : Int) != (l1.length : Int)) = false := bne_eq_false_iff_eq.mpr c3
  have c3b2 : (l0.length == l1.length) = true := by first | simpa using c3 | (simp at c3 ⊢; omega)
  clear c3; have H' := Sd.mk H; clear H
  go_enter Try.func17, Try.ntmps17
  go_wp2
  repeat (go_quiet (fail); try go_wp2)
  go_loopg [5] k (fun kq v5 w' => ∃ (x5_1 : Int), v5 = .int .i64 x5_1 ∧ Sd (lw_SameSpans.l0 kq l0 l1 x5_1 = some r) ∧ Sd (kq ≤ k) ∧ Drawn0 w w')
  case atStart => exact ⟨(0), tS, H', ⟨Nat.le_refl _⟩, by repeat (first | exact Drawn0.refl _ | apply Drawn0.step)⟩
  case round =>
   clear H'; (try clear c1); (try clear p2); (try clear c3); (try clear c3b0); (try clear c3b1); (try clear c3b2)
   obtain ⟨x5_1, rfl, HA, HK1, ⟨m1, rfl⟩⟩ := hrel
   cases gk with
   | zero => exact absurd HA.out (by simp [lw_SameSpans.l0])
   | succ k1 =>
    have H := HA.out; clear HA
    simp only [lw_SameSpans.l0] at H
    by_cases c4 : x5_1 < (l0.length : Int)
    ·rw [if_pos c4] at H
     have c4b0 : decide (x5_1 < (l0.length : Int)) = true := decide_eq_true c4
     clear c4
     by_cases c5 : 0 ≤ x5_1
     ·rw [if_pos c5] at H
      have c5b0 : decide (0 ≤ x5_1) = true := decide_eq_true c5
      clear c5
      by_cases c6 : x5_1 < (l1.length : Int)
      ·rw [if_pos c6] at H
       have c6b0 : decide (x5_1 < (l1.length : Int)) = true := decide_eq_true c6
       clear c6
       by_cases c7 : (!(((rd_T27 l0 x5_1).f0) == ((rd_T27 l1 x5_1).f0)) || (!(((rd_T27 l0 x5_1).f1) == ((rd_T27 l1 x5_1).f1)))) = true
       ·rw [if_pos c7] at H
        have c7b0 : (!(((rd_T27 l0 x5_1).f0) == ((rd_T27 l1 x5_1).f0)) || (!(((rd_T27 l0 x5_1).f1) == ((rd_T27 l1 x5_1).f1)))) = true := c7
        clear c7; obtain rfl := Option.some.inj H
        have p108 : 0 ≤ (x5_1 : Int) := tB
        have q108 : x5_1 < (l0.length : Int) := tB
        obtain ⟨ad108, e108, hx108_0, hx108_1⟩ := at_T27 HR0.out x5_1 p108 q108; cases e108; replace p108 := eq_true p108; replace q108 := eq_true q108
        have p109 : 0 ≤ (x5_1 : Int) := tB
        have q109 : x5_1 < (l1.length : Int) := tB
        obtain ⟨ad109, e109, hx109_0, hx109_1⟩ := at_T27 HR1.out x5_1 p109 q109; cases e109; replace p109 := eq_true p109; replace q109 := eq_true q109
        go_wp2
        repeat (go_quiet (fail); try go_wp2)
        go_ret
        exact ⟨by first | rfl | (simp; done) | (simp [*]; done), by repeat (first | exact Drawn0.refl _ | apply Drawn0.step)⟩
       ·rw [if_neg c7] at H
        have c7b0 : (!(((rd_T27 l0 x5_1).f0) == ((rd_T27 l1 x5_1).f0)) || (!(((rd_T27 l0 x5_1).f1) == ((rd_T27 l1 x5_1).f1)))) = false := by simpa using c7
        clear c7; have H' := Sd.mk H; clear H
        have p108 : 0 ≤ (x5_1 : Int) := tB
        have q108 : x5_1 < (l0.length : Int) := tB
        obtain ⟨ad108, e108, hx108_0, hx108_1⟩ := at_T27 HR0.out x5_1 p108 q108; cases e108; replace p108 := eq_true p108; replace q108 := eq_true q108
        have p109 : 0 ≤ (x5_1 : Int) := tB
        have q109 : x5_1 < (l1.length : Int) := tB
        obtain ⟨ad109, e109, hx109_0, hx109_1⟩ := at_T27 HR1.out x5_1 p109 q109; cases e109; replace p109 := eq_true p109; replace q109 := eq_true q109
        go_wp2
        repeat (go_quiet (fail); try go_wp2)
        go_roundg k1
        case measure => have := HK1.out; omega
        case rel => exact ⟨(wrap64 (x5_1 + 1)), tS, H', ⟨by have := HK1.out; omega⟩, by repeat (first | exact Drawn0.refl _ | apply Drawn0.step)⟩
      ·rw [if_neg c6] at H
       exact absurd H (by simp)
     ·rw [if_neg c5] at H
      exact absurd H (by simp)
    ·rw [if_neg c4] at H
     have c4b0 : decide (x5_1 < (l0.length : Int)) = false := decide_eq_false c4
     clear c4; obtain rfl := Option.some.inj H
     go_wp2
     repeat (go_quiet (fail); try go_wp2)
     go_ret
     exact ⟨by first | rfl | (simp; done) | (simp [*]; done), by repeat (first | exact Drawn0.refl _ | apply Drawn0.step)⟩
 ·rw [if_neg c3] at H
  have c3b0 : ((l0.length : Int) == (l1.length : Int)) = false := beq_eq_false_iff_ne.mpr c3
  have c3b1 : ((l0.length : Int) != (l1.length : Int)) = true := bne_iff_ne.mpr c3
  have c3b2 : (l0.length == l1.length) = false := by first | simpa using c3 | (simp at c3 ⊢; omega)
  obtain rfl := Option.some.inj H
  go_enter Try.func17, Try.ntmps17
  go_wp2
  repeat (go_quiet (fail); try go_wp2)
  go_ret
  exact ⟨by first | rfl | (simp; done) | (simp [*]; done), by repeat (first | exact Drawn0.refl _ | apply Drawn0.step)⟩
end Go.Proofs.Ytkjkokgbhepmoaa.PB

namespace Go.Proofs.Ytkjkokgbhepmoaa.PB
open Go.RowKit Go.Proofs.YtkjkokgbhepmoaaW.PrintWords Go.Proofs.YtkjkokgbhepmoaaW.PrintLast Go.Proofs.YtkjkokgbhepmoaaW.PrintMore
attribute [local go_sem] max2_int min2_int max_two min_two max_three min_three max_four min_four
end Go.Proofs.Ytkjkokgbhepmoaa.PB

namespace Go.Proofs.Ytkjkokgbhepmoaa.PB
open Go.RowKit Go.Proofs.YtkjkokgbhepmoaaW.PrintWords Go.Proofs.YtkjkokgbhepmoaaW.PrintLast Go.Proofs.YtkjkokgbhepmoaaW.PrintMore
attribute [local go_sem] max2_int min2_int max_two min_two max_three min_three max_four min_four
end Go.Proofs.Ytkjkokgbhepmoaa.PB

namespace Go.Proofs.Ytkjkokgbhepmoaa.PB
open Go.RowKit Go.Proofs.YtkjkokgbhepmoaaW.PrintWords Go.Proofs.YtkjkokgbhepmoaaW.PrintLast Go.Proofs.YtkjkokgbhepmoaaW.PrintMore
attribute [local go_sem] max2_int min2_int max_two min_two max_three min_three max_four min_four
end Go.Proofs.Ytkjkokgbhepmoaa.PB

namespace Go.Proofs.Ytkjkokgbhepmoaa.PB
open Go.RowKit Go.Proofs.YtkjkokgbhepmoaaW.PrintWords Go.Proofs.YtkjkokgbhepmoaaW.PrintLast Go.Proofs.YtkjkokgbhepmoaaW.PrintMore
attribute [local go_sem] max2_int min2_int max_two min_two max_three min_three max_four min_four
end Go.Proofs.Ytkjkokgbhepmoaa.PB

namespace Go.Proofs.Ytkjkokgbhepmoaa.PB
open Go.RowKit Go.Proofs.YtkjkokgbhepmoaaW.PrintWords Go.Proofs.YtkjkokgbhepmoaaW.PrintLast Go.Proofs.YtkjkokgbhepmoaaW.PrintMore
attribute [local go_sem] max2_int min2_int max_two min_two max_three min_three max_four min_four
end Go.Proofs.Ytkjkokgbhepmoaa.PB

namespace Go.Proofs.Ytkjkokgbhepmoaa.PB
open Go.RowKit Go.Proofs.YtkjkokgbhepmoaaW.PrintWords Go.Proofs.YtkjkokgbhepmoaaW.PrintLast Go.Proofs.YtkjkokgbhepmoaaW.PrintMore
attribute [local go_sem] max2_int min2_int max_two min_two max_three min_three max_four min_four
attribute [local go_sem high] eqA27
end Go.Proofs.Ytkjkokgbhepmoaa.PB

namespace Go.Proofs.Ytkjkokgbhepmoaa.PB
open Go.RowKit Go.Proofs.YtkjkokgbhepmoaaW.PrintWords Go.Proofs.YtkjkokgbhepmoaaW.PrintLast Go.Proofs.YtkjkokgbhepmoaaW.PrintMore
section
variable {o : List ByteArray} {mt : List S63} {s : List S27} {p : List S65} {a4 a5 a6 : Int} {r : List Int}
end
section
variable (o : List ByteArray) (mt : List S63) (s : List S27) (p : List S65) (a4 a5 a6 : Int) (r : List Int)
end
section
variable (o : List ByteArray) (mt : List S63) (s : List S27) (p : List S65) (a4 a5 a6 : Int)
theorem great_l2 (hp : p.length ≤ 20) : ∀ (m i : Nat) (x : Int), i + m = p.length → ∃ b, Ev (fun k => lw_Great.l2 k x (i : Int) o mt s p a4 a5 a6) b
  | 0, i, x, hi => by
    refine ⟨decide (x > 2000), ?_⟩
    apply Ev.step
    simp only [lw_Great.l2, if_neg (show ¬ (i : Int) < (p.length : Int) by omega)]
    exact Ev.const _
  | m + 1, i, x, hi => by
    obtain ⟨b, ih⟩ := great_l2 hp m (i + 1) (wrap64 (x + ((rd_T65 p (i : Int)).f0.size : Int))) (by omega)
    by_cases h : (((rd_T65 p (i : Int)).f1).length : Int) > 20
    · refine ⟨true, ?_⟩
      apply Ev.step
      simp only [lw_Great.l2, if_pos (show (i : Int) < (p.length : Int) by omega), if_pos (i_pos i), if_pos h]
      exact Ev.const _
    · refine ⟨b, ?_⟩
      apply Ev.step
      simp only [lw_Great.l2, if_pos (show (i : Int) < (p.length : Int) by omega), if_pos (i_pos i), if_neg h, wrap_succ (i_pos i) (show (i : Int) ≤ 1000000000 by omega)]
      exact ih
theorem great_l1 (hm : mt.length ≤ 20) (hp : p.length ≤ 20) : ∀ (m i : Nat) (x : Int), i + m = mt.length → ∃ b, Ev (fun k => lw_Great.l1 k x (i : Int) o mt s p a4 a5 a6) b
  | 0, i, x, hi => by
    obtain ⟨b, hb⟩ := great_l2 o mt s p a4 a5 a6 hp p.length 0 x (by omega)
    refine ⟨b, ?_⟩
    apply Ev.step
    simp only [lw_Great.l1, if_neg (show ¬ (i : Int) < (mt.length : Int) by omega)]
    exact hb
  | m + 1, i, x, hi => by
    obtain ⟨b, ih⟩ := great_l1 hm hp m (i + 1) (wrap64 (x + ((rd_T63 mt (i : Int)).f0.size : Int))) (by omega)
    by_cases h : (((rd_T63 mt (i : Int)).f6).length : Int) > 20
    · refine ⟨true, ?_⟩
      apply Ev.step
      simp only [lw_Great.l1, if_pos (show (i : Int) < (mt.length : Int) by omega), if_pos (i_pos i), if_pos h]
      exact Ev.const _
    · refine ⟨b, ?_⟩
      apply Ev.step
      simp only [lw_Great.l1, if_pos (show (i : Int) < (mt.length : Int) by omega), if_pos (i_pos i), if_neg h, wrap_succ (i_pos i) (show (i : Int) ≤ 1000000000 by omega)]
      exact ih
theorem great_l0 (ho : o.length ≤ 20) (hm : mt.length ≤ 20) (hp : p.length ≤ 20) : ∀ (m i : Nat) (x : Int), i + m = o.length → ∃ b, Ev (fun k => lw_Great.l0 k x (i : Int) o mt s p a4 a5 a6) b
  | 0, i, x, hi => by
    obtain ⟨b, hb⟩ := great_l1 o mt s p a4 a5 a6 hm hp mt.length 0 x (by omega)
    refine ⟨b, ?_⟩
    apply Ev.step
    simp only [lw_Great.l0, if_neg (show ¬ (i : Int) < (o.length : Int) by omega)]
    exact hb
  | m + 1, i, x, hi => by
    obtain ⟨b, ih⟩ := great_l0 ho hm hp m (i + 1) (wrap64 (x + ((rdOf ByteArray.empty o (i : Int)).size : Int))) (by omega)
    refine ⟨b, ?_⟩
    apply Ev.step
    simp only [lw_Great.l0, if_pos (show (i : Int) < (o.length : Int) by omega), if_pos (i_pos i), wrap_succ (i_pos i) (show (i : Int) ≤ 1000000000 by omega)]
    exact ih
theorem great : ∃ b, Ev (fun k => lw_Great.f k o mt s p a4 a5 a6) b := by
  have ht : Ev (fun k => lw_Great.j0 k true o mt s p a4 a5 a6) true := by
    apply Ev.step
    simp only [lw_Great.j0, if_true]
    exact Ev.const _
  unfold lw_Great.f
  by_cases h1 : (o.length : Int) > 20
  · simp only [if_pos h1]; exact ⟨_, ht⟩
  by_cases h2 : (mt.length : Int) > 20
  · simp only [if_neg h1, if_pos h2]; exact ⟨_, ht⟩
  by_cases h3 : (s.length : Int) > 20
  · simp only [if_neg h1, if_neg h2, if_pos h3]; exact ⟨_, ht⟩
  simp only [if_neg h1, if_neg h2, if_neg h3]
  by_cases h4 : (p.length : Int) > 20
  · rw [show decide ((p.length : Int) > 20) = true by simpa using h4]; exact ⟨_, ht⟩
  · rw [show decide ((p.length : Int) > 20) = false by simpa using h4]
    obtain ⟨b, hb⟩ := great_l0 o mt s p a4 a5 a6 (by omega) (by omega) (by omega) o.length 0 0 (by omega)
    refine ⟨b, ?_⟩
    apply Ev.step
    simp only [lw_Great.j0, Bool.false_eq_true, if_false]
    exact hb
end
section
variable (o : List ByteArray) (mt : List S63) (s : List S27) (p : List S65) (a4 a5 a6 : Int) (r l1 : List Int) (n b3 b4 : Int) (l5 : List Int)
end
end Go.Proofs.Ytkjkokgbhepmoaa.PB

namespace Go.Proofs.Ytkjkokgbhepmoaa.PB
open Go.RowKit Go.Proofs.YtkjkokgbhepmoaaW.PrintWords Go.Proofs.YtkjkokgbhepmoaaW.PrintLast Go.Proofs.YtkjkokgbhepmoaaW.PrintMore
variable {F : Fence} {n : Nat} {P : Program}
def roundPostP (P : Program) (l : Nat) (R : Ending → World → Prop) : Exit → Act → World → Prop
  | .normal, _, w => ∃ v w', (Instr.endRound l none).run P w = .ok v w' ∧ R (.returned v) w'
  | .panic ch, a, w => a.defers = [] ∧ R (.panicked ch) w
  | _, _, _ => False
theorem roundIn_of_wpInP {l : Nat} {f : FuncId} {tmps : Array Value} {assign body : Code} {w : World} {R : Ending → World → Prop} (hF : F.fn f) (hPf : (∃ ch w', R (.panicked ch) w') → ∃ fn, P.funcs[f]? = some fn)
    (h : assign.wpIn (F.inRound l) n P (Exit.then (fun a₁ w₁ => ∃ w₂, (Instr.beginRound l).run P w₁ = .ok () w₂ ∧ body.wpIn (F.inRound l) n P (roundPostP P l R) a₁ w₂) (fun _ _ _ => False))
      { tmps := tmps, defers := [] } w) :
    RoundIn F n P l f tmps assign body w R := by
  refine ⟨hF, fun c cs hr => ?_⟩
  let b : Frame := { (default : Frame) with fn := f, kind := .normal, roundOf := some l }
  have hb0 : Frame.round l f tmps assign body .normal = b.atR { tmps := tmps, defers := [] } [.code assign, .beginRound, .code body] := by
    simp [Frame.round, Frame.atR, b]
  have hr' : (F.inRound l).room ((c :: cs).length + 1 + n) := hr
  have hF' : (F.inRound l).fn b.fn := hF
  obtain ⟨e, a₁, w₁, hq, harr⟩ := h b [.beginRound, .code body] (c :: cs) rfl hF' hr'
  rw [← hb0] at harr
  cases e with
  | normal =>
    obtain ⟨w₂, hbr, hbody⟩ := hq
    have s1 : StepsIn (Machine.fenced P (F.inRound l)) P (lone (b.atR a₁ [.beginRound, .code body]) (c :: cs) w₁) (lone (b.atR a₁ [.code body]) (c :: cs) w₂) :=
      .one (fenced_calm (fr := b.atR a₁ [.beginRound, .code body]) hF' hr' rfl) (stepR_beginRound rfl hbr)
    obtain ⟨e₂, a₂, w₃, hq₂, harr₂⟩ := hbody b [] (c :: cs) rfl hF' hr'
    cases e₂ with
    | normal =>
      obtain ⟨v, w₄, hend, hR⟩ := hq₂
      exact ⟨.returned v, w₄, hR, (StepsIn.trans harr s1).trans (StepsIn.trans harr₂ (.one (fenced_calm (fr := b.atR a₂ []) hF' hr' rfl) (stepR_round_end rfl rfl hend)))⟩
    | panic chain =>
      obtain ⟨hd, hR⟩ := hq₂
      obtain ⟨todo, hs⟩ := harr₂
      have hleave : Frame.leaving P { b.atR a₂ todo with mode := .panicking chain } w₃ (.panicked chain) := ⟨rfl, hd, hPf ⟨_, _, hR⟩⟩
      have hl : (lone { b.atR a₂ todo with mode := .panicking chain } (c :: cs) w₃).fenced P (F.inRound l) := fenced_leaving (n := n) hF' hr' hleave
      exact ⟨.panicked chain, w₃, hR, (StepsIn.trans harr s1).trans (StepsIn.trans hs (.one hl (step_leave_panicked hleave)))⟩
    | ret => exact hq₂.elim
    | exit id => exact hq₂.elim
    | goto t => exact hq₂.elim
    | outgrown => exact hq₂.elim
  | exit id => exact hq.elim
  | goto t => exact hq.elim
  | ret => exact hq.elim
  | panic chain => exact hq.elim
  | outgrown => exact hq.elim
def bodyPostP (B : Nat) (I : Nat → World → Prop) (Ip : List PanicEntry → World → Prop) (k : Nat) (W : World) : Exit → Act → World → Prop
  | .normal, _, W' => W.heap.size ≤ W'.heap.size ∧ (∀ j, B ≤ j → j < B + 2 → W'.heap[j]? = W.heap[j]?) ∧ I k W'
  | .panic ch, a, W' => a.defers = [] ∧ W.heap.size ≤ W'.heap.size ∧ (∀ j, B ≤ j → j < B + 2 → W'.heap[j]? = W.heap[j]?) ∧ Ip ch W'
  | _, _, _ => False
theorem wpIn_rangeFuncP {g : Operand} {ps : Array Tmp} {assign body : Code} {Q : Exit → Act → World → Prop} {a : Act} {w : World} {N : Nat} {encs : Nat → Array Value}
    (hro : F.round = none) (h1 : 1 ≤ n) {gf : Nat} {lb : Array Value} (hg : a.eval g = .func (.func gf) #[] lb) (hFg : F.fn gf) (eg : ∀ args w, (callFunc gf args).run P w = .ok (.enter gf args) w)
    (hps : ∀ k, (encs k).size = ps.size) (I : Nat → World → Prop) (Ip : List PanicEntry → World → Prop)
    (hIa : ∀ k W o, I k W → I k (W.alloc o)) (hIp : ∀ k W o (r : Loop), W.heap[w.heap.size + 1]? = some (.loop r) → I k W → I k (W.putObj (w.heap.size + 1) o)) (h0 : I 0 w)
    (hseq : ∀ (l : Nat) (J : Nat → World → Prop) (Jp : List PanicEntry → World → Prop) (W : World), (∀ k W o, J k W → J k (W.alloc o)) → (∀ k W, J k W → I k W) →
      (∀ k W1, k < N → J k W1 → YieldAt F (n - 1 - 1) P l (encs k) W1 fun e W' => (e = .returned (.bool true) ∧ J (k + 1) W') ∨ (∃ ch, e = .panicked ch ∧ Jp ch W')) → J 0 W →
      CallsIn F (n - 1) P gf (#[.func (.yield l) #[] #[]] ++ lb) W fun e W' => (∃ v, e = .returned v ∧ J N W') ∨ (∃ ch, e = .panicked ch ∧ Jp ch W'))
    (hround : ∀ (l : Nat) (k : Nat) (W : World), w.heap.size + 1 < W.heap.size → (∃ r : Loop, W.heap[w.heap.size + 1]? = some (.loop r)) → k < N → I k W → ∀ (st : Act → World → Prop),
      (∀ a' W', W.heap.size ≤ W'.heap.size → (∀ j, w.heap.size ≤ j → j < w.heap.size + 2 → W'.heap[j]? = W.heap[j]?) →
        (∀ o, body.wpIn (F.inRound l) (n - 1 - 1) P (bodyPostP w.heap.size I Ip (k + 1) (W'.putObj (w.heap.size + 1) o)) a' (W'.putObj (w.heap.size + 1) o)) → st a' W') →
      assign.wpIn (F.inRound l) (n - 1 - 1) P (Exit.then st (fun _ _ _ => False)) { tmps := (ps.zip (encs k)).foldl (fun t (p, v) => t.setIfInBounds p v) a.tmps, defers := [] } W)
    (hfn : (∃ ch W, Ip ch W) → ∀ fn, F.fn fn → ∃ c, P.funcs[fn]? = some c)
    (hdone : ∀ W, I N W → W.heap[w.heap.size]? = some (.deferred (some [])) → Q .normal { a with defers := { target := .collected w.heap.size, args := #[] } :: a.defers } W)
    (hpanic : ∀ ch W, Ip ch W → W.heap[w.heap.size]? = some (.deferred (some [])) → Q (.panic ch) { a with defers := { target := .collected w.heap.size, args := #[] } :: a.defers } W) :
    (Code.rangeFunc g ps assign body).wpIn F n P Q a w := by
  refine wpIn_rangeFunc ?_
  intro fn hfn'
  rw [hro]
  obtain ⟨rec, hrec⟩ : ∃ rec : LoopState → Option Code → Loop, rec = fun st pe => { state := st, pending := pe, fn, tmps := a.tmps, params := ps, assign, body, defers := w.heap.size } := ⟨_, rfl⟩
  obtain ⟨W1, hW1⟩ : ∃ W1, (w.alloc (.deferred (some []))).alloc (.loop (rec .ready none)) = W1 := ⟨_, rfl⟩
  have hL1 : W1.heap[w.heap.size + 1]? = some (.loop (rec .ready none)) := by
    rw [← hW1]; have := World.alloc_heap_new (w.alloc (.deferred (some []))) (.loop (rec .ready none)); rwa [World.size_alloc] at this
  have hK1 : W1.heap[w.heap.size]? = some (.deferred (some [])) := by
    rw [← hW1]; exact (Below.heap_alloc _ _ _ (by simp)).trans (World.alloc_heap_new w _)
  have hI1 : I 0 W1 := by rw [← hW1]; exact hIa _ _ _ (hIa _ _ _ h0)
  refine ⟨w.heap.size + 1, [{ target := .collected w.heap.size, args := #[] }], W1, { target := .fn (.func gf) lb, args := #[.func (.yield (w.heap.size + 1)) #[] #[]] }, W1, gf,
    #[.func (.yield (w.heap.size + 1)) #[] #[]] ++ lb, W1, ?_, ?_, ?_, ?_, fun _ => h1, ?_⟩
  · rw [← hW1, hrec]; exact run_enterLoop_outer _ _ _ _ _
  · simp only [resolve, hg]
    simp [go_sem]
  · intro f' hf'; simp [Target.leads] at hf'; subst hf'; exact hFg
  · simp [invoke, go_sem, eg]
  · have hal : ∀ (W : World) (j : Nat) (x : Obj) (o : Obj), W.heap[j]? = some x → (W.alloc o).heap[j]? = some x := fun W j x o h =>
      (Below.heap_alloc W o j (Array.getElem?_eq_some_iff.1 h).1).trans h
    refine (hseq (w.heap.size + 1)
      (fun k W => I k W ∧ W.heap[w.heap.size + 1]? = some (.loop (rec .ready none)) ∧ W.heap[w.heap.size]? = some (.deferred (some [])))
      (fun ch W => Ip ch W ∧ W.heap[w.heap.size]? = some (.deferred (some [])))
      W1 (fun k W o h => ⟨hIa _ _ _ h.1, hal _ _ _ _ h.2.1, hal _ _ _ _ h.2.2⟩) (fun k W h => h.1) ?_ ⟨hI1, hL1, hK1⟩).mono ?_
    · rintro k W hk ⟨hi, hl, hd⟩
      have hlt : w.heap.size + 1 < W.heap.size := (Array.getElem?_eq_some_iff.1 hl).1
      have hy := run_yield (P := P) (args := encs k) hl (by rw [hrec]; exact hps k)
      rw [hrec] at hy
      refine ⟨fn, _, assign, body, hy, roundIn_of_wpInP hfn' (fun ⟨ch, W', h⟩ => hfn (by rcases h with ⟨h, _⟩ | ⟨ch', _, h, _⟩; cases h; exact ⟨_, _, h⟩) fn hfn') (hround _ k W hlt ⟨_, hl⟩ hk hi _ ?_)⟩
      clear hy
      intro a' Wa hsz hsame hb
      have hla : Wa.heap[w.heap.size + 1]? = some (.loop (rec .ready none)) := (hsame _ (by omega) (by omega)).trans hl
      have hda : Wa.heap[w.heap.size]? = some (.deferred (some [])) := (hsame _ (by omega) (by omega)).trans hd
      have hlta : w.heap.size + 1 < Wa.heap.size := by omega
      refine ⟨_, run_beginRound hla (by rw [hrec]), ?_⟩
      refine wpIn_mono (hb _) ?_
      have hl2 : (Wa.putObj (w.heap.size + 1) (.loop { rec .ready none with state := .busy })).heap[w.heap.size + 1]? = some (.loop { rec .ready none with state := .busy }) := World.putObj_heap_same hlta
      have hk2 : (Wa.putObj (w.heap.size + 1) (.loop { rec .ready none with state := .busy })).heap[w.heap.size]? = some (.deferred (some [])) := (World.putObj_heap_other (by omega)).trans hda
      rintro e a3 W3 hp
      cases e with
      | normal =>
        obtain ⟨hs3, hsame3, hi3⟩ := hp
        have hl3 := (hsame3 _ (by omega) (by omega)).trans hl2
        have hk3 := (hsame3 _ (by omega) (by omega)).trans hk2
        have hr := run_endRound (P := P) none hl3
        have hlt3 := (Array.getElem?_eq_some_iff.1 hl3).1
        rw [hrec] at hr ⊢
        exact ⟨_, _, hr, .inl ⟨rfl, hIp _ _ _ _ hl3 hi3, World.putObj_heap_same hlt3, (World.putObj_heap_other (by omega)).trans hk3⟩⟩
      | panic ch =>
        obtain ⟨hd3, hs3, hsame3, hi3⟩ := hp
        exact ⟨hd3, .inr ⟨ch, rfl, hi3, (hsame3 _ (by omega) (by omega)).trans hk2⟩⟩
      | ret => exact hp.elim
      | exit id => exact hp.elim
      | goto t => exact hp.elim
      | outgrown => exact hp.elim
    · rintro e W2 (⟨v, rfl, hi, hl, hk⟩ | ⟨ch, rfl, hi, hk⟩)
      · have hlt := (Array.getElem?_eq_some_iff.1 hl).1
        exact ⟨none, _, by have := run_endLoop (P := P) hl (by rw [hrec]; simp); rw [hrec] at this; exact this, hdone _ (hIp _ _ _ _ hl hi) ((World.putObj_heap_other (by omega)).trans hk)⟩
      · exact hpanic ch _ hi hk
end Go.Proofs.Ytkjkokgbhepmoaa.PB

namespace Go.Proofs.Ytkjkokgbhepmoaa.PB
open Go.RowKit Go.Shelf Go.Proofs.YtkjkokgbhepmoaaW.PrintWords Go.Proofs.YtkjkokgbhepmoaaW.PrintLast Go.Proofs.YtkjkokgbhepmoaaW.PrintMore
attribute [local go_sem] Oper.semAt_some
def ringV (x : S170) : Value := .agg #[.int .i64 x.f0.f0, .int .i64 x.f0.f1, .int .i64 x.f1.f0, .int .i64 x.f1.f1, .int .i64 x.f2.f0, .int .i64 x.f2.f1, .int .i64 x.f3.f0, .int .i64 x.f3.f1, .int .i64 x.f4.f0, .int .i64 x.f4.f1]
def ringC (x : S170) : Obj := .cells #[.int .i64 x.f0.f0, .int .i64 x.f0.f1, .int .i64 x.f1.f0, .int .i64 x.f1.f1, .int .i64 x.f2.f0, .int .i64 x.f2.f1, .int .i64 x.f3.f0, .int .i64 x.f3.f1, .int .i64 x.f4.f0, .int .i64 x.f4.f1] 170
theorem demand_okI (F : Fence) (n : Nat) (hF : F.fn 91) (hro : F.round = none) (e : Int) (w : World) : CallsIn F n Try.prog 91 #[.bool true, .int .i64 e] w fun en w' => en = .returned (.tuple #[]) ∧ w' = w := by
  refine callsIn_of_wp Try.func91 rfl hF ?_ hro
  simp only [Try.ntmps91, List.size_toArray, List.length_cons, List.length_nil, Nat.reduceAdd, Nat.reduceSub, Array.replicate_succ, Array.replicate_zero, List.push_toArray, List.append_toArray, List.nil_append, List.cons_append]
  gi_wp2
  go_end0
  exact ⟨rfl, rfl⟩
theorem demand_noI (F : Fence) (n : Nat) (hF : F.fn 91) (hro : F.round = none) (e : Int) (w : World) : CallsIn F n Try.prog 91 #[.bool false, .int .i64 e] w fun en w' => en = .panicked (failC e) ∧ w' = w := by
  refine callsIn_of_wp Try.func91 rfl hF ?_ hro
  simp only [Try.ntmps91, List.size_toArray, List.length_cons, List.length_nil, Nat.reduceAdd, Nat.reduceSub, Array.replicate_succ, Array.replicate_zero, List.push_toArray, List.append_toArray, List.nil_append, List.cons_append]
  gi_wp2
  simp [bodyPost, failC, failV]
theorem withinI (F : Fence) (n : Nat) (hF : F.fn 92) (hro : F.round = none) (x lo hi : Int) (w : World) : CallsIn F n Try.prog 92 #[.int .i64 x, .int .i64 lo, .int .i64 hi] w fun e w' => e = .returned (.bool (inB x lo hi)) ∧ w' = w := by
  refine callsIn_of_wp Try.func92 rfl hF ?_ hro
  simp only [Try.ntmps92, List.size_toArray, List.length_cons, List.length_nil, Nat.reduceAdd, Nat.reduceSub, Array.replicate_succ, Array.replicate_zero, List.push_toArray, List.append_toArray, List.nil_append, List.cons_append]
  cases h : decide (x ≥ lo) with
  | true =>
    gi_wp2
    go_ret
    simp at h
    exact ⟨by (simp [inB, h]) <;> (intros; omega), rfl⟩
  | false =>
    gi_wp2
    go_ret
    simp at h
    exact ⟨by (simp [inB, h]) <;> (intros; omega), rfl⟩
theorem spanI (F : Fence) (n : Nat) (hF : F.fn 141) (hro : F.round = none) (a b lo hi : Int) (w : World) : CallsIn F n Try.prog 141 #[.agg #[.int .i64 a, .int .i64 b], .int .i64 lo, .int .i64 hi] w fun e w' => e = .returned (.bool (spanB a b lo hi)) ∧ w' = w.alloc (.cells #[.int .i64 a, .int .i64 b] 27) := by
  refine callsIn_of_wp Try.func141 rfl hF ?_ hro
  simp only [Try.ntmps141, List.size_toArray, List.length_cons, List.length_nil, Nat.reduceAdd, Nat.reduceSub, Array.replicate_succ, Array.replicate_zero, List.push_toArray, List.append_toArray, List.nil_append, List.cons_append]
  have hb := blk_new w (.cells #[.int .i64 a, .int .i64 b] 27)
  have hx0 : (w.alloc (.cells #[.int .i64 a, .int .i64 b] 27)).cell? ⟨w.heap.size, 0, none⟩ = some (.int .i64 a) := (blk_cell hb 0).trans rfl
  have hx1 : (w.alloc (.cells #[.int .i64 a, .int .i64 b] 27)).cell? ⟨w.heap.size, 0 + 1, none⟩ = some (.int .i64 b) := (blk_cell hb 1).trans rfl
  cases h : decide (a ≥ lo) with
  | true =>
    cases h2 : decide (a ≤ b) with
    | true =>
      gi_wp2
      go_ret
      simp at h h2
      exact ⟨by (simp [spanB, h, h2]) <;> (intros; omega), rfl⟩
    | false =>
      gi_wp2
      go_ret
      simp at h h2
      exact ⟨by (simp [spanB, h, h2]) <;> (intros; omega), rfl⟩
  | false =>
    gi_wp2
    go_ret
    simp at h
    exact ⟨by (simp [spanB, h]) <;> (intros; omega), rfl⟩
set_option maxHeartbeats 4000000 in
set_option maxRecDepth 100000 in
theorem rings_callsI (F : Fence) (n : Nat) (hF : F.fn 142) (hro : F.round = none) (v1 v2 v3 : Value) (w : World) :
    CallsIn F n Try.prog 142 #[.agg #[v1, v2, v3]] w fun e w' => e = .returned (.func (.func 159) #[] #[.pointer (some ⟨w.heap.size, 0, none⟩)]) ∧ w' = w.alloc (.cells #[v1, v2, v3] 92) := by
  have hmf := run_makeFunc_
  refine callsIn_of_wp Try.func142 rfl hF ?_ hro
  simp only [Try.ntmps142, List.size_toArray, List.length_cons, List.length_nil, Nat.reduceAdd, Nat.reduceSub, Array.replicate_succ, Array.replicate_zero, List.push_toArray, List.append_toArray, List.nil_append, List.cons_append]
  gi_wp2
  go_ret
  exact ⟨rfl, rfl⟩
set_option maxHeartbeats 4000000 in
set_option maxRecDepth 100000 in
theorem rings1_in (F : Fence) (n : Nat) (hF : F.fn 159) (hro : F.round = none) (hn : 1 ≤ n) (l Bs : Nat) (A : Option Addr) (cap : Nat) (v2 v3 : Value) (zs : List S170) (J : Nat → World → Prop) (Jp : List PanicEntry → World → Prop) (W : World)
    (hBs : W.heap[Bs]? = some (.cells #[.slice A zs.length cap, v2, v3] 92 (0, 0)))
    (hJa : ∀ k W o, J k W → J k (W.alloc o)) (hJC : ∀ k W, J k W → Kd.C k170 W A zs.length zs)
    (hY : ∀ k W1, k < zs.length → J k W1 → YieldAt F (n - 1) Try.prog l #[.int .i64 k, ringV (rd_T170 zs k)] W1 fun e W' => (e = .returned (.bool true) ∧ J (k + 1) W') ∨ (∃ ch, e = .panicked ch ∧ Jp ch W'))
    (h0 : J 0 W) :
    CallsIn F n Try.prog 159 #[.func (.yield l) #[] #[], .pointer (some ⟨Bs, 0, none⟩)] W fun e W' => (∃ v, e = .returned v ∧ J zs.length W') ∨ (∃ ch, e = .panicked ch ∧ Jp ch W') := by
  have hc0 : W.cell? ⟨Bs, 0, none⟩ = some (.slice A zs.length cap) := (blk_cell hBs 0).trans rfl
  refine callsIn_of_wp Try.func159 rfl hF ?_ hro
  simp only [Try.ntmps159, List.size_toArray, List.length_cons, List.length_nil, Nat.reduceAdd, Nat.reduceSub, Array.replicate_succ, Array.replicate_zero, List.push_toArray, List.append_toArray, List.nil_append, List.cons_append]
  gi_wp2
  gi_loopw [8] (fun i wr => ∃ k : Nat, k ≤ zs.length ∧ i = .int .i64 k ∧ J k wr) (fun i _ => zs.length - (intOf i).toNat)
  case atStart => exact ⟨0, Nat.zero_le _, rfl, h0⟩
  case round =>
    obtain ⟨k, hk, rfl, hJs⟩ := hrel
    by_cases hlt : k < zs.length
    · obtain ⟨ad, rfl, g0, g1, g2, g3, g4, g5, g6, g7, g8, g9⟩ := at_T170 (hJC k wr hJs) k (by omega) (by omega)
      have hmax := Kd.C_max (hJC k wr hJs)
      have hwr : wrap64 ((k : Int) + 1) = (k : Int) + 1 := by unfold wrap64; omega
      simp only [Int.toNat_natCast] at g0 g1 g2 g3 g4 g5 g6 g7 g8 g9
      obtain ⟨fn, tmps, assign, body, hy, hR⟩ := hY _ (wr.alloc (ringC (rd_T170 zs k))) hlt (hJa _ _ _ hJs)
      unfold ringC ringV at hy
      gi_wp2
      refine hR.mono ?_
      rintro e W3 (⟨rfl, hJ3⟩ | ⟨ch, rfl, hJp⟩)
      · gi_wp2
        go_roundw
        case rel => exact ⟨k + 1, by omega, by simp, hJ3⟩
        case measure => simp [intOf]; omega
      · gi_wp2
        exact ⟨rfl, .inr ⟨ch, rfl, hJp⟩⟩
    · obtain rfl : k = zs.length := by omega
      gi_wp2
      go_end0
      exact .inl ⟨_, rfl, hJs⟩
end Go.Proofs.Ytkjkokgbhepmoaa.PB

namespace Go.Proofs.Ytkjkokgbhepmoaa.PB
open Go.RowKit Go.Shelf Go.Proofs.YtkjkokgbhepmoaaW.PrintWords Go.Proofs.YtkjkokgbhepmoaaW.PrintLast Go.Proofs.YtkjkokgbhepmoaaW.PrintMore
attribute [local go_sem] Oper.semAt_some
def ringB (x : S170) : Bool := spanB x.f0.f0 x.f0.f1 1 1000 && (spanB x.f1.f0 x.f1.f1 1 5000 && (spanB x.f2.f0 x.f2.f1 0 1000 && (spanB x.f3.f0 x.f3.f1 0 10000 && spanB x.f4.f0 x.f4.f1 0 10000)))
def sumLo (zs : List S170) : Nat → Int
  | 0 => 0
  | k + 1 => sumLo zs k + (rd_T170 zs (k : Int)).f2.f0
def sumHi (zs : List S170) : Nat → Int
  | 0 => 0
  | k + 1 => sumHi zs k + (rd_T170 zs (k : Int)).f2.f1
def ringsOk (zs : List S170) : Nat → Bool
  | 0 => true
  | k + 1 => ringsOk zs k && ringB (rd_T170 zs (k : Int))
theorem ringB_f2 {x : S170} (h : ringB x = true) : 0 ≤ x.f2.f0 ∧ x.f2.f0 ≤ x.f2.f1 ∧ x.f2.f1 ≤ 1000 := by
  simp only [ringB, spanB, Bool.and_eq_true, decide_eq_true_eq] at h
  omega
theorem sum_bounds (zs : List S170) : ∀ k, ringsOk zs k = true → 0 ≤ sumLo zs k ∧ sumLo zs k ≤ 1000 * k ∧ 0 ≤ sumHi zs k ∧ sumHi zs k ≤ 1000 * k
  | 0, _ => by simp [sumLo, sumHi]
  | k + 1, h => by
    simp only [ringsOk, Bool.and_eq_true] at h
    have ih := sum_bounds zs k h.1
    have hb := ringB_f2 h.2
    simp only [sumLo, sumHi]
    omega
theorem ringsOk_mono (zs : List S170) : ∀ k j, ringsOk zs k = false → k ≤ j → ringsOk zs j = false
  | k, 0, h, hj => by obtain rfl : k = 0 := by omega
                      exact h
  | k, j + 1, h, hj => by
    by_cases e : k = j + 1
    · subst e; exact h
    · simp [ringsOk, ringsOk_mono zs k j h (by omega)]
def bottleV (zs : List S170) (f1 f2 : Int) : Int := if zs.length > 24 then 3 else if zs.length = 0 then 1 else if ringsOk zs zs.length = true then (if sumLo zs zs.length ≤ 1000 ∧ sumHi zs zs.length ≥ 1000 then (if inB f1 1 1000 = true ∧ inB f2 0 1000000000000000 = true then 0 else 1) else 12) else 1
theorem blk_four' (w : World) (o1 o2 o3 o4 : Obj) : ((((w.alloc o1).alloc o2).alloc o3).alloc o4).heap[w.heap.size]? = some o1 ∧ ((((w.alloc o1).alloc o2).alloc o3).alloc o4).heap[w.heap.size + 1]? = some o2 ∧ ((((w.alloc o1).alloc o2).alloc o3).alloc o4).heap[w.heap.size + 1 + 1]? = some o3 ∧ ((((w.alloc o1).alloc o2).alloc o3).alloc o4).heap[w.heap.size + 1 + 1 + 1]? = some o4 ∧ Below w.heap.size w ((((w.alloc o1).alloc o2).alloc o3).alloc o4) ∧ ((((w.alloc o1).alloc o2).alloc o3).alloc o4).heap.size = w.heap.size + 1 + 1 + 1 + 1 :=
  ⟨blk_alloc (blk_three w o1 o2 o3).1 o4, blk_alloc (blk_three w o1 o2 o3).2.1 o4, blk_alloc (blk_three w o1 o2 o3).2.2.1 o4, by simpa using blk_new (((w.alloc o1).alloc o2).alloc o3) o4, below_alloc (blk_three w o1 o2 o3).2.2.2.1 o4, by simp⟩
def Fc : Fence := { fn := fun g => g = 140 ∨ g = 91 ∨ g = 141 ∨ g = 142 ∨ g = 159 ∨ g = 92 }
theorem putObj_heap_keep {W : World} {r k : Nat} {o x : Obj} (hne : k ≠ r) (h : W.heap[k]? = some x) : (W.putObj r o).heap[k]? = some x := (World.putObj_heap_other hne).trans h
theorem below_putObj {w W : World} {r : Nat} {o : Obj} (h : Below w.heap.size w W) (hr : w.heap.size ≤ r) (hlt : r < W.heap.size) : Below w.heap.size w (W.putObj r o) :=
  h.grown (grownBy_putObj' W r o) (by have := h.size; omega) (fun k e => by cases e; exact hr)
structure CkI (A : Option Addr) (c : Nat) (zs : List S170) (f1 f2 : Int) (w : World) (k : Nat) (W : World) : Prop where
  ok : ringsOk zs k = true
  bx : W.heap[w.heap.size]? = some (.cells #[.slice A zs.length c, .int .i64 f1, .int .i64 f2] 92 (0, 0))
  lo : W.heap[w.heap.size + 1]? = some (.cells #[.int .i64 (sumLo zs k)] 3 (0, 0))
  hi : W.heap[w.heap.size + 1 + 1]? = some (.cells #[.int .i64 (sumHi zs k)] 3 (0, 0))
  rb : W.heap[w.heap.size + 1 + 1 + 1]? = some (.cells #[.slice A zs.length c, .int .i64 f1, .int .i64 f2] 92 (0, 0))
  be : Below w.heap.size w W
theorem CkI.alloc {A : Option Addr} {c : Nat} {zs : List S170} {f1 f2 : Int} {w : World} {k : Nat} {W : World} (h : CkI A c zs f1 f2 w k W) (o : Obj) : CkI A c zs f1 f2 w k (W.alloc o) :=
  ⟨h.ok, blk_alloc h.bx o, blk_alloc h.lo o, blk_alloc h.hi o, blk_alloc h.rb o, below_alloc h.be o⟩
theorem CkI.put {A : Option Addr} {c : Nat} {zs : List S170} {f1 f2 : Int} {w : World} {k : Nat} {W : World} (h : CkI A c zs f1 f2 w k W) {r : Nat} (o : Obj) (hr : w.heap.size + 4 ≤ r) (hlt : r < W.heap.size) : CkI A c zs f1 f2 w k (W.putObj r o) :=
  ⟨h.ok, putObj_heap_keep (by omega) h.bx, putObj_heap_keep (by omega) h.lo, putObj_heap_keep (by omega) h.hi, putObj_heap_keep (by omega) h.rb, below_putObj h.be (by omega) hlt⟩
def CkP (zs : List S170) (w : World) (ch : List PanicEntry) (W : World) : Prop := ch = failC 1 ∧ ringsOk zs zs.length = false ∧ Below w.heap.size w W
set_option maxHeartbeats 4000000 in
set_option maxRecDepth 100000 in
theorem bottle_callsI (F : Fence) (n : Nat) (h140 : F.fn 140) (h91 : F.fn 91) (h141 : F.fn 141) (h142 : F.fn 142) (h159 : F.fn 159) (h92 : F.fn 92) (hro : F.round = none) (hfn : ∀ g, F.fn g → ∃ c, Try.prog.funcs[g]? = some c) (hn : 9 ≤ n) (A : Option Addr) (c : Nat) (zs : List S170) (f1 f2 : Int) (w : World) (hr : Kd.C k170 w A zs.length zs) :
    CallsIn F n Try.prog 140 #[.agg #[.slice A zs.length c, .int .i64 f1, .int .i64 f2]] w fun en w' => en = endF (bottleV zs f1 f2) ∧ Below w.heap.size w w' := by
  have hb0 := below_alloc (Below.refl w.heap.size w) (.cells #[.slice A zs.length c, .int .i64 f1, .int .i64 f2] 92)
  have BX := Sd.mk (blk_new w (.cells #[.slice A zs.length c, .int .i64 f1, .int .i64 f2] 92))
  have hx0 : (w.alloc (.cells #[.slice A zs.length c, .int .i64 f1, .int .i64 f2] 92)).cell? ⟨w.heap.size, 0, none⟩ = some (.slice A zs.length c) := (blk_cell BX.out 0).trans rfl
  have HB0 := Sd.mk hb0
  have HR := Sd.mk hr
  clear hr hb0
  have hn1 : 1 ≤ n := by omega
  refine callsIn_of_wp_marks Try.func140 rfl h140 ?_ hro
  simp only [Try.ntmps140, List.size_toArray, List.length_cons, List.length_nil, Nat.reduceAdd, Nat.reduceSub, Array.replicate_succ, Array.replicate_zero, List.push_toArray, List.append_toArray, List.nil_append, List.cons_append]
  by_cases h24 : zs.length > 24
  · have hd : decide ((zs.length : Int) ≤ 24) = false := decide_eq_false (by omega)
    gi_wp2_with (first | (gi_at_call 91; (with_reducible refine (demand_noI F _ h91 hro _ _).mono ?_); rintro e w' ⟨rfl, rfl⟩) | (gi_at_call 91; (with_reducible refine (demand_okI F _ h91 hro _ _).mono ?_); rintro e w' ⟨rfl, rfl⟩))
    exact ⟨by rw [bottleV, if_pos h24]; rfl, HB0.out⟩
  · by_cases h0 : zs.length = 0
    · have hd : decide ((zs.length : Int) ≤ 24) = true := decide_eq_true (by omega)
      have hd2 : decide ((zs.length : Int) > 0) = false := decide_eq_false (by omega)
      have hd3 : decide (0 < zs.length) = false := decide_eq_false (by omega)
      have HV : Sd (bottleV zs f1 f2 = 1) := ⟨by rw [bottleV, if_neg h24, if_pos h0]⟩
      clear h0
      gi_wp2_with (first | (gi_at_call 91; (with_reducible refine (demand_noI F _ h91 hro _ _).mono ?_); rintro e w' ⟨rfl, rfl⟩) | (gi_at_call 91; (with_reducible refine (demand_okI F _ h91 hro _ _).mono ?_); rintro e w' ⟨rfl, rfl⟩))
      exact ⟨by rw [HV.out]; rfl, HB0.out⟩
    · have hd : decide ((zs.length : Int) ≤ 24) = true := decide_eq_true (by omega)
      have hd2 : decide ((zs.length : Int) > 0) = true := decide_eq_true (by omega)
      have hd3 : decide (0 < zs.length) = true := decide_eq_true (by omega)
      have HV : Sd (bottleV zs f1 f2 = if ringsOk zs zs.length = true then (if sumLo zs zs.length ≤ 1000 ∧ sumHi zs zs.length ≥ 1000 then (if inB f1 1 1000 = true ∧ inB f2 0 1000000000000000 = true then 0 else 1) else 12) else 1) := ⟨by rw [bottleV, if_neg h24, if_neg h0]⟩
      have HN : Sd (zs.length ≤ 24) := ⟨by omega⟩
      clear h24 h0
      have hx1 : (w.alloc (.cells #[.slice A zs.length c, .int .i64 f1, .int .i64 f2] 92)).cell? ⟨w.heap.size, 0 + 1, none⟩ = some (.int .i64 f1) := (blk_cell BX.out 1).trans rfl
      have hx2 : (w.alloc (.cells #[.slice A zs.length c, .int .i64 f1, .int .i64 f2] 92)).cell? ⟨w.heap.size, 0 + 2, none⟩ = some (.int .i64 f2) := (blk_cell BX.out 2).trans rfl
      gi_wp2_with (first | (gi_at_call 91; (with_reducible refine (demand_noI F _ h91 hro _ _).mono ?_); rintro e w' ⟨rfl, rfl⟩) | (gi_at_call 91; (with_reducible refine (demand_okI F _ h91 hro _ _).mono ?_); rintro e w' ⟨rfl, rfl⟩) | (gi_at_call 142; (with_reducible refine (rings_callsI F _ h142 hro _ _ _ _).mono ?_); rintro e w' ⟨rfl, rfl⟩))
      clear hd hd2 hd3 hx0 hx1 hx2 BX HB0
      obtain ⟨b1, b2, b3, b4, hb, hsz⟩ := blk_four' w (.cells #[.slice A zs.length c, .int .i64 f1, .int .i64 f2] 92) (.cells #[.int .i64 0] 3) (.cells #[.int .i64 0] 3) (.cells #[.slice A zs.length c, .int .i64 f1, .int .i64 f2] 92)
      generalize (((w.alloc (.cells #[.slice A zs.length c, .int .i64 f1, .int .i64 f2] 92)).alloc (.cells #[.int .i64 0] 3)).alloc (.cells #[.int .i64 0] 3)).alloc (.cells #[.slice A zs.length c, .int .i64 f1, .int .i64 f2] 92) = W0 at b1 b2 b3 b4 hb hsz ⊢
      refine wpIn_rangeFuncP (N := zs.length) (encs := fun k => #[.int .i64 (k : Int), ringV (rd_T170 zs k)]) hro (by omega) (gf := 159) (lb := #[.pointer (some ⟨w.heap.size + 1 + 1 + 1, 0, none⟩)]) rfl h159 (enters_of Try.func159 (by kernel_rfl) rfl) (fun _ => rfl)
        (CkI A c zs f1 f2 w) (CkP zs w) (fun k W o h => h.alloc o) (fun k W o r hl h => h.put o (by omega) (Array.getElem?_eq_some_iff.1 hl).1) ⟨rfl, b1, b2, b3, b4, hb⟩ ?seq ?round ?fn ?done ?panic
      case seq =>
        intro l J Jp W hJa hJI hY h0
        exact rings1_in F (n - 1) h159 hro (by omega) l (w.heap.size + 1 + 1 + 1) A c _ _ zs J Jp W (hJI _ _ h0).rb hJa (fun k W' h => Kd.C_below HR.out (hJI _ _ h).be) hY h0
      case round =>
        clear b1 b2 b3 b4 hb
        intro l k W hW _ hk hI st hst
        generalize hx : rd_T170 zs (k : Int) = x
        have HI := Sd.mk hI
        have HW := Sd.mk hW
        have HK := Sd.mk hk
        have HX := Sd.mk hx
        have HS := Sd.mk hsz
        clear hI hW hk hx hsz
        unfold ringV
        simp only [List.zip_cons_cons, List.zip_nil_right, List.foldl_cons, List.foldl_nil]
        gi_wp2
        refine hst _ _ (by simp) (fun j h1 h2 => Below.heap_alloc W _ j (by have := HW.out; omega)) ?_
        clear hst
        intro o
        have hn2 : 1 ≤ n - 1 - 1 := by omega
        have CK : Sd (CkI A c zs f1 f2 w k ((W.alloc (.cells #[.int .i64 x.f0.f0, .int .i64 x.f0.f1, .int .i64 x.f1.f0, .int .i64 x.f1.f1, .int .i64 x.f2.f0, .int .i64 x.f2.f1, .int .i64 x.f3.f0, .int .i64 x.f3.f1, .int .i64 x.f4.f0, .int .i64 x.f4.f1] 170)).putObj (W0.heap.size + 1) o)) := ⟨(HI.out.alloc _).put o (by have := HS.out; omega) (by have := HW.out; simp; omega)⟩
        have RB : Sd (((W.alloc (.cells #[.int .i64 x.f0.f0, .int .i64 x.f0.f1, .int .i64 x.f1.f0, .int .i64 x.f1.f1, .int .i64 x.f2.f0, .int .i64 x.f2.f1, .int .i64 x.f3.f0, .int .i64 x.f3.f1, .int .i64 x.f4.f0, .int .i64 x.f4.f1] 170)).putObj (W0.heap.size + 1) o).heap[W.heap.size]? = some (.cells #[.int .i64 x.f0.f0, .int .i64 x.f0.f1, .int .i64 x.f1.f0, .int .i64 x.f1.f1, .int .i64 x.f2.f0, .int .i64 x.f2.f1, .int .i64 x.f3.f0, .int .i64 x.f3.f1, .int .i64 x.f4.f0, .int .i64 x.f4.f1] 170 (0, 0))) := ⟨putObj_heap_keep (by have := HW.out; omega) (blk_new _ _)⟩
        have WS : Sd (((W.alloc (.cells #[.int .i64 x.f0.f0, .int .i64 x.f0.f1, .int .i64 x.f1.f0, .int .i64 x.f1.f1, .int .i64 x.f2.f0, .int .i64 x.f2.f1, .int .i64 x.f3.f0, .int .i64 x.f3.f1, .int .i64 x.f4.f0, .int .i64 x.f4.f1] 170)).putObj (W0.heap.size + 1) o).heap.size = W.heap.size + 1) := ⟨by simp⟩
        generalize (W.alloc (.cells #[.int .i64 x.f0.f0, .int .i64 x.f0.f1, .int .i64 x.f1.f0, .int .i64 x.f1.f1, .int .i64 x.f2.f0, .int .i64 x.f2.f1, .int .i64 x.f3.f0, .int .i64 x.f3.f1, .int .i64 x.f4.f0, .int .i64 x.f4.f1] 170)).putObj (W0.heap.size + 1) o = Wb at CK RB WS ⊢
        have BW := Sd.mk (Below.refl Wb.heap.size Wb)
        have g0 : Wb.cell? ⟨W.heap.size, 0, none⟩ = some (.int .i64 x.f0.f0) := (blk_cell RB.out 0).trans rfl
        have g1 : Wb.cell? ⟨W.heap.size, 0 + 1, none⟩ = some (.int .i64 x.f0.f1) := (blk_cell RB.out 1).trans rfl
        have g2 : Wb.cell? ⟨W.heap.size, 0 + 2, none⟩ = some (.int .i64 x.f1.f0) := (blk_cell RB.out 2).trans rfl
        have g3 : Wb.cell? ⟨W.heap.size, 0 + 3, none⟩ = some (.int .i64 x.f1.f1) := (blk_cell RB.out 3).trans rfl
        have g4 : Wb.cell? ⟨W.heap.size, 0 + 4, none⟩ = some (.int .i64 x.f2.f0) := (blk_cell RB.out 4).trans rfl
        have g5 : Wb.cell? ⟨W.heap.size, 0 + 5, none⟩ = some (.int .i64 x.f2.f1) := (blk_cell RB.out 5).trans rfl
        have g6 : Wb.cell? ⟨W.heap.size, 0 + 6, none⟩ = some (.int .i64 x.f3.f0) := (blk_cell RB.out 6).trans rfl
        have g7 : Wb.cell? ⟨W.heap.size, 0 + 7, none⟩ = some (.int .i64 x.f3.f1) := (blk_cell RB.out 7).trans rfl
        have g8 : Wb.cell? ⟨W.heap.size, 0 + 8, none⟩ = some (.int .i64 x.f4.f0) := (blk_cell RB.out 8).trans rfl
        have g9 : Wb.cell? ⟨W.heap.size, 0 + 9, none⟩ = some (.int .i64 x.f4.f1) := (blk_cell RB.out 9).trans rfl
        cases s0 : spanB x.f0.f0 x.f0.f1 1 1000 with
        | false =>
          have HF : Sd (ringB x = false) := ⟨by simp only [ringB, s0, Bool.and_false, Bool.false_and, Bool.and_true, Bool.true_and]⟩
          gi_wp2_with (first | (gi_at_call 141; go_loud (refine (CallsIn.inRound l (spanI F _ h141 hro _ _ _ _ _)).mono ?_; (first | rw [s0] | rw [s1] | rw [s2] | rw [s3] | rw [s4]); rintro e wq ⟨rfl, hwq⟩; replace RB := Sd.mk (show wq.heap[W.heap.size]? = _ from by subst hwq; exact blk_alloc RB.out _); replace BW := Sd.mk (show Below Wb.heap.size Wb wq from by subst hwq; exact below_alloc BW.out _); clear hwq; have g0 : wq.cell? ⟨W.heap.size, 0, none⟩ = some (.int .i64 x.f0.f0) := (blk_cell RB.out 0).trans rfl; have g1 : wq.cell? ⟨W.heap.size, 0 + 1, none⟩ = some (.int .i64 x.f0.f1) := (blk_cell RB.out 1).trans rfl; have g2 : wq.cell? ⟨W.heap.size, 0 + 2, none⟩ = some (.int .i64 x.f1.f0) := (blk_cell RB.out 2).trans rfl; have g3 : wq.cell? ⟨W.heap.size, 0 + 3, none⟩ = some (.int .i64 x.f1.f1) := (blk_cell RB.out 3).trans rfl; have g4 : wq.cell? ⟨W.heap.size, 0 + 4, none⟩ = some (.int .i64 x.f2.f0) := (blk_cell RB.out 4).trans rfl; have g5 : wq.cell? ⟨W.heap.size, 0 + 5, none⟩ = some (.int .i64 x.f2.f1) := (blk_cell RB.out 5).trans rfl; have g6 : wq.cell? ⟨W.heap.size, 0 + 6, none⟩ = some (.int .i64 x.f3.f0) := (blk_cell RB.out 6).trans rfl; have g7 : wq.cell? ⟨W.heap.size, 0 + 7, none⟩ = some (.int .i64 x.f3.f1) := (blk_cell RB.out 7).trans rfl; have g8 : wq.cell? ⟨W.heap.size, 0 + 8, none⟩ = some (.int .i64 x.f4.f0) := (blk_cell RB.out 8).trans rfl; have g9 : wq.cell? ⟨W.heap.size, 0 + 9, none⟩ = some (.int .i64 x.f4.f1) := (blk_cell RB.out 9).trans rfl; have gl : wq.cell? ⟨w.heap.size + 1, 0, none⟩ = some (.int .i64 (sumLo zs k)) := (blk_cell (blk_below CK.out.lo BW.out) 0).trans rfl; have gl' := blk_frozen (blk_below CK.out.lo BW.out) 0; have gh : (wq.setCell ⟨w.heap.size + 1, 0, none⟩ (.int .i64 (wrap64 (sumLo zs k + x.f2.f0)))).cell? ⟨w.heap.size + 1 + 1, 0, none⟩ = some (.int .i64 (sumHi zs k)) := (blk_cell (blk_far (blk_below CK.out.hi BW.out) (p := ⟨w.heap.size + 1, 0, none⟩) (by simp) _) 0).trans rfl; have gh' : (wq.setCell ⟨w.heap.size + 1, 0, none⟩ (.int .i64 (wrap64 (sumLo zs k + x.f2.f0)))).frozen? ⟨w.heap.size + 1 + 1, 0, none⟩ = false := blk_frozen (blk_far (blk_below CK.out.hi BW.out) (p := ⟨w.heap.size + 1, 0, none⟩) (by simp) _) 0; have gr : (wq.setCell ⟨w.heap.size + 1, 0, none⟩ (.int .i64 (wrap64 (sumLo zs k + x.f2.f0)))).cell? ⟨W.heap.size, 5, none⟩ = some (.int .i64 x.f2.f1) := (blk_cell (blk_far RB.out (p := ⟨w.heap.size + 1, 0, none⟩) (by have := HW.out; have := HS.out; simp; omega) _) 5).trans rfl)) | (gi_at_call 91; (with_reducible refine (CallsIn.inRound l (demand_noI F _ h91 hro _ _)).mono ?_); rintro e w' ⟨rfl, rfl⟩) | (gi_at_call 91; (with_reducible refine (CallsIn.inRound l (demand_okI F _ h91 hro _ _)).mono ?_); rintro e w' ⟨rfl, rfl⟩))
          exact ⟨rfl, BW.out.size, fun j h1 h2 => BW.out.block j (by have := HW.out; have := WS.out; omega), rfl, ringsOk_mono zs (k + 1) _ (by simp [ringsOk, HX.out, HF.out]) HK.out, below_then CK.out.be CK.out.be.size BW.out⟩
        | true =>
          cases s1 : spanB x.f1.f0 x.f1.f1 1 5000 with
          | false =>
            have HF : Sd (ringB x = false) := ⟨by simp only [ringB, s0, s1, Bool.and_false, Bool.false_and, Bool.and_true, Bool.true_and]⟩
            gi_wp2_with (first | (gi_at_call 141; go_loud (refine (CallsIn.inRound l (spanI F _ h141 hro _ _ _ _ _)).mono ?_; (first | rw [s0] | rw [s1] | rw [s2] | rw [s3] | rw [s4]); rintro e wq ⟨rfl, hwq⟩; replace RB := Sd.mk (show wq.heap[W.heap.size]? = _ from by subst hwq; exact blk_alloc RB.out _); replace BW := Sd.mk (show Below Wb.heap.size Wb wq from by subst hwq; exact below_alloc BW.out _); clear hwq; have g0 : wq.cell? ⟨W.heap.size, 0, none⟩ = some (.int .i64 x.f0.f0) := (blk_cell RB.out 0).trans rfl; have g1 : wq.cell? ⟨W.heap.size, 0 + 1, none⟩ = some (.int .i64 x.f0.f1) := (blk_cell RB.out 1).trans rfl; have g2 : wq.cell? ⟨W.heap.size, 0 + 2, none⟩ = some (.int .i64 x.f1.f0) := (blk_cell RB.out 2).trans rfl; have g3 : wq.cell? ⟨W.heap.size, 0 + 3, none⟩ = some (.int .i64 x.f1.f1) := (blk_cell RB.out 3).trans rfl; have g4 : wq.cell? ⟨W.heap.size, 0 + 4, none⟩ = some (.int .i64 x.f2.f0) := (blk_cell RB.out 4).trans rfl; have g5 : wq.cell? ⟨W.heap.size, 0 + 5, none⟩ = some (.int .i64 x.f2.f1) := (blk_cell RB.out 5).trans rfl; have g6 : wq.cell? ⟨W.heap.size, 0 + 6, none⟩ = some (.int .i64 x.f3.f0) := (blk_cell RB.out 6).trans rfl; have g7 : wq.cell? ⟨W.heap.size, 0 + 7, none⟩ = some (.int .i64 x.f3.f1) := (blk_cell RB.out 7).trans rfl; have g8 : wq.cell? ⟨W.heap.size, 0 + 8, none⟩ = some (.int .i64 x.f4.f0) := (blk_cell RB.out 8).trans rfl; have g9 : wq.cell? ⟨W.heap.size, 0 + 9, none⟩ = some (.int .i64 x.f4.f1) := (blk_cell RB.out 9).trans rfl; have gl : wq.cell? ⟨w.heap.size + 1, 0, none⟩ = some (.int .i64 (sumLo zs k)) := (blk_cell (blk_below CK.out.lo BW.out) 0).trans rfl; have gl' := blk_frozen (blk_below CK.out.lo BW.out) 0; have gh : (wq.setCell ⟨w.heap.size + 1, 0, none⟩ (.int .i64 (wrap64 (sumLo zs k + x.f2.f0)))).cell? ⟨w.heap.size + 1 + 1, 0, none⟩ = some (.int .i64 (sumHi zs k)) := (blk_cell (blk_far (blk_below CK.out.hi BW.out) (p := ⟨w.heap.size + 1, 0, none⟩) (by simp) _) 0).trans rfl; have gh' : (wq.setCell ⟨w.heap.size + 1, 0, none⟩ (.int .i64 (wrap64 (sumLo zs k + x.f2.f0)))).frozen? ⟨w.heap.size + 1 + 1, 0, none⟩ = false := blk_frozen (blk_far (blk_below CK.out.hi BW.out) (p := ⟨w.heap.size + 1, 0, none⟩) (by simp) _) 0; have gr : (wq.setCell ⟨w.heap.size + 1, 0, none⟩ (.int .i64 (wrap64 (sumLo zs k + x.f2.f0)))).cell? ⟨W.heap.size, 5, none⟩ = some (.int .i64 x.f2.f1) := (blk_cell (blk_far RB.out (p := ⟨w.heap.size + 1, 0, none⟩) (by have := HW.out; have := HS.out; simp; omega) _) 5).trans rfl)) | (gi_at_call 91; (with_reducible refine (CallsIn.inRound l (demand_noI F _ h91 hro _ _)).mono ?_); rintro e w' ⟨rfl, rfl⟩) | (gi_at_call 91; (with_reducible refine (CallsIn.inRound l (demand_okI F _ h91 hro _ _)).mono ?_); rintro e w' ⟨rfl, rfl⟩))
            exact ⟨rfl, BW.out.size, fun j h1 h2 => BW.out.block j (by have := HW.out; have := WS.out; omega), rfl, ringsOk_mono zs (k + 1) _ (by simp [ringsOk, HX.out, HF.out]) HK.out, below_then CK.out.be CK.out.be.size BW.out⟩
          | true =>
            cases s2 : spanB x.f2.f0 x.f2.f1 0 1000 with
            | false =>
              have HF : Sd (ringB x = false) := ⟨by simp only [ringB, s0, s1, s2, Bool.and_false, Bool.false_and, Bool.and_true, Bool.true_and]⟩
              gi_wp2_with (first | (gi_at_call 141; go_loud (refine (CallsIn.inRound l (spanI F _ h141 hro _ _ _ _ _)).mono ?_; (first | rw [s0] | rw [s1] | rw [s2] | rw [s3] | rw [s4]); rintro e wq ⟨rfl, hwq⟩; replace RB := Sd.mk (show wq.heap[W.heap.size]? = _ from by subst hwq; exact blk_alloc RB.out _); replace BW := Sd.mk (show Below Wb.heap.size Wb wq from by subst hwq; exact below_alloc BW.out _); clear hwq; have g0 : wq.cell? ⟨W.heap.size, 0, none⟩ = some (.int .i64 x.f0.f0) := (blk_cell RB.out 0).trans rfl; have g1 : wq.cell? ⟨W.heap.size, 0 + 1, none⟩ = some (.int .i64 x.f0.f1) := (blk_cell RB.out 1).trans rfl; have g2 : wq.cell? ⟨W.heap.size, 0 + 2, none⟩ = some (.int .i64 x.f1.f0) := (blk_cell RB.out 2).trans rfl; have g3 : wq.cell? ⟨W.heap.size, 0 + 3, none⟩ = some (.int .i64 x.f1.f1) := (blk_cell RB.out 3).trans rfl; have g4 : wq.cell? ⟨W.heap.size, 0 + 4, none⟩ = some (.int .i64 x.f2.f0) := (blk_cell RB.out 4).trans rfl; have g5 : wq.cell? ⟨W.heap.size, 0 + 5, none⟩ = some (.int .i64 x.f2.f1) := (blk_cell RB.out 5).trans rfl; have g6 : wq.cell? ⟨W.heap.size, 0 + 6, none⟩ = some (.int .i64 x.f3.f0) := (blk_cell RB.out 6).trans rfl; have g7 : wq.cell? ⟨W.heap.size, 0 + 7, none⟩ = some (.int .i64 x.f3.f1) := (blk_cell RB.out 7).trans rfl; have g8 : wq.cell? ⟨W.heap.size, 0 + 8, none⟩ = some (.int .i64 x.f4.f0) := (blk_cell RB.out 8).trans rfl; have g9 : wq.cell? ⟨W.heap.size, 0 + 9, none⟩ = some (.int .i64 x.f4.f1) := (blk_cell RB.out 9).trans rfl; have gl : wq.cell? ⟨w.heap.size + 1, 0, none⟩ = some (.int .i64 (sumLo zs k)) := (blk_cell (blk_below CK.out.lo BW.out) 0).trans rfl; have gl' := blk_frozen (blk_below CK.out.lo BW.out) 0; have gh : (wq.setCell ⟨w.heap.size + 1, 0, none⟩ (.int .i64 (wrap64 (sumLo zs k + x.f2.f0)))).cell? ⟨w.heap.size + 1 + 1, 0, none⟩ = some (.int .i64 (sumHi zs k)) := (blk_cell (blk_far (blk_below CK.out.hi BW.out) (p := ⟨w.heap.size + 1, 0, none⟩) (by simp) _) 0).trans rfl; have gh' : (wq.setCell ⟨w.heap.size + 1, 0, none⟩ (.int .i64 (wrap64 (sumLo zs k + x.f2.f0)))).frozen? ⟨w.heap.size + 1 + 1, 0, none⟩ = false := blk_frozen (blk_far (blk_below CK.out.hi BW.out) (p := ⟨w.heap.size + 1, 0, none⟩) (by simp) _) 0; have gr : (wq.setCell ⟨w.heap.size + 1, 0, none⟩ (.int .i64 (wrap64 (sumLo zs k + x.f2.f0)))).cell? ⟨W.heap.size, 5, none⟩ = some (.int .i64 x.f2.f1) := (blk_cell (blk_far RB.out (p := ⟨w.heap.size + 1, 0, none⟩) (by have := HW.out; have := HS.out; simp; omega) _) 5).trans rfl)) | (gi_at_call 91; (with_reducible refine (CallsIn.inRound l (demand_noI F _ h91 hro _ _)).mono ?_); rintro e w' ⟨rfl, rfl⟩) | (gi_at_call 91; (with_reducible refine (CallsIn.inRound l (demand_okI F _ h91 hro _ _)).mono ?_); rintro e w' ⟨rfl, rfl⟩))
              exact ⟨rfl, BW.out.size, fun j h1 h2 => BW.out.block j (by have := HW.out; have := WS.out; omega), rfl, ringsOk_mono zs (k + 1) _ (by simp [ringsOk, HX.out, HF.out]) HK.out, below_then CK.out.be CK.out.be.size BW.out⟩
            | true =>
              cases s3 : spanB x.f3.f0 x.f3.f1 0 10000 with
              | false =>
                have HF : Sd (ringB x = false) := ⟨by simp only [ringB, s0, s1, s2, s3, Bool.and_false, Bool.false_and, Bool.and_true, Bool.true_and]⟩
                gi_wp2_with (first | (gi_at_call 141; go_loud (refine (CallsIn.inRound l (spanI F _ h141 hro _ _ _ _ _)).mono ?_; (first | rw [s0] | rw [s1] | rw [s2] | rw [s3] | rw [s4]); rintro e wq ⟨rfl, hwq⟩; replace RB := Sd.mk (show wq.heap[W.heap.size]? = _ from by subst hwq; exact blk_alloc RB.out _); replace BW := Sd.mk (show Below Wb.heap.size Wb wq from by subst hwq; exact below_alloc BW.out _); clear hwq; have g0 : wq.cell? ⟨W.heap.size, 0, none⟩ = some (.int .i64 x.f0.f0) := (blk_cell RB.out 0).trans rfl; have g1 : wq.cell? ⟨W.heap.size, 0 + 1, none⟩ = some (.int .i64 x.f0.f1) := (blk_cell RB.out 1).trans rfl; have g2 : wq.cell? ⟨W.heap.size, 0 + 2, none⟩ = some (.int .i64 x.f1.f0) := (blk_cell RB.out 2).trans rfl; have g3 : wq.cell? ⟨W.heap.size, 0 + 3, none⟩ = some (.int .i64 x.f1.f1) := (blk_cell RB.out 3).trans rfl; have g4 : wq.cell? ⟨W.heap.size, 0 + 4, none⟩ = some (.int .i64 x.f2.f0) := (blk_cell RB.out 4).trans rfl; have g5 : wq.cell? ⟨W.heap.size, 0 + 5, none⟩ = some (.int .i64 x.f2.f1) := (blk_cell RB.out 5).trans rfl; have g6 : wq.cell? ⟨W.heap.size, 0 + 6, none⟩ = some (.int .i64 x.f3.f0) := (blk_cell RB.out 6).trans rfl; have g7 : wq.cell? ⟨W.heap.size, 0 + 7, none⟩ = some (.int .i64 x.f3.f1) := (blk_cell RB.out 7).trans rfl; have g8 : wq.cell? ⟨W.heap.size, 0 + 8, none⟩ = some (.int .i64 x.f4.f0) := (blk_cell RB.out 8).trans rfl; have g9 : wq.cell? ⟨W.heap.size, 0 + 9, none⟩ = some (.int .i64 x.f4.f1) := (blk_cell RB.out 9).trans rfl; have gl : wq.cell? ⟨w.heap.size + 1, 0, none⟩ = some (.int .i64 (sumLo zs k)) := (blk_cell (blk_below CK.out.lo BW.out) 0).trans rfl; have gl' := blk_frozen (blk_below CK.out.lo BW.out) 0; have gh : (wq.setCell ⟨w.heap.size + 1, 0, none⟩ (.int .i64 (wrap64 (sumLo zs k + x.f2.f0)))).cell? ⟨w.heap.size + 1 + 1, 0, none⟩ = some (.int .i64 (sumHi zs k)) := (blk_cell (blk_far (blk_below CK.out.hi BW.out) (p := ⟨w.heap.size + 1, 0, none⟩) (by simp) _) 0).trans rfl; have gh' : (wq.setCell ⟨w.heap.size + 1, 0, none⟩ (.int .i64 (wrap64 (sumLo zs k + x.f2.f0)))).frozen? ⟨w.heap.size + 1 + 1, 0, none⟩ = false := blk_frozen (blk_far (blk_below CK.out.hi BW.out) (p := ⟨w.heap.size + 1, 0, none⟩) (by simp) _) 0; have gr : (wq.setCell ⟨w.heap.size + 1, 0, none⟩ (.int .i64 (wrap64 (sumLo zs k + x.f2.f0)))).cell? ⟨W.heap.size, 5, none⟩ = some (.int .i64 x.f2.f1) := (blk_cell (blk_far RB.out (p := ⟨w.heap.size + 1, 0, none⟩) (by have := HW.out; have := HS.out; simp; omega) _) 5).trans rfl)) | (gi_at_call 91; (with_reducible refine (CallsIn.inRound l (demand_noI F _ h91 hro _ _)).mono ?_); rintro e w' ⟨rfl, rfl⟩) | (gi_at_call 91; (with_reducible refine (CallsIn.inRound l (demand_okI F _ h91 hro _ _)).mono ?_); rintro e w' ⟨rfl, rfl⟩))
                exact ⟨rfl, BW.out.size, fun j h1 h2 => BW.out.block j (by have := HW.out; have := WS.out; omega), rfl, ringsOk_mono zs (k + 1) _ (by simp [ringsOk, HX.out, HF.out]) HK.out, below_then CK.out.be CK.out.be.size BW.out⟩
              | true =>
                cases s4 : spanB x.f4.f0 x.f4.f1 0 10000 with
                | false =>
                  have HF : Sd (ringB x = false) := ⟨by simp only [ringB, s0, s1, s2, s3, s4, Bool.and_false, Bool.false_and, Bool.and_true, Bool.true_and]⟩
                  gi_wp2_with (first | (gi_at_call 141; go_loud (refine (CallsIn.inRound l (spanI F _ h141 hro _ _ _ _ _)).mono ?_; (first | rw [s0] | rw [s1] | rw [s2] | rw [s3] | rw [s4]); rintro e wq ⟨rfl, hwq⟩; replace RB := Sd.mk (show wq.heap[W.heap.size]? = _ from by subst hwq; exact blk_alloc RB.out _); replace BW := Sd.mk (show Below Wb.heap.size Wb wq from by subst hwq; exact below_alloc BW.out _); clear hwq; have g0 : wq.cell? ⟨W.heap.size, 0, none⟩ = some (.int .i64 x.f0.f0) := (blk_cell RB.out 0).trans rfl; have g1 : wq.cell? ⟨W.heap.size, 0 + 1, none⟩ = some (.int .i64 x.f0.f1) := (blk_cell RB.out 1).trans rfl; have g2 : wq.cell? ⟨W.heap.size, 0 + 2, none⟩ = some (.int .i64 x.f1.f0) := (blk_cell RB.out 2).trans rfl; have g3 : wq.cell? ⟨W.heap.size, 0 + 3, none⟩ = some (.int .i64 x.f1.f1) := (blk_cell RB.out 3).trans rfl; have g4 : wq.cell? ⟨W.heap.size, 0 + 4, none⟩ = some (.int .i64 x.f2.f0) := (blk_cell RB.out 4).trans rfl; have g5 : wq.cell? ⟨W.heap.size, 0 + 5, none⟩ = some (.int .i64 x.f2.f1) := (blk_cell RB.out 5).trans rfl; have g6 : wq.cell? ⟨W.heap.size, 0 + 6, none⟩ = some (.int .i64 x.f3.f0) := (blk_cell RB.out 6).trans rfl; have g7 : wq.cell? ⟨W.heap.size, 0 + 7, none⟩ = some (.int .i64 x.f3.f1) := (blk_cell RB.out 7).trans rfl; have g8 : wq.cell? ⟨W.heap.size, 0 + 8, none⟩ = some (.int .i64 x.f4.f0) := (blk_cell RB.out 8).trans rfl; have g9 : wq.cell? ⟨W.heap.size, 0 + 9, none⟩ = some (.int .i64 x.f4.f1) := (blk_cell RB.out 9).trans rfl; have gl : wq.cell? ⟨w.heap.size + 1, 0, none⟩ = some (.int .i64 (sumLo zs k)) := (blk_cell (blk_below CK.out.lo BW.out) 0).trans rfl; have gl' := blk_frozen (blk_below CK.out.lo BW.out) 0; have gh : (wq.setCell ⟨w.heap.size + 1, 0, none⟩ (.int .i64 (wrap64 (sumLo zs k + x.f2.f0)))).cell? ⟨w.heap.size + 1 + 1, 0, none⟩ = some (.int .i64 (sumHi zs k)) := (blk_cell (blk_far (blk_below CK.out.hi BW.out) (p := ⟨w.heap.size + 1, 0, none⟩) (by simp) _) 0).trans rfl; have gh' : (wq.setCell ⟨w.heap.size + 1, 0, none⟩ (.int .i64 (wrap64 (sumLo zs k + x.f2.f0)))).frozen? ⟨w.heap.size + 1 + 1, 0, none⟩ = false := blk_frozen (blk_far (blk_below CK.out.hi BW.out) (p := ⟨w.heap.size + 1, 0, none⟩) (by simp) _) 0; have gr : (wq.setCell ⟨w.heap.size + 1, 0, none⟩ (.int .i64 (wrap64 (sumLo zs k + x.f2.f0)))).cell? ⟨W.heap.size, 5, none⟩ = some (.int .i64 x.f2.f1) := (blk_cell (blk_far RB.out (p := ⟨w.heap.size + 1, 0, none⟩) (by have := HW.out; have := HS.out; simp; omega) _) 5).trans rfl)) | (gi_at_call 91; (with_reducible refine (CallsIn.inRound l (demand_noI F _ h91 hro _ _)).mono ?_); rintro e w' ⟨rfl, rfl⟩) | (gi_at_call 91; (with_reducible refine (CallsIn.inRound l (demand_okI F _ h91 hro _ _)).mono ?_); rintro e w' ⟨rfl, rfl⟩))
                  exact ⟨rfl, BW.out.size, fun j h1 h2 => BW.out.block j (by have := HW.out; have := WS.out; omega), rfl, ringsOk_mono zs (k + 1) _ (by simp [ringsOk, HX.out, HF.out]) HK.out, below_then CK.out.be CK.out.be.size BW.out⟩
                | true =>
                  have HT : Sd (ringB x = true) := ⟨by simp only [ringB, s0, s1, s2, s3, s4, Bool.and_true]⟩
                  gi_wp2_with (first | (gi_at_call 141; go_loud (refine (CallsIn.inRound l (spanI F _ h141 hro _ _ _ _ _)).mono ?_; (first | rw [s0] | rw [s1] | rw [s2] | rw [s3] | rw [s4]); rintro e wq ⟨rfl, hwq⟩; replace RB := Sd.mk (show wq.heap[W.heap.size]? = _ from by subst hwq; exact blk_alloc RB.out _); replace BW := Sd.mk (show Below Wb.heap.size Wb wq from by subst hwq; exact below_alloc BW.out _); clear hwq; have g0 : wq.cell? ⟨W.heap.size, 0, none⟩ = some (.int .i64 x.f0.f0) := (blk_cell RB.out 0).trans rfl; have g1 : wq.cell? ⟨W.heap.size, 0 + 1, none⟩ = some (.int .i64 x.f0.f1) := (blk_cell RB.out 1).trans rfl; have g2 : wq.cell? ⟨W.heap.size, 0 + 2, none⟩ = some (.int .i64 x.f1.f0) := (blk_cell RB.out 2).trans rfl; have g3 : wq.cell? ⟨W.heap.size, 0 + 3, none⟩ = some (.int .i64 x.f1.f1) := (blk_cell RB.out 3).trans rfl; have g4 : wq.cell? ⟨W.heap.size, 0 + 4, none⟩ = some (.int .i64 x.f2.f0) := (blk_cell RB.out 4).trans rfl; have g5 : wq.cell? ⟨W.heap.size, 0 + 5, none⟩ = some (.int .i64 x.f2.f1) := (blk_cell RB.out 5).trans rfl; have g6 : wq.cell? ⟨W.heap.size, 0 + 6, none⟩ = some (.int .i64 x.f3.f0) := (blk_cell RB.out 6).trans rfl; have g7 : wq.cell? ⟨W.heap.size, 0 + 7, none⟩ = some (.int .i64 x.f3.f1) := (blk_cell RB.out 7).trans rfl; have g8 : wq.cell? ⟨W.heap.size, 0 + 8, none⟩ = some (.int .i64 x.f4.f0) := (blk_cell RB.out 8).trans rfl; have g9 : wq.cell? ⟨W.heap.size, 0 + 9, none⟩ = some (.int .i64 x.f4.f1) := (blk_cell RB.out 9).trans rfl; have gl : wq.cell? ⟨w.heap.size + 1, 0, none⟩ = some (.int .i64 (sumLo zs k)) := (blk_cell (blk_below CK.out.lo BW.out) 0).trans rfl; have gl' := blk_frozen (blk_below CK.out.lo BW.out) 0; have gh : (wq.setCell ⟨w.heap.size + 1, 0, none⟩ (.int .i64 (wrap64 (sumLo zs k + x.f2.f0)))).cell? ⟨w.heap.size + 1 + 1, 0, none⟩ = some (.int .i64 (sumHi zs k)) := (blk_cell (blk_far (blk_below CK.out.hi BW.out) (p := ⟨w.heap.size + 1, 0, none⟩) (by simp) _) 0).trans rfl; have gh' : (wq.setCell ⟨w.heap.size + 1, 0, none⟩ (.int .i64 (wrap64 (sumLo zs k + x.f2.f0)))).frozen? ⟨w.heap.size + 1 + 1, 0, none⟩ = false := blk_frozen (blk_far (blk_below CK.out.hi BW.out) (p := ⟨w.heap.size + 1, 0, none⟩) (by simp) _) 0; have gr : (wq.setCell ⟨w.heap.size + 1, 0, none⟩ (.int .i64 (wrap64 (sumLo zs k + x.f2.f0)))).cell? ⟨W.heap.size, 5, none⟩ = some (.int .i64 x.f2.f1) := (blk_cell (blk_far RB.out (p := ⟨w.heap.size + 1, 0, none⟩) (by have := HW.out; have := HS.out; simp; omega) _) 5).trans rfl)) | (gi_at_call 91; (with_reducible refine (CallsIn.inRound l (demand_noI F _ h91 hro _ _)).mono ?_); rintro e w' ⟨rfl, rfl⟩) | (gi_at_call 91; (with_reducible refine (CallsIn.inRound l (demand_okI F _ h91 hro _ _)).mono ?_); rintro e w' ⟨rfl, rfl⟩))
                  have hk := HK.out
                  have hn24 := HN.out
                  have hsb := sum_bounds zs (k + 1) (by simp only [ringsOk, CK.out.ok, HX.out, HT.out, Bool.and_true])
                  have hlo : wrap64 (sumLo zs k + x.f2.f0) = sumLo zs (k + 1) := by simp only [sumLo, sumHi, HX.out] at hsb ⊢; unfold wrap64; omega
                  have hhi : wrap64 (sumHi zs k + x.f2.f1) = sumHi zs (k + 1) := by simp only [sumLo, sumHi, HX.out] at hsb ⊢; unfold wrap64; omega
                  rw [hlo, hhi]
                  refine ⟨by simpa using BW.out.size, fun j h1 h2 => ?_, ?_⟩
                  · refine ((grownBy_setCell' _ (w.heap.size + 1 + 1) _).block j (by simp; have := BW.out.size; have := HW.out; have := WS.out; omega) (by have := HS.out; simp; omega)).trans (((grownBy_setCell' _ (w.heap.size + 1) _).block j (by have := BW.out.size; have := HW.out; have := WS.out; omega) (by have := HS.out; simp; omega)).trans (BW.out.block j (by have := HW.out; have := WS.out; omega)))
                  · exact ⟨by simp only [ringsOk, CK.out.ok, HX.out, HT.out, Bool.and_true], blk_far (blk_far (blk_below CK.out.bx BW.out) (p := ⟨w.heap.size + 1, 0, none⟩) (by simp) _) (p := ⟨w.heap.size + 1 + 1, 0, none⟩) (by simp; omega) _, blk_far (blk_put (blk_below CK.out.lo BW.out) 0 _ rfl) (p := ⟨w.heap.size + 1 + 1, 0, none⟩) (by simp) _, blk_put (blk_far (blk_below CK.out.hi BW.out) (p := ⟨w.heap.size + 1, 0, none⟩) (by simp) _) 0 _ rfl, blk_far (blk_far (blk_below CK.out.rb BW.out) (p := ⟨w.heap.size + 1, 0, none⟩) (by simp; omega) _) (p := ⟨w.heap.size + 1 + 1, 0, none⟩) (by simp) _, below_set (below_set (below_then CK.out.be CK.out.be.size BW.out) (by omega)) (by omega)⟩
      case fn => exact fun _ => hfn
      case done =>
        clear b1 b2 b3 b4 hb
        intro W hI hD
        have HI := Sd.mk hI
        have HD := Sd.mk hD
        have HS := Sd.mk hsz
        clear hI hD hsz
        have g0 : W.cell? ⟨w.heap.size + 1, 0, none⟩ = some (.int .i64 (sumLo zs zs.length)) := (blk_cell HI.out.lo 0).trans rfl
        have g1 : W.cell? ⟨w.heap.size + 1 + 1, 0, none⟩ = some (.int .i64 (sumHi zs zs.length)) := (blk_cell HI.out.hi 0).trans rfl
        have g2 : W.cell? ⟨w.heap.size, 0 + 1, none⟩ = some (.int .i64 f1) := (blk_cell HI.out.bx 1).trans rfl
        have g3 : W.cell? ⟨w.heap.size, 0 + 2, none⟩ = some (.int .i64 f2) := (blk_cell HI.out.bx 2).trans rfl
        have HV1 : Sd (bottleV zs f1 f2 = if sumLo zs zs.length ≤ 1000 ∧ sumHi zs zs.length ≥ 1000 then (if inB f1 1 1000 = true ∧ inB f2 0 1000000000000000 = true then 0 else 1) else 12) := ⟨by rw [HV.out, if_pos HI.out.ok]⟩
        clear HV
        cases s1 : decide (sumLo zs zs.length ≤ 1000) with
        | false =>
          have HE : Sd (bottleV zs f1 f2 = 12) := ⟨by rw [HV1.out, if_neg (fun h => by have h1 := h.1; simp at s1; omega)]⟩
          clear HV1
          gi_wp2_with (first | (gi_at_call 91; (with_reducible refine (demand_noI F _ h91 hro _ _).mono ?_); rintro e w' ⟨rfl, rfl⟩) | (gi_at_call 91; (with_reducible refine (demand_okI F _ h91 hro _ _).mono ?_); rintro e w' ⟨rfl, rfl⟩) | (gi_at_call 92; (with_reducible refine (withinI F _ h92 hro _ _ _ _).mono ?_); (first | rw [s3] | rw [s4]); rintro e w' ⟨rfl, rfl⟩))
          refine ⟨by simp, .inl ⟨_, _, rfl, run_takeDeferred HD.out, ?_⟩⟩
          exact ⟨by rw [HE.out]; rfl, below_putObj HI.out.be (by have := HS.out; omega) (Array.getElem?_eq_some_iff.1 HD.out).1⟩
        | true =>
          cases s2 : decide (sumHi zs zs.length ≥ 1000) with
          | false =>
            have s2' : decide (1000 ≤ sumHi zs zs.length) = false := s2
            have HE : Sd (bottleV zs f1 f2 = 12) := ⟨by rw [HV1.out, if_neg (fun h => by have h1 := h.2; simp at s2; omega)]⟩
            clear HV1
            gi_wp2_with (first | (gi_at_call 91; (with_reducible refine (demand_noI F _ h91 hro _ _).mono ?_); rintro e w' ⟨rfl, rfl⟩) | (gi_at_call 91; (with_reducible refine (demand_okI F _ h91 hro _ _).mono ?_); rintro e w' ⟨rfl, rfl⟩) | (gi_at_call 92; (with_reducible refine (withinI F _ h92 hro _ _ _ _).mono ?_); (first | rw [s3] | rw [s4]); rintro e w' ⟨rfl, rfl⟩))
            refine ⟨by simp, .inl ⟨_, _, rfl, run_takeDeferred HD.out, ?_⟩⟩
            exact ⟨by rw [HE.out]; rfl, below_putObj HI.out.be (by have := HS.out; omega) (Array.getElem?_eq_some_iff.1 HD.out).1⟩
          | true =>
            have s2' : decide (1000 ≤ sumHi zs zs.length) = true := s2
            have HC : Sd (sumLo zs zs.length ≤ 1000 ∧ sumHi zs zs.length ≥ 1000) := ⟨⟨of_decide_eq_true s1, of_decide_eq_true s2⟩⟩
            cases s3 : inB f1 1 1000 with
            | false =>
              have HE : Sd (bottleV zs f1 f2 = 1) := ⟨by rw [HV1.out, if_pos HC.out, if_neg (fun h => by simp [s3] at h)]⟩
              clear HV1
              gi_wp2_with (first | (gi_at_call 91; (with_reducible refine (demand_noI F _ h91 hro _ _).mono ?_); rintro e w' ⟨rfl, rfl⟩) | (gi_at_call 91; (with_reducible refine (demand_okI F _ h91 hro _ _).mono ?_); rintro e w' ⟨rfl, rfl⟩) | (gi_at_call 92; (with_reducible refine (withinI F _ h92 hro _ _ _ _).mono ?_); (first | rw [s3] | rw [s4]); rintro e w' ⟨rfl, rfl⟩))
              refine ⟨by simp, .inl ⟨_, _, rfl, run_takeDeferred HD.out, ?_⟩⟩
              exact ⟨by rw [HE.out]; rfl, below_putObj HI.out.be (by have := HS.out; omega) (Array.getElem?_eq_some_iff.1 HD.out).1⟩
            | true =>
              cases s4 : inB f2 0 1000000000000000 with
              | false =>
                have HE : Sd (bottleV zs f1 f2 = 1) := ⟨by rw [HV1.out, if_pos HC.out, if_neg (fun h => by simp [s4] at h)]⟩
                clear HV1
                gi_wp2_with (first | (gi_at_call 91; (with_reducible refine (demand_noI F _ h91 hro _ _).mono ?_); rintro e w' ⟨rfl, rfl⟩) | (gi_at_call 91; (with_reducible refine (demand_okI F _ h91 hro _ _).mono ?_); rintro e w' ⟨rfl, rfl⟩) | (gi_at_call 92; (with_reducible refine (withinI F _ h92 hro _ _ _ _).mono ?_); (first | rw [s3] | rw [s4]); rintro e w' ⟨rfl, rfl⟩))
                refine ⟨by simp, .inl ⟨_, _, rfl, run_takeDeferred HD.out, ?_⟩⟩
                exact ⟨by rw [HE.out]; rfl, below_putObj HI.out.be (by have := HS.out; omega) (Array.getElem?_eq_some_iff.1 HD.out).1⟩
              | true =>
                have HE : Sd (bottleV zs f1 f2 = 0) := ⟨by rw [HV1.out, if_pos HC.out, if_pos ⟨s3, s4⟩]⟩
                clear HV1
                gi_wp2_with (first | (gi_at_call 91; (with_reducible refine (demand_noI F _ h91 hro _ _).mono ?_); rintro e w' ⟨rfl, rfl⟩) | (gi_at_call 91; (with_reducible refine (demand_okI F _ h91 hro _ _).mono ?_); rintro e w' ⟨rfl, rfl⟩) | (gi_at_call 92; (with_reducible refine (withinI F _ h92 hro _ _ _ _).mono ?_); (first | rw [s3] | rw [s4]); rintro e w' ⟨rfl, rfl⟩))
                refine ⟨by simp, .inl ⟨_, _, rfl, run_takeDeferred HD.out, ?_⟩⟩
                exact ⟨_, results_none rfl _ _ _, by rw [HE.out]; rfl, below_putObj HI.out.be (by have := HS.out; omega) (Array.getElem?_eq_some_iff.1 HD.out).1⟩
      case panic =>
        intro ch W hI hD
        obtain ⟨rfl, h2, h3⟩ := hI
        refine ⟨by simp, .inl ⟨_, _, rfl, run_takeDeferred hD, ?_⟩⟩
        exact ⟨by rw [HV.out, if_neg (by simp [h2])]; rfl, below_putObj h3 (by omega) (Array.getElem?_eq_some_iff.1 hD).1⟩
theorem bottle_calls (A : Option Addr) (c : Nat) (zs : List S170) (f1 f2 : Int) (w : World) (hr : Kd.C k170 w A zs.length zs) :
    Calls Try.prog 140 #[.agg #[.slice A zs.length c, .int .i64 f1, .int .i64 f2]] w fun en w' => en = endF (bottleV zs f1 f2) ∧ Below w.heap.size w w' :=
  (bottle_callsI Fc 9 (by simp [Fc]) (by simp [Fc]) (by simp [Fc]) (by simp [Fc]) (by simp [Fc]) (by simp [Fc]) rfl (fun g hg => by
    rcases hg with rfl | rfl | rfl | rfl | rfl | rfl
    · exact ⟨_, Try.func140⟩
    · exact ⟨_, Try.func91⟩
    · exact ⟨_, Try.func141⟩
    · exact ⟨_, Try.func142⟩
    · exact ⟨_, Try.func159⟩
    · exact ⟨_, Try.func92⟩) (by omega) A c zs f1 f2 w hr).calls (fun k d hd => by cases hd)
end Go.Proofs.Ytkjkokgbhepmoaa.PB

namespace Go.Proofs.Ytkjkokgbhepmoaa.PB
open Go.RowKit Go.Proofs.YtkjkokgbhepmoaaW.PrintWords Go.Proofs.YtkjkokgbhepmoaaW.PrintLast Go.Proofs.YtkjkokgbhepmoaaW.PrintMore
attribute [local go_sem] max2_int min2_int max_two min_two max_three min_three max_four min_four
def strength_down.f (a0 : Int) (a1 : Int) : Option (Int) := if a1 = 0 then (none) else (some (wrap64 (Int.tdiv a0 a1)))
set_option maxHeartbeats 8000000 in
set_option maxRecDepth 100000 in
theorem strength_down.calls (a0 : Int) (a1 : Int) (r : Int) (w : World) (h : strength_down.f a0 a1 = some r) :
  Calls Try.prog 160 #[.int .i64 a0, .int .i64 a1] w fun e w' => e = .returned (.int .i64 r) ∧ Drawn0 w w' := by
 have H : (if a1 = 0 then (none) else (some (wrap64 (Int.tdiv a0 a1)))) = some r := h
 clear h
 by_cases c3 : a1 = 0
 ·rw [if_pos c3] at H
  exact absurd H (by simp)
 ·rw [if_neg c3] at H
  have c3b0 : (a1 == 0) = false := beq_eq_false_iff_ne.mpr c3
  have c3b1 : (a1 != 0) = true := bne_iff_ne.mpr c3
  obtain rfl := Option.some.inj H
  go_enter Try.func160, Try.ntmps160
  go_wp2
  go_ret
  exact ⟨by first | rfl | (simp; done) | (simp [*]; done), by repeat (first | exact Drawn0.refl _ | apply Drawn0.step)⟩
end Go.Proofs.Ytkjkokgbhepmoaa.PB

namespace Go.Proofs.Ytkjkokgbhepmoaa.PB
open Go.RowKit Go.Proofs.YtkjkokgbhepmoaaW.PrintWords Go.Proofs.YtkjkokgbhepmoaaW.PrintLast Go.Proofs.YtkjkokgbhepmoaaW.PrintMore
attribute [local go_sem] max2_int min2_int max_two min_two max_three min_three max_four min_four
def strength_thickness.f (a0_0 : Int) (a0_1 : Int) (a0_2 : Int) (a0_3 : Int) (a0_4 : Int) (a0_5 : Int) (a0_6 : Int) (a0_7 : Int) (a0_8 : Int) (a0_9 : Int) (a1_0 : Int) (a1_1 : Int) : Option (Int × Int) := (strength_down.f (wrap64 ((wrap64 ((wrap64 (200 * a1_0)) * a0_4)) * 113)) (wrap64 ((wrap64 (355 * a0_1)) * a0_3))).bind fun t630 => ((strength_up.f (wrap64 ((wrap64 ((wrap64 (200 * a1_1)) * a0_5)) * 106)) (wrap64 ((wrap64 (333 * a0_0)) * a0_2))).bind fun t631 => (some (t630, t631)))
def strength_thickness.T1 : Bool × List (List Nat × List Nat) := (true, [([], []), ([0], [0]), ([1], [1]), ([], []), ([3], [3]), ([4], [4]), ([2, 5], [2, 5]), ([6], [6]), ([], []), ([8], [8]), ([9], [9]), ([10], [10]), ([], []), ([12], [12]), ([13], [13]), ([11, 14], [11, 14]), ([7, 15], [7, 15]), ([], []), ([17], [17]), ([18], [18]), ([], []), ([20], [20]), ([21], [21]), ([19, 22], [19, 22]), ([23], [23]), ([], []), ([25], [25]), ([26], [26]), ([27], [27]), ([], []), ([29], [29]), ([30], [30]), ([28, 31], [28, 31]), ([24, 32, 16], [24, 32]), ([16, 33], [16, 33]), ([34, 33, 0, 1, 2, 3, 4, 5, 6, 7, 8, 9, 10, 11, 12, 13, 14, 15, 16, 17, 18, 19, 20, 21, 22, 23, 24, 25, 26, 27, 28, 29, 30, 31, 32, 33, 34], [34])])
def strength_thickness.B1 : List Nat := [0, 1, 3, 0, 8, 24, 63, 127, 0, 256, 768, 1792, 0, 4096, 12288, 32512, 65535, 0, 131072, 393216, 0, 1048576, 3145728, 8257536, 16646144, 0, 33554432, 100663296, 234881024, 0, 536870912, 1610612736, 4261412864, 8589934591, 17179869183, 34359738367]
theorem strength_thickness.tab1 : rtab .any (opsOf Try.f143 1) = strength_thickness.T1 := by kernel_rfl
theorem strength_thickness.bits1 : waitsOk strength_thickness.T1.2 strength_thickness.B1 = true := by kernel_rfl
set_option maxHeartbeats 8000000 in
set_option maxRecDepth 100000 in
theorem strength_thickness.calls (a0_0 : Int) (a0_1 : Int) (a0_2 : Int) (a0_3 : Int) (a0_4 : Int) (a0_5 : Int) (a0_6 : Int) (a0_7 : Int) (a0_8 : Int) (a0_9 : Int) (a1_0 : Int) (a1_1 : Int) (r1 : Int) (r2 : Int) (w : World) (h : strength_thickness.f a0_0 a0_1 a0_2 a0_3 a0_4 a0_5 a0_6 a0_7 a0_8 a0_9 a1_0 a1_1 = some (r1, r2)) :
  Calls Try.prog 143 #[.agg #[.int .i64 a0_0, .int .i64 a0_1, .int .i64 a0_2, .int .i64 a0_3, .int .i64 a0_4, .int .i64 a0_5, .int .i64 a0_6, .int .i64 a0_7, .int .i64 a0_8, .int .i64 a0_9], .agg #[.int .i64 a1_0, .int .i64 a1_1]] w fun e w' => e = .returned (.agg #[.int .i64 r1, .int .i64 r2]) ∧ Below w.heap.size w w' := by
 have hu170 := Try.underlying170; have hu27 := Try.underlying27; have HB := Sd.mk (Below.refl w.heap.size w)
 have H : ((strength_down.f (wrap64 ((wrap64 ((wrap64 (200 * a1_0)) * a0_4)) * 113)) (wrap64 ((wrap64 (355 * a0_1)) * a0_3))).bind fun t630 => ((strength_up.f (wrap64 ((wrap64 ((wrap64 (200 * a1_1)) * a0_5)) * 106)) (wrap64 ((wrap64 (333 * a0_0)) * a0_2))).bind fun t631 => (some (t630, t631)))) = some (r1, r2) := h
 clear h; replace H := Option.bind_eq_some_iff.mp H; obtain ⟨t630, A30, H⟩ := H
 try dsimp only at H
 have A3 := Sd.mk A30; clear A30; replace H := Option.bind_eq_some_iff.mp H; obtain ⟨t631, A40, H⟩ := H
 try dsimp only at H
 have A4 := Sd.mk A40; clear A40
 simp only [Option.some.injEq, Prod.mk.injEq] at H
 obtain ⟨rfl, rfl⟩ := H
 go_enter Try.func143, Try.ntmps143
 try go_wp2_with (first | ((with_reducible refine gate_dst (N := 2) rfl ?_); refine box_event ?hg (N := 2) ?hd (cs := #[.int .i64 a0_0, .int .i64 a0_1, .int .i64 a0_2, .int .i64 a0_3, .int .i64 a0_4, .int .i64 a0_5, .int .i64 a0_6, .int .i64 a0_7, .int .i64 a0_8, .int .i64 a0_9]) (t := 170) ?hr ?_; (case hd => rfl); (case hg => rfl); (case hr => exact tG); intro gb627 hg w5 hbox hb; have BK627 := Sd.mk (hbox); have GW627 := Sd.mk (bSz hg (bBl HB.out)); have GE627 := Sd.mk (bSz hg (bBl HB.out)); replace HB := Sd.mk (below_step (bBl HB.out) hb); clear hb hbox hg) | ((with_reducible refine gate_dst (N := 3) rfl ?_); refine box_event ?hg (N := 3) ?hd (cs := #[.int .i64 a1_0, .int .i64 a1_1]) (t := 27) ?hr ?_; (case hd => rfl); (case hg => rfl); (case hr => exact tG); intro gb628 hg w6 hbox hb; have BK628 := Sd.mk (hbox); have GW628 := Sd.mk (bSz hg (bBl HB.out)); have GE628 := Sd.mk (bSz hg (bBl HB.out)); replace HB := Sd.mk (below_step (bBl HB.out) hb); have NB627_628 := Sd.mk (bNl hg (bkA BK627.out)); have NB628_627 := Sd.mk (bNg hg (bkA BK627.out)); replace BK627 := Sd.mk (blk_below (bkA BK627.out) hb); clear hb hbox hg) | ((with_reducible refine gate_dst (N := 4) rfl ?_); refine box_event ?hg (N := 4) ?hd (cs := #[.int .i64 0, .int .i64 0]) (t := 27) ?hr ?_; (case hd => rfl); (case hg => rfl); (case hr => exact tG); intro gb629 hg w7 hbox hb; have BK629 := Sd.mk (hbox); have GW629 := Sd.mk (bSz hg (bBl HB.out)); have GE629 := Sd.mk (bSz hg (bBl HB.out)); replace HB := Sd.mk (below_step (bBl HB.out) hb); have NB627_629 := Sd.mk (bNl hg (bkA BK627.out)); have NB629_627 := Sd.mk (bNg hg (bkA BK627.out)); replace BK627 := Sd.mk (blk_below (bkA BK627.out) hb); have NB628_629 := Sd.mk (bNl hg (bkA BK628.out)); have NB629_628 := Sd.mk (bNg hg (bkA BK628.out)); replace BK628 := Sd.mk (blk_below (bkA BK628.out) hb); clear hb hbox hg))
 replace BK627 := Sd.mk (blk_drew BK627.out); replace BK628 := Sd.mk (blk_drew BK628.out); replace BK629 := Sd.mk (blk_drew BK629.out); replace HB := Sd.mk (below_drew1 HB.out)
 refine start_ (n := 36) (S := fun w' => w'.cell? ⟨gb628, 0, none⟩ = some (.int .i64 a1_0) ∧ w'.cell? ⟨gb628, 1, none⟩ = some (.int .i64 a1_1) ∧ w'.cell? ⟨gb627, 0, none⟩ = some (.int .i64 a0_0) ∧ w'.cell? ⟨gb627, 1, none⟩ = some (.int .i64 a0_1) ∧ w'.cell? ⟨gb627, 2, none⟩ = some (.int .i64 a0_2) ∧ w'.cell? ⟨gb627, 3, none⟩ = some (.int .i64 a0_3) ∧ w'.cell? ⟨gb627, 4, none⟩ = some (.int .i64 a0_4) ∧ w'.cell? ⟨gb627, 5, none⟩ = some (.int .i64 a0_5) ∧ w'.cell? ⟨gb627, 6, none⟩ = some (.int .i64 a0_6) ∧ w'.cell? ⟨gb627, 7, none⟩ = some (.int .i64 a0_7) ∧ w'.cell? ⟨gb627, 8, none⟩ = some (.int .i64 a0_8) ∧ w'.cell? ⟨gb627, 9, none⟩ = some (.int .i64 a0_9)) (ds := []) #[false, false, false, false, false, false, false, false, false, false, false, false, false, false, false, false, false, false, false, false, false, false, false, false, false, false, false, false, false, false, false, false, false, false, false, false] (by kernel_rfl) rfl rfl ⟨(blk_cell BK628.out 0).trans rfl, (blk_cell BK628.out 1).trans rfl, (blk_cell BK627.out 0).trans rfl, (blk_cell BK627.out 1).trans rfl, (blk_cell BK627.out 2).trans rfl, (blk_cell BK627.out 3).trans rfl, (blk_cell BK627.out 4).trans rfl, (blk_cell BK627.out 5).trans rfl, (blk_cell BK627.out 6).trans rfl, (blk_cell BK627.out 7).trans rfl, (blk_cell BK627.out 8).trans rfl, (blk_cell BK627.out 9).trans rfl⟩ (fun hHeld => ?_); refine with_tabW strength_thickness.tab1 strength_thickness.bits1 (fun HT_ HW_ => ?_)
 generalize w7.drew = w8 at BK627 BK628 BK629 HB hHeld ⊢
 refine pure_ (i := 0) (N := some 5) (v := ?_) (a' := ?_) #[true, false, false, false, false, false, false, false, false, false, false, false, false, false, false, false, false, false, false, false, false, false, false, false, false, false, false, false, false, false, false, false, false, false, false, false] rfl rfl (any_of HT_.out (by kernel_rfl)) (fun _ _ _ h => h) (Or.inl ⟨by rfl, ?_⟩) ?_ ?_
 rotate_left
 ·exact tW
 rotate_left
 ·exact tP
 refine pure_ (i := 3) (N := some 8) (v := ?_) (a' := ?_) #[true, false, false, true, false, false, false, false, false, false, false, false, false, false, false, false, false, false, false, false, false, false, false, false, false, false, false, false, false, false, false, false, false, false, false, false] rfl rfl (any_of HT_.out (by kernel_rfl)) (fun _ _ _ h => h) (Or.inl ⟨by rfl, ?_⟩) ?_ ?_
 rotate_left
 ·exact tW
 rotate_left
 ·exact tP
 refine pure_ (i := 4) (N := some 9) (v := ?_) (a' := ?_) #[true, false, false, true, true, false, false, false, false, false, false, false, false, false, false, false, false, false, false, false, false, false, false, false, false, false, false, false, false, false, false, false, false, false, false, false] rfl rfl (any_of HT_.out (by kernel_rfl)) (fun _ _ _ h => h) (Or.inl ⟨by rfl, ?_⟩) ?_ ?_
 rotate_left
 ·exact tW
 rotate_left
 ·exact tP
 refine pure_ (i := 8) (N := some 13) (v := ?_) (a' := ?_) #[true, false, false, true, true, false, false, false, true, false, false, false, false, false, false, false, false, false, false, false, false, false, false, false, false, false, false, false, false, false, false, false, false, false, false, false] rfl rfl (any_of HT_.out (by kernel_rfl)) (fun _ _ _ h => h) (Or.inl ⟨by rfl, ?_⟩) ?_ ?_
 rotate_left
 ·exact tW
 rotate_left
 ·exact tP
 refine pure_ (i := 9) (N := some 14) (v := ?_) (a' := ?_) #[true, false, false, true, true, false, false, false, true, true, false, false, false, false, false, false, false, false, false, false, false, false, false, false, false, false, false, false, false, false, false, false, false, false, false, false] rfl rfl (any_of HT_.out (by kernel_rfl)) (fun _ _ _ h => h) (Or.inl ⟨by rfl, ?_⟩) ?_ ?_
 rotate_left
 ·exact tW
 rotate_left
 ·exact tP
 refine pure_ (i := 12) (N := some 17) (v := ?_) (a' := ?_) #[true, false, false, true, true, false, false, false, true, true, false, false, true, false, false, false, false, false, false, false, false, false, false, false, false, false, false, false, false, false, false, false, false, false, false, false] rfl rfl (any_of HT_.out (by kernel_rfl)) (fun _ _ _ h => h) (Or.inl ⟨by rfl, ?_⟩) ?_ ?_
 rotate_left
 ·exact tW
 rotate_left
 ·exact tP
 refine pure_ (i := 13) (N := some 18) (v := ?_) (a' := ?_) #[true, false, false, true, true, false, false, false, true, true, false, false, true, true, false, false, false, false, false, false, false, false, false, false, false, false, false, false, false, false, false, false, false, false, false, false] rfl rfl (any_of HT_.out (by kernel_rfl)) (fun _ _ _ h => h) (Or.inl ⟨by rfl, ?_⟩) ?_ ?_
 rotate_left
 ·exact tW
 rotate_left
 ·exact tP
 refine pure_ (i := 17) (N := some 22) (v := ?_) (a' := ?_) #[true, false, false, true, true, false, false, false, true, true, false, false, true, true, false, false, false, true, false, false, false, false, false, false, false, false, false, false, false, false, false, false, false, false, false, false] rfl rfl (any_of HT_.out (by kernel_rfl)) (fun _ _ _ h => h) (Or.inl ⟨by rfl, ?_⟩) ?_ ?_
 rotate_left
 ·exact tW
 rotate_left
 ·exact tP
 refine pure_ (i := 20) (N := some 25) (v := ?_) (a' := ?_) #[true, false, false, true, true, false, false, false, true, true, false, false, true, true, false, false, false, true, false, false, true, false, false, false, false, false, false, false, false, false, false, false, false, false, false, false] rfl rfl (any_of HT_.out (by kernel_rfl)) (fun _ _ _ h => h) (Or.inl ⟨by rfl, ?_⟩) ?_ ?_
 rotate_left
 ·exact tW
 rotate_left
 ·exact tP
 refine pure_ (i := 21) (N := some 26) (v := ?_) (a' := ?_) #[true, false, false, true, true, false, false, false, true, true, false, false, true, true, false, false, false, true, false, false, true, true, false, false, false, false, false, false, false, false, false, false, false, false, false, false] rfl rfl (any_of HT_.out (by kernel_rfl)) (fun _ _ _ h => h) (Or.inl ⟨by rfl, ?_⟩) ?_ ?_
 rotate_left
 ·exact tW
 rotate_left
 ·exact tP
 refine pure_ (i := 25) (N := some 30) (v := ?_) (a' := ?_) #[true, false, false, true, true, false, false, false, true, true, false, false, true, true, false, false, false, true, false, false, true, true, false, false, false, true, false, false, false, false, false, false, false, false, false, false] rfl rfl (any_of HT_.out (by kernel_rfl)) (fun _ _ _ h => h) (Or.inl ⟨by rfl, ?_⟩) ?_ ?_
 rotate_left
 ·exact tW
 rotate_left
 ·exact tP
 refine pure_ (i := 26) (N := some 31) (v := ?_) (a' := ?_) #[true, false, false, true, true, false, false, false, true, true, false, false, true, true, false, false, false, true, false, false, true, true, false, false, false, true, true, false, false, false, false, false, false, false, false, false] rfl rfl (any_of HT_.out (by kernel_rfl)) (fun _ _ _ h => h) (Or.inl ⟨by rfl, ?_⟩) ?_ ?_
 rotate_left
 ·exact tW
 rotate_left
 ·exact tP
 refine pure_ (i := 29) (N := some 34) (v := ?_) (a' := ?_) #[true, false, false, true, true, false, false, false, true, true, false, false, true, true, false, false, false, true, false, false, true, true, false, false, false, true, true, false, false, true, false, false, false, false, false, false] rfl rfl (any_of HT_.out (by kernel_rfl)) (fun _ _ _ h => h) (Or.inl ⟨by rfl, ?_⟩) ?_ ?_
 rotate_left
 ·exact tW
 rotate_left
 ·exact tP
 refine pure_ (i := 30) (N := some 35) (v := ?_) (a' := ?_) #[true, false, false, true, true, false, false, false, true, true, false, false, true, true, false, false, false, true, false, false, true, true, false, false, false, true, true, false, false, true, true, false, false, false, false, false] rfl rfl (any_of HT_.out (by kernel_rfl)) (fun _ _ _ h => h) (Or.inl ⟨by rfl, ?_⟩) ?_ ?_
 rotate_left
 ·exact tW
 rotate_left
 ·exact tP
 refine take_ (i := 1) (N := some 6) (v := ?_) (a' := ?_) #[true, true, false, true, true, false, false, false, true, true, false, false, true, true, false, false, false, true, false, false, true, true, false, false, false, true, true, false, false, true, true, false, false, false, false, false] rfl rfl (take_ofW HT_.out HW_.out (by kernel_rfl)) (fun _ _ _ h => h) (Or.inl ⟨by rfl, ?_⟩) hHeld ?_ ?_
 rotate_left
 ·rintro w' ⟨s0, s1, s2, s3, s4, s5, s6, s7, s8, s9, s10, s11⟩
  go_simp
  with_reducible rfl
 rotate_left
 ·exact tP
 refine pure_ (i := 2) (N := some 7) (v := ?_) (a' := ?_) #[true, true, true, true, true, false, false, false, true, true, false, false, true, true, false, false, false, true, false, false, true, true, false, false, false, true, true, false, false, true, true, false, false, false, false, false] rfl rfl (any_of HT_.out (by kernel_rfl)) (fun _ _ _ h => h) (Or.inl ⟨by rfl, ?_⟩) ?_ ?_
 rotate_left
 ·exact tW
 rotate_left
 ·exact tP
 refine take_ (i := 5) (N := some 10) (v := ?_) (a' := ?_) #[true, true, true, true, true, true, false, false, true, true, false, false, true, true, false, false, false, true, false, false, true, true, false, false, false, true, true, false, false, true, true, false, false, false, false, false] rfl rfl (take_ofW HT_.out HW_.out (by kernel_rfl)) (fun _ _ _ h => h) (Or.inl ⟨by rfl, ?_⟩) hHeld ?_ ?_
 rotate_left
 ·rintro w' ⟨s0, s1, s2, s3, s4, s5, s6, s7, s8, s9, s10, s11⟩
  go_simp
  with_reducible rfl
 rotate_left
 ·exact tP
 refine pure_ (i := 6) (N := some 11) (v := ?_) (a' := ?_) #[true, true, true, true, true, true, true, false, true, true, false, false, true, true, false, false, false, true, false, false, true, true, false, false, false, true, true, false, false, true, true, false, false, false, false, false] rfl rfl (any_of HT_.out (by kernel_rfl)) (fun _ _ _ h => h) (Or.inl ⟨by rfl, ?_⟩) ?_ ?_
 rotate_left
 ·exact tW
 rotate_left
 ·exact tP
 refine pure_ (i := 7) (N := some 12) (v := ?_) (a' := ?_) #[true, true, true, true, true, true, true, true, true, true, false, false, true, true, false, false, false, true, false, false, true, true, false, false, false, true, true, false, false, true, true, false, false, false, false, false] rfl rfl (any_of HT_.out (by kernel_rfl)) (fun _ _ _ h => h) (Or.inl ⟨by rfl, ?_⟩) ?_ ?_
 rotate_left
 ·exact tW
 rotate_left
 ·exact tP
 refine take_ (i := 10) (N := some 15) (v := ?_) (a' := ?_) #[true, true, true, true, true, true, true, true, true, true, true, false, true, true, false, false, false, true, false, false, true, true, false, false, false, true, true, false, false, true, true, false, false, false, false, false] rfl rfl (take_ofW HT_.out HW_.out (by kernel_rfl)) (fun _ _ _ h => h) (Or.inl ⟨by rfl, ?_⟩) hHeld ?_ ?_
 rotate_left
 ·rintro w' ⟨s0, s1, s2, s3, s4, s5, s6, s7, s8, s9, s10, s11⟩
  go_simp
  with_reducible rfl
 rotate_left
 ·exact tP
 refine pure_ (i := 11) (N := some 16) (v := ?_) (a' := ?_) #[true, true, true, true, true, true, true, true, true, true, true, true, true, true, false, false, false, true, false, false, true, true, false, false, false, true, true, false, false, true, true, false, false, false, false, false] rfl rfl (any_of HT_.out (by kernel_rfl)) (fun _ _ _ h => h) (Or.inl ⟨by rfl, ?_⟩) ?_ ?_
 rotate_left
 ·exact tW
 rotate_left
 ·exact tP
 refine take_ (i := 14) (N := some 19) (v := ?_) (a' := ?_) #[true, true, true, true, true, true, true, true, true, true, true, true, true, true, true, false, false, true, false, false, true, true, false, false, false, true, true, false, false, true, true, false, false, false, false, false] rfl rfl (take_ofW HT_.out HW_.out (by kernel_rfl)) (fun _ _ _ h => h) (Or.inl ⟨by rfl, ?_⟩) hHeld ?_ ?_
 rotate_left
 ·rintro w' ⟨s0, s1, s2, s3, s4, s5, s6, s7, s8, s9, s10, s11⟩
  go_simp
  with_reducible rfl
 rotate_left
 ·exact tP
 refine pure_ (i := 15) (N := some 20) (v := ?_) (a' := ?_) #[true, true, true, true, true, true, true, true, true, true, true, true, true, true, true, true, false, true, false, false, true, true, false, false, false, true, true, false, false, true, true, false, false, false, false, false] rfl rfl (any_of HT_.out (by kernel_rfl)) (fun _ _ _ h => h) (Or.inl ⟨by rfl, ?_⟩) ?_ ?_
 rotate_left
 ·exact tW
 rotate_left
 ·exact tP
 refine take_ (i := 18) (N := some 23) (v := ?_) (a' := ?_) #[true, true, true, true, true, true, true, true, true, true, true, true, true, true, true, true, false, true, true, false, true, true, false, false, false, true, true, false, false, true, true, false, false, false, false, false] rfl rfl (take_ofW HT_.out HW_.out (by kernel_rfl)) (fun _ _ _ h => h) (Or.inl ⟨by rfl, ?_⟩) hHeld ?_ ?_
 rotate_left
 ·rintro w' ⟨s0, s1, s2, s3, s4, s5, s6, s7, s8, s9, s10, s11⟩
  go_simp
  with_reducible rfl
 rotate_left
 ·exact tP
 refine pure_ (i := 19) (N := some 24) (v := ?_) (a' := ?_) #[true, true, true, true, true, true, true, true, true, true, true, true, true, true, true, true, false, true, true, true, true, true, false, false, false, true, true, false, false, true, true, false, false, false, false, false] rfl rfl (any_of HT_.out (by kernel_rfl)) (fun _ _ _ h => h) (Or.inl ⟨by rfl, ?_⟩) ?_ ?_
 rotate_left
 ·exact tW
 rotate_left
 ·exact tP
 refine take_ (i := 22) (N := some 27) (v := ?_) (a' := ?_) #[true, true, true, true, true, true, true, true, true, true, true, true, true, true, true, true, false, true, true, true, true, true, true, false, false, true, true, false, false, true, true, false, false, false, false, false] rfl rfl (take_ofW HT_.out HW_.out (by kernel_rfl)) (fun _ _ _ h => h) (Or.inl ⟨by rfl, ?_⟩) hHeld ?_ ?_
 rotate_left
 ·rintro w' ⟨s0, s1, s2, s3, s4, s5, s6, s7, s8, s9, s10, s11⟩
  go_simp
  with_reducible rfl
 rotate_left
 ·exact tP
 refine pure_ (i := 23) (N := some 28) (v := ?_) (a' := ?_) #[true, true, true, true, true, true, true, true, true, true, true, true, true, true, true, true, false, true, true, true, true, true, true, true, false, true, true, false, false, true, true, false, false, false, false, false] rfl rfl (any_of HT_.out (by kernel_rfl)) (fun _ _ _ h => h) (Or.inl ⟨by rfl, ?_⟩) ?_ ?_
 rotate_left
 ·exact tW
 rotate_left
 ·exact tP
 refine pure_ (i := 24) (N := some 29) (v := ?_) (a' := ?_) #[true, true, true, true, true, true, true, true, true, true, true, true, true, true, true, true, false, true, true, true, true, true, true, true, true, true, true, false, false, true, true, false, false, false, false, false] rfl rfl (any_of HT_.out (by kernel_rfl)) (fun _ _ _ h => h) (Or.inl ⟨by rfl, ?_⟩) ?_ ?_
 rotate_left
 ·exact tW
 rotate_left
 ·exact tP
 refine take_ (i := 27) (N := some 32) (v := ?_) (a' := ?_) #[true, true, true, true, true, true, true, true, true, true, true, true, true, true, true, true, false, true, true, true, true, true, true, true, true, true, true, true, false, true, true, false, false, false, false, false] rfl rfl (take_ofW HT_.out HW_.out (by kernel_rfl)) (fun _ _ _ h => h) (Or.inl ⟨by rfl, ?_⟩) hHeld ?_ ?_
 rotate_left
 ·rintro w' ⟨s0, s1, s2, s3, s4, s5, s6, s7, s8, s9, s10, s11⟩
  go_simp
  with_reducible rfl
 rotate_left
 ·exact tP
 refine pure_ (i := 28) (N := some 33) (v := ?_) (a' := ?_) #[true, true, true, true, true, true, true, true, true, true, true, true, true, true, true, true, false, true, true, true, true, true, true, true, true, true, true, true, true, true, true, false, false, false, false, false] rfl rfl (any_of HT_.out (by kernel_rfl)) (fun _ _ _ h => h) (Or.inl ⟨by rfl, ?_⟩) ?_ ?_
 rotate_left
 ·exact tW
 rotate_left
 ·exact tP
 refine take_ (i := 31) (N := some 36) (v := ?_) (a' := ?_) #[true, true, true, true, true, true, true, true, true, true, true, true, true, true, true, true, false, true, true, true, true, true, true, true, true, true, true, true, true, true, true, true, false, false, false, false] rfl rfl (take_ofW HT_.out HW_.out (by kernel_rfl)) (fun _ _ _ h => h) (Or.inl ⟨by rfl, ?_⟩) hHeld ?_ ?_
 rotate_left
 ·rintro w' ⟨s0, s1, s2, s3, s4, s5, s6, s7, s8, s9, s10, s11⟩
  go_simp
  with_reducible rfl
 rotate_left
 ·exact tP
 refine pure_ (i := 32) (N := some 37) (v := ?_) (a' := ?_) #[true, true, true, true, true, true, true, true, true, true, true, true, true, true, true, true, false, true, true, true, true, true, true, true, true, true, true, true, true, true, true, true, true, false, false, false] rfl rfl (any_of HT_.out (by kernel_rfl)) (fun _ _ _ h => h) (Or.inl ⟨by rfl, ?_⟩) ?_ ?_
 rotate_left
 ·exact tW
 rotate_left
 ·exact tP
 refine one_ (i := 16) (N := some 21) #[true, true, true, true, true, true, true, true, true, true, true, true, true, true, true, true, true, true, true, true, true, true, true, true, true, true, true, true, true, true, true, true, true, false, false, false] rfl rfl (one_of HT_.out (by kernel_rfl)) (by decide) (fun K hK => ?_)
 refine goes_ Try.func160 (by kernel_rfl) rfl #[.int .i64 (wrap64 ((wrap64 ((wrap64 (200 * a1_0)) * a0_4)) * 113)), .int .i64 (wrap64 ((wrap64 (355 * a0_1)) * a0_3))] (by rfl) rfl rfl tM ?_
 with_reducible refine (strength_down.calls (wrap64 ((wrap64 ((wrap64 (200 * a1_0)) * a0_4)) * 113)) (wrap64 ((wrap64 (355 * a0_1)) * a0_3)) t630 _ A3.out).mono ?_
 rintro e w' ⟨rfl, ⟨nd, rfl⟩⟩
 refine ⟨_, rfl, ?_⟩
 refine hK.out _ _ ⟨(blk_cell BK628.out 0).trans rfl, (blk_cell BK628.out 1).trans rfl, (blk_cell BK627.out 0).trans rfl, (blk_cell BK627.out 1).trans rfl, (blk_cell BK627.out 2).trans rfl, (blk_cell BK627.out 3).trans rfl, (blk_cell BK627.out 4).trans rfl, (blk_cell BK627.out 5).trans rfl, (blk_cell BK627.out 6).trans rfl, (blk_cell BK627.out 7).trans rfl, (blk_cell BK627.out 8).trans rfl, (blk_cell BK627.out 9).trans rfl⟩ (fun hHeld => ?_)
 clear hK K
 refine norm_ (a' := ?_) ?_ ?_
 rotate_left
 ·show Act.put _ (some 21) _ = _
  exact tP
 refine one_ (i := 33) (N := some 38) #[true, true, true, true, true, true, true, true, true, true, true, true, true, true, true, true, true, true, true, true, true, true, true, true, true, true, true, true, true, true, true, true, true, true, false, false] rfl rfl (one_of HT_.out (by kernel_rfl)) (by decide) (fun K hK => ?_)
 refine goes_ Try.func145 (by kernel_rfl) rfl #[.int .i64 (wrap64 ((wrap64 ((wrap64 (200 * a1_1)) * a0_5)) * 106)), .int .i64 (wrap64 ((wrap64 (333 * a0_0)) * a0_2))] (by rfl) rfl rfl tM ?_
 with_reducible refine (strength_up.calls (wrap64 ((wrap64 ((wrap64 (200 * a1_1)) * a0_5)) * 106)) (wrap64 ((wrap64 (333 * a0_0)) * a0_2)) t631 _ A4.out).mono ?_
 rintro e w' ⟨rfl, ⟨nd, rfl⟩⟩
 refine ⟨_, rfl, ?_⟩
 refine hK.out _ _ ⟨(blk_cell BK628.out 0).trans rfl, (blk_cell BK628.out 1).trans rfl, (blk_cell BK627.out 0).trans rfl, (blk_cell BK627.out 1).trans rfl, (blk_cell BK627.out 2).trans rfl, (blk_cell BK627.out 3).trans rfl, (blk_cell BK627.out 4).trans rfl, (blk_cell BK627.out 5).trans rfl, (blk_cell BK627.out 6).trans rfl, (blk_cell BK627.out 7).trans rfl, (blk_cell BK627.out 8).trans rfl, (blk_cell BK627.out 9).trans rfl⟩ (fun hHeld => ?_)
 clear hK K
 refine norm_ (a' := ?_) ?_ ?_
 rotate_left
 ·show Act.put _ (some 38) _ = _
  exact tP
 refine pure_ (i := 34) (N := some 39) (v := ?_) (a' := ?_) #[true, true, true, true, true, true, true, true, true, true, true, true, true, true, true, true, true, true, true, true, true, true, true, true, true, true, true, true, true, true, true, true, true, true, true, false] rfl rfl (any_of HT_.out (by kernel_rfl)) (fun _ _ _ h => h) (Or.inl ⟨by rfl, ?_⟩) ?_ ?_
 rotate_left
 ·exact tW
 rotate_left
 ·exact tP
 refine one_ (i := 35) (N := none) #[true, true, true, true, true, true, true, true, true, true, true, true, true, true, true, true, true, true, true, true, true, true, true, true, true, true, true, true, true, true, true, true, true, true, true, true] rfl rfl (one_of HT_.out (by kernel_rfl)) (by decide) (fun K hK => ?_)
 have hs9 : w8.cell? ⟨gb629, 0, none⟩ = some (.int .i64 0) := (blk_cell BK629.out 0).trans rfl
 have hfs9 := blk_frozen BK629.out 0; have hns9_0 := NB627_629.out; have hns9_1 := NB628_629.out; have hms9_0 := NB629_627.out; have hms9_1 := NB629_628.out
 have hs10 : w8.cell? ⟨gb629, 1, none⟩ = some (.int .i64 0) := (blk_cell BK629.out 1).trans rfl
 have hfs10 := blk_frozen BK629.out 1; have hns10_0 := NB627_629.out; have hns10_1 := NB628_629.out; have hms10_0 := NB629_627.out; have hms10_1 := NB629_628.out
 refine skip_ (w1 := ?_) (by rfl) rfl ?_ ?_
 rotate_left
 ·go_simp
  rfl
 refine hK.out _ _ ⟨((cell_far (p := ⟨gb629, _, none⟩) NB628_629.out _).trans (((cell_far (p := ⟨gb629, _, none⟩) NB628_629.out _).trans (hHeld.1)))), ((cell_far (p := ⟨gb629, _, none⟩) NB628_629.out _).trans (((cell_far (p := ⟨gb629, _, none⟩) NB628_629.out _).trans (hHeld.2.1)))), ((cell_far (p := ⟨gb629, _, none⟩) NB627_629.out _).trans (((cell_far (p := ⟨gb629, _, none⟩) NB627_629.out _).trans (hHeld.2.2.1)))), ((cell_far (p := ⟨gb629, _, none⟩) NB627_629.out _).trans (((cell_far (p := ⟨gb629, _, none⟩) NB627_629.out _).trans (hHeld.2.2.2.1)))), ((cell_far (p := ⟨gb629, _, none⟩) NB627_629.out _).trans (((cell_far (p := ⟨gb629, _, none⟩) NB627_629.out _).trans (hHeld.2.2.2.2.1)))), ((cell_far (p := ⟨gb629, _, none⟩) NB627_629.out _).trans (((cell_far (p := ⟨gb629, _, none⟩) NB627_629.out _).trans (hHeld.2.2.2.2.2.1)))), ((cell_far (p := ⟨gb629, _, none⟩) NB627_629.out _).trans (((cell_far (p := ⟨gb629, _, none⟩) NB627_629.out _).trans (hHeld.2.2.2.2.2.2.1)))), ((cell_far (p := ⟨gb629, _, none⟩) NB627_629.out _).trans (((cell_far (p := ⟨gb629, _, none⟩) NB627_629.out _).trans (hHeld.2.2.2.2.2.2.2.1)))), ((cell_far (p := ⟨gb629, _, none⟩) NB627_629.out _).trans (((cell_far (p := ⟨gb629, _, none⟩) NB627_629.out _).trans (hHeld.2.2.2.2.2.2.2.2.1)))), ((cell_far (p := ⟨gb629, _, none⟩) NB627_629.out _).trans (((cell_far (p := ⟨gb629, _, none⟩) NB627_629.out _).trans (hHeld.2.2.2.2.2.2.2.2.2.1)))), ((cell_far (p := ⟨gb629, _, none⟩) NB627_629.out _).trans (((cell_far (p := ⟨gb629, _, none⟩) NB627_629.out _).trans (hHeld.2.2.2.2.2.2.2.2.2.2.1)))), ((cell_far (p := ⟨gb629, _, none⟩) NB627_629.out _).trans (((cell_far (p := ⟨gb629, _, none⟩) NB627_629.out _).trans (hHeld.2.2.2.2.2.2.2.2.2.2.2))))⟩ (fun hHeld => ?_)
 clear hK K
 refine done_ (done_of HT_.out (by kernel_rfl)) ?_
 try go_wp2
 refine bodyPost_ret (results_cell_row rfl _ _ gb629 27 #[.int .i64 t630, .int .i64 t631] (0, 0) _ rfl (by (with_reducible repeat (first | refine blk_drewN ?_ _ | refine blk_drew ?_ | refine blk_alloc ?_ _)); refine blk_put (cs := #[.int .i64 t630, .int .i64 0]) ?_ 1 _ rfl; (with_reducible repeat (first | refine blk_drewN ?_ _ | refine blk_drew ?_ | refine blk_alloc ?_ _)); refine blk_put (cs := #[.int .i64 0, .int .i64 0]) ?_ 0 _ rfl; (with_reducible repeat (first | refine blk_drewN ?_ _ | refine blk_drew ?_ | refine blk_alloc ?_ _)); exact BK629.out) Try.underlying27 rfl (by kernel_rfl)) rfl ?_
 exact ⟨tE, bBl HB.out⟩
end Go.Proofs.Ytkjkokgbhepmoaa.PB

namespace Go.Proofs.Ytkjkokgbhepmoaa.PB
open Go.RowKit Go.Shelf Go.Proofs.YtkjkokgbhepmoaaW.PrintWords Go.Proofs.YtkjkokgbhepmoaaW.PrintLast Go.Proofs.YtkjkokgbhepmoaaW.PrintMore
attribute [local go_sem] Oper.semAt_some
def thick1 (x : S170) (lo hi : Int) : Option (Int × Int) := strength_thickness.f x.f0.f0 x.f0.f1 x.f1.f0 x.f1.f1 x.f2.f0 x.f2.f1 x.f3.f0 x.f3.f1 x.f4.f0 x.f4.f1 lo hi
def thickL (zs : List S170) (lo hi : Int) : Nat → Option (List S27)
  | 0 => some []
  | k + 1 => (thickL zs lo hi k).bind fun l => (thick1 (rd_T170 zs (k : Int)) lo hi).bind fun p => some (l ++ [⟨p.1, p.2⟩])
theorem thickL_some (zs : List S170) (lo hi : Int) : ∀ (n : Nat) (l : List S27), thickL zs lo hi n = some l → ∀ k, k < n → ∃ p, thick1 (rd_T170 zs (k : Int)) lo hi = some p
  | 0, l, h, k, hk => by omega
  | n + 1, l, h, k, hk => by
    simp only [thickL] at h
    obtain ⟨l', h1, h2⟩ := Option.bind_eq_some_iff.mp h
    obtain ⟨p, h3, _⟩ := Option.bind_eq_some_iff.mp h2
    by_cases e : k = n
    · subst e; exact ⟨p, h3⟩
    · exact thickL_some zs lo hi n l' h1 k (by omega)
theorem thickL_len (zs : List S170) (lo hi : Int) : ∀ (n : Nat) (l : List S27), thickL zs lo hi n = some l → l.length = n
  | 0, l, h => by simp [thickL] at h; subst h; rfl
  | n + 1, l, h => by
    simp only [thickL] at h
    obtain ⟨l', h1, h2⟩ := Option.bind_eq_some_iff.mp h
    obtain ⟨p, h3, h4⟩ := Option.bind_eq_some_iff.mp h2
    obtain rfl := Option.some.inj h4
    simp [thickL_len zs lo hi n l' h1]
def x_Thickness.f (l0_0 : List S170) (a0_1 a0_2 a1_0 a1_1 : Int) : Option (List S27 × Int) :=
  if bottleV l0_0 a0_1 a0_2 = 0 then (if spanB a1_0 a1_1 1 100000 = true then (thickL l0_0 a1_0 a1_1 l0_0.length).bind fun l => some (l, 0) else some ([], 1)) else some ([], bottleV l0_0 a0_1 a0_2)
theorem callsDIn_wide_of_wpS {P : Program} {n : Nat} {f : FuncId} {fn : Func} {c : Code} {args : Array Value} {u : FrameMode} {w : World} {R : Ending → FrameMode → World → Prop}
    (hf : P.funcs[f]? = some fn) (hb : fn.body = some c)
    (h : ∀ (c₀ : Frame) (cs : List Frame), c₀.mode = u →
      c.wpS P (bodyPostS P fn c₀ cs R) { tmps := args ++ Array.replicate (fn.ntmps - args.size) undef, defers := [] } (c₀ :: cs) w) :
    CallsDIn Fence.wide n P f args u w R := by
  refine ⟨trivial, fun c₀ cs hu _ => ?_⟩
  let b : Frame := { (default : Frame) with fn := f, kind := .deferred }
  have henter : Frame.enter P f args .deferred =
      b.at { tmps := args ++ Array.replicate (fn.ntmps - args.size) undef, defers := [] } [.code c] := by
    simp [Frame.enter, Frame.at, hf, hb, b]
  obtain ⟨e, a', cs', w', hq, harr⟩ := h c₀ cs hu b [] rfl rfl
  rw [← henter] at harr
  cases e with
  | normal =>
    obtain ⟨hd, u', rfl, v, hr, hR⟩ := hq
    exact ⟨.returned v, u', w', _, hR, comesIn_wide.2 (Steps.trans harr (.one step_end)), rfl, rfl, rfl, hd, fn, hf, hr⟩
  | ret =>
    obtain ⟨hd, u', rfl, v, hr, hR⟩ := hq
    obtain ⟨todo, hs⟩ := harr
    exact ⟨.returned v, u', w', _, hR, comesIn_wide.2 hs, rfl, rfl, rfl, hd, fn, hf, hr⟩
  | panic chain =>
    obtain ⟨hd, u', rfl, hR⟩ := hq
    obtain ⟨todo, hs⟩ := harr
    exact ⟨.panicked chain, u', w', _, hR, comesIn_wide.2 hs, rfl, rfl, rfl, hd, fn, hf⟩
  | exit id => exact hq.elim
  | goto l => exact hq.elim
  | outgrown =>
    obtain ⟨u', hR⟩ := hq
    exact ⟨.outgrown, u', w', b, hR, comesIn_wide.2 (harr.resolve_left (by simp [b])), rfl, rfl, trivial⟩
theorem door139I_fail (n : Nat) (B : Nat) (e x : Int) (older : List PanicEntry) (w : World) (hB : w.heap[B]? = some (.cells #[.int .i64 x] 38 (0, 0))) :
    CallsDIn Fence.wide n Try.prog 139 #[.pointer (some ⟨B, 0, none⟩)] (.panicking ({ v := failV e, recovered := false } :: older)) w fun en u' w' =>
      en = .returned (.tuple #[]) ∧ u' = .panicking ({ v := failV e, recovered := true } :: older) ∧ w' = (w.alloc (.cells #[.int .i64 e] 174)).setCell ⟨B, 0, none⟩ (.int .i64 e) := by
  refine callsDIn_wide_of_wpS Try.func139 rfl fun c₀ cs hu => ?_
  apply wpS_region
  simp [wpOpsS, go_sem, recoverD, hu, Try.ntmps139, Exit.thenS, failV]
  refine (caught_fail B e x w hB).mono ?_
  rintro e1 w1 ⟨rfl, rfl⟩
  simp [bodyPostS, results, Try.results139]
theorem door139I_ok (n : Nat) (B : Nat) (w : World) :
    CallsDIn Fence.wide n Try.prog 139 #[.pointer (some ⟨B, 0, none⟩)] .returning w fun en u' w' => en = .returned (.tuple #[]) ∧ u' = .returning ∧ w' = w := by
  refine callsDIn_wide_of_wpS Try.func139 rfl fun c₀ cs hu => ?_
  apply wpS_region
  simp [wpOpsS, go_sem, recoverD, hu, Try.ntmps139, Exit.thenS]
  refine (caught_nil ⟨B, 0, none⟩ w).mono ?_
  rintro e1 w1 ⟨rfl, rfl⟩
  cases c₀
  simp_all [bodyPostS, results, Try.results139]
theorem leavesInM_fn {P : Program} {n : Nat} {fn : Func} {tmps : Array Value} {R : Ending → World → Prop} {fv : Fn} {cap dargs : Array Value} {ds : List Deferred} {u : FrameMode}
    {w : World} {f : FuncId} {args : Array Value} (hu : u ≠ .run) (hi : (invoke (.fn fv cap) dargs).run P w = .ok (.enter f args) w)
    (h : CallsDIn Fence.wide (n - 1) P f args u w fun
      | .returned _, u', w' => LeavesInM Fence.wide n P fn tmps R ds (settle u') w'
      | .panicked chain, u', w' => LeavesInM Fence.wide n P fn tmps R ds (raised u' chain) w'
      | .outgrown, _, w' => R .outgrown w') :
    LeavesInM Fence.wide n P fn tmps R ({ target := .fn fv cap, args := dargs } :: ds) u w :=
  ⟨hu, .inr ⟨(fun h => nomatch h), fv, cap, f, args, rfl, hi, fun _ _ => trivial, h⟩⟩
theorem stepI_append_cells {F : Fence} {n : Nat} {P : Program} {ops : Array Oper} {o : Oper} {a : Act} {Q : Exit → Act → World → Prop} {K : Act → World → Prop} {w0 W : World} (base : Nat) {G : Prop} (hw : Region.wanted o (yielded ops a.tmps) = true) (s x : Operand) (t e : TypeId) (z : Value) (size bytes : Nat)
    (ho : o.op = .call { callee := .builtin .append, args := #[s, x], argTypes := #[t, t] })
    (ht : P.underlying t = some (.slice e)) (hinfo : (P.info? e).map (fun i => (i.zero, i.size, i.bytes)) = some (some z, size, bytes)) (hz : z.cells.size = size) (hs0 : 0 < size) (hb0 : 0 < bytes)
    (v : Value) (m : Nat) (xs ys : List Value) (hs : a.eval s = v) (hx : a.eval x = .slice (some ⟨W.heap.size, 0, none⟩) 1 1) (hys : ys.length = size) (h1 : ∀ u ∈ ys, u.oneCell' = true)
    (HO : W.ownsRow base e size v m xs) (HB : Below base w0 W) (hbase : base ≤ W.heap.size) (hl : (m + 1) * bytes ≤ 140737488355328)
    (h : ∀ v1 w1, w1.ownsRow base e size v1 (m + 1) (xs ++ ys) → Below base w0 w1 → W.grownBy w1 v.ownBlock → (v1.ownBlock = v.ownBlock ∨ ∃ b, v1.ownBlock = some b ∧ W.heap.size ≤ b) → K (a.put o.dst v1) w1) :
    if Region.wanted o (yielded ops a.tmps) = true then Oper.wpIn F n P o a (W.alloc (.cells ys.toArray e)) K Q else G := by
  obtain ⟨i0, hi, hzz⟩ := Option.map_eq_some_iff.1 hinfo
  simp only [Prod.mk.injEq] at hzz
  obtain ⟨hz0, hz1, hz2⟩ := hzz
  have hlen : m + 1 ≤ 140737488355328 := Nat.le_trans (Nat.le_mul_of_pos_right _ hb0) hl
  rw [if_pos hw]
  obtain ⟨v1, w1, hr, hown, hg, _, hat⟩ := run_append_own_at (P := P) (W.alloc (.cells ys.toArray e)) base t o.type e i0 z size bytes ht hi hz0 hz1 hz2 hz hs0 v m xs (HO.alloc _) ⟨W.heap.size, 0, none⟩ 1 1 ys (by rw [hys]; simp)
    (by simpa using World.news_of_block (cs := ys.toArray) (t := e) (fr := (0, 0)) (heap_alloc_new W (.cells ys.toArray e))) h1 (by simp only [maxLen]; omega) hl (by simp; omega)
  have hK : K (a.put o.dst v1) w1 := by
    refine h v1 w1 hown ((HB.alloc hbase _).grown hg (by simp; omega) (own_base HO)) (World.grownBy.trans (World.grownBy_alloc W _ _) hg) ?_
    rcases hat with hat | hat
    · exact .inl hat
    · exact .inr ⟨_, hat, by simp⟩
  unfold Oper.wpIn
  refine ⟨?_, ?_⟩
  · simp [Oper.about, ho, resolve, Target.leads, Sem.run_pure]
  · rw [Oper.semAt_plain F _ _ (by rw [ho]; intro c hc'; cases hc')]
    simp [execOp, ho, resolve, invoke, builtin, hs, hx, hr, Result.andThen]
    exact hK
structure ThI (A : Option Addr) (c : Nat) (zs : List S170) (f1 f2 lo hi : Int) (w : World) (g B : Nat) (k : Nat) (W : World) (v : Value) (l : List S27) : Prop where
  li : thickL zs lo hi k = some l
  bx : W.heap[w.heap.size]? = some (.cells #[.slice A zs.length c, .int .i64 f1, .int .i64 f2] 92 (0, 0))
  sp : W.heap[w.heap.size + 1]? = some (.cells #[.int .i64 lo, .int .i64 hi] 27 (0, 0))
  sl : W.heap[w.heap.size + 1 + 1]? = some (.cells #[v] 24 (0, 0))
  er : W.heap[w.heap.size + 1 + 1 + 1]? = some (.cells #[.int .i64 0] 38 (0, 0))
  rb : W.heap[g]? = some (.cells #[.slice A zs.length c, .int .i64 f1, .int .i64 f2] 92 (0, 0))
  be : Below w.heap.size w W
  ro : Kd.R k27 27 W (B + 2) (fun _ => True) v l
theorem R_put {W : World} {v : Value} {l : List S27} {B r : Nat} (h : Kd.R k27 27 W B (fun _ => True) v l) (hr : r < B) (o' : Obj) : Kd.R k27 27 (W.putObj r o') B (fun _ => True) v l := by
  refine Kd.R_mono (Kd.R_step (Kd.R_bound h) (fun k hk hlt => ?_)) (fun _ _ => trivial)
  exact World.putObj_heap_other (by have := hk.2.1; omega)
section
variable {A : Option Addr} {c : Nat} {zs : List S170} {f1 f2 lo hi : Int} {w : World} {g B k : Nat} {W : World} {v : Value} {l : List S27}
theorem ThI.alloc (h : ThI A c zs f1 f2 lo hi w g B k W v l) (o : Obj) : ThI A c zs f1 f2 lo hi w g B k (W.alloc o) v l :=
  ⟨h.li, blk_alloc h.bx o, blk_alloc h.sp o, blk_alloc h.sl o, blk_alloc h.er o, blk_alloc h.rb o, below_alloc h.be o, Kd.R_alloc h.ro o⟩
theorem ThI.put (h : ThI A c zs f1 f2 lo hi w g B k W v l) (o : Obj) (h1 : w.heap.size + 4 ≤ g) (h2 : g < B) (h3 : B + 1 < W.heap.size) : ThI A c zs f1 f2 lo hi w g B k (W.putObj (B + 1) o) v l :=
  ⟨h.li, putObj_heap_keep (by omega) h.bx, putObj_heap_keep (by omega) h.sp, putObj_heap_keep (by omega) h.sl, putObj_heap_keep (by omega) h.er, putObj_heap_keep (by omega) h.rb, below_putObj h.be (by omega) h3, R_put h.ro (by omega) o⟩
end
theorem stepI_R_append {F : Fence} {n : Nat} {P : Program} {ops : Array Oper} {o : Oper} {a : Act} {Q : Exit → Act → World → Prop} {K : Act → World → Prop} {α : Type} (d : Kd α) {w0 W : World} (base : Nat) {G : Prop} (hw : Region.wanted o (yielded ops a.tmps) = true) (s x : Operand) (t e : TypeId) (z : Value) (bytes : Nat)
    (ho : o.op = .call { callee := .builtin .append, args := #[s, x], argTypes := #[t, t] })
    (ht : P.underlying t = some (.slice e)) (hinfo : (P.info? e).map (fun i => (i.zero, i.size, i.bytes)) = some (some z, d.sz, bytes)) (hz : z.cells.size = d.sz) (hs0 : 0 < d.sz) (hb0 : 0 < bytes)
    (v : Value) (xs : List α) (p : α) (cs : List Value) (ok okp : Nat → Prop) (hs : a.eval s = v) (hx : a.eval x = .slice (some ⟨W.heap.size, 0, none⟩) 1 1) (hp : d.M W base okp p cs) (hokp : ∀ k, okp k → ok k ∧ some k ≠ v.ownBlock) (hfresh : ∀ k, W.heap.size ≤ k → ok k)
    (HO : d.R e W base ok v xs) (HB : Below base w0 W) (hbase : base ≤ W.heap.size) (hl : (xs.length + 1) * bytes ≤ 140737488355328)
    (h : ∀ v1 w1, d.R e w1 base ok v1 (xs ++ [p]) → Below base w0 w1 → K (a.put o.dst v1) w1) :
    if Region.wanted o (yielded ops a.tmps) = true then Oper.wpIn F n P o a (W.alloc (.cells cs.toArray e)) K Q else G := by
  obtain ⟨h0, inner, hown, hr⟩ := HO
  refine stepI_append_cells base hw s x t e z d.sz bytes ho ht hinfo hz hs0 hb0 v xs.length inner cs hs hx (d.K_len (d.K_of_M hp)) (d.K_one (d.K_of_M hp)) hown HB hbase hl ?_
  intro v1 w1 hown1 hb1 hg1 hat1
  exact h v1 w1 (Kd.R_appended h0 hr hp hokp hfresh hown1 hg1 hat1) hb1
theorem rings_b (v1 v2 v3 : Value) (w : World) :
    Calls Try.prog 142 #[.agg #[v1, v2, v3]] w fun e w' => ∃ g, e = .returned (.func (.func 159) #[] #[.pointer (some ⟨g, 0, none⟩)]) ∧ w.heap.size ≤ g ∧ w'.heap[g]? = some (.cells #[v1, v2, v3] 92 (0, 0)) ∧ Below w.heap.size w w' :=
  (callsIn_wide (n := 9)).1 ((rings_callsI Fence.wide 9 trivial rfl v1 v2 v3 w).mono fun e w' he => ⟨w.heap.size, he.1, Nat.le_refl _, by rw [he.2]; exact blk_new _ _, by rw [he.2]; exact below_alloc (Below.refl _ _) _⟩)
theorem Below5 {B : Nat} {w w1 : World} {g : Nat} {o : Obj} (hb : Below B w w1) (h : w.heap[g]? = some o) (hg : g < B) : w1.heap[g]? = some o := (hb.block g hg).trans h
theorem bottle_len {zs : List S170} {f1 f2 : Int} (h : bottleV zs f1 f2 = 0) : zs.length ≤ 24 := by
  unfold bottleV at h
  split at h
  · cases h
  · omega
theorem k27_E : k27.E = [] := rfl
theorem bottle_ok (A : Option Addr) (c : Nat) (zs : List S170) (f1 f2 : Int) (w : World) (hr : Kd.C k170 w A zs.length zs) (h : bottleV zs f1 f2 = 0) :
    Calls Try.prog 140 #[.agg #[.slice A zs.length c, .int .i64 f1, .int .i64 f2]] w fun en w' => en = .returned (.tuple #[]) ∧ Below w.heap.size w w' :=
  (bottle_calls A c zs f1 f2 w hr).mono fun e w' he => ⟨by rw [he.1, h]; rfl, he.2⟩
theorem bottle_no (A : Option Addr) (c : Nat) (zs : List S170) (f1 f2 : Int) (w : World) (hr : Kd.C k170 w A zs.length zs) (h : bottleV zs f1 f2 ≠ 0) :
    Calls Try.prog 140 #[.agg #[.slice A zs.length c, .int .i64 f1, .int .i64 f2]] w fun en w' => en = .panicked (failC (bottleV zs f1 f2)) ∧ Below w.heap.size w w' :=
  (bottle_calls A c zs f1 f2 w hr).mono fun e w' he => ⟨by rw [he.1, endF_ne h], he.2⟩
theorem run_var24 (w : World) (g : Nat) (v : Value) (h : w.heap[g]? = some (.cells #[v] 24 (0, 0))) : (loadVar 24 ⟨g, 0, none⟩).run Try.prog w = .ok v w := by
  have hc : w.cell? ⟨g, 0, none⟩ = some v := (blk_cell h 0).trans rfl
  simp [loadVar, go_sem, hc]
set_option maxHeartbeats 4000000 in
set_option maxRecDepth 100000 in
theorem x_Thickness.calls (A : Option Addr) (c : Nat) (zs : List S170) (f1 f2 lo hi : Int) (l2 : List S27) (r2 : Int) (w : World) (hr : Kd.C k170 w A zs.length zs) (hc : zs.length ≤ c) (h : x_Thickness.f zs f1 f2 lo hi = some (l2, r2)) :
    Calls Try.prog 85 #[.agg #[.slice A zs.length c, .int .i64 f1, .int .i64 f2], .agg #[.int .i64 lo, .int .i64 hi]] w fun e w' => ∃ v0_ : Value, e = .returned (.tuple #[v0_, .int .i64 r2]) ∧ Kd.R k27 27 w' w.heap.size (fun _ => True) v0_ l2 ∧ Below w.heap.size w w' := by
  have hmf := run_makeFunc_
  obtain ⟨b1, b2, b3, b4, hbl, hsz⟩ := blk_four w (.cells #[.slice A zs.length c, .int .i64 f1, .int .i64 f2] 92) (.cells #[.int .i64 lo, .int .i64 hi] 27) (.cells #[.slice none 0 0] 24) (.cells #[.int .i64 0] 38)
  have BX := Sd.mk b1
  have BS := Sd.mk b2
  have BL := Sd.mk b3
  have BE := Sd.mk b4
  have HSZ := Sd.mk hsz
  have HB := Sd.mk hbl
  have HR := Sd.mk (Kd.C_below hr hbl)
  have HR0 := Sd.mk hr
  have hb0 : ((((w.alloc (.cells #[.slice A zs.length c, .int .i64 f1, .int .i64 f2] 92)).alloc (.cells #[.int .i64 lo, .int .i64 hi] 27)).alloc (.cells #[.slice none 0 0] 24)).alloc (.cells #[.int .i64 0] 38)).cell? ⟨w.heap.size, 0, none⟩ = some (.slice A zs.length c) := (blk_cell b1 0).trans rfl
  have hb1 : ((((w.alloc (.cells #[.slice A zs.length c, .int .i64 f1, .int .i64 f2] 92)).alloc (.cells #[.int .i64 lo, .int .i64 hi] 27)).alloc (.cells #[.slice none 0 0] 24)).alloc (.cells #[.int .i64 0] 38)).cell? ⟨w.heap.size, 0 + 1, none⟩ = some (.int .i64 f1) := (blk_cell b1 1).trans rfl
  have hb2 : ((((w.alloc (.cells #[.slice A zs.length c, .int .i64 f1, .int .i64 f2] 92)).alloc (.cells #[.int .i64 lo, .int .i64 hi] 27)).alloc (.cells #[.slice none 0 0] 24)).alloc (.cells #[.int .i64 0] 38)).cell? ⟨w.heap.size, 0 + 2, none⟩ = some (.int .i64 f2) := (blk_cell b1 2).trans rfl
  clear b1 b2 b3 b4 hbl hsz hr
  unfold x_Thickness.f at h
  by_cases h0 : bottleV zs f1 f2 = 0
  · rw [if_pos h0] at h
    have H0 := Sd.mk h0
    clear h0
    cases hi' : spanB lo hi 1 100000 with
    | true =>
      rw [if_pos hi'] at h
      obtain ⟨l, hl, h⟩ := Option.bind_eq_some_iff.mp h
      simp only [Option.some.injEq, Prod.mk.injEq] at h
      obtain ⟨rfl, rfl⟩ := h
      have HI := Sd.mk hi'
      have HL := Sd.mk hl
      clear hi' hl
      refine (callsIn_wide (n := 9)).1 (callsIn_of_wp_marks Try.func85 rfl trivial ?_ rfl)
      simp only [Try.ntmps85, List.size_toArray, List.length_cons, List.length_nil, Nat.reduceAdd, Nat.reduceSub, Array.replicate_succ, Array.replicate_zero, List.push_toArray, List.append_toArray, List.nil_append, List.cons_append]
      gi_wp2_with (first | (refine ⟨trivial, ?_⟩; gi_at_call 140; refine (callsIn_wide.2 (bottle_ok A c zs f1 f2 _ HR.out H0.out)).mono ?_; rintro e w1 ⟨rfl, hw1⟩; have BX1 := Sd.mk (blk_below BX.out hw1); have BS1 := Sd.mk (blk_below BS.out hw1); have BL1 := Sd.mk (blk_below BL.out hw1); have BE1 := Sd.mk (blk_below BE.out hw1); have HB1 := Sd.mk (below_then HB.out (by have := HSZ.out; omega) hw1); have HSZ1 := Sd.mk (show w.heap.size + 4 ≤ w1.heap.size from Nat.le_trans (by have := HSZ.out; omega) hw1.size); clear hw1; have ht0 : w1.cell? ⟨w.heap.size + 1, 0, none⟩ = some (.int .i64 lo) := (blk_cell BS1.out 0).trans rfl; have ht1 : w1.cell? ⟨w.heap.size + 1, 0 + 1, none⟩ = some (.int .i64 hi) := (blk_cell BS1.out 1).trans rfl; have hb0 : w1.cell? ⟨w.heap.size, 0, none⟩ = some (.slice A zs.length c) := (blk_cell BX1.out 0).trans rfl; have hb1 : w1.cell? ⟨w.heap.size, 0 + 1, none⟩ = some (.int .i64 f1) := (blk_cell BX1.out 1).trans rfl; have hb2 : w1.cell? ⟨w.heap.size, 0 + 2, none⟩ = some (.int .i64 f2) := (blk_cell BX1.out 2).trans rfl) | (refine ⟨trivial, ?_⟩; gi_at_call 141; refine (callsIn_wide.2 (sspan_f _ _ _ _ _)).mono ?_; rw [HI.out]; rintro e w2 ⟨rfl, hw2⟩; have BX2 := BX1; have BS2 := BS1; clear BX1 BS1; have BX1 := Sd.mk (blk_below BX2.out hw2); have BS1 := Sd.mk (blk_below BS2.out hw2); have BL2 := Sd.mk (blk_below BL1.out hw2); have BE2 := Sd.mk (blk_below BE1.out hw2); have HB2 := Sd.mk (below_then HB1.out HB1.out.size hw2); have HSZ2 := Sd.mk (show w.heap.size + 4 ≤ w2.heap.size from Nat.le_trans HSZ1.out hw2.size); clear BX2 BS2 hw2; have hb0 : w2.cell? ⟨w.heap.size, 0, none⟩ = some (.slice A zs.length c) := (blk_cell BX1.out 0).trans rfl; have hb1 : w2.cell? ⟨w.heap.size, 0 + 1, none⟩ = some (.int .i64 f1) := (blk_cell BX1.out 1).trans rfl; have hb2 : w2.cell? ⟨w.heap.size, 0 + 2, none⟩ = some (.int .i64 f2) := (blk_cell BX1.out 2).trans rfl) | (refine ⟨trivial, ?_⟩; gi_at_call 91; (with_reducible refine (callsIn_wide.2 (demand_ok _ _)).mono ?_); rintro e w' ⟨rfl, rfl⟩) | (refine ⟨trivial, ?_⟩; gi_at_call 142; (with_reducible refine (callsIn_wide.2 (rings_b _ _ _ _)).mono ?_); rintro e w3 ⟨g, rfl, hg, hbk, hw3⟩; have RB3 := Sd.mk hbk; have HG := Sd.mk (show w.heap.size + 4 ≤ g from Nat.le_trans (by have := HSZ.out; have := BE2.out; have := HSZ2.out; omega) hg); have BX3 := Sd.mk (blk_below BX1.out hw3); have BS3 := Sd.mk (blk_below BS1.out hw3); have BL3 := Sd.mk (blk_below BL2.out hw3); have BE3 := Sd.mk (blk_below BE2.out hw3); have HB3 := Sd.mk (below_then HB2.out HB2.out.size hw3); have HG3 := Sd.mk (show g < w3.heap.size from blk_lt hbk); clear hbk hw3 hg))
      clear ht0 ht1 hb0 hb1 hb2
      have hll := thickL_some zs lo hi zs.length _ HL.out
      have HN := Sd.mk (bottle_len H0.out)
      refine wpIn_rangeFuncP (N := zs.length) (encs := fun k => #[.int .i64 (k : Int), ringV (rd_T170 zs k)]) rfl (by omega) (gf := 159) (lb := #[.pointer (some ⟨g, 0, none⟩)]) rfl trivial (enters_of Try.func159 (by kernel_rfl) rfl) (fun _ => rfl)
        (fun k W => ∃ v l, ThI A c zs f1 f2 lo hi w g w3.heap.size k W v l) (fun _ _ => False) (fun k W o ⟨v, l, h⟩ => ⟨v, l, h.alloc o⟩) (fun k W o r hl ⟨v, l, h⟩ => ⟨v, l, h.put o HG.out HG3.out (Array.getElem?_eq_some_iff.1 hl).1⟩) ⟨_, _, rfl, BX3.out, BS3.out, BL3.out, BE3.out, RB3.out, HB3.out, Kd.R_nil _ _ _ _ _⟩ ?seq ?round ?fn ?done ?panic
      case seq =>
        intro l1 J Jp W hJa hJI hY h0
        obtain ⟨v, l, hi0⟩ := hJI _ _ h0
        exact rings1_in Fence.wide (9 - 1) trivial rfl (by omega) l1 g A c _ _ zs J Jp W hi0.rb hJa (fun k W' h => by obtain ⟨v, l, h⟩ := hJI _ _ h; exact Kd.C_below HR0.out h.be) hY h0
      case round =>
        clear BX3 BS3 BL3 BE3 RB3 HB3 BX1 BS1 BL1 BE1 HB1 BL2 BE2 HB2 HB BX BS BL BE
        intro l k W hW _ hk hI st hst
        obtain ⟨v, l', hI⟩ := hI
        obtain ⟨p, hp⟩ := hll k hk
        generalize hx : rd_T170 zs (k : Int) = x at hp ⊢
        have HI1 := Sd.mk hI
        have HW := Sd.mk hW
        have HK := Sd.mk hk
        have HX := Sd.mk hx
        have HP := Sd.mk hp
        have HL1 := HL
        clear HL
        have HL := Sd.mk (thickL_len _ _ _ _ _ hI.li)
        clear hI hW hk hp hll
        clear hx
        unfold ringV
        simp only [List.zip_cons_cons, List.zip_nil_right, List.foldl_cons, List.foldl_nil]
        gi_wp2
        refine hst _ _ (by simp) (fun j h1 h2 => Below.heap_alloc W _ j (by have := HW.out; omega)) ?_
        clear hst
        intro o
        have hn2 : 1 ≤ 9 - 1 - 1 := by omega
        have CK : Sd (ThI A c zs f1 f2 lo hi w g w3.heap.size k ((W.alloc (.cells #[.int .i64 x.f0.f0, .int .i64 x.f0.f1, .int .i64 x.f1.f0, .int .i64 x.f1.f1, .int .i64 x.f2.f0, .int .i64 x.f2.f1, .int .i64 x.f3.f0, .int .i64 x.f3.f1, .int .i64 x.f4.f0, .int .i64 x.f4.f1] 170)).putObj (w3.heap.size + 1) o) v l') := ⟨(HI1.out.alloc _).put o HG.out HG3.out (by have := HW.out; simp; omega)⟩
        have RB : Sd (((W.alloc (.cells #[.int .i64 x.f0.f0, .int .i64 x.f0.f1, .int .i64 x.f1.f0, .int .i64 x.f1.f1, .int .i64 x.f2.f0, .int .i64 x.f2.f1, .int .i64 x.f3.f0, .int .i64 x.f3.f1, .int .i64 x.f4.f0, .int .i64 x.f4.f1] 170)).putObj (w3.heap.size + 1) o).heap[W.heap.size]? = some (.cells #[.int .i64 x.f0.f0, .int .i64 x.f0.f1, .int .i64 x.f1.f0, .int .i64 x.f1.f1, .int .i64 x.f2.f0, .int .i64 x.f2.f1, .int .i64 x.f3.f0, .int .i64 x.f3.f1, .int .i64 x.f4.f0, .int .i64 x.f4.f1] 170 (0, 0))) := ⟨putObj_heap_keep (by have := HW.out; omega) (blk_new _ _)⟩
        have WS : Sd (((W.alloc (.cells #[.int .i64 x.f0.f0, .int .i64 x.f0.f1, .int .i64 x.f1.f0, .int .i64 x.f1.f1, .int .i64 x.f2.f0, .int .i64 x.f2.f1, .int .i64 x.f3.f0, .int .i64 x.f3.f1, .int .i64 x.f4.f0, .int .i64 x.f4.f1] 170)).putObj (w3.heap.size + 1) o).heap.size = W.heap.size + 1) := ⟨by simp⟩
        generalize (W.alloc (.cells #[.int .i64 x.f0.f0, .int .i64 x.f0.f1, .int .i64 x.f1.f0, .int .i64 x.f1.f1, .int .i64 x.f2.f0, .int .i64 x.f2.f1, .int .i64 x.f3.f0, .int .i64 x.f3.f1, .int .i64 x.f4.f0, .int .i64 x.f4.f1] 170)).putObj (w3.heap.size + 1) o = Wb at CK RB WS ⊢
        have hmx : Try.prog.follows .mixedOrders = true := by kernel_rfl
        gi_wp2
        refine wpIn_region_any hmx ?_
        change wpAnyIn _ _ _ _ _ _ _ _ _ (World.drew _)
        have RBd : Sd (Wb.drew.heap[W.heap.size]? = some (.cells #[.int .i64 x.f0.f0, .int .i64 x.f0.f1, .int .i64 x.f1.f0, .int .i64 x.f1.f1, .int .i64 x.f2.f0, .int .i64 x.f2.f1, .int .i64 x.f3.f0, .int .i64 x.f3.f1, .int .i64 x.f4.f0, .int .i64 x.f4.f1] 170 (0, 0))) := ⟨RB.out⟩
        have SP : Sd (Wb.drew.heap[w.heap.size + 1]? = some (.cells #[.int .i64 lo, .int .i64 hi] 27 (0, 0))) := ⟨CK.out.sp⟩
        have SL : Sd (Wb.drew.heap[w.heap.size + 1 + 1]? = some (.cells #[v] 24 (0, 0))) := ⟨CK.out.sl⟩
        have RO : Sd (Kd.R k27 27 Wb.drew (w3.heap.size + 2) (fun _ => True) v l') := ⟨Kd.R_drew CK.out.ro⟩
        have HD2 : Sd (w3.heap.size + 2 ≤ Wb.drew.heap.size) := ⟨by have := HW.out; have := WS.out; show w3.heap.size + 2 ≤ Wb.heap.size; omega⟩
        have BD : Sd (Below (w3.heap.size + 2) Wb Wb.drew) := ⟨below_drew (Below.refl _ _)⟩
        have fin : ∀ (a' : Act) (w5 : World) (v1 : Value), Kd.R k27 27 w5 (w3.heap.size + 2) (fun _ => True) v1 (l' ++ [⟨p.1, p.2⟩]) → Below (w3.heap.size + 2) Wb.drew w5 → bodyPostP w3.heap.size (fun k W => ∃ v l, ThI A c zs f1 f2 lo hi w g w3.heap.size k W v l) (fun _ _ => False) (k + 1) Wb .normal a' (w5.setCell ⟨w.heap.size + 1 + 1, 0, none⟩ v1) := by
          intro a' w5 v1 hr5 hb5'
          have hb5 : Below (w3.heap.size + 2) Wb w5 := BD.out.trans hb5'
          have hg1 := HG.out
          have hg2 := HG3.out
          refine ⟨by simpa using hb5.size, fun j h1 h2 => (Below.heap_setCell _ _ _ j (by simp; omega)).trans (hb5.block j (by omega)), v1, l' ++ [⟨p.1, p.2⟩], ?_⟩
          have hp := HP.out
          exact ⟨by simp only [thickL, CK.out.li, HX.out]; rw [show thick1 x lo hi = some p from hp]; rfl, blk_far (Below5 hb5 CK.out.bx (by omega)) (p := ⟨w.heap.size + 1 + 1, 0, none⟩) (by simp; omega) _, blk_far (Below5 hb5 CK.out.sp (by omega)) (p := ⟨w.heap.size + 1 + 1, 0, none⟩) (by simp) _, blk_put (Below5 hb5 CK.out.sl (by omega)) 0 _ rfl, blk_far (Below5 hb5 CK.out.er (by omega)) (p := ⟨w.heap.size + 1 + 1, 0, none⟩) (by simp) _, blk_far (Below5 hb5 CK.out.rb (by omega)) (p := ⟨w.heap.size + 1 + 1, 0, none⟩) (by simp; omega) _, below_set (CK.out.be.trans (hb5.mono (by omega))) (by omega), Kd.R_set hr5 (Below5 hb5 CK.out.sl (by omega)) (by simp [k27_E]) 0 _⟩
        generalize Wb.drew = Wd at RBd SP SL RO HD2 BD fin ⊢
        clear RB
        have RB := RBd
        clear RBd
        have g0 : Wd.cell? ⟨W.heap.size, 0, none⟩ = some (.int .i64 x.f0.f0) := (blk_cell RB.out 0).trans rfl
        have g1 : Wd.cell? ⟨W.heap.size, 0 + 1, none⟩ = some (.int .i64 x.f0.f1) := (blk_cell RB.out 1).trans rfl
        have g2 : Wd.cell? ⟨W.heap.size, 0 + 2, none⟩ = some (.int .i64 x.f1.f0) := (blk_cell RB.out 2).trans rfl
        have g3 : Wd.cell? ⟨W.heap.size, 0 + 3, none⟩ = some (.int .i64 x.f1.f1) := (blk_cell RB.out 3).trans rfl
        have g4 : Wd.cell? ⟨W.heap.size, 0 + 4, none⟩ = some (.int .i64 x.f2.f0) := (blk_cell RB.out 4).trans rfl
        have g5 : Wd.cell? ⟨W.heap.size, 0 + 5, none⟩ = some (.int .i64 x.f2.f1) := (blk_cell RB.out 5).trans rfl
        have g6 : Wd.cell? ⟨W.heap.size, 0 + 6, none⟩ = some (.int .i64 x.f3.f0) := (blk_cell RB.out 6).trans rfl
        have g7 : Wd.cell? ⟨W.heap.size, 0 + 7, none⟩ = some (.int .i64 x.f3.f1) := (blk_cell RB.out 7).trans rfl
        have g8 : Wd.cell? ⟨W.heap.size, 0 + 8, none⟩ = some (.int .i64 x.f4.f0) := (blk_cell RB.out 8).trans rfl
        have g9 : Wd.cell? ⟨W.heap.size, 0 + 9, none⟩ = some (.int .i64 x.f4.f1) := (blk_cell RB.out 9).trans rfl
        have gt0 : Wd.cell? ⟨w.heap.size + 1, 0, none⟩ = some (.int .i64 lo) := (blk_cell SP.out 0).trans rfl
        have gt1 : Wd.cell? ⟨w.heap.size + 1, 0 + 1, none⟩ = some (.int .i64 hi) := (blk_cell SP.out 1).trans rfl
        have gv : Wd.cell? ⟨w.heap.size + 1 + 1, 0, none⟩ = some v := (blk_cell SL.out 0).trans rfl
        refine wpAnyIn_ready (rs := [0, 1, 2]) (by kernel_rfl) (by simp) ?_
        refine AllReadyIn.cons rfl (fun K hK => ?_) ?_
        · go_simp
          refine hK _ _ ?_
          clear hK K
          refine wpAnyIn_ready (rs := [1, 2]) (by kernel_rfl) (by simp) ?_
          refine AllReadyIn.cons rfl (fun K hK => ?_) ?_
          · go_simp
            refine hK _ _ ?_
            clear hK K
            refine wpAnyIn_ready (rs := [2]) (by kernel_rfl) (by simp) ?_
            refine AllReadyIn.cons rfl (fun K hK => ?_) ?_
            · go_simp
              refine hK _ _ ?_
              clear hK K
              refine wpAnyIn_ready (rs := [3]) (by kernel_rfl) (by simp) ?_
              refine AllReadyIn.cons rfl (fun K hK => ?_) ?_
              · go_simp
                gi_wp2_with (refine ⟨trivial, ?_⟩; gi_at_call 143; refine (CallsIn.inRound l (callsIn_wide.2 (strength_thickness.calls _ _ _ _ _ _ _ _ _ _ _ _ p.1 p.2 _ HP.out))).mono ?_; rintro e w4 ⟨rfl, hw4⟩; have BW4 := Sd.mk (show Below (w3.heap.size + 2) Wd w4 from hw4.mono HD2.out); have SZ4 := Sd.mk (show w3.heap.size + 2 ≤ w4.heap.size from Nat.le_trans HD2.out hw4.size); have RO4 := Sd.mk (Kd.R_below RO.out hw4); have SL4 := Sd.mk (blk_below SL.out hw4); clear hw4; have gv4 : w4.cell? ⟨w.heap.size + 1 + 1, 0, none⟩ = some v := (blk_cell SL4.out 0).trans rfl; have gv5 : (w4.alloc (.cells #[.int .i64 p.1, .int .i64 p.2] 27)).cell? ⟨w.heap.size + 1 + 1, 0, none⟩ = some v := (blk_cell (blk_alloc SL4.out _) 0).trans rfl)
                refine wpAnyIn_ready (rs := [4]) (by kernel_rfl) (by simp) ?_
                refine AllReadyIn.cons rfl (fun K hK => ?_) ?_
                · go_simp
                  refine hK _ _ ?_
                  clear hK K
                  refine wpAnyIn_ready (rs := [5]) (by kernel_rfl) (by simp) ?_
                  refine AllReadyIn.cons rfl (fun K hK => ?_) ?_
                  · refine stepI_R_append k27 (w0 := Wd) (W := w4) (w3.heap.size + 2) (by go_simp) _ _ 24 27 (.agg #[.int .i64 0, .int .i64 0]) 16 rfl Try.underlying24 info27 rfl (by decide) (by decide) v l' ⟨p.1, p.2⟩ [.int .i64 p.1, .int .i64 p.2] (fun _ => True) (fun _ => False) rfl rfl (k27_mkM _ _ _ _) (fun _ h => h.elim) (fun _ _ => trivial) RO4.out BW4.out SZ4.out (by rw [HL.out]; have := HN.out; have := HK.out; omega) ?_
                    intro v1 w5 r5 b5
                    obtain ⟨As, cs5, hv5⟩ := Kd.R_slice r5
                    rw [List.length_append, List.length_singleton] at hv5
                    subst hv5
                    have R5 := Sd.mk r5
                    have B5 := Sd.mk b5
                    clear r5 b5
                    have gs : w5.cell? ⟨w.heap.size + 1 + 1, 0, none⟩ = some v := (blk_cell (Below5 B5.out SL.out (by have := HG.out; have := HG3.out; omega)) 0).trans rfl
                    have gs' := blk_frozen (Below5 B5.out SL.out (by have := HG.out; have := HG3.out; omega)) 0
                    refine hK _ _ ?_
                    clear hK K
                    refine wpAnyIn_ready (rs := [6]) (by kernel_rfl) (by simp) ?_
                    refine AllReadyIn.cons rfl (fun K hK => ?_) ?_
                    · go_simp
                      refine hK _ _ ?_
                      clear hK K
                      refine wpAnyIn_done (by kernel_rfl) ?_ _
                      exact fin { tmps := #[], defers := [] } _ _ R5.out B5.out
                    exact AllReadyIn.nil
                  exact AllReadyIn.nil
                exact AllReadyIn.nil
              exact AllReadyIn.nil
            exact AllReadyIn.nil
          refine AllReadyIn.cons rfl (fun K hK => ?_) ?_
          · go_simp
            refine hK _ _ ?_
            clear hK K
            refine wpAnyIn_ready (rs := [1]) (by kernel_rfl) (by simp) ?_
            refine AllReadyIn.cons rfl (fun K hK => ?_) ?_
            · go_simp
              refine hK _ _ ?_
              clear hK K
              refine wpAnyIn_ready (rs := [3]) (by kernel_rfl) (by simp) ?_
              refine AllReadyIn.cons rfl (fun K hK => ?_) ?_
              · go_simp
                gi_wp2_with (refine ⟨trivial, ?_⟩; gi_at_call 143; refine (CallsIn.inRound l (callsIn_wide.2 (strength_thickness.calls _ _ _ _ _ _ _ _ _ _ _ _ p.1 p.2 _ HP.out))).mono ?_; rintro e w4 ⟨rfl, hw4⟩; have BW4 := Sd.mk (show Below (w3.heap.size + 2) Wd w4 from hw4.mono HD2.out); have SZ4 := Sd.mk (show w3.heap.size + 2 ≤ w4.heap.size from Nat.le_trans HD2.out hw4.size); have RO4 := Sd.mk (Kd.R_below RO.out hw4); have SL4 := Sd.mk (blk_below SL.out hw4); clear hw4; have gv4 : w4.cell? ⟨w.heap.size + 1 + 1, 0, none⟩ = some v := (blk_cell SL4.out 0).trans rfl; have gv5 : (w4.alloc (.cells #[.int .i64 p.1, .int .i64 p.2] 27)).cell? ⟨w.heap.size + 1 + 1, 0, none⟩ = some v := (blk_cell (blk_alloc SL4.out _) 0).trans rfl)
                refine wpAnyIn_ready (rs := [4]) (by kernel_rfl) (by simp) ?_
                refine AllReadyIn.cons rfl (fun K hK => ?_) ?_
                · go_simp
                  refine hK _ _ ?_
                  clear hK K
                  refine wpAnyIn_ready (rs := [5]) (by kernel_rfl) (by simp) ?_
                  refine AllReadyIn.cons rfl (fun K hK => ?_) ?_
                  · refine stepI_R_append k27 (w0 := Wd) (W := w4) (w3.heap.size + 2) (by go_simp) _ _ 24 27 (.agg #[.int .i64 0, .int .i64 0]) 16 rfl Try.underlying24 info27 rfl (by decide) (by decide) v l' ⟨p.1, p.2⟩ [.int .i64 p.1, .int .i64 p.2] (fun _ => True) (fun _ => False) rfl rfl (k27_mkM _ _ _ _) (fun _ h => h.elim) (fun _ _ => trivial) RO4.out BW4.out SZ4.out (by rw [HL.out]; have := HN.out; have := HK.out; omega) ?_
                    intro v1 w5 r5 b5
                    obtain ⟨As, cs5, hv5⟩ := Kd.R_slice r5
                    rw [List.length_append, List.length_singleton] at hv5
                    subst hv5
                    have R5 := Sd.mk r5
                    have B5 := Sd.mk b5
                    clear r5 b5
                    have gs : w5.cell? ⟨w.heap.size + 1 + 1, 0, none⟩ = some v := (blk_cell (Below5 B5.out SL.out (by have := HG.out; have := HG3.out; omega)) 0).trans rfl
                    have gs' := blk_frozen (Below5 B5.out SL.out (by have := HG.out; have := HG3.out; omega)) 0
                    refine hK _ _ ?_
                    clear hK K
                    refine wpAnyIn_ready (rs := [6]) (by kernel_rfl) (by simp) ?_
                    refine AllReadyIn.cons rfl (fun K hK => ?_) ?_
                    · go_simp
                      refine hK _ _ ?_
                      clear hK K
                      refine wpAnyIn_done (by kernel_rfl) ?_ _
                      exact fin { tmps := #[], defers := [] } _ _ R5.out B5.out
                    exact AllReadyIn.nil
                  exact AllReadyIn.nil
                exact AllReadyIn.nil
              exact AllReadyIn.nil
            exact AllReadyIn.nil
          exact AllReadyIn.nil
        refine AllReadyIn.cons rfl (fun K hK => ?_) ?_
        · go_simp
          refine hK _ _ ?_
          clear hK K
          refine wpAnyIn_ready (rs := [0, 2]) (by kernel_rfl) (by simp) ?_
          refine AllReadyIn.cons rfl (fun K hK => ?_) ?_
          · go_simp
            refine hK _ _ ?_
            clear hK K
            refine wpAnyIn_ready (rs := [2]) (by kernel_rfl) (by simp) ?_
            refine AllReadyIn.cons rfl (fun K hK => ?_) ?_
            · go_simp
              refine hK _ _ ?_
              clear hK K
              refine wpAnyIn_ready (rs := [3]) (by kernel_rfl) (by simp) ?_
              refine AllReadyIn.cons rfl (fun K hK => ?_) ?_
              · go_simp
                gi_wp2_with (refine ⟨trivial, ?_⟩; gi_at_call 143; refine (CallsIn.inRound l (callsIn_wide.2 (strength_thickness.calls _ _ _ _ _ _ _ _ _ _ _ _ p.1 p.2 _ HP.out))).mono ?_; rintro e w4 ⟨rfl, hw4⟩; have BW4 := Sd.mk (show Below (w3.heap.size + 2) Wd w4 from hw4.mono HD2.out); have SZ4 := Sd.mk (show w3.heap.size + 2 ≤ w4.heap.size from Nat.le_trans HD2.out hw4.size); have RO4 := Sd.mk (Kd.R_below RO.out hw4); have SL4 := Sd.mk (blk_below SL.out hw4); clear hw4; have gv4 : w4.cell? ⟨w.heap.size + 1 + 1, 0, none⟩ = some v := (blk_cell SL4.out 0).trans rfl; have gv5 : (w4.alloc (.cells #[.int .i64 p.1, .int .i64 p.2] 27)).cell? ⟨w.heap.size + 1 + 1, 0, none⟩ = some v := (blk_cell (blk_alloc SL4.out _) 0).trans rfl)
                refine wpAnyIn_ready (rs := [4]) (by kernel_rfl) (by simp) ?_
                refine AllReadyIn.cons rfl (fun K hK => ?_) ?_
                · go_simp
                  refine hK _ _ ?_
                  clear hK K
                  refine wpAnyIn_ready (rs := [5]) (by kernel_rfl) (by simp) ?_
                  refine AllReadyIn.cons rfl (fun K hK => ?_) ?_
                  · refine stepI_R_append k27 (w0 := Wd) (W := w4) (w3.heap.size + 2) (by go_simp) _ _ 24 27 (.agg #[.int .i64 0, .int .i64 0]) 16 rfl Try.underlying24 info27 rfl (by decide) (by decide) v l' ⟨p.1, p.2⟩ [.int .i64 p.1, .int .i64 p.2] (fun _ => True) (fun _ => False) rfl rfl (k27_mkM _ _ _ _) (fun _ h => h.elim) (fun _ _ => trivial) RO4.out BW4.out SZ4.out (by rw [HL.out]; have := HN.out; have := HK.out; omega) ?_
                    intro v1 w5 r5 b5
                    obtain ⟨As, cs5, hv5⟩ := Kd.R_slice r5
                    rw [List.length_append, List.length_singleton] at hv5
                    subst hv5
                    have R5 := Sd.mk r5
                    have B5 := Sd.mk b5
                    clear r5 b5
                    have gs : w5.cell? ⟨w.heap.size + 1 + 1, 0, none⟩ = some v := (blk_cell (Below5 B5.out SL.out (by have := HG.out; have := HG3.out; omega)) 0).trans rfl
                    have gs' := blk_frozen (Below5 B5.out SL.out (by have := HG.out; have := HG3.out; omega)) 0
                    refine hK _ _ ?_
                    clear hK K
                    refine wpAnyIn_ready (rs := [6]) (by kernel_rfl) (by simp) ?_
                    refine AllReadyIn.cons rfl (fun K hK => ?_) ?_
                    · go_simp
                      refine hK _ _ ?_
                      clear hK K
                      refine wpAnyIn_done (by kernel_rfl) ?_ _
                      exact fin { tmps := #[], defers := [] } _ _ R5.out B5.out
                    exact AllReadyIn.nil
                  exact AllReadyIn.nil
                exact AllReadyIn.nil
              exact AllReadyIn.nil
            exact AllReadyIn.nil
          refine AllReadyIn.cons rfl (fun K hK => ?_) ?_
          · go_simp
            refine hK _ _ ?_
            clear hK K
            refine wpAnyIn_ready (rs := [0, 3]) (by kernel_rfl) (by simp) ?_
            refine AllReadyIn.cons rfl (fun K hK => ?_) ?_
            · go_simp
              refine hK _ _ ?_
              clear hK K
              refine wpAnyIn_ready (rs := [3]) (by kernel_rfl) (by simp) ?_
              refine AllReadyIn.cons rfl (fun K hK => ?_) ?_
              · go_simp
                gi_wp2_with (refine ⟨trivial, ?_⟩; gi_at_call 143; refine (CallsIn.inRound l (callsIn_wide.2 (strength_thickness.calls _ _ _ _ _ _ _ _ _ _ _ _ p.1 p.2 _ HP.out))).mono ?_; rintro e w4 ⟨rfl, hw4⟩; have BW4 := Sd.mk (show Below (w3.heap.size + 2) Wd w4 from hw4.mono HD2.out); have SZ4 := Sd.mk (show w3.heap.size + 2 ≤ w4.heap.size from Nat.le_trans HD2.out hw4.size); have RO4 := Sd.mk (Kd.R_below RO.out hw4); have SL4 := Sd.mk (blk_below SL.out hw4); clear hw4; have gv4 : w4.cell? ⟨w.heap.size + 1 + 1, 0, none⟩ = some v := (blk_cell SL4.out 0).trans rfl; have gv5 : (w4.alloc (.cells #[.int .i64 p.1, .int .i64 p.2] 27)).cell? ⟨w.heap.size + 1 + 1, 0, none⟩ = some v := (blk_cell (blk_alloc SL4.out _) 0).trans rfl)
                refine wpAnyIn_ready (rs := [4]) (by kernel_rfl) (by simp) ?_
                refine AllReadyIn.cons rfl (fun K hK => ?_) ?_
                · go_simp
                  refine hK _ _ ?_
                  clear hK K
                  refine wpAnyIn_ready (rs := [5]) (by kernel_rfl) (by simp) ?_
                  refine AllReadyIn.cons rfl (fun K hK => ?_) ?_
                  · refine stepI_R_append k27 (w0 := Wd) (W := w4) (w3.heap.size + 2) (by go_simp) _ _ 24 27 (.agg #[.int .i64 0, .int .i64 0]) 16 rfl Try.underlying24 info27 rfl (by decide) (by decide) v l' ⟨p.1, p.2⟩ [.int .i64 p.1, .int .i64 p.2] (fun _ => True) (fun _ => False) rfl rfl (k27_mkM _ _ _ _) (fun _ h => h.elim) (fun _ _ => trivial) RO4.out BW4.out SZ4.out (by rw [HL.out]; have := HN.out; have := HK.out; omega) ?_
                    intro v1 w5 r5 b5
                    obtain ⟨As, cs5, hv5⟩ := Kd.R_slice r5
                    rw [List.length_append, List.length_singleton] at hv5
                    subst hv5
                    have R5 := Sd.mk r5
                    have B5 := Sd.mk b5
                    clear r5 b5
                    have gs : w5.cell? ⟨w.heap.size + 1 + 1, 0, none⟩ = some v := (blk_cell (Below5 B5.out SL.out (by have := HG.out; have := HG3.out; omega)) 0).trans rfl
                    have gs' := blk_frozen (Below5 B5.out SL.out (by have := HG.out; have := HG3.out; omega)) 0
                    refine hK _ _ ?_
                    clear hK K
                    refine wpAnyIn_ready (rs := [6]) (by kernel_rfl) (by simp) ?_
                    refine AllReadyIn.cons rfl (fun K hK => ?_) ?_
                    · go_simp
                      refine hK _ _ ?_
                      clear hK K
                      refine wpAnyIn_done (by kernel_rfl) ?_ _
                      exact fin { tmps := #[], defers := [] } _ _ R5.out B5.out
                    exact AllReadyIn.nil
                  exact AllReadyIn.nil
                exact AllReadyIn.nil
              exact AllReadyIn.nil
            refine AllReadyIn.cons rfl (fun K hK => ?_) ?_
            · go_simp
              gi_wp2_with (refine ⟨trivial, ?_⟩; gi_at_call 143; refine (CallsIn.inRound l (callsIn_wide.2 (strength_thickness.calls _ _ _ _ _ _ _ _ _ _ _ _ p.1 p.2 _ HP.out))).mono ?_; rintro e w4 ⟨rfl, hw4⟩; have BW4 := Sd.mk (show Below (w3.heap.size + 2) Wd w4 from hw4.mono HD2.out); have SZ4 := Sd.mk (show w3.heap.size + 2 ≤ w4.heap.size from Nat.le_trans HD2.out hw4.size); have RO4 := Sd.mk (Kd.R_below RO.out hw4); have SL4 := Sd.mk (blk_below SL.out hw4); clear hw4; have gv4 : w4.cell? ⟨w.heap.size + 1 + 1, 0, none⟩ = some v := (blk_cell SL4.out 0).trans rfl; have gv5 : (w4.alloc (.cells #[.int .i64 p.1, .int .i64 p.2] 27)).cell? ⟨w.heap.size + 1 + 1, 0, none⟩ = some v := (blk_cell (blk_alloc SL4.out _) 0).trans rfl)
              refine wpAnyIn_ready (rs := [0, 4]) (by kernel_rfl) (by simp) ?_
              refine AllReadyIn.cons rfl (fun K hK => ?_) ?_
              · go_simp
                refine hK _ _ ?_
                clear hK K
                refine wpAnyIn_ready (rs := [4]) (by kernel_rfl) (by simp) ?_
                refine AllReadyIn.cons rfl (fun K hK => ?_) ?_
                · go_simp
                  refine hK _ _ ?_
                  clear hK K
                  refine wpAnyIn_ready (rs := [5]) (by kernel_rfl) (by simp) ?_
                  refine AllReadyIn.cons rfl (fun K hK => ?_) ?_
                  · refine stepI_R_append k27 (w0 := Wd) (W := w4) (w3.heap.size + 2) (by go_simp) _ _ 24 27 (.agg #[.int .i64 0, .int .i64 0]) 16 rfl Try.underlying24 info27 rfl (by decide) (by decide) v l' ⟨p.1, p.2⟩ [.int .i64 p.1, .int .i64 p.2] (fun _ => True) (fun _ => False) rfl rfl (k27_mkM _ _ _ _) (fun _ h => h.elim) (fun _ _ => trivial) RO4.out BW4.out SZ4.out (by rw [HL.out]; have := HN.out; have := HK.out; omega) ?_
                    intro v1 w5 r5 b5
                    obtain ⟨As, cs5, hv5⟩ := Kd.R_slice r5
                    rw [List.length_append, List.length_singleton] at hv5
                    subst hv5
                    have R5 := Sd.mk r5
                    have B5 := Sd.mk b5
                    clear r5 b5
                    have gs : w5.cell? ⟨w.heap.size + 1 + 1, 0, none⟩ = some v := (blk_cell (Below5 B5.out SL.out (by have := HG.out; have := HG3.out; omega)) 0).trans rfl
                    have gs' := blk_frozen (Below5 B5.out SL.out (by have := HG.out; have := HG3.out; omega)) 0
                    refine hK _ _ ?_
                    clear hK K
                    refine wpAnyIn_ready (rs := [6]) (by kernel_rfl) (by simp) ?_
                    refine AllReadyIn.cons rfl (fun K hK => ?_) ?_
                    · go_simp
                      refine hK _ _ ?_
                      clear hK K
                      refine wpAnyIn_done (by kernel_rfl) ?_ _
                      exact fin { tmps := #[], defers := [] } _ _ R5.out B5.out
                    exact AllReadyIn.nil
                  exact AllReadyIn.nil
                exact AllReadyIn.nil
              refine AllReadyIn.cons rfl (fun K hK => ?_) ?_
              · go_simp
                refine hK _ _ ?_
                clear hK K
                refine wpAnyIn_ready (rs := [0]) (by kernel_rfl) (by simp) ?_
                refine AllReadyIn.cons rfl (fun K hK => ?_) ?_
                · go_simp
                  refine hK _ _ ?_
                  clear hK K
                  refine wpAnyIn_ready (rs := [5]) (by kernel_rfl) (by simp) ?_
                  refine AllReadyIn.cons rfl (fun K hK => ?_) ?_
                  · refine stepI_R_append k27 (w0 := Wd) (W := w4) (w3.heap.size + 2) (by go_simp) _ _ 24 27 (.agg #[.int .i64 0, .int .i64 0]) 16 rfl Try.underlying24 info27 rfl (by decide) (by decide) v l' ⟨p.1, p.2⟩ [.int .i64 p.1, .int .i64 p.2] (fun _ => True) (fun _ => False) rfl rfl (k27_mkM _ _ _ _) (fun _ h => h.elim) (fun _ _ => trivial) RO4.out BW4.out SZ4.out (by rw [HL.out]; have := HN.out; have := HK.out; omega) ?_
                    intro v1 w5 r5 b5
                    obtain ⟨As, cs5, hv5⟩ := Kd.R_slice r5
                    rw [List.length_append, List.length_singleton] at hv5
                    subst hv5
                    have R5 := Sd.mk r5
                    have B5 := Sd.mk b5
                    clear r5 b5
                    have gs : w5.cell? ⟨w.heap.size + 1 + 1, 0, none⟩ = some v := (blk_cell (Below5 B5.out SL.out (by have := HG.out; have := HG3.out; omega)) 0).trans rfl
                    have gs' := blk_frozen (Below5 B5.out SL.out (by have := HG.out; have := HG3.out; omega)) 0
                    refine hK _ _ ?_
                    clear hK K
                    refine wpAnyIn_ready (rs := [6]) (by kernel_rfl) (by simp) ?_
                    refine AllReadyIn.cons rfl (fun K hK => ?_) ?_
                    · go_simp
                      refine hK _ _ ?_
                      clear hK K
                      refine wpAnyIn_done (by kernel_rfl) ?_ _
                      exact fin { tmps := #[], defers := [] } _ _ R5.out B5.out
                    exact AllReadyIn.nil
                  exact AllReadyIn.nil
                exact AllReadyIn.nil
              exact AllReadyIn.nil
            exact AllReadyIn.nil
          exact AllReadyIn.nil
        refine AllReadyIn.cons rfl (fun K hK => ?_) ?_
        · go_simp
          refine hK _ _ ?_
          clear hK K
          refine wpAnyIn_ready (rs := [0, 1]) (by kernel_rfl) (by simp) ?_
          refine AllReadyIn.cons rfl (fun K hK => ?_) ?_
          · go_simp
            refine hK _ _ ?_
            clear hK K
            refine wpAnyIn_ready (rs := [1]) (by kernel_rfl) (by simp) ?_
            refine AllReadyIn.cons rfl (fun K hK => ?_) ?_
            · go_simp
              refine hK _ _ ?_
              clear hK K
              refine wpAnyIn_ready (rs := [3]) (by kernel_rfl) (by simp) ?_
              refine AllReadyIn.cons rfl (fun K hK => ?_) ?_
              · go_simp
                gi_wp2_with (refine ⟨trivial, ?_⟩; gi_at_call 143; refine (CallsIn.inRound l (callsIn_wide.2 (strength_thickness.calls _ _ _ _ _ _ _ _ _ _ _ _ p.1 p.2 _ HP.out))).mono ?_; rintro e w4 ⟨rfl, hw4⟩; have BW4 := Sd.mk (show Below (w3.heap.size + 2) Wd w4 from hw4.mono HD2.out); have SZ4 := Sd.mk (show w3.heap.size + 2 ≤ w4.heap.size from Nat.le_trans HD2.out hw4.size); have RO4 := Sd.mk (Kd.R_below RO.out hw4); have SL4 := Sd.mk (blk_below SL.out hw4); clear hw4; have gv4 : w4.cell? ⟨w.heap.size + 1 + 1, 0, none⟩ = some v := (blk_cell SL4.out 0).trans rfl; have gv5 : (w4.alloc (.cells #[.int .i64 p.1, .int .i64 p.2] 27)).cell? ⟨w.heap.size + 1 + 1, 0, none⟩ = some v := (blk_cell (blk_alloc SL4.out _) 0).trans rfl)
                refine wpAnyIn_ready (rs := [4]) (by kernel_rfl) (by simp) ?_
                refine AllReadyIn.cons rfl (fun K hK => ?_) ?_
                · go_simp
                  refine hK _ _ ?_
                  clear hK K
                  refine wpAnyIn_ready (rs := [5]) (by kernel_rfl) (by simp) ?_
                  refine AllReadyIn.cons rfl (fun K hK => ?_) ?_
                  · refine stepI_R_append k27 (w0 := Wd) (W := w4) (w3.heap.size + 2) (by go_simp) _ _ 24 27 (.agg #[.int .i64 0, .int .i64 0]) 16 rfl Try.underlying24 info27 rfl (by decide) (by decide) v l' ⟨p.1, p.2⟩ [.int .i64 p.1, .int .i64 p.2] (fun _ => True) (fun _ => False) rfl rfl (k27_mkM _ _ _ _) (fun _ h => h.elim) (fun _ _ => trivial) RO4.out BW4.out SZ4.out (by rw [HL.out]; have := HN.out; have := HK.out; omega) ?_
                    intro v1 w5 r5 b5
                    obtain ⟨As, cs5, hv5⟩ := Kd.R_slice r5
                    rw [List.length_append, List.length_singleton] at hv5
                    subst hv5
                    have R5 := Sd.mk r5
                    have B5 := Sd.mk b5
                    clear r5 b5
                    have gs : w5.cell? ⟨w.heap.size + 1 + 1, 0, none⟩ = some v := (blk_cell (Below5 B5.out SL.out (by have := HG.out; have := HG3.out; omega)) 0).trans rfl
                    have gs' := blk_frozen (Below5 B5.out SL.out (by have := HG.out; have := HG3.out; omega)) 0
                    refine hK _ _ ?_
                    clear hK K
                    refine wpAnyIn_ready (rs := [6]) (by kernel_rfl) (by simp) ?_
                    refine AllReadyIn.cons rfl (fun K hK => ?_) ?_
                    · go_simp
                      refine hK _ _ ?_
                      clear hK K
                      refine wpAnyIn_done (by kernel_rfl) ?_ _
                      exact fin { tmps := #[], defers := [] } _ _ R5.out B5.out
                    exact AllReadyIn.nil
                  exact AllReadyIn.nil
                exact AllReadyIn.nil
              exact AllReadyIn.nil
            exact AllReadyIn.nil
          refine AllReadyIn.cons rfl (fun K hK => ?_) ?_
          · go_simp
            refine hK _ _ ?_
            clear hK K
            refine wpAnyIn_ready (rs := [0, 3]) (by kernel_rfl) (by simp) ?_
            refine AllReadyIn.cons rfl (fun K hK => ?_) ?_
            · go_simp
              refine hK _ _ ?_
              clear hK K
              refine wpAnyIn_ready (rs := [3]) (by kernel_rfl) (by simp) ?_
              refine AllReadyIn.cons rfl (fun K hK => ?_) ?_
              · go_simp
                gi_wp2_with (refine ⟨trivial, ?_⟩; gi_at_call 143; refine (CallsIn.inRound l (callsIn_wide.2 (strength_thickness.calls _ _ _ _ _ _ _ _ _ _ _ _ p.1 p.2 _ HP.out))).mono ?_; rintro e w4 ⟨rfl, hw4⟩; have BW4 := Sd.mk (show Below (w3.heap.size + 2) Wd w4 from hw4.mono HD2.out); have SZ4 := Sd.mk (show w3.heap.size + 2 ≤ w4.heap.size from Nat.le_trans HD2.out hw4.size); have RO4 := Sd.mk (Kd.R_below RO.out hw4); have SL4 := Sd.mk (blk_below SL.out hw4); clear hw4; have gv4 : w4.cell? ⟨w.heap.size + 1 + 1, 0, none⟩ = some v := (blk_cell SL4.out 0).trans rfl; have gv5 : (w4.alloc (.cells #[.int .i64 p.1, .int .i64 p.2] 27)).cell? ⟨w.heap.size + 1 + 1, 0, none⟩ = some v := (blk_cell (blk_alloc SL4.out _) 0).trans rfl)
                refine wpAnyIn_ready (rs := [4]) (by kernel_rfl) (by simp) ?_
                refine AllReadyIn.cons rfl (fun K hK => ?_) ?_
                · go_simp
                  refine hK _ _ ?_
                  clear hK K
                  refine wpAnyIn_ready (rs := [5]) (by kernel_rfl) (by simp) ?_
                  refine AllReadyIn.cons rfl (fun K hK => ?_) ?_
                  · refine stepI_R_append k27 (w0 := Wd) (W := w4) (w3.heap.size + 2) (by go_simp) _ _ 24 27 (.agg #[.int .i64 0, .int .i64 0]) 16 rfl Try.underlying24 info27 rfl (by decide) (by decide) v l' ⟨p.1, p.2⟩ [.int .i64 p.1, .int .i64 p.2] (fun _ => True) (fun _ => False) rfl rfl (k27_mkM _ _ _ _) (fun _ h => h.elim) (fun _ _ => trivial) RO4.out BW4.out SZ4.out (by rw [HL.out]; have := HN.out; have := HK.out; omega) ?_
                    intro v1 w5 r5 b5
                    obtain ⟨As, cs5, hv5⟩ := Kd.R_slice r5
                    rw [List.length_append, List.length_singleton] at hv5
                    subst hv5
                    have R5 := Sd.mk r5
                    have B5 := Sd.mk b5
                    clear r5 b5
                    have gs : w5.cell? ⟨w.heap.size + 1 + 1, 0, none⟩ = some v := (blk_cell (Below5 B5.out SL.out (by have := HG.out; have := HG3.out; omega)) 0).trans rfl
                    have gs' := blk_frozen (Below5 B5.out SL.out (by have := HG.out; have := HG3.out; omega)) 0
                    refine hK _ _ ?_
                    clear hK K
                    refine wpAnyIn_ready (rs := [6]) (by kernel_rfl) (by simp) ?_
                    refine AllReadyIn.cons rfl (fun K hK => ?_) ?_
                    · go_simp
                      refine hK _ _ ?_
                      clear hK K
                      refine wpAnyIn_done (by kernel_rfl) ?_ _
                      exact fin { tmps := #[], defers := [] } _ _ R5.out B5.out
                    exact AllReadyIn.nil
                  exact AllReadyIn.nil
                exact AllReadyIn.nil
              exact AllReadyIn.nil
            refine AllReadyIn.cons rfl (fun K hK => ?_) ?_
            · go_simp
              gi_wp2_with (refine ⟨trivial, ?_⟩; gi_at_call 143; refine (CallsIn.inRound l (callsIn_wide.2 (strength_thickness.calls _ _ _ _ _ _ _ _ _ _ _ _ p.1 p.2 _ HP.out))).mono ?_; rintro e w4 ⟨rfl, hw4⟩; have BW4 := Sd.mk (show Below (w3.heap.size + 2) Wd w4 from hw4.mono HD2.out); have SZ4 := Sd.mk (show w3.heap.size + 2 ≤ w4.heap.size from Nat.le_trans HD2.out hw4.size); have RO4 := Sd.mk (Kd.R_below RO.out hw4); have SL4 := Sd.mk (blk_below SL.out hw4); clear hw4; have gv4 : w4.cell? ⟨w.heap.size + 1 + 1, 0, none⟩ = some v := (blk_cell SL4.out 0).trans rfl; have gv5 : (w4.alloc (.cells #[.int .i64 p.1, .int .i64 p.2] 27)).cell? ⟨w.heap.size + 1 + 1, 0, none⟩ = some v := (blk_cell (blk_alloc SL4.out _) 0).trans rfl)
              refine wpAnyIn_ready (rs := [0, 4]) (by kernel_rfl) (by simp) ?_
              refine AllReadyIn.cons rfl (fun K hK => ?_) ?_
              · go_simp
                refine hK _ _ ?_
                clear hK K
                refine wpAnyIn_ready (rs := [4]) (by kernel_rfl) (by simp) ?_
                refine AllReadyIn.cons rfl (fun K hK => ?_) ?_
                · go_simp
                  refine hK _ _ ?_
                  clear hK K
                  refine wpAnyIn_ready (rs := [5]) (by kernel_rfl) (by simp) ?_
                  refine AllReadyIn.cons rfl (fun K hK => ?_) ?_
                  · refine stepI_R_append k27 (w0 := Wd) (W := w4) (w3.heap.size + 2) (by go_simp) _ _ 24 27 (.agg #[.int .i64 0, .int .i64 0]) 16 rfl Try.underlying24 info27 rfl (by decide) (by decide) v l' ⟨p.1, p.2⟩ [.int .i64 p.1, .int .i64 p.2] (fun _ => True) (fun _ => False) rfl rfl (k27_mkM _ _ _ _) (fun _ h => h.elim) (fun _ _ => trivial) RO4.out BW4.out SZ4.out (by rw [HL.out]; have := HN.out; have := HK.out; omega) ?_
                    intro v1 w5 r5 b5
                    obtain ⟨As, cs5, hv5⟩ := Kd.R_slice r5
                    rw [List.length_append, List.length_singleton] at hv5
                    subst hv5
                    have R5 := Sd.mk r5
                    have B5 := Sd.mk b5
                    clear r5 b5
                    have gs : w5.cell? ⟨w.heap.size + 1 + 1, 0, none⟩ = some v := (blk_cell (Below5 B5.out SL.out (by have := HG.out; have := HG3.out; omega)) 0).trans rfl
                    have gs' := blk_frozen (Below5 B5.out SL.out (by have := HG.out; have := HG3.out; omega)) 0
                    refine hK _ _ ?_
                    clear hK K
                    refine wpAnyIn_ready (rs := [6]) (by kernel_rfl) (by simp) ?_
                    refine AllReadyIn.cons rfl (fun K hK => ?_) ?_
                    · go_simp
                      refine hK _ _ ?_
                      clear hK K
                      refine wpAnyIn_done (by kernel_rfl) ?_ _
                      exact fin { tmps := #[], defers := [] } _ _ R5.out B5.out
                    exact AllReadyIn.nil
                  exact AllReadyIn.nil
                exact AllReadyIn.nil
              refine AllReadyIn.cons rfl (fun K hK => ?_) ?_
              · go_simp
                refine hK _ _ ?_
                clear hK K
                refine wpAnyIn_ready (rs := [0]) (by kernel_rfl) (by simp) ?_
                refine AllReadyIn.cons rfl (fun K hK => ?_) ?_
                · go_simp
                  refine hK _ _ ?_
                  clear hK K
                  refine wpAnyIn_ready (rs := [5]) (by kernel_rfl) (by simp) ?_
                  refine AllReadyIn.cons rfl (fun K hK => ?_) ?_
                  · refine stepI_R_append k27 (w0 := Wd) (W := w4) (w3.heap.size + 2) (by go_simp) _ _ 24 27 (.agg #[.int .i64 0, .int .i64 0]) 16 rfl Try.underlying24 info27 rfl (by decide) (by decide) v l' ⟨p.1, p.2⟩ [.int .i64 p.1, .int .i64 p.2] (fun _ => True) (fun _ => False) rfl rfl (k27_mkM _ _ _ _) (fun _ h => h.elim) (fun _ _ => trivial) RO4.out BW4.out SZ4.out (by rw [HL.out]; have := HN.out; have := HK.out; omega) ?_
                    intro v1 w5 r5 b5
                    obtain ⟨As, cs5, hv5⟩ := Kd.R_slice r5
                    rw [List.length_append, List.length_singleton] at hv5
                    subst hv5
                    have R5 := Sd.mk r5
                    have B5 := Sd.mk b5
                    clear r5 b5
                    have gs : w5.cell? ⟨w.heap.size + 1 + 1, 0, none⟩ = some v := (blk_cell (Below5 B5.out SL.out (by have := HG.out; have := HG3.out; omega)) 0).trans rfl
                    have gs' := blk_frozen (Below5 B5.out SL.out (by have := HG.out; have := HG3.out; omega)) 0
                    refine hK _ _ ?_
                    clear hK K
                    refine wpAnyIn_ready (rs := [6]) (by kernel_rfl) (by simp) ?_
                    refine AllReadyIn.cons rfl (fun K hK => ?_) ?_
                    · go_simp
                      refine hK _ _ ?_
                      clear hK K
                      refine wpAnyIn_done (by kernel_rfl) ?_ _
                      exact fin { tmps := #[], defers := [] } _ _ R5.out B5.out
                    exact AllReadyIn.nil
                  exact AllReadyIn.nil
                exact AllReadyIn.nil
              exact AllReadyIn.nil
            exact AllReadyIn.nil
          exact AllReadyIn.nil
        exact AllReadyIn.nil
      case fn => intro ⟨_, _, h⟩; exact h.elim
      case panic => intro _ _ h; exact h.elim
      case done =>
        intro W hI hD
        obtain ⟨v, l9, hI⟩ := hI
        have hll' := hI.li
        rw [HL.out] at hll'
        have e9 := Option.some.inj hll'
        subst e9
        have HI2 := Sd.mk hI
        have HD := Sd.mk hD
        obtain ⟨As, cs5, rfl⟩ := Kd.R_slice hI.ro
        have gv : W.cell? ⟨w.heap.size + 1 + 1, 0, none⟩ = some (.slice As l.length cs5) := (blk_cell hI.sl 0).trans rfl
        have gv' := blk_frozen hI.sl 0
        have ge : (W.setCell ⟨w.heap.size + 1 + 1, 0, none⟩ (.slice As l.length cs5)).cell? ⟨w.heap.size + 1 + 1 + 1, 0, none⟩ = some (.int .i64 0) := (blk_cell (blk_far hI.er (p := ⟨w.heap.size + 1 + 1, 0, none⟩) (by simp) _) 0).trans rfl
        have ge' := blk_frozen (blk_far hI.er (p := ⟨w.heap.size + 1 + 1, 0, none⟩) (by simp) (.slice As l.length cs5)) 0
        clear hI hD BX3 BS3 BL3 BE3 RB3 HB3 BX1 BS1 BL1 BE1 HB1 BL2 BE2 HB2 HB BX BS BL BE
        gi_wp2
        have hg1 := HG.out
        have hg2 := HG3.out
        have hi2 := HI2.out
        refine ⟨by simp, .inl ⟨_, _, rfl, run_takeDeferred ((Below.heap_setCell _ _ _ _ (by simp; omega)).trans ((Below.heap_setCell _ _ _ _ (by simp; omega)).trans HD.out)), ?_⟩⟩
        refine leavesInM_fn (f := 139) (args := #[.pointer (some ⟨w.heap.size + 1 + 1 + 1, 0, none⟩)]) (by simp) (by simp [go_sem]) ?_
        refine (door139I_ok _ _ _).mono ?_
        rintro e u' w'' ⟨rfl, rfl, rfl⟩
        have hlt : w3.heap.size < W.heap.size := (Array.getElem?_eq_some_iff.1 HD.out).1
        refine ⟨_, results_ce rfl _ _ (w.heap.size + 1 + 1) (w.heap.size + 1 + 1 + 1) _ _ rfl (run_var24 _ _ _ (putObj_heap_keep (by omega) (blk_far (blk_put hi2.sl 0 _ rfl) (p := ⟨w.heap.size + 1 + 1 + 1, 0, none⟩) (by simp) _))) rfl (putObj_heap_keep (by omega) (blk_put (blk_far hi2.er (p := ⟨w.heap.size + 1 + 1, 0, none⟩) (by simp) _) 0 _ rfl)), _, rfl, ?_, below_putObj (below_set (below_set hi2.be (by omega)) (by omega)) (by omega) (by simpa using hlt)⟩
        exact Kd.R_lower (R_put (Kd.R_set (Kd.R_set hi2.ro hi2.sl (by simp [k27_E]) 0 _) (blk_far hi2.er (p := ⟨w.heap.size + 1 + 1, 0, none⟩) (by simp) _) (by simp [k27_E]) 0 _) (by omega) _) (by omega)
    | false =>
      rw [if_neg (by rw [hi']; simp)] at h
      simp only [Option.some.injEq, Prod.mk.injEq] at h
      obtain ⟨rfl, rfl⟩ := h
      have HI := Sd.mk hi'
      clear hi'
      refine (callsIn_wide (n := 9)).1 (callsIn_of_wp_marks Try.func85 rfl trivial ?_ rfl)
      simp only [Try.ntmps85, List.size_toArray, List.length_cons, List.length_nil, Nat.reduceAdd, Nat.reduceSub, Array.replicate_succ, Array.replicate_zero, List.push_toArray, List.append_toArray, List.nil_append, List.cons_append]
      gi_wp2_with (first | (refine ⟨trivial, ?_⟩; gi_at_call 140; refine (callsIn_wide.2 (bottle_ok A c zs f1 f2 _ HR.out H0.out)).mono ?_; rintro e w1 ⟨rfl, hw1⟩; have BX1 := Sd.mk (blk_below BX.out hw1); have BS1 := Sd.mk (blk_below BS.out hw1); have BL1 := Sd.mk (blk_below BL.out hw1); have BE1 := Sd.mk (blk_below BE.out hw1); have HB1 := Sd.mk (below_then HB.out (by have := HSZ.out; omega) hw1); have HSZ1 := Sd.mk (show w.heap.size + 4 ≤ w1.heap.size from Nat.le_trans (by have := HSZ.out; omega) hw1.size); clear hw1; have ht0 : w1.cell? ⟨w.heap.size + 1, 0, none⟩ = some (.int .i64 lo) := (blk_cell BS1.out 0).trans rfl; have ht1 : w1.cell? ⟨w.heap.size + 1, 0 + 1, none⟩ = some (.int .i64 hi) := (blk_cell BS1.out 1).trans rfl; have hb0 : w1.cell? ⟨w.heap.size, 0, none⟩ = some (.slice A zs.length c) := (blk_cell BX1.out 0).trans rfl; have hb1 : w1.cell? ⟨w.heap.size, 0 + 1, none⟩ = some (.int .i64 f1) := (blk_cell BX1.out 1).trans rfl; have hb2 : w1.cell? ⟨w.heap.size, 0 + 2, none⟩ = some (.int .i64 f2) := (blk_cell BX1.out 2).trans rfl) | (refine ⟨trivial, ?_⟩; gi_at_call 141; refine (callsIn_wide.2 (sspan_f _ _ _ _ _)).mono ?_; rw [HI.out]; rintro e w2 ⟨rfl, hw2⟩; have BX2 := BX1; have BS2 := BS1; clear BX1 BS1; have BX1 := Sd.mk (blk_below BX2.out hw2); have BS1 := Sd.mk (blk_below BS2.out hw2); have BL2 := Sd.mk (blk_below BL1.out hw2); have BE2 := Sd.mk (blk_below BE1.out hw2); have HB2 := Sd.mk (below_then HB1.out HB1.out.size hw2); have HSZ2 := Sd.mk (show w.heap.size + 4 ≤ w2.heap.size from Nat.le_trans HSZ1.out hw2.size); clear BX2 BS2 hw2; have hb0 : w2.cell? ⟨w.heap.size, 0, none⟩ = some (.slice A zs.length c) := (blk_cell BX1.out 0).trans rfl; have hb1 : w2.cell? ⟨w.heap.size, 0 + 1, none⟩ = some (.int .i64 f1) := (blk_cell BX1.out 1).trans rfl; have hb2 : w2.cell? ⟨w.heap.size, 0 + 2, none⟩ = some (.int .i64 f2) := (blk_cell BX1.out 2).trans rfl) | (refine ⟨trivial, ?_⟩; gi_at_call 91; (with_reducible refine (callsIn_wide.2 (demand_no _ _)).mono ?_); rintro e w' ⟨rfl, rfl⟩))
      refine leavesInM_fn (f := 139) (args := #[.pointer (some ⟨w.heap.size + 1 + 1 + 1, 0, none⟩)]) (by simp) (by simp [go_sem]) ?_
      refine (door139I_fail _ _ _ 0 [] _ BE2.out).mono ?_
      rintro e u' w'' ⟨rfl, rfl, rfl⟩
      exact ⟨_, results_ce rfl _ _ (w.heap.size + 1 + 1) (w.heap.size + 1 + 1 + 1) _ _ rfl (run_var24 _ _ _ (blk_far (blk_alloc BL2.out _) (p := ⟨w.heap.size + 1 + 1 + 1, 0, none⟩) (by simp) _)) rfl (blk_put (blk_alloc BE2.out _) 0 _ rfl), _, rfl, Kd.R_nil _ _ _ _ _, below_set (below_alloc HB2.out _) (by omega)⟩
  · rw [if_neg h0] at h
    simp only [Option.some.injEq, Prod.mk.injEq] at h
    obtain ⟨rfl, rfl⟩ := h
    have H0 := Sd.mk h0
    clear h0
    refine (callsIn_wide (n := 9)).1 (callsIn_of_wp_marks Try.func85 rfl trivial ?_ rfl)
    simp only [Try.ntmps85, List.size_toArray, List.length_cons, List.length_nil, Nat.reduceAdd, Nat.reduceSub, Array.replicate_succ, Array.replicate_zero, List.push_toArray, List.append_toArray, List.nil_append, List.cons_append]
    gi_wp2_with (first | (refine ⟨trivial, ?_⟩; gi_at_call 140; refine (callsIn_wide.2 (bottle_no A c zs f1 f2 _ HR.out H0.out)).mono ?_; rintro e w1 ⟨rfl, hw1⟩; have BX1 := Sd.mk (blk_below BX.out hw1); have BS1 := Sd.mk (blk_below BS.out hw1); have BL1 := Sd.mk (blk_below BL.out hw1); have BE1 := Sd.mk (blk_below BE.out hw1); have HB1 := Sd.mk (below_then HB.out (by have := HSZ.out; omega) hw1); have HSZ1 := Sd.mk (show w.heap.size + 4 ≤ w1.heap.size from Nat.le_trans (by have := HSZ.out; omega) hw1.size); clear hw1; have ht0 : w1.cell? ⟨w.heap.size + 1, 0, none⟩ = some (.int .i64 lo) := (blk_cell BS1.out 0).trans rfl; have ht1 : w1.cell? ⟨w.heap.size + 1, 0 + 1, none⟩ = some (.int .i64 hi) := (blk_cell BS1.out 1).trans rfl; have hb0 : w1.cell? ⟨w.heap.size, 0, none⟩ = some (.slice A zs.length c) := (blk_cell BX1.out 0).trans rfl; have hb1 : w1.cell? ⟨w.heap.size, 0 + 1, none⟩ = some (.int .i64 f1) := (blk_cell BX1.out 1).trans rfl; have hb2 : w1.cell? ⟨w.heap.size, 0 + 2, none⟩ = some (.int .i64 f2) := (blk_cell BX1.out 2).trans rfl))
    refine leavesInM_fn (f := 139) (args := #[.pointer (some ⟨w.heap.size + 1 + 1 + 1, 0, none⟩)]) (by simp) (by simp [go_sem]) ?_
    refine (door139I_fail _ _ _ 0 [] _ BE1.out).mono ?_
    rintro e u' w'' ⟨rfl, rfl, rfl⟩
    exact ⟨_, results_ce rfl _ _ (w.heap.size + 1 + 1) (w.heap.size + 1 + 1 + 1) _ _ rfl (run_var24 _ _ _ (blk_far (blk_alloc BL1.out _) (p := ⟨w.heap.size + 1 + 1 + 1, 0, none⟩) (by simp) _)) rfl (blk_put (blk_alloc BE1.out _) 0 _ rfl), _, rfl, Kd.R_nil _ _ _ _ _, below_set (below_alloc HB1.out _) (by omega)⟩
end Go.Proofs.Ytkjkokgbhepmoaa.PB

namespace Go.Proofs.Ytkjkokgbhepmoaa.PB
open Go.RowKit Go.Proofs.YtkjkokgbhepmoaaW.PrintWords Go.Proofs.YtkjkokgbhepmoaaW.PrintLast Go.Proofs.YtkjkokgbhepmoaaW.PrintMore
attribute [local go_sem] max2_int min2_int max_two min_two max_three min_three max_four min_four
def culletlaw05_exact.f (a0 : Int) : Option (Int × Int) := some (a0, a0)
set_option maxHeartbeats 8000000 in
set_option maxRecDepth 100000 in
theorem culletlaw05_exact.calls (a0 : Int) (r1 : Int) (r2 : Int) (w : World) (h : culletlaw05_exact.f a0 = some (r1, r2)) :
  Calls Try.prog 144 #[.int .i64 a0] w fun e w' => e = .returned (.agg #[.int .i64 r1, .int .i64 r2]) ∧ Below w.heap.size w w' := by
 have hu27 := Try.underlying27; have HB := Sd.mk (Below.refl w.heap.size w)
 have H : (some (a0, a0)) = some (r1, r2) := h
 clear h
 simp only [Option.some.injEq, Prod.mk.injEq] at H
 obtain ⟨rfl, rfl⟩ := H
 go_enter Try.func144, Try.ntmps144
 go_wp2_with (first | ((with_reducible refine gate_dst (N := 2) rfl ?_); refine box_event ?hg (N := 2) ?hd (cs := #[.int .i64 0, .int .i64 0]) (t := 27) ?hr ?_; (case hd => rfl); (case hg => rfl); (case hr => exact tG); intro gb634 hg w2 hbox hb; have BK634 := Sd.mk (hbox); have GW634 := Sd.mk (bSz hg (bBl HB.out)); have GE634 := Sd.mk (bSz hg (bBl HB.out)); replace HB := Sd.mk (below_step (bBl HB.out) hb); clear hb hbox hg; obtain ⟨u3_0, u3_1, o3_0, o3_1⟩ := bc2 (w := w2) BK634.out))
 refine bodyPost_ret (results_cell_row rfl _ _ gb634 27 #[.int .i64 a0, .int .i64 a0] (0, 0) _ rfl (by (with_reducible repeat (first | refine blk_drewN ?_ _ | refine blk_drew ?_ | refine blk_alloc ?_ _)); refine blk_put (cs := #[.int .i64 a0, .int .i64 0]) ?_ 1 _ rfl; (with_reducible repeat (first | refine blk_drewN ?_ _ | refine blk_drew ?_ | refine blk_alloc ?_ _)); refine blk_put (cs := #[.int .i64 0, .int .i64 0]) ?_ 0 _ rfl; (with_reducible repeat (first | refine blk_drewN ?_ _ | refine blk_drew ?_ | refine blk_alloc ?_ _)); exact BK634.out) Try.underlying27 rfl (by kernel_rfl)) rfl ?_
 exact ⟨tE, bBl HB.out⟩
end Go.Proofs.Ytkjkokgbhepmoaa.PB

namespace Go.Proofs.Ytkjkokgbhepmoaa.PB
open Go.RowKit Go.Proofs.YtkjkokgbhepmoaaW.PrintWords Go.Proofs.YtkjkokgbhepmoaaW.PrintLast Go.Proofs.YtkjkokgbhepmoaaW.PrintMore
attribute [local go_sem] max2_int min2_int max_two min_two max_three min_three max_four min_four
def culletlaw05_Example.f  : Option ((List (S170)) × Int × Int) := (culletlaw05_exact.f 300).bind fun bt636 => ((culletlaw05_exact.f 1000).bind fun bt638 => ((culletlaw05_exact.f 1000).bind fun bt640 => ((culletlaw05_exact.f 1000).bind fun bt642 => ((culletlaw05_exact.f 500).bind fun bt644 => (some ((([(⟨(⟨bt636.1, bt636.2⟩ : S27), (⟨bt638.1, bt638.2⟩ : S27), (⟨bt640.1, bt640.2⟩ : S27), (⟨bt642.1, bt642.2⟩ : S27), (⟨bt644.1, bt644.2⟩ : S27)⟩ : S170)] : List (S170))), 10, 40000000000))))))
set_option maxHeartbeats 8000000 in
set_option maxRecDepth 100000 in
theorem culletlaw05_Example.calls  (r1 : List (S170)) (r2 : Int) (r3 : Int) (w : World) (h : culletlaw05_Example.f  = some (r1, r2, r3)) :
  Calls Try.prog 86 #[] w fun e w' => ∃ v0_ : Value, e = .returned (.agg #[v0_, .int .i64 r2, .int .i64 r3]) ∧ Kd.R k170 170 w' w.heap.size (fun _ => True) v0_ r1 ∧ Below w.heap.size w w' := by
 have hu92 := Try.underlying92; have hu170 := Try.underlying170; have HB := Sd.mk (Below.refl w.heap.size w)
 have H : ((culletlaw05_exact.f 300).bind fun bt636 => ((culletlaw05_exact.f 1000).bind fun bt638 => ((culletlaw05_exact.f 1000).bind fun bt640 => ((culletlaw05_exact.f 1000).bind fun bt642 => ((culletlaw05_exact.f 500).bind fun bt644 => (some ((([(⟨(⟨bt636.1, bt636.2⟩ : S27), (⟨bt638.1, bt638.2⟩ : S27), (⟨bt640.1, bt640.2⟩ : S27), (⟨bt642.1, bt642.2⟩ : S27), (⟨bt644.1, bt644.2⟩ : S27)⟩ : S170)] : List (S170))), 10, 40000000000))))))) = some (r1, r2, r3) := h
 clear h; replace H := Option.bind_eq_some_iff.mp H
 obtain ⟨⟨t636, t637⟩, A10, H⟩ := H
 try dsimp only at H
 have A1 := Sd.mk A10; clear A10; replace H := Option.bind_eq_some_iff.mp H
 obtain ⟨⟨t638, t639⟩, A20, H⟩ := H
 try dsimp only at H
 have A2 := Sd.mk A20; clear A20; replace H := Option.bind_eq_some_iff.mp H
 obtain ⟨⟨t640, t641⟩, A30, H⟩ := H
 try dsimp only at H
 have A3 := Sd.mk A30; clear A30; replace H := Option.bind_eq_some_iff.mp H
 obtain ⟨⟨t642, t643⟩, A40, H⟩ := H
 try dsimp only at H
 have A4 := Sd.mk A40; clear A40; replace H := Option.bind_eq_some_iff.mp H
 obtain ⟨⟨t644, t645⟩, A50, H⟩ := H
 try dsimp only at H
 have A5 := Sd.mk A50; clear A50
 obtain ⟨y646, hy646⟩ : ∃ y_ : List (S170), y_ = (([(⟨(⟨t636, t637⟩ : S27), (⟨t638, t639⟩ : S27), (⟨t640, t641⟩ : S27), (⟨t642, t643⟩ : S27), (⟨t644, t645⟩ : S27)⟩ : S170)] : List (S170))) := ⟨_, rfl⟩
 replace H : (some (y646, 10, 40000000000)) = some (r1, r2, r3) := by first | (rw [hy646]; with_reducible exact H) | (have H2_ := (Option.bind_some _ _).symm.trans H; rw [hy646]; with_reducible exact H2_) | (have H2_ := (Option.bind_some _ _).symm.trans H; with_reducible exact H2_) | with_reducible exact H | (rw [hy646]; exact H) | exact H
 have Ny646 := Sd.mk hy646; clear hy646
 simp only [Option.some.injEq, Prod.mk.injEq] at H
 obtain ⟨rfl, rfl, rfl⟩ := H
 go_enter Try.func86, Try.ntmps86
 go_wp2_with (first | ((with_reducible refine gate_dst (N := 0) rfl ?_); refine box_event ?hg (N := 0) ?hd (cs := #[.slice none 0 0, .int .i64 0, .int .i64 0]) (t := 92) ?hr ?_; (case hd => rfl); (case hg => rfl); (case hr => exact tG); intro gb635 hg w6 hbox hb; have BK635 := Sd.mk (hbox); have GW635 := Sd.mk (bSz hg (bBl HB.out)); have GE635 := Sd.mk (bSz hg (bBl HB.out)); replace HB := Sd.mk (below_step (bBl HB.out) hb); clear hb hbox hg) | ((with_reducible refine gate_callee (f := 144) rfl ?_); refine goesL_ (some 1) rfl rfl Try.func144 (by kernel_rfl) rfl #[.int .i64 300] rfl tM ?_; (with_reducible refine (culletlaw05_exact.calls 300 t636 t637 _ A1.out).mono ?_); rintro e w7 ⟨rfl, hb⟩; refine ⟨_, rfl, ?_⟩; replace BK635 := Sd.mk (blk_below (bkA BK635.out) hb); replace HB := Sd.mk (below_step (bBl HB.out) hb); (try clear hb); (try clear hb2); (try clear hk); (try clear hi)) | ((with_reducible refine gate_callee (f := 144) rfl ?_); refine goesL_ (some 2) rfl rfl Try.func144 (by kernel_rfl) rfl #[.int .i64 1000] rfl tM ?_; (with_reducible refine (culletlaw05_exact.calls 1000 t638 t639 _ A2.out).mono ?_); rintro e w8 ⟨rfl, hb⟩; refine ⟨_, rfl, ?_⟩; replace BK635 := Sd.mk (blk_below (bkA BK635.out) hb); replace HB := Sd.mk (below_step (bBl HB.out) hb); (try clear hb); (try clear hb2); (try clear hk); (try clear hi)) | ((with_reducible refine gate_callee (f := 144) rfl ?_); refine goesL_ (some 3) rfl rfl Try.func144 (by kernel_rfl) rfl #[.int .i64 1000] rfl tM ?_; (with_reducible refine (culletlaw05_exact.calls 1000 t640 t641 _ A3.out).mono ?_); rintro e w9 ⟨rfl, hb⟩; refine ⟨_, rfl, ?_⟩; replace BK635 := Sd.mk (blk_below (bkA BK635.out) hb); replace HB := Sd.mk (below_step (bBl HB.out) hb); (try clear hb); (try clear hb2); (try clear hk); (try clear hi)) | ((with_reducible refine gate_callee (f := 144) rfl ?_); refine goesL_ (some 4) rfl rfl Try.func144 (by kernel_rfl) rfl #[.int .i64 1000] rfl tM ?_; (with_reducible refine (culletlaw05_exact.calls 1000 t642 t643 _ A4.out).mono ?_); rintro e w10 ⟨rfl, hb⟩; refine ⟨_, rfl, ?_⟩; replace BK635 := Sd.mk (blk_below (bkA BK635.out) hb); replace HB := Sd.mk (below_step (bBl HB.out) hb); (try clear hb); (try clear hb2); (try clear hk); (try clear hi)) | ((with_reducible refine gate_callee (f := 144) rfl ?_); refine goesL_ (some 5) rfl rfl Try.func144 (by kernel_rfl) rfl #[.int .i64 500] rfl tM ?_; (with_reducible refine (culletlaw05_exact.calls 500 t644 t645 _ A5.out).mono ?_); rintro e w11 ⟨rfl, hb⟩; refine ⟨_, rfl, ?_⟩; replace BK635 := Sd.mk (blk_below (bkA BK635.out) hb); replace HB := Sd.mk (below_step (bBl HB.out) hb); (try clear hb); (try clear hb2); (try clear hk); (try clear hi)) | ((with_reducible refine gate_dst (N := 7) rfl ?_); refine Kd.R_lit k170 _ 170 ?hg (N := 7) ?hd (xs := ([(⟨(⟨t636, t637⟩ : S27), (⟨t638, t639⟩ : S27), (⟨t640, t641⟩ : S27), (⟨t642, t643⟩ : S27), (⟨t644, t645⟩ : S27)⟩ : S170)] : List (S170))) (inner := [.int .i64 t636, .int .i64 t637, .int .i64 t638, .int .i64 t639, .int .i64 t640, .int .i64 t641, .int .i64 t642, .int .i64 t643, .int .i64 t644, .int .i64 t645]) (ok := fun _ => True) (okp := fun _ => True) ?hr ?hp (fun _ hk => hk) trivial (Below.refl _ _) (Nat.le_refl _) (by simp) ?_; (case hd => rfl); (case hg => rfl); (case hr => exact tG); (case hp => exact (Reps.c10 (show Kd.M k170 _ _ _ (⟨(⟨t636, t637⟩ : S27), (⟨t638, t639⟩ : S27), (⟨t640, t641⟩ : S27), (⟨t642, t643⟩ : S27), (⟨t644, t645⟩ : S27)⟩ : S170) [.int .i64 t636, .int .i64 t637, .int .i64 t638, .int .i64 t639, .int .i64 t640, .int .i64 t641, .int .i64 t642, .int .i64 t643, .int .i64 t644, .int .i64 t645] from (k170_mkM _ _ _ (⟨(⟨t636, t637⟩ : S27), (⟨t638, t639⟩ : S27), (⟨t640, t641⟩ : S27), (⟨t642, t643⟩ : S27), (⟨t644, t645⟩ : S27)⟩ : S170) )) (Reps.none _ _))); intro v647 w12 ho13 hb hg_ hnew_; clear hg_ hnew_; (first | rw [← Ny646.out] at ho13 | (simp only [Int.reduceToNat] at ho13; rw [← Ny646.out] at ho13)); have HO648 := Sd.mk (Kd.R_lower ho13 (below_size (bBl HB.out))); replace BK635 := Sd.mk (blk_below (bkA BK635.out) hb); replace HB := Sd.mk (below_step (bBl HB.out) hb); clear hb ho13; obtain ⟨Ao14, co14, eo14⟩ := Kd.R_slice HO648.out; subst eo14; obtain ⟨u15_0, u15_1, u15_2, o15_0, o15_1, o15_2⟩ := bc3 (w := w12) BK635.out))
 refine bodyPost_ret (results_cell_row rfl _ _ gb635 92 #[.slice Ao14 y646.length co14, .int .i64 10, .int .i64 40000000000] (0, 0) _ rfl (by (with_reducible repeat (first | refine blk_drewN ?_ _ | refine blk_drew ?_ | refine blk_alloc ?_ _)); refine blk_put (cs := #[.slice Ao14 y646.length co14, .int .i64 10, .int .i64 0]) ?_ 2 _ rfl; (with_reducible repeat (first | refine blk_drewN ?_ _ | refine blk_drew ?_ | refine blk_alloc ?_ _)); refine blk_put (cs := #[.slice Ao14 y646.length co14, .int .i64 0, .int .i64 0]) ?_ 1 _ rfl; (with_reducible repeat (first | refine blk_drewN ?_ _ | refine blk_drew ?_ | refine blk_alloc ?_ _)); refine blk_put (cs := #[.slice none 0 0, .int .i64 0, .int .i64 0]) ?_ 0 _ rfl; (with_reducible repeat (first | refine blk_drewN ?_ _ | refine blk_drew ?_ | refine blk_alloc ?_ _)); exact BK635.out) Try.underlying92 rfl (by kernel_rfl)) rfl ?_
 exact ⟨_, tE, by (with_reducible repeat (first | apply Kd.R_alloc | apply Kd.R_drewN | apply Kd.R_drew)); exact Kd.R_mono (Kd.R_far (p := ⟨gb635, 2, none⟩) (Kd.R_far (p := ⟨gb635, 1, none⟩) (Kd.R_far (p := ⟨gb635, 0, none⟩) (Kd.R_types HO648.out BK635.out (by decide)) (fun _ hk => hk.2) (.slice Ao14 y646.length co14)) (fun _ hk => hk.2) (.int .i64 10)) (fun _ hk => hk.2) (.int .i64 40000000000)) (fun _ hk => trivial), bBl HB.out⟩
end Go.Proofs.Ytkjkokgbhepmoaa.PB

namespace Go.Proofs.Ytkjkokgbhepmoaa.PB
open Go.RowKit Go.Proofs.YtkjkokgbhepmoaaW.PrintWords Go.Proofs.YtkjkokgbhepmoaaW.PrintLast Go.Proofs.YtkjkokgbhepmoaaW.PrintMore
attribute [local go_sem] max2_int min2_int max_two min_two max_three min_three max_four min_four
def culletlaw05_lives.f (k : Nat)  : Option (Bool) := (culletlaw05_Example.f).bind fun bt647 => ((x_Thickness.f bt647.1 bt647.2.1 bt647.2.2 1000 1000).bind fun bt652 => (if bt652.2 = 0 then ((lw_SameSpans.f k bt652.1 (([(⟨212, 213⟩ : S27)] : List (S27)))).bind fun t659 => (some t659)) else (some false)))
theorem culletlaw05_lives.mono : ∀ k, LeO (culletlaw05_lives.f k ) (culletlaw05_lives.f (k + 1) ) := by
  intro  k
  unfold culletlaw05_lives.f
  repeat' first
      | (with_reducible exact lw_SameSpans.mono _ _ _)
      | (with_reducible exact LeO.refl _)
      | (with_reducible exact LeO.none _)
      | (with_reducible refine LeO.ite ?_ ?_)
      | (with_reducible refine LeO.bind ?_ (fun _ => ?_))
      | exact lw_SameSpans.mono _ _ _
      | exact LeO.none _
      | refine LeO.ite ?_ ?_
      | refine LeO.bind ?_ (fun _ => ?_)
set_option maxHeartbeats 8000000 in
set_option maxRecDepth 100000 in
theorem culletlaw05_lives.calls (k : Nat)  (r : Bool) (w : World) (h : culletlaw05_lives.f k  = some r) :
    Calls Try.prog 36 #[] w fun e w' => e = .returned (.bool r) ∧ Below w.heap.size w w' := by
  have hu27 := Try.underlying27
  have HB := Sd.mk (Below.refl w.heap.size w)
  have H : ((culletlaw05_Example.f).bind fun bt647 => ((x_Thickness.f bt647.1 bt647.2.1 bt647.2.2 1000 1000).bind fun bt652 => (if bt652.2 = 0 then ((lw_SameSpans.f k bt652.1 (([(⟨212, 213⟩ : S27)] : List (S27)))).bind fun t659 => (some t659)) else (some false)))) = some r := h
  clear h
  replace H := Option.bind_eq_some_iff.mp H
  obtain ⟨⟨t647, t650, t651⟩, A10, H⟩ := H
  replace H : ((x_Thickness.f t647 t650 t651 1000 1000).bind fun bt652 => (if bt652.2 = 0 then ((lw_SameSpans.f k bt652.1 (([(⟨212, 213⟩ : S27)] : List (S27)))).bind fun t659 => (some t659)) else (some false))) = some r := H
  have A1 := Sd.mk A10
  clear A10
  replace H := Option.bind_eq_some_iff.mp H
  obtain ⟨⟨t652, t655⟩, A20, H⟩ := H
  replace H : (if t655 = 0 then ((lw_SameSpans.f k t652 (([(⟨212, 213⟩ : S27)] : List (S27)))).bind fun t659 => (some t659)) else (some false)) = some r := H
  have A2 := Sd.mk A20
  clear A20
  by_cases c3 : t655 = 0
  · rw [if_pos c3] at H
    have c3b0 : (t655 == 0) = true := beq_iff_eq.mpr c3
    have c3b1 : (t655 != 0) = false := bne_eq_false_iff_eq.mpr c3
    clear c3
    obtain ⟨y656, hy656⟩ : ∃ y_ : List (S27), y_ = (([(⟨212, 213⟩ : S27)] : List (S27))) := ⟨_, rfl⟩
    replace H : ((lw_SameSpans.f k t652 y656).bind fun t659 => (some t659)) = some r := by first | (rw [hy656]; with_reducible exact H) | (have H2_ := (Option.bind_some _ _).symm.trans H; rw [hy656]; with_reducible exact H2_) | (have H2_ := (Option.bind_some _ _).symm.trans H; with_reducible exact H2_) | with_reducible exact H | (rw [hy656]; exact H) | exact H
    have Ny656 := Sd.mk hy656
    clear hy656
    replace H := Option.bind_eq_some_iff.mp H
    obtain ⟨t659, A40, H⟩ := H
    replace H : (some t659) = some r := H
    have A4 := Sd.mk A40
    clear A40
    obtain rfl := Option.some.inj H
    go_enter Try.func36, Try.ntmps36
    go_wp2_with (first | ((with_reducible refine gate_callee (f := 86) rfl ?_); refine goesL_ (some 4) rfl rfl Try.func86 (by kernel_rfl) rfl #[] rfl (by (try simp only [List.map_toArray, List.map_cons, List.map_nil]); first | done | rfl | (simp only [List.length_drop, List.length_take]; rfl)) ?_; (with_reducible refine (culletlaw05_Example.calls  t647 t650 t651 _ A1.out).mono ?_); rintro e w5 ⟨v648, rfl, ho0, hb⟩; refine ⟨_, rfl, ?_⟩; have n0_ := Sd.mk (Kd.R_lower ho0 (below_size (by repeat (first | (with_reducible first | exact HB.out | apply below_alloc | apply pw_below_drewN | apply below_drew1) | exact HB.out)))); have n1_ := Sd.mk (below_step (by repeat (first | (with_reducible first | exact HB.out | apply below_alloc | apply pw_below_drewN | apply below_drew1) | exact HB.out)) hb); clear HB; have HO649 := n0_; have HB := n1_; clear n0_ n1_; (try clear hb); (try clear hb2); (try clear hk); (try clear hi); (try clear ho0); obtain ⟨Ao6, co6, eo6⟩ := Kd.R_slice HO649.out; subst eo6) | ((with_reducible refine gate_callee (f := 85) rfl ?_); refine goesL_ (some 6) rfl rfl Try.func85 (by kernel_rfl) rfl #[.agg #[.slice Ao6 t647.length co6, .int .i64 t650, .int .i64 t651], .agg #[.int .i64 1000, .int .i64 1000]] rfl (by (try simp only [List.map_toArray, List.map_cons, List.map_nil]); first | done | rfl | (simp only [List.length_drop, List.length_take]; rfl)) ?_; (with_reducible refine (x_Thickness.calls _ _ t647 t650 t651 1000 1000 t652 t655 _ ?side1 ?side2 A2.out).mono ?_); (case side1 => repeat (first | exact (Kd.R_reads' HO649.out).2.2 | (with_reducible refine Kd.C_alloc ?_ _) | (with_reducible refine Kd.C_drewN ?_ _) | (with_reducible refine Kd.C_drew ?_))); (case side2 => exact (Kd.R_reads' HO649.out).2.1); rintro e w7 ⟨v653, rfl, ho0, hb⟩; refine ⟨_, rfl, ?_⟩; have n0_ := Sd.mk (Kd.R_below (by (with_reducible repeat (first | apply Kd.R_alloc | apply Kd.R_drewN | apply Kd.R_drew)); exact HO649.out) hb); have n1_ := Sd.mk (Kd.R_lower ho0 (below_size (by repeat (first | (with_reducible first | exact HB.out | apply below_alloc | apply pw_below_drewN | apply below_drew1) | exact HB.out)))); have n2_ := Sd.mk (below_step (by repeat (first | (with_reducible first | exact HB.out | apply below_alloc | apply pw_below_drewN | apply below_drew1) | exact HB.out)) hb); clear HO649; clear HB; have HO649 := n0_; have HO654 := n1_; have HB := n2_; clear n0_ n1_ n2_; (try clear hb); (try clear hb2); (try clear hk); (try clear hi); (try clear ho0)) | ((with_reducible refine gate_dst (N := 14) rfl ?_); (try (refine gate_guard (by rfl) ?_; dsimp only)); refine Kd.R_lit k27 _ 27 ?hg (N := 14) ?hd (xs := ([(⟨212, 213⟩ : S27)] : List (S27))) (inner := [.int .i64 212, .int .i64 213]) (ok := fun _ => True) (okp := fun _ => True) ?hr ?hp (fun _ hk => hk) trivial (Below.refl _ _) (Nat.le_refl _) (by simp) ?_; (case hd => rfl); (case hg => rfl); (case hr => first | (go_simp; done) | (go_simp; rfl)); (case hp => exact (Reps.c2 (show Kd.M k27 _ _ _ (⟨212, 213⟩ : S27) [.int .i64 212, .int .i64 213] from (k27_mkM _ _ _ (⟨212, 213⟩ : S27) )) (Reps.none _ _))); intro v657 w8 ho9 hb hg_ hnew_; clear hg_ hnew_; (first | rw [← Ny656.out] at ho9 | (simp only [Int.reduceToNat] at ho9; rw [← Ny656.out] at ho9)); have n0_ := Sd.mk (Kd.R_below (by (with_reducible repeat (first | apply Kd.R_alloc | apply Kd.R_drewN | apply Kd.R_drew)); exact HO649.out) hb); have n1_ := Sd.mk (Kd.R_elder' (by (with_reducible repeat (first | apply Kd.R_alloc | apply Kd.R_drewN | apply Kd.R_drew)); exact HO654.out) (Kd.R_base ho9) hb); have n2_ := Sd.mk (Kd.R_lower (Kd.R_new' ho9 (Kd.R_lt (by (with_reducible repeat (first | apply Kd.R_alloc | apply Kd.R_drewN | apply Kd.R_drew)); exact HO654.out))) (below_size (by repeat (first | (with_reducible first | exact HB.out | apply below_alloc | apply pw_below_drewN | apply below_drew1) | exact HB.out)))); have n3_ := Sd.mk (below_step (by repeat (first | (with_reducible first | exact HB.out | apply below_alloc | apply pw_below_drewN | apply below_drew1) | exact HB.out)) hb); clear HO649; clear HO654; clear HB; have HO649 := n0_; have HO654 := n1_; have HO658 := n2_; have HB := n3_; clear n0_ n1_ n2_ n3_; clear hb ho9; obtain ⟨Ao10, co10, eo10⟩ := Kd.R_slice HO654.out; subst eo10; obtain ⟨Ao11, co11, eo11⟩ := Kd.R_slice HO658.out; subst eo11) | (go_at_call 17; (with_reducible refine (lw_SameSpans.calls k _ _ t652 _ _ y656 t659 _ ?side1 ?side2 ?side3 ?side4 A4.out).mono ?_); (case side1 => repeat (first | exact (Kd.R_reads' HO654.out).2.2 | (with_reducible refine Kd.C_alloc ?_ _) | (with_reducible refine Kd.C_drewN ?_ _) | (with_reducible refine Kd.C_drew ?_))); (case side2 => exact (Kd.R_reads' HO654.out).2.1); (case side3 => repeat (first | exact (Kd.R_reads' HO658.out).2.2 | (with_reducible refine Kd.C_alloc ?_ _) | (with_reducible refine Kd.C_drewN ?_ _) | (with_reducible refine Kd.C_drew ?_))); (case side4 => exact (Kd.R_reads' HO658.out).2.1); rintro e w' ⟨rfl, ⟨nd, rfl⟩⟩))
    go_ret
    exact ⟨by first | rfl | (simp [errW_none, errW_some] <;> rfl) | (simp [*, errW_none, errW_some] <;> rfl), by repeat (first | (with_reducible first | exact HB.out | apply below_alloc | apply pw_below_drewN | apply below_drew1) | exact HB.out)⟩
  · rw [if_neg c3] at H
    have c3b0 : (t655 == 0) = false := beq_eq_false_iff_ne.mpr c3
    have c3b1 : (t655 != 0) = true := bne_iff_ne.mpr c3
    obtain rfl := Option.some.inj H
    go_enter Try.func36, Try.ntmps36
    go_wp2_with (first | ((with_reducible refine gate_callee (f := 86) rfl ?_); refine goesL_ (some 4) rfl rfl Try.func86 (by kernel_rfl) rfl #[] rfl (by (try simp only [List.map_toArray, List.map_cons, List.map_nil]); first | done | rfl | (simp only [List.length_drop, List.length_take]; rfl)) ?_; (with_reducible refine (culletlaw05_Example.calls  t647 t650 t651 _ A1.out).mono ?_); rintro e w12 ⟨v648, rfl, ho0, hb⟩; refine ⟨_, rfl, ?_⟩; have n0_ := Sd.mk (Kd.R_lower ho0 (below_size (by repeat (first | (with_reducible first | exact HB.out | apply below_alloc | apply pw_below_drewN | apply below_drew1) | exact HB.out)))); have n1_ := Sd.mk (below_step (by repeat (first | (with_reducible first | exact HB.out | apply below_alloc | apply pw_below_drewN | apply below_drew1) | exact HB.out)) hb); clear HB; have HO649 := n0_; have HB := n1_; clear n0_ n1_; (try clear hb); (try clear hb2); (try clear hk); (try clear hi); (try clear ho0); obtain ⟨Ao13, co13, eo13⟩ := Kd.R_slice HO649.out; subst eo13) | ((with_reducible refine gate_callee (f := 85) rfl ?_); refine goesL_ (some 6) rfl rfl Try.func85 (by kernel_rfl) rfl #[.agg #[.slice Ao13 t647.length co13, .int .i64 t650, .int .i64 t651], .agg #[.int .i64 1000, .int .i64 1000]] rfl (by (try simp only [List.map_toArray, List.map_cons, List.map_nil]); first | done | rfl | (simp only [List.length_drop, List.length_take]; rfl)) ?_; (with_reducible refine (x_Thickness.calls _ _ t647 t650 t651 1000 1000 t652 t655 _ ?side1 ?side2 A2.out).mono ?_); (case side1 => repeat (first | exact (Kd.R_reads' HO649.out).2.2 | (with_reducible refine Kd.C_alloc ?_ _) | (with_reducible refine Kd.C_drewN ?_ _) | (with_reducible refine Kd.C_drew ?_))); (case side2 => exact (Kd.R_reads' HO649.out).2.1); rintro e w14 ⟨v653, rfl, ho0, hb⟩; refine ⟨_, rfl, ?_⟩; have n0_ := Sd.mk (Kd.R_below (by (with_reducible repeat (first | apply Kd.R_alloc | apply Kd.R_drewN | apply Kd.R_drew)); exact HO649.out) hb); have n1_ := Sd.mk (Kd.R_lower ho0 (below_size (by repeat (first | (with_reducible first | exact HB.out | apply below_alloc | apply pw_below_drewN | apply below_drew1) | exact HB.out)))); have n2_ := Sd.mk (below_step (by repeat (first | (with_reducible first | exact HB.out | apply below_alloc | apply pw_below_drewN | apply below_drew1) | exact HB.out)) hb); clear HO649; clear HB; have HO649 := n0_; have HO654 := n1_; have HB := n2_; clear n0_ n1_ n2_; (try clear hb); (try clear hb2); (try clear hk); (try clear hi); (try clear ho0)))
    go_ret
    exact ⟨by first | rfl | (simp [errW_none, errW_some] <;> rfl) | (simp [*, errW_none, errW_some] <;> rfl), by repeat (first | (with_reducible first | exact HB.out | apply below_alloc | apply pw_below_drewN | apply below_drew1) | exact HB.out)⟩
end Go.Proofs.Ytkjkokgbhepmoaa.PB

namespace Go.Proofs.Ytkjkokgbhepmoaa.PB
open Go.RowKit Go.Proofs.YtkjkokgbhepmoaaW.PrintWords Go.Proofs.YtkjkokgbhepmoaaW.PrintLast Go.Proofs.YtkjkokgbhepmoaaW.PrintMore
attribute [local go_sem] max2_int min2_int max_two min_two max_three min_three max_four min_four
def culletlaw03_Great.l0 : Nat → List (S165) → Int → Int → Option (Bool)
 | 0, _, _, _ => none
 | k + 1, x0, x3, x4 => if x4 < (x0.length : Int) then (if 0 ≤ x4 then (if (((rd_T165 x0 x4).f2).length : Int) > 250 then (some true) else (culletlaw03_Great.l0 k x0 (wrap64 (x3 + (((rd_T165 x0 x4).f2).length : Int))) (wrap64 (x4 + 1)))) else (none)) else (some (decide (x3 > 600)))
def culletlaw03_Great.f (k : Nat) (l0 : List (S165)) : Option (Bool) := if (l0.length : Int) > 500 then (some true) else (culletlaw03_Great.l0 k l0 0 0)
theorem culletlaw03_Great.mono_l : ∀ k, (∀ y0 y1 y2, LeO (culletlaw03_Great.l0 k y0 y1 y2) (culletlaw03_Great.l0 (k + 1) y0 y1 y2))
 | 0 => fun _ _ _ r h => by simp [culletlaw03_Great.l0] at h
 | k + 1 => by
  have ih0 := culletlaw03_Great.mono_l k
  ·intro y0 y1 y2
   unfold culletlaw03_Great.l0
   repeat' first
   | (with_reducible exact ih0 _ _ _)
   | (with_reducible exact LeO.refl _)
   | (with_reducible exact LeO.none _)
   | (with_reducible refine LeO.ite ?_ ?_)
   | (with_reducible refine LeO.bind ?_ (fun _ => ?_))
   | exact LeO.none _
   | refine LeO.ite ?_ ?_
   | refine LeO.bind ?_ (fun _ => ?_)
theorem culletlaw03_Great.mono : ∀ a0 k, LeO (culletlaw03_Great.f k a0) (culletlaw03_Great.f (k + 1) a0) := by
 intro a0 k
 have ih0 := culletlaw03_Great.mono_l k
 unfold culletlaw03_Great.f
 repeat' first
   | (with_reducible exact ih0 _ _ _)
   | (with_reducible exact LeO.refl _)
   | (with_reducible exact LeO.none _)
   | (with_reducible refine LeO.ite ?_ ?_)
   | (with_reducible refine LeO.bind ?_ (fun _ => ?_))
   | exact LeO.none _
   | refine LeO.ite ?_ ?_
   | refine LeO.bind ?_ (fun _ => ?_)
set_option maxHeartbeats 8000000 in
set_option maxRecDepth 100000 in
theorem culletlaw03_Great.calls (k : Nat) (A0 : Option Addr) (c0 : Nat) (l0 : List (S165)) (r : Bool) (w : World) (hr0 : Kd.C k165 w A0 l0.length l0) (hc0 : l0.length ≤ c0) (h : culletlaw03_Great.f k l0 = some r) :
  Calls Try.prog 84 #[.slice A0 l0.length c0] w fun e w' => e = .returned (.bool r) ∧ Drawn0 w w' := by
 have HR0 := Sd.mk hr0; have HC0 := Sd.mk hc0; clear hr0 hc0
 have H : (if (l0.length : Int) > 500 then (some true) else (culletlaw03_Great.l0 k l0 0 0)) = some r := h
 clear h
 by_cases c2 : (l0.length : Int) > 500
 ·rw [if_pos c2] at H
  have c2b0 : decide (500 < (l0.length : Int)) = true := decide_eq_true c2
  have c2b1 : decide (500 < l0.length) = true := decide_eq_true (by omega)
  clear c2; obtain rfl := Option.some.inj H
  go_enter Try.func84, Try.ntmps84
  go_wp2
  go_ret
  exact ⟨by first | rfl | (simp; done) | (simp [*]; done), by repeat (first | exact Drawn0.refl _ | apply Drawn0.step)⟩
 ·rw [if_neg c2] at H
  have c2b0 : decide (500 < (l0.length : Int)) = false := decide_eq_false c2
  have c2b1 : decide (500 < l0.length) = false := decide_eq_false (by omega)
  clear c2; have H' := Sd.mk H; clear H
  go_enter Try.func84, Try.ntmps84
  go_wp2
  go_loopg [3, 4] k (fun kq v3 v4 w' => ∃ (x3_1 : Int) (x4_1 : Int), v3 = .int .i64 x3_1 ∧ v4 = .int .i64 x4_1 ∧ Sd (culletlaw03_Great.l0 kq l0 x3_1 x4_1 = some r) ∧ Sd (kq ≤ k) ∧ Drawn0 w w')
  case atStart => exact ⟨(0), (0), tS, tS, H', ⟨Nat.le_refl _⟩, by repeat (first | exact Drawn0.refl _ | apply Drawn0.step)⟩
  case round =>
   clear H'; (try clear c2); (try clear c2b0); (try clear c2b1); (try clear p2)
   obtain ⟨x3_1, x4_1, rfl, rfl, HA, HK1, ⟨m1, rfl⟩⟩ := hrel
   cases gk with
   | zero => exact absurd HA.out (by simp [culletlaw03_Great.l0])
   | succ k1 =>
    have H := HA.out; clear HA
    simp only [culletlaw03_Great.l0] at H
    by_cases c3 : x4_1 < (l0.length : Int)
    ·rw [if_pos c3] at H
     have c3b0 : decide (x4_1 < (l0.length : Int)) = true := decide_eq_true c3
     clear c3
     by_cases c4 : 0 ≤ x4_1
     ·rw [if_pos c4] at H
      have c4b0 : decide (0 ≤ x4_1) = true := decide_eq_true c4
      clear c4
      by_cases c5 : (((rd_T165 l0 x4_1).f2).length : Int) > 250
      ·rw [if_pos c5] at H
       have c5b0 : decide (250 < (((rd_T165 l0 x4_1).f2).length : Int)) = true := decide_eq_true c5
       have c5b1 : decide (250 < ((rd_T165 l0 x4_1).f2).length) = true := decide_eq_true (by omega)
       clear c5; obtain rfl := Option.some.inj H
       have p621 : 0 ≤ (x4_1 : Int) := tB
       have q621 : x4_1 < (l0.length : Int) := tB
       obtain ⟨ad621, A621_2, c621_2, e621, hx621_0, hx621_1, hx621_2, hl621_2, hi621_2⟩ := at_T165 HR0.out x4_1 p621 q621; cases e621; have HR621_2 := Sd.mk hi621_2; have HC621_2 := Sd.mk hl621_2; clear hi621_2 hl621_2; replace p621 := eq_true p621; replace q621 := eq_true q621
       go_wp2
       go_ret
       exact ⟨by first | rfl | (simp; done) | (simp [*]; done), by repeat (first | exact Drawn0.refl _ | apply Drawn0.step)⟩
      ·rw [if_neg c5] at H
       have c5b0 : decide (250 < (((rd_T165 l0 x4_1).f2).length : Int)) = false := decide_eq_false c5
       have c5b1 : decide (250 < ((rd_T165 l0 x4_1).f2).length) = false := decide_eq_false (by omega)
       clear c5; have H' := Sd.mk H; clear H
       have p621 : 0 ≤ (x4_1 : Int) := tB
       have q621 : x4_1 < (l0.length : Int) := tB
       obtain ⟨ad621, A621_2, c621_2, e621, hx621_0, hx621_1, hx621_2, hl621_2, hi621_2⟩ := at_T165 HR0.out x4_1 p621 q621; cases e621; have HR621_2 := Sd.mk hi621_2; have HC621_2 := Sd.mk hl621_2; clear hi621_2 hl621_2; replace p621 := eq_true p621; replace q621 := eq_true q621
       have p622 : 0 ≤ (x4_1 : Int) := tB
       have q622 : x4_1 < (l0.length : Int) := tB
       obtain ⟨ad622, A622_2, c622_2, e622, hx622_0, hx622_1, hx622_2, hl622_2, hi622_2⟩ := at_T165 HR0.out x4_1 p622 q622
       obtain rfl : ad621 = ad622 := (by injection e622)
       have HR622_2 := Sd.mk hi622_2; have HC622_2 := Sd.mk hl622_2; clear hi622_2 hl622_2; replace p622 := eq_true p622; replace q622 := eq_true q622; have ea_ := Option.some.inj (hx621_2.symm.trans hx622_2)
       injection ea_ with ea_ en_ ec_
       subst ea_; subst ec_; clear en_
       go_wp2
       go_roundg k1
       case measure => have := HK1.out; omega
       case rel => exact ⟨(wrap64 (x3_1 + (((rd_T165 l0 x4_1).f2).length : Int))), (wrap64 (x4_1 + 1)), tS, tS, H', ⟨by have := HK1.out; omega⟩, by repeat (first | exact Drawn0.refl _ | apply Drawn0.step)⟩
     ·rw [if_neg c4] at H
      exact absurd H (by simp)
    ·rw [if_neg c3] at H
     have c3b0 : decide (x4_1 < (l0.length : Int)) = false := decide_eq_false c3
     clear c3; obtain rfl := Option.some.inj H
     go_wp2
     go_ret
     exact ⟨by first | rfl | (simp; done) | (simp [*]; done), by repeat (first | exact Drawn0.refl _ | apply Drawn0.step)⟩
end Go.Proofs.Ytkjkokgbhepmoaa.PB

namespace Go.Proofs.Ytkjkokgbhepmoaa.PB
open Go.RowKit Go.Proofs.YtkjkokgbhepmoaaW.PrintWords Go.Proofs.YtkjkokgbhepmoaaW.PrintLast Go.Proofs.YtkjkokgbhepmoaaW.PrintMore
attribute [local go_sem] max2_int min2_int max_two min_two max_three min_three max_four min_four
def culletlaw05_Wide.f (k : Nat) (l0_0 : List (S27)) (a0_1 : Int) (a0_2 : Int) (a0_3 : Int) (a0_4 : Int) (a0_5 : Int) (a0_6 : Int) (a0_7 : Int) (a0_8 : Int) (l0_9 : List Int) (a0_10 : Int) (a0_11 : Int) (a0_12 : Int) (a0_13 : Int) (a0_14 : Int) (a0_15 : Int) (a0_16 : Int) (a0_17 : Int) (a0_18 : Int) (l0_19 : List Int) (l0_20 : List (S165)) : Option (Bool) := if (l0_0.length : Int) > 40 then (some true) else (if (l0_9.length : Int) > 40 then (some true) else (if (l0_19.length : Int) > 40 then (some true) else ((culletlaw03_Great.f k l0_20).bind fun t624 => (some t624))))
theorem culletlaw05_Wide.mono : ∀ a0 a1 a2 a3 a4 a5 a6 a7 a8 a9 a10 a11 a12 a13 a14 a15 a16 a17 a18 a19 a20 k, LeO (culletlaw05_Wide.f k a0 a1 a2 a3 a4 a5 a6 a7 a8 a9 a10 a11 a12 a13 a14 a15 a16 a17 a18 a19 a20) (culletlaw05_Wide.f (k + 1) a0 a1 a2 a3 a4 a5 a6 a7 a8 a9 a10 a11 a12 a13 a14 a15 a16 a17 a18 a19 a20) := by
 intro a0 a1 a2 a3 a4 a5 a6 a7 a8 a9 a10 a11 a12 a13 a14 a15 a16 a17 a18 a19 a20 k
 unfold culletlaw05_Wide.f
 repeat' first
   | (with_reducible exact culletlaw03_Great.mono _ _)
   | (with_reducible exact LeO.refl _)
   | (with_reducible exact LeO.none _)
   | (with_reducible refine LeO.ite ?_ ?_)
   | (with_reducible refine LeO.bind ?_ (fun _ => ?_))
   | exact LeO.none _
   | refine LeO.ite ?_ ?_
   | refine LeO.bind ?_ (fun _ => ?_)
set_option maxHeartbeats 8000000 in
set_option maxRecDepth 100000 in
theorem culletlaw05_Wide.calls (k : Nat) (A0_0 : Option Addr) (c0_0 : Nat) (l0_0 : List (S27)) (a0_1 : Int) (a0_2 : Int) (a0_3 : Int) (a0_4 : Int) (a0_5 : Int) (a0_6 : Int) (a0_7 : Int) (a0_8 : Int) (A0_9 : Option Addr) (c0_9 : Nat) (l0_9 : List Int) (a0_10 : Int) (a0_11 : Int) (a0_12 : Int) (a0_13 : Int) (a0_14 : Int) (a0_15 : Int) (a0_16 : Int) (a0_17 : Int) (a0_18 : Int) (A0_19 : Option Addr) (c0_19 : Nat) (l0_19 : List Int) (A0_20 : Option Addr) (c0_20 : Nat) (l0_20 : List (S165)) (r : Bool) (w : World) (hr0_0 : Kd.C k27 w A0_0 l0_0.length l0_0) (hc0_0 : l0_0.length ≤ c0_0) (hr0_9 : Kd.C (Kd.int .i64) w A0_9 l0_9.length l0_9) (hc0_9 : l0_9.length ≤ c0_9) (hr0_19 : Kd.C (Kd.int .i64) w A0_19 l0_19.length l0_19) (hc0_19 : l0_19.length ≤ c0_19) (hr0_20 : Kd.C k165 w A0_20 l0_20.length l0_20) (hc0_20 : l0_20.length ≤ c0_20) (h : culletlaw05_Wide.f k l0_0 a0_1 a0_2 a0_3 a0_4 a0_5 a0_6 a0_7 a0_8 l0_9 a0_10 a0_11 a0_12 a0_13 a0_14 a0_15 a0_16 a0_17 a0_18 l0_19 l0_20 = some r) :
  Calls Try.prog 35 #[.agg #[.slice A0_0 l0_0.length c0_0, .int .i64 a0_1, .int .i64 a0_2, .int .i64 a0_3, .int .i64 a0_4, .int .i64 a0_5, .int .i64 a0_6, .int .i64 a0_7, .int .i64 a0_8, .slice A0_9 l0_9.length c0_9, .int .i64 a0_10, .int .i64 a0_11, .int .i64 a0_12, .int .i64 a0_13, .int .i64 a0_14, .int .i64 a0_15, .int .i64 a0_16, .int .i64 a0_17, .int .i64 a0_18, .slice A0_19 l0_19.length c0_19, .slice A0_20 l0_20.length c0_20]] w fun e w' => e = .returned (.bool r) ∧ Below w.heap.size w w' := by
 have hu76 := Try.underlying76; have HR0_0 := Sd.mk hr0_0; have HC0_0 := Sd.mk hc0_0; clear hr0_0 hc0_0; have HR0_9 := Sd.mk hr0_9; have HC0_9 := Sd.mk hc0_9; clear hr0_9 hc0_9; have HR0_19 := Sd.mk hr0_19; have HC0_19 := Sd.mk hc0_19; clear hr0_19 hc0_19; have HR0_20 := Sd.mk hr0_20; have HC0_20 := Sd.mk hc0_20; clear hr0_20 hc0_20; have HB := Sd.mk (Below.refl w.heap.size w)
 have H : (if (l0_0.length : Int) > 40 then (some true) else (if (l0_9.length : Int) > 40 then (some true) else (if (l0_19.length : Int) > 40 then (some true) else ((culletlaw03_Great.f k l0_20).bind fun t624 => (some t624))))) = some r := h
 clear h
 by_cases c2 : (l0_0.length : Int) > 40
 ·rw [if_pos c2] at H
  have c2b0 : decide (40 < (l0_0.length : Int)) = true := decide_eq_true c2
  have c2b1 : decide (40 < l0_0.length) = true := decide_eq_true (by omega)
  clear c2; obtain rfl := Option.some.inj H
  go_enter Try.func35, Try.ntmps35
  go_wp2_with (first | ((with_reducible refine gate_dst (N := 1) rfl ?_); (try (refine gate_guard (by rfl) ?_; dsimp only)); refine box_event ?hg (N := 1) ?hd (cs := #[.slice A0_0 l0_0.length c0_0, .int .i64 a0_1, .int .i64 a0_2, .int .i64 a0_3, .int .i64 a0_4, .int .i64 a0_5, .int .i64 a0_6, .int .i64 a0_7, .int .i64 a0_8, .slice A0_9 l0_9.length c0_9, .int .i64 a0_10, .int .i64 a0_11, .int .i64 a0_12, .int .i64 a0_13, .int .i64 a0_14, .int .i64 a0_15, .int .i64 a0_16, .int .i64 a0_17, .int .i64 a0_18, .slice A0_19 l0_19.length c0_19, .slice A0_20 l0_20.length c0_20]) (t := 76) ?hr ?_; (case hd => rfl); (case hg => rfl); (case hr => exact tG); intro gb623 hg w3 hbox hb; have BK623 := Sd.mk (hbox); have GW623 := Sd.mk (bSz hg (bBl HB.out)); have GE623 := Sd.mk (bSz hg (bBl HB.out)); replace HB := Sd.mk (below_step (bBl HB.out) hb); clear hb hbox hg; obtain ⟨u4_0, u4_1, u4_2, u4_3, u4_4, u4_5, u4_6, u4_7, u4_8, u4_9, u4_10, u4_11, u4_12, u4_13, u4_14, u4_15, u4_16, u4_17, u4_18, u4_19, u4_20, o4_0, o4_1, o4_2, o4_3, o4_4, o4_5, o4_6, o4_7, o4_8, o4_9, o4_10, o4_11, o4_12, o4_13, o4_14, o4_15, o4_16, o4_17, o4_18, o4_19, o4_20⟩ := bc21 (w := w3) BK623.out))
  go_ret
  exact ⟨tE, bBl HB.out⟩
 ·rw [if_neg c2] at H
  have c2b0 : decide (40 < (l0_0.length : Int)) = false := decide_eq_false c2
  have c2b1 : decide (40 < l0_0.length) = false := decide_eq_false (by omega)
  clear c2
  by_cases c5 : (l0_9.length : Int) > 40
  ·rw [if_pos c5] at H
   have c5b0 : decide (40 < (l0_9.length : Int)) = true := decide_eq_true c5
   have c5b1 : decide (40 < l0_9.length) = true := decide_eq_true (by omega)
   clear c5; obtain rfl := Option.some.inj H
   go_enter Try.func35, Try.ntmps35
   go_wp2_with (first | ((with_reducible refine gate_dst (N := 1) rfl ?_); (try (refine gate_guard (by rfl) ?_; dsimp only)); refine box_event ?hg (N := 1) ?hd (cs := #[.slice A0_0 l0_0.length c0_0, .int .i64 a0_1, .int .i64 a0_2, .int .i64 a0_3, .int .i64 a0_4, .int .i64 a0_5, .int .i64 a0_6, .int .i64 a0_7, .int .i64 a0_8, .slice A0_9 l0_9.length c0_9, .int .i64 a0_10, .int .i64 a0_11, .int .i64 a0_12, .int .i64 a0_13, .int .i64 a0_14, .int .i64 a0_15, .int .i64 a0_16, .int .i64 a0_17, .int .i64 a0_18, .slice A0_19 l0_19.length c0_19, .slice A0_20 l0_20.length c0_20]) (t := 76) ?hr ?_; (case hd => rfl); (case hg => rfl); (case hr => exact tG); intro gb623 hg w6 hbox hb; have BK623 := Sd.mk (hbox); have GW623 := Sd.mk (bSz hg (bBl HB.out)); have GE623 := Sd.mk (bSz hg (bBl HB.out)); replace HB := Sd.mk (below_step (bBl HB.out) hb); clear hb hbox hg; obtain ⟨u7_0, u7_1, u7_2, u7_3, u7_4, u7_5, u7_6, u7_7, u7_8, u7_9, u7_10, u7_11, u7_12, u7_13, u7_14, u7_15, u7_16, u7_17, u7_18, u7_19, u7_20, o7_0, o7_1, o7_2, o7_3, o7_4, o7_5, o7_6, o7_7, o7_8, o7_9, o7_10, o7_11, o7_12, o7_13, o7_14, o7_15, o7_16, o7_17, o7_18, o7_19, o7_20⟩ := bc21 (w := w6) BK623.out))
   go_ret
   exact ⟨tE, bBl HB.out⟩
  ·rw [if_neg c5] at H
   have c5b0 : decide (40 < (l0_9.length : Int)) = false := decide_eq_false c5
   have c5b1 : decide (40 < l0_9.length) = false := decide_eq_false (by omega)
   clear c5
   by_cases c8 : (l0_19.length : Int) > 40
   ·rw [if_pos c8] at H
    have c8b0 : decide (40 < (l0_19.length : Int)) = true := decide_eq_true c8
    have c8b1 : decide (40 < l0_19.length) = true := decide_eq_true (by omega)
    clear c8; obtain rfl := Option.some.inj H
    go_enter Try.func35, Try.ntmps35
    go_wp2_with (first | ((with_reducible refine gate_dst (N := 1) rfl ?_); (try (refine gate_guard (by rfl) ?_; dsimp only)); refine box_event ?hg (N := 1) ?hd (cs := #[.slice A0_0 l0_0.length c0_0, .int .i64 a0_1, .int .i64 a0_2, .int .i64 a0_3, .int .i64 a0_4, .int .i64 a0_5, .int .i64 a0_6, .int .i64 a0_7, .int .i64 a0_8, .slice A0_9 l0_9.length c0_9, .int .i64 a0_10, .int .i64 a0_11, .int .i64 a0_12, .int .i64 a0_13, .int .i64 a0_14, .int .i64 a0_15, .int .i64 a0_16, .int .i64 a0_17, .int .i64 a0_18, .slice A0_19 l0_19.length c0_19, .slice A0_20 l0_20.length c0_20]) (t := 76) ?hr ?_; (case hd => rfl); (case hg => rfl); (case hr => exact tG); intro gb623 hg w9 hbox hb; have BK623 := Sd.mk (hbox); have GW623 := Sd.mk (bSz hg (bBl HB.out)); have GE623 := Sd.mk (bSz hg (bBl HB.out)); replace HB := Sd.mk (below_step (bBl HB.out) hb); clear hb hbox hg; obtain ⟨u10_0, u10_1, u10_2, u10_3, u10_4, u10_5, u10_6, u10_7, u10_8, u10_9, u10_10, u10_11, u10_12, u10_13, u10_14, u10_15, u10_16, u10_17, u10_18, u10_19, u10_20, o10_0, o10_1, o10_2, o10_3, o10_4, o10_5, o10_6, o10_7, o10_8, o10_9, o10_10, o10_11, o10_12, o10_13, o10_14, o10_15, o10_16, o10_17, o10_18, o10_19, o10_20⟩ := bc21 (w := w9) BK623.out))
    go_ret
    exact ⟨tE, bBl HB.out⟩
   ·rw [if_neg c8] at H
    have c8b0 : decide (40 < (l0_19.length : Int)) = false := decide_eq_false c8
    have c8b1 : decide (40 < l0_19.length) = false := decide_eq_false (by omega)
    clear c8; replace H := Option.bind_eq_some_iff.mp H; obtain ⟨t624, A110, H⟩ := H
    try dsimp only at H
    have A11 := Sd.mk A110; clear A110; obtain rfl := Option.some.inj H
    go_enter Try.func35, Try.ntmps35
    go_wp2_with (first | ((with_reducible refine gate_dst (N := 1) rfl ?_); (try (refine gate_guard (by rfl) ?_; dsimp only)); refine box_event ?hg (N := 1) ?hd (cs := #[.slice A0_0 l0_0.length c0_0, .int .i64 a0_1, .int .i64 a0_2, .int .i64 a0_3, .int .i64 a0_4, .int .i64 a0_5, .int .i64 a0_6, .int .i64 a0_7, .int .i64 a0_8, .slice A0_9 l0_9.length c0_9, .int .i64 a0_10, .int .i64 a0_11, .int .i64 a0_12, .int .i64 a0_13, .int .i64 a0_14, .int .i64 a0_15, .int .i64 a0_16, .int .i64 a0_17, .int .i64 a0_18, .slice A0_19 l0_19.length c0_19, .slice A0_20 l0_20.length c0_20]) (t := 76) ?hr ?_; (case hd => rfl); (case hg => rfl); (case hr => exact tG); intro gb623 hg w12 hbox hb; have BK623 := Sd.mk (hbox); have GW623 := Sd.mk (bSz hg (bBl HB.out)); have GE623 := Sd.mk (bSz hg (bBl HB.out)); replace HB := Sd.mk (below_step (bBl HB.out) hb); clear hb hbox hg; obtain ⟨u13_0, u13_1, u13_2, u13_3, u13_4, u13_5, u13_6, u13_7, u13_8, u13_9, u13_10, u13_11, u13_12, u13_13, u13_14, u13_15, u13_16, u13_17, u13_18, u13_19, u13_20, o13_0, o13_1, o13_2, o13_3, o13_4, o13_5, o13_6, o13_7, o13_8, o13_9, o13_10, o13_11, o13_12, o13_13, o13_14, o13_15, o13_16, o13_17, o13_18, o13_19, o13_20⟩ := bc21 (w := w12) BK623.out) | (go_at_call 84; (with_reducible refine (culletlaw03_Great.calls k _ _ l0_20 t624 _ (cS (Kd.C_below HR0_20.out HB.out)) HC0_20.out A11.out).mono ?_); rintro e w' ⟨rfl, ⟨nd, rfl⟩⟩))
    go_ret
    exact ⟨tE, bBl HB.out⟩
end Go.Proofs.Ytkjkokgbhepmoaa.PB

namespace Go.Proofs.Ytkjkokgbhepmoaa.PB
open Go.RowKit Go.Proofs.YtkjkokgbhepmoaaW.PrintWords Go.Proofs.YtkjkokgbhepmoaaW.PrintLast Go.Proofs.YtkjkokgbhepmoaaW.PrintMore
set_option maxRecDepth 100000 in
theorem lives5_ev : Ev (fun k => culletlaw05_lives.f k) true := Ev.of_mono culletlaw05_lives.mono (K := 5) (by kernel_rfl)
theorem great3_l0 (l : List S165) : ∀ (m i : Nat) (x : Int), i + m = l.length → l.length ≤ 500 → ∃ b, Ev (fun k => culletlaw03_Great.l0 k l x (i : Int)) b
  | 0, i, x, h, hl => by
    refine ⟨decide (x > 600), Ev.step ?_⟩
    simp only [culletlaw03_Great.l0, if_neg (show ¬ (i : Int) < (l.length : Int) by omega)]
    exact Ev.const _
  | m + 1, i, x, h, hl => by
    obtain ⟨b, ih⟩ := great3_l0 l m (i + 1) (wrap64 (x + (((rd_T165 l (i : Int)).f2).length : Int))) (by omega) hl
    rw [show ((i + 1 : Nat) : Int) = (i : Int) + 1 by omega] at ih
    by_cases c : (((rd_T165 l (i : Int)).f2).length : Int) > 250
    · refine ⟨true, Ev.step ?_⟩
      simp only [culletlaw03_Great.l0, if_pos (show (i : Int) < (l.length : Int) by omega), if_pos (i_pos i), if_pos c]
      exact Ev.const _
    · refine ⟨b, Ev.step ?_⟩
      simp only [culletlaw03_Great.l0, if_pos (show (i : Int) < (l.length : Int) by omega), if_pos (i_pos i), if_neg c, wrap_succ (i_pos i) (show (i : Int) ≤ 1000000000 by omega)]
      exact ih
theorem great3 (l : List S165) : ∃ b, Ev (fun k => culletlaw03_Great.f k l) b := by
  unfold culletlaw03_Great.f
  by_cases h : (l.length : Int) > 500
  · simp only [if_pos h]; exact ⟨_, Ev.const _⟩
  · simp only [if_neg h]; exact great3_l0 l l.length 0 0 (by omega) (by omega)
theorem wide5 (y0 : List S27) (y1 y2 y3 y4 y5 y6 y7 y8 : Int) (y9 : List Int) (y10 y11 y12 y13 y14 y15 y16 y17 y18 : Int) (r : List Int) (y20 : List S165) : ∃ b, Ev (fun k => culletlaw05_Wide.f k y0 y1 y2 y3 y4 y5 y6 y7 y8 y9 y10 y11 y12 y13 y14 y15 y16 y17 y18 r y20) b := by
  unfold culletlaw05_Wide.f
  by_cases h1 : (y0.length : Int) > 40
  · simp only [if_pos h1]; exact ⟨_, Ev.const _⟩
  by_cases h2 : (y9.length : Int) > 40
  · simp only [if_neg h1, if_pos h2]; exact ⟨_, Ev.const _⟩
  by_cases h3 : (r.length : Int) > 40
  · simp only [if_neg h1, if_neg h2, if_pos h3]; exact ⟨_, Ev.const _⟩
  simp only [if_neg h1, if_neg h2, if_neg h3]
  obtain ⟨b, hb⟩ := great3 y20
  exact ⟨b, Ev.bind hb (Ev.const _)⟩
theorem xHeld_ev (kn : List S84) (fac t : Int) (h : lehrV kn fac = 0) (ht : inB t 0 10000 = true) : Ev (fun k => x_Held.f k kn fac t) (heldV kn t, 0) := by
  unfold x_Held.f
  simp only [if_pos h, if_pos ht]
  simp only [inB, Bool.and_eq_true, decide_eq_true_eq] at ht
  exact Ev.bind (held_ev (lehr_facts h).1 fac ht) (Ev.const _)
theorem xStrain_ev (kn : List S84) (fac t0 t1 th : Int) (h : lehrV kn fac = 0) (hs : spanB t0 t1 0 10000 = true) (ht : inB th 1 2000 = true) : Ev (fun k => x_Strain.f k kn fac t0 t1 th) (strainV kn fac t0 t1 th, 0) := by
  unfold x_Strain.f
  simp only [tempsV, if_pos h, if_pos hs, if_true, if_pos ht]
  simp only [inB, Bool.and_eq_true, decide_eq_true_eq] at ht
  exact Ev.bind (strain_ev (lehr_facts h).1 (lehr_facts h).2 ht t0 t1) (Ev.const _)
def annV (kn : List S84) (fac : Int) (V : Int × Int × Int) (below soak th limit : Int) : Bool × Int :=
  if lehrV kn fac = 0 then (if V.2.2 = 0 then (if annB below soak th limit = true then (if (decide (below ≤ V.1) && decide (V.2.1 ≤ 10000)) = true then (if soak ≤ heldV kn V.2.1 then (decide (strainV kn fac (V.1 - below) V.2.1 th ≤ limit), 0) else (false, 0)) else (false, 9)) else (false, 1)) else (false, V.2.2)) else (false, lehrV kn fac)
section
variable (o : List ByteArray) (mt : List S63) (s : List S27) (p : List S65) (a4 a5 a6 : Int) (r : List Int)
theorem ValV_le (n : Int) (h : (ValV o mt s p a4 a5 a6 r n).2.2 = 0) : (ValV o mt s p a4 a5 a6 r n).1 ≤ (ValV o mt s p a4 a5 a6 r n).2.1 := by
  revert h
  unfold ValV
  split
  · rename_i ha
    obtain ⟨H, hr⟩ := ask_ok ha
    split
    · rename_i h1
      split
      · intro h; cases h
      · rename_i h2
        intro _
        obtain ⟨C, hl⟩ := pro_cf H h1
        exact mean_le (meanOk_of (gramL_ok H hr) (by rw [gramL_len]; exact C) (lowW_pos H hr h2))
    · intro h; cases h
  · intro h; exact absurd h (by assumption)
theorem ann_ev (kn : List S84) (fac n below soak th limit : Int) : Ev (fun k => x_Anneals.f k kn fac o mt s p a4 a5 a6 r n below soak th limit) (annV kn fac (ValV o mt s p a4 a5 a6 r n) below soak th limit) := by
  unfold x_Anneals.f annV
  by_cases h : lehrV kn fac = 0
  · simp only [if_pos h]
    refine Ev.bind (bValue o mt s p a4 a5 a6 r n) ?_
    have hle := ValV_le o mt s p a4 a5 a6 r n
    generalize ValV o mt s p a4 a5 a6 r n = V at *
    by_cases h1 : V.2.2 = 0
    · simp only [if_pos h1]
      have hle := hle h1
      by_cases h2 : annB below soak th limit = true
      · simp only [if_pos h2]
        by_cases h3 : (decide (below ≤ V.1) && decide (V.2.1 ≤ 10000)) = true
        · simp only [if_pos h3]
          simp only [annB, inB, Bool.and_eq_true, decide_eq_true_eq] at h2 h3
          refine Ev.bind (held_ev (lehr_facts h).1 fac (by omega)) ?_
          by_cases h4 : soak ≤ heldV kn V.2.1
          · simp only [if_pos h4, wsmall (show -1000000000000000000 ≤ V.1 - below by omega) (show V.1 - below ≤ 1000000000000000000 by omega)]
            exact Ev.bind (strain_ev (lehr_facts h).1 (lehr_facts h).2 (by omega) _ _) (Ev.const _)
          · simp only [if_neg h4]; exact Ev.const _
        · simp only [if_neg h3]; exact Ev.const _
      · simp only [if_neg h2]; exact Ev.const _
    · simp only [if_neg h1]; exact Ev.const _
  · simp only [if_neg h]; exact Ev.const _
variable (kn : List S84) (fac : Int) (y0 : List S27) (y1 y2 y3 y4 y5 y6 y7 y8 : Int) (y9 : List Int) (y10 y11 y12 y13 y14 y15 y16 y17 y18 : Int) (y20 : List S165)
end
end Go.Proofs.Ytkjkokgbhepmoaa.PB

namespace Go.Proofs.Ytkjkokgbhepmoaa.PB
open Go.RowKit Go.Proofs.YtkjkokgbhepmoaaW.PrintWords Go.Proofs.YtkjkokgbhepmoaaW.PrintLast Go.Proofs.YtkjkokgbhepmoaaW.PrintMore
attribute [local go_sem] max2_int min2_int max_two min_two max_three min_three max_four min_four
mutual
def culletlaw05_StrengthRecipes.j0 : Nat → Bool → List (S84) → Int → List ByteArray → List (S63) → List (S27) → List (S65) → Int → Int → Int → List (S27) → Int → Int → Int → Int → Int → Int → Int → Int → List Int → Int → Int → Int → Int → Int → Int → Int → Int → Int → List Int → List (S165) → Option (Bool)
  | 0, _, _, _, _, _, _, _, _, _, _, _, _, _, _, _, _, _, _, _, _, _, _, _, _, _, _, _, _, _, _, _ => none
  | k + 1, x27, x687q0, x687q1, x688q0, x688q1, x688q2, x688q3, x688q4, x688q5, x688q6, x689q0, x689q1, x689q2, x689q3, x689q4, x689q5, x689q6, x689q7, x689q8, x689q9, x689010, x689011, x689012, x689013, x689014, x689015, x689016, x689017, x689018, x689019, x689020 => if x27 = true then ((culletlaw05_lives.f k).bind fun t691 => (some t691)) else ((x_Anneals.f k x687q0 x687q1 x688q0 x688q1 x688q2 x688q3 x688q4 x688q5 x688q6 x689019 x689014 x689015 x689016 x689012 x689017).bind fun bt692 => (if bt692.2 = 0 then (culletlaw05_StrengthRecipes.j1 k bt692.1 (!bt692.1) x687q0 x687q1 x688q0 x688q1 x688q2 x688q3 x688q4 x688q5 x688q6 x689q0 x689q1 x689q2 x689q3 x689q4 x689q5 x689q6 x689q7 x689q8 x689q9 x689010 x689011 x689012 x689013 x689014 x689015 x689016 x689017 x689018 x689019 x689020) else (culletlaw05_StrengthRecipes.j1 k bt692.1 true x687q0 x687q1 x688q0 x688q1 x688q2 x688q3 x688q4 x688q5 x688q6 x689q0 x689q1 x689q2 x689q3 x689q4 x689q5 x689q6 x689q7 x689q8 x689q9 x689010 x689011 x689012 x689013 x689014 x689015 x689016 x689017 x689018 x689019 x689020)))
def culletlaw05_StrengthRecipes.j1 : Nat → Bool → Bool → List (S84) → Int → List ByteArray → List (S63) → List (S27) → List (S65) → Int → Int → Int → List (S27) → Int → Int → Int → Int → Int → Int → Int → Int → List Int → Int → Int → Int → Int → Int → Int → Int → Int → Int → List Int → List (S165) → Option (Bool)
  | 0, _, _, _, _, _, _, _, _, _, _, _, _, _, _, _, _, _, _, _, _, _, _, _, _, _, _, _, _, _, _, _, _ => none
  | k + 1, x7, x52, x687q0, x687q1, x688q0, x688q1, x688q2, x688q3, x688q4, x688q5, x688q6, x689q0, x689q1, x689q2, x689q3, x689q4, x689q5, x689q6, x689q7, x689q8, x689q9, x689010, x689011, x689012, x689013, x689014, x689015, x689016, x689017, x689018, x689019, x689020 => if x52 = true then (if x7 = true then (some false) else ((culletlaw05_lives.f k).bind fun t694 => (some t694))) else ((x_Value.f k x688q0 x688q1 x688q2 x688q3 x688q4 x688q5 x688q6 x689019 x689014).bind fun bt695 => (if bt695.2.2 = 0 then ((some (([bt695.1, wrap64 (Int.tdiv (wrap64 (bt695.1 + bt695.2.1)) 2), bt695.2.1] : List Int) : List Int)).bind fun y699 => (culletlaw05_StrengthRecipes.l0 k y699 (y699.length : Int) 0 x687q0 x687q1 x689q0 x689q1 x689q2 x689q3 x689q4 x689q5 x689q6 x689q7 x689q8 x689q9 x689010 x689011 x689012 x689013 x689014 x689015 x689016 x689017 x689018 x689019 x689020)) else (some false)))
def culletlaw05_StrengthRecipes.l0 : Nat → List Int → Int → Int → List (S84) → Int → List (S27) → Int → Int → Int → Int → Int → Int → Int → Int → List Int → Int → Int → Int → Int → Int → Int → Int → Int → Int → List Int → List (S165) → Option (Bool)
  | 0, _, _, _, _, _, _, _, _, _, _, _, _, _, _, _, _, _, _, _, _, _, _, _, _, _, _ => none
  | k + 1, x79, x80, x81, x687q0, x687q1, x689q0, x689q1, x689q2, x689q3, x689q4, x689q5, x689q6, x689q7, x689q8, x689q9, x689010, x689011, x689012, x689013, x689014, x689015, x689016, x689017, x689018, x689019, x689020 => if x81 < x80 then (if 0 ≤ x81 then (if x81 < (x79.length : Int) then ((x_Held.f k x687q0 x687q1 (rd x79 x81)).bind fun bt704 => ((x_Strain.f k x687q0 x687q1 (wrap64 ((rd x79 x81) - x689015)) (rd x79 x81) x689012).bind fun bt706 => (if bt704.2 = 0 then (if bt706.2 = 0 then (if bt704.1 < x689016 then (some false) else (if bt706.1 > x689017 then (some false) else (culletlaw05_StrengthRecipes.l0 k x79 x80 (wrap64 (x81 + 1)) x687q0 x687q1 x689q0 x689q1 x689q2 x689q3 x689q4 x689q5 x689q6 x689q7 x689q8 x689q9 x689010 x689011 x689012 x689013 x689014 x689015 x689016 x689017 x689018 x689019 x689020))) else (some false)) else (some false)))) else (none)) else (none)) else ((culletlaw05_lives.f k).bind fun t702 => (some t702))
end
def culletlaw05_StrengthRecipes.f (k : Nat) (l0_0 : List (S84)) (a0_1 : Int) (l1_0 : List ByteArray) (l1_1 : List (S63)) (l1_2 : List (S27)) (l1_3 : List (S65)) (a1_4 : Int) (a1_5 : Int) (a1_6 : Int) (l2_0 : List (S27)) (a2_1 : Int) (a2_2 : Int) (a2_3 : Int) (a2_4 : Int) (a2_5 : Int) (a2_6 : Int) (a2_7 : Int) (a2_8 : Int) (l2_9 : List Int) (a2_10 : Int) (a2_11 : Int) (a2_12 : Int) (a2_13 : Int) (a2_14 : Int) (a2_15 : Int) (a2_16 : Int) (a2_17 : Int) (a2_18 : Int) (l2_19 : List Int) (l2_20 : List (S165)) : Option (Bool) := if (l0_0.length : Int) > 100 then (culletlaw05_StrengthRecipes.j0 k true l0_0 a0_1 l1_0 l1_1 l1_2 l1_3 a1_4 a1_5 a1_6 l2_0 a2_1 a2_2 a2_3 a2_4 a2_5 a2_6 a2_7 a2_8 l2_9 a2_10 a2_11 a2_12 a2_13 a2_14 a2_15 a2_16 a2_17 a2_18 l2_19 l2_20) else ((lw_Great.f k l1_0 l1_1 l1_2 l1_3 a1_4 a1_5 a1_6).bind fun t689 => (if t689 = true then (culletlaw05_StrengthRecipes.j0 k true l0_0 a0_1 l1_0 l1_1 l1_2 l1_3 a1_4 a1_5 a1_6 l2_0 a2_1 a2_2 a2_3 a2_4 a2_5 a2_6 a2_7 a2_8 l2_9 a2_10 a2_11 a2_12 a2_13 a2_14 a2_15 a2_16 a2_17 a2_18 l2_19 l2_20) else ((culletlaw05_Wide.f k l2_0 a2_1 a2_2 a2_3 a2_4 a2_5 a2_6 a2_7 a2_8 l2_9 a2_10 a2_11 a2_12 a2_13 a2_14 a2_15 a2_16 a2_17 a2_18 l2_19 l2_20).bind fun t690 => (culletlaw05_StrengthRecipes.j0 k t690 l0_0 a0_1 l1_0 l1_1 l1_2 l1_3 a1_4 a1_5 a1_6 l2_0 a2_1 a2_2 a2_3 a2_4 a2_5 a2_6 a2_7 a2_8 l2_9 a2_10 a2_11 a2_12 a2_13 a2_14 a2_15 a2_16 a2_17 a2_18 l2_19 l2_20))))
theorem culletlaw05_StrengthRecipes.mono_l : ∀ k, (∀ y0 y1 y2 y3 y4 y5 y6 y7 y8 y9 y10 y11 y12 y13 y14 y15 y16 y17 y18 y19 y20 y21 y22 y23 y24 y25 y26 y27 y28 y29 y30, LeO (culletlaw05_StrengthRecipes.j0 k y0 y1 y2 y3 y4 y5 y6 y7 y8 y9 y10 y11 y12 y13 y14 y15 y16 y17 y18 y19 y20 y21 y22 y23 y24 y25 y26 y27 y28 y29 y30) (culletlaw05_StrengthRecipes.j0 (k + 1) y0 y1 y2 y3 y4 y5 y6 y7 y8 y9 y10 y11 y12 y13 y14 y15 y16 y17 y18 y19 y20 y21 y22 y23 y24 y25 y26 y27 y28 y29 y30)) ∧ (∀ y0 y1 y2 y3 y4 y5 y6 y7 y8 y9 y10 y11 y12 y13 y14 y15 y16 y17 y18 y19 y20 y21 y22 y23 y24 y25 y26 y27 y28 y29 y30 y31, LeO (culletlaw05_StrengthRecipes.j1 k y0 y1 y2 y3 y4 y5 y6 y7 y8 y9 y10 y11 y12 y13 y14 y15 y16 y17 y18 y19 y20 y21 y22 y23 y24 y25 y26 y27 y28 y29 y30 y31) (culletlaw05_StrengthRecipes.j1 (k + 1) y0 y1 y2 y3 y4 y5 y6 y7 y8 y9 y10 y11 y12 y13 y14 y15 y16 y17 y18 y19 y20 y21 y22 y23 y24 y25 y26 y27 y28 y29 y30 y31)) ∧ (∀ y0 y1 y2 y3 y4 y5 y6 y7 y8 y9 y10 y11 y12 y13 y14 y15 y16 y17 y18 y19 y20 y21 y22 y23 y24 y25, LeO (culletlaw05_StrengthRecipes.l0 k y0 y1 y2 y3 y4 y5 y6 y7 y8 y9 y10 y11 y12 y13 y14 y15 y16 y17 y18 y19 y20 y21 y22 y23 y24 y25) (culletlaw05_StrengthRecipes.l0 (k + 1) y0 y1 y2 y3 y4 y5 y6 y7 y8 y9 y10 y11 y12 y13 y14 y15 y16 y17 y18 y19 y20 y21 y22 y23 y24 y25))
  | 0 => ⟨fun _ _ _ _ _ _ _ _ _ _ _ _ _ _ _ _ _ _ _ _ _ _ _ _ _ _ _ _ _ _ _ r h => by simp [culletlaw05_StrengthRecipes.j0] at h, fun _ _ _ _ _ _ _ _ _ _ _ _ _ _ _ _ _ _ _ _ _ _ _ _ _ _ _ _ _ _ _ _ r h => by simp [culletlaw05_StrengthRecipes.j1] at h, fun _ _ _ _ _ _ _ _ _ _ _ _ _ _ _ _ _ _ _ _ _ _ _ _ _ _ r h => by simp [culletlaw05_StrengthRecipes.l0] at h⟩
  | k + 1 => by
    obtain ⟨ih0, ih1, ih2⟩ := culletlaw05_StrengthRecipes.mono_l k
    refine ⟨?_, ?_, ?_⟩
    · intro y0 y1 y2 y3 y4 y5 y6 y7 y8 y9 y10 y11 y12 y13 y14 y15 y16 y17 y18 y19 y20 y21 y22 y23 y24 y25 y26 y27 y28 y29 y30
      unfold culletlaw05_StrengthRecipes.j0
      repeat' first
      | (with_reducible exact ih0 _ _ _ _ _ _ _ _ _ _ _ _ _ _ _ _ _ _ _ _ _ _ _ _ _ _ _ _ _ _ _)
      | (with_reducible exact ih1 _ _ _ _ _ _ _ _ _ _ _ _ _ _ _ _ _ _ _ _ _ _ _ _ _ _ _ _ _ _ _ _)
      | (with_reducible exact ih2 _ _ _ _ _ _ _ _ _ _ _ _ _ _ _ _ _ _ _ _ _ _ _ _ _ _)
      | (with_reducible exact lw_Great.mono _ _ _ _ _ _ _ _)
      | (with_reducible exact culletlaw05_Wide.mono _ _ _ _ _ _ _ _ _ _ _ _ _ _ _ _ _ _ _ _ _ _)
      | (with_reducible exact culletlaw05_lives.mono _)
      | (with_reducible exact x_Anneals.mono _ _ _ _ _ _ _ _ _ _ _ _ _ _ _ _)
      | (with_reducible exact x_Held.mono _ _ _ _)
      | (with_reducible exact x_Strain.mono _ _ _ _ _ _)
      | (with_reducible exact x_Value.mono _ _ _ _ _ _ _ _ _ _)
      | (with_reducible exact LeO.refl _)
      | (with_reducible exact LeO.none _)
      | (with_reducible refine LeO.ite ?_ ?_)
      | (with_reducible refine LeO.bind ?_ (fun _ => ?_))
      | exact ih0 _ _ _ _ _ _ _ _ _ _ _ _ _ _ _ _ _ _ _ _ _ _ _ _ _ _ _ _ _ _ _
      | exact ih1 _ _ _ _ _ _ _ _ _ _ _ _ _ _ _ _ _ _ _ _ _ _ _ _ _ _ _ _ _ _ _ _
      | exact ih2 _ _ _ _ _ _ _ _ _ _ _ _ _ _ _ _ _ _ _ _ _ _ _ _ _ _
      | exact lw_Great.mono _ _ _ _ _ _ _ _
      | exact culletlaw05_Wide.mono _ _ _ _ _ _ _ _ _ _ _ _ _ _ _ _ _ _ _ _ _ _
      | exact culletlaw05_lives.mono _
      | exact x_Anneals.mono _ _ _ _ _ _ _ _ _ _ _ _ _ _ _ _
      | exact x_Held.mono _ _ _ _
      | exact x_Strain.mono _ _ _ _ _ _
      | exact x_Value.mono _ _ _ _ _ _ _ _ _ _
      | exact LeO.none _
      | refine LeO.ite ?_ ?_
      | refine LeO.bind ?_ (fun _ => ?_)
    · intro y0 y1 y2 y3 y4 y5 y6 y7 y8 y9 y10 y11 y12 y13 y14 y15 y16 y17 y18 y19 y20 y21 y22 y23 y24 y25 y26 y27 y28 y29 y30 y31
      unfold culletlaw05_StrengthRecipes.j1
      repeat' first
      | (with_reducible exact ih0 _ _ _ _ _ _ _ _ _ _ _ _ _ _ _ _ _ _ _ _ _ _ _ _ _ _ _ _ _ _ _)
      | (with_reducible exact ih1 _ _ _ _ _ _ _ _ _ _ _ _ _ _ _ _ _ _ _ _ _ _ _ _ _ _ _ _ _ _ _ _)
      | (with_reducible exact ih2 _ _ _ _ _ _ _ _ _ _ _ _ _ _ _ _ _ _ _ _ _ _ _ _ _ _)
      | (with_reducible exact lw_Great.mono _ _ _ _ _ _ _ _)
      | (with_reducible exact culletlaw05_Wide.mono _ _ _ _ _ _ _ _ _ _ _ _ _ _ _ _ _ _ _ _ _ _)
      | (with_reducible exact culletlaw05_lives.mono _)
      | (with_reducible exact x_Anneals.mono _ _ _ _ _ _ _ _ _ _ _ _ _ _ _ _)
      | (with_reducible exact x_Held.mono _ _ _ _)
      | (with_reducible exact x_Strain.mono _ _ _ _ _ _)
      | (with_reducible exact x_Value.mono _ _ _ _ _ _ _ _ _ _)
      | (with_reducible exact LeO.refl _)
      | (with_reducible exact LeO.none _)
      | (with_reducible refine LeO.ite ?_ ?_)
      | (with_reducible refine LeO.bind ?_ (fun _ => ?_))
      | exact ih0 _ _ _ _ _ _ _ _ _ _ _ _ _ _ _ _ _ _ _ _ _ _ _ _ _ _ _ _ _ _ _
      | exact ih1 _ _ _ _ _ _ _ _ _ _ _ _ _ _ _ _ _ _ _ _ _ _ _ _ _ _ _ _ _ _ _ _
      | exact ih2 _ _ _ _ _ _ _ _ _ _ _ _ _ _ _ _ _ _ _ _ _ _ _ _ _ _
      | exact lw_Great.mono _ _ _ _ _ _ _ _
      | exact culletlaw05_Wide.mono _ _ _ _ _ _ _ _ _ _ _ _ _ _ _ _ _ _ _ _ _ _
      | exact culletlaw05_lives.mono _
      | exact x_Anneals.mono _ _ _ _ _ _ _ _ _ _ _ _ _ _ _ _
      | exact x_Held.mono _ _ _ _
      | exact x_Strain.mono _ _ _ _ _ _
      | exact x_Value.mono _ _ _ _ _ _ _ _ _ _
      | exact LeO.none _
      | refine LeO.ite ?_ ?_
      | refine LeO.bind ?_ (fun _ => ?_)
    · intro y0 y1 y2 y3 y4 y5 y6 y7 y8 y9 y10 y11 y12 y13 y14 y15 y16 y17 y18 y19 y20 y21 y22 y23 y24 y25
      unfold culletlaw05_StrengthRecipes.l0
      repeat' first
      | (with_reducible exact ih0 _ _ _ _ _ _ _ _ _ _ _ _ _ _ _ _ _ _ _ _ _ _ _ _ _ _ _ _ _ _ _)
      | (with_reducible exact ih1 _ _ _ _ _ _ _ _ _ _ _ _ _ _ _ _ _ _ _ _ _ _ _ _ _ _ _ _ _ _ _ _)
      | (with_reducible exact ih2 _ _ _ _ _ _ _ _ _ _ _ _ _ _ _ _ _ _ _ _ _ _ _ _ _ _)
      | (with_reducible exact lw_Great.mono _ _ _ _ _ _ _ _)
      | (with_reducible exact culletlaw05_Wide.mono _ _ _ _ _ _ _ _ _ _ _ _ _ _ _ _ _ _ _ _ _ _)
      | (with_reducible exact culletlaw05_lives.mono _)
      | (with_reducible exact x_Anneals.mono _ _ _ _ _ _ _ _ _ _ _ _ _ _ _ _)
      | (with_reducible exact x_Held.mono _ _ _ _)
      | (with_reducible exact x_Strain.mono _ _ _ _ _ _)
      | (with_reducible exact x_Value.mono _ _ _ _ _ _ _ _ _ _)
      | (with_reducible exact LeO.refl _)
      | (with_reducible exact LeO.none _)
      | (with_reducible refine LeO.ite ?_ ?_)
      | (with_reducible refine LeO.bind ?_ (fun _ => ?_))
      | exact ih0 _ _ _ _ _ _ _ _ _ _ _ _ _ _ _ _ _ _ _ _ _ _ _ _ _ _ _ _ _ _ _
      | exact ih1 _ _ _ _ _ _ _ _ _ _ _ _ _ _ _ _ _ _ _ _ _ _ _ _ _ _ _ _ _ _ _ _
      | exact ih2 _ _ _ _ _ _ _ _ _ _ _ _ _ _ _ _ _ _ _ _ _ _ _ _ _ _
      | exact lw_Great.mono _ _ _ _ _ _ _ _
      | exact culletlaw05_Wide.mono _ _ _ _ _ _ _ _ _ _ _ _ _ _ _ _ _ _ _ _ _ _
      | exact culletlaw05_lives.mono _
      | exact x_Anneals.mono _ _ _ _ _ _ _ _ _ _ _ _ _ _ _ _
      | exact x_Held.mono _ _ _ _
      | exact x_Strain.mono _ _ _ _ _ _
      | exact x_Value.mono _ _ _ _ _ _ _ _ _ _
      | exact LeO.none _
      | refine LeO.ite ?_ ?_
      | refine LeO.bind ?_ (fun _ => ?_)
theorem culletlaw05_StrengthRecipes.mono : ∀ a0 a1 a2 a3 a4 a5 a6 a7 a8 a9 a10 a11 a12 a13 a14 a15 a16 a17 a18 a19 a20 a21 a22 a23 a24 a25 a26 a27 a28 a29 k, LeO (culletlaw05_StrengthRecipes.f k a0 a1 a2 a3 a4 a5 a6 a7 a8 a9 a10 a11 a12 a13 a14 a15 a16 a17 a18 a19 a20 a21 a22 a23 a24 a25 a26 a27 a28 a29) (culletlaw05_StrengthRecipes.f (k + 1) a0 a1 a2 a3 a4 a5 a6 a7 a8 a9 a10 a11 a12 a13 a14 a15 a16 a17 a18 a19 a20 a21 a22 a23 a24 a25 a26 a27 a28 a29) := by
  intro a0 a1 a2 a3 a4 a5 a6 a7 a8 a9 a10 a11 a12 a13 a14 a15 a16 a17 a18 a19 a20 a21 a22 a23 a24 a25 a26 a27 a28 a29 k
  obtain ⟨ih0, ih1, ih2⟩ := culletlaw05_StrengthRecipes.mono_l k
  unfold culletlaw05_StrengthRecipes.f
  repeat' first
      | (with_reducible exact ih0 _ _ _ _ _ _ _ _ _ _ _ _ _ _ _ _ _ _ _ _ _ _ _ _ _ _ _ _ _ _ _)
      | (with_reducible exact ih1 _ _ _ _ _ _ _ _ _ _ _ _ _ _ _ _ _ _ _ _ _ _ _ _ _ _ _ _ _ _ _ _)
      | (with_reducible exact ih2 _ _ _ _ _ _ _ _ _ _ _ _ _ _ _ _ _ _ _ _ _ _ _ _ _ _)
      | (with_reducible exact lw_Great.mono _ _ _ _ _ _ _ _)
      | (with_reducible exact culletlaw05_Wide.mono _ _ _ _ _ _ _ _ _ _ _ _ _ _ _ _ _ _ _ _ _ _)
      | (with_reducible exact culletlaw05_lives.mono _)
      | (with_reducible exact x_Anneals.mono _ _ _ _ _ _ _ _ _ _ _ _ _ _ _ _)
      | (with_reducible exact x_Held.mono _ _ _ _)
      | (with_reducible exact x_Strain.mono _ _ _ _ _ _)
      | (with_reducible exact x_Value.mono _ _ _ _ _ _ _ _ _ _)
      | (with_reducible exact LeO.refl _)
      | (with_reducible exact LeO.none _)
      | (with_reducible refine LeO.ite ?_ ?_)
      | (with_reducible refine LeO.bind ?_ (fun _ => ?_))
      | exact ih0 _ _ _ _ _ _ _ _ _ _ _ _ _ _ _ _ _ _ _ _ _ _ _ _ _ _ _ _ _ _ _
      | exact ih1 _ _ _ _ _ _ _ _ _ _ _ _ _ _ _ _ _ _ _ _ _ _ _ _ _ _ _ _ _ _ _ _
      | exact ih2 _ _ _ _ _ _ _ _ _ _ _ _ _ _ _ _ _ _ _ _ _ _ _ _ _ _
      | exact lw_Great.mono _ _ _ _ _ _ _ _
      | exact culletlaw05_Wide.mono _ _ _ _ _ _ _ _ _ _ _ _ _ _ _ _ _ _ _ _ _ _
      | exact culletlaw05_lives.mono _
      | exact x_Anneals.mono _ _ _ _ _ _ _ _ _ _ _ _ _ _ _ _
      | exact x_Held.mono _ _ _ _
      | exact x_Strain.mono _ _ _ _ _ _
      | exact x_Value.mono _ _ _ _ _ _ _ _ _ _
      | exact LeO.none _
      | refine LeO.ite ?_ ?_
      | refine LeO.bind ?_ (fun _ => ?_)
end Go.Proofs.Ytkjkokgbhepmoaa.PB

namespace Go.Proofs.Ytkjkokgbhepmoaa.PB
open Go.RowKit Go.Proofs.YtkjkokgbhepmoaaW.PrintWords Go.Proofs.YtkjkokgbhepmoaaW.PrintLast Go.Proofs.YtkjkokgbhepmoaaW.PrintMore
section
variable {P : Program} {ops : Array Oper} {rest : List Oper} {o : Oper} {a : Act} {Q : Exit → Act → World → Prop} {w : World}
theorem wp_loadrow_g (t : TypeId) (x : Operand) (ad : Addr) (v : Value) (hw : Region.wanted o (yielded ops a.tmps) = true) (ho : o.op = .load t x) (hx : a.eval x = .pointer (some ad)) (hr : (loadVar t ad).run P w = .ok v w) (h : wpList P ops Q rest (a.put o.dst v) w) : wpList P ops Q (o :: rest) a w := by
  refine wpList_step fun K hK => ?_
  rw [if_pos hw]
  unfold Oper.wp execOp
  simp only [ho, hx]
  simp only [Instr.loadAt, Instr.sureAddr, asAddr, Sem.run_bind, Sem.run_pure, hr, Result.andThen]
  exact hK _ _ h
end
structure RW3 (oL oB oX : Obj) (w W : World) : Prop where
  bl : W.heap[w.heap.size]? = some oL
  bb : W.heap[w.heap.size + 1]? = some oB
  bx : W.heap[w.heap.size + 1 + 1]? = some oX
  be : Below w.heap.size w W
theorem RW3.step {oL oB oX : Obj} {w W W' : World} (h : RW3 oL oB oX w W) (hb : Below W.heap.size W W') : RW3 oL oB oX w W' :=
  ⟨blk_below h.bl hb, blk_below h.bb hb, blk_below h.bx hb, below_then h.be h.be.size hb⟩
theorem RW3.alloc {oL oB oX : Obj} {w W : World} (h : RW3 oL oB oX w W) (ob : Obj) : RW3 oL oB oX w (W.alloc ob) := h.step (below_alloc (Below.refl _ _) ob)
end Go.Proofs.Ytkjkokgbhepmoaa.PB

namespace Go.Proofs.Ytkjkokgbhepmoaa.PB
open Go.RowKit Go.Proofs.YtkjkokgbhepmoaaW.PrintWords Go.Proofs.YtkjkokgbhepmoaaW.PrintLast Go.Proofs.YtkjkokgbhepmoaaW.PrintMore
def slow1 (a : S84) : S84 := ⟨wrap64 (2 * a.f0), a.f1⟩
def slowL (kn : List S84) : List S84 := kn.map slow1
theorem slowL_len (kn : List S84) : (slowL kn).length = kn.length := by simp [slowL]
theorem slowL_at (kn : List S84) (i : Nat) (h : i < kn.length) : kneeN (slowL kn) i = slow1 (kneeN kn i) := by
  simp [kneeN, rd_T84, slowL, h]
theorem slowL_ok {kn : List S84} (H : LehrOk kn) (i : Nat) (h : i < kn.length) : kneeN (slowL kn) i = ⟨2 * (kneeN kn i).f0, (kneeN kn i).f1⟩ := by
  rw [slowL_at kn i h]
  have := H.min i h
  unfold slow1
  rw [wsmall (x := 2 * (kneeN kn i).f0) (by unfold kneeN; omega) (by unfold kneeN; omega)]
theorem piece_slow {a b : S84} (H : PieceOk a b) (t : Int) : 2 * pieceT a b t ≤ pieceT ⟨2 * a.f0, a.f1⟩ ⟨2 * b.f0, b.f1⟩ t := by
  have d1 := H.d1
  have hm := mn_le a.f1 b.f1
  have hx := le_mx a.f1 b.f1
  unfold pieceT
  show _ ≤ if mn a.f1 b.f1 ≥ t then 2 * b.f0 - 2 * a.f0 else if mx a.f1 b.f1 > t then ((2 * b.f0 - 2 * a.f0) * (mx a.f1 b.f1 - t)) / (mx a.f1 b.f1 - mn a.f1 b.f1) else 0
  by_cases c1 : mn a.f1 b.f1 ≥ t
  · rw [if_pos c1, if_pos c1]; omega
  · rw [if_neg c1, if_neg c1]
    by_cases c2 : mx a.f1 b.f1 > t
    · rw [if_pos c2, if_pos c2]
      rw [Int.le_ediv_iff_mul_le (by omega)]
      have h := Int.ediv_mul_le ((b.f0 - a.f0) * (mx a.f1 b.f1 - t)) (show mx a.f1 b.f1 - mn a.f1 b.f1 ≠ 0 by omega)
      have e : (2 * b.f0 - 2 * a.f0) * (mx a.f1 b.f1 - t) = 2 * ((b.f0 - a.f0) * (mx a.f1 b.f1 - t)) := by rw [← Int.mul_sub, Int.mul_assoc]
      rw [e, Int.mul_assoc]
      omega
    · rw [if_neg c2, if_neg c2]; omega
theorem heldS_slow {kn : List S84} (H : LehrOk kn) (t : Int) : ∀ (m i : Nat), i + m = kn.length → 1 ≤ i → 2 * heldS kn t m i ≤ heldS (slowL kn) t m i
  | 0, i, h, h1 => by simp [heldS]
  | m + 1, i, h, h1 => by
    have ih := heldS_slow H t m (i + 1) (by omega) (by omega)
    have hb := piece_slow (H.piece h1 (by omega)) t
    simp only [heldS]
    rw [slowL_ok H (i - 1) (by omega), slowL_ok H i (by omega)]
    omega
theorem heldV_slow {kn : List S84} (H : LehrOk kn) (t : Int) : 2 * heldV kn t ≤ heldV (slowL kn) t := by
  have n2 := H.n2
  unfold heldV
  rw [slowL_len]
  exact heldS_slow H t _ _ (by omega) (by omega)
theorem fall_slow {kn : List S84} (H : LehrOk kn) {j : Nat} (h1 : 1 ≤ j) (h2 : j < kn.length) : fallN (slowL kn) j = ((fallN kn j).1, 2 * (fallN kn j).2) := by
  unfold fallN fallQ
  rw [slowL_ok H (j - 1) (by omega), slowL_ok H j h2]
  simp only [Int.mul_sub]
theorem elig_slow {kn : List S84} (H : LehrOk kn) (t0 t1 : Int) {j : Nat} (h1 : 1 ≤ j) (h2 : j < kn.length) : eligN (slowL kn) t0 t1 j = eligN kn t0 t1 j := by
  unfold eligN elig
  rw [slowL_ok H (j - 1) (by omega), slowL_ok H j h2]
theorem steep_slow {kn : List S84} (H : LehrOk kn) (H' : LehrOk (slowL kn)) (t0 t1 : Int) : 2 * (steepV (slowL kn) t0 t1).1 * (steepV kn t0 t1).2 = (steepV kn t0 t1).1 * (steepV (slowL kn) t0 t1).2 := by
  have a := steepV_spec H t0 t1
  have b := steepV_spec H' t0 t1
  generalize steepV kn t0 t1 = q at *
  generalize steepV (slowL kn) t0 t1 = q' at *
  have a0 := a.ok.n0; have a1 := a.ok.d0; have b0 := b.ok.n0; have b1 := b.ok.d0
  have m2 : ∀ x y : Int, 2 * x * y = 2 * (x * y) := fun x y => Int.mul_assoc 2 x y
  have m3 : ∀ x y : Int, x * (2 * y) = 2 * (x * y) := fun x y => by rw [← Int.mul_assoc, Int.mul_comm x 2, Int.mul_assoc]
  apply Int.le_antisymm
  · rcases b.is with e | ⟨j, j1, j2, j3, e⟩
    · rw [e]; show 2 * 0 * q.2 ≤ q.1 * 1; omega
    · rw [slowL_len] at j2
      rw [elig_slow H t0 t1 j1 j2] at j3
      have h := a.ge j j1 j2 j3
      unfold LeQ at h
      rw [e, fall_slow H j1 j2]
      show 2 * (fallN kn j).1 * q.2 ≤ q.1 * (2 * (fallN kn j).2)
      rw [m2, m3]
      omega
  · rcases a.is with e | ⟨j, j1, j2, j3, e⟩
    · rw [e]; show 0 * q'.2 ≤ 2 * q'.1 * 1; omega
    · have h := b.ge j j1 (by rw [slowL_len]; exact j2) (by rw [elig_slow H t0 t1 j1 j2]; exact j3)
      unfold LeQ at h
      rw [fall_slow H j1 j2] at h
      rw [e]
      show (fallN kn j).1 * q'.2 ≤ 2 * q'.1 * (fallN kn j).2
      have h' : (fallN kn j).1 * q'.2 ≤ q'.1 * (2 * (fallN kn j).2) := h
      rw [m3] at h'
      rw [m2]
      exact h'
theorem strain_slow {kn : List S84} (H : LehrOk kn) (H' : LehrOk (slowL kn)) {fac : Int} (hf : 0 ≤ fac) (t0 t1 th : Int) : strainV (slowL kn) fac t0 t1 th ≤ strainV kn fac t0 t1 th := by
  have a := steepV_spec H t0 t1
  have b := steepV_spec H' t0 t1
  have h := steep_slow H H' t0 t1
  unfold strainV
  generalize steepV kn t0 t1 = q at *
  generalize steepV (slowL kn) t0 t1 = q' at *
  have a0 := a.ok.n0; have a1 := a.ok.d0; have b0 := b.ok.n0; have b1 := b.ok.d0
  refine strainQ_mono hf (by omega) (by omega) ?_
  unfold LeQ
  rw [← h, Int.mul_assoc]
  have := Int.mul_nonneg b0 (show 0 ≤ q.2 by omega)
  omega
theorem ann_slow {kn : List S84} {fac : Int} (h : lehrV kn fac = 0) (h' : lehrV (slowL kn) fac = 0) (V : Int × Int × Int) (below soak th limit : Int) :
    (annV (slowL kn) fac V below soak th limit).2 = (annV kn fac V below soak th limit).2 ∧ ((annV kn fac V below soak th limit).1 = true → (annV (slowL kn) fac V below soak th limit).1 = true) := by
  obtain ⟨H, hf⟩ := lehr_facts h
  obtain ⟨H', _⟩ := lehr_facts h'
  have k1 := heldV_slow H V.2.1
  have k2 := strain_slow H H' hf.1 (V.1 - below) V.2.1 th
  have n2 := H.n2
  have k0 := (heldS_bounds H V.2.1 (kn.length - 1) 1 (by omega) (by omega)).1
  have k0' : 0 ≤ heldV kn V.2.1 := k0
  unfold annV
  simp only [if_pos h, if_pos h']
  by_cases c1 : V.2.2 = 0
  · simp only [if_pos c1]
    by_cases c2 : annB below soak th limit = true
    · simp only [if_pos c2]
      by_cases c3 : (decide (below ≤ V.1) && decide (V.2.1 ≤ 10000)) = true
      · simp only [if_pos c3]
        by_cases c4 : soak ≤ heldV kn V.2.1
        · rw [if_pos c4, if_pos (by omega)]
          refine ⟨rfl, fun hs => ?_⟩
          simp only [decide_eq_true_eq] at hs ⊢
          omega
        · rw [if_neg c4]
          refine ⟨by split <;> rfl, fun hs => by cases hs⟩
      · simp only [if_neg c3]; exact ⟨trivial, fun h => h⟩
    · simp only [if_neg c2]; exact ⟨trivial, fun h => h⟩
  · simp only [if_neg c1]; exact ⟨trivial, fun h => h⟩
theorem lowest_l0 (n d : Int) (hn : 0 ≤ n ∧ n ≤ 10000) (hd : 1 ≤ d ∧ d ≤ 10000) : ∀ (m : Nat) (x y : Int), 0 ≤ y → y ≤ m → 0 ≤ x → (0 < x ∨ 0 < y) → (∀ c : Int, c ∣ x → c ∣ y → c ∣ n ∧ c ∣ d) → ∃ g : Int, 0 < g ∧ g ∣ n ∧ g ∣ d ∧ Ev (fun k => strength_quotient_lowest.l0 k x y n d) (n / g, d / g)
  | 0, x, y, hy, hym, hx, hp, hg => by
    obtain rfl : y = 0 := by omega
    have hc := hg x (Int.dvd_refl x) (Int.dvd_zero x)
    refine ⟨x, by omega, hc.1, hc.2, Ev.step ?_⟩
    have e1 : n / x ≤ n := Int.ediv_le_self _ hn.1
    have e2 : d / x ≤ d := Int.ediv_le_self _ (by omega)
    have e3 := Int.ediv_nonneg hn.1 hx
    have e4 := Int.ediv_nonneg (show 0 ≤ d by omega) hx
    simp only [strength_quotient_lowest.l0, if_true, if_neg (show ¬ x = 0 by omega), Int.tdiv_eq_ediv_of_nonneg hn.1, Int.tdiv_eq_ediv_of_nonneg (show 0 ≤ d by omega), wsmall (show -1000000000000000000 ≤ n / x by omega) (show n / x ≤ 1000000000000000000 by omega), wsmall (show -1000000000000000000 ≤ d / x by omega) (show d / x ≤ 1000000000000000000 by omega)]
    exact Ev.const _
  | m + 1, x, y, hy, hym, hx, hp, hg => by
    by_cases h0 : y = 0
    · obtain ⟨g, g1, g2, g3, g4⟩ := lowest_l0 n d hn hd m x y hy (by omega) hx hp hg
      exact ⟨g, g1, g2, g3, g4⟩
    · have ht : Int.tmod x y = x % y := Int.tmod_eq_emod_of_nonneg hx
      have h1 := Int.emod_nonneg x h0
      have h2 := Int.emod_lt_of_pos x (show 0 < y by omega)
      obtain ⟨g, g1, g2, g3, g4⟩ := lowest_l0 n d hn hd m y (x % y) h1 (by omega) hy (.inl (by omega)) (fun c c1 c2 => hg c (by
        have e := Int.emod_add_mul_ediv x y
        have e2 : c ∣ x % y + y * (x / y) := Int.dvd_add c2 (Int.dvd_mul_of_dvd_left c1)
        rw [e] at e2
        exact e2) c1)
      refine ⟨g, g1, g2, g3, Ev.step ?_⟩
      simp only [strength_quotient_lowest.l0, if_neg h0, ht]
      exact g4
theorem lowest_ev {q : Int × Int} (h : 0 ≤ q.1 ∧ q.1 ≤ 10000) (h' : 1 ≤ q.2 ∧ q.2 ≤ 10000) : ∃ g : Int, 0 < g ∧ g ∣ q.1 ∧ g ∣ q.2 ∧ Ev (fun k => strength_quotient_lowest.f k q.1 q.2) (q.1 / g, q.2 / g) :=
  lowest_l0 q.1 q.2 h h' q.2.toNat q.1 q.2 (by omega) (by omega) h.1 (.inr (by omega)) (fun c a b => ⟨a, b⟩)
end Go.Proofs.Ytkjkokgbhepmoaa.PB

