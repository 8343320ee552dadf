import Derived.Test.YtkjkokgbhepmoaaS1
set_option linter.unusedVariables false
set_option linter.unusedSimpArgs false
namespace Go.Proofs.Ytkjkokgbhepmoaa.PB
open Go.RowKit Go.Proofs.YtkjkokgbhepmoaaW.PrintWords Go.Proofs.YtkjkokgbhepmoaaW.PrintLast Go.Proofs.YtkjkokgbhepmoaaW.PrintMore
attribute [local go_sem] max2_int min2_int max_two min_two max_three min_three max_four min_four
def strength_held.l0 : Nat → Int → Int → Int → List (S84) → Int → Option (Int)
 | 0, _, _, _, _, _ => none
 | k + 1, x1, x5, x6, x656q0, x656q1 => if x6 < (x656q0.length : Int) then (if 0 ≤ (wrap64 (x6 - 1)) then (if (wrap64 (x6 - 1)) < (x656q0.length : Int) then (if 0 ≤ x6 then (if (mn ((rd_T84 x656q0 (wrap64 (x6 - 1))).f1) ((rd_T84 x656q0 x6).f1)) ≥ x1 then (strength_held.l0 k x1 (wrap64 (x5 + (wrap64 (((rd_T84 x656q0 x6).f0) - ((rd_T84 x656q0 (wrap64 (x6 - 1))).f0))))) (wrap64 (x6 + 1)) x656q0 x656q1) else (if (mx ((rd_T84 x656q0 (wrap64 (x6 - 1))).f1) ((rd_T84 x656q0 x6).f1)) > x1 then (if (wrap64 ((mx ((rd_T84 x656q0 (wrap64 (x6 - 1))).f1) ((rd_T84 x656q0 x6).f1)) - (mn ((rd_T84 x656q0 (wrap64 (x6 - 1))).f1) ((rd_T84 x656q0 x6).f1)))) = 0 then (none) else (strength_held.l0 k x1 (wrap64 (x5 + (wrap64 (Int.tdiv (wrap64 ((wrap64 (((rd_T84 x656q0 x6).f0) - ((rd_T84 x656q0 (wrap64 (x6 - 1))).f0))) * (wrap64 ((mx ((rd_T84 x656q0 (wrap64 (x6 - 1))).f1) ((rd_T84 x656q0 x6).f1)) - x1)))) (wrap64 ((mx ((rd_T84 x656q0 (wrap64 (x6 - 1))).f1) ((rd_T84 x656q0 x6).f1)) - (mn ((rd_T84 x656q0 (wrap64 (x6 - 1))).f1) ((rd_T84 x656q0 x6).f1)))))))) (wrap64 (x6 + 1)) x656q0 x656q1)) else (strength_held.l0 k x1 x5 (wrap64 (x6 + 1)) x656q0 x656q1))) else (none)) else (none)) else (none)) else (some x5)
def strength_held.f (k : Nat) (l0_0 : List (S84)) (a0_1 : Int) (a1 : Int) : Option (Int) := strength_held.l0 k a1 0 1 l0_0 a0_1
theorem strength_held.mono_l : ∀ k, (∀ y0 y1 y2 y3 y4, LeO (strength_held.l0 k y0 y1 y2 y3 y4) (strength_held.l0 (k + 1) y0 y1 y2 y3 y4))
 | 0 => fun _ _ _ _ _ r h => by simp [strength_held.l0] at h
 | k + 1 => by
  have ih0 := strength_held.mono_l k
  ·intro y0 y1 y2 y3 y4
   unfold strength_held.l0
   repeat' first
   | (with_reducible exact ih0 _ _ _ _ _)
   | (with_reducible exact LeO.refl _)
   | (with_reducible exact LeO.none _)
   | (with_reducible refine LeO.ite ?_ ?_)
   | (with_reducible refine LeO.bind ?_ (fun _ => ?_))
   | exact LeO.none _
   | refine LeO.ite ?_ ?_
   | refine LeO.bind ?_ (fun _ => ?_)
theorem strength_held.mono : ∀ a0 a1 a2 k, LeO (strength_held.f k a0 a1 a2) (strength_held.f (k + 1) a0 a1 a2) := by
 intro a0 a1 a2 k
 have ih0 := strength_held.mono_l k
 unfold strength_held.f
 repeat' first
   | (with_reducible exact ih0 _ _ _ _ _)
   | (with_reducible exact LeO.refl _)
   | (with_reducible exact LeO.none _)
   | (with_reducible refine LeO.ite ?_ ?_)
   | (with_reducible refine LeO.bind ?_ (fun _ => ?_))
   | exact LeO.none _
   | refine LeO.ite ?_ ?_
   | refine LeO.bind ?_ (fun _ => ?_)
def strength_held.T5 : Bool × List (List Nat × List Nat) := (true, [([], []), ([0], [0]), ([], []), ([2], [2]), ([1, 3], [1, 3]), ([4], [4]), ([], []), ([6], [6]), ([], []), ([7, 8], [7, 8]), ([9], [9]), ([], []), ([], []), ([11, 5, 0, 1, 2, 3, 4, 5, 11, 12], [5, 11]), ([12, 10, 13, 0, 1, 2, 3, 4, 5, 6, 7, 8, 9, 10, 11, 12, 13], [10, 12])])
def strength_held.B5 : List Nat := [0, 1, 0, 4, 15, 31, 0, 64, 0, 448, 960, 0, 0, 6207, 16383]
theorem strength_held.tab5 : rtab .any (opsOf Try.f93 5) = strength_held.T5 := by kernel_rfl
theorem strength_held.bits5 : waitsOk strength_held.T5.2 strength_held.B5 = true := by kernel_rfl
def strength_held.T6 : Bool × List (List Nat × List Nat) := (true, [([], []), ([0], [0]), ([], []), ([2], [2]), ([1, 3], [1, 3]), ([], []), ([5], [5]), ([], []), ([7], [7]), ([6, 8], [6, 8]), ([4, 0, 1, 2, 3, 4], [4]), ([9, 10, 0, 1, 2, 3, 4, 5, 6, 7, 8, 9, 10], [9])])
def strength_held.B6 : List Nat := [0, 1, 0, 4, 15, 0, 32, 0, 128, 480, 31, 2047]
theorem strength_held.tab6 : rtab .any (opsOf Try.f93 6) = strength_held.T6 := by kernel_rfl
theorem strength_held.bits6 : waitsOk strength_held.T6.2 strength_held.B6 = true := by kernel_rfl
set_option maxHeartbeats 8000000 in
set_option maxRecDepth 100000 in
theorem strength_held.calls (k : Nat) (A0_0 : Option Addr) (c0_0 : Nat) (l0_0 : List (S84)) (a0_1 : Int) (a1 : Int) (r : Int) (w : World) (hr0_0 : Kd.C k84 w A0_0 l0_0.length l0_0) (hc0_0 : l0_0.length ≤ c0_0) (h : strength_held.f k l0_0 a0_1 a1 = some r) :
  Calls Try.prog 93 #[.agg #[.slice A0_0 l0_0.length c0_0, .int .i64 a0_1], .int .i64 a1] w fun e w' => e = .returned (.int .i64 r) ∧ Below w.heap.size w w' := by
 have hu71 := Try.underlying71; have hu84 := Try.underlying84; have HR0_0 := Sd.mk hr0_0; have HC0_0 := Sd.mk hc0_0; clear hr0_0 hc0_0; have HB := Sd.mk (Below.refl w.heap.size w)
 have H : (strength_held.l0 k a1 0 1 l0_0 a0_1) = some r := h
 clear h; have H' := Sd.mk H; clear H
 go_enter Try.func93, Try.ntmps93
 go_wp2_with (first | ((with_reducible refine gate_dst (N := 2) rfl ?_); refine box_event ?hg (N := 2) ?hd (cs := #[.slice A0_0 l0_0.length c0_0, .int .i64 a0_1]) (t := 71) ?hr ?_; (case hd => rfl); (case hg => rfl); (case hr => exact tG); intro gb655 hg w3 hbox hb; have BK655 := Sd.mk (hbox); have GW655 := Sd.mk (bSz hg (bBl HB.out)); have GE655 := Sd.mk (bSz hg (bBl HB.out)); replace HB := Sd.mk (below_step (bBl HB.out) hb); clear hb hbox hg))
 go_loopg [5, 6] k (fun kq v5 v6 w' => ∃ (x5_1 : Int) (x6_1 : Int), v5 = .int .i64 x5_1 ∧ v6 = .int .i64 x6_1 ∧ Sd (strength_held.l0 kq a1 x5_1 x6_1 l0_0 a0_1 = some r) ∧ Sd (kq ≤ k) ∧ Sd (w'.heap[gb655]? = some (.cells #[(.slice A0_0 l0_0.length c0_0), .int .i64 a0_1] 71 (0, 0))) ∧ Sd (Below w.heap.size w w'))
 case atStart => exact ⟨(0), (1), tS, tS, H', ⟨Nat.le_refl _⟩, ⟨bkA BK655.out⟩, ⟨bBl HB.out⟩⟩
 case round =>
  clear H'; (try clear p2); obtain ⟨x5_1, x6_1, rfl, rfl, HA, HK1, BK655, HB⟩ := hrel
  cases gk with
  | zero => exact absurd HA.out (by simp [strength_held.l0])
  | succ k1 =>
   have H := HA.out; clear HA
   simp only [strength_held.l0] at H
   by_cases c4 : x6_1 < (l0_0.length : Int)
   ·rw [if_pos c4] at H
    have c4b0 : decide (x6_1 < (l0_0.length : Int)) = true := decide_eq_true c4
    clear c4
    obtain ⟨ji5, hji5⟩ : ∃ j_ : Int, (wrap64 (x6_1 - 1)) = j_ := ⟨_, rfl⟩
    replace H : (if 0 ≤ (ji5) then (if (ji5) < (l0_0.length : Int) then (if 0 ≤ x6_1 then (if (mn ((rd_T84 l0_0 (ji5)).f1) ((rd_T84 l0_0 x6_1).f1)) ≥ a1 then (strength_held.l0 k1 a1 (wrap64 (x5_1 + (wrap64 (((rd_T84 l0_0 x6_1).f0) - ((rd_T84 l0_0 (ji5)).f0))))) (wrap64 (x6_1 + 1)) l0_0 a0_1) else (if (mx ((rd_T84 l0_0 (ji5)).f1) ((rd_T84 l0_0 x6_1).f1)) > a1 then (if (wrap64 ((mx ((rd_T84 l0_0 (ji5)).f1) ((rd_T84 l0_0 x6_1).f1)) - (mn ((rd_T84 l0_0 (ji5)).f1) ((rd_T84 l0_0 x6_1).f1)))) = 0 then (none) else (strength_held.l0 k1 a1 (wrap64 (x5_1 + (wrap64 (Int.tdiv (wrap64 ((wrap64 (((rd_T84 l0_0 x6_1).f0) - ((rd_T84 l0_0 (ji5)).f0))) * (wrap64 ((mx ((rd_T84 l0_0 (ji5)).f1) ((rd_T84 l0_0 x6_1).f1)) - a1)))) (wrap64 ((mx ((rd_T84 l0_0 (ji5)).f1) ((rd_T84 l0_0 x6_1).f1)) - (mn ((rd_T84 l0_0 (ji5)).f1) ((rd_T84 l0_0 x6_1).f1)))))))) (wrap64 (x6_1 + 1)) l0_0 a0_1)) else (strength_held.l0 k1 a1 x5_1 (wrap64 (x6_1 + 1)) l0_0 a0_1))) else (none)) else (none)) else (none)) = some r := by first | (rw [hji5] at H; exact H) | (simp only [hji5] at H ⊢; exact H)
    have hji5w : (IntKind.i64.wrap (x6_1 - 1)) = ji5 := (i64_w _).trans hji5
    by_cases c6 : 0 ≤ (ji5)
    ·rw [if_pos c6] at H
     have c6b0 : decide (0 ≤ (ji5)) = true := decide_eq_true c6
     clear c6
     by_cases c7 : (ji5) < (l0_0.length : Int)
     ·rw [if_pos c7] at H
      have c7b0 : decide ((ji5) < (l0_0.length : Int)) = true := decide_eq_true c7
      clear c7
      by_cases c8 : 0 ≤ x6_1
      ·rw [if_pos c8] at H
       have c8b0 : decide (0 ≤ x6_1) = true := decide_eq_true c8
       clear c8
       obtain ⟨ji9, hji9⟩ : ∃ j_ : Int, (mn ((rd_T84 l0_0 (ji5)).f1) ((rd_T84 l0_0 x6_1).f1)) = j_ := ⟨_, rfl⟩
       replace H : (if (ji9) ≥ a1 then (strength_held.l0 k1 a1 (wrap64 (x5_1 + (wrap64 (((rd_T84 l0_0 x6_1).f0) - ((rd_T84 l0_0 (ji5)).f0))))) (wrap64 (x6_1 + 1)) l0_0 a0_1) else (if (mx ((rd_T84 l0_0 (ji5)).f1) ((rd_T84 l0_0 x6_1).f1)) > a1 then (if (wrap64 ((mx ((rd_T84 l0_0 (ji5)).f1) ((rd_T84 l0_0 x6_1).f1)) - (ji9))) = 0 then (none) else (strength_held.l0 k1 a1 (wrap64 (x5_1 + (wrap64 (Int.tdiv (wrap64 ((wrap64 (((rd_T84 l0_0 x6_1).f0) - ((rd_T84 l0_0 (ji5)).f0))) * (wrap64 ((mx ((rd_T84 l0_0 (ji5)).f1) ((rd_T84 l0_0 x6_1).f1)) - a1)))) (wrap64 ((mx ((rd_T84 l0_0 (ji5)).f1) ((rd_T84 l0_0 x6_1).f1)) - (ji9))))))) (wrap64 (x6_1 + 1)) l0_0 a0_1)) else (strength_held.l0 k1 a1 x5_1 (wrap64 (x6_1 + 1)) l0_0 a0_1))) = some r := by first | (rw [hji9] at H; exact H) | (simp only [hji9] at H ⊢; exact H)
       have hji9_ : (if ((rd_T84 l0_0 x6_1).f1) < ((rd_T84 l0_0 (ji5)).f1) then ((rd_T84 l0_0 x6_1).f1) else ((rd_T84 l0_0 (ji5)).f1)) = ji9 := hji9
       obtain ⟨ji10, hji10⟩ : ∃ j_ : Int, (mx ((rd_T84 l0_0 (ji5)).f1) ((rd_T84 l0_0 x6_1).f1)) = j_ := ⟨_, rfl⟩
       replace H : (if (ji9) ≥ a1 then (strength_held.l0 k1 a1 (wrap64 (x5_1 + (wrap64 (((rd_T84 l0_0 x6_1).f0) - ((rd_T84 l0_0 (ji5)).f0))))) (wrap64 (x6_1 + 1)) l0_0 a0_1) else (if (ji10) > a1 then (if (wrap64 ((ji10) - (ji9))) = 0 then (none) else (strength_held.l0 k1 a1 (wrap64 (x5_1 + (wrap64 (Int.tdiv (wrap64 ((wrap64 (((rd_T84 l0_0 x6_1).f0) - ((rd_T84 l0_0 (ji5)).f0))) * (wrap64 ((ji10) - a1)))) (wrap64 ((ji10) - (ji9))))))) (wrap64 (x6_1 + 1)) l0_0 a0_1)) else (strength_held.l0 k1 a1 x5_1 (wrap64 (x6_1 + 1)) l0_0 a0_1))) = some r := by first | (rw [hji10] at H; exact H) | (simp only [hji10] at H ⊢; exact H)
       have hji10_ : (if ((rd_T84 l0_0 (ji5)).f1) < ((rd_T84 l0_0 x6_1).f1) then ((rd_T84 l0_0 x6_1).f1) else ((rd_T84 l0_0 (ji5)).f1)) = ji10 := hji10
       by_cases c11 : (ji9) ≥ a1
       ·rw [if_pos c11] at H
        have c11b0 : decide (a1 ≤ (ji9)) = true := decide_eq_true c11
        clear c11; have H' := Sd.mk H; clear H; obtain ⟨u12_0, u12_1, o12_0, o12_1⟩ := bc2 (w := wr) BK655.out
        try go_wp2
        replace BK655 := Sd.mk (blk_drew BK655.out); replace HB := Sd.mk (below_drew1 HB.out)
        have p656 : 0 ≤ ((ji5) : Int) := tB
        have q656 : (ji5) < (l0_0.length : Int) := tB
        obtain ⟨ad656, e656, hx656_0, hx656_1⟩ := at_T84 HR0_0.out (ji5) p656 q656; have hw656_1 := hx656_1; have hw656_0 := hx656_0; cases e656; replace hx656_0 := cU HB hx656_0; replace hx656_1 := cU HB hx656_1; replace p656 := eq_true p656; replace q656 := eq_true q656
        have p657 : 0 ≤ (x6_1 : Int) := tB
        have q657 : x6_1 < (l0_0.length : Int) := tB
        obtain ⟨ad657, e657, hx657_0, hx657_1⟩ := at_T84 HR0_0.out x6_1 p657 q657; have hw657_1 := hx657_1; have hw657_0 := hx657_0
        obtain rfl : ad656 = ad657 := (by injection e657)
        replace hx657_0 := cU HB hx657_0; replace hx657_1 := cU HB hx657_1; replace p657 := eq_true p657; replace q657 := eq_true q657
        refine start_ (n := 15) (S := fun w' => w'.cell? ⟨gb655, 0, none⟩ = some (.slice (some ad656) l0_0.length c0_0) ∧ w'.cell? ⟨gb655, 1, none⟩ = some (.int .i64 a0_1) ∧ w'.cell? (ad656.add (((ji5)).toNat * 2)) = some (.int .i64 ((rd_T84 l0_0 (ji5)).f0)) ∧ w'.cell? ⟨(ad656.add (((ji5)).toNat * 2)).block, (ad656.add (((ji5)).toNat * 2)).off + 1, none⟩ = some (.int .i64 ((rd_T84 l0_0 (ji5)).f1)) ∧ w'.cell? (ad656.add ((x6_1).toNat * 2)) = some (.int .i64 ((rd_T84 l0_0 x6_1).f0)) ∧ w'.cell? ⟨(ad656.add ((x6_1).toNat * 2)).block, (ad656.add ((x6_1).toNat * 2)).off + 1, none⟩ = some (.int .i64 ((rd_T84 l0_0 x6_1).f1))) (ds := []) #[false, false, false, false, false, false, false, false, false, false, false, false, false, false, false] (by kernel_rfl) rfl rfl ⟨(blk_cell BK655.out 0).trans rfl, (blk_cell BK655.out 1).trans rfl, ((HB.out.cell (World.block_lt_of_cell? w _ hw656_0)).trans hw656_0), ((HB.out.cell (World.block_lt_of_cell? w _ hw656_1)).trans hw656_1), ((HB.out.cell (World.block_lt_of_cell? w _ hw657_0)).trans hw657_0), ((HB.out.cell (World.block_lt_of_cell? w _ hw657_1)).trans hw657_1)⟩ (fun hHeld => ?_); refine with_tabW strength_held.tab5 strength_held.bits5 (fun HT_ HW_ => ?_)
        generalize wr.drew = w13 at BK655 HB hx656_0 hx656_1 hx657_0 hx657_1 hHeld ⊢
        refine pure_ (i := 0) (N := some 19) (v := ?_) (a' := ?_) #[true, false, false, false, false, false, false, false, false, false, false, false, false, false, false] rfl rfl (any_of HT_.out (by kernel_rfl)) (fun _ _ _ h => h) (Or.inl ⟨by rfl, ?_⟩) ?_ ?_
        rotate_left
        ·exact tW
        rotate_left
        ·exact tP
        refine pure_ (i := 2) (N := some 21) (v := ?_) (a' := ?_) #[true, false, true, false, false, false, false, false, false, false, false, false, false, false, false] rfl rfl (any_of HT_.out (by kernel_rfl)) (fun _ _ _ h => h) (Or.inl ⟨by rfl, ?_⟩) ?_ ?_
        rotate_left
        ·exact tW
        rotate_left
        ·exact tP
        refine pure_ (i := 3) (N := some 22) (v := ?_) (a' := ?_) #[true, false, true, true, false, false, false, false, false, false, false, false, false, false, false] rfl rfl (any_of HT_.out (by kernel_rfl)) (fun _ _ _ h => h) (Or.inl ⟨by rfl, ?_⟩) ?_ ?_
        rotate_left
        ·exact tW
        rotate_left
        ·exact tP
        refine pure_ (i := 6) (N := some 25) (v := ?_) (a' := ?_) #[true, false, true, true, false, false, true, false, false, false, false, false, false, false, false] rfl rfl (any_of HT_.out (by kernel_rfl)) (fun _ _ _ h => h) (Or.inl ⟨by rfl, ?_⟩) ?_ ?_
        rotate_left
        ·exact tW
        rotate_left
        ·exact tP
        refine pure_ (i := 8) (N := some 27) (v := ?_) (a' := ?_) #[true, false, true, true, false, false, true, false, true, false, false, false, false, false, false] rfl rfl (any_of HT_.out (by kernel_rfl)) (fun _ _ _ h => h) (Or.inl ⟨by rfl, ?_⟩) ?_ ?_
        rotate_left
        ·exact tW
        rotate_left
        ·exact tP
        refine take_ (i := 1) (N := some 20) (v := ?_) (a' := ?_) #[true, true, true, true, false, false, true, false, true, false, false, false, false, false, false] rfl rfl (take_ofW HT_.out HW_.out (by kernel_rfl)) (fun _ _ _ h => h) (Or.inl ⟨by rfl, ?_⟩) hHeld ?_ ?_
        rotate_left
        ·rintro w' ⟨s0, s1, s2, s3, s4, s5⟩
         go_simp
         with_reducible rfl
        rotate_left
        ·exact tP
        refine pure_ (i := 4) (N := some 23) (v := ?_) (a' := ?_) #[true, true, true, true, true, false, true, false, true, false, false, false, false, false, false] rfl rfl (any_of HT_.out (by kernel_rfl)) (fun _ _ _ h => h) (Or.inl ⟨by rfl, ?_⟩) ?_ ?_
        rotate_left
        ·exact tW
        rotate_left
        ·exact tP
        refine take_ (i := 5) (N := some 24) (v := ?_) (a' := ?_) #[true, true, true, true, true, true, true, false, true, false, false, false, false, false, false] rfl rfl (take_ofW HT_.out HW_.out (by kernel_rfl)) (fun _ _ _ h => h) (Or.inl ⟨by rfl, ?_⟩) hHeld ?_ ?_
        rotate_left
        ·rintro w' ⟨s0, s1, s2, s3, s4, s5⟩
         go_simp
         with_reducible rfl
        rotate_left
        ·exact tP
        refine take_ (i := 7) (N := some 26) (v := ?_) (a' := ?_) #[true, true, true, true, true, true, true, true, true, false, false, false, false, false, false] rfl rfl (take_ofW HT_.out HW_.out (by kernel_rfl)) (fun _ _ _ h => h) (Or.inl ⟨by rfl, ?_⟩) hHeld ?_ ?_
        rotate_left
        ·rintro w' ⟨s0, s1, s2, s3, s4, s5⟩
         go_simp
         with_reducible rfl
        rotate_left
        ·exact tP
        refine pure_ (i := 9) (N := some 28) (v := ?_) (a' := ?_) #[true, true, true, true, true, true, true, true, true, true, false, false, false, false, false] rfl rfl (any_of HT_.out (by kernel_rfl)) (fun _ _ _ h => h) (Or.inl ⟨by rfl, ?_⟩) ?_ ?_
        rotate_left
        ·exact tW
        rotate_left
        ·exact tP
        refine take_ (i := 10) (N := some 29) (v := ?_) (a' := ?_) #[true, true, true, true, true, true, true, true, true, true, true, false, false, false, false] rfl rfl (take_ofW HT_.out HW_.out (by kernel_rfl)) (fun _ _ _ h => h) (Or.inl ⟨by rfl, ?_⟩) hHeld ?_ ?_
        rotate_left
        ·rintro w' ⟨s0, s1, s2, s3, s4, s5⟩
         go_simp
         with_reducible rfl
        rotate_left
        ·exact tP
        refine join_ (σ := Nat × Nat) 2 #[true, true, true, true, true, true, true, true, true, true, true, true, true, false, false] (fun s_ => [(7, .pointer (some ⟨s_.1, 0, none⟩)), (8, .pointer (some ⟨s_.2, 0, none⟩))]) (fun s_ w' => (w'.cell? ⟨gb655, 0, none⟩ = some (.slice (some ad656) l0_0.length c0_0) ∧ w'.cell? ⟨gb655, 1, none⟩ = some (.int .i64 a0_1) ∧ w'.cell? (ad656.add (((ji5)).toNat * 2)) = some (.int .i64 ((rd_T84 l0_0 (ji5)).f0)) ∧ w'.cell? ⟨(ad656.add (((ji5)).toNat * 2)).block, (ad656.add (((ji5)).toNat * 2)).off + 1, none⟩ = some (.int .i64 ((rd_T84 l0_0 (ji5)).f1)) ∧ w'.cell? (ad656.add ((x6_1).toNat * 2)) = some (.int .i64 ((rd_T84 l0_0 x6_1).f0)) ∧ w'.cell? ⟨(ad656.add ((x6_1).toNat * 2)).block, (ad656.add ((x6_1).toNat * 2)).off + 1, none⟩ = some (.int .i64 ((rd_T84 l0_0 x6_1).f1))) ∧ (w'.heap[gb655]? = some (.cells #[.slice (some ad656) l0_0.length c0_0, .int .i64 a0_1] 71 (0, 0))) ∧ (w'.heap[s_.1]? = some (.cells #[.int .i64 0, .int .i64 0] 84 (0, 0))) ∧ (w'.heap[s_.2]? = some (.cells #[.int .i64 0, .int .i64 0] 84 (0, 0))) ∧ (w.heap.size ≤ s_.1) ∧ (w.heap.size ≤ s_.1) ∧ (gb655 ≠ s_.1) ∧ (s_.1 ≠ gb655) ∧ (s_.2 ≠ s_.1) ∧ (s_.1 ≠ s_.2) ∧ (w.heap.size ≤ s_.2) ∧ (w.heap.size ≤ s_.2) ∧ (gb655 ≠ s_.2) ∧ (s_.2 ≠ gb655) ∧ (Below w.heap.size w w')) ?_ ?_
        rotate_left
        ·intro hCont
         refine two_ (i := 11) (j := 12) (Ni := some 7) (Nj := some 8) #[true, true, true, true, true, true, true, true, true, true, true, true, false, false, false] #[true, true, true, true, true, true, true, true, true, true, true, false, true, false, false] rfl rfl rfl rfl (two_of HT_.out (by kernel_rfl)) (by decide) (by decide) (fun K hK => ?_) (fun K hK => ?_)
         ·skip
          refine box_step ?hg (N := 7) ?hd (cs := #[.int .i64 0, .int .i64 0]) (t := 84) ?hr ?_; (case hd => rfl); (case hg => rfl); (case hr => exact tG)
          intro gb658 hg w14 hbox hb
          have BK658 := Sd.mk (hbox); have GW658 := Sd.mk (bSz hg (bBl HB.out)); have GE658 := Sd.mk (bSz hg (bBl HB.out)); replace HB := Sd.mk (below_step (bBl HB.out) hb); have NB655_658 := Sd.mk (bNl hg (bkA BK655.out)); have NB658_655 := Sd.mk (bNg hg (bkA BK655.out)); replace BK655 := Sd.mk (blk_below (bkA BK655.out) hb); clear hb hbox hg
          refine hK.out _ _ ⟨(blk_cell BK655.out 0).trans rfl, (blk_cell BK655.out 1).trans rfl, ((HB.out.cell (World.block_lt_of_cell? w _ hw656_0)).trans hw656_0), ((HB.out.cell (World.block_lt_of_cell? w _ hw656_1)).trans hw656_1), ((HB.out.cell (World.block_lt_of_cell? w _ hw657_0)).trans hw657_0), ((HB.out.cell (World.block_lt_of_cell? w _ hw657_1)).trans hw657_1)⟩ (fun hHeld => ?_)
          clear hK K
          refine norm_ (a' := ?_) ?_ ?_
          rotate_left
          ·show Act.put _ (some 7) _ = _
           exact tP
          refine one_ (i := 12) (N := some 8) #[true, true, true, true, true, true, true, true, true, true, true, true, true, false, false] rfl rfl (one_of HT_.out (by kernel_rfl)) (by decide) (fun K hK => ?_)
          refine box_step ?hg (N := 8) ?hd (cs := #[.int .i64 0, .int .i64 0]) (t := 84) ?hr ?_; (case hd => rfl); (case hg => rfl); (case hr => exact tG)
          intro gb659 hg w15 hbox hb
          have BK659 := Sd.mk (hbox); have GW659 := Sd.mk (bSz hg (bBl HB.out)); have GE659 := Sd.mk (bSz hg (bBl HB.out)); replace HB := Sd.mk (below_step (bBl HB.out) hb); have NB655_659 := Sd.mk (bNl hg (bkA BK655.out)); have NB659_655 := Sd.mk (bNg hg (bkA BK655.out)); replace BK655 := Sd.mk (blk_below (bkA BK655.out) hb); have NB658_659 := Sd.mk (bNl hg (bkA BK658.out)); have NB659_658 := Sd.mk (bNg hg (bkA BK658.out)); replace BK658 := Sd.mk (blk_below (bkA BK658.out) hb); clear hb hbox hg
          refine hK.out _ _ ⟨(blk_cell BK655.out 0).trans rfl, (blk_cell BK655.out 1).trans rfl, ((HB.out.cell (World.block_lt_of_cell? w _ hw656_0)).trans hw656_0), ((HB.out.cell (World.block_lt_of_cell? w _ hw656_1)).trans hw656_1), ((HB.out.cell (World.block_lt_of_cell? w _ hw657_0)).trans hw657_0), ((HB.out.cell (World.block_lt_of_cell? w _ hw657_1)).trans hw657_1)⟩ (fun hHeld => ?_)
          clear hK K
          refine norm_ (a' := ?_) ?_ ?_
          rotate_left
          ·show Act.put _ (some 8) _ = _
           exact tP
          exact norm_ (by simp only [putAll, Act.put, List.setIfInBounds_toArray, List.set_cons_zero, List.set_cons_succ]) (hCont (gb658, gb659) _ ⟨hHeld, (bkA BK655.out), (bkA BK658.out), (bkA BK659.out), GW658.out, GE658.out, NB655_658.out, NB658_655.out, NB659_658.out, NB658_659.out, GW659.out, GE659.out, NB655_659.out, NB659_655.out, (bBl HB.out)⟩)
         ·skip
          refine box_step ?hg (N := 8) ?hd (cs := #[.int .i64 0, .int .i64 0]) (t := 84) ?hr ?_; (case hd => rfl); (case hg => rfl); (case hr => exact tG)
          intro gb659 hg w14 hbox hb
          have BK659 := Sd.mk (hbox); have GW659 := Sd.mk (bSz hg (bBl HB.out)); have GE659 := Sd.mk (bSz hg (bBl HB.out)); replace HB := Sd.mk (below_step (bBl HB.out) hb); have NB655_659 := Sd.mk (bNl hg (bkA BK655.out)); have NB659_655 := Sd.mk (bNg hg (bkA BK655.out)); replace BK655 := Sd.mk (blk_below (bkA BK655.out) hb); clear hb hbox hg
          refine hK.out _ _ ⟨(blk_cell BK655.out 0).trans rfl, (blk_cell BK655.out 1).trans rfl, ((HB.out.cell (World.block_lt_of_cell? w _ hw656_0)).trans hw656_0), ((HB.out.cell (World.block_lt_of_cell? w _ hw656_1)).trans hw656_1), ((HB.out.cell (World.block_lt_of_cell? w _ hw657_0)).trans hw657_0), ((HB.out.cell (World.block_lt_of_cell? w _ hw657_1)).trans hw657_1)⟩ (fun hHeld => ?_)
          clear hK K
          refine norm_ (a' := ?_) ?_ ?_
          rotate_left
          ·show Act.put _ (some 8) _ = _
           exact tP
          refine one_ (i := 11) (N := some 7) #[true, true, true, true, true, true, true, true, true, true, true, true, true, false, false] rfl rfl (one_of HT_.out (by kernel_rfl)) (by decide) (fun K hK => ?_)
          refine box_step ?hg (N := 7) ?hd (cs := #[.int .i64 0, .int .i64 0]) (t := 84) ?hr ?_; (case hd => rfl); (case hg => rfl); (case hr => exact tG)
          intro gb658 hg w15 hbox hb
          have BK658 := Sd.mk (hbox); have GW658 := Sd.mk (bSz hg (bBl HB.out)); have GE658 := Sd.mk (bSz hg (bBl HB.out)); replace HB := Sd.mk (below_step (bBl HB.out) hb); have NB655_658 := Sd.mk (bNl hg (bkA BK655.out)); have NB658_655 := Sd.mk (bNg hg (bkA BK655.out)); replace BK655 := Sd.mk (blk_below (bkA BK655.out) hb); have NB659_658 := Sd.mk (bNl hg (bkA BK659.out)); have NB658_659 := Sd.mk (bNg hg (bkA BK659.out)); replace BK659 := Sd.mk (blk_below (bkA BK659.out) hb); clear hb hbox hg
          refine hK.out _ _ ⟨(blk_cell BK655.out 0).trans rfl, (blk_cell BK655.out 1).trans rfl, ((HB.out.cell (World.block_lt_of_cell? w _ hw656_0)).trans hw656_0), ((HB.out.cell (World.block_lt_of_cell? w _ hw656_1)).trans hw656_1), ((HB.out.cell (World.block_lt_of_cell? w _ hw657_0)).trans hw657_0), ((HB.out.cell (World.block_lt_of_cell? w _ hw657_1)).trans hw657_1)⟩ (fun hHeld => ?_)
          clear hK K
          refine norm_ (a' := ?_) ?_ ?_
          rotate_left
          ·show Act.put _ (some 7) _ = _
           exact tP
          exact norm_ (by simp only [putAll, Act.put, List.setIfInBounds_toArray, List.set_cons_zero, List.set_cons_succ]) (hCont (gb658, gb659) _ ⟨hHeld, (bkA BK655.out), (bkA BK658.out), (bkA BK659.out), GW658.out, GE658.out, NB655_658.out, NB658_655.out, NB659_658.out, NB658_659.out, GW659.out, GE659.out, NB655_659.out, NB659_655.out, (bBl HB.out)⟩)
        rintro ⟨gb658, gb659⟩ w16 ⟨hS_, h0_, h1_, h2_, h3_, h4_, h5_, h6_, h7_, h8_, h9_, h10_, h11_, h12_, h13_⟩
        have n0_ : Sd (w16.heap[gb655]? = some (.cells #[.slice (some ad656) l0_0.length c0_0, .int .i64 a0_1] 71 (0, 0))) := ⟨h0_⟩
        have n1_ : Sd (w16.heap[gb658]? = some (.cells #[.int .i64 0, .int .i64 0] 84 (0, 0))) := ⟨h1_⟩
        have n2_ : Sd (w16.heap[gb659]? = some (.cells #[.int .i64 0, .int .i64 0] 84 (0, 0))) := ⟨h2_⟩
        have n3_ : Sd (w.heap.size ≤ gb658) := ⟨h3_⟩
        have n4_ : Sd (w.heap.size ≤ gb658) := ⟨h4_⟩
        have n5_ : Sd (gb655 ≠ gb658) := ⟨h5_⟩
        have n6_ : Sd (gb658 ≠ gb655) := ⟨h6_⟩
        have n7_ : Sd (gb659 ≠ gb658) := ⟨h7_⟩
        have n8_ : Sd (gb658 ≠ gb659) := ⟨h8_⟩
        have n9_ : Sd (w.heap.size ≤ gb659) := ⟨h9_⟩
        have n10_ : Sd (w.heap.size ≤ gb659) := ⟨h10_⟩
        have n11_ : Sd (gb655 ≠ gb659) := ⟨h11_⟩
        have n12_ : Sd (gb659 ≠ gb655) := ⟨h12_⟩
        have n13_ : Sd (Below w.heap.size w w16) := ⟨h13_⟩
        clear BK655; clear HB; clear h0_ h1_ h2_ h3_ h4_ h5_ h6_ h7_ h8_ h9_ h10_ h11_ h12_ h13_; have BK655 := n0_; have BK658 := n1_; have BK659 := n2_; have GW658 := n3_; have GE658 := n4_; have NB655_658 := n5_; have NB658_655 := n6_; have NB659_658 := n7_; have NB658_659 := n8_; have GW659 := n9_; have GE659 := n10_; have NB655_659 := n11_; have NB659_655 := n12_; have HB := n13_; clear n0_ n1_ n2_ n3_ n4_ n5_ n6_ n7_ n8_ n9_ n10_ n11_ n12_ n13_
        have hHeld : w16.cell? ⟨gb655, 0, none⟩ = some (.slice (some ad656) l0_0.length c0_0) ∧ w16.cell? ⟨gb655, 1, none⟩ = some (.int .i64 a0_1) ∧ w16.cell? (ad656.add (((ji5)).toNat * 2)) = some (.int .i64 ((rd_T84 l0_0 (ji5)).f0)) ∧ w16.cell? ⟨(ad656.add (((ji5)).toNat * 2)).block, (ad656.add (((ji5)).toNat * 2)).off + 1, none⟩ = some (.int .i64 ((rd_T84 l0_0 (ji5)).f1)) ∧ w16.cell? (ad656.add ((x6_1).toNat * 2)) = some (.int .i64 ((rd_T84 l0_0 x6_1).f0)) ∧ w16.cell? ⟨(ad656.add ((x6_1).toNat * 2)).block, (ad656.add ((x6_1).toNat * 2)).off + 1, none⟩ = some (.int .i64 ((rd_T84 l0_0 x6_1).f1)) := hS_
        refine norm_ (a' := ?_) ?_ ?_
        rotate_left
        ·simp only [putAll, Act.put, List.setIfInBounds_toArray, List.set_cons_zero, List.set_cons_succ]
         rfl
        refine one_ (i := 13) (N := none) #[true, true, true, true, true, true, true, true, true, true, true, true, true, true, false] rfl rfl (one_of HT_.out (by kernel_rfl)) (by decide) (fun K hK => ?_)
        have hs17 : w16.cell? ⟨gb658, 0, none⟩ = some (.int .i64 0) := (blk_cell BK658.out 0).trans rfl
        have hfs17 := blk_frozen BK658.out 0; have hns17_0 := NB655_658.out; have hns17_2 := NB659_658.out; have hms17_0 := NB658_655.out; have hms17_2 := NB658_659.out
        have hs18 : w16.cell? ⟨gb658, 1, none⟩ = some (.int .i64 0) := (blk_cell BK658.out 1).trans rfl
        have hfs18 := blk_frozen BK658.out 1; have hns18_0 := NB655_658.out; have hns18_2 := NB659_658.out; have hms18_0 := NB658_655.out; have hms18_2 := NB658_659.out
        refine skip_ (w1 := ?_) (by rfl) rfl ?_ ?_
        rotate_left
        ·go_simp
         rfl
        refine hK.out _ _ ⟨((cell_far (p := ⟨gb658, _, none⟩) NB655_658.out _).trans (((cell_far (p := ⟨gb658, _, none⟩) NB655_658.out _).trans (hHeld.1)))), ((cell_far (p := ⟨gb658, _, none⟩) NB655_658.out _).trans (((cell_far (p := ⟨gb658, _, none⟩) NB655_658.out _).trans (hHeld.2.1)))), ((cell_far (p := ⟨gb658, _, none⟩) (by first | exact Nat.ne_of_lt (Nat.lt_of_lt_of_le (by have := World.block_lt_of_cell? _ _ hw656_0; first | rwa [add_block] at this | exact this) GW658.out) | (rw [add_block]; exact Nat.ne_of_lt (Nat.lt_of_lt_of_le (by have := World.block_lt_of_cell? _ _ hw656_0; first | rwa [add_block] at this | exact this) GW658.out)) | (show (Addr.add _ _).block ≠ _; rw [add_block]; exact Nat.ne_of_lt (Nat.lt_of_lt_of_le (by have := World.block_lt_of_cell? _ _ hw656_0; first | rwa [add_block] at this | exact this) GW658.out)) | (dsimp only; exact Nat.ne_of_lt (Nat.lt_of_lt_of_le (by have := World.block_lt_of_cell? _ _ hw656_0; first | rwa [add_block] at this | exact this) GW658.out))) _).trans (((cell_far (p := ⟨gb658, _, none⟩) (by first | exact Nat.ne_of_lt (Nat.lt_of_lt_of_le (by have := World.block_lt_of_cell? _ _ hw656_0; first | rwa [add_block] at this | exact this) GW658.out) | (rw [add_block]; exact Nat.ne_of_lt (Nat.lt_of_lt_of_le (by have := World.block_lt_of_cell? _ _ hw656_0; first | rwa [add_block] at this | exact this) GW658.out)) | (show (Addr.add _ _).block ≠ _; rw [add_block]; exact Nat.ne_of_lt (Nat.lt_of_lt_of_le (by have := World.block_lt_of_cell? _ _ hw656_0; first | rwa [add_block] at this | exact this) GW658.out)) | (dsimp only; exact Nat.ne_of_lt (Nat.lt_of_lt_of_le (by have := World.block_lt_of_cell? _ _ hw656_0; first | rwa [add_block] at this | exact this) GW658.out))) _).trans (hHeld.2.2.1)))), ((cell_far (p := ⟨gb658, _, none⟩) (by first | exact Nat.ne_of_lt (Nat.lt_of_lt_of_le (by have := World.block_lt_of_cell? _ _ hw656_1; first | rwa [add_block] at this | exact this) GW658.out) | (rw [add_block]; exact Nat.ne_of_lt (Nat.lt_of_lt_of_le (by have := World.block_lt_of_cell? _ _ hw656_1; first | rwa [add_block] at this | exact this) GW658.out)) | (show (Addr.add _ _).block ≠ _; rw [add_block]; exact Nat.ne_of_lt (Nat.lt_of_lt_of_le (by have := World.block_lt_of_cell? _ _ hw656_1; first | rwa [add_block] at this | exact this) GW658.out)) | (dsimp only; exact Nat.ne_of_lt (Nat.lt_of_lt_of_le (by have := World.block_lt_of_cell? _ _ hw656_1; first | rwa [add_block] at this | exact this) GW658.out))) _).trans (((cell_far (p := ⟨gb658, _, none⟩) (by first | exact Nat.ne_of_lt (Nat.lt_of_lt_of_le (by have := World.block_lt_of_cell? _ _ hw656_1; first | rwa [add_block] at this | exact this) GW658.out) | (rw [add_block]; exact Nat.ne_of_lt (Nat.lt_of_lt_of_le (by have := World.block_lt_of_cell? _ _ hw656_1; first | rwa [add_block] at this | exact this) GW658.out)) | (show (Addr.add _ _).block ≠ _; rw [add_block]; exact Nat.ne_of_lt (Nat.lt_of_lt_of_le (by have := World.block_lt_of_cell? _ _ hw656_1; first | rwa [add_block] at this | exact this) GW658.out)) | (dsimp only; exact Nat.ne_of_lt (Nat.lt_of_lt_of_le (by have := World.block_lt_of_cell? _ _ hw656_1; first | rwa [add_block] at this | exact this) GW658.out))) _).trans (hHeld.2.2.2.1)))), ((cell_far (p := ⟨gb658, _, none⟩) (by first | exact Nat.ne_of_lt (Nat.lt_of_lt_of_le (by have := World.block_lt_of_cell? _ _ hw657_0; first | rwa [add_block] at this | exact this) GW658.out) | (rw [add_block]; exact Nat.ne_of_lt (Nat.lt_of_lt_of_le (by have := World.block_lt_of_cell? _ _ hw657_0; first | rwa [add_block] at this | exact this) GW658.out)) | (show (Addr.add _ _).block ≠ _; rw [add_block]; exact Nat.ne_of_lt (Nat.lt_of_lt_of_le (by have := World.block_lt_of_cell? _ _ hw657_0; first | rwa [add_block] at this | exact this) GW658.out)) | (dsimp only; exact Nat.ne_of_lt (Nat.lt_of_lt_of_le (by have := World.block_lt_of_cell? _ _ hw657_0; first | rwa [add_block] at this | exact this) GW658.out))) _).trans (((cell_far (p := ⟨gb658, _, none⟩) (by first | exact Nat.ne_of_lt (Nat.lt_of_lt_of_le (by have := World.block_lt_of_cell? _ _ hw657_0; first | rwa [add_block] at this | exact this) GW658.out) | (rw [add_block]; exact Nat.ne_of_lt (Nat.lt_of_lt_of_le (by have := World.block_lt_of_cell? _ _ hw657_0; first | rwa [add_block] at this | exact this) GW658.out)) | (show (Addr.add _ _).block ≠ _; rw [add_block]; exact Nat.ne_of_lt (Nat.lt_of_lt_of_le (by have := World.block_lt_of_cell? _ _ hw657_0; first | rwa [add_block] at this | exact this) GW658.out)) | (dsimp only; exact Nat.ne_of_lt (Nat.lt_of_lt_of_le (by have := World.block_lt_of_cell? _ _ hw657_0; first | rwa [add_block] at this | exact this) GW658.out))) _).trans (hHeld.2.2.2.2.1)))), ((cell_far (p := ⟨gb658, _, none⟩) (by first | exact Nat.ne_of_lt (Nat.lt_of_lt_of_le (by have := World.block_lt_of_cell? _ _ hw657_1; first | rwa [add_block] at this | exact this) GW658.out) | (rw [add_block]; exact Nat.ne_of_lt (Nat.lt_of_lt_of_le (by have := World.block_lt_of_cell? _ _ hw657_1; first | rwa [add_block] at this | exact this) GW658.out)) | (show (Addr.add _ _).block ≠ _; rw [add_block]; exact Nat.ne_of_lt (Nat.lt_of_lt_of_le (by have := World.block_lt_of_cell? _ _ hw657_1; first | rwa [add_block] at this | exact this) GW658.out)) | (dsimp only; exact Nat.ne_of_lt (Nat.lt_of_lt_of_le (by have := World.block_lt_of_cell? _ _ hw657_1; first | rwa [add_block] at this | exact this) GW658.out))) _).trans (((cell_far (p := ⟨gb658, _, none⟩) (by first | exact Nat.ne_of_lt (Nat.lt_of_lt_of_le (by have := World.block_lt_of_cell? _ _ hw657_1; first | rwa [add_block] at this | exact this) GW658.out) | (rw [add_block]; exact Nat.ne_of_lt (Nat.lt_of_lt_of_le (by have := World.block_lt_of_cell? _ _ hw657_1; first | rwa [add_block] at this | exact this) GW658.out)) | (show (Addr.add _ _).block ≠ _; rw [add_block]; exact Nat.ne_of_lt (Nat.lt_of_lt_of_le (by have := World.block_lt_of_cell? _ _ hw657_1; first | rwa [add_block] at this | exact this) GW658.out)) | (dsimp only; exact Nat.ne_of_lt (Nat.lt_of_lt_of_le (by have := World.block_lt_of_cell? _ _ hw657_1; first | rwa [add_block] at this | exact this) GW658.out))) _).trans (hHeld.2.2.2.2.2))))⟩ (fun hHeld => ?_)
        clear hK K
        refine one_ (i := 14) (N := none) #[true, true, true, true, true, true, true, true, true, true, true, true, true, true, true] rfl rfl (one_of HT_.out (by kernel_rfl)) (by decide) (fun K hK => ?_)
        have hs19 : w16.cell? ⟨gb659, 0, none⟩ = some (.int .i64 0) := (blk_cell BK659.out 0).trans rfl
        have hfs19 := blk_frozen BK659.out 0; have hns19_0 := NB655_659.out; have hns19_1 := NB658_659.out; have hms19_0 := NB659_655.out; have hms19_1 := NB659_658.out
        have hs20 : w16.cell? ⟨gb659, 1, none⟩ = some (.int .i64 0) := (blk_cell BK659.out 1).trans rfl
        have hfs20 := blk_frozen BK659.out 1; have hns20_0 := NB655_659.out; have hns20_1 := NB658_659.out; have hms20_0 := NB659_655.out; have hms20_1 := NB659_658.out
        refine skip_ (w1 := ?_) (by rfl) rfl ?_ ?_
        rotate_left
        ·go_simp
         rfl
        refine hK.out _ _ ⟨((cell_far (p := ⟨gb659, _, none⟩) NB655_659.out _).trans (((cell_far (p := ⟨gb659, _, none⟩) NB655_659.out _).trans (hHeld.1)))), ((cell_far (p := ⟨gb659, _, none⟩) NB655_659.out _).trans (((cell_far (p := ⟨gb659, _, none⟩) NB655_659.out _).trans (hHeld.2.1)))), ((cell_far (p := ⟨gb659, _, none⟩) (by first | exact Nat.ne_of_lt (Nat.lt_of_lt_of_le (by have := World.block_lt_of_cell? _ _ hw656_0; first | rwa [add_block] at this | exact this) GW659.out) | (rw [add_block]; exact Nat.ne_of_lt (Nat.lt_of_lt_of_le (by have := World.block_lt_of_cell? _ _ hw656_0; first | rwa [add_block] at this | exact this) GW659.out)) | (show (Addr.add _ _).block ≠ _; rw [add_block]; exact Nat.ne_of_lt (Nat.lt_of_lt_of_le (by have := World.block_lt_of_cell? _ _ hw656_0; first | rwa [add_block] at this | exact this) GW659.out)) | (dsimp only; exact Nat.ne_of_lt (Nat.lt_of_lt_of_le (by have := World.block_lt_of_cell? _ _ hw656_0; first | rwa [add_block] at this | exact this) GW659.out))) _).trans (((cell_far (p := ⟨gb659, _, none⟩) (by first | exact Nat.ne_of_lt (Nat.lt_of_lt_of_le (by have := World.block_lt_of_cell? _ _ hw656_0; first | rwa [add_block] at this | exact this) GW659.out) | (rw [add_block]; exact Nat.ne_of_lt (Nat.lt_of_lt_of_le (by have := World.block_lt_of_cell? _ _ hw656_0; first | rwa [add_block] at this | exact this) GW659.out)) | (show (Addr.add _ _).block ≠ _; rw [add_block]; exact Nat.ne_of_lt (Nat.lt_of_lt_of_le (by have := World.block_lt_of_cell? _ _ hw656_0; first | rwa [add_block] at this | exact this) GW659.out)) | (dsimp only; exact Nat.ne_of_lt (Nat.lt_of_lt_of_le (by have := World.block_lt_of_cell? _ _ hw656_0; first | rwa [add_block] at this | exact this) GW659.out))) _).trans (hHeld.2.2.1)))), ((cell_far (p := ⟨gb659, _, none⟩) (by first | exact Nat.ne_of_lt (Nat.lt_of_lt_of_le (by have := World.block_lt_of_cell? _ _ hw656_1; first | rwa [add_block] at this | exact this) GW659.out) | (rw [add_block]; exact Nat.ne_of_lt (Nat.lt_of_lt_of_le (by have := World.block_lt_of_cell? _ _ hw656_1; first | rwa [add_block] at this | exact this) GW659.out)) | (show (Addr.add _ _).block ≠ _; rw [add_block]; exact Nat.ne_of_lt (Nat.lt_of_lt_of_le (by have := World.block_lt_of_cell? _ _ hw656_1; first | rwa [add_block] at this | exact this) GW659.out)) | (dsimp only; exact Nat.ne_of_lt (Nat.lt_of_lt_of_le (by have := World.block_lt_of_cell? _ _ hw656_1; first | rwa [add_block] at this | exact this) GW659.out))) _).trans (((cell_far (p := ⟨gb659, _, none⟩) (by first | exact Nat.ne_of_lt (Nat.lt_of_lt_of_le (by have := World.block_lt_of_cell? _ _ hw656_1; first | rwa [add_block] at this | exact this) GW659.out) | (rw [add_block]; exact Nat.ne_of_lt (Nat.lt_of_lt_of_le (by have := World.block_lt_of_cell? _ _ hw656_1; first | rwa [add_block] at this | exact this) GW659.out)) | (show (Addr.add _ _).block ≠ _; rw [add_block]; exact Nat.ne_of_lt (Nat.lt_of_lt_of_le (by have := World.block_lt_of_cell? _ _ hw656_1; first | rwa [add_block] at this | exact this) GW659.out)) | (dsimp only; exact Nat.ne_of_lt (Nat.lt_of_lt_of_le (by have := World.block_lt_of_cell? _ _ hw656_1; first | rwa [add_block] at this | exact this) GW659.out))) _).trans (hHeld.2.2.2.1)))), ((cell_far (p := ⟨gb659, _, none⟩) (by first | exact Nat.ne_of_lt (Nat.lt_of_lt_of_le (by have := World.block_lt_of_cell? _ _ hw657_0; first | rwa [add_block] at this | exact this) GW659.out) | (rw [add_block]; exact Nat.ne_of_lt (Nat.lt_of_lt_of_le (by have := World.block_lt_of_cell? _ _ hw657_0; first | rwa [add_block] at this | exact this) GW659.out)) | (show (Addr.add _ _).block ≠ _; rw [add_block]; exact Nat.ne_of_lt (Nat.lt_of_lt_of_le (by have := World.block_lt_of_cell? _ _ hw657_0; first | rwa [add_block] at this | exact this) GW659.out)) | (dsimp only; exact Nat.ne_of_lt (Nat.lt_of_lt_of_le (by have := World.block_lt_of_cell? _ _ hw657_0; first | rwa [add_block] at this | exact this) GW659.out))) _).trans (((cell_far (p := ⟨gb659, _, none⟩) (by first | exact Nat.ne_of_lt (Nat.lt_of_lt_of_le (by have := World.block_lt_of_cell? _ _ hw657_0; first | rwa [add_block] at this | exact this) GW659.out) | (rw [add_block]; exact Nat.ne_of_lt (Nat.lt_of_lt_of_le (by have := World.block_lt_of_cell? _ _ hw657_0; first | rwa [add_block] at this | exact this) GW659.out)) | (show (Addr.add _ _).block ≠ _; rw [add_block]; exact Nat.ne_of_lt (Nat.lt_of_lt_of_le (by have := World.block_lt_of_cell? _ _ hw657_0; first | rwa [add_block] at this | exact this) GW659.out)) | (dsimp only; exact Nat.ne_of_lt (Nat.lt_of_lt_of_le (by have := World.block_lt_of_cell? _ _ hw657_0; first | rwa [add_block] at this | exact this) GW659.out))) _).trans (hHeld.2.2.2.2.1)))), ((cell_far (p := ⟨gb659, _, none⟩) (by first | exact Nat.ne_of_lt (Nat.lt_of_lt_of_le (by have := World.block_lt_of_cell? _ _ hw657_1; first | rwa [add_block] at this | exact this) GW659.out) | (rw [add_block]; exact Nat.ne_of_lt (Nat.lt_of_lt_of_le (by have := World.block_lt_of_cell? _ _ hw657_1; first | rwa [add_block] at this | exact this) GW659.out)) | (show (Addr.add _ _).block ≠ _; rw [add_block]; exact Nat.ne_of_lt (Nat.lt_of_lt_of_le (by have := World.block_lt_of_cell? _ _ hw657_1; first | rwa [add_block] at this | exact this) GW659.out)) | (dsimp only; exact Nat.ne_of_lt (Nat.lt_of_lt_of_le (by have := World.block_lt_of_cell? _ _ hw657_1; first | rwa [add_block] at this | exact this) GW659.out))) _).trans (((cell_far (p := ⟨gb659, _, none⟩) (by first | exact Nat.ne_of_lt (Nat.lt_of_lt_of_le (by have := World.block_lt_of_cell? _ _ hw657_1; first | rwa [add_block] at this | exact this) GW659.out) | (rw [add_block]; exact Nat.ne_of_lt (Nat.lt_of_lt_of_le (by have := World.block_lt_of_cell? _ _ hw657_1; first | rwa [add_block] at this | exact this) GW659.out)) | (show (Addr.add _ _).block ≠ _; rw [add_block]; exact Nat.ne_of_lt (Nat.lt_of_lt_of_le (by have := World.block_lt_of_cell? _ _ hw657_1; first | rwa [add_block] at this | exact this) GW659.out)) | (dsimp only; exact Nat.ne_of_lt (Nat.lt_of_lt_of_le (by have := World.block_lt_of_cell? _ _ hw657_1; first | rwa [add_block] at this | exact this) GW659.out))) _).trans (hHeld.2.2.2.2.2))))⟩ (fun hHeld => ?_)
        clear hK K
        refine done_ (done_of HT_.out (by kernel_rfl)) ?_
        try go_wp2
        have n0_ : Sd (((((w16.setCell ⟨gb658, 0, none⟩ (.int .i64 ((rd_T84 l0_0 (ji5)).f0))).setCell ⟨gb658, 1, none⟩ (.int .i64 ((rd_T84 l0_0 (ji5)).f1))).setCell ⟨gb659, 0, none⟩ (.int .i64 ((rd_T84 l0_0 x6_1).f0))).setCell ⟨gb659, 1, none⟩ (.int .i64 ((rd_T84 l0_0 x6_1).f1))).heap[gb655]? = some (.cells #[.slice (some ad656) l0_0.length c0_0, .int .i64 a0_1] 71 (0, 0))) := ⟨by (with_reducible repeat (first | refine blk_drewN ?_ _ | refine blk_drew ?_ | refine blk_alloc ?_ _)); refine blk_far ?_ NB655_659.out _; (with_reducible repeat (first | refine blk_drewN ?_ _ | refine blk_drew ?_ | refine blk_alloc ?_ _)); refine blk_far ?_ NB655_659.out _; (with_reducible repeat (first | refine blk_drewN ?_ _ | refine blk_drew ?_ | refine blk_alloc ?_ _)); refine blk_far ?_ NB655_658.out _; (with_reducible repeat (first | refine blk_drewN ?_ _ | refine blk_drew ?_ | refine blk_alloc ?_ _)); refine blk_far ?_ NB655_658.out _; (with_reducible repeat (first | refine blk_drewN ?_ _ | refine blk_drew ?_ | refine blk_alloc ?_ _)); exact BK655.out⟩
        have n1_ : Sd (((((w16.setCell ⟨gb658, 0, none⟩ (.int .i64 ((rd_T84 l0_0 (ji5)).f0))).setCell ⟨gb658, 1, none⟩ (.int .i64 ((rd_T84 l0_0 (ji5)).f1))).setCell ⟨gb659, 0, none⟩ (.int .i64 ((rd_T84 l0_0 x6_1).f0))).setCell ⟨gb659, 1, none⟩ (.int .i64 ((rd_T84 l0_0 x6_1).f1))).heap[gb658]? = some (.cells #[.int .i64 ((rd_T84 l0_0 (ji5)).f0), .int .i64 ((rd_T84 l0_0 (ji5)).f1)] 84 (0, 0))) := ⟨by (with_reducible repeat (first | refine blk_drewN ?_ _ | refine blk_drew ?_ | refine blk_alloc ?_ _)); refine blk_far ?_ NB658_659.out _; (with_reducible repeat (first | refine blk_drewN ?_ _ | refine blk_drew ?_ | refine blk_alloc ?_ _)); refine blk_far ?_ NB658_659.out _; (with_reducible repeat (first | refine blk_drewN ?_ _ | refine blk_drew ?_ | refine blk_alloc ?_ _)); refine blk_put (cs := #[.int .i64 ((rd_T84 l0_0 (ji5)).f0), .int .i64 0]) ?_ 1 _ rfl; (with_reducible repeat (first | refine blk_drewN ?_ _ | refine blk_drew ?_ | refine blk_alloc ?_ _)); refine blk_put (cs := #[.int .i64 0, .int .i64 0]) ?_ 0 _ rfl; (with_reducible repeat (first | refine blk_drewN ?_ _ | refine blk_drew ?_ | refine blk_alloc ?_ _)); exact BK658.out⟩
        have n2_ : Sd (((((w16.setCell ⟨gb658, 0, none⟩ (.int .i64 ((rd_T84 l0_0 (ji5)).f0))).setCell ⟨gb658, 1, none⟩ (.int .i64 ((rd_T84 l0_0 (ji5)).f1))).setCell ⟨gb659, 0, none⟩ (.int .i64 ((rd_T84 l0_0 x6_1).f0))).setCell ⟨gb659, 1, none⟩ (.int .i64 ((rd_T84 l0_0 x6_1).f1))).heap[gb659]? = some (.cells #[.int .i64 ((rd_T84 l0_0 x6_1).f0), .int .i64 ((rd_T84 l0_0 x6_1).f1)] 84 (0, 0))) := ⟨by (with_reducible repeat (first | refine blk_drewN ?_ _ | refine blk_drew ?_ | refine blk_alloc ?_ _)); refine blk_put (cs := #[.int .i64 ((rd_T84 l0_0 x6_1).f0), .int .i64 0]) ?_ 1 _ rfl; (with_reducible repeat (first | refine blk_drewN ?_ _ | refine blk_drew ?_ | refine blk_alloc ?_ _)); refine blk_put (cs := #[.int .i64 0, .int .i64 0]) ?_ 0 _ rfl; (with_reducible repeat (first | refine blk_drewN ?_ _ | refine blk_drew ?_ | refine blk_alloc ?_ _)); refine blk_far ?_ NB659_658.out _; (with_reducible repeat (first | refine blk_drewN ?_ _ | refine blk_drew ?_ | refine blk_alloc ?_ _)); refine blk_far ?_ NB659_658.out _; (with_reducible repeat (first | refine blk_drewN ?_ _ | refine blk_drew ?_ | refine blk_alloc ?_ _)); exact BK659.out⟩
        have n3_ : Sd (Below w.heap.size w ((((w16.setCell ⟨gb658, 0, none⟩ (.int .i64 ((rd_T84 l0_0 (ji5)).f0))).setCell ⟨gb658, 1, none⟩ (.int .i64 ((rd_T84 l0_0 (ji5)).f1))).setCell ⟨gb659, 0, none⟩ (.int .i64 ((rd_T84 l0_0 x6_1).f0))).setCell ⟨gb659, 1, none⟩ (.int .i64 ((rd_T84 l0_0 x6_1).f1)))) := ⟨bBl HB.out⟩
        (try clear BK655)
        (try clear BK658)
        (try clear BK659)
        (try clear HB)
        generalize ((((w16.setCell ⟨gb658, 0, none⟩ (.int .i64 ((rd_T84 l0_0 (ji5)).f0))).setCell ⟨gb658, 1, none⟩ (.int .i64 ((rd_T84 l0_0 (ji5)).f1))).setCell ⟨gb659, 0, none⟩ (.int .i64 ((rd_T84 l0_0 x6_1).f0))).setCell ⟨gb659, 1, none⟩ (.int .i64 ((rd_T84 l0_0 x6_1).f1))) = w21 at n0_ n1_ n2_ n3_ ⊢
        have BK655 := n0_; have BK658 := n1_; have BK659 := n2_; have HB := n3_; clear n0_ n1_ n2_ n3_; replace BK655 := Sd.mk (blk_drew BK655.out); replace BK658 := Sd.mk (blk_drew BK658.out); replace BK659 := Sd.mk (blk_drew BK659.out); replace HB := Sd.mk (below_drew1 HB.out)
        refine start_ (n := 12) (S := fun w' => w'.cell? ⟨gb658, 0, none⟩ = some (.int .i64 ((rd_T84 l0_0 (ji5)).f0)) ∧ w'.cell? ⟨gb658, 1, none⟩ = some (.int .i64 ((rd_T84 l0_0 (ji5)).f1)) ∧ w'.cell? ⟨gb659, 0, none⟩ = some (.int .i64 ((rd_T84 l0_0 x6_1).f0)) ∧ w'.cell? ⟨gb659, 1, none⟩ = some (.int .i64 ((rd_T84 l0_0 x6_1).f1))) (ds := []) #[false, false, false, false, false, false, false, false, false, false, false, false] (by kernel_rfl) rfl rfl ⟨(blk_cell BK658.out 0).trans rfl, (blk_cell BK658.out 1).trans rfl, (blk_cell BK659.out 0).trans rfl, (blk_cell BK659.out 1).trans rfl⟩ (fun hHeld => ?_); refine with_tabW strength_held.tab6 strength_held.bits6 (fun HT_ HW_ => ?_)
        generalize w21.drew = w22 at BK655 BK658 BK659 HB hHeld ⊢
        refine pure_ (i := 0) (N := some 30) (v := ?_) (a' := ?_) #[true, false, false, false, false, false, false, false, false, false, false, false] rfl rfl (any_of HT_.out (by kernel_rfl)) (fun _ _ _ h => h) (Or.inl ⟨by rfl, ?_⟩) ?_ ?_
        rotate_left
        ·exact tW
        rotate_left
        ·exact tP
        refine pure_ (i := 2) (N := some 32) (v := ?_) (a' := ?_) #[true, false, true, false, false, false, false, false, false, false, false, false] rfl rfl (any_of HT_.out (by kernel_rfl)) (fun _ _ _ h => h) (Or.inl ⟨by rfl, ?_⟩) ?_ ?_
        rotate_left
        ·exact tW
        rotate_left
        ·exact tP
        refine pure_ (i := 5) (N := some 35) (v := ?_) (a' := ?_) #[true, false, true, false, false, true, false, false, false, false, false, false] rfl rfl (any_of HT_.out (by kernel_rfl)) (fun _ _ _ h => h) (Or.inl ⟨by rfl, ?_⟩) ?_ ?_
        rotate_left
        ·exact tW
        rotate_left
        ·exact tP
        refine pure_ (i := 7) (N := some 37) (v := ?_) (a' := ?_) #[true, false, true, false, false, true, false, true, false, false, false, false] rfl rfl (any_of HT_.out (by kernel_rfl)) (fun _ _ _ h => h) (Or.inl ⟨by rfl, ?_⟩) ?_ ?_
        rotate_left
        ·exact tW
        rotate_left
        ·exact tP
        refine take_ (i := 1) (N := some 31) (v := ?_) (a' := ?_) #[true, true, true, false, false, true, false, true, false, false, false, false] rfl rfl (take_ofW HT_.out HW_.out (by kernel_rfl)) (fun _ _ _ h => h) (Or.inl ⟨by rfl, ?_⟩) hHeld ?_ ?_
        rotate_left
        ·rintro w' ⟨s0, s1, s2, s3⟩
         go_simp
         with_reducible rfl
        rotate_left
        ·exact tP
        refine take_ (i := 3) (N := some 33) (v := ?_) (a' := ?_) #[true, true, true, true, false, true, false, true, false, false, false, false] rfl rfl (take_ofW HT_.out HW_.out (by kernel_rfl)) (fun _ _ _ h => h) (Or.inl ⟨by rfl, ?_⟩) hHeld ?_ ?_
        rotate_left
        ·rintro w' ⟨s0, s1, s2, s3⟩
         go_simp
         with_reducible rfl
        rotate_left
        ·exact tP
        refine pure_ (i := 4) (N := some 34) (v := ?_) (a' := ?_) #[true, true, true, true, true, true, false, true, false, false, false, false] rfl rfl (any_of HT_.out (by kernel_rfl)) (fun _ _ _ h => h) (Or.inl ⟨by rfl, ?_⟩) ?_ ?_
        rotate_left
        ·exact tW
        rotate_left
        ·exact tP
        refine pure_ (i := 10) (N := some 9) (v := ?_) (a' := ?_) #[true, true, true, true, true, true, false, true, false, false, true, false] rfl rfl (any_of HT_.out (by kernel_rfl)) (fun _ _ _ h => h) (Or.inl ⟨by rfl, ?_⟩) ?_ ?_
        rotate_left
        ·exact tW
        rotate_left
        ·exact tP
        refine take_ (i := 6) (N := some 36) (v := ?_) (a' := ?_) #[true, true, true, true, true, true, true, true, false, false, true, false] rfl rfl (take_ofW HT_.out HW_.out (by kernel_rfl)) (fun _ _ _ h => h) (Or.inl ⟨by rfl, ?_⟩) hHeld ?_ ?_
        rotate_left
        ·rintro w' ⟨s0, s1, s2, s3⟩
         go_simp
         with_reducible rfl
        rotate_left
        ·exact tP
        refine take_ (i := 8) (N := some 38) (v := ?_) (a' := ?_) #[true, true, true, true, true, true, true, true, true, false, true, false] rfl rfl (take_ofW HT_.out HW_.out (by kernel_rfl)) (fun _ _ _ h => h) (Or.inl ⟨by rfl, ?_⟩) hHeld ?_ ?_
        rotate_left
        ·rintro w' ⟨s0, s1, s2, s3⟩
         go_simp
         with_reducible rfl
        rotate_left
        ·exact tP
        refine pure_ (i := 9) (N := some 39) (v := ?_) (a' := ?_) #[true, true, true, true, true, true, true, true, true, true, true, false] rfl rfl (any_of HT_.out (by kernel_rfl)) (fun _ _ _ h => h) (Or.inl ⟨by rfl, ?_⟩) ?_ ?_
        rotate_left
        ·exact tW
        rotate_left
        ·exact tP
        refine pure_ (i := 11) (N := some 10) (v := ?_) (a' := ?_) #[true, true, true, true, true, true, true, true, true, true, true, true] rfl rfl (any_of HT_.out (by kernel_rfl)) (fun _ _ _ h => h) (Or.inl ⟨by rfl, ?_⟩) ?_ ?_
        rotate_left
        ·exact tW
        rotate_left
        ·exact tP
        refine done_ (done_of HT_.out (by kernel_rfl)) ?_
        have hnb23 := NB659_655.out; have hnc23 := NB655_659.out; have hnb24 := NB659_658.out; have hnc24 := NB658_659.out; obtain ⟨u25_0, u25_1, o25_0, o25_1⟩ := bc2 (w := w22) BK659.out; have hnb26 := NB658_655.out; have hnc26 := NB655_658.out; obtain ⟨u27_0, u27_1, o27_0, o27_1⟩ := bc2 (w := w22) BK658.out
        try go_wp2
        go_roundg k1
        case measure => have := HK1.out; omega
        case rel => exact ⟨(wrap64 (x5_1 + (wrap64 (((rd_T84 l0_0 x6_1).f0) - ((rd_T84 l0_0 (ji5)).f0))))), (wrap64 (x6_1 + 1)), (by first | rfl | (simp; done) | (simp only [← hji5] <;> (first | rfl | simp)) | (simp [*]; done)), tS, H', ⟨by have := HK1.out; omega⟩, ⟨bkA BK655.out⟩, ⟨bBl HB.out⟩⟩
       ·rw [if_neg c11] at H
        have c11b0 : decide (a1 ≤ (ji9)) = false := decide_eq_false c11
        clear c11
        by_cases c28 : (ji10) > a1
        ·rw [if_pos c28] at H
         have c28b0 : decide (a1 < (ji10)) = true := decide_eq_true c28
         clear c28
         by_cases c29 : (wrap64 ((ji10) - (ji9))) = 0
         ·rw [if_pos c29] at H
          exact absurd H (by simp)
         ·rw [if_neg c29] at H
          have c29b0 : ((wrap64 ((ji10) - (ji9))) == 0) = false := beq_eq_false_iff_ne.mpr c29
          have c29b1 : ((wrap64 ((ji10) - (ji9))) != 0) = true := bne_iff_ne.mpr c29
          have H' := Sd.mk H; clear H; obtain ⟨u30_0, u30_1, o30_0, o30_1⟩ := bc2 (w := wr) BK655.out
          try go_wp2
          replace BK655 := Sd.mk (blk_drew BK655.out); replace HB := Sd.mk (below_drew1 HB.out)
          have p656 : 0 ≤ ((ji5) : Int) := tB
          have q656 : (ji5) < (l0_0.length : Int) := tB
          obtain ⟨ad656, e656, hx656_0, hx656_1⟩ := at_T84 HR0_0.out (ji5) p656 q656; have hw656_1 := hx656_1; have hw656_0 := hx656_0; cases e656; replace hx656_0 := cU HB hx656_0; replace hx656_1 := cU HB hx656_1; replace p656 := eq_true p656; replace q656 := eq_true q656
          have p657 : 0 ≤ (x6_1 : Int) := tB
          have q657 : x6_1 < (l0_0.length : Int) := tB
          obtain ⟨ad657, e657, hx657_0, hx657_1⟩ := at_T84 HR0_0.out x6_1 p657 q657; have hw657_1 := hx657_1; have hw657_0 := hx657_0
          obtain rfl : ad656 = ad657 := (by injection e657)
          replace hx657_0 := cU HB hx657_0; replace hx657_1 := cU HB hx657_1; replace p657 := eq_true p657; replace q657 := eq_true q657
          refine start_ (n := 15) (S := fun w' => w'.cell? ⟨gb655, 0, none⟩ = some (.slice (some ad656) l0_0.length c0_0) ∧ w'.cell? ⟨gb655, 1, none⟩ = some (.int .i64 a0_1) ∧ w'.cell? (ad656.add (((ji5)).toNat * 2)) = some (.int .i64 ((rd_T84 l0_0 (ji5)).f0)) ∧ w'.cell? ⟨(ad656.add (((ji5)).toNat * 2)).block, (ad656.add (((ji5)).toNat * 2)).off + 1, none⟩ = some (.int .i64 ((rd_T84 l0_0 (ji5)).f1)) ∧ w'.cell? (ad656.add ((x6_1).toNat * 2)) = some (.int .i64 ((rd_T84 l0_0 x6_1).f0)) ∧ w'.cell? ⟨(ad656.add ((x6_1).toNat * 2)).block, (ad656.add ((x6_1).toNat * 2)).off + 1, none⟩ = some (.int .i64 ((rd_T84 l0_0 x6_1).f1))) (ds := []) #[false, false, false, false, false, false, false, false, false, false, false, false, false, false, false] (by kernel_rfl) rfl rfl ⟨(blk_cell BK655.out 0).trans rfl, (blk_cell BK655.out 1).trans rfl, ((HB.out.cell (World.block_lt_of_cell? w _ hw656_0)).trans hw656_0), ((HB.out.cell (World.block_lt_of_cell? w _ hw656_1)).trans hw656_1), ((HB.out.cell (World.block_lt_of_cell? w _ hw657_0)).trans hw657_0), ((HB.out.cell (World.block_lt_of_cell? w _ hw657_1)).trans hw657_1)⟩ (fun hHeld => ?_); refine with_tabW strength_held.tab5 strength_held.bits5 (fun HT_ HW_ => ?_)
          generalize wr.drew = w31 at BK655 HB hx656_0 hx656_1 hx657_0 hx657_1 hHeld ⊢
          refine pure_ (i := 0) (N := some 19) (v := ?_) (a' := ?_) #[true, false, false, false, false, false, false, false, false, false, false, false, false, false, false] rfl rfl (any_of HT_.out (by kernel_rfl)) (fun _ _ _ h => h) (Or.inl ⟨by rfl, ?_⟩) ?_ ?_
          rotate_left
          ·exact tW
          rotate_left
          ·exact tP
          refine pure_ (i := 2) (N := some 21) (v := ?_) (a' := ?_) #[true, false, true, false, false, false, false, false, false, false, false, false, false, false, false] rfl rfl (any_of HT_.out (by kernel_rfl)) (fun _ _ _ h => h) (Or.inl ⟨by rfl, ?_⟩) ?_ ?_
          rotate_left
          ·exact tW
          rotate_left
          ·exact tP
          refine pure_ (i := 3) (N := some 22) (v := ?_) (a' := ?_) #[true, false, true, true, false, false, false, false, false, false, false, false, false, false, false] rfl rfl (any_of HT_.out (by kernel_rfl)) (fun _ _ _ h => h) (Or.inl ⟨by rfl, ?_⟩) ?_ ?_
          rotate_left
          ·exact tW
          rotate_left
          ·exact tP
          refine pure_ (i := 6) (N := some 25) (v := ?_) (a' := ?_) #[true, false, true, true, false, false, true, false, false, false, false, false, false, false, false] rfl rfl (any_of HT_.out (by kernel_rfl)) (fun _ _ _ h => h) (Or.inl ⟨by rfl, ?_⟩) ?_ ?_
          rotate_left
          ·exact tW
          rotate_left
          ·exact tP
          refine pure_ (i := 8) (N := some 27) (v := ?_) (a' := ?_) #[true, false, true, true, false, false, true, false, true, false, false, false, false, false, false] rfl rfl (any_of HT_.out (by kernel_rfl)) (fun _ _ _ h => h) (Or.inl ⟨by rfl, ?_⟩) ?_ ?_
          rotate_left
          ·exact tW
          rotate_left
          ·exact tP
          refine take_ (i := 1) (N := some 20) (v := ?_) (a' := ?_) #[true, true, true, true, false, false, true, false, true, false, false, false, false, false, false] rfl rfl (take_ofW HT_.out HW_.out (by kernel_rfl)) (fun _ _ _ h => h) (Or.inl ⟨by rfl, ?_⟩) hHeld ?_ ?_
          rotate_left
          ·rintro w' ⟨s0, s1, s2, s3, s4, s5⟩
           go_simp
           with_reducible rfl
          rotate_left
          ·exact tP
          refine pure_ (i := 4) (N := some 23) (v := ?_) (a' := ?_) #[true, true, true, true, true, false, true, false, true, false, false, false, false, false, false] rfl rfl (any_of HT_.out (by kernel_rfl)) (fun _ _ _ h => h) (Or.inl ⟨by rfl, ?_⟩) ?_ ?_
          rotate_left
          ·exact tW
          rotate_left
          ·exact tP
          refine take_ (i := 5) (N := some 24) (v := ?_) (a' := ?_) #[true, true, true, true, true, true, true, false, true, false, false, false, false, false, false] rfl rfl (take_ofW HT_.out HW_.out (by kernel_rfl)) (fun _ _ _ h => h) (Or.inl ⟨by rfl, ?_⟩) hHeld ?_ ?_
          rotate_left
          ·rintro w' ⟨s0, s1, s2, s3, s4, s5⟩
           go_simp
           with_reducible rfl
          rotate_left
          ·exact tP
          refine take_ (i := 7) (N := some 26) (v := ?_) (a' := ?_) #[true, true, true, true, true, true, true, true, true, false, false, false, false, false, false] rfl rfl (take_ofW HT_.out HW_.out (by kernel_rfl)) (fun _ _ _ h => h) (Or.inl ⟨by rfl, ?_⟩) hHeld ?_ ?_
          rotate_left
          ·rintro w' ⟨s0, s1, s2, s3, s4, s5⟩
           go_simp
           with_reducible rfl
          rotate_left
          ·exact tP
          refine pure_ (i := 9) (N := some 28) (v := ?_) (a' := ?_) #[true, true, true, true, true, true, true, true, true, true, false, false, false, false, false] rfl rfl (any_of HT_.out (by kernel_rfl)) (fun _ _ _ h => h) (Or.inl ⟨by rfl, ?_⟩) ?_ ?_
          rotate_left
          ·exact tW
          rotate_left
          ·exact tP
          refine take_ (i := 10) (N := some 29) (v := ?_) (a' := ?_) #[true, true, true, true, true, true, true, true, true, true, true, false, false, false, false] rfl rfl (take_ofW HT_.out HW_.out (by kernel_rfl)) (fun _ _ _ h => h) (Or.inl ⟨by rfl, ?_⟩) hHeld ?_ ?_
          rotate_left
          ·rintro w' ⟨s0, s1, s2, s3, s4, s5⟩
           go_simp
           with_reducible rfl
          rotate_left
          ·exact tP
          refine join_ (σ := Nat × Nat) 2 #[true, true, true, true, true, true, true, true, true, true, true, true, true, false, false] (fun s_ => [(7, .pointer (some ⟨s_.1, 0, none⟩)), (8, .pointer (some ⟨s_.2, 0, none⟩))]) (fun s_ w' => (w'.cell? ⟨gb655, 0, none⟩ = some (.slice (some ad656) l0_0.length c0_0) ∧ w'.cell? ⟨gb655, 1, none⟩ = some (.int .i64 a0_1) ∧ w'.cell? (ad656.add (((ji5)).toNat * 2)) = some (.int .i64 ((rd_T84 l0_0 (ji5)).f0)) ∧ w'.cell? ⟨(ad656.add (((ji5)).toNat * 2)).block, (ad656.add (((ji5)).toNat * 2)).off + 1, none⟩ = some (.int .i64 ((rd_T84 l0_0 (ji5)).f1)) ∧ w'.cell? (ad656.add ((x6_1).toNat * 2)) = some (.int .i64 ((rd_T84 l0_0 x6_1).f0)) ∧ w'.cell? ⟨(ad656.add ((x6_1).toNat * 2)).block, (ad656.add ((x6_1).toNat * 2)).off + 1, none⟩ = some (.int .i64 ((rd_T84 l0_0 x6_1).f1))) ∧ (w'.heap[gb655]? = some (.cells #[.slice (some ad656) l0_0.length c0_0, .int .i64 a0_1] 71 (0, 0))) ∧ (w'.heap[s_.1]? = some (.cells #[.int .i64 0, .int .i64 0] 84 (0, 0))) ∧ (w'.heap[s_.2]? = some (.cells #[.int .i64 0, .int .i64 0] 84 (0, 0))) ∧ (w.heap.size ≤ s_.1) ∧ (w.heap.size ≤ s_.1) ∧ (gb655 ≠ s_.1) ∧ (s_.1 ≠ gb655) ∧ (s_.2 ≠ s_.1) ∧ (s_.1 ≠ s_.2) ∧ (w.heap.size ≤ s_.2) ∧ (w.heap.size ≤ s_.2) ∧ (gb655 ≠ s_.2) ∧ (s_.2 ≠ gb655) ∧ (Below w.heap.size w w')) ?_ ?_
          rotate_left
          ·intro hCont
           refine two_ (i := 11) (j := 12) (Ni := some 7) (Nj := some 8) #[true, true, true, true, true, true, true, true, true, true, true, true, false, false, false] #[true, true, true, true, true, true, true, true, true, true, true, false, true, false, false] rfl rfl rfl rfl (two_of HT_.out (by kernel_rfl)) (by decide) (by decide) (fun K hK => ?_) (fun K hK => ?_)
           ·skip
            refine box_step ?hg (N := 7) ?hd (cs := #[.int .i64 0, .int .i64 0]) (t := 84) ?hr ?_; (case hd => rfl); (case hg => rfl); (case hr => exact tG)
            intro gb658 hg w32 hbox hb
            have BK658 := Sd.mk (hbox); have GW658 := Sd.mk (bSz hg (bBl HB.out)); have GE658 := Sd.mk (bSz hg (bBl HB.out)); replace HB := Sd.mk (below_step (bBl HB.out) hb); have NB655_658 := Sd.mk (bNl hg (bkA BK655.out)); have NB658_655 := Sd.mk (bNg hg (bkA BK655.out)); replace BK655 := Sd.mk (blk_below (bkA BK655.out) hb); clear hb hbox hg
            refine hK.out _ _ ⟨(blk_cell BK655.out 0).trans rfl, (blk_cell BK655.out 1).trans rfl, ((HB.out.cell (World.block_lt_of_cell? w _ hw656_0)).trans hw656_0), ((HB.out.cell (World.block_lt_of_cell? w _ hw656_1)).trans hw656_1), ((HB.out.cell (World.block_lt_of_cell? w _ hw657_0)).trans hw657_0), ((HB.out.cell (World.block_lt_of_cell? w _ hw657_1)).trans hw657_1)⟩ (fun hHeld => ?_)
            clear hK K
            refine norm_ (a' := ?_) ?_ ?_
            rotate_left
            ·show Act.put _ (some 7) _ = _
             exact tP
            refine one_ (i := 12) (N := some 8) #[true, true, true, true, true, true, true, true, true, true, true, true, true, false, false] rfl rfl (one_of HT_.out (by kernel_rfl)) (by decide) (fun K hK => ?_)
            refine box_step ?hg (N := 8) ?hd (cs := #[.int .i64 0, .int .i64 0]) (t := 84) ?hr ?_; (case hd => rfl); (case hg => rfl); (case hr => exact tG)
            intro gb659 hg w33 hbox hb
            have BK659 := Sd.mk (hbox); have GW659 := Sd.mk (bSz hg (bBl HB.out)); have GE659 := Sd.mk (bSz hg (bBl HB.out)); replace HB := Sd.mk (below_step (bBl HB.out) hb); have NB655_659 := Sd.mk (bNl hg (bkA BK655.out)); have NB659_655 := Sd.mk (bNg hg (bkA BK655.out)); replace BK655 := Sd.mk (blk_below (bkA BK655.out) hb); have NB658_659 := Sd.mk (bNl hg (bkA BK658.out)); have NB659_658 := Sd.mk (bNg hg (bkA BK658.out)); replace BK658 := Sd.mk (blk_below (bkA BK658.out) hb); clear hb hbox hg
            refine hK.out _ _ ⟨(blk_cell BK655.out 0).trans rfl, (blk_cell BK655.out 1).trans rfl, ((HB.out.cell (World.block_lt_of_cell? w _ hw656_0)).trans hw656_0), ((HB.out.cell (World.block_lt_of_cell? w _ hw656_1)).trans hw656_1), ((HB.out.cell (World.block_lt_of_cell? w _ hw657_0)).trans hw657_0), ((HB.out.cell (World.block_lt_of_cell? w _ hw657_1)).trans hw657_1)⟩ (fun hHeld => ?_)
            clear hK K
            refine norm_ (a' := ?_) ?_ ?_
            rotate_left
            ·show Act.put _ (some 8) _ = _
             exact tP
            exact norm_ (by simp only [putAll, Act.put, List.setIfInBounds_toArray, List.set_cons_zero, List.set_cons_succ]) (hCont (gb658, gb659) _ ⟨hHeld, (bkA BK655.out), (bkA BK658.out), (bkA BK659.out), GW658.out, GE658.out, NB655_658.out, NB658_655.out, NB659_658.out, NB658_659.out, GW659.out, GE659.out, NB655_659.out, NB659_655.out, (bBl HB.out)⟩)
           ·skip
            refine box_step ?hg (N := 8) ?hd (cs := #[.int .i64 0, .int .i64 0]) (t := 84) ?hr ?_; (case hd => rfl); (case hg => rfl); (case hr => exact tG)
            intro gb659 hg w32 hbox hb
            have BK659 := Sd.mk (hbox); have GW659 := Sd.mk (bSz hg (bBl HB.out)); have GE659 := Sd.mk (bSz hg (bBl HB.out)); replace HB := Sd.mk (below_step (bBl HB.out) hb); have NB655_659 := Sd.mk (bNl hg (bkA BK655.out)); have NB659_655 := Sd.mk (bNg hg (bkA BK655.out)); replace BK655 := Sd.mk (blk_below (bkA BK655.out) hb); clear hb hbox hg
            refine hK.out _ _ ⟨(blk_cell BK655.out 0).trans rfl, (blk_cell BK655.out 1).trans rfl, ((HB.out.cell (World.block_lt_of_cell? w _ hw656_0)).trans hw656_0), ((HB.out.cell (World.block_lt_of_cell? w _ hw656_1)).trans hw656_1), ((HB.out.cell (World.block_lt_of_cell? w _ hw657_0)).trans hw657_0), ((HB.out.cell (World.block_lt_of_cell? w _ hw657_1)).trans hw657_1)⟩ (fun hHeld => ?_)
            clear hK K
            refine norm_ (a' := ?_) ?_ ?_
            rotate_left
            ·show Act.put _ (some 8) _ = _
             exact tP
            refine one_ (i := 11) (N := some 7) #[true, true, true, true, true, true, true, true, true, true, true, true, true, false, false] rfl rfl (one_of HT_.out (by kernel_rfl)) (by decide) (fun K hK => ?_)
            refine box_step ?hg (N := 7) ?hd (cs := #[.int .i64 0, .int .i64 0]) (t := 84) ?hr ?_; (case hd => rfl); (case hg => rfl); (case hr => exact tG)
            intro gb658 hg w33 hbox hb
            have BK658 := Sd.mk (hbox); have GW658 := Sd.mk (bSz hg (bBl HB.out)); have GE658 := Sd.mk (bSz hg (bBl HB.out)); replace HB := Sd.mk (below_step (bBl HB.out) hb); have NB655_658 := Sd.mk (bNl hg (bkA BK655.out)); have NB658_655 := Sd.mk (bNg hg (bkA BK655.out)); replace BK655 := Sd.mk (blk_below (bkA BK655.out) hb); have NB659_658 := Sd.mk (bNl hg (bkA BK659.out)); have NB658_659 := Sd.mk (bNg hg (bkA BK659.out)); replace BK659 := Sd.mk (blk_below (bkA BK659.out) hb); clear hb hbox hg
            refine hK.out _ _ ⟨(blk_cell BK655.out 0).trans rfl, (blk_cell BK655.out 1).trans rfl, ((HB.out.cell (World.block_lt_of_cell? w _ hw656_0)).trans hw656_0), ((HB.out.cell (World.block_lt_of_cell? w _ hw656_1)).trans hw656_1), ((HB.out.cell (World.block_lt_of_cell? w _ hw657_0)).trans hw657_0), ((HB.out.cell (World.block_lt_of_cell? w _ hw657_1)).trans hw657_1)⟩ (fun hHeld => ?_)
            clear hK K
            refine norm_ (a' := ?_) ?_ ?_
            rotate_left
            ·show Act.put _ (some 7) _ = _
             exact tP
            exact norm_ (by simp only [putAll, Act.put, List.setIfInBounds_toArray, List.set_cons_zero, List.set_cons_succ]) (hCont (gb658, gb659) _ ⟨hHeld, (bkA BK655.out), (bkA BK658.out), (bkA BK659.out), GW658.out, GE658.out, NB655_658.out, NB658_655.out, NB659_658.out, NB658_659.out, GW659.out, GE659.out, NB655_659.out, NB659_655.out, (bBl HB.out)⟩)
          rintro ⟨gb658, gb659⟩ w34 ⟨hS_, h0_, h1_, h2_, h3_, h4_, h5_, h6_, h7_, h8_, h9_, h10_, h11_, h12_, h13_⟩
          have n0_ : Sd (w34.heap[gb655]? = some (.cells #[.slice (some ad656) l0_0.length c0_0, .int .i64 a0_1] 71 (0, 0))) := ⟨h0_⟩
          have n1_ : Sd (w34.heap[gb658]? = some (.cells #[.int .i64 0, .int .i64 0] 84 (0, 0))) := ⟨h1_⟩
          have n2_ : Sd (w34.heap[gb659]? = some (.cells #[.int .i64 0, .int .i64 0] 84 (0, 0))) := ⟨h2_⟩
          have n3_ : Sd (w.heap.size ≤ gb658) := ⟨h3_⟩
          have n4_ : Sd (w.heap.size ≤ gb658) := ⟨h4_⟩
          have n5_ : Sd (gb655 ≠ gb658) := ⟨h5_⟩
          have n6_ : Sd (gb658 ≠ gb655) := ⟨h6_⟩
          have n7_ : Sd (gb659 ≠ gb658) := ⟨h7_⟩
          have n8_ : Sd (gb658 ≠ gb659) := ⟨h8_⟩
          have n9_ : Sd (w.heap.size ≤ gb659) := ⟨h9_⟩
          have n10_ : Sd (w.heap.size ≤ gb659) := ⟨h10_⟩
          have n11_ : Sd (gb655 ≠ gb659) := ⟨h11_⟩
          have n12_ : Sd (gb659 ≠ gb655) := ⟨h12_⟩
          have n13_ : Sd (Below w.heap.size w w34) := ⟨h13_⟩
          clear BK655; clear HB; clear h0_ h1_ h2_ h3_ h4_ h5_ h6_ h7_ h8_ h9_ h10_ h11_ h12_ h13_; have BK655 := n0_; have BK658 := n1_; have BK659 := n2_; have GW658 := n3_; have GE658 := n4_; have NB655_658 := n5_; have NB658_655 := n6_; have NB659_658 := n7_; have NB658_659 := n8_; have GW659 := n9_; have GE659 := n10_; have NB655_659 := n11_; have NB659_655 := n12_; have HB := n13_; clear n0_ n1_ n2_ n3_ n4_ n5_ n6_ n7_ n8_ n9_ n10_ n11_ n12_ n13_
          have hHeld : w34.cell? ⟨gb655, 0, none⟩ = some (.slice (some ad656) l0_0.length c0_0) ∧ w34.cell? ⟨gb655, 1, none⟩ = some (.int .i64 a0_1) ∧ w34.cell? (ad656.add (((ji5)).toNat * 2)) = some (.int .i64 ((rd_T84 l0_0 (ji5)).f0)) ∧ w34.cell? ⟨(ad656.add (((ji5)).toNat * 2)).block, (ad656.add (((ji5)).toNat * 2)).off + 1, none⟩ = some (.int .i64 ((rd_T84 l0_0 (ji5)).f1)) ∧ w34.cell? (ad656.add ((x6_1).toNat * 2)) = some (.int .i64 ((rd_T84 l0_0 x6_1).f0)) ∧ w34.cell? ⟨(ad656.add ((x6_1).toNat * 2)).block, (ad656.add ((x6_1).toNat * 2)).off + 1, none⟩ = some (.int .i64 ((rd_T84 l0_0 x6_1).f1)) := hS_
          refine norm_ (a' := ?_) ?_ ?_
          rotate_left
          ·simp only [putAll, Act.put, List.setIfInBounds_toArray, List.set_cons_zero, List.set_cons_succ]
           rfl
          refine one_ (i := 13) (N := none) #[true, true, true, true, true, true, true, true, true, true, true, true, true, true, false] rfl rfl (one_of HT_.out (by kernel_rfl)) (by decide) (fun K hK => ?_)
          have hs35 : w34.cell? ⟨gb658, 0, none⟩ = some (.int .i64 0) := (blk_cell BK658.out 0).trans rfl
          have hfs35 := blk_frozen BK658.out 0; have hns35_0 := NB655_658.out; have hns35_2 := NB659_658.out; have hms35_0 := NB658_655.out; have hms35_2 := NB658_659.out
          have hs36 : w34.cell? ⟨gb658, 1, none⟩ = some (.int .i64 0) := (blk_cell BK658.out 1).trans rfl
          have hfs36 := blk_frozen BK658.out 1; have hns36_0 := NB655_658.out; have hns36_2 := NB659_658.out; have hms36_0 := NB658_655.out; have hms36_2 := NB658_659.out
          refine skip_ (w1 := ?_) (by rfl) rfl ?_ ?_
          rotate_left
          ·go_simp
           rfl
          refine hK.out _ _ ⟨((cell_far (p := ⟨gb658, _, none⟩) NB655_658.out _).trans (((cell_far (p := ⟨gb658, _, none⟩) NB655_658.out _).trans (hHeld.1)))), ((cell_far (p := ⟨gb658, _, none⟩) NB655_658.out _).trans (((cell_far (p := ⟨gb658, _, none⟩) NB655_658.out _).trans (hHeld.2.1)))), ((cell_far (p := ⟨gb658, _, none⟩) (by first | exact Nat.ne_of_lt (Nat.lt_of_lt_of_le (by have := World.block_lt_of_cell? _ _ hw656_0; first | rwa [add_block] at this | exact this) GW658.out) | (rw [add_block]; exact Nat.ne_of_lt (Nat.lt_of_lt_of_le (by have := World.block_lt_of_cell? _ _ hw656_0; first | rwa [add_block] at this | exact this) GW658.out)) | (show (Addr.add _ _).block ≠ _; rw [add_block]; exact Nat.ne_of_lt (Nat.lt_of_lt_of_le (by have := World.block_lt_of_cell? _ _ hw656_0; first | rwa [add_block] at this | exact this) GW658.out)) | (dsimp only; exact Nat.ne_of_lt (Nat.lt_of_lt_of_le (by have := World.block_lt_of_cell? _ _ hw656_0; first | rwa [add_block] at this | exact this) GW658.out))) _).trans (((cell_far (p := ⟨gb658, _, none⟩) (by first | exact Nat.ne_of_lt (Nat.lt_of_lt_of_le (by have := World.block_lt_of_cell? _ _ hw656_0; first | rwa [add_block] at this | exact this) GW658.out) | (rw [add_block]; exact Nat.ne_of_lt (Nat.lt_of_lt_of_le (by have := World.block_lt_of_cell? _ _ hw656_0; first | rwa [add_block] at this | exact this) GW658.out)) | (show (Addr.add _ _).block ≠ _; rw [add_block]; exact Nat.ne_of_lt (Nat.lt_of_lt_of_le (by have := World.block_lt_of_cell? _ _ hw656_0; first | rwa [add_block] at this | exact this) GW658.out)) | (dsimp only; exact Nat.ne_of_lt (Nat.lt_of_lt_of_le (by have := World.block_lt_of_cell? _ _ hw656_0; first | rwa [add_block] at this | exact this) GW658.out))) _).trans (hHeld.2.2.1)))), ((cell_far (p := ⟨gb658, _, none⟩) (by first | exact Nat.ne_of_lt (Nat.lt_of_lt_of_le (by have := World.block_lt_of_cell? _ _ hw656_1; first | rwa [add_block] at this | exact this) GW658.out) | (rw [add_block]; exact Nat.ne_of_lt (Nat.lt_of_lt_of_le (by have := World.block_lt_of_cell? _ _ hw656_1; first | rwa [add_block] at this | exact this) GW658.out)) | (show (Addr.add _ _).block ≠ _; rw [add_block]; exact Nat.ne_of_lt (Nat.lt_of_lt_of_le (by have := World.block_lt_of_cell? _ _ hw656_1; first | rwa [add_block] at this | exact this) GW658.out)) | (dsimp only; exact Nat.ne_of_lt (Nat.lt_of_lt_of_le (by have := World.block_lt_of_cell? _ _ hw656_1; first | rwa [add_block] at this | exact this) GW658.out))) _).trans (((cell_far (p := ⟨gb658, _, none⟩) (by first | exact Nat.ne_of_lt (Nat.lt_of_lt_of_le (by have := World.block_lt_of_cell? _ _ hw656_1; first | rwa [add_block] at this | exact this) GW658.out) | (rw [add_block]; exact Nat.ne_of_lt (Nat.lt_of_lt_of_le (by have := World.block_lt_of_cell? _ _ hw656_1; first | rwa [add_block] at this | exact this) GW658.out)) | (show (Addr.add _ _).block ≠ _; rw [add_block]; exact Nat.ne_of_lt (Nat.lt_of_lt_of_le (by have := World.block_lt_of_cell? _ _ hw656_1; first | rwa [add_block] at this | exact this) GW658.out)) | (dsimp only; exact Nat.ne_of_lt (Nat.lt_of_lt_of_le (by have := World.block_lt_of_cell? _ _ hw656_1; first | rwa [add_block] at this | exact this) GW658.out))) _).trans (hHeld.2.2.2.1)))), ((cell_far (p := ⟨gb658, _, none⟩) (by first | exact Nat.ne_of_lt (Nat.lt_of_lt_of_le (by have := World.block_lt_of_cell? _ _ hw657_0; first | rwa [add_block] at this | exact this) GW658.out) | (rw [add_block]; exact Nat.ne_of_lt (Nat.lt_of_lt_of_le (by have := World.block_lt_of_cell? _ _ hw657_0; first | rwa [add_block] at this | exact this) GW658.out)) | (show (Addr.add _ _).block ≠ _; rw [add_block]; exact Nat.ne_of_lt (Nat.lt_of_lt_of_le (by have := World.block_lt_of_cell? _ _ hw657_0; first | rwa [add_block] at this | exact this) GW658.out)) | (dsimp only; exact Nat.ne_of_lt (Nat.lt_of_lt_of_le (by have := World.block_lt_of_cell? _ _ hw657_0; first | rwa [add_block] at this | exact this) GW658.out))) _).trans (((cell_far (p := ⟨gb658, _, none⟩) (by first | exact Nat.ne_of_lt (Nat.lt_of_lt_of_le (by have := World.block_lt_of_cell? _ _ hw657_0; first | rwa [add_block] at this | exact this) GW658.out) | (rw [add_block]; exact Nat.ne_of_lt (Nat.lt_of_lt_of_le (by have := World.block_lt_of_cell? _ _ hw657_0; first | rwa [add_block] at this | exact this) GW658.out)) | (show (Addr.add _ _).block ≠ _; rw [add_block]; exact Nat.ne_of_lt (Nat.lt_of_lt_of_le (by have := World.block_lt_of_cell? _ _ hw657_0; first | rwa [add_block] at this | exact this) GW658.out)) | (dsimp only; exact Nat.ne_of_lt (Nat.lt_of_lt_of_le (by have := World.block_lt_of_cell? _ _ hw657_0; first | rwa [add_block] at this | exact this) GW658.out))) _).trans (hHeld.2.2.2.2.1)))), ((cell_far (p := ⟨gb658, _, none⟩) (by first | exact Nat.ne_of_lt (Nat.lt_of_lt_of_le (by have := World.block_lt_of_cell? _ _ hw657_1; first | rwa [add_block] at this | exact this) GW658.out) | (rw [add_block]; exact Nat.ne_of_lt (Nat.lt_of_lt_of_le (by have := World.block_lt_of_cell? _ _ hw657_1; first | rwa [add_block] at this | exact this) GW658.out)) | (show (Addr.add _ _).block ≠ _; rw [add_block]; exact Nat.ne_of_lt (Nat.lt_of_lt_of_le (by have := World.block_lt_of_cell? _ _ hw657_1; first | rwa [add_block] at this | exact this) GW658.out)) | (dsimp only; exact Nat.ne_of_lt (Nat.lt_of_lt_of_le (by have := World.block_lt_of_cell? _ _ hw657_1; first | rwa [add_block] at this | exact this) GW658.out))) _).trans (((cell_far (p := ⟨gb658, _, none⟩) (by first | exact Nat.ne_of_lt (Nat.lt_of_lt_of_le (by have := World.block_lt_of_cell? _ _ hw657_1; first | rwa [add_block] at this | exact this) GW658.out) | (rw [add_block]; exact Nat.ne_of_lt (Nat.lt_of_lt_of_le (by have := World.block_lt_of_cell? _ _ hw657_1; first | rwa [add_block] at this | exact this) GW658.out)) | (show (Addr.add _ _).block ≠ _; rw [add_block]; exact Nat.ne_of_lt (Nat.lt_of_lt_of_le (by have := World.block_lt_of_cell? _ _ hw657_1; first | rwa [add_block] at this | exact this) GW658.out)) | (dsimp only; exact Nat.ne_of_lt (Nat.lt_of_lt_of_le (by have := World.block_lt_of_cell? _ _ hw657_1; first | rwa [add_block] at this | exact this) GW658.out))) _).trans (hHeld.2.2.2.2.2))))⟩ (fun hHeld => ?_)
          clear hK K
          refine one_ (i := 14) (N := none) #[true, true, true, true, true, true, true, true, true, true, true, true, true, true, true] rfl rfl (one_of HT_.out (by kernel_rfl)) (by decide) (fun K hK => ?_)
          have hs37 : w34.cell? ⟨gb659, 0, none⟩ = some (.int .i64 0) := (blk_cell BK659.out 0).trans rfl
          have hfs37 := blk_frozen BK659.out 0; have hns37_0 := NB655_659.out; have hns37_1 := NB658_659.out; have hms37_0 := NB659_655.out; have hms37_1 := NB659_658.out
          have hs38 : w34.cell? ⟨gb659, 1, none⟩ = some (.int .i64 0) := (blk_cell BK659.out 1).trans rfl
          have hfs38 := blk_frozen BK659.out 1; have hns38_0 := NB655_659.out; have hns38_1 := NB658_659.out; have hms38_0 := NB659_655.out; have hms38_1 := NB659_658.out
          refine skip_ (w1 := ?_) (by rfl) rfl ?_ ?_
          rotate_left
          ·go_simp
           rfl
          refine hK.out _ _ ⟨((cell_far (p := ⟨gb659, _, none⟩) NB655_659.out _).trans (((cell_far (p := ⟨gb659, _, none⟩) NB655_659.out _).trans (hHeld.1)))), ((cell_far (p := ⟨gb659, _, none⟩) NB655_659.out _).trans (((cell_far (p := ⟨gb659, _, none⟩) NB655_659.out _).trans (hHeld.2.1)))), ((cell_far (p := ⟨gb659, _, none⟩) (by first | exact Nat.ne_of_lt (Nat.lt_of_lt_of_le (by have := World.block_lt_of_cell? _ _ hw656_0; first | rwa [add_block] at this | exact this) GW659.out) | (rw [add_block]; exact Nat.ne_of_lt (Nat.lt_of_lt_of_le (by have := World.block_lt_of_cell? _ _ hw656_0; first | rwa [add_block] at this | exact this) GW659.out)) | (show (Addr.add _ _).block ≠ _; rw [add_block]; exact Nat.ne_of_lt (Nat.lt_of_lt_of_le (by have := World.block_lt_of_cell? _ _ hw656_0; first | rwa [add_block] at this | exact this) GW659.out)) | (dsimp only; exact Nat.ne_of_lt (Nat.lt_of_lt_of_le (by have := World.block_lt_of_cell? _ _ hw656_0; first | rwa [add_block] at this | exact this) GW659.out))) _).trans (((cell_far (p := ⟨gb659, _, none⟩) (by first | exact Nat.ne_of_lt (Nat.lt_of_lt_of_le (by have := World.block_lt_of_cell? _ _ hw656_0; first | rwa [add_block] at this | exact this) GW659.out) | (rw [add_block]; exact Nat.ne_of_lt (Nat.lt_of_lt_of_le (by have := World.block_lt_of_cell? _ _ hw656_0; first | rwa [add_block] at this | exact this) GW659.out)) | (show (Addr.add _ _).block ≠ _; rw [add_block]; exact Nat.ne_of_lt (Nat.lt_of_lt_of_le (by have := World.block_lt_of_cell? _ _ hw656_0; first | rwa [add_block] at this | exact this) GW659.out)) | (dsimp only; exact Nat.ne_of_lt (Nat.lt_of_lt_of_le (by have := World.block_lt_of_cell? _ _ hw656_0; first | rwa [add_block] at this | exact this) GW659.out))) _).trans (hHeld.2.2.1)))), ((cell_far (p := ⟨gb659, _, none⟩) (by first | exact Nat.ne_of_lt (Nat.lt_of_lt_of_le (by have := World.block_lt_of_cell? _ _ hw656_1; first | rwa [add_block] at this | exact this) GW659.out) | (rw [add_block]; exact Nat.ne_of_lt (Nat.lt_of_lt_of_le (by have := World.block_lt_of_cell? _ _ hw656_1; first | rwa [add_block] at this | exact this) GW659.out)) | (show (Addr.add _ _).block ≠ _; rw [add_block]; exact Nat.ne_of_lt (Nat.lt_of_lt_of_le (by have := World.block_lt_of_cell? _ _ hw656_1; first | rwa [add_block] at this | exact this) GW659.out)) | (dsimp only; exact Nat.ne_of_lt (Nat.lt_of_lt_of_le (by have := World.block_lt_of_cell? _ _ hw656_1; first | rwa [add_block] at this | exact this) GW659.out))) _).trans (((cell_far (p := ⟨gb659, _, none⟩) (by first | exact Nat.ne_of_lt (Nat.lt_of_lt_of_le (by have := World.block_lt_of_cell? _ _ hw656_1; first | rwa [add_block] at this | exact this) GW659.out) | (rw [add_block]; exact Nat.ne_of_lt (Nat.lt_of_lt_of_le (by have := World.block_lt_of_cell? _ _ hw656_1; first | rwa [add_block] at this | exact this) GW659.out)) | (show (Addr.add _ _).block ≠ _; rw [add_block]; exact Nat.ne_of_lt (Nat.lt_of_lt_of_le (by have := World.block_lt_of_cell? _ _ hw656_1; first | rwa [add_block] at this | exact this) GW659.out)) | (dsimp only; exact Nat.ne_of_lt (Nat.lt_of_lt_of_le (by have := World.block_lt_of_cell? _ _ hw656_1; first | rwa [add_block] at this | exact this) GW659.out))) _).trans (hHeld.2.2.2.1)))), ((cell_far (p := ⟨gb659, _, none⟩) (by first | exact Nat.ne_of_lt (Nat.lt_of_lt_of_le (by have := World.block_lt_of_cell? _ _ hw657_0; first | rwa [add_block] at this | exact this) GW659.out) | (rw [add_block]; exact Nat.ne_of_lt (Nat.lt_of_lt_of_le (by have := World.block_lt_of_cell? _ _ hw657_0; first | rwa [add_block] at this | exact this) GW659.out)) | (show (Addr.add _ _).block ≠ _; rw [add_block]; exact Nat.ne_of_lt (Nat.lt_of_lt_of_le (by have := World.block_lt_of_cell? _ _ hw657_0; first | rwa [add_block] at this | exact this) GW659.out)) | (dsimp only; exact Nat.ne_of_lt (Nat.lt_of_lt_of_le (by have := World.block_lt_of_cell? _ _ hw657_0; first | rwa [add_block] at this | exact this) GW659.out))) _).trans (((cell_far (p := ⟨gb659, _, none⟩) (by first | exact Nat.ne_of_lt (Nat.lt_of_lt_of_le (by have := World.block_lt_of_cell? _ _ hw657_0; first | rwa [add_block] at this | exact this) GW659.out) | (rw [add_block]; exact Nat.ne_of_lt (Nat.lt_of_lt_of_le (by have := World.block_lt_of_cell? _ _ hw657_0; first | rwa [add_block] at this | exact this) GW659.out)) | (show (Addr.add _ _).block ≠ _; rw [add_block]; exact Nat.ne_of_lt (Nat.lt_of_lt_of_le (by have := World.block_lt_of_cell? _ _ hw657_0; first | rwa [add_block] at this | exact this) GW659.out)) | (dsimp only; exact Nat.ne_of_lt (Nat.lt_of_lt_of_le (by have := World.block_lt_of_cell? _ _ hw657_0; first | rwa [add_block] at this | exact this) GW659.out))) _).trans (hHeld.2.2.2.2.1)))), ((cell_far (p := ⟨gb659, _, none⟩) (by first | exact Nat.ne_of_lt (Nat.lt_of_lt_of_le (by have := World.block_lt_of_cell? _ _ hw657_1; first | rwa [add_block] at this | exact this) GW659.out) | (rw [add_block]; exact Nat.ne_of_lt (Nat.lt_of_lt_of_le (by have := World.block_lt_of_cell? _ _ hw657_1; first | rwa [add_block] at this | exact this) GW659.out)) | (show (Addr.add _ _).block ≠ _; rw [add_block]; exact Nat.ne_of_lt (Nat.lt_of_lt_of_le (by have := World.block_lt_of_cell? _ _ hw657_1; first | rwa [add_block] at this | exact this) GW659.out)) | (dsimp only; exact Nat.ne_of_lt (Nat.lt_of_lt_of_le (by have := World.block_lt_of_cell? _ _ hw657_1; first | rwa [add_block] at this | exact this) GW659.out))) _).trans (((cell_far (p := ⟨gb659, _, none⟩) (by first | exact Nat.ne_of_lt (Nat.lt_of_lt_of_le (by have := World.block_lt_of_cell? _ _ hw657_1; first | rwa [add_block] at this | exact this) GW659.out) | (rw [add_block]; exact Nat.ne_of_lt (Nat.lt_of_lt_of_le (by have := World.block_lt_of_cell? _ _ hw657_1; first | rwa [add_block] at this | exact this) GW659.out)) | (show (Addr.add _ _).block ≠ _; rw [add_block]; exact Nat.ne_of_lt (Nat.lt_of_lt_of_le (by have := World.block_lt_of_cell? _ _ hw657_1; first | rwa [add_block] at this | exact this) GW659.out)) | (dsimp only; exact Nat.ne_of_lt (Nat.lt_of_lt_of_le (by have := World.block_lt_of_cell? _ _ hw657_1; first | rwa [add_block] at this | exact this) GW659.out))) _).trans (hHeld.2.2.2.2.2))))⟩ (fun hHeld => ?_)
          clear hK K
          refine done_ (done_of HT_.out (by kernel_rfl)) ?_
          try go_wp2
          have n0_ : Sd (((((w34.setCell ⟨gb658, 0, none⟩ (.int .i64 ((rd_T84 l0_0 (ji5)).f0))).setCell ⟨gb658, 1, none⟩ (.int .i64 ((rd_T84 l0_0 (ji5)).f1))).setCell ⟨gb659, 0, none⟩ (.int .i64 ((rd_T84 l0_0 x6_1).f0))).setCell ⟨gb659, 1, none⟩ (.int .i64 ((rd_T84 l0_0 x6_1).f1))).heap[gb655]? = some (.cells #[.slice (some ad656) l0_0.length c0_0, .int .i64 a0_1] 71 (0, 0))) := ⟨by (with_reducible repeat (first | refine blk_drewN ?_ _ | refine blk_drew ?_ | refine blk_alloc ?_ _)); refine blk_far ?_ NB655_659.out _; (with_reducible repeat (first | refine blk_drewN ?_ _ | refine blk_drew ?_ | refine blk_alloc ?_ _)); refine blk_far ?_ NB655_659.out _; (with_reducible repeat (first | refine blk_drewN ?_ _ | refine blk_drew ?_ | refine blk_alloc ?_ _)); refine blk_far ?_ NB655_658.out _; (with_reducible repeat (first | refine blk_drewN ?_ _ | refine blk_drew ?_ | refine blk_alloc ?_ _)); refine blk_far ?_ NB655_658.out _; (with_reducible repeat (first | refine blk_drewN ?_ _ | refine blk_drew ?_ | refine blk_alloc ?_ _)); exact BK655.out⟩
          have n1_ : Sd (((((w34.setCell ⟨gb658, 0, none⟩ (.int .i64 ((rd_T84 l0_0 (ji5)).f0))).setCell ⟨gb658, 1, none⟩ (.int .i64 ((rd_T84 l0_0 (ji5)).f1))).setCell ⟨gb659, 0, none⟩ (.int .i64 ((rd_T84 l0_0 x6_1).f0))).setCell ⟨gb659, 1, none⟩ (.int .i64 ((rd_T84 l0_0 x6_1).f1))).heap[gb658]? = some (.cells #[.int .i64 ((rd_T84 l0_0 (ji5)).f0), .int .i64 ((rd_T84 l0_0 (ji5)).f1)] 84 (0, 0))) := ⟨by (with_reducible repeat (first | refine blk_drewN ?_ _ | refine blk_drew ?_ | refine blk_alloc ?_ _)); refine blk_far ?_ NB658_659.out _; (with_reducible repeat (first | refine blk_drewN ?_ _ | refine blk_drew ?_ | refine blk_alloc ?_ _)); refine blk_far ?_ NB658_659.out _; (with_reducible repeat (first | refine blk_drewN ?_ _ | refine blk_drew ?_ | refine blk_alloc ?_ _)); refine blk_put (cs := #[.int .i64 ((rd_T84 l0_0 (ji5)).f0), .int .i64 0]) ?_ 1 _ rfl; (with_reducible repeat (first | refine blk_drewN ?_ _ | refine blk_drew ?_ | refine blk_alloc ?_ _)); refine blk_put (cs := #[.int .i64 0, .int .i64 0]) ?_ 0 _ rfl; (with_reducible repeat (first | refine blk_drewN ?_ _ | refine blk_drew ?_ | refine blk_alloc ?_ _)); exact BK658.out⟩
          have n2_ : Sd (((((w34.setCell ⟨gb658, 0, none⟩ (.int .i64 ((rd_T84 l0_0 (ji5)).f0))).setCell ⟨gb658, 1, none⟩ (.int .i64 ((rd_T84 l0_0 (ji5)).f1))).setCell ⟨gb659, 0, none⟩ (.int .i64 ((rd_T84 l0_0 x6_1).f0))).setCell ⟨gb659, 1, none⟩ (.int .i64 ((rd_T84 l0_0 x6_1).f1))).heap[gb659]? = some (.cells #[.int .i64 ((rd_T84 l0_0 x6_1).f0), .int .i64 ((rd_T84 l0_0 x6_1).f1)] 84 (0, 0))) := ⟨by (with_reducible repeat (first | refine blk_drewN ?_ _ | refine blk_drew ?_ | refine blk_alloc ?_ _)); refine blk_put (cs := #[.int .i64 ((rd_T84 l0_0 x6_1).f0), .int .i64 0]) ?_ 1 _ rfl; (with_reducible repeat (first | refine blk_drewN ?_ _ | refine blk_drew ?_ | refine blk_alloc ?_ _)); refine blk_put (cs := #[.int .i64 0, .int .i64 0]) ?_ 0 _ rfl; (with_reducible repeat (first | refine blk_drewN ?_ _ | refine blk_drew ?_ | refine blk_alloc ?_ _)); refine blk_far ?_ NB659_658.out _; (with_reducible repeat (first | refine blk_drewN ?_ _ | refine blk_drew ?_ | refine blk_alloc ?_ _)); refine blk_far ?_ NB659_658.out _; (with_reducible repeat (first | refine blk_drewN ?_ _ | refine blk_drew ?_ | refine blk_alloc ?_ _)); exact BK659.out⟩
          have n3_ : Sd (Below w.heap.size w ((((w34.setCell ⟨gb658, 0, none⟩ (.int .i64 ((rd_T84 l0_0 (ji5)).f0))).setCell ⟨gb658, 1, none⟩ (.int .i64 ((rd_T84 l0_0 (ji5)).f1))).setCell ⟨gb659, 0, none⟩ (.int .i64 ((rd_T84 l0_0 x6_1).f0))).setCell ⟨gb659, 1, none⟩ (.int .i64 ((rd_T84 l0_0 x6_1).f1)))) := ⟨bBl HB.out⟩
          (try clear BK655)
          (try clear BK658)
          (try clear BK659)
          (try clear HB)
          generalize ((((w34.setCell ⟨gb658, 0, none⟩ (.int .i64 ((rd_T84 l0_0 (ji5)).f0))).setCell ⟨gb658, 1, none⟩ (.int .i64 ((rd_T84 l0_0 (ji5)).f1))).setCell ⟨gb659, 0, none⟩ (.int .i64 ((rd_T84 l0_0 x6_1).f0))).setCell ⟨gb659, 1, none⟩ (.int .i64 ((rd_T84 l0_0 x6_1).f1))) = w39 at n0_ n1_ n2_ n3_ ⊢
          have BK655 := n0_; have BK658 := n1_; have BK659 := n2_; have HB := n3_; clear n0_ n1_ n2_ n3_; replace BK655 := Sd.mk (blk_drew BK655.out); replace BK658 := Sd.mk (blk_drew BK658.out); replace BK659 := Sd.mk (blk_drew BK659.out); replace HB := Sd.mk (below_drew1 HB.out)
          refine start_ (n := 12) (S := fun w' => w'.cell? ⟨gb658, 0, none⟩ = some (.int .i64 ((rd_T84 l0_0 (ji5)).f0)) ∧ w'.cell? ⟨gb658, 1, none⟩ = some (.int .i64 ((rd_T84 l0_0 (ji5)).f1)) ∧ w'.cell? ⟨gb659, 0, none⟩ = some (.int .i64 ((rd_T84 l0_0 x6_1).f0)) ∧ w'.cell? ⟨gb659, 1, none⟩ = some (.int .i64 ((rd_T84 l0_0 x6_1).f1))) (ds := []) #[false, false, false, false, false, false, false, false, false, false, false, false] (by kernel_rfl) rfl rfl ⟨(blk_cell BK658.out 0).trans rfl, (blk_cell BK658.out 1).trans rfl, (blk_cell BK659.out 0).trans rfl, (blk_cell BK659.out 1).trans rfl⟩ (fun hHeld => ?_); refine with_tabW strength_held.tab6 strength_held.bits6 (fun HT_ HW_ => ?_)
          generalize w39.drew = w40 at BK655 BK658 BK659 HB hHeld ⊢
          refine pure_ (i := 0) (N := some 30) (v := ?_) (a' := ?_) #[true, false, false, false, false, false, false, false, false, false, false, false] rfl rfl (any_of HT_.out (by kernel_rfl)) (fun _ _ _ h => h) (Or.inl ⟨by rfl, ?_⟩) ?_ ?_
          rotate_left
          ·exact tW
          rotate_left
          ·exact tP
          refine pure_ (i := 2) (N := some 32) (v := ?_) (a' := ?_) #[true, false, true, false, false, false, false, false, false, false, false, false] rfl rfl (any_of HT_.out (by kernel_rfl)) (fun _ _ _ h => h) (Or.inl ⟨by rfl, ?_⟩) ?_ ?_
          rotate_left
          ·exact tW
          rotate_left
          ·exact tP
          refine pure_ (i := 5) (N := some 35) (v := ?_) (a' := ?_) #[true, false, true, false, false, true, false, false, false, false, false, false] rfl rfl (any_of HT_.out (by kernel_rfl)) (fun _ _ _ h => h) (Or.inl ⟨by rfl, ?_⟩) ?_ ?_
          rotate_left
          ·exact tW
          rotate_left
          ·exact tP
          refine pure_ (i := 7) (N := some 37) (v := ?_) (a' := ?_) #[true, false, true, false, false, true, false, true, false, false, false, false] rfl rfl (any_of HT_.out (by kernel_rfl)) (fun _ _ _ h => h) (Or.inl ⟨by rfl, ?_⟩) ?_ ?_
          rotate_left
          ·exact tW
          rotate_left
          ·exact tP
          refine take_ (i := 1) (N := some 31) (v := ?_) (a' := ?_) #[true, true, true, false, false, true, false, true, false, false, false, false] rfl rfl (take_ofW HT_.out HW_.out (by kernel_rfl)) (fun _ _ _ h => h) (Or.inl ⟨by rfl, ?_⟩) hHeld ?_ ?_
          rotate_left
          ·rintro w' ⟨s0, s1, s2, s3⟩
           go_simp
           with_reducible rfl
          rotate_left
          ·exact tP
          refine take_ (i := 3) (N := some 33) (v := ?_) (a' := ?_) #[true, true, true, true, false, true, false, true, false, false, false, false] rfl rfl (take_ofW HT_.out HW_.out (by kernel_rfl)) (fun _ _ _ h => h) (Or.inl ⟨by rfl, ?_⟩) hHeld ?_ ?_
          rotate_left
          ·rintro w' ⟨s0, s1, s2, s3⟩
           go_simp
           with_reducible rfl
          rotate_left
          ·exact tP
          refine pure_ (i := 4) (N := some 34) (v := ?_) (a' := ?_) #[true, true, true, true, true, true, false, true, false, false, false, false] rfl rfl (any_of HT_.out (by kernel_rfl)) (fun _ _ _ h => h) (Or.inl ⟨by rfl, ?_⟩) ?_ ?_
          rotate_left
          ·exact tW
          rotate_left
          ·exact tP
          refine pure_ (i := 10) (N := some 9) (v := ?_) (a' := ?_) #[true, true, true, true, true, true, false, true, false, false, true, false] rfl rfl (any_of HT_.out (by kernel_rfl)) (fun _ _ _ h => h) (Or.inl ⟨by rfl, ?_⟩) ?_ ?_
          rotate_left
          ·exact tW
          rotate_left
          ·exact tP
          refine take_ (i := 6) (N := some 36) (v := ?_) (a' := ?_) #[true, true, true, true, true, true, true, true, false, false, true, false] rfl rfl (take_ofW HT_.out HW_.out (by kernel_rfl)) (fun _ _ _ h => h) (Or.inl ⟨by rfl, ?_⟩) hHeld ?_ ?_
          rotate_left
          ·rintro w' ⟨s0, s1, s2, s3⟩
           go_simp
           with_reducible rfl
          rotate_left
          ·exact tP
          refine take_ (i := 8) (N := some 38) (v := ?_) (a' := ?_) #[true, true, true, true, true, true, true, true, true, false, true, false] rfl rfl (take_ofW HT_.out HW_.out (by kernel_rfl)) (fun _ _ _ h => h) (Or.inl ⟨by rfl, ?_⟩) hHeld ?_ ?_
          rotate_left
          ·rintro w' ⟨s0, s1, s2, s3⟩
           go_simp
           with_reducible rfl
          rotate_left
          ·exact tP
          refine pure_ (i := 9) (N := some 39) (v := ?_) (a' := ?_) #[true, true, true, true, true, true, true, true, true, true, true, false] rfl rfl (any_of HT_.out (by kernel_rfl)) (fun _ _ _ h => h) (Or.inl ⟨by rfl, ?_⟩) ?_ ?_
          rotate_left
          ·exact tW
          rotate_left
          ·exact tP
          refine pure_ (i := 11) (N := some 10) (v := ?_) (a' := ?_) #[true, true, true, true, true, true, true, true, true, true, true, true] rfl rfl (any_of HT_.out (by kernel_rfl)) (fun _ _ _ h => h) (Or.inl ⟨by rfl, ?_⟩) ?_ ?_
          rotate_left
          ·exact tW
          rotate_left
          ·exact tP
          refine done_ (done_of HT_.out (by kernel_rfl)) ?_
          have hnb41 := NB659_655.out; have hnc41 := NB655_659.out; have hnb42 := NB659_658.out; have hnc42 := NB658_659.out; obtain ⟨u43_0, u43_1, o43_0, o43_1⟩ := bc2 (w := w40) BK659.out; have hnb44 := NB658_655.out; have hnc44 := NB655_658.out; obtain ⟨u45_0, u45_1, o45_0, o45_1⟩ := bc2 (w := w40) BK658.out
          try go_wp2
          go_roundg k1
          case measure => have := HK1.out; omega
          case rel => exact ⟨(wrap64 (x5_1 + (wrap64 (Int.tdiv (wrap64 ((wrap64 (((rd_T84 l0_0 x6_1).f0) - ((rd_T84 l0_0 (ji5)).f0))) * (wrap64 ((ji10) - a1)))) (wrap64 ((ji10) - (ji9))))))), (wrap64 (x6_1 + 1)), (by first | rfl | (simp; done) | (simp only [← hji5, ← hji9, ← hji10] <;> (first | rfl | simp)) | (simp [*]; done)), tS, H', ⟨by have := HK1.out; omega⟩, ⟨bkA BK655.out⟩, ⟨bBl HB.out⟩⟩
        ·rw [if_neg c28] at H
         have c28b0 : decide (a1 < (ji10)) = false := decide_eq_false c28
         clear c28; have H' := Sd.mk H; clear H; obtain ⟨u46_0, u46_1, o46_0, o46_1⟩ := bc2 (w := wr) BK655.out
         try go_wp2
         replace BK655 := Sd.mk (blk_drew BK655.out); replace HB := Sd.mk (below_drew1 HB.out)
         have p656 : 0 ≤ ((ji5) : Int) := tB
         have q656 : (ji5) < (l0_0.length : Int) := tB
         obtain ⟨ad656, e656, hx656_0, hx656_1⟩ := at_T84 HR0_0.out (ji5) p656 q656; have hw656_1 := hx656_1; have hw656_0 := hx656_0; cases e656; replace hx656_0 := cU HB hx656_0; replace hx656_1 := cU HB hx656_1; replace p656 := eq_true p656; replace q656 := eq_true q656
         have p657 : 0 ≤ (x6_1 : Int) := tB
         have q657 : x6_1 < (l0_0.length : Int) := tB
         obtain ⟨ad657, e657, hx657_0, hx657_1⟩ := at_T84 HR0_0.out x6_1 p657 q657; have hw657_1 := hx657_1; have hw657_0 := hx657_0
         obtain rfl : ad656 = ad657 := (by injection e657)
         replace hx657_0 := cU HB hx657_0; replace hx657_1 := cU HB hx657_1; replace p657 := eq_true p657; replace q657 := eq_true q657
         refine start_ (n := 15) (S := fun w' => w'.cell? ⟨gb655, 0, none⟩ = some (.slice (some ad656) l0_0.length c0_0) ∧ w'.cell? ⟨gb655, 1, none⟩ = some (.int .i64 a0_1) ∧ w'.cell? (ad656.add (((ji5)).toNat * 2)) = some (.int .i64 ((rd_T84 l0_0 (ji5)).f0)) ∧ w'.cell? ⟨(ad656.add (((ji5)).toNat * 2)).block, (ad656.add (((ji5)).toNat * 2)).off + 1, none⟩ = some (.int .i64 ((rd_T84 l0_0 (ji5)).f1)) ∧ w'.cell? (ad656.add ((x6_1).toNat * 2)) = some (.int .i64 ((rd_T84 l0_0 x6_1).f0)) ∧ w'.cell? ⟨(ad656.add ((x6_1).toNat * 2)).block, (ad656.add ((x6_1).toNat * 2)).off + 1, none⟩ = some (.int .i64 ((rd_T84 l0_0 x6_1).f1))) (ds := []) #[false, false, false, false, false, false, false, false, false, false, false, false, false, false, false] (by kernel_rfl) rfl rfl ⟨(blk_cell BK655.out 0).trans rfl, (blk_cell BK655.out 1).trans rfl, ((HB.out.cell (World.block_lt_of_cell? w _ hw656_0)).trans hw656_0), ((HB.out.cell (World.block_lt_of_cell? w _ hw656_1)).trans hw656_1), ((HB.out.cell (World.block_lt_of_cell? w _ hw657_0)).trans hw657_0), ((HB.out.cell (World.block_lt_of_cell? w _ hw657_1)).trans hw657_1)⟩ (fun hHeld => ?_); refine with_tabW strength_held.tab5 strength_held.bits5 (fun HT_ HW_ => ?_)
         generalize wr.drew = w47 at BK655 HB hx656_0 hx656_1 hx657_0 hx657_1 hHeld ⊢
         refine pure_ (i := 0) (N := some 19) (v := ?_) (a' := ?_) #[true, false, false, false, false, false, false, false, false, false, false, false, false, false, false] rfl rfl (any_of HT_.out (by kernel_rfl)) (fun _ _ _ h => h) (Or.inl ⟨by rfl, ?_⟩) ?_ ?_
         rotate_left
         ·exact tW
         rotate_left
         ·exact tP
         refine pure_ (i := 2) (N := some 21) (v := ?_) (a' := ?_) #[true, false, true, false, false, false, false, false, false, false, false, false, false, false, false] rfl rfl (any_of HT_.out (by kernel_rfl)) (fun _ _ _ h => h) (Or.inl ⟨by rfl, ?_⟩) ?_ ?_
         rotate_left
         ·exact tW
         rotate_left
         ·exact tP
         refine pure_ (i := 3) (N := some 22) (v := ?_) (a' := ?_) #[true, false, true, true, false, false, false, false, false, false, false, false, false, false, false] rfl rfl (any_of HT_.out (by kernel_rfl)) (fun _ _ _ h => h) (Or.inl ⟨by rfl, ?_⟩) ?_ ?_
         rotate_left
         ·exact tW
         rotate_left
         ·exact tP
         refine pure_ (i := 6) (N := some 25) (v := ?_) (a' := ?_) #[true, false, true, true, false, false, true, false, false, false, false, false, false, false, false] rfl rfl (any_of HT_.out (by kernel_rfl)) (fun _ _ _ h => h) (Or.inl ⟨by rfl, ?_⟩) ?_ ?_
         rotate_left
         ·exact tW
         rotate_left
         ·exact tP
         refine pure_ (i := 8) (N := some 27) (v := ?_) (a' := ?_) #[true, false, true, true, false, false, true, false, true, false, false, false, false, false, false] rfl rfl (any_of HT_.out (by kernel_rfl)) (fun _ _ _ h => h) (Or.inl ⟨by rfl, ?_⟩) ?_ ?_
         rotate_left
         ·exact tW
         rotate_left
         ·exact tP
         refine take_ (i := 1) (N := some 20) (v := ?_) (a' := ?_) #[true, true, true, true, false, false, true, false, true, false, false, false, false, false, false] rfl rfl (take_ofW HT_.out HW_.out (by kernel_rfl)) (fun _ _ _ h => h) (Or.inl ⟨by rfl, ?_⟩) hHeld ?_ ?_
         rotate_left
         ·rintro w' ⟨s0, s1, s2, s3, s4, s5⟩
          go_simp
          with_reducible rfl
         rotate_left
         ·exact tP
         refine pure_ (i := 4) (N := some 23) (v := ?_) (a' := ?_) #[true, true, true, true, true, false, true, false, true, false, false, false, false, false, false] rfl rfl (any_of HT_.out (by kernel_rfl)) (fun _ _ _ h => h) (Or.inl ⟨by rfl, ?_⟩) ?_ ?_
         rotate_left
         ·exact tW
         rotate_left
         ·exact tP
         refine take_ (i := 5) (N := some 24) (v := ?_) (a' := ?_) #[true, true, true, true, true, true, true, false, true, false, false, false, false, false, false] rfl rfl (take_ofW HT_.out HW_.out (by kernel_rfl)) (fun _ _ _ h => h) (Or.inl ⟨by rfl, ?_⟩) hHeld ?_ ?_
         rotate_left
         ·rintro w' ⟨s0, s1, s2, s3, s4, s5⟩
          go_simp
          with_reducible rfl
         rotate_left
         ·exact tP
         refine take_ (i := 7) (N := some 26) (v := ?_) (a' := ?_) #[true, true, true, true, true, true, true, true, true, false, false, false, false, false, false] rfl rfl (take_ofW HT_.out HW_.out (by kernel_rfl)) (fun _ _ _ h => h) (Or.inl ⟨by rfl, ?_⟩) hHeld ?_ ?_
         rotate_left
         ·rintro w' ⟨s0, s1, s2, s3, s4, s5⟩
          go_simp
          with_reducible rfl
         rotate_left
         ·exact tP
         refine pure_ (i := 9) (N := some 28) (v := ?_) (a' := ?_) #[true, true, true, true, true, true, true, true, true, true, false, false, false, false, false] rfl rfl (any_of HT_.out (by kernel_rfl)) (fun _ _ _ h => h) (Or.inl ⟨by rfl, ?_⟩) ?_ ?_
         rotate_left
         ·exact tW
         rotate_left
         ·exact tP
         refine take_ (i := 10) (N := some 29) (v := ?_) (a' := ?_) #[true, true, true, true, true, true, true, true, true, true, true, false, false, false, false] rfl rfl (take_ofW HT_.out HW_.out (by kernel_rfl)) (fun _ _ _ h => h) (Or.inl ⟨by rfl, ?_⟩) hHeld ?_ ?_
         rotate_left
         ·rintro w' ⟨s0, s1, s2, s3, s4, s5⟩
          go_simp
          with_reducible rfl
         rotate_left
         ·exact tP
         refine join_ (σ := Nat × Nat) 2 #[true, true, true, true, true, true, true, true, true, true, true, true, true, false, false] (fun s_ => [(7, .pointer (some ⟨s_.1, 0, none⟩)), (8, .pointer (some ⟨s_.2, 0, none⟩))]) (fun s_ w' => (w'.cell? ⟨gb655, 0, none⟩ = some (.slice (some ad656) l0_0.length c0_0) ∧ w'.cell? ⟨gb655, 1, none⟩ = some (.int .i64 a0_1) ∧ w'.cell? (ad656.add (((ji5)).toNat * 2)) = some (.int .i64 ((rd_T84 l0_0 (ji5)).f0)) ∧ w'.cell? ⟨(ad656.add (((ji5)).toNat * 2)).block, (ad656.add (((ji5)).toNat * 2)).off + 1, none⟩ = some (.int .i64 ((rd_T84 l0_0 (ji5)).f1)) ∧ w'.cell? (ad656.add ((x6_1).toNat * 2)) = some (.int .i64 ((rd_T84 l0_0 x6_1).f0)) ∧ w'.cell? ⟨(ad656.add ((x6_1).toNat * 2)).block, (ad656.add ((x6_1).toNat * 2)).off + 1, none⟩ = some (.int .i64 ((rd_T84 l0_0 x6_1).f1))) ∧ (w'.heap[gb655]? = some (.cells #[.slice (some ad656) l0_0.length c0_0, .int .i64 a0_1] 71 (0, 0))) ∧ (w'.heap[s_.1]? = some (.cells #[.int .i64 0, .int .i64 0] 84 (0, 0))) ∧ (w'.heap[s_.2]? = some (.cells #[.int .i64 0, .int .i64 0] 84 (0, 0))) ∧ (w.heap.size ≤ s_.1) ∧ (w.heap.size ≤ s_.1) ∧ (gb655 ≠ s_.1) ∧ (s_.1 ≠ gb655) ∧ (s_.2 ≠ s_.1) ∧ (s_.1 ≠ s_.2) ∧ (w.heap.size ≤ s_.2) ∧ (w.heap.size ≤ s_.2) ∧ (gb655 ≠ s_.2) ∧ (s_.2 ≠ gb655) ∧ (Below w.heap.size w w')) ?_ ?_
         rotate_left
         ·intro hCont
          refine two_ (i := 11) (j := 12) (Ni := some 7) (Nj := some 8) #[true, true, true, true, true, true, true, true, true, true, true, true, false, false, false] #[true, true, true, true, true, true, true, true, true, true, true, false, true, false, false] rfl rfl rfl rfl (two_of HT_.out (by kernel_rfl)) (by decide) (by decide) (fun K hK => ?_) (fun K hK => ?_)
          ·skip
           refine box_step ?hg (N := 7) ?hd (cs := #[.int .i64 0, .int .i64 0]) (t := 84) ?hr ?_; (case hd => rfl); (case hg => rfl); (case hr => exact tG)
           intro gb658 hg w48 hbox hb
           have BK658 := Sd.mk (hbox); have GW658 := Sd.mk (bSz hg (bBl HB.out)); have GE658 := Sd.mk (bSz hg (bBl HB.out)); replace HB := Sd.mk (below_step (bBl HB.out) hb); have NB655_658 := Sd.mk (bNl hg (bkA BK655.out)); have NB658_655 := Sd.mk (bNg hg (bkA BK655.out)); replace BK655 := Sd.mk (blk_below (bkA BK655.out) hb); clear hb hbox hg
           refine hK.out _ _ ⟨(blk_cell BK655.out 0).trans rfl, (blk_cell BK655.out 1).trans rfl, ((HB.out.cell (World.block_lt_of_cell? w _ hw656_0)).trans hw656_0), ((HB.out.cell (World.block_lt_of_cell? w _ hw656_1)).trans hw656_1), ((HB.out.cell (World.block_lt_of_cell? w _ hw657_0)).trans hw657_0), ((HB.out.cell (World.block_lt_of_cell? w _ hw657_1)).trans hw657_1)⟩ (fun hHeld => ?_)
           clear hK K
           refine norm_ (a' := ?_) ?_ ?_
           rotate_left
           ·show Act.put _ (some 7) _ = _
            exact tP
           refine one_ (i := 12) (N := some 8) #[true, true, true, true, true, true, true, true, true, true, true, true, true, false, false] rfl rfl (one_of HT_.out (by kernel_rfl)) (by decide) (fun K hK => ?_)
           refine box_step ?hg (N := 8) ?hd (cs := #[.int .i64 0, .int .i64 0]) (t := 84) ?hr ?_; (case hd => rfl); (case hg => rfl); (case hr => exact tG)
           intro gb659 hg w49 hbox hb
           have BK659 := Sd.mk (hbox); have GW659 := Sd.mk (bSz hg (bBl HB.out)); have GE659 := Sd.mk (bSz hg (bBl HB.out)); replace HB := Sd.mk (below_step (bBl HB.out) hb); have NB655_659 := Sd.mk (bNl hg (bkA BK655.out)); have NB659_655 := Sd.mk (bNg hg (bkA BK655.out)); replace BK655 := Sd.mk (blk_below (bkA BK655.out) hb); have NB658_659 := Sd.mk (bNl hg (bkA BK658.out)); have NB659_658 := Sd.mk (bNg hg (bkA BK658.out)); replace BK658 := Sd.mk (blk_below (bkA BK658.out) hb); clear hb hbox hg
           refine hK.out _ _ ⟨(blk_cell BK655.out 0).trans rfl, (blk_cell BK655.out 1).trans rfl, ((HB.out.cell (World.block_lt_of_cell? w _ hw656_0)).trans hw656_0), ((HB.out.cell (World.block_lt_of_cell? w _ hw656_1)).trans hw656_1), ((HB.out.cell (World.block_lt_of_cell? w _ hw657_0)).trans hw657_0), ((HB.out.cell (World.block_lt_of_cell? w _ hw657_1)).trans hw657_1)⟩ (fun hHeld => ?_)
           clear hK K
           refine norm_ (a' := ?_) ?_ ?_
           rotate_left
           ·show Act.put _ (some 8) _ = _
            exact tP
           exact norm_ (by simp only [putAll, Act.put, List.setIfInBounds_toArray, List.set_cons_zero, List.set_cons_succ]) (hCont (gb658, gb659) _ ⟨hHeld, (bkA BK655.out), (bkA BK658.out), (bkA BK659.out), GW658.out, GE658.out, NB655_658.out, NB658_655.out, NB659_658.out, NB658_659.out, GW659.out, GE659.out, NB655_659.out, NB659_655.out, (bBl HB.out)⟩)
          ·skip
           refine box_step ?hg (N := 8) ?hd (cs := #[.int .i64 0, .int .i64 0]) (t := 84) ?hr ?_; (case hd => rfl); (case hg => rfl); (case hr => exact tG)
           intro gb659 hg w48 hbox hb
           have BK659 := Sd.mk (hbox); have GW659 := Sd.mk (bSz hg (bBl HB.out)); have GE659 := Sd.mk (bSz hg (bBl HB.out)); replace HB := Sd.mk (below_step (bBl HB.out) hb); have NB655_659 := Sd.mk (bNl hg (bkA BK655.out)); have NB659_655 := Sd.mk (bNg hg (bkA BK655.out)); replace BK655 := Sd.mk (blk_below (bkA BK655.out) hb); clear hb hbox hg
           refine hK.out _ _ ⟨(blk_cell BK655.out 0).trans rfl, (blk_cell BK655.out 1).trans rfl, ((HB.out.cell (World.block_lt_of_cell? w _ hw656_0)).trans hw656_0), ((HB.out.cell (World.block_lt_of_cell? w _ hw656_1)).trans hw656_1), ((HB.out.cell (World.block_lt_of_cell? w _ hw657_0)).trans hw657_0), ((HB.out.cell (World.block_lt_of_cell? w _ hw657_1)).trans hw657_1)⟩ (fun hHeld => ?_)
           clear hK K
           refine norm_ (a' := ?_) ?_ ?_
           rotate_left
           ·show Act.put _ (some 8) _ = _
            exact tP
           refine one_ (i := 11) (N := some 7) #[true, true, true, true, true, true, true, true, true, true, true, true, true, false, false] rfl rfl (one_of HT_.out (by kernel_rfl)) (by decide) (fun K hK => ?_)
           refine box_step ?hg (N := 7) ?hd (cs := #[.int .i64 0, .int .i64 0]) (t := 84) ?hr ?_; (case hd => rfl); (case hg => rfl); (case hr => exact tG)
           intro gb658 hg w49 hbox hb
           have BK658 := Sd.mk (hbox); have GW658 := Sd.mk (bSz hg (bBl HB.out)); have GE658 := Sd.mk (bSz hg (bBl HB.out)); replace HB := Sd.mk (below_step (bBl HB.out) hb); have NB655_658 := Sd.mk (bNl hg (bkA BK655.out)); have NB658_655 := Sd.mk (bNg hg (bkA BK655.out)); replace BK655 := Sd.mk (blk_below (bkA BK655.out) hb); have NB659_658 := Sd.mk (bNl hg (bkA BK659.out)); have NB658_659 := Sd.mk (bNg hg (bkA BK659.out)); replace BK659 := Sd.mk (blk_below (bkA BK659.out) hb); clear hb hbox hg
           refine hK.out _ _ ⟨(blk_cell BK655.out 0).trans rfl, (blk_cell BK655.out 1).trans rfl, ((HB.out.cell (World.block_lt_of_cell? w _ hw656_0)).trans hw656_0), ((HB.out.cell (World.block_lt_of_cell? w _ hw656_1)).trans hw656_1), ((HB.out.cell (World.block_lt_of_cell? w _ hw657_0)).trans hw657_0), ((HB.out.cell (World.block_lt_of_cell? w _ hw657_1)).trans hw657_1)⟩ (fun hHeld => ?_)
           clear hK K
           refine norm_ (a' := ?_) ?_ ?_
           rotate_left
           ·show Act.put _ (some 7) _ = _
            exact tP
           exact norm_ (by simp only [putAll, Act.put, List.setIfInBounds_toArray, List.set_cons_zero, List.set_cons_succ]) (hCont (gb658, gb659) _ ⟨hHeld, (bkA BK655.out), (bkA BK658.out), (bkA BK659.out), GW658.out, GE658.out, NB655_658.out, NB658_655.out, NB659_658.out, NB658_659.out, GW659.out, GE659.out, NB655_659.out, NB659_655.out, (bBl HB.out)⟩)
         rintro ⟨gb658, gb659⟩ w50 ⟨hS_, h0_, h1_, h2_, h3_, h4_, h5_, h6_, h7_, h8_, h9_, h10_, h11_, h12_, h13_⟩
         have n0_ : Sd (w50.heap[gb655]? = some (.cells #[.slice (some ad656) l0_0.length c0_0, .int .i64 a0_1] 71 (0, 0))) := ⟨h0_⟩
         have n1_ : Sd (w50.heap[gb658]? = some (.cells #[.int .i64 0, .int .i64 0] 84 (0, 0))) := ⟨h1_⟩
         have n2_ : Sd (w50.heap[gb659]? = some (.cells #[.int .i64 0, .int .i64 0] 84 (0, 0))) := ⟨h2_⟩
         have n3_ : Sd (w.heap.size ≤ gb658) := ⟨h3_⟩
         have n4_ : Sd (w.heap.size ≤ gb658) := ⟨h4_⟩
         have n5_ : Sd (gb655 ≠ gb658) := ⟨h5_⟩
         have n6_ : Sd (gb658 ≠ gb655) := ⟨h6_⟩
         have n7_ : Sd (gb659 ≠ gb658) := ⟨h7_⟩
         have n8_ : Sd (gb658 ≠ gb659) := ⟨h8_⟩
         have n9_ : Sd (w.heap.size ≤ gb659) := ⟨h9_⟩
         have n10_ : Sd (w.heap.size ≤ gb659) := ⟨h10_⟩
         have n11_ : Sd (gb655 ≠ gb659) := ⟨h11_⟩
         have n12_ : Sd (gb659 ≠ gb655) := ⟨h12_⟩
         have n13_ : Sd (Below w.heap.size w w50) := ⟨h13_⟩
         clear BK655; clear HB; clear h0_ h1_ h2_ h3_ h4_ h5_ h6_ h7_ h8_ h9_ h10_ h11_ h12_ h13_; have BK655 := n0_; have BK658 := n1_; have BK659 := n2_; have GW658 := n3_; have GE658 := n4_; have NB655_658 := n5_; have NB658_655 := n6_; have NB659_658 := n7_; have NB658_659 := n8_; have GW659 := n9_; have GE659 := n10_; have NB655_659 := n11_; have NB659_655 := n12_; have HB := n13_; clear n0_ n1_ n2_ n3_ n4_ n5_ n6_ n7_ n8_ n9_ n10_ n11_ n12_ n13_
         have hHeld : w50.cell? ⟨gb655, 0, none⟩ = some (.slice (some ad656) l0_0.length c0_0) ∧ w50.cell? ⟨gb655, 1, none⟩ = some (.int .i64 a0_1) ∧ w50.cell? (ad656.add (((ji5)).toNat * 2)) = some (.int .i64 ((rd_T84 l0_0 (ji5)).f0)) ∧ w50.cell? ⟨(ad656.add (((ji5)).toNat * 2)).block, (ad656.add (((ji5)).toNat * 2)).off + 1, none⟩ = some (.int .i64 ((rd_T84 l0_0 (ji5)).f1)) ∧ w50.cell? (ad656.add ((x6_1).toNat * 2)) = some (.int .i64 ((rd_T84 l0_0 x6_1).f0)) ∧ w50.cell? ⟨(ad656.add ((x6_1).toNat * 2)).block, (ad656.add ((x6_1).toNat * 2)).off + 1, none⟩ = some (.int .i64 ((rd_T84 l0_0 x6_1).f1)) := hS_
         refine norm_ (a' := ?_) ?_ ?_
         rotate_left
         ·simp only [putAll, Act.put, List.setIfInBounds_toArray, List.set_cons_zero, List.set_cons_succ]
          rfl
         refine one_ (i := 13) (N := none) #[true, true, true, true, true, true, true, true, true, true, true, true, true, true, false] rfl rfl (one_of HT_.out (by kernel_rfl)) (by decide) (fun K hK => ?_)
         have hs51 : w50.cell? ⟨gb658, 0, none⟩ = some (.int .i64 0) := (blk_cell BK658.out 0).trans rfl
         have hfs51 := blk_frozen BK658.out 0; have hns51_0 := NB655_658.out; have hns51_2 := NB659_658.out; have hms51_0 := NB658_655.out; have hms51_2 := NB658_659.out
         have hs52 : w50.cell? ⟨gb658, 1, none⟩ = some (.int .i64 0) := (blk_cell BK658.out 1).trans rfl
         have hfs52 := blk_frozen BK658.out 1; have hns52_0 := NB655_658.out; have hns52_2 := NB659_658.out; have hms52_0 := NB658_655.out; have hms52_2 := NB658_659.out
         refine skip_ (w1 := ?_) (by rfl) rfl ?_ ?_
         rotate_left
         ·go_simp
          rfl
         refine hK.out _ _ ⟨((cell_far (p := ⟨gb658, _, none⟩) NB655_658.out _).trans (((cell_far (p := ⟨gb658, _, none⟩) NB655_658.out _).trans (hHeld.1)))), ((cell_far (p := ⟨gb658, _, none⟩) NB655_658.out _).trans (((cell_far (p := ⟨gb658, _, none⟩) NB655_658.out _).trans (hHeld.2.1)))), ((cell_far (p := ⟨gb658, _, none⟩) (by first | exact Nat.ne_of_lt (Nat.lt_of_lt_of_le (by have := World.block_lt_of_cell? _ _ hw656_0; first | rwa [add_block] at this | exact this) GW658.out) | (rw [add_block]; exact Nat.ne_of_lt (Nat.lt_of_lt_of_le (by have := World.block_lt_of_cell? _ _ hw656_0; first | rwa [add_block] at this | exact this) GW658.out)) | (show (Addr.add _ _).block ≠ _; rw [add_block]; exact Nat.ne_of_lt (Nat.lt_of_lt_of_le (by have := World.block_lt_of_cell? _ _ hw656_0; first | rwa [add_block] at this | exact this) GW658.out)) | (dsimp only; exact Nat.ne_of_lt (Nat.lt_of_lt_of_le (by have := World.block_lt_of_cell? _ _ hw656_0; first | rwa [add_block] at this | exact this) GW658.out))) _).trans (((cell_far (p := ⟨gb658, _, none⟩) (by first | exact Nat.ne_of_lt (Nat.lt_of_lt_of_le (by have := World.block_lt_of_cell? _ _ hw656_0; first | rwa [add_block] at this | exact this) GW658.out) | (rw [add_block]; exact Nat.ne_of_lt (Nat.lt_of_lt_of_le (by have := World.block_lt_of_cell? _ _ hw656_0; first | rwa [add_block] at this | exact this) GW658.out)) | (show (Addr.add _ _).block ≠ _; rw [add_block]; exact Nat.ne_of_lt (Nat.lt_of_lt_of_le (by have := World.block_lt_of_cell? _ _ hw656_0; first | rwa [add_block] at this | exact this) GW658.out)) | (dsimp only; exact Nat.ne_of_lt (Nat.lt_of_lt_of_le (by have := World.block_lt_of_cell? _ _ hw656_0; first | rwa [add_block] at this | exact this) GW658.out))) _).trans (hHeld.2.2.1)))), ((cell_far (p := ⟨gb658, _, none⟩) (by first | exact Nat.ne_of_lt (Nat.lt_of_lt_of_le (by have := World.block_lt_of_cell? _ _ hw656_1; first | rwa [add_block] at this | exact this) GW658.out) | (rw [add_block]; exact Nat.ne_of_lt (Nat.lt_of_lt_of_le (by have := World.block_lt_of_cell? _ _ hw656_1; first | rwa [add_block] at this | exact this) GW658.out)) | (show (Addr.add _ _).block ≠ _; rw [add_block]; exact Nat.ne_of_lt (Nat.lt_of_lt_of_le (by have := World.block_lt_of_cell? _ _ hw656_1; first | rwa [add_block] at this | exact this) GW658.out)) | (dsimp only; exact Nat.ne_of_lt (Nat.lt_of_lt_of_le (by have := World.block_lt_of_cell? _ _ hw656_1; first | rwa [add_block] at this | exact this) GW658.out))) _).trans (((cell_far (p := ⟨gb658, _, none⟩) (by first | exact Nat.ne_of_lt (Nat.lt_of_lt_of_le (by have := World.block_lt_of_cell? _ _ hw656_1; first | rwa [add_block] at this | exact this) GW658.out) | (rw [add_block]; exact Nat.ne_of_lt (Nat.lt_of_lt_of_le (by have := World.block_lt_of_cell? _ _ hw656_1; first | rwa [add_block] at this | exact this) GW658.out)) | (show (Addr.add _ _).block ≠ _; rw [add_block]; exact Nat.ne_of_lt (Nat.lt_of_lt_of_le (by have := World.block_lt_of_cell? _ _ hw656_1; first | rwa [add_block] at this | exact this) GW658.out)) | (dsimp only; exact Nat.ne_of_lt (Nat.lt_of_lt_of_le (by have := World.block_lt_of_cell? _ _ hw656_1; first | rwa [add_block] at this | exact this) GW658.out))) _).trans (hHeld.2.2.2.1)))), ((cell_far (p := ⟨gb658, _, none⟩) (by first | exact Nat.ne_of_lt (Nat.lt_of_lt_of_le (by have := World.block_lt_of_cell? _ _ hw657_0; first | rwa [add_block] at this | exact this) GW658.out) | (rw [add_block]; exact Nat.ne_of_lt (Nat.lt_of_lt_of_le (by have := World.block_lt_of_cell? _ _ hw657_0; first | rwa [add_block] at this | exact this) GW658.out)) | (show (Addr.add _ _).block ≠ _; rw [add_block]; exact Nat.ne_of_lt (Nat.lt_of_lt_of_le (by have := World.block_lt_of_cell? _ _ hw657_0; first | rwa [add_block] at this | exact this) GW658.out)) | (dsimp only; exact Nat.ne_of_lt (Nat.lt_of_lt_of_le (by have := World.block_lt_of_cell? _ _ hw657_0; first | rwa [add_block] at this | exact this) GW658.out))) _).trans (((cell_far (p := ⟨gb658, _, none⟩) (by first | exact Nat.ne_of_lt (Nat.lt_of_lt_of_le (by have := World.block_lt_of_cell? _ _ hw657_0; first | rwa [add_block] at this | exact this) GW658.out) | (rw [add_block]; exact Nat.ne_of_lt (Nat.lt_of_lt_of_le (by have := World.block_lt_of_cell? _ _ hw657_0; first | rwa [add_block] at this | exact this) GW658.out)) | (show (Addr.add _ _).block ≠ _; rw [add_block]; exact Nat.ne_of_lt (Nat.lt_of_lt_of_le (by have := World.block_lt_of_cell? _ _ hw657_0; first | rwa [add_block] at this | exact this) GW658.out)) | (dsimp only; exact Nat.ne_of_lt (Nat.lt_of_lt_of_le (by have := World.block_lt_of_cell? _ _ hw657_0; first | rwa [add_block] at this | exact this) GW658.out))) _).trans (hHeld.2.2.2.2.1)))), ((cell_far (p := ⟨gb658, _, none⟩) (by first | exact Nat.ne_of_lt (Nat.lt_of_lt_of_le (by have := World.block_lt_of_cell? _ _ hw657_1; first | rwa [add_block] at this | exact this) GW658.out) | (rw [add_block]; exact Nat.ne_of_lt (Nat.lt_of_lt_of_le (by have := World.block_lt_of_cell? _ _ hw657_1; first | rwa [add_block] at this | exact this) GW658.out)) | (show (Addr.add _ _).block ≠ _; rw [add_block]; exact Nat.ne_of_lt (Nat.lt_of_lt_of_le (by have := World.block_lt_of_cell? _ _ hw657_1; first | rwa [add_block] at this | exact this) GW658.out)) | (dsimp only; exact Nat.ne_of_lt (Nat.lt_of_lt_of_le (by have := World.block_lt_of_cell? _ _ hw657_1; first | rwa [add_block] at this | exact this) GW658.out))) _).trans (((cell_far (p := ⟨gb658, _, none⟩) (by first | exact Nat.ne_of_lt (Nat.lt_of_lt_of_le (by have := World.block_lt_of_cell? _ _ hw657_1; first | rwa [add_block] at this | exact this) GW658.out) | (rw [add_block]; exact Nat.ne_of_lt (Nat.lt_of_lt_of_le (by have := World.block_lt_of_cell? _ _ hw657_1; first | rwa [add_block] at this | exact this) GW658.out)) | (show (Addr.add _ _).block ≠ _; rw [add_block]; exact Nat.ne_of_lt (Nat.lt_of_lt_of_le (by have := World.block_lt_of_cell? _ _ hw657_1; first | rwa [add_block] at this | exact this) GW658.out)) | (dsimp only; exact Nat.ne_of_lt (Nat.lt_of_lt_of_le (by have := World.block_lt_of_cell? _ _ hw657_1; first | rwa [add_block] at this | exact this) GW658.out))) _).trans (hHeld.2.2.2.2.2))))⟩ (fun hHeld => ?_)
         clear hK K
         refine one_ (i := 14) (N := none) #[true, true, true, true, true, true, true, true, true, true, true, true, true, true, true] rfl rfl (one_of HT_.out (by kernel_rfl)) (by decide) (fun K hK => ?_)
         have hs53 : w50.cell? ⟨gb659, 0, none⟩ = some (.int .i64 0) := (blk_cell BK659.out 0).trans rfl
         have hfs53 := blk_frozen BK659.out 0; have hns53_0 := NB655_659.out; have hns53_1 := NB658_659.out; have hms53_0 := NB659_655.out; have hms53_1 := NB659_658.out
         have hs54 : w50.cell? ⟨gb659, 1, none⟩ = some (.int .i64 0) := (blk_cell BK659.out 1).trans rfl
         have hfs54 := blk_frozen BK659.out 1; have hns54_0 := NB655_659.out; have hns54_1 := NB658_659.out; have hms54_0 := NB659_655.out; have hms54_1 := NB659_658.out
         refine skip_ (w1 := ?_) (by rfl) rfl ?_ ?_
         rotate_left
         ·go_simp
          rfl
         refine hK.out _ _ ⟨((cell_far (p := ⟨gb659, _, none⟩) NB655_659.out _).trans (((cell_far (p := ⟨gb659, _, none⟩) NB655_659.out _).trans (hHeld.1)))), ((cell_far (p := ⟨gb659, _, none⟩) NB655_659.out _).trans (((cell_far (p := ⟨gb659, _, none⟩) NB655_659.out _).trans (hHeld.2.1)))), ((cell_far (p := ⟨gb659, _, none⟩) (by first | exact Nat.ne_of_lt (Nat.lt_of_lt_of_le (by have := World.block_lt_of_cell? _ _ hw656_0; first | rwa [add_block] at this | exact this) GW659.out) | (rw [add_block]; exact Nat.ne_of_lt (Nat.lt_of_lt_of_le (by have := World.block_lt_of_cell? _ _ hw656_0; first | rwa [add_block] at this | exact this) GW659.out)) | (show (Addr.add _ _).block ≠ _; rw [add_block]; exact Nat.ne_of_lt (Nat.lt_of_lt_of_le (by have := World.block_lt_of_cell? _ _ hw656_0; first | rwa [add_block] at this | exact this) GW659.out)) | (dsimp only; exact Nat.ne_of_lt (Nat.lt_of_lt_of_le (by have := World.block_lt_of_cell? _ _ hw656_0; first | rwa [add_block] at this | exact this) GW659.out))) _).trans (((cell_far (p := ⟨gb659, _, none⟩) (by first | exact Nat.ne_of_lt (Nat.lt_of_lt_of_le (by have := World.block_lt_of_cell? _ _ hw656_0; first | rwa [add_block] at this | exact this) GW659.out) | (rw [add_block]; exact Nat.ne_of_lt (Nat.lt_of_lt_of_le (by have := World.block_lt_of_cell? _ _ hw656_0; first | rwa [add_block] at this | exact this) GW659.out)) | (show (Addr.add _ _).block ≠ _; rw [add_block]; exact Nat.ne_of_lt (Nat.lt_of_lt_of_le (by have := World.block_lt_of_cell? _ _ hw656_0; first | rwa [add_block] at this | exact this) GW659.out)) | (dsimp only; exact Nat.ne_of_lt (Nat.lt_of_lt_of_le (by have := World.block_lt_of_cell? _ _ hw656_0; first | rwa [add_block] at this | exact this) GW659.out))) _).trans (hHeld.2.2.1)))), ((cell_far (p := ⟨gb659, _, none⟩) (by first | exact Nat.ne_of_lt (Nat.lt_of_lt_of_le (by have := World.block_lt_of_cell? _ _ hw656_1; first | rwa [add_block] at this | exact this) GW659.out) | (rw [add_block]; exact Nat.ne_of_lt (Nat.lt_of_lt_of_le (by have := World.block_lt_of_cell? _ _ hw656_1; first | rwa [add_block] at this | exact this) GW659.out)) | (show (Addr.add _ _).block ≠ _; rw [add_block]; exact Nat.ne_of_lt (Nat.lt_of_lt_of_le (by have := World.block_lt_of_cell? _ _ hw656_1; first | rwa [add_block] at this | exact this) GW659.out)) | (dsimp only; exact Nat.ne_of_lt (Nat.lt_of_lt_of_le (by have := World.block_lt_of_cell? _ _ hw656_1; first | rwa [add_block] at this | exact this) GW659.out))) _).trans (((cell_far (p := ⟨gb659, _, none⟩) (by first | exact Nat.ne_of_lt (Nat.lt_of_lt_of_le (by have := World.block_lt_of_cell? _ _ hw656_1; first | rwa [add_block] at this | exact this) GW659.out) | (rw [add_block]; exact Nat.ne_of_lt (Nat.lt_of_lt_of_le (by have := World.block_lt_of_cell? _ _ hw656_1; first | rwa [add_block] at this | exact this) GW659.out)) | (show (Addr.add _ _).block ≠ _; rw [add_block]; exact Nat.ne_of_lt (Nat.lt_of_lt_of_le (by have := World.block_lt_of_cell? _ _ hw656_1; first | rwa [add_block] at this | exact this) GW659.out)) | (dsimp only; exact Nat.ne_of_lt (Nat.lt_of_lt_of_le (by have := World.block_lt_of_cell? _ _ hw656_1; first | rwa [add_block] at this | exact this) GW659.out))) _).trans (hHeld.2.2.2.1)))), ((cell_far (p := ⟨gb659, _, none⟩) (by first | exact Nat.ne_of_lt (Nat.lt_of_lt_of_le (by have := World.block_lt_of_cell? _ _ hw657_0; first | rwa [add_block] at this | exact this) GW659.out) | (rw [add_block]; exact Nat.ne_of_lt (Nat.lt_of_lt_of_le (by have := World.block_lt_of_cell? _ _ hw657_0; first | rwa [add_block] at this | exact this) GW659.out)) | (show (Addr.add _ _).block ≠ _; rw [add_block]; exact Nat.ne_of_lt (Nat.lt_of_lt_of_le (by have := World.block_lt_of_cell? _ _ hw657_0; first | rwa [add_block] at this | exact this) GW659.out)) | (dsimp only; exact Nat.ne_of_lt (Nat.lt_of_lt_of_le (by have := World.block_lt_of_cell? _ _ hw657_0; first | rwa [add_block] at this | exact this) GW659.out))) _).trans (((cell_far (p := ⟨gb659, _, none⟩) (by first | exact Nat.ne_of_lt (Nat.lt_of_lt_of_le (by have := World.block_lt_of_cell? _ _ hw657_0; first | rwa [add_block] at this | exact this) GW659.out) | (rw [add_block]; exact Nat.ne_of_lt (Nat.lt_of_lt_of_le (by have := World.block_lt_of_cell? _ _ hw657_0; first | rwa [add_block] at this | exact this) GW659.out)) | (show (Addr.add _ _).block ≠ _; rw [add_block]; exact Nat.ne_of_lt (Nat.lt_of_lt_of_le (by have := World.block_lt_of_cell? _ _ hw657_0; first | rwa [add_block] at this | exact this) GW659.out)) | (dsimp only; exact Nat.ne_of_lt (Nat.lt_of_lt_of_le (by have := World.block_lt_of_cell? _ _ hw657_0; first | rwa [add_block] at this | exact this) GW659.out))) _).trans (hHeld.2.2.2.2.1)))), ((cell_far (p := ⟨gb659, _, none⟩) (by first | exact Nat.ne_of_lt (Nat.lt_of_lt_of_le (by have := World.block_lt_of_cell? _ _ hw657_1; first | rwa [add_block] at this | exact this) GW659.out) | (rw [add_block]; exact Nat.ne_of_lt (Nat.lt_of_lt_of_le (by have := World.block_lt_of_cell? _ _ hw657_1; first | rwa [add_block] at this | exact this) GW659.out)) | (show (Addr.add _ _).block ≠ _; rw [add_block]; exact Nat.ne_of_lt (Nat.lt_of_lt_of_le (by have := World.block_lt_of_cell? _ _ hw657_1; first | rwa [add_block] at this | exact this) GW659.out)) | (dsimp only; exact Nat.ne_of_lt (Nat.lt_of_lt_of_le (by have := World.block_lt_of_cell? _ _ hw657_1; first | rwa [add_block] at this | exact this) GW659.out))) _).trans (((cell_far (p := ⟨gb659, _, none⟩) (by first | exact Nat.ne_of_lt (Nat.lt_of_lt_of_le (by have := World.block_lt_of_cell? _ _ hw657_1; first | rwa [add_block] at this | exact this) GW659.out) | (rw [add_block]; exact Nat.ne_of_lt (Nat.lt_of_lt_of_le (by have := World.block_lt_of_cell? _ _ hw657_1; first | rwa [add_block] at this | exact this) GW659.out)) | (show (Addr.add _ _).block ≠ _; rw [add_block]; exact Nat.ne_of_lt (Nat.lt_of_lt_of_le (by have := World.block_lt_of_cell? _ _ hw657_1; first | rwa [add_block] at this | exact this) GW659.out)) | (dsimp only; exact Nat.ne_of_lt (Nat.lt_of_lt_of_le (by have := World.block_lt_of_cell? _ _ hw657_1; first | rwa [add_block] at this | exact this) GW659.out))) _).trans (hHeld.2.2.2.2.2))))⟩ (fun hHeld => ?_)
         clear hK K
         refine done_ (done_of HT_.out (by kernel_rfl)) ?_
         try go_wp2
         have n0_ : Sd (((((w50.setCell ⟨gb658, 0, none⟩ (.int .i64 ((rd_T84 l0_0 (ji5)).f0))).setCell ⟨gb658, 1, none⟩ (.int .i64 ((rd_T84 l0_0 (ji5)).f1))).setCell ⟨gb659, 0, none⟩ (.int .i64 ((rd_T84 l0_0 x6_1).f0))).setCell ⟨gb659, 1, none⟩ (.int .i64 ((rd_T84 l0_0 x6_1).f1))).heap[gb655]? = some (.cells #[.slice (some ad656) l0_0.length c0_0, .int .i64 a0_1] 71 (0, 0))) := ⟨by (with_reducible repeat (first | refine blk_drewN ?_ _ | refine blk_drew ?_ | refine blk_alloc ?_ _)); refine blk_far ?_ NB655_659.out _; (with_reducible repeat (first | refine blk_drewN ?_ _ | refine blk_drew ?_ | refine blk_alloc ?_ _)); refine blk_far ?_ NB655_659.out _; (with_reducible repeat (first | refine blk_drewN ?_ _ | refine blk_drew ?_ | refine blk_alloc ?_ _)); refine blk_far ?_ NB655_658.out _; (with_reducible repeat (first | refine blk_drewN ?_ _ | refine blk_drew ?_ | refine blk_alloc ?_ _)); refine blk_far ?_ NB655_658.out _; (with_reducible repeat (first | refine blk_drewN ?_ _ | refine blk_drew ?_ | refine blk_alloc ?_ _)); exact BK655.out⟩
         have n1_ : Sd (((((w50.setCell ⟨gb658, 0, none⟩ (.int .i64 ((rd_T84 l0_0 (ji5)).f0))).setCell ⟨gb658, 1, none⟩ (.int .i64 ((rd_T84 l0_0 (ji5)).f1))).setCell ⟨gb659, 0, none⟩ (.int .i64 ((rd_T84 l0_0 x6_1).f0))).setCell ⟨gb659, 1, none⟩ (.int .i64 ((rd_T84 l0_0 x6_1).f1))).heap[gb658]? = some (.cells #[.int .i64 ((rd_T84 l0_0 (ji5)).f0), .int .i64 ((rd_T84 l0_0 (ji5)).f1)] 84 (0, 0))) := ⟨by (with_reducible repeat (first | refine blk_drewN ?_ _ | refine blk_drew ?_ | refine blk_alloc ?_ _)); refine blk_far ?_ NB658_659.out _; (with_reducible repeat (first | refine blk_drewN ?_ _ | refine blk_drew ?_ | refine blk_alloc ?_ _)); refine blk_far ?_ NB658_659.out _; (with_reducible repeat (first | refine blk_drewN ?_ _ | refine blk_drew ?_ | refine blk_alloc ?_ _)); refine blk_put (cs := #[.int .i64 ((rd_T84 l0_0 (ji5)).f0), .int .i64 0]) ?_ 1 _ rfl; (with_reducible repeat (first | refine blk_drewN ?_ _ | refine blk_drew ?_ | refine blk_alloc ?_ _)); refine blk_put (cs := #[.int .i64 0, .int .i64 0]) ?_ 0 _ rfl; (with_reducible repeat (first | refine blk_drewN ?_ _ | refine blk_drew ?_ | refine blk_alloc ?_ _)); exact BK658.out⟩
         have n2_ : Sd (((((w50.setCell ⟨gb658, 0, none⟩ (.int .i64 ((rd_T84 l0_0 (ji5)).f0))).setCell ⟨gb658, 1, none⟩ (.int .i64 ((rd_T84 l0_0 (ji5)).f1))).setCell ⟨gb659, 0, none⟩ (.int .i64 ((rd_T84 l0_0 x6_1).f0))).setCell ⟨gb659, 1, none⟩ (.int .i64 ((rd_T84 l0_0 x6_1).f1))).heap[gb659]? = some (.cells #[.int .i64 ((rd_T84 l0_0 x6_1).f0), .int .i64 ((rd_T84 l0_0 x6_1).f1)] 84 (0, 0))) := ⟨by (with_reducible repeat (first | refine blk_drewN ?_ _ | refine blk_drew ?_ | refine blk_alloc ?_ _)); refine blk_put (cs := #[.int .i64 ((rd_T84 l0_0 x6_1).f0), .int .i64 0]) ?_ 1 _ rfl; (with_reducible repeat (first | refine blk_drewN ?_ _ | refine blk_drew ?_ | refine blk_alloc ?_ _)); refine blk_put (cs := #[.int .i64 0, .int .i64 0]) ?_ 0 _ rfl; (with_reducible repeat (first | refine blk_drewN ?_ _ | refine blk_drew ?_ | refine blk_alloc ?_ _)); refine blk_far ?_ NB659_658.out _; (with_reducible repeat (first | refine blk_drewN ?_ _ | refine blk_drew ?_ | refine blk_alloc ?_ _)); refine blk_far ?_ NB659_658.out _; (with_reducible repeat (first | refine blk_drewN ?_ _ | refine blk_drew ?_ | refine blk_alloc ?_ _)); exact BK659.out⟩
         have n3_ : Sd (Below w.heap.size w ((((w50.setCell ⟨gb658, 0, none⟩ (.int .i64 ((rd_T84 l0_0 (ji5)).f0))).setCell ⟨gb658, 1, none⟩ (.int .i64 ((rd_T84 l0_0 (ji5)).f1))).setCell ⟨gb659, 0, none⟩ (.int .i64 ((rd_T84 l0_0 x6_1).f0))).setCell ⟨gb659, 1, none⟩ (.int .i64 ((rd_T84 l0_0 x6_1).f1)))) := ⟨bBl HB.out⟩
         (try clear BK655)
         (try clear BK658)
         (try clear BK659)
         (try clear HB)
         generalize ((((w50.setCell ⟨gb658, 0, none⟩ (.int .i64 ((rd_T84 l0_0 (ji5)).f0))).setCell ⟨gb658, 1, none⟩ (.int .i64 ((rd_T84 l0_0 (ji5)).f1))).setCell ⟨gb659, 0, none⟩ (.int .i64 ((rd_T84 l0_0 x6_1).f0))).setCell ⟨gb659, 1, none⟩ (.int .i64 ((rd_T84 l0_0 x6_1).f1))) = w55 at n0_ n1_ n2_ n3_ ⊢
         have BK655 := n0_; have BK658 := n1_; have BK659 := n2_; have HB := n3_; clear n0_ n1_ n2_ n3_; replace BK655 := Sd.mk (blk_drew BK655.out); replace BK658 := Sd.mk (blk_drew BK658.out); replace BK659 := Sd.mk (blk_drew BK659.out); replace HB := Sd.mk (below_drew1 HB.out)
         refine start_ (n := 12) (S := fun w' => w'.cell? ⟨gb658, 0, none⟩ = some (.int .i64 ((rd_T84 l0_0 (ji5)).f0)) ∧ w'.cell? ⟨gb658, 1, none⟩ = some (.int .i64 ((rd_T84 l0_0 (ji5)).f1)) ∧ w'.cell? ⟨gb659, 0, none⟩ = some (.int .i64 ((rd_T84 l0_0 x6_1).f0)) ∧ w'.cell? ⟨gb659, 1, none⟩ = some (.int .i64 ((rd_T84 l0_0 x6_1).f1))) (ds := []) #[false, false, false, false, false, false, false, false, false, false, false, false] (by kernel_rfl) rfl rfl ⟨(blk_cell BK658.out 0).trans rfl, (blk_cell BK658.out 1).trans rfl, (blk_cell BK659.out 0).trans rfl, (blk_cell BK659.out 1).trans rfl⟩ (fun hHeld => ?_); refine with_tabW strength_held.tab6 strength_held.bits6 (fun HT_ HW_ => ?_)
         generalize w55.drew = w56 at BK655 BK658 BK659 HB hHeld ⊢
         refine pure_ (i := 0) (N := some 30) (v := ?_) (a' := ?_) #[true, false, false, false, false, false, false, false, false, false, false, false] rfl rfl (any_of HT_.out (by kernel_rfl)) (fun _ _ _ h => h) (Or.inl ⟨by rfl, ?_⟩) ?_ ?_
         rotate_left
         ·exact tW
         rotate_left
         ·exact tP
         refine pure_ (i := 2) (N := some 32) (v := ?_) (a' := ?_) #[true, false, true, false, false, false, false, false, false, false, false, false] rfl rfl (any_of HT_.out (by kernel_rfl)) (fun _ _ _ h => h) (Or.inl ⟨by rfl, ?_⟩) ?_ ?_
         rotate_left
         ·exact tW
         rotate_left
         ·exact tP
         refine pure_ (i := 5) (N := some 35) (v := ?_) (a' := ?_) #[true, false, true, false, false, true, false, false, false, false, false, false] rfl rfl (any_of HT_.out (by kernel_rfl)) (fun _ _ _ h => h) (Or.inl ⟨by rfl, ?_⟩) ?_ ?_
         rotate_left
         ·exact tW
         rotate_left
         ·exact tP
         refine pure_ (i := 7) (N := some 37) (v := ?_) (a' := ?_) #[true, false, true, false, false, true, false, true, false, false, false, false] rfl rfl (any_of HT_.out (by kernel_rfl)) (fun _ _ _ h => h) (Or.inl ⟨by rfl, ?_⟩) ?_ ?_
         rotate_left
         ·exact tW
         rotate_left
         ·exact tP
         refine take_ (i := 1) (N := some 31) (v := ?_) (a' := ?_) #[true, true, true, false, false, true, false, true, false, false, false, false] rfl rfl (take_ofW HT_.out HW_.out (by kernel_rfl)) (fun _ _ _ h => h) (Or.inl ⟨by rfl, ?_⟩) hHeld ?_ ?_
         rotate_left
         ·rintro w' ⟨s0, s1, s2, s3⟩
          go_simp
          with_reducible rfl
         rotate_left
         ·exact tP
         refine take_ (i := 3) (N := some 33) (v := ?_) (a' := ?_) #[true, true, true, true, false, true, false, true, false, false, false, false] rfl rfl (take_ofW HT_.out HW_.out (by kernel_rfl)) (fun _ _ _ h => h) (Or.inl ⟨by rfl, ?_⟩) hHeld ?_ ?_
         rotate_left
         ·rintro w' ⟨s0, s1, s2, s3⟩
          go_simp
          with_reducible rfl
         rotate_left
         ·exact tP
         refine pure_ (i := 4) (N := some 34) (v := ?_) (a' := ?_) #[true, true, true, true, true, true, false, true, false, false, false, false] rfl rfl (any_of HT_.out (by kernel_rfl)) (fun _ _ _ h => h) (Or.inl ⟨by rfl, ?_⟩) ?_ ?_
         rotate_left
         ·exact tW
         rotate_left
         ·exact tP
         refine pure_ (i := 10) (N := some 9) (v := ?_) (a' := ?_) #[true, true, true, true, true, true, false, true, false, false, true, false] rfl rfl (any_of HT_.out (by kernel_rfl)) (fun _ _ _ h => h) (Or.inl ⟨by rfl, ?_⟩) ?_ ?_
         rotate_left
         ·exact tW
         rotate_left
         ·exact tP
         refine take_ (i := 6) (N := some 36) (v := ?_) (a' := ?_) #[true, true, true, true, true, true, true, true, false, false, true, false] rfl rfl (take_ofW HT_.out HW_.out (by kernel_rfl)) (fun _ _ _ h => h) (Or.inl ⟨by rfl, ?_⟩) hHeld ?_ ?_
         rotate_left
         ·rintro w' ⟨s0, s1, s2, s3⟩
          go_simp
          with_reducible rfl
         rotate_left
         ·exact tP
         refine take_ (i := 8) (N := some 38) (v := ?_) (a' := ?_) #[true, true, true, true, true, true, true, true, true, false, true, false] rfl rfl (take_ofW HT_.out HW_.out (by kernel_rfl)) (fun _ _ _ h => h) (Or.inl ⟨by rfl, ?_⟩) hHeld ?_ ?_
         rotate_left
         ·rintro w' ⟨s0, s1, s2, s3⟩
          go_simp
          with_reducible rfl
         rotate_left
         ·exact tP
         refine pure_ (i := 9) (N := some 39) (v := ?_) (a' := ?_) #[true, true, true, true, true, true, true, true, true, true, true, false] rfl rfl (any_of HT_.out (by kernel_rfl)) (fun _ _ _ h => h) (Or.inl ⟨by rfl, ?_⟩) ?_ ?_
         rotate_left
         ·exact tW
         rotate_left
         ·exact tP
         refine pure_ (i := 11) (N := some 10) (v := ?_) (a' := ?_) #[true, true, true, true, true, true, true, true, true, true, true, true] rfl rfl (any_of HT_.out (by kernel_rfl)) (fun _ _ _ h => h) (Or.inl ⟨by rfl, ?_⟩) ?_ ?_
         rotate_left
         ·exact tW
         rotate_left
         ·exact tP
         refine done_ (done_of HT_.out (by kernel_rfl)) ?_
         have hnb57 := NB659_655.out; have hnc57 := NB655_659.out; have hnb58 := NB659_658.out; have hnc58 := NB658_659.out; obtain ⟨u59_0, u59_1, o59_0, o59_1⟩ := bc2 (w := w56) BK659.out; have hnb60 := NB658_655.out; have hnc60 := NB655_658.out; obtain ⟨u61_0, u61_1, o61_0, o61_1⟩ := bc2 (w := w56) BK658.out
         try go_wp2
         go_roundg k1
         case measure => have := HK1.out; omega
         case rel => exact ⟨(x5_1), (wrap64 (x6_1 + 1)), tS, tS, H', ⟨by have := HK1.out; omega⟩, ⟨bkA BK655.out⟩, ⟨bBl HB.out⟩⟩
      ·rw [if_neg c8] at H
       exact absurd H (by simp)
     ·rw [if_neg c7] at H
      exact absurd H (by simp)
    ·rw [if_neg c6] at H
     exact absurd H (by simp)
   ·rw [if_neg c4] at H
    have c4b0 : decide (x6_1 < (l0_0.length : Int)) = false := decide_eq_false c4
    clear c4; obtain rfl := Option.some.inj H; obtain ⟨u62_0, u62_1, o62_0, o62_1⟩ := bc2 (w := wr) BK655.out
    go_wp2
    go_ret
    exact ⟨tE, bBl HB.out⟩
end Go.Proofs.Ytkjkokgbhepmoaa.PB

namespace Go.Proofs.Ytkjkokgbhepmoaa.PB
open Go.RowKit Go.Proofs.YtkjkokgbhepmoaaW.PrintWords Go.Proofs.YtkjkokgbhepmoaaW.PrintLast Go.Proofs.YtkjkokgbhepmoaaW.PrintMore
attribute [local go_sem] max2_int min2_int max_two min_two max_three min_three max_four min_four
def strength_quotient_above.f (a0_0 : Int) (a0_1 : Int) (a1_0 : Int) (a1_1 : Int) : Option (Bool) := some (decide ((wrap64 (a0_0 * a1_1)) > (wrap64 (a1_0 * a0_1))))
set_option maxHeartbeats 8000000 in
set_option maxRecDepth 100000 in
theorem strength_quotient_above.calls (a0_0 : Int) (a0_1 : Int) (a1_0 : Int) (a1_1 : Int) (r : Bool) (w : World) (h : strength_quotient_above.f a0_0 a0_1 a1_0 a1_1 = some r) :
  Calls Try.prog 146 #[.agg #[.int .i64 a0_0, .int .i64 a0_1], .agg #[.int .i64 a1_0, .int .i64 a1_1]] w fun e w' => e = .returned (.bool r) ∧ Below w.heap.size w w' := by
 have hu141 := Try.underlying141; have HB := Sd.mk (Below.refl w.heap.size w)
 have H : (some (decide ((wrap64 (a0_0 * a1_1)) > (wrap64 (a1_0 * a0_1))))) = some r := h
 clear h; obtain rfl := Option.some.inj H
 go_enter Try.func146, Try.ntmps146
 go_wp2_with (first | ((with_reducible refine gate_dst (N := 2) rfl ?_); refine box_event ?hg (N := 2) ?hd (cs := #[.int .i64 a0_0, .int .i64 a0_1]) (t := 141) ?hr ?_; (case hd => rfl); (case hg => rfl); (case hr => exact tG); intro gb660 hg w3 hbox hb; have BK660 := Sd.mk (hbox); have GW660 := Sd.mk (bSz hg (bBl HB.out)); have GE660 := Sd.mk (bSz hg (bBl HB.out)); replace HB := Sd.mk (below_step (bBl HB.out) hb); clear hb hbox hg) | ((with_reducible refine gate_dst (N := 3) rfl ?_); refine box_event ?hg (N := 3) ?hd (cs := #[.int .i64 a1_0, .int .i64 a1_1]) (t := 141) ?hr ?_; (case hd => rfl); (case hg => rfl); (case hr => exact tG); intro gb661 hg w4 hbox hb; have BK661 := Sd.mk (hbox); have GW661 := Sd.mk (bSz hg (bBl HB.out)); have GE661 := Sd.mk (bSz hg (bBl HB.out)); replace HB := Sd.mk (below_step (bBl HB.out) hb); have NB660_661 := Sd.mk (bNl hg (bkA BK660.out)); have NB661_660 := Sd.mk (bNg hg (bkA BK660.out)); replace BK660 := Sd.mk (blk_below (bkA BK660.out) hb); clear hb hbox hg; have hnb5 := NB660_661.out; have hnc5 := NB661_660.out; obtain ⟨u6_0, u6_1, o6_0, o6_1⟩ := bc2 (w := w4) BK660.out; obtain ⟨u7_0, u7_1, o7_0, o7_1⟩ := bc2 (w := w4) BK661.out))
 go_ret
 exact ⟨tE, bBl HB.out⟩
end Go.Proofs.Ytkjkokgbhepmoaa.PB

namespace Go.Proofs.Ytkjkokgbhepmoaa.PB
open Go.RowKit Go.Proofs.YtkjkokgbhepmoaaW.PrintWords Go.Proofs.YtkjkokgbhepmoaaW.PrintLast Go.Proofs.YtkjkokgbhepmoaaW.PrintMore
attribute [local go_sem] max2_int min2_int max_two min_two max_three min_three max_four min_four
mutual
def strength_steepest.l0 : Nat → Int → List (S84) → Int → Int → Int → Int → Int → Option (Int × Int)
 | 0, _, _, _, _, _, _, _ => none
 | k + 1, x6, x663q0, x663q1, x664q0, x664q1, x666q0, x666q1 => if x6 < (x663q0.length : Int) then (if 0 ≤ (wrap64 (x6 - 1)) then (if (wrap64 (x6 - 1)) < (x663q0.length : Int) then (if 0 ≤ x6 then (if ((rd_T84 x663q0 (wrap64 (x6 - 1))).f1) ≤ ((rd_T84 x663q0 x6).f1) then (strength_steepest.j1 k x6 true x663q0 x663q1 x664q0 x664q1 x666q0 x666q1 ((rd_T84 x663q0 (wrap64 (x6 - 1))).f0) ((rd_T84 x663q0 (wrap64 (x6 - 1))).f1) ((rd_T84 x663q0 x6).f0) ((rd_T84 x663q0 x6).f1)) else (if ((rd_T84 x663q0 x6).f1) > x664q1 then (strength_steepest.j1 k x6 true x663q0 x663q1 x664q0 x664q1 x666q0 x666q1 ((rd_T84 x663q0 (wrap64 (x6 - 1))).f0) ((rd_T84 x663q0 (wrap64 (x6 - 1))).f1) ((rd_T84 x663q0 x6).f0) ((rd_T84 x663q0 x6).f1)) else (strength_steepest.j1 k x6 (decide (((rd_T84 x663q0 (wrap64 (x6 - 1))).f1) < x664q0)) x663q0 x663q1 x664q0 x664q1 x666q0 x666q1 ((rd_T84 x663q0 (wrap64 (x6 - 1))).f0) ((rd_T84 x663q0 (wrap64 (x6 - 1))).f1) ((rd_T84 x663q0 x6).f0) ((rd_T84 x663q0 x6).f1)))) else (none)) else (none)) else (none)) else (some (x666q0, x666q1))
def strength_steepest.j1 : Nat → Int → Bool → List (S84) → Int → Int → Int → Int → Int → Int → Int → Int → Int → Option (Int × Int)
 | 0, _, _, _, _, _, _, _, _, _, _, _, _ => none
 | k + 1, x6, x47, x663q0, x663q1, x664q0, x664q1, x666q0, x666q1, x669q0, x669q1, x670q0, x670q1 => if x47 = true then (strength_steepest.l0 k (wrap64 (x6 + 1)) x663q0 x663q1 x664q0 x664q1 x666q0 x666q1) else ((strength_quotient_above.f (wrap64 (x669q1 - x670q1)) (wrap64 (x670q0 - x669q0)) x666q0 x666q1).bind fun t671 => (if t671 = true then (strength_steepest.l0 k (wrap64 (x6 + 1)) x663q0 x663q1 x664q0 x664q1 (wrap64 (x669q1 - x670q1)) (wrap64 (x670q0 - x669q0))) else (strength_steepest.l0 k (wrap64 (x6 + 1)) x663q0 x663q1 x664q0 x664q1 x666q0 x666q1)))
end
def strength_steepest.f (k : Nat) (l0_0 : List (S84)) (a0_1 : Int) (a1_0 : Int) (a1_1 : Int) : Option (Int × Int) := strength_steepest.l0 k 1 l0_0 a0_1 a1_0 a1_1 0 1
theorem strength_steepest.mono_l : ∀ k, (∀ y0 y1 y2 y3 y4 y5 y6, LeO (strength_steepest.l0 k y0 y1 y2 y3 y4 y5 y6) (strength_steepest.l0 (k + 1) y0 y1 y2 y3 y4 y5 y6)) ∧ (∀ y0 y1 y2 y3 y4 y5 y6 y7 y8 y9 y10 y11, LeO (strength_steepest.j1 k y0 y1 y2 y3 y4 y5 y6 y7 y8 y9 y10 y11) (strength_steepest.j1 (k + 1) y0 y1 y2 y3 y4 y5 y6 y7 y8 y9 y10 y11))
 | 0 => ⟨fun _ _ _ _ _ _ _ r h => by simp [strength_steepest.l0] at h, fun _ _ _ _ _ _ _ _ _ _ _ _ r h => by simp [strength_steepest.j1] at h⟩
 | k + 1 => by
  obtain ⟨ih0, ih1⟩ := strength_steepest.mono_l k
  refine ⟨?_, ?_⟩
  ·intro y0 y1 y2 y3 y4 y5 y6
   unfold strength_steepest.l0
   repeat' first
   | (with_reducible exact ih0 _ _ _ _ _ _ _)
   | (with_reducible exact ih1 _ _ _ _ _ _ _ _ _ _ _ _)
   | (with_reducible exact LeO.refl _)
   | (with_reducible exact LeO.none _)
   | (with_reducible refine LeO.ite ?_ ?_)
   | (with_reducible refine LeO.bind ?_ (fun _ => ?_))
   | exact LeO.none _
   | refine LeO.ite ?_ ?_
   | refine LeO.bind ?_ (fun _ => ?_)
  ·intro y0 y1 y2 y3 y4 y5 y6 y7 y8 y9 y10 y11
   unfold strength_steepest.j1
   repeat' first
   | (with_reducible exact ih0 _ _ _ _ _ _ _)
   | (with_reducible exact ih1 _ _ _ _ _ _ _ _ _ _ _ _)
   | (with_reducible exact LeO.refl _)
   | (with_reducible exact LeO.none _)
   | (with_reducible refine LeO.ite ?_ ?_)
   | (with_reducible refine LeO.bind ?_ (fun _ => ?_))
   | exact LeO.none _
   | refine LeO.ite ?_ ?_
   | refine LeO.bind ?_ (fun _ => ?_)
theorem strength_steepest.mono : ∀ a0 a1 a2 a3 k, LeO (strength_steepest.f k a0 a1 a2 a3) (strength_steepest.f (k + 1) a0 a1 a2 a3) := by
 intro a0 a1 a2 a3 k
 obtain ⟨ih0, ih1⟩ := strength_steepest.mono_l k
 unfold strength_steepest.f
 repeat' first
   | (with_reducible exact ih0 _ _ _ _ _ _ _)
   | (with_reducible exact ih1 _ _ _ _ _ _ _ _ _ _ _ _)
   | (with_reducible exact LeO.refl _)
   | (with_reducible exact LeO.none _)
   | (with_reducible refine LeO.ite ?_ ?_)
   | (with_reducible refine LeO.bind ?_ (fun _ => ?_))
   | exact LeO.none _
   | refine LeO.ite ?_ ?_
   | refine LeO.bind ?_ (fun _ => ?_)
def strength_steepest.T5 : Bool × List (List Nat × List Nat) := (true, [([], []), ([0], [0]), ([], []), ([2], [2]), ([1, 3], [1, 3]), ([4], [4]), ([], []), ([6], [6]), ([], []), ([7, 8], [7, 8]), ([9], [9]), ([], []), ([], []), ([11, 5, 0, 1, 2, 3, 4, 5, 11, 12], [5, 11]), ([12, 10, 13, 0, 1, 2, 3, 4, 5, 6, 7, 8, 9, 10, 11, 12, 13], [10, 12])])
def strength_steepest.B5 : List Nat := [0, 1, 0, 4, 15, 31, 0, 64, 0, 448, 960, 0, 0, 6207, 16383]
theorem strength_steepest.tab5 : rtab .any (opsOf Try.f100 5) = strength_steepest.T5 := by kernel_rfl
theorem strength_steepest.bits5 : waitsOk strength_steepest.T5.2 strength_steepest.B5 = true := by kernel_rfl
set_option maxHeartbeats 8000000 in
set_option maxRecDepth 100000 in
theorem strength_steepest.calls (k : Nat) (A0_0 : Option Addr) (c0_0 : Nat) (l0_0 : List (S84)) (a0_1 : Int) (a1_0 : Int) (a1_1 : Int) (r1 : Int) (r2 : Int) (w : World) (hr0_0 : Kd.C k84 w A0_0 l0_0.length l0_0) (hc0_0 : l0_0.length ≤ c0_0) (h : strength_steepest.f k l0_0 a0_1 a1_0 a1_1 = some (r1, r2)) :
  Calls Try.prog 100 #[.agg #[.slice A0_0 l0_0.length c0_0, .int .i64 a0_1], .agg #[.int .i64 a1_0, .int .i64 a1_1]] w fun e w' => e = .returned (.agg #[.int .i64 r1, .int .i64 r2]) ∧ Below w.heap.size w w' := by
 have hu71 := Try.underlying71; have hu27 := Try.underlying27; have hu141 := Try.underlying141; have hu84 := Try.underlying84; have HR0_0 := Sd.mk hr0_0; have HC0_0 := Sd.mk hc0_0; clear hr0_0 hc0_0; have HB := Sd.mk (Below.refl w.heap.size w)
 have H : (strength_steepest.l0 k 1 l0_0 a0_1 a1_0 a1_1 0 1) = some (r1, r2) := h
 clear h; have H' := Sd.mk H; clear H
 go_enter Try.func100, Try.ntmps100
 go_wp2_with (first | ((with_reducible refine gate_dst (N := 2) rfl ?_); refine box_event ?hg (N := 2) ?hd (cs := #[.slice A0_0 l0_0.length c0_0, .int .i64 a0_1]) (t := 71) ?hr ?_; (case hd => rfl); (case hg => rfl); (case hr => exact tG); intro gb662 hg w3 hbox hb; have BK662 := Sd.mk (hbox); have GW662 := Sd.mk (bSz hg (bBl HB.out)); have GE662 := Sd.mk (bSz hg (bBl HB.out)); replace HB := Sd.mk (below_step (bBl HB.out) hb); clear hb hbox hg) | ((with_reducible refine gate_dst (N := 3) rfl ?_); refine box_event ?hg (N := 3) ?hd (cs := #[.int .i64 a1_0, .int .i64 a1_1]) (t := 27) ?hr ?_; (case hd => rfl); (case hg => rfl); (case hr => exact tG); intro gb663 hg w4 hbox hb; have BK663 := Sd.mk (hbox); have GW663 := Sd.mk (bSz hg (bBl HB.out)); have GE663 := Sd.mk (bSz hg (bBl HB.out)); replace HB := Sd.mk (below_step (bBl HB.out) hb); have NB662_663 := Sd.mk (bNl hg (bkA BK662.out)); have NB663_662 := Sd.mk (bNg hg (bkA BK662.out)); replace BK662 := Sd.mk (blk_below (bkA BK662.out) hb); clear hb hbox hg) | ((with_reducible refine gate_dst (N := 4) rfl ?_); refine box_event ?hg (N := 4) ?hd (cs := #[.int .i64 0, .int .i64 0]) (t := 141) ?hr ?_; (case hd => rfl); (case hg => rfl); (case hr => exact tG); intro gb664 hg w5 hbox hb; have BK664 := Sd.mk (hbox); have GW664 := Sd.mk (bSz hg (bBl HB.out)); have GE664 := Sd.mk (bSz hg (bBl HB.out)); replace HB := Sd.mk (below_step (bBl HB.out) hb); have NB662_664 := Sd.mk (bNl hg (bkA BK662.out)); have NB664_662 := Sd.mk (bNg hg (bkA BK662.out)); replace BK662 := Sd.mk (blk_below (bkA BK662.out) hb); have NB663_664 := Sd.mk (bNl hg (bkA BK663.out)); have NB664_663 := Sd.mk (bNg hg (bkA BK663.out)); replace BK663 := Sd.mk (blk_below (bkA BK663.out) hb); clear hb hbox hg) | ((with_reducible refine gate_dst (N := 5) rfl ?_); refine box_event ?hg (N := 5) ?hd (cs := #[.int .i64 0, .int .i64 0]) (t := 141) ?hr ?_; (case hd => rfl); (case hg => rfl); (case hr => exact tG); intro gb665 hg w6 hbox hb; have BK665 := Sd.mk (hbox); have GW665 := Sd.mk (bSz hg (bBl HB.out)); have GE665 := Sd.mk (bSz hg (bBl HB.out)); replace HB := Sd.mk (below_step (bBl HB.out) hb); have NB662_665 := Sd.mk (bNl hg (bkA BK662.out)); have NB665_662 := Sd.mk (bNg hg (bkA BK662.out)); replace BK662 := Sd.mk (blk_below (bkA BK662.out) hb); have NB663_665 := Sd.mk (bNl hg (bkA BK663.out)); have NB665_663 := Sd.mk (bNg hg (bkA BK663.out)); replace BK663 := Sd.mk (blk_below (bkA BK663.out) hb); have NB664_665 := Sd.mk (bNl hg (bkA BK664.out)); have NB665_664 := Sd.mk (bNg hg (bkA BK664.out)); replace BK664 := Sd.mk (blk_below (bkA BK664.out) hb); clear hb hbox hg; have hnb7 := NB665_662.out; have hnc7 := NB662_665.out; have hnb8 := NB665_663.out; have hnc8 := NB663_665.out; have hnb9 := NB665_664.out; have hnc9 := NB664_665.out; obtain ⟨u10_0, u10_1, o10_0, o10_1⟩ := bc2 (w := w6) BK665.out))
 go_loopg [6] k (fun kq v6 w' => ∃ (x6_1 : Int) (x666000_1 : Int) (x666001_1 : Int), v6 = .int .i64 x6_1 ∧ Sd (strength_steepest.l0 kq x6_1 l0_0 a0_1 a1_0 a1_1 x666000_1 x666001_1 = some (r1, r2)) ∧ Sd (kq ≤ k) ∧ Sd (w'.heap[gb662]? = some (.cells #[(.slice A0_0 l0_0.length c0_0), .int .i64 a0_1] 71 (0, 0))) ∧ Sd (w'.heap[gb663]? = some (.cells #[.int .i64 a1_0, .int .i64 a1_1] 27 (0, 0))) ∧ Sd (w'.heap[gb664]? = some (.cells #[.int .i64 0, .int .i64 0] 141 (0, 0))) ∧ Sd (w'.heap[gb665]? = some (.cells #[.int .i64 x666000_1, .int .i64 x666001_1] 141 (0, 0))) ∧ Sd (Below w.heap.size w w'))
 case atStart => exact ⟨(1), (0), (1), tS, H', ⟨Nat.le_refl _⟩, ⟨by (with_reducible repeat (first | refine blk_drewN ?_ _ | refine blk_drew ?_ | refine blk_alloc ?_ _)); refine blk_far ?_ NB662_665.out _; (with_reducible repeat (first | refine blk_drewN ?_ _ | refine blk_drew ?_ | refine blk_alloc ?_ _)); refine blk_far ?_ NB662_665.out _; (with_reducible repeat (first | refine blk_drewN ?_ _ | refine blk_drew ?_ | refine blk_alloc ?_ _)); exact BK662.out⟩, ⟨by (with_reducible repeat (first | refine blk_drewN ?_ _ | refine blk_drew ?_ | refine blk_alloc ?_ _)); refine blk_far ?_ NB663_665.out _; (with_reducible repeat (first | refine blk_drewN ?_ _ | refine blk_drew ?_ | refine blk_alloc ?_ _)); refine blk_far ?_ NB663_665.out _; (with_reducible repeat (first | refine blk_drewN ?_ _ | refine blk_drew ?_ | refine blk_alloc ?_ _)); exact BK663.out⟩, ⟨by (with_reducible repeat (first | refine blk_drewN ?_ _ | refine blk_drew ?_ | refine blk_alloc ?_ _)); refine blk_far ?_ NB664_665.out _; (with_reducible repeat (first | refine blk_drewN ?_ _ | refine blk_drew ?_ | refine blk_alloc ?_ _)); refine blk_far ?_ NB664_665.out _; (with_reducible repeat (first | refine blk_drewN ?_ _ | refine blk_drew ?_ | refine blk_alloc ?_ _)); exact BK664.out⟩, ⟨by (with_reducible repeat (first | refine blk_drewN ?_ _ | refine blk_drew ?_ | refine blk_alloc ?_ _)); refine blk_put (cs := #[.int .i64 0, .int .i64 0]) ?_ 1 _ rfl; (with_reducible repeat (first | refine blk_drewN ?_ _ | refine blk_drew ?_ | refine blk_alloc ?_ _)); refine blk_put (cs := #[.int .i64 0, .int .i64 0]) ?_ 0 _ rfl; (with_reducible repeat (first | refine blk_drewN ?_ _ | refine blk_drew ?_ | refine blk_alloc ?_ _)); exact BK665.out⟩, ⟨bBl HB.out⟩⟩
 case round =>
  clear H'; (try clear c1); (try clear p2); (try clear c7); (try clear c8); (try clear c9); (try clear c10); (try clear u10_0 u10_1); (try clear o10_0 o10_1); obtain ⟨x6_1, x666000_1, x666001_1, rfl, HA, HK1, BK662, BK663, BK664, BK665, HB⟩ := hrel
  cases gk with
  | zero => exact absurd HA.out (by simp [strength_steepest.l0])
  | succ k1 =>
   have H := HA.out; clear HA
   simp only [strength_steepest.l0] at H
   by_cases c11 : x6_1 < (l0_0.length : Int)
   ·rw [if_pos c11] at H
    have c11b0 : decide (x6_1 < (l0_0.length : Int)) = true := decide_eq_true c11
    clear c11
    obtain ⟨ji12, hji12⟩ : ∃ j_ : Int, (wrap64 (x6_1 - 1)) = j_ := ⟨_, rfl⟩
    replace H : (if 0 ≤ (ji12) then (if (ji12) < (l0_0.length : Int) then (if 0 ≤ x6_1 then (if ((rd_T84 l0_0 (ji12)).f1) ≤ ((rd_T84 l0_0 x6_1).f1) then (strength_steepest.j1 k1 x6_1 true l0_0 a0_1 a1_0 a1_1 x666000_1 x666001_1 ((rd_T84 l0_0 (ji12)).f0) ((rd_T84 l0_0 (ji12)).f1) ((rd_T84 l0_0 x6_1).f0) ((rd_T84 l0_0 x6_1).f1)) else (if ((rd_T84 l0_0 x6_1).f1) > a1_1 then (strength_steepest.j1 k1 x6_1 true l0_0 a0_1 a1_0 a1_1 x666000_1 x666001_1 ((rd_T84 l0_0 (ji12)).f0) ((rd_T84 l0_0 (ji12)).f1) ((rd_T84 l0_0 x6_1).f0) ((rd_T84 l0_0 x6_1).f1)) else (strength_steepest.j1 k1 x6_1 (decide (((rd_T84 l0_0 (ji12)).f1) < a1_0)) l0_0 a0_1 a1_0 a1_1 x666000_1 x666001_1 ((rd_T84 l0_0 (ji12)).f0) ((rd_T84 l0_0 (ji12)).f1) ((rd_T84 l0_0 x6_1).f0) ((rd_T84 l0_0 x6_1).f1)))) else (none)) else (none)) else (none)) = some (r1, r2) := by first | (rw [hji12] at H; exact H) | (simp only [hji12] at H ⊢; exact H)
    have hji12w : (IntKind.i64.wrap (x6_1 - 1)) = ji12 := (i64_w _).trans hji12
    by_cases c13 : 0 ≤ (ji12)
    ·rw [if_pos c13] at H
     have c13b0 : decide (0 ≤ (ji12)) = true := decide_eq_true c13
     clear c13
     by_cases c14 : (ji12) < (l0_0.length : Int)
     ·rw [if_pos c14] at H
      have c14b0 : decide ((ji12) < (l0_0.length : Int)) = true := decide_eq_true c14
      clear c14
      by_cases c15 : 0 ≤ x6_1
      ·rw [if_pos c15] at H
       have c15b0 : decide (0 ≤ x6_1) = true := decide_eq_true c15
       clear c15; have HC16 := Sd.mk H; clear H; have hnb17 := NB662_663.out; have hnc17 := NB663_662.out; have hnb18 := NB662_664.out; have hnc18 := NB664_662.out; have hnb19 := NB662_665.out; have hnc19 := NB665_662.out; obtain ⟨u20_0, u20_1, o20_0, o20_1⟩ := bc2 (w := wr) BK662.out
       try go_wp2
       replace BK662 := Sd.mk (blk_drew BK662.out); replace BK663 := Sd.mk (blk_drew BK663.out); replace BK664 := Sd.mk (blk_drew BK664.out); replace BK665 := Sd.mk (blk_drew BK665.out); replace HB := Sd.mk (below_drew1 HB.out)
       have p666 : 0 ≤ ((ji12) : Int) := tB
       have q666 : (ji12) < (l0_0.length : Int) := tB
       obtain ⟨ad666, e666, hx666_0, hx666_1⟩ := at_T84 HR0_0.out (ji12) p666 q666; have hw666_1 := hx666_1; have hw666_0 := hx666_0; cases e666; replace hx666_0 := cU HB hx666_0; replace hx666_1 := cU HB hx666_1; replace p666 := eq_true p666; replace q666 := eq_true q666
       have p667 : 0 ≤ (x6_1 : Int) := tB
       have q667 : x6_1 < (l0_0.length : Int) := tB
       obtain ⟨ad667, e667, hx667_0, hx667_1⟩ := at_T84 HR0_0.out x6_1 p667 q667; have hw667_1 := hx667_1; have hw667_0 := hx667_0
       obtain rfl : ad666 = ad667 := (by injection e667)
       replace hx667_0 := cU HB hx667_0; replace hx667_1 := cU HB hx667_1; replace p667 := eq_true p667; replace q667 := eq_true q667
       refine start_ (n := 15) (S := fun w' => w'.cell? ⟨gb662, 0, none⟩ = some (.slice (some ad666) l0_0.length c0_0) ∧ w'.cell? ⟨gb662, 1, none⟩ = some (.int .i64 a0_1) ∧ w'.cell? (ad666.add (((ji12)).toNat * 2)) = some (.int .i64 ((rd_T84 l0_0 (ji12)).f0)) ∧ w'.cell? ⟨(ad666.add (((ji12)).toNat * 2)).block, (ad666.add (((ji12)).toNat * 2)).off + 1, none⟩ = some (.int .i64 ((rd_T84 l0_0 (ji12)).f1)) ∧ w'.cell? (ad666.add ((x6_1).toNat * 2)) = some (.int .i64 ((rd_T84 l0_0 x6_1).f0)) ∧ w'.cell? ⟨(ad666.add ((x6_1).toNat * 2)).block, (ad666.add ((x6_1).toNat * 2)).off + 1, none⟩ = some (.int .i64 ((rd_T84 l0_0 x6_1).f1))) (ds := []) #[false, false, false, false, false, false, false, false, false, false, false, false, false, false, false] (by kernel_rfl) rfl rfl ⟨(blk_cell BK662.out 0).trans rfl, (blk_cell BK662.out 1).trans rfl, ((HB.out.cell (World.block_lt_of_cell? w _ hw666_0)).trans hw666_0), ((HB.out.cell (World.block_lt_of_cell? w _ hw666_1)).trans hw666_1), ((HB.out.cell (World.block_lt_of_cell? w _ hw667_0)).trans hw667_0), ((HB.out.cell (World.block_lt_of_cell? w _ hw667_1)).trans hw667_1)⟩ (fun hHeld => ?_); refine with_tabW strength_steepest.tab5 strength_steepest.bits5 (fun HT_ HW_ => ?_)
       generalize wr.drew = w21 at BK662 BK663 BK664 BK665 HB hx666_0 hx666_1 hx667_0 hx667_1 hHeld ⊢
       refine pure_ (i := 0) (N := some 18) (v := ?_) (a' := ?_) #[true, false, false, false, false, false, false, false, false, false, false, false, false, false, false] rfl rfl (any_of HT_.out (by kernel_rfl)) (fun _ _ _ h => h) (Or.inl ⟨by rfl, ?_⟩) ?_ ?_
       rotate_left
       ·exact tW
       rotate_left
       ·exact tP
       refine pure_ (i := 2) (N := some 20) (v := ?_) (a' := ?_) #[true, false, true, false, false, false, false, false, false, false, false, false, false, false, false] rfl rfl (any_of HT_.out (by kernel_rfl)) (fun _ _ _ h => h) (Or.inl ⟨by rfl, ?_⟩) ?_ ?_
       rotate_left
       ·exact tW
       rotate_left
       ·exact tP
       refine pure_ (i := 3) (N := some 21) (v := ?_) (a' := ?_) #[true, false, true, true, false, false, false, false, false, false, false, false, false, false, false] rfl rfl (any_of HT_.out (by kernel_rfl)) (fun _ _ _ h => h) (Or.inl ⟨by rfl, ?_⟩) ?_ ?_
       rotate_left
       ·exact tW
       rotate_left
       ·exact tP
       refine pure_ (i := 6) (N := some 24) (v := ?_) (a' := ?_) #[true, false, true, true, false, false, true, false, false, false, false, false, false, false, false] rfl rfl (any_of HT_.out (by kernel_rfl)) (fun _ _ _ h => h) (Or.inl ⟨by rfl, ?_⟩) ?_ ?_
       rotate_left
       ·exact tW
       rotate_left
       ·exact tP
       refine pure_ (i := 8) (N := some 26) (v := ?_) (a' := ?_) #[true, false, true, true, false, false, true, false, true, false, false, false, false, false, false] rfl rfl (any_of HT_.out (by kernel_rfl)) (fun _ _ _ h => h) (Or.inl ⟨by rfl, ?_⟩) ?_ ?_
       rotate_left
       ·exact tW
       rotate_left
       ·exact tP
       refine take_ (i := 1) (N := some 19) (v := ?_) (a' := ?_) #[true, true, true, true, false, false, true, false, true, false, false, false, false, false, false] rfl rfl (take_ofW HT_.out HW_.out (by kernel_rfl)) (fun _ _ _ h => h) (Or.inl ⟨by rfl, ?_⟩) hHeld ?_ ?_
       rotate_left
       ·rintro w' ⟨s0, s1, s2, s3, s4, s5⟩
        go_simp
        with_reducible rfl
       rotate_left
       ·exact tP
       refine pure_ (i := 4) (N := some 22) (v := ?_) (a' := ?_) #[true, true, true, true, true, false, true, false, true, false, false, false, false, false, false] rfl rfl (any_of HT_.out (by kernel_rfl)) (fun _ _ _ h => h) (Or.inl ⟨by rfl, ?_⟩) ?_ ?_
       rotate_left
       ·exact tW
       rotate_left
       ·exact tP
       refine take_ (i := 5) (N := some 23) (v := ?_) (a' := ?_) #[true, true, true, true, true, true, true, false, true, false, false, false, false, false, false] rfl rfl (take_ofW HT_.out HW_.out (by kernel_rfl)) (fun _ _ _ h => h) (Or.inl ⟨by rfl, ?_⟩) hHeld ?_ ?_
       rotate_left
       ·rintro w' ⟨s0, s1, s2, s3, s4, s5⟩
        go_simp
        with_reducible rfl
       rotate_left
       ·exact tP
       refine take_ (i := 7) (N := some 25) (v := ?_) (a' := ?_) #[true, true, true, true, true, true, true, true, true, false, false, false, false, false, false] rfl rfl (take_ofW HT_.out HW_.out (by kernel_rfl)) (fun _ _ _ h => h) (Or.inl ⟨by rfl, ?_⟩) hHeld ?_ ?_
       rotate_left
       ·rintro w' ⟨s0, s1, s2, s3, s4, s5⟩
        go_simp
        with_reducible rfl
       rotate_left
       ·exact tP
       refine pure_ (i := 9) (N := some 27) (v := ?_) (a' := ?_) #[true, true, true, true, true, true, true, true, true, true, false, false, false, false, false] rfl rfl (any_of HT_.out (by kernel_rfl)) (fun _ _ _ h => h) (Or.inl ⟨by rfl, ?_⟩) ?_ ?_
       rotate_left
       ·exact tW
       rotate_left
       ·exact tP
       refine take_ (i := 10) (N := some 28) (v := ?_) (a' := ?_) #[true, true, true, true, true, true, true, true, true, true, true, false, false, false, false] rfl rfl (take_ofW HT_.out HW_.out (by kernel_rfl)) (fun _ _ _ h => h) (Or.inl ⟨by rfl, ?_⟩) hHeld ?_ ?_
       rotate_left
       ·rintro w' ⟨s0, s1, s2, s3, s4, s5⟩
        go_simp
        with_reducible rfl
       rotate_left
       ·exact tP
       refine join_ (σ := Nat × Nat) 2 #[true, true, true, true, true, true, true, true, true, true, true, true, true, false, false] (fun s_ => [(7, .pointer (some ⟨s_.1, 0, none⟩)), (8, .pointer (some ⟨s_.2, 0, none⟩))]) (fun s_ w' => (w'.cell? ⟨gb662, 0, none⟩ = some (.slice (some ad666) l0_0.length c0_0) ∧ w'.cell? ⟨gb662, 1, none⟩ = some (.int .i64 a0_1) ∧ w'.cell? (ad666.add (((ji12)).toNat * 2)) = some (.int .i64 ((rd_T84 l0_0 (ji12)).f0)) ∧ w'.cell? ⟨(ad666.add (((ji12)).toNat * 2)).block, (ad666.add (((ji12)).toNat * 2)).off + 1, none⟩ = some (.int .i64 ((rd_T84 l0_0 (ji12)).f1)) ∧ w'.cell? (ad666.add ((x6_1).toNat * 2)) = some (.int .i64 ((rd_T84 l0_0 x6_1).f0)) ∧ w'.cell? ⟨(ad666.add ((x6_1).toNat * 2)).block, (ad666.add ((x6_1).toNat * 2)).off + 1, none⟩ = some (.int .i64 ((rd_T84 l0_0 x6_1).f1))) ∧ (w'.heap[gb662]? = some (.cells #[.slice (some ad666) l0_0.length c0_0, .int .i64 a0_1] 71 (0, 0))) ∧ (w'.heap[gb663]? = some (.cells #[.int .i64 a1_0, .int .i64 a1_1] 27 (0, 0))) ∧ (w'.heap[gb664]? = some (.cells #[.int .i64 0, .int .i64 0] 141 (0, 0))) ∧ (w'.heap[gb665]? = some (.cells #[.int .i64 x666000_1, .int .i64 x666001_1] 141 (0, 0))) ∧ (w'.heap[s_.1]? = some (.cells #[.int .i64 0, .int .i64 0] 84 (0, 0))) ∧ (w'.heap[s_.2]? = some (.cells #[.int .i64 0, .int .i64 0] 84 (0, 0))) ∧ (w.heap.size ≤ s_.1) ∧ (w.heap.size ≤ s_.1) ∧ (gb662 ≠ s_.1) ∧ (s_.1 ≠ gb662) ∧ (gb663 ≠ s_.1) ∧ (s_.1 ≠ gb663) ∧ (gb664 ≠ s_.1) ∧ (s_.1 ≠ gb664) ∧ (gb665 ≠ s_.1) ∧ (s_.1 ≠ gb665) ∧ (s_.2 ≠ s_.1) ∧ (s_.1 ≠ s_.2) ∧ (w.heap.size ≤ s_.2) ∧ (w.heap.size ≤ s_.2) ∧ (gb662 ≠ s_.2) ∧ (s_.2 ≠ gb662) ∧ (gb663 ≠ s_.2) ∧ (s_.2 ≠ gb663) ∧ (gb664 ≠ s_.2) ∧ (s_.2 ≠ gb664) ∧ (gb665 ≠ s_.2) ∧ (s_.2 ≠ gb665) ∧ (Below w.heap.size w w')) ?_ ?_
       rotate_left
       ·intro hCont
        refine two_ (i := 11) (j := 12) (Ni := some 7) (Nj := some 8) #[true, true, true, true, true, true, true, true, true, true, true, true, false, false, false] #[true, true, true, true, true, true, true, true, true, true, true, false, true, false, false] rfl rfl rfl rfl (two_of HT_.out (by kernel_rfl)) (by decide) (by decide) (fun K hK => ?_) (fun K hK => ?_)
        ·skip
         refine box_step ?hg (N := 7) ?hd (cs := #[.int .i64 0, .int .i64 0]) (t := 84) ?hr ?_; (case hd => rfl); (case hg => rfl); (case hr => exact tG)
         intro gb668 hg w22 hbox hb
         have BK668 := Sd.mk (hbox); have GW668 := Sd.mk (bSz hg (bBl HB.out)); have GE668 := Sd.mk (bSz hg (bBl HB.out)); replace HB := Sd.mk (below_step (bBl HB.out) hb); have NB662_668 := Sd.mk (bNl hg (bkA BK662.out)); have NB668_662 := Sd.mk (bNg hg (bkA BK662.out)); replace BK662 := Sd.mk (blk_below (bkA BK662.out) hb); have NB663_668 := Sd.mk (bNl hg (bkA BK663.out)); have NB668_663 := Sd.mk (bNg hg (bkA BK663.out)); replace BK663 := Sd.mk (blk_below (bkA BK663.out) hb); have NB664_668 := Sd.mk (bNl hg (bkA BK664.out)); have NB668_664 := Sd.mk (bNg hg (bkA BK664.out)); replace BK664 := Sd.mk (blk_below (bkA BK664.out) hb); have NB665_668 := Sd.mk (bNl hg (bkA BK665.out)); have NB668_665 := Sd.mk (bNg hg (bkA BK665.out)); replace BK665 := Sd.mk (blk_below (bkA BK665.out) hb); clear hb hbox hg
         refine hK.out _ _ ⟨(blk_cell BK662.out 0).trans rfl, (blk_cell BK662.out 1).trans rfl, ((HB.out.cell (World.block_lt_of_cell? w _ hw666_0)).trans hw666_0), ((HB.out.cell (World.block_lt_of_cell? w _ hw666_1)).trans hw666_1), ((HB.out.cell (World.block_lt_of_cell? w _ hw667_0)).trans hw667_0), ((HB.out.cell (World.block_lt_of_cell? w _ hw667_1)).trans hw667_1)⟩ (fun hHeld => ?_)
         clear hK K
         refine norm_ (a' := ?_) ?_ ?_
         rotate_left
         ·show Act.put _ (some 7) _ = _
          exact tP
         refine one_ (i := 12) (N := some 8) #[true, true, true, true, true, true, true, true, true, true, true, true, true, false, false] rfl rfl (one_of HT_.out (by kernel_rfl)) (by decide) (fun K hK => ?_)
         refine box_step ?hg (N := 8) ?hd (cs := #[.int .i64 0, .int .i64 0]) (t := 84) ?hr ?_; (case hd => rfl); (case hg => rfl); (case hr => exact tG)
         intro gb669 hg w23 hbox hb
         have BK669 := Sd.mk (hbox); have GW669 := Sd.mk (bSz hg (bBl HB.out)); have GE669 := Sd.mk (bSz hg (bBl HB.out)); replace HB := Sd.mk (below_step (bBl HB.out) hb); have NB662_669 := Sd.mk (bNl hg (bkA BK662.out)); have NB669_662 := Sd.mk (bNg hg (bkA BK662.out)); replace BK662 := Sd.mk (blk_below (bkA BK662.out) hb); have NB663_669 := Sd.mk (bNl hg (bkA BK663.out)); have NB669_663 := Sd.mk (bNg hg (bkA BK663.out)); replace BK663 := Sd.mk (blk_below (bkA BK663.out) hb); have NB664_669 := Sd.mk (bNl hg (bkA BK664.out)); have NB669_664 := Sd.mk (bNg hg (bkA BK664.out)); replace BK664 := Sd.mk (blk_below (bkA BK664.out) hb); have NB665_669 := Sd.mk (bNl hg (bkA BK665.out)); have NB669_665 := Sd.mk (bNg hg (bkA BK665.out)); replace BK665 := Sd.mk (blk_below (bkA BK665.out) hb); have NB668_669 := Sd.mk (bNl hg (bkA BK668.out)); have NB669_668 := Sd.mk (bNg hg (bkA BK668.out)); replace BK668 := Sd.mk (blk_below (bkA BK668.out) hb); clear hb hbox hg
         refine hK.out _ _ ⟨(blk_cell BK662.out 0).trans rfl, (blk_cell BK662.out 1).trans rfl, ((HB.out.cell (World.block_lt_of_cell? w _ hw666_0)).trans hw666_0), ((HB.out.cell (World.block_lt_of_cell? w _ hw666_1)).trans hw666_1), ((HB.out.cell (World.block_lt_of_cell? w _ hw667_0)).trans hw667_0), ((HB.out.cell (World.block_lt_of_cell? w _ hw667_1)).trans hw667_1)⟩ (fun hHeld => ?_)
         clear hK K
         refine norm_ (a' := ?_) ?_ ?_
         rotate_left
         ·show Act.put _ (some 8) _ = _
          exact tP
         exact norm_ (by simp only [putAll, Act.put, List.setIfInBounds_toArray, List.set_cons_zero, List.set_cons_succ]) (hCont (gb668, gb669) _ ⟨hHeld, (bkA BK662.out), (bkA BK663.out), (bkA BK664.out), (bkA BK665.out), (bkA BK668.out), (bkA BK669.out), GW668.out, GE668.out, NB662_668.out, NB668_662.out, NB663_668.out, NB668_663.out, NB664_668.out, NB668_664.out, NB665_668.out, NB668_665.out, NB669_668.out, NB668_669.out, GW669.out, GE669.out, NB662_669.out, NB669_662.out, NB663_669.out, NB669_663.out, NB664_669.out, NB669_664.out, NB665_669.out, NB669_665.out, (bBl HB.out)⟩)
        ·skip
         refine box_step ?hg (N := 8) ?hd (cs := #[.int .i64 0, .int .i64 0]) (t := 84) ?hr ?_; (case hd => rfl); (case hg => rfl); (case hr => exact tG)
         intro gb669 hg w22 hbox hb
         have BK669 := Sd.mk (hbox); have GW669 := Sd.mk (bSz hg (bBl HB.out)); have GE669 := Sd.mk (bSz hg (bBl HB.out)); replace HB := Sd.mk (below_step (bBl HB.out) hb); have NB662_669 := Sd.mk (bNl hg (bkA BK662.out)); have NB669_662 := Sd.mk (bNg hg (bkA BK662.out)); replace BK662 := Sd.mk (blk_below (bkA BK662.out) hb); have NB663_669 := Sd.mk (bNl hg (bkA BK663.out)); have NB669_663 := Sd.mk (bNg hg (bkA BK663.out)); replace BK663 := Sd.mk (blk_below (bkA BK663.out) hb); have NB664_669 := Sd.mk (bNl hg (bkA BK664.out)); have NB669_664 := Sd.mk (bNg hg (bkA BK664.out)); replace BK664 := Sd.mk (blk_below (bkA BK664.out) hb); have NB665_669 := Sd.mk (bNl hg (bkA BK665.out)); have NB669_665 := Sd.mk (bNg hg (bkA BK665.out)); replace BK665 := Sd.mk (blk_below (bkA BK665.out) hb); clear hb hbox hg
         refine hK.out _ _ ⟨(blk_cell BK662.out 0).trans rfl, (blk_cell BK662.out 1).trans rfl, ((HB.out.cell (World.block_lt_of_cell? w _ hw666_0)).trans hw666_0), ((HB.out.cell (World.block_lt_of_cell? w _ hw666_1)).trans hw666_1), ((HB.out.cell (World.block_lt_of_cell? w _ hw667_0)).trans hw667_0), ((HB.out.cell (World.block_lt_of_cell? w _ hw667_1)).trans hw667_1)⟩ (fun hHeld => ?_)
         clear hK K
         refine norm_ (a' := ?_) ?_ ?_
         rotate_left
         ·show Act.put _ (some 8) _ = _
          exact tP
         refine one_ (i := 11) (N := some 7) #[true, true, true, true, true, true, true, true, true, true, true, true, true, false, false] rfl rfl (one_of HT_.out (by kernel_rfl)) (by decide) (fun K hK => ?_)
         refine box_step ?hg (N := 7) ?hd (cs := #[.int .i64 0, .int .i64 0]) (t := 84) ?hr ?_; (case hd => rfl); (case hg => rfl); (case hr => exact tG)
         intro gb668 hg w23 hbox hb
         have BK668 := Sd.mk (hbox); have GW668 := Sd.mk (bSz hg (bBl HB.out)); have GE668 := Sd.mk (bSz hg (bBl HB.out)); replace HB := Sd.mk (below_step (bBl HB.out) hb); have NB662_668 := Sd.mk (bNl hg (bkA BK662.out)); have NB668_662 := Sd.mk (bNg hg (bkA BK662.out)); replace BK662 := Sd.mk (blk_below (bkA BK662.out) hb); have NB663_668 := Sd.mk (bNl hg (bkA BK663.out)); have NB668_663 := Sd.mk (bNg hg (bkA BK663.out)); replace BK663 := Sd.mk (blk_below (bkA BK663.out) hb); have NB664_668 := Sd.mk (bNl hg (bkA BK664.out)); have NB668_664 := Sd.mk (bNg hg (bkA BK664.out)); replace BK664 := Sd.mk (blk_below (bkA BK664.out) hb); have NB665_668 := Sd.mk (bNl hg (bkA BK665.out)); have NB668_665 := Sd.mk (bNg hg (bkA BK665.out)); replace BK665 := Sd.mk (blk_below (bkA BK665.out) hb); have NB669_668 := Sd.mk (bNl hg (bkA BK669.out)); have NB668_669 := Sd.mk (bNg hg (bkA BK669.out)); replace BK669 := Sd.mk (blk_below (bkA BK669.out) hb); clear hb hbox hg
         refine hK.out _ _ ⟨(blk_cell BK662.out 0).trans rfl, (blk_cell BK662.out 1).trans rfl, ((HB.out.cell (World.block_lt_of_cell? w _ hw666_0)).trans hw666_0), ((HB.out.cell (World.block_lt_of_cell? w _ hw666_1)).trans hw666_1), ((HB.out.cell (World.block_lt_of_cell? w _ hw667_0)).trans hw667_0), ((HB.out.cell (World.block_lt_of_cell? w _ hw667_1)).trans hw667_1)⟩ (fun hHeld => ?_)
         clear hK K
         refine norm_ (a' := ?_) ?_ ?_
         rotate_left
         ·show Act.put _ (some 7) _ = _
          exact tP
         exact norm_ (by simp only [putAll, Act.put, List.setIfInBounds_toArray, List.set_cons_zero, List.set_cons_succ]) (hCont (gb668, gb669) _ ⟨hHeld, (bkA BK662.out), (bkA BK663.out), (bkA BK664.out), (bkA BK665.out), (bkA BK668.out), (bkA BK669.out), GW668.out, GE668.out, NB662_668.out, NB668_662.out, NB663_668.out, NB668_663.out, NB664_668.out, NB668_664.out, NB665_668.out, NB668_665.out, NB669_668.out, NB668_669.out, GW669.out, GE669.out, NB662_669.out, NB669_662.out, NB663_669.out, NB669_663.out, NB664_669.out, NB669_664.out, NB665_669.out, NB669_665.out, (bBl HB.out)⟩)
       rintro ⟨gb668, gb669⟩ w24 ⟨hS_, h0_, h1_, h2_, h3_, h4_, h5_, h6_, h7_, h8_, h9_, h10_, h11_, h12_, h13_, h14_, h15_, h16_, h17_, h18_, h19_, h20_, h21_, h22_, h23_, h24_, h25_, h26_, h27_, h28_⟩
       have n0_ : Sd (w24.heap[gb662]? = some (.cells #[.slice (some ad666) l0_0.length c0_0, .int .i64 a0_1] 71 (0, 0))) := ⟨h0_⟩
       have n1_ : Sd (w24.heap[gb663]? = some (.cells #[.int .i64 a1_0, .int .i64 a1_1] 27 (0, 0))) := ⟨h1_⟩
       have n2_ : Sd (w24.heap[gb664]? = some (.cells #[.int .i64 0, .int .i64 0] 141 (0, 0))) := ⟨h2_⟩
       have n3_ : Sd (w24.heap[gb665]? = some (.cells #[.int .i64 x666000_1, .int .i64 x666001_1] 141 (0, 0))) := ⟨h3_⟩
       have n4_ : Sd (w24.heap[gb668]? = some (.cells #[.int .i64 0, .int .i64 0] 84 (0, 0))) := ⟨h4_⟩
       have n5_ : Sd (w24.heap[gb669]? = some (.cells #[.int .i64 0, .int .i64 0] 84 (0, 0))) := ⟨h5_⟩
       have n6_ : Sd (w.heap.size ≤ gb668) := ⟨h6_⟩
       have n7_ : Sd (w.heap.size ≤ gb668) := ⟨h7_⟩
       have n8_ : Sd (gb662 ≠ gb668) := ⟨h8_⟩
       have n9_ : Sd (gb668 ≠ gb662) := ⟨h9_⟩
       have n10_ : Sd (gb663 ≠ gb668) := ⟨h10_⟩
       have n11_ : Sd (gb668 ≠ gb663) := ⟨h11_⟩
       have n12_ : Sd (gb664 ≠ gb668) := ⟨h12_⟩
       have n13_ : Sd (gb668 ≠ gb664) := ⟨h13_⟩
       have n14_ : Sd (gb665 ≠ gb668) := ⟨h14_⟩
       have n15_ : Sd (gb668 ≠ gb665) := ⟨h15_⟩
       have n16_ : Sd (gb669 ≠ gb668) := ⟨h16_⟩
       have n17_ : Sd (gb668 ≠ gb669) := ⟨h17_⟩
       have n18_ : Sd (w.heap.size ≤ gb669) := ⟨h18_⟩
       have n19_ : Sd (w.heap.size ≤ gb669) := ⟨h19_⟩
       have n20_ : Sd (gb662 ≠ gb669) := ⟨h20_⟩
       have n21_ : Sd (gb669 ≠ gb662) := ⟨h21_⟩
       have n22_ : Sd (gb663 ≠ gb669) := ⟨h22_⟩
       have n23_ : Sd (gb669 ≠ gb663) := ⟨h23_⟩
       have n24_ : Sd (gb664 ≠ gb669) := ⟨h24_⟩
       have n25_ : Sd (gb669 ≠ gb664) := ⟨h25_⟩
       have n26_ : Sd (gb665 ≠ gb669) := ⟨h26_⟩
       have n27_ : Sd (gb669 ≠ gb665) := ⟨h27_⟩
       have n28_ : Sd (Below w.heap.size w w24) := ⟨h28_⟩
       clear BK662; clear BK663; clear BK664; clear BK665; clear HB; clear h0_ h1_ h2_ h3_ h4_ h5_ h6_ h7_ h8_ h9_ h10_ h11_ h12_ h13_ h14_ h15_ h16_ h17_ h18_ h19_ h20_ h21_ h22_ h23_ h24_ h25_ h26_ h27_ h28_; have BK662 := n0_; have BK663 := n1_; have BK664 := n2_; have BK665 := n3_; have BK668 := n4_; have BK669 := n5_; have GW668 := n6_; have GE668 := n7_; have NB662_668 := n8_; have NB668_662 := n9_; have NB663_668 := n10_; have NB668_663 := n11_; have NB664_668 := n12_; have NB668_664 := n13_; have NB665_668 := n14_; have NB668_665 := n15_; have NB669_668 := n16_; have NB668_669 := n17_; have GW669 := n18_; have GE669 := n19_; have NB662_669 := n20_; have NB669_662 := n21_; have NB663_669 := n22_; have NB669_663 := n23_; have NB664_669 := n24_; have NB669_664 := n25_; have NB665_669 := n26_; have NB669_665 := n27_; have HB := n28_; clear n0_ n1_ n2_ n3_ n4_ n5_ n6_ n7_ n8_ n9_ n10_ n11_ n12_ n13_ n14_ n15_ n16_ n17_ n18_ n19_ n20_ n21_ n22_ n23_ n24_ n25_ n26_ n27_ n28_
       have hHeld : w24.cell? ⟨gb662, 0, none⟩ = some (.slice (some ad666) l0_0.length c0_0) ∧ w24.cell? ⟨gb662, 1, none⟩ = some (.int .i64 a0_1) ∧ w24.cell? (ad666.add (((ji12)).toNat * 2)) = some (.int .i64 ((rd_T84 l0_0 (ji12)).f0)) ∧ w24.cell? ⟨(ad666.add (((ji12)).toNat * 2)).block, (ad666.add (((ji12)).toNat * 2)).off + 1, none⟩ = some (.int .i64 ((rd_T84 l0_0 (ji12)).f1)) ∧ w24.cell? (ad666.add ((x6_1).toNat * 2)) = some (.int .i64 ((rd_T84 l0_0 x6_1).f0)) ∧ w24.cell? ⟨(ad666.add ((x6_1).toNat * 2)).block, (ad666.add ((x6_1).toNat * 2)).off + 1, none⟩ = some (.int .i64 ((rd_T84 l0_0 x6_1).f1)) := hS_
       refine norm_ (a' := ?_) ?_ ?_
       rotate_left
       ·simp only [putAll, Act.put, List.setIfInBounds_toArray, List.set_cons_zero, List.set_cons_succ]
        rfl
       refine one_ (i := 13) (N := none) #[true, true, true, true, true, true, true, true, true, true, true, true, true, true, false] rfl rfl (one_of HT_.out (by kernel_rfl)) (by decide) (fun K hK => ?_)
       have hs25 : w24.cell? ⟨gb668, 0, none⟩ = some (.int .i64 0) := (blk_cell BK668.out 0).trans rfl
       have hfs25 := blk_frozen BK668.out 0; have hns25_0 := NB662_668.out; have hns25_1 := NB663_668.out; have hns25_2 := NB664_668.out; have hns25_3 := NB665_668.out; have hns25_5 := NB669_668.out; have hms25_0 := NB668_662.out; have hms25_1 := NB668_663.out; have hms25_2 := NB668_664.out; have hms25_3 := NB668_665.out; have hms25_5 := NB668_669.out
       have hs26 : w24.cell? ⟨gb668, 1, none⟩ = some (.int .i64 0) := (blk_cell BK668.out 1).trans rfl
       have hfs26 := blk_frozen BK668.out 1; have hns26_0 := NB662_668.out; have hns26_1 := NB663_668.out; have hns26_2 := NB664_668.out; have hns26_3 := NB665_668.out; have hns26_5 := NB669_668.out; have hms26_0 := NB668_662.out; have hms26_1 := NB668_663.out; have hms26_2 := NB668_664.out; have hms26_3 := NB668_665.out; have hms26_5 := NB668_669.out
       refine skip_ (w1 := ?_) (by rfl) rfl ?_ ?_
       rotate_left
       ·go_simp
        rfl
       refine hK.out _ _ ⟨((cell_far (p := ⟨gb668, _, none⟩) NB662_668.out _).trans (((cell_far (p := ⟨gb668, _, none⟩) NB662_668.out _).trans (hHeld.1)))), ((cell_far (p := ⟨gb668, _, none⟩) NB662_668.out _).trans (((cell_far (p := ⟨gb668, _, none⟩) NB662_668.out _).trans (hHeld.2.1)))), ((cell_far (p := ⟨gb668, _, none⟩) (by first | exact Nat.ne_of_lt (Nat.lt_of_lt_of_le (by have := World.block_lt_of_cell? _ _ hw666_0; first | rwa [add_block] at this | exact this) GW668.out) | (rw [add_block]; exact Nat.ne_of_lt (Nat.lt_of_lt_of_le (by have := World.block_lt_of_cell? _ _ hw666_0; first | rwa [add_block] at this | exact this) GW668.out)) | (show (Addr.add _ _).block ≠ _; rw [add_block]; exact Nat.ne_of_lt (Nat.lt_of_lt_of_le (by have := World.block_lt_of_cell? _ _ hw666_0; first | rwa [add_block] at this | exact this) GW668.out)) | (dsimp only; exact Nat.ne_of_lt (Nat.lt_of_lt_of_le (by have := World.block_lt_of_cell? _ _ hw666_0; first | rwa [add_block] at this | exact this) GW668.out))) _).trans (((cell_far (p := ⟨gb668, _, none⟩) (by first | exact Nat.ne_of_lt (Nat.lt_of_lt_of_le (by have := World.block_lt_of_cell? _ _ hw666_0; first | rwa [add_block] at this | exact this) GW668.out) | (rw [add_block]; exact Nat.ne_of_lt (Nat.lt_of_lt_of_le (by have := World.block_lt_of_cell? _ _ hw666_0; first | rwa [add_block] at this | exact this) GW668.out)) | (show (Addr.add _ _).block ≠ _; rw [add_block]; exact Nat.ne_of_lt (Nat.lt_of_lt_of_le (by have := World.block_lt_of_cell? _ _ hw666_0; first | rwa [add_block] at this | exact this) GW668.out)) | (dsimp only; exact Nat.ne_of_lt (Nat.lt_of_lt_of_le (by have := World.block_lt_of_cell? _ _ hw666_0; first | rwa [add_block] at this | exact this) GW668.out))) _).trans (hHeld.2.2.1)))), ((cell_far (p := ⟨gb668, _, none⟩) (by first | exact Nat.ne_of_lt (Nat.lt_of_lt_of_le (by have := World.block_lt_of_cell? _ _ hw666_1; first | rwa [add_block] at this | exact this) GW668.out) | (rw [add_block]; exact Nat.ne_of_lt (Nat.lt_of_lt_of_le (by have := World.block_lt_of_cell? _ _ hw666_1; first | rwa [add_block] at this | exact this) GW668.out)) | (show (Addr.add _ _).block ≠ _; rw [add_block]; exact Nat.ne_of_lt (Nat.lt_of_lt_of_le (by have := World.block_lt_of_cell? _ _ hw666_1; first | rwa [add_block] at this | exact this) GW668.out)) | (dsimp only; exact Nat.ne_of_lt (Nat.lt_of_lt_of_le (by have := World.block_lt_of_cell? _ _ hw666_1; first | rwa [add_block] at this | exact this) GW668.out))) _).trans (((cell_far (p := ⟨gb668, _, none⟩) (by first | exact Nat.ne_of_lt (Nat.lt_of_lt_of_le (by have := World.block_lt_of_cell? _ _ hw666_1; first | rwa [add_block] at this | exact this) GW668.out) | (rw [add_block]; exact Nat.ne_of_lt (Nat.lt_of_lt_of_le (by have := World.block_lt_of_cell? _ _ hw666_1; first | rwa [add_block] at this | exact this) GW668.out)) | (show (Addr.add _ _).block ≠ _; rw [add_block]; exact Nat.ne_of_lt (Nat.lt_of_lt_of_le (by have := World.block_lt_of_cell? _ _ hw666_1; first | rwa [add_block] at this | exact this) GW668.out)) | (dsimp only; exact Nat.ne_of_lt (Nat.lt_of_lt_of_le (by have := World.block_lt_of_cell? _ _ hw666_1; first | rwa [add_block] at this | exact this) GW668.out))) _).trans (hHeld.2.2.2.1)))), ((cell_far (p := ⟨gb668, _, none⟩) (by first | exact Nat.ne_of_lt (Nat.lt_of_lt_of_le (by have := World.block_lt_of_cell? _ _ hw667_0; first | rwa [add_block] at this | exact this) GW668.out) | (rw [add_block]; exact Nat.ne_of_lt (Nat.lt_of_lt_of_le (by have := World.block_lt_of_cell? _ _ hw667_0; first | rwa [add_block] at this | exact this) GW668.out)) | (show (Addr.add _ _).block ≠ _; rw [add_block]; exact Nat.ne_of_lt (Nat.lt_of_lt_of_le (by have := World.block_lt_of_cell? _ _ hw667_0; first | rwa [add_block] at this | exact this) GW668.out)) | (dsimp only; exact Nat.ne_of_lt (Nat.lt_of_lt_of_le (by have := World.block_lt_of_cell? _ _ hw667_0; first | rwa [add_block] at this | exact this) GW668.out))) _).trans (((cell_far (p := ⟨gb668, _, none⟩) (by first | exact Nat.ne_of_lt (Nat.lt_of_lt_of_le (by have := World.block_lt_of_cell? _ _ hw667_0; first | rwa [add_block] at this | exact this) GW668.out) | (rw [add_block]; exact Nat.ne_of_lt (Nat.lt_of_lt_of_le (by have := World.block_lt_of_cell? _ _ hw667_0; first | rwa [add_block] at this | exact this) GW668.out)) | (show (Addr.add _ _).block ≠ _; rw [add_block]; exact Nat.ne_of_lt (Nat.lt_of_lt_of_le (by have := World.block_lt_of_cell? _ _ hw667_0; first | rwa [add_block] at this | exact this) GW668.out)) | (dsimp only; exact Nat.ne_of_lt (Nat.lt_of_lt_of_le (by have := World.block_lt_of_cell? _ _ hw667_0; first | rwa [add_block] at this | exact this) GW668.out))) _).trans (hHeld.2.2.2.2.1)))), ((cell_far (p := ⟨gb668, _, none⟩) (by first | exact Nat.ne_of_lt (Nat.lt_of_lt_of_le (by have := World.block_lt_of_cell? _ _ hw667_1; first | rwa [add_block] at this | exact this) GW668.out) | (rw [add_block]; exact Nat.ne_of_lt (Nat.lt_of_lt_of_le (by have := World.block_lt_of_cell? _ _ hw667_1; first | rwa [add_block] at this | exact this) GW668.out)) | (show (Addr.add _ _).block ≠ _; rw [add_block]; exact Nat.ne_of_lt (Nat.lt_of_lt_of_le (by have := World.block_lt_of_cell? _ _ hw667_1; first | rwa [add_block] at this | exact this) GW668.out)) | (dsimp only; exact Nat.ne_of_lt (Nat.lt_of_lt_of_le (by have := World.block_lt_of_cell? _ _ hw667_1; first | rwa [add_block] at this | exact this) GW668.out))) _).trans (((cell_far (p := ⟨gb668, _, none⟩) (by first | exact Nat.ne_of_lt (Nat.lt_of_lt_of_le (by have := World.block_lt_of_cell? _ _ hw667_1; first | rwa [add_block] at this | exact this) GW668.out) | (rw [add_block]; exact Nat.ne_of_lt (Nat.lt_of_lt_of_le (by have := World.block_lt_of_cell? _ _ hw667_1; first | rwa [add_block] at this | exact this) GW668.out)) | (show (Addr.add _ _).block ≠ _; rw [add_block]; exact Nat.ne_of_lt (Nat.lt_of_lt_of_le (by have := World.block_lt_of_cell? _ _ hw667_1; first | rwa [add_block] at this | exact this) GW668.out)) | (dsimp only; exact Nat.ne_of_lt (Nat.lt_of_lt_of_le (by have := World.block_lt_of_cell? _ _ hw667_1; first | rwa [add_block] at this | exact this) GW668.out))) _).trans (hHeld.2.2.2.2.2))))⟩ (fun hHeld => ?_)
       clear hK K
       refine one_ (i := 14) (N := none) #[true, true, true, true, true, true, true, true, true, true, true, true, true, true, true] rfl rfl (one_of HT_.out (by kernel_rfl)) (by decide) (fun K hK => ?_)
       have hs27 : w24.cell? ⟨gb669, 0, none⟩ = some (.int .i64 0) := (blk_cell BK669.out 0).trans rfl
       have hfs27 := blk_frozen BK669.out 0; have hns27_0 := NB662_669.out; have hns27_1 := NB663_669.out; have hns27_2 := NB664_669.out; have hns27_3 := NB665_669.out; have hns27_4 := NB668_669.out; have hms27_0 := NB669_662.out; have hms27_1 := NB669_663.out; have hms27_2 := NB669_664.out; have hms27_3 := NB669_665.out; have hms27_4 := NB669_668.out
       have hs28 : w24.cell? ⟨gb669, 1, none⟩ = some (.int .i64 0) := (blk_cell BK669.out 1).trans rfl
       have hfs28 := blk_frozen BK669.out 1; have hns28_0 := NB662_669.out; have hns28_1 := NB663_669.out; have hns28_2 := NB664_669.out; have hns28_3 := NB665_669.out; have hns28_4 := NB668_669.out; have hms28_0 := NB669_662.out; have hms28_1 := NB669_663.out; have hms28_2 := NB669_664.out; have hms28_3 := NB669_665.out; have hms28_4 := NB669_668.out
       refine skip_ (w1 := ?_) (by rfl) rfl ?_ ?_
       rotate_left
       ·go_simp
        rfl
       refine hK.out _ _ ⟨((cell_far (p := ⟨gb669, _, none⟩) NB662_669.out _).trans (((cell_far (p := ⟨gb669, _, none⟩) NB662_669.out _).trans (hHeld.1)))), ((cell_far (p := ⟨gb669, _, none⟩) NB662_669.out _).trans (((cell_far (p := ⟨gb669, _, none⟩) NB662_669.out _).trans (hHeld.2.1)))), ((cell_far (p := ⟨gb669, _, none⟩) (by first | exact Nat.ne_of_lt (Nat.lt_of_lt_of_le (by have := World.block_lt_of_cell? _ _ hw666_0; first | rwa [add_block] at this | exact this) GW669.out) | (rw [add_block]; exact Nat.ne_of_lt (Nat.lt_of_lt_of_le (by have := World.block_lt_of_cell? _ _ hw666_0; first | rwa [add_block] at this | exact this) GW669.out)) | (show (Addr.add _ _).block ≠ _; rw [add_block]; exact Nat.ne_of_lt (Nat.lt_of_lt_of_le (by have := World.block_lt_of_cell? _ _ hw666_0; first | rwa [add_block] at this | exact this) GW669.out)) | (dsimp only; exact Nat.ne_of_lt (Nat.lt_of_lt_of_le (by have := World.block_lt_of_cell? _ _ hw666_0; first | rwa [add_block] at this | exact this) GW669.out))) _).trans (((cell_far (p := ⟨gb669, _, none⟩) (by first | exact Nat.ne_of_lt (Nat.lt_of_lt_of_le (by have := World.block_lt_of_cell? _ _ hw666_0; first | rwa [add_block] at this | exact this) GW669.out) | (rw [add_block]; exact Nat.ne_of_lt (Nat.lt_of_lt_of_le (by have := World.block_lt_of_cell? _ _ hw666_0; first | rwa [add_block] at this | exact this) GW669.out)) | (show (Addr.add _ _).block ≠ _; rw [add_block]; exact Nat.ne_of_lt (Nat.lt_of_lt_of_le (by have := World.block_lt_of_cell? _ _ hw666_0; first | rwa [add_block] at this | exact this) GW669.out)) | (dsimp only; exact Nat.ne_of_lt (Nat.lt_of_lt_of_le (by have := World.block_lt_of_cell? _ _ hw666_0; first | rwa [add_block] at this | exact this) GW669.out))) _).trans (hHeld.2.2.1)))), ((cell_far (p := ⟨gb669, _, none⟩) (by first | exact Nat.ne_of_lt (Nat.lt_of_lt_of_le (by have := World.block_lt_of_cell? _ _ hw666_1; first | rwa [add_block] at this | exact this) GW669.out) | (rw [add_block]; exact Nat.ne_of_lt (Nat.lt_of_lt_of_le (by have := World.block_lt_of_cell? _ _ hw666_1; first | rwa [add_block] at this | exact this) GW669.out)) | (show (Addr.add _ _).block ≠ _; rw [add_block]; exact Nat.ne_of_lt (Nat.lt_of_lt_of_le (by have := World.block_lt_of_cell? _ _ hw666_1; first | rwa [add_block] at this | exact this) GW669.out)) | (dsimp only; exact Nat.ne_of_lt (Nat.lt_of_lt_of_le (by have := World.block_lt_of_cell? _ _ hw666_1; first | rwa [add_block] at this | exact this) GW669.out))) _).trans (((cell_far (p := ⟨gb669, _, none⟩) (by first | exact Nat.ne_of_lt (Nat.lt_of_lt_of_le (by have := World.block_lt_of_cell? _ _ hw666_1; first | rwa [add_block] at this | exact this) GW669.out) | (rw [add_block]; exact Nat.ne_of_lt (Nat.lt_of_lt_of_le (by have := World.block_lt_of_cell? _ _ hw666_1; first | rwa [add_block] at this | exact this) GW669.out)) | (show (Addr.add _ _).block ≠ _; rw [add_block]; exact Nat.ne_of_lt (Nat.lt_of_lt_of_le (by have := World.block_lt_of_cell? _ _ hw666_1; first | rwa [add_block] at this | exact this) GW669.out)) | (dsimp only; exact Nat.ne_of_lt (Nat.lt_of_lt_of_le (by have := World.block_lt_of_cell? _ _ hw666_1; first | rwa [add_block] at this | exact this) GW669.out))) _).trans (hHeld.2.2.2.1)))), ((cell_far (p := ⟨gb669, _, none⟩) (by first | exact Nat.ne_of_lt (Nat.lt_of_lt_of_le (by have := World.block_lt_of_cell? _ _ hw667_0; first | rwa [add_block] at this | exact this) GW669.out) | (rw [add_block]; exact Nat.ne_of_lt (Nat.lt_of_lt_of_le (by have := World.block_lt_of_cell? _ _ hw667_0; first | rwa [add_block] at this | exact this) GW669.out)) | (show (Addr.add _ _).block ≠ _; rw [add_block]; exact Nat.ne_of_lt (Nat.lt_of_lt_of_le (by have := World.block_lt_of_cell? _ _ hw667_0; first | rwa [add_block] at this | exact this) GW669.out)) | (dsimp only; exact Nat.ne_of_lt (Nat.lt_of_lt_of_le (by have := World.block_lt_of_cell? _ _ hw667_0; first | rwa [add_block] at this | exact this) GW669.out))) _).trans (((cell_far (p := ⟨gb669, _, none⟩) (by first | exact Nat.ne_of_lt (Nat.lt_of_lt_of_le (by have := World.block_lt_of_cell? _ _ hw667_0; first | rwa [add_block] at this | exact this) GW669.out) | (rw [add_block]; exact Nat.ne_of_lt (Nat.lt_of_lt_of_le (by have := World.block_lt_of_cell? _ _ hw667_0; first | rwa [add_block] at this | exact this) GW669.out)) | (show (Addr.add _ _).block ≠ _; rw [add_block]; exact Nat.ne_of_lt (Nat.lt_of_lt_of_le (by have := World.block_lt_of_cell? _ _ hw667_0; first | rwa [add_block] at this | exact this) GW669.out)) | (dsimp only; exact Nat.ne_of_lt (Nat.lt_of_lt_of_le (by have := World.block_lt_of_cell? _ _ hw667_0; first | rwa [add_block] at this | exact this) GW669.out))) _).trans (hHeld.2.2.2.2.1)))), ((cell_far (p := ⟨gb669, _, none⟩) (by first | exact Nat.ne_of_lt (Nat.lt_of_lt_of_le (by have := World.block_lt_of_cell? _ _ hw667_1; first | rwa [add_block] at this | exact this) GW669.out) | (rw [add_block]; exact Nat.ne_of_lt (Nat.lt_of_lt_of_le (by have := World.block_lt_of_cell? _ _ hw667_1; first | rwa [add_block] at this | exact this) GW669.out)) | (show (Addr.add _ _).block ≠ _; rw [add_block]; exact Nat.ne_of_lt (Nat.lt_of_lt_of_le (by have := World.block_lt_of_cell? _ _ hw667_1; first | rwa [add_block] at this | exact this) GW669.out)) | (dsimp only; exact Nat.ne_of_lt (Nat.lt_of_lt_of_le (by have := World.block_lt_of_cell? _ _ hw667_1; first | rwa [add_block] at this | exact this) GW669.out))) _).trans (((cell_far (p := ⟨gb669, _, none⟩) (by first | exact Nat.ne_of_lt (Nat.lt_of_lt_of_le (by have := World.block_lt_of_cell? _ _ hw667_1; first | rwa [add_block] at this | exact this) GW669.out) | (rw [add_block]; exact Nat.ne_of_lt (Nat.lt_of_lt_of_le (by have := World.block_lt_of_cell? _ _ hw667_1; first | rwa [add_block] at this | exact this) GW669.out)) | (show (Addr.add _ _).block ≠ _; rw [add_block]; exact Nat.ne_of_lt (Nat.lt_of_lt_of_le (by have := World.block_lt_of_cell? _ _ hw667_1; first | rwa [add_block] at this | exact this) GW669.out)) | (dsimp only; exact Nat.ne_of_lt (Nat.lt_of_lt_of_le (by have := World.block_lt_of_cell? _ _ hw667_1; first | rwa [add_block] at this | exact this) GW669.out))) _).trans (hHeld.2.2.2.2.2))))⟩ (fun hHeld => ?_)
       clear hK K
       refine done_ (done_of HT_.out (by kernel_rfl)) ?_
       go_upto_region 6 with (fail)
       go_cut [47] (fun v47 wc => ∃ (kq : Nat) (x47_15 : Bool), v47 = .bool x47_15 ∧ Sd (strength_steepest.j1 kq x6_1 x47_15 l0_0 a0_1 a1_0 a1_1 x666000_1 x666001_1 ((rd_T84 l0_0 (ji12)).f0) ((rd_T84 l0_0 (ji12)).f1) ((rd_T84 l0_0 x6_1).f0) ((rd_T84 l0_0 x6_1).f1) = some (r1, r2)) ∧ Sd (kq ≤ k1) ∧ Sd (wc.heap[gb662]? = some (.cells #[(.slice (some ad666) l0_0.length c0_0), .int .i64 a0_1] 71 (0, 0))) ∧ Sd (wc.heap[gb663]? = some (.cells #[.int .i64 a1_0, .int .i64 a1_1] 27 (0, 0))) ∧ Sd (wc.heap[gb664]? = some (.cells #[.int .i64 0, .int .i64 0] 141 (0, 0))) ∧ Sd (wc.heap[gb665]? = some (.cells #[.int .i64 x666000_1, .int .i64 x666001_1] 141 (0, 0))) ∧ Sd (wc.heap[gb668]? = some (.cells #[.int .i64 ((rd_T84 l0_0 (ji12)).f0), .int .i64 ((rd_T84 l0_0 (ji12)).f1)] 84 (0, 0))) ∧ Sd (wc.heap[gb669]? = some (.cells #[.int .i64 ((rd_T84 l0_0 x6_1).f0), .int .i64 ((rd_T84 l0_0 x6_1).f1)] 84 (0, 0))) ∧ Sd (Below w.heap.size w wc))
       case first =>
        have H := HC16.out; clear HC16
        by_cases c29 : ((rd_T84 l0_0 (ji12)).f1) ≤ ((rd_T84 l0_0 x6_1).f1)
        ·rw [if_pos c29] at H
         have c29b0 : decide (((rd_T84 l0_0 (ji12)).f1) ≤ ((rd_T84 l0_0 x6_1).f1)) = true := decide_eq_true c29
         clear c29
         (first | rw [c29b0] | (simp only [i64_w, i32_w]; rw [c29b0]) | skip)
         have H' := Sd.mk H; clear H; have hnb30 := NB668_662.out; have hnc30 := NB662_668.out; have hnb31 := NB668_663.out; have hnc31 := NB663_668.out; have hnb32 := NB668_664.out; have hnc32 := NB664_668.out; have hnb33 := NB668_665.out; have hnc33 := NB665_668.out; have hnb34 := NB668_669.out; have hnc34 := NB669_668.out; obtain ⟨u35_0, u35_1, o35_0, o35_1⟩ := bc2 (w := w24) BK668.out; have hnb36 := NB669_662.out; have hnc36 := NB662_669.out; have hnb37 := NB669_663.out; have hnc37 := NB663_669.out; have hnb38 := NB669_664.out; have hnc38 := NB664_669.out; have hnb39 := NB669_665.out; have hnc39 := NB665_669.out; obtain ⟨u40_0, u40_1, o40_0, o40_1⟩ := bc2 (w := w24) BK669.out
         go_wp2
         go_meet
         case rel => exact ⟨_, (true), tS, H', ⟨by have := HK1.out; first | omega | exact Nat.le_refl _⟩, ⟨by (with_reducible repeat (first | refine blk_drewN ?_ _ | refine blk_drew ?_ | refine blk_alloc ?_ _)); refine blk_far ?_ NB662_669.out _; (with_reducible repeat (first | refine blk_drewN ?_ _ | refine blk_drew ?_ | refine blk_alloc ?_ _)); refine blk_far ?_ NB662_669.out _; (with_reducible repeat (first | refine blk_drewN ?_ _ | refine blk_drew ?_ | refine blk_alloc ?_ _)); refine blk_far ?_ NB662_668.out _; (with_reducible repeat (first | refine blk_drewN ?_ _ | refine blk_drew ?_ | refine blk_alloc ?_ _)); refine blk_far ?_ NB662_668.out _; (with_reducible repeat (first | refine blk_drewN ?_ _ | refine blk_drew ?_ | refine blk_alloc ?_ _)); exact BK662.out⟩, ⟨by (with_reducible repeat (first | refine blk_drewN ?_ _ | refine blk_drew ?_ | refine blk_alloc ?_ _)); refine blk_far ?_ NB663_669.out _; (with_reducible repeat (first | refine blk_drewN ?_ _ | refine blk_drew ?_ | refine blk_alloc ?_ _)); refine blk_far ?_ NB663_669.out _; (with_reducible repeat (first | refine blk_drewN ?_ _ | refine blk_drew ?_ | refine blk_alloc ?_ _)); refine blk_far ?_ NB663_668.out _; (with_reducible repeat (first | refine blk_drewN ?_ _ | refine blk_drew ?_ | refine blk_alloc ?_ _)); refine blk_far ?_ NB663_668.out _; (with_reducible repeat (first | refine blk_drewN ?_ _ | refine blk_drew ?_ | refine blk_alloc ?_ _)); exact BK663.out⟩, ⟨by (with_reducible repeat (first | refine blk_drewN ?_ _ | refine blk_drew ?_ | refine blk_alloc ?_ _)); refine blk_far ?_ NB664_669.out _; (with_reducible repeat (first | refine blk_drewN ?_ _ | refine blk_drew ?_ | refine blk_alloc ?_ _)); refine blk_far ?_ NB664_669.out _; (with_reducible repeat (first | refine blk_drewN ?_ _ | refine blk_drew ?_ | refine blk_alloc ?_ _)); refine blk_far ?_ NB664_668.out _; (with_reducible repeat (first | refine blk_drewN ?_ _ | refine blk_drew ?_ | refine blk_alloc ?_ _)); refine blk_far ?_ NB664_668.out _; (with_reducible repeat (first | refine blk_drewN ?_ _ | refine blk_drew ?_ | refine blk_alloc ?_ _)); exact BK664.out⟩, ⟨by (with_reducible repeat (first | refine blk_drewN ?_ _ | refine blk_drew ?_ | refine blk_alloc ?_ _)); refine blk_far ?_ NB665_669.out _; (with_reducible repeat (first | refine blk_drewN ?_ _ | refine blk_drew ?_ | refine blk_alloc ?_ _)); refine blk_far ?_ NB665_669.out _; (with_reducible repeat (first | refine blk_drewN ?_ _ | refine blk_drew ?_ | refine blk_alloc ?_ _)); refine blk_far ?_ NB665_668.out _; (with_reducible repeat (first | refine blk_drewN ?_ _ | refine blk_drew ?_ | refine blk_alloc ?_ _)); refine blk_far ?_ NB665_668.out _; (with_reducible repeat (first | refine blk_drewN ?_ _ | refine blk_drew ?_ | refine blk_alloc ?_ _)); exact BK665.out⟩, ⟨by (with_reducible repeat (first | refine blk_drewN ?_ _ | refine blk_drew ?_ | refine blk_alloc ?_ _)); refine blk_far ?_ NB668_669.out _; (with_reducible repeat (first | refine blk_drewN ?_ _ | refine blk_drew ?_ | refine blk_alloc ?_ _)); refine blk_far ?_ NB668_669.out _; (with_reducible repeat (first | refine blk_drewN ?_ _ | refine blk_drew ?_ | refine blk_alloc ?_ _)); refine blk_put (cs := #[.int .i64 ((rd_T84 l0_0 (ji12)).f0), .int .i64 0]) ?_ 1 _ rfl; (with_reducible repeat (first | refine blk_drewN ?_ _ | refine blk_drew ?_ | refine blk_alloc ?_ _)); refine blk_put (cs := #[.int .i64 0, .int .i64 0]) ?_ 0 _ rfl; (with_reducible repeat (first | refine blk_drewN ?_ _ | refine blk_drew ?_ | refine blk_alloc ?_ _)); exact BK668.out⟩, ⟨by (with_reducible repeat (first | refine blk_drewN ?_ _ | refine blk_drew ?_ | refine blk_alloc ?_ _)); refine blk_put (cs := #[.int .i64 ((rd_T84 l0_0 x6_1).f0), .int .i64 0]) ?_ 1 _ rfl; (with_reducible repeat (first | refine blk_drewN ?_ _ | refine blk_drew ?_ | refine blk_alloc ?_ _)); refine blk_put (cs := #[.int .i64 0, .int .i64 0]) ?_ 0 _ rfl; (with_reducible repeat (first | refine blk_drewN ?_ _ | refine blk_drew ?_ | refine blk_alloc ?_ _)); refine blk_far ?_ NB669_668.out _; (with_reducible repeat (first | refine blk_drewN ?_ _ | refine blk_drew ?_ | refine blk_alloc ?_ _)); refine blk_far ?_ NB669_668.out _; (with_reducible repeat (first | refine blk_drewN ?_ _ | refine blk_drew ?_ | refine blk_alloc ?_ _)); exact BK669.out⟩, ⟨bBl HB.out⟩⟩
        ·rw [if_neg c29] at H
         have c29b0 : decide (((rd_T84 l0_0 (ji12)).f1) ≤ ((rd_T84 l0_0 x6_1).f1)) = false := decide_eq_false c29
         clear c29
         (first | rw [c29b0] | (simp only [i64_w, i32_w]; rw [c29b0]) | skip)
         by_cases c41 : ((rd_T84 l0_0 x6_1).f1) > a1_1
         ·rw [if_pos c41] at H
          have c41b0 : decide (a1_1 < ((rd_T84 l0_0 x6_1).f1)) = true := decide_eq_true c41
          clear c41; have H' := Sd.mk H; clear H; have hnb42 := NB668_662.out; have hnc42 := NB662_668.out; have hnb43 := NB668_663.out; have hnc43 := NB663_668.out; have hnb44 := NB668_664.out; have hnc44 := NB664_668.out; have hnb45 := NB668_665.out; have hnc45 := NB665_668.out; have hnb46 := NB668_669.out; have hnc46 := NB669_668.out; obtain ⟨u47_0, u47_1, o47_0, o47_1⟩ := bc2 (w := w24) BK668.out; have hnb48 := NB669_662.out; have hnc48 := NB662_669.out; have hnb49 := NB669_663.out; have hnc49 := NB663_669.out; have hnb50 := NB669_664.out; have hnc50 := NB664_669.out; have hnb51 := NB669_665.out; have hnc51 := NB665_669.out; obtain ⟨u52_0, u52_1, o52_0, o52_1⟩ := bc2 (w := w24) BK669.out; have hnb53 := NB663_662.out; have hnc53 := NB662_663.out; have hnb54 := NB663_664.out; have hnc54 := NB664_663.out; have hnb55 := NB663_665.out; have hnc55 := NB665_663.out; obtain ⟨u56_0, u56_1, o56_0, o56_1⟩ := bc2 (w := w24) BK663.out
          go_wp2
          go_meet
          case rel => exact ⟨_, (true), tS, H', ⟨by have := HK1.out; first | omega | exact Nat.le_refl _⟩, ⟨by (with_reducible repeat (first | refine blk_drewN ?_ _ | refine blk_drew ?_ | refine blk_alloc ?_ _)); refine blk_far ?_ NB662_669.out _; (with_reducible repeat (first | refine blk_drewN ?_ _ | refine blk_drew ?_ | refine blk_alloc ?_ _)); refine blk_far ?_ NB662_669.out _; (with_reducible repeat (first | refine blk_drewN ?_ _ | refine blk_drew ?_ | refine blk_alloc ?_ _)); refine blk_far ?_ NB662_668.out _; (with_reducible repeat (first | refine blk_drewN ?_ _ | refine blk_drew ?_ | refine blk_alloc ?_ _)); refine blk_far ?_ NB662_668.out _; (with_reducible repeat (first | refine blk_drewN ?_ _ | refine blk_drew ?_ | refine blk_alloc ?_ _)); exact BK662.out⟩, ⟨by (with_reducible repeat (first | refine blk_drewN ?_ _ | refine blk_drew ?_ | refine blk_alloc ?_ _)); refine blk_far ?_ NB663_669.out _; (with_reducible repeat (first | refine blk_drewN ?_ _ | refine blk_drew ?_ | refine blk_alloc ?_ _)); refine blk_far ?_ NB663_669.out _; (with_reducible repeat (first | refine blk_drewN ?_ _ | refine blk_drew ?_ | refine blk_alloc ?_ _)); refine blk_far ?_ NB663_668.out _; (with_reducible repeat (first | refine blk_drewN ?_ _ | refine blk_drew ?_ | refine blk_alloc ?_ _)); refine blk_far ?_ NB663_668.out _; (with_reducible repeat (first | refine blk_drewN ?_ _ | refine blk_drew ?_ | refine blk_alloc ?_ _)); exact BK663.out⟩, ⟨by (with_reducible repeat (first | refine blk_drewN ?_ _ | refine blk_drew ?_ | refine blk_alloc ?_ _)); refine blk_far ?_ NB664_669.out _; (with_reducible repeat (first | refine blk_drewN ?_ _ | refine blk_drew ?_ | refine blk_alloc ?_ _)); refine blk_far ?_ NB664_669.out _; (with_reducible repeat (first | refine blk_drewN ?_ _ | refine blk_drew ?_ | refine blk_alloc ?_ _)); refine blk_far ?_ NB664_668.out _; (with_reducible repeat (first | refine blk_drewN ?_ _ | refine blk_drew ?_ | refine blk_alloc ?_ _)); refine blk_far ?_ NB664_668.out _; (with_reducible repeat (first | refine blk_drewN ?_ _ | refine blk_drew ?_ | refine blk_alloc ?_ _)); exact BK664.out⟩, ⟨by (with_reducible repeat (first | refine blk_drewN ?_ _ | refine blk_drew ?_ | refine blk_alloc ?_ _)); refine blk_far ?_ NB665_669.out _; (with_reducible repeat (first | refine blk_drewN ?_ _ | refine blk_drew ?_ | refine blk_alloc ?_ _)); refine blk_far ?_ NB665_669.out _; (with_reducible repeat (first | refine blk_drewN ?_ _ | refine blk_drew ?_ | refine blk_alloc ?_ _)); refine blk_far ?_ NB665_668.out _; (with_reducible repeat (first | refine blk_drewN ?_ _ | refine blk_drew ?_ | refine blk_alloc ?_ _)); refine blk_far ?_ NB665_668.out _; (with_reducible repeat (first | refine blk_drewN ?_ _ | refine blk_drew ?_ | refine blk_alloc ?_ _)); exact BK665.out⟩, ⟨by (with_reducible repeat (first | refine blk_drewN ?_ _ | refine blk_drew ?_ | refine blk_alloc ?_ _)); refine blk_far ?_ NB668_669.out _; (with_reducible repeat (first | refine blk_drewN ?_ _ | refine blk_drew ?_ | refine blk_alloc ?_ _)); refine blk_far ?_ NB668_669.out _; (with_reducible repeat (first | refine blk_drewN ?_ _ | refine blk_drew ?_ | refine blk_alloc ?_ _)); refine blk_put (cs := #[.int .i64 ((rd_T84 l0_0 (ji12)).f0), .int .i64 0]) ?_ 1 _ rfl; (with_reducible repeat (first | refine blk_drewN ?_ _ | refine blk_drew ?_ | refine blk_alloc ?_ _)); refine blk_put (cs := #[.int .i64 0, .int .i64 0]) ?_ 0 _ rfl; (with_reducible repeat (first | refine blk_drewN ?_ _ | refine blk_drew ?_ | refine blk_alloc ?_ _)); exact BK668.out⟩, ⟨by (with_reducible repeat (first | refine blk_drewN ?_ _ | refine blk_drew ?_ | refine blk_alloc ?_ _)); refine blk_put (cs := #[.int .i64 ((rd_T84 l0_0 x6_1).f0), .int .i64 0]) ?_ 1 _ rfl; (with_reducible repeat (first | refine blk_drewN ?_ _ | refine blk_drew ?_ | refine blk_alloc ?_ _)); refine blk_put (cs := #[.int .i64 0, .int .i64 0]) ?_ 0 _ rfl; (with_reducible repeat (first | refine blk_drewN ?_ _ | refine blk_drew ?_ | refine blk_alloc ?_ _)); refine blk_far ?_ NB669_668.out _; (with_reducible repeat (first | refine blk_drewN ?_ _ | refine blk_drew ?_ | refine blk_alloc ?_ _)); refine blk_far ?_ NB669_668.out _; (with_reducible repeat (first | refine blk_drewN ?_ _ | refine blk_drew ?_ | refine blk_alloc ?_ _)); exact BK669.out⟩, ⟨bBl HB.out⟩⟩
         ·rw [if_neg c41] at H
          have c41b0 : decide (a1_1 < ((rd_T84 l0_0 x6_1).f1)) = false := decide_eq_false c41
          clear c41; have H' := Sd.mk H; clear H; have hnb57 := NB668_662.out; have hnc57 := NB662_668.out; have hnb58 := NB668_663.out; have hnc58 := NB663_668.out; have hnb59 := NB668_664.out; have hnc59 := NB664_668.out; have hnb60 := NB668_665.out; have hnc60 := NB665_668.out; have hnb61 := NB668_669.out; have hnc61 := NB669_668.out; obtain ⟨u62_0, u62_1, o62_0, o62_1⟩ := bc2 (w := w24) BK668.out; have hnb63 := NB669_662.out; have hnc63 := NB662_669.out; have hnb64 := NB669_663.out; have hnc64 := NB663_669.out; have hnb65 := NB669_664.out; have hnc65 := NB664_669.out; have hnb66 := NB669_665.out; have hnc66 := NB665_669.out; obtain ⟨u67_0, u67_1, o67_0, o67_1⟩ := bc2 (w := w24) BK669.out; have hnb68 := NB663_662.out; have hnc68 := NB662_663.out; have hnb69 := NB663_664.out; have hnc69 := NB664_663.out; have hnb70 := NB663_665.out; have hnc70 := NB665_663.out; obtain ⟨u71_0, u71_1, o71_0, o71_1⟩ := bc2 (w := w24) BK663.out
          go_wp2
          go_meet
          case rel => exact ⟨_, (decide (((rd_T84 l0_0 (ji12)).f1) < a1_0)), (by first | rfl | (simp; done) | (simp only [← hji12] <;> (first | rfl | simp)) | (simp [*]; done)), H', ⟨by have := HK1.out; first | omega | exact Nat.le_refl _⟩, ⟨by (with_reducible repeat (first | refine blk_drewN ?_ _ | refine blk_drew ?_ | refine blk_alloc ?_ _)); refine blk_far ?_ NB662_669.out _; (with_reducible repeat (first | refine blk_drewN ?_ _ | refine blk_drew ?_ | refine blk_alloc ?_ _)); refine blk_far ?_ NB662_669.out _; (with_reducible repeat (first | refine blk_drewN ?_ _ | refine blk_drew ?_ | refine blk_alloc ?_ _)); refine blk_far ?_ NB662_668.out _; (with_reducible repeat (first | refine blk_drewN ?_ _ | refine blk_drew ?_ | refine blk_alloc ?_ _)); refine blk_far ?_ NB662_668.out _; (with_reducible repeat (first | refine blk_drewN ?_ _ | refine blk_drew ?_ | refine blk_alloc ?_ _)); exact BK662.out⟩, ⟨by (with_reducible repeat (first | refine blk_drewN ?_ _ | refine blk_drew ?_ | refine blk_alloc ?_ _)); refine blk_far ?_ NB663_669.out _; (with_reducible repeat (first | refine blk_drewN ?_ _ | refine blk_drew ?_ | refine blk_alloc ?_ _)); refine blk_far ?_ NB663_669.out _; (with_reducible repeat (first | refine blk_drewN ?_ _ | refine blk_drew ?_ | refine blk_alloc ?_ _)); refine blk_far ?_ NB663_668.out _; (with_reducible repeat (first | refine blk_drewN ?_ _ | refine blk_drew ?_ | refine blk_alloc ?_ _)); refine blk_far ?_ NB663_668.out _; (with_reducible repeat (first | refine blk_drewN ?_ _ | refine blk_drew ?_ | refine blk_alloc ?_ _)); exact BK663.out⟩, ⟨by (with_reducible repeat (first | refine blk_drewN ?_ _ | refine blk_drew ?_ | refine blk_alloc ?_ _)); refine blk_far ?_ NB664_669.out _; (with_reducible repeat (first | refine blk_drewN ?_ _ | refine blk_drew ?_ | refine blk_alloc ?_ _)); refine blk_far ?_ NB664_669.out _; (with_reducible repeat (first | refine blk_drewN ?_ _ | refine blk_drew ?_ | refine blk_alloc ?_ _)); refine blk_far ?_ NB664_668.out _; (with_reducible repeat (first | refine blk_drewN ?_ _ | refine blk_drew ?_ | refine blk_alloc ?_ _)); refine blk_far ?_ NB664_668.out _; (with_reducible repeat (first | refine blk_drewN ?_ _ | refine blk_drew ?_ | refine blk_alloc ?_ _)); exact BK664.out⟩, ⟨by (with_reducible repeat (first | refine blk_drewN ?_ _ | refine blk_drew ?_ | refine blk_alloc ?_ _)); refine blk_far ?_ NB665_669.out _; (with_reducible repeat (first | refine blk_drewN ?_ _ | refine blk_drew ?_ | refine blk_alloc ?_ _)); refine blk_far ?_ NB665_669.out _; (with_reducible repeat (first | refine blk_drewN ?_ _ | refine blk_drew ?_ | refine blk_alloc ?_ _)); refine blk_far ?_ NB665_668.out _; (with_reducible repeat (first | refine blk_drewN ?_ _ | refine blk_drew ?_ | refine blk_alloc ?_ _)); refine blk_far ?_ NB665_668.out _; (with_reducible repeat (first | refine blk_drewN ?_ _ | refine blk_drew ?_ | refine blk_alloc ?_ _)); exact BK665.out⟩, ⟨by (with_reducible repeat (first | refine blk_drewN ?_ _ | refine blk_drew ?_ | refine blk_alloc ?_ _)); refine blk_far ?_ NB668_669.out _; (with_reducible repeat (first | refine blk_drewN ?_ _ | refine blk_drew ?_ | refine blk_alloc ?_ _)); refine blk_far ?_ NB668_669.out _; (with_reducible repeat (first | refine blk_drewN ?_ _ | refine blk_drew ?_ | refine blk_alloc ?_ _)); refine blk_put (cs := #[.int .i64 ((rd_T84 l0_0 (ji12)).f0), .int .i64 0]) ?_ 1 _ rfl; (with_reducible repeat (first | refine blk_drewN ?_ _ | refine blk_drew ?_ | refine blk_alloc ?_ _)); refine blk_put (cs := #[.int .i64 0, .int .i64 0]) ?_ 0 _ rfl; (with_reducible repeat (first | refine blk_drewN ?_ _ | refine blk_drew ?_ | refine blk_alloc ?_ _)); exact BK668.out⟩, ⟨by (with_reducible repeat (first | refine blk_drewN ?_ _ | refine blk_drew ?_ | refine blk_alloc ?_ _)); refine blk_put (cs := #[.int .i64 ((rd_T84 l0_0 x6_1).f0), .int .i64 0]) ?_ 1 _ rfl; (with_reducible repeat (first | refine blk_drewN ?_ _ | refine blk_drew ?_ | refine blk_alloc ?_ _)); refine blk_put (cs := #[.int .i64 0, .int .i64 0]) ?_ 0 _ rfl; (with_reducible repeat (first | refine blk_drewN ?_ _ | refine blk_drew ?_ | refine blk_alloc ?_ _)); refine blk_far ?_ NB669_668.out _; (with_reducible repeat (first | refine blk_drewN ?_ _ | refine blk_drew ?_ | refine blk_alloc ?_ _)); refine blk_far ?_ NB669_668.out _; (with_reducible repeat (first | refine blk_drewN ?_ _ | refine blk_drew ?_ | refine blk_alloc ?_ _)); exact BK669.out⟩, ⟨bBl HB.out⟩⟩
       case rest =>
        clear HC16; (try clear c2); (try clear p2); (try clear c3); (try clear c4); (try clear c5); (try clear c6); (try clear p6); (try clear q6); (try clear hx6); (try clear c7); (try clear c29); (try clear c29b0); (try clear c30); (try clear c31); (try clear c32); (try clear c33); (try clear c34); (try clear c36); (try clear c37); (try clear c38); (try clear c39); (try clear c41); (try clear c41b0); (try clear c42); (try clear c43); (try clear c44); (try clear c45); (try clear c46); (try clear c48); (try clear c49); (try clear c50); (try clear c51); (try clear c53); (try clear c54); (try clear c55); (try clear c57); (try clear c58); (try clear c59); (try clear c60); (try clear c61); (try clear c63); (try clear c64); (try clear c65); (try clear c66); (try clear p66); (try clear q66); (try clear hx66); (try clear c68); (try clear c69); (try clear c70); (try clear u35_0 u35_1); (try clear u40_0 u40_1); (try clear u47_0 u47_1); (try clear u52_0 u52_1); (try clear u56_0 u56_1); (try clear u62_0 u62_1); (try clear u67_0 u67_1); (try clear u71_0 u71_1); (try clear o35_0 o35_1); (try clear o40_0 o40_1); (try clear o47_0 o47_1); (try clear o52_0 o52_1); (try clear o56_0 o56_1); (try clear o62_0 o62_1); (try clear o67_0 o67_1); (try clear o71_0 o71_1); (try clear hx666_0); (try clear hx666_1); (try clear hx667_0); (try clear hx667_1); (try clear p666); (try clear p667); (try clear q666); (try clear q667); obtain ⟨kq, x47_15, rfl, HA, HJ15, BK662, BK663, BK664, BK665, BK668, BK669, HB⟩ := hcut
        cases kq with
        | zero => exact absurd HA.out (by simp [strength_steepest.j1])
        | succ kj15 =>
         have H := HA.out; clear HA
         simp only [strength_steepest.j1] at H
         by_cases c72 : x47_15 = true
         ·subst c72
          have H1 : (strength_steepest.l0 kj15 (wrap64 (x6_1 + 1)) l0_0 a0_1 a1_0 a1_1 x666000_1 x666001_1) = some (r1, r2) := by rw [if_pos rfl] at H; exact H
          clear H; have H := H1; clear H1; have H' := Sd.mk H; clear H
          go_wp2
          go_roundg kj15
          case measure => have := HK1.out; have := HJ15.out; omega
          case rel => exact ⟨(wrap64 (x6_1 + 1)), (x666000_1), (x666001_1), tS, H', ⟨by have := HK1.out; have := HJ15.out; omega⟩, ⟨bkA BK662.out⟩, ⟨bkA BK663.out⟩, ⟨bkA BK664.out⟩, ⟨bkA BK665.out⟩, ⟨bBl HB.out⟩⟩
         ·replace c72 := Bool.eq_false_iff.mpr c72
          subst c72
          have H1 : ((strength_quotient_above.f (wrap64 (((rd_T84 l0_0 (ji12)).f1) - ((rd_T84 l0_0 x6_1).f1))) (wrap64 (((rd_T84 l0_0 x6_1).f0) - ((rd_T84 l0_0 (ji12)).f0))) x666000_1 x666001_1).bind fun t671 => (if t671 = true then (strength_steepest.l0 kj15 (wrap64 (x6_1 + 1)) l0_0 a0_1 a1_0 a1_1 (wrap64 (((rd_T84 l0_0 (ji12)).f1) - ((rd_T84 l0_0 x6_1).f1))) (wrap64 (((rd_T84 l0_0 x6_1).f0) - ((rd_T84 l0_0 (ji12)).f0)))) else (strength_steepest.l0 kj15 (wrap64 (x6_1 + 1)) l0_0 a0_1 a1_0 a1_1 x666000_1 x666001_1))) = some (r1, r2) := by rw [if_neg (show ¬ (false = true) by decide)] at H; exact H
          clear H; have H := H1; clear H1; replace H := Option.bind_eq_some_iff.mp H; obtain ⟨t671, A730, H⟩ := H
          try dsimp only at H
          have A73 := Sd.mk A730; clear A730
          by_cases c74 : t671 = true
          ·subst c74
           have H1 : (strength_steepest.l0 kj15 (wrap64 (x6_1 + 1)) l0_0 a0_1 a1_0 a1_1 (wrap64 (((rd_T84 l0_0 (ji12)).f1) - ((rd_T84 l0_0 x6_1).f1))) (wrap64 (((rd_T84 l0_0 x6_1).f0) - ((rd_T84 l0_0 (ji12)).f0)))) = some (r1, r2) := by rw [if_pos rfl] at H; exact H
           clear H; have H := H1; clear H1; have H' := Sd.mk H; clear H; have hnb75 := NB668_662.out; have hnc75 := NB662_668.out; have hnb76 := NB668_663.out; have hnc76 := NB663_668.out; have hnb77 := NB668_664.out; have hnc77 := NB664_668.out; have hnb78 := NB668_665.out; have hnc78 := NB665_668.out; have hnb79 := NB668_669.out; have hnc79 := NB669_668.out; obtain ⟨u80_0, u80_1, o80_0, o80_1⟩ := bc2 (w := wc) BK668.out; have hnb81 := NB669_662.out; have hnc81 := NB662_669.out; have hnb82 := NB669_663.out; have hnc82 := NB663_669.out; have hnb83 := NB669_664.out; have hnc83 := NB664_669.out; have hnb84 := NB669_665.out; have hnc84 := NB665_669.out; obtain ⟨u85_0, u85_1, o85_0, o85_1⟩ := bc2 (w := wc) BK669.out
           go_wp2_with (first | ((with_reducible refine gate_dst (N := 9) rfl ?_); refine box_event ?hg (N := 9) ?hd (cs := #[.int .i64 0, .int .i64 0]) (t := 141) ?hr ?_; (case hd => rfl); (case hg => rfl); (case hr => exact tG); intro gb670 hg w86 hbox hb; have BK670 := Sd.mk (hbox); have GW670 := Sd.mk (bSz hg (bBl HB.out)); have GE670 := Sd.mk (bSz hg (bBl HB.out)); replace HB := Sd.mk (below_step (bBl HB.out) hb); have NB662_670 := Sd.mk (bNl hg (bkA BK662.out)); have NB670_662 := Sd.mk (bNg hg (bkA BK662.out)); replace BK662 := Sd.mk (blk_below (bkA BK662.out) hb); have NB663_670 := Sd.mk (bNl hg (bkA BK663.out)); have NB670_663 := Sd.mk (bNg hg (bkA BK663.out)); replace BK663 := Sd.mk (blk_below (bkA BK663.out) hb); have NB664_670 := Sd.mk (bNl hg (bkA BK664.out)); have NB670_664 := Sd.mk (bNg hg (bkA BK664.out)); replace BK664 := Sd.mk (blk_below (bkA BK664.out) hb); have NB665_670 := Sd.mk (bNl hg (bkA BK665.out)); have NB670_665 := Sd.mk (bNg hg (bkA BK665.out)); replace BK665 := Sd.mk (blk_below (bkA BK665.out) hb); have NB668_670 := Sd.mk (bNl hg (bkA BK668.out)); have NB670_668 := Sd.mk (bNg hg (bkA BK668.out)); replace BK668 := Sd.mk (blk_below (bkA BK668.out) hb); have NB669_670 := Sd.mk (bNl hg (bkA BK669.out)); have NB670_669 := Sd.mk (bNg hg (bkA BK669.out)); replace BK669 := Sd.mk (blk_below (bkA BK669.out) hb); clear hb hbox hg; have hnb87 := NB670_662.out; have hnc87 := NB662_670.out; have hnb88 := NB670_663.out; have hnc88 := NB663_670.out; have hnb89 := NB670_664.out; have hnc89 := NB664_670.out; have hnb90 := NB670_665.out; have hnc90 := NB665_670.out; have hnb91 := NB670_668.out; have hnc91 := NB668_670.out; have hnb92 := NB670_669.out; have hnc92 := NB669_670.out; obtain ⟨u93_0, u93_1, o93_0, o93_1⟩ := bc2 (w := w86) BK670.out; have hnb94 := NB665_662.out; have hnc94 := NB662_665.out; have hnb95 := NB665_663.out; have hnc95 := NB663_665.out; have hnb96 := NB665_664.out; have hnc96 := NB664_665.out; obtain ⟨u97_0, u97_1, o97_0, o97_1⟩ := bc2 (w := w86) BK665.out) | ((with_reducible refine gate_callee (f := 146) rfl ?_); refine goesL_ (some 61) rfl rfl Try.func146 (by kernel_rfl) rfl #[.agg #[.int .i64 (wrap64 (((rd_T84 l0_0 (ji12)).f1) - ((rd_T84 l0_0 x6_1).f1))), .int .i64 (wrap64 (((rd_T84 l0_0 x6_1).f0) - ((rd_T84 l0_0 (ji12)).f0)))], .agg #[.int .i64 x666000_1, .int .i64 x666001_1]] rfl (by (try simp only [List.map_toArray, List.map_cons, List.map_nil]); first | done | (simp only [hji12]; rfl) | rfl | (simp only [List.length_drop, List.length_take]; rfl)) ?_; (with_reducible refine (strength_quotient_above.calls (wrap64 (((rd_T84 l0_0 (ji12)).f1) - ((rd_T84 l0_0 x6_1).f1))) (wrap64 (((rd_T84 l0_0 x6_1).f0) - ((rd_T84 l0_0 (ji12)).f0))) x666000_1 x666001_1 true _ A73.out).mono ?_); rintro e w98 ⟨rfl, hb⟩; refine ⟨_, rfl, ?_⟩; replace BK662 := Sd.mk (blk_below (g := gb662) (o := .cells #[.slice (some ad666) l0_0.length c0_0, .int .i64 a0_1] 71 (0, 0)) (by (with_reducible repeat (first | refine blk_drewN ?_ _ | refine blk_drew ?_ | refine blk_alloc ?_ _)); refine blk_far ?_ NB662_670.out _; (with_reducible repeat (first | refine blk_drewN ?_ _ | refine blk_drew ?_ | refine blk_alloc ?_ _)); refine blk_far ?_ NB662_670.out _; (with_reducible repeat (first | refine blk_drewN ?_ _ | refine blk_drew ?_ | refine blk_alloc ?_ _)); exact BK662.out) hb); replace BK663 := Sd.mk (blk_below (g := gb663) (o := .cells #[.int .i64 a1_0, .int .i64 a1_1] 27 (0, 0)) (by (with_reducible repeat (first | refine blk_drewN ?_ _ | refine blk_drew ?_ | refine blk_alloc ?_ _)); refine blk_far ?_ NB663_670.out _; (with_reducible repeat (first | refine blk_drewN ?_ _ | refine blk_drew ?_ | refine blk_alloc ?_ _)); refine blk_far ?_ NB663_670.out _; (with_reducible repeat (first | refine blk_drewN ?_ _ | refine blk_drew ?_ | refine blk_alloc ?_ _)); exact BK663.out) hb); replace BK664 := Sd.mk (blk_below (g := gb664) (o := .cells #[.int .i64 0, .int .i64 0] 141 (0, 0)) (by (with_reducible repeat (first | refine blk_drewN ?_ _ | refine blk_drew ?_ | refine blk_alloc ?_ _)); refine blk_far ?_ NB664_670.out _; (with_reducible repeat (first | refine blk_drewN ?_ _ | refine blk_drew ?_ | refine blk_alloc ?_ _)); refine blk_far ?_ NB664_670.out _; (with_reducible repeat (first | refine blk_drewN ?_ _ | refine blk_drew ?_ | refine blk_alloc ?_ _)); exact BK664.out) hb); replace BK665 := Sd.mk (blk_below (g := gb665) (o := .cells #[.int .i64 x666000_1, .int .i64 x666001_1] 141 (0, 0)) (by (with_reducible repeat (first | refine blk_drewN ?_ _ | refine blk_drew ?_ | refine blk_alloc ?_ _)); refine blk_far ?_ NB665_670.out _; (with_reducible repeat (first | refine blk_drewN ?_ _ | refine blk_drew ?_ | refine blk_alloc ?_ _)); refine blk_far ?_ NB665_670.out _; (with_reducible repeat (first | refine blk_drewN ?_ _ | refine blk_drew ?_ | refine blk_alloc ?_ _)); exact BK665.out) hb); replace BK668 := Sd.mk (blk_below (g := gb668) (o := .cells #[.int .i64 ((rd_T84 l0_0 (ji12)).f0), .int .i64 ((rd_T84 l0_0 (ji12)).f1)] 84 (0, 0)) (by (with_reducible repeat (first | refine blk_drewN ?_ _ | refine blk_drew ?_ | refine blk_alloc ?_ _)); refine blk_far ?_ NB668_670.out _; (with_reducible repeat (first | refine blk_drewN ?_ _ | refine blk_drew ?_ | refine blk_alloc ?_ _)); refine blk_far ?_ NB668_670.out _; (with_reducible repeat (first | refine blk_drewN ?_ _ | refine blk_drew ?_ | refine blk_alloc ?_ _)); exact BK668.out) hb); replace BK669 := Sd.mk (blk_below (g := gb669) (o := .cells #[.int .i64 ((rd_T84 l0_0 x6_1).f0), .int .i64 ((rd_T84 l0_0 x6_1).f1)] 84 (0, 0)) (by (with_reducible repeat (first | refine blk_drewN ?_ _ | refine blk_drew ?_ | refine blk_alloc ?_ _)); refine blk_far ?_ NB669_670.out _; (with_reducible repeat (first | refine blk_drewN ?_ _ | refine blk_drew ?_ | refine blk_alloc ?_ _)); refine blk_far ?_ NB669_670.out _; (with_reducible repeat (first | refine blk_drewN ?_ _ | refine blk_drew ?_ | refine blk_alloc ?_ _)); exact BK669.out) hb); replace BK670 := Sd.mk (blk_below (g := gb670) (o := .cells #[.int .i64 (wrap64 (((rd_T84 l0_0 (ji12)).f1) - ((rd_T84 l0_0 x6_1).f1))), .int .i64 (wrap64 (((rd_T84 l0_0 x6_1).f0) - ((rd_T84 l0_0 (ji12)).f0)))] 141 (0, 0)) (by (with_reducible repeat (first | refine blk_drewN ?_ _ | refine blk_drew ?_ | refine blk_alloc ?_ _)); refine blk_put (cs := #[.int .i64 (wrap64 (((rd_T84 l0_0 (ji12)).f1) - ((rd_T84 l0_0 x6_1).f1))), .int .i64 0]) ?_ 1 _ rfl; (with_reducible repeat (first | refine blk_drewN ?_ _ | refine blk_drew ?_ | refine blk_alloc ?_ _)); refine blk_put (cs := #[.int .i64 0, .int .i64 0]) ?_ 0 _ rfl; (with_reducible repeat (first | refine blk_drewN ?_ _ | refine blk_drew ?_ | refine blk_alloc ?_ _)); exact BK670.out) hb); replace HB := Sd.mk (below_step (bBl HB.out) hb); (try clear hb); (try clear hb2); (try clear hk); (try clear hi); obtain ⟨u99_0, u99_1, o99_0, o99_1⟩ := bc2 (w := w98) BK670.out; obtain ⟨u100_0, u100_1, o100_0, o100_1⟩ := bc2 (w := w98) BK665.out))
           go_roundg kj15
           case measure => have := HK1.out; have := HJ15.out; omega
           case rel => exact ⟨(wrap64 (x6_1 + 1)), (wrap64 (((rd_T84 l0_0 (ji12)).f1) - ((rd_T84 l0_0 x6_1).f1))), (wrap64 (((rd_T84 l0_0 x6_1).f0) - ((rd_T84 l0_0 (ji12)).f0))), tS, H', ⟨by have := HK1.out; have := HJ15.out; omega⟩, ⟨by (with_reducible repeat (first | refine blk_drewN ?_ _ | refine blk_drew ?_ | refine blk_alloc ?_ _)); refine blk_far ?_ NB662_665.out _; (with_reducible repeat (first | refine blk_drewN ?_ _ | refine blk_drew ?_ | refine blk_alloc ?_ _)); refine blk_far ?_ NB662_665.out _; (with_reducible repeat (first | refine blk_drewN ?_ _ | refine blk_drew ?_ | refine blk_alloc ?_ _)); exact BK662.out⟩, ⟨by (with_reducible repeat (first | refine blk_drewN ?_ _ | refine blk_drew ?_ | refine blk_alloc ?_ _)); refine blk_far ?_ NB663_665.out _; (with_reducible repeat (first | refine blk_drewN ?_ _ | refine blk_drew ?_ | refine blk_alloc ?_ _)); refine blk_far ?_ NB663_665.out _; (with_reducible repeat (first | refine blk_drewN ?_ _ | refine blk_drew ?_ | refine blk_alloc ?_ _)); exact BK663.out⟩, ⟨by (with_reducible repeat (first | refine blk_drewN ?_ _ | refine blk_drew ?_ | refine blk_alloc ?_ _)); refine blk_far ?_ NB664_665.out _; (with_reducible repeat (first | refine blk_drewN ?_ _ | refine blk_drew ?_ | refine blk_alloc ?_ _)); refine blk_far ?_ NB664_665.out _; (with_reducible repeat (first | refine blk_drewN ?_ _ | refine blk_drew ?_ | refine blk_alloc ?_ _)); exact BK664.out⟩, ⟨by (with_reducible repeat (first | refine blk_drewN ?_ _ | refine blk_drew ?_ | refine blk_alloc ?_ _)); refine blk_put (cs := #[.int .i64 (wrap64 (((rd_T84 l0_0 (ji12)).f1) - ((rd_T84 l0_0 x6_1).f1))), .int .i64 x666001_1]) ?_ 1 _ rfl; (with_reducible repeat (first | refine blk_drewN ?_ _ | refine blk_drew ?_ | refine blk_alloc ?_ _)); refine blk_put (cs := #[.int .i64 x666000_1, .int .i64 x666001_1]) ?_ 0 _ rfl; (with_reducible repeat (first | refine blk_drewN ?_ _ | refine blk_drew ?_ | refine blk_alloc ?_ _)); exact BK665.out⟩, ⟨bBl HB.out⟩⟩
          ·replace c74 := Bool.eq_false_iff.mpr c74
           subst c74
           have H1 : (strength_steepest.l0 kj15 (wrap64 (x6_1 + 1)) l0_0 a0_1 a1_0 a1_1 x666000_1 x666001_1) = some (r1, r2) := by rw [if_neg (show ¬ (false = true) by decide)] at H; exact H
           clear H; have H := H1; clear H1; have H' := Sd.mk H; clear H; have hnb101 := NB668_662.out; have hnc101 := NB662_668.out; have hnb102 := NB668_663.out; have hnc102 := NB663_668.out; have hnb103 := NB668_664.out; have hnc103 := NB664_668.out; have hnb104 := NB668_665.out; have hnc104 := NB665_668.out; have hnb105 := NB668_669.out; have hnc105 := NB669_668.out; obtain ⟨u106_0, u106_1, o106_0, o106_1⟩ := bc2 (w := wc) BK668.out; have hnb107 := NB669_662.out; have hnc107 := NB662_669.out; have hnb108 := NB669_663.out; have hnc108 := NB663_669.out; have hnb109 := NB669_664.out; have hnc109 := NB664_669.out; have hnb110 := NB669_665.out; have hnc110 := NB665_669.out; obtain ⟨u111_0, u111_1, o111_0, o111_1⟩ := bc2 (w := wc) BK669.out
           go_wp2_with (first | ((with_reducible refine gate_dst (N := 9) rfl ?_); refine box_event ?hg (N := 9) ?hd (cs := #[.int .i64 0, .int .i64 0]) (t := 141) ?hr ?_; (case hd => rfl); (case hg => rfl); (case hr => exact tG); intro gb670 hg w112 hbox hb; have BK670 := Sd.mk (hbox); have GW670 := Sd.mk (bSz hg (bBl HB.out)); have GE670 := Sd.mk (bSz hg (bBl HB.out)); replace HB := Sd.mk (below_step (bBl HB.out) hb); have NB662_670 := Sd.mk (bNl hg (bkA BK662.out)); have NB670_662 := Sd.mk (bNg hg (bkA BK662.out)); replace BK662 := Sd.mk (blk_below (bkA BK662.out) hb); have NB663_670 := Sd.mk (bNl hg (bkA BK663.out)); have NB670_663 := Sd.mk (bNg hg (bkA BK663.out)); replace BK663 := Sd.mk (blk_below (bkA BK663.out) hb); have NB664_670 := Sd.mk (bNl hg (bkA BK664.out)); have NB670_664 := Sd.mk (bNg hg (bkA BK664.out)); replace BK664 := Sd.mk (blk_below (bkA BK664.out) hb); have NB665_670 := Sd.mk (bNl hg (bkA BK665.out)); have NB670_665 := Sd.mk (bNg hg (bkA BK665.out)); replace BK665 := Sd.mk (blk_below (bkA BK665.out) hb); have NB668_670 := Sd.mk (bNl hg (bkA BK668.out)); have NB670_668 := Sd.mk (bNg hg (bkA BK668.out)); replace BK668 := Sd.mk (blk_below (bkA BK668.out) hb); have NB669_670 := Sd.mk (bNl hg (bkA BK669.out)); have NB670_669 := Sd.mk (bNg hg (bkA BK669.out)); replace BK669 := Sd.mk (blk_below (bkA BK669.out) hb); clear hb hbox hg; have hnb113 := NB670_662.out; have hnc113 := NB662_670.out; have hnb114 := NB670_663.out; have hnc114 := NB663_670.out; have hnb115 := NB670_664.out; have hnc115 := NB664_670.out; have hnb116 := NB670_665.out; have hnc116 := NB665_670.out; have hnb117 := NB670_668.out; have hnc117 := NB668_670.out; have hnb118 := NB670_669.out; have hnc118 := NB669_670.out; obtain ⟨u119_0, u119_1, o119_0, o119_1⟩ := bc2 (w := w112) BK670.out; have hnb120 := NB665_662.out; have hnc120 := NB662_665.out; have hnb121 := NB665_663.out; have hnc121 := NB663_665.out; have hnb122 := NB665_664.out; have hnc122 := NB664_665.out; obtain ⟨u123_0, u123_1, o123_0, o123_1⟩ := bc2 (w := w112) BK665.out) | ((with_reducible refine gate_callee (f := 146) rfl ?_); refine goesL_ (some 61) rfl rfl Try.func146 (by kernel_rfl) rfl #[.agg #[.int .i64 (wrap64 (((rd_T84 l0_0 (ji12)).f1) - ((rd_T84 l0_0 x6_1).f1))), .int .i64 (wrap64 (((rd_T84 l0_0 x6_1).f0) - ((rd_T84 l0_0 (ji12)).f0)))], .agg #[.int .i64 x666000_1, .int .i64 x666001_1]] rfl (by (try simp only [List.map_toArray, List.map_cons, List.map_nil]); first | done | (simp only [hji12]; rfl) | rfl | (simp only [List.length_drop, List.length_take]; rfl)) ?_; (with_reducible refine (strength_quotient_above.calls (wrap64 (((rd_T84 l0_0 (ji12)).f1) - ((rd_T84 l0_0 x6_1).f1))) (wrap64 (((rd_T84 l0_0 x6_1).f0) - ((rd_T84 l0_0 (ji12)).f0))) x666000_1 x666001_1 false _ A73.out).mono ?_); rintro e w124 ⟨rfl, hb⟩; refine ⟨_, rfl, ?_⟩; replace BK662 := Sd.mk (blk_below (g := gb662) (o := .cells #[.slice (some ad666) l0_0.length c0_0, .int .i64 a0_1] 71 (0, 0)) (by (with_reducible repeat (first | refine blk_drewN ?_ _ | refine blk_drew ?_ | refine blk_alloc ?_ _)); refine blk_far ?_ NB662_670.out _; (with_reducible repeat (first | refine blk_drewN ?_ _ | refine blk_drew ?_ | refine blk_alloc ?_ _)); refine blk_far ?_ NB662_670.out _; (with_reducible repeat (first | refine blk_drewN ?_ _ | refine blk_drew ?_ | refine blk_alloc ?_ _)); exact BK662.out) hb); replace BK663 := Sd.mk (blk_below (g := gb663) (o := .cells #[.int .i64 a1_0, .int .i64 a1_1] 27 (0, 0)) (by (with_reducible repeat (first | refine blk_drewN ?_ _ | refine blk_drew ?_ | refine blk_alloc ?_ _)); refine blk_far ?_ NB663_670.out _; (with_reducible repeat (first | refine blk_drewN ?_ _ | refine blk_drew ?_ | refine blk_alloc ?_ _)); refine blk_far ?_ NB663_670.out _; (with_reducible repeat (first | refine blk_drewN ?_ _ | refine blk_drew ?_ | refine blk_alloc ?_ _)); exact BK663.out) hb); replace BK664 := Sd.mk (blk_below (g := gb664) (o := .cells #[.int .i64 0, .int .i64 0] 141 (0, 0)) (by (with_reducible repeat (first | refine blk_drewN ?_ _ | refine blk_drew ?_ | refine blk_alloc ?_ _)); refine blk_far ?_ NB664_670.out _; (with_reducible repeat (first | refine blk_drewN ?_ _ | refine blk_drew ?_ | refine blk_alloc ?_ _)); refine blk_far ?_ NB664_670.out _; (with_reducible repeat (first | refine blk_drewN ?_ _ | refine blk_drew ?_ | refine blk_alloc ?_ _)); exact BK664.out) hb); replace BK665 := Sd.mk (blk_below (g := gb665) (o := .cells #[.int .i64 x666000_1, .int .i64 x666001_1] 141 (0, 0)) (by (with_reducible repeat (first | refine blk_drewN ?_ _ | refine blk_drew ?_ | refine blk_alloc ?_ _)); refine blk_far ?_ NB665_670.out _; (with_reducible repeat (first | refine blk_drewN ?_ _ | refine blk_drew ?_ | refine blk_alloc ?_ _)); refine blk_far ?_ NB665_670.out _; (with_reducible repeat (first | refine blk_drewN ?_ _ | refine blk_drew ?_ | refine blk_alloc ?_ _)); exact BK665.out) hb); replace BK668 := Sd.mk (blk_below (g := gb668) (o := .cells #[.int .i64 ((rd_T84 l0_0 (ji12)).f0), .int .i64 ((rd_T84 l0_0 (ji12)).f1)] 84 (0, 0)) (by (with_reducible repeat (first | refine blk_drewN ?_ _ | refine blk_drew ?_ | refine blk_alloc ?_ _)); refine blk_far ?_ NB668_670.out _; (with_reducible repeat (first | refine blk_drewN ?_ _ | refine blk_drew ?_ | refine blk_alloc ?_ _)); refine blk_far ?_ NB668_670.out _; (with_reducible repeat (first | refine blk_drewN ?_ _ | refine blk_drew ?_ | refine blk_alloc ?_ _)); exact BK668.out) hb); replace BK669 := Sd.mk (blk_below (g := gb669) (o := .cells #[.int .i64 ((rd_T84 l0_0 x6_1).f0), .int .i64 ((rd_T84 l0_0 x6_1).f1)] 84 (0, 0)) (by (with_reducible repeat (first | refine blk_drewN ?_ _ | refine blk_drew ?_ | refine blk_alloc ?_ _)); refine blk_far ?_ NB669_670.out _; (with_reducible repeat (first | refine blk_drewN ?_ _ | refine blk_drew ?_ | refine blk_alloc ?_ _)); refine blk_far ?_ NB669_670.out _; (with_reducible repeat (first | refine blk_drewN ?_ _ | refine blk_drew ?_ | refine blk_alloc ?_ _)); exact BK669.out) hb); replace BK670 := Sd.mk (blk_below (g := gb670) (o := .cells #[.int .i64 (wrap64 (((rd_T84 l0_0 (ji12)).f1) - ((rd_T84 l0_0 x6_1).f1))), .int .i64 (wrap64 (((rd_T84 l0_0 x6_1).f0) - ((rd_T84 l0_0 (ji12)).f0)))] 141 (0, 0)) (by (with_reducible repeat (first | refine blk_drewN ?_ _ | refine blk_drew ?_ | refine blk_alloc ?_ _)); refine blk_put (cs := #[.int .i64 (wrap64 (((rd_T84 l0_0 (ji12)).f1) - ((rd_T84 l0_0 x6_1).f1))), .int .i64 0]) ?_ 1 _ rfl; (with_reducible repeat (first | refine blk_drewN ?_ _ | refine blk_drew ?_ | refine blk_alloc ?_ _)); refine blk_put (cs := #[.int .i64 0, .int .i64 0]) ?_ 0 _ rfl; (with_reducible repeat (first | refine blk_drewN ?_ _ | refine blk_drew ?_ | refine blk_alloc ?_ _)); exact BK670.out) hb); replace HB := Sd.mk (below_step (bBl HB.out) hb); (try clear hb); (try clear hb2); (try clear hk); (try clear hi)))
           go_roundg kj15
           case measure => have := HK1.out; have := HJ15.out; omega
           case rel => exact ⟨(wrap64 (x6_1 + 1)), (x666000_1), (x666001_1), tS, H', ⟨by have := HK1.out; have := HJ15.out; omega⟩, ⟨bkA BK662.out⟩, ⟨bkA BK663.out⟩, ⟨bkA BK664.out⟩, ⟨bkA BK665.out⟩, ⟨bBl HB.out⟩⟩
      ·rw [if_neg c15] at H
       exact absurd H (by simp)
     ·rw [if_neg c14] at H
      exact absurd H (by simp)
    ·rw [if_neg c13] at H
     exact absurd H (by simp)
   ·rw [if_neg c11] at H
    have c11b0 : decide (x6_1 < (l0_0.length : Int)) = false := decide_eq_false c11
    clear c11
    simp only [Option.some.injEq, Prod.mk.injEq] at H
    obtain ⟨rfl, rfl⟩ := H; have hnb125 := NB662_663.out; have hnc125 := NB663_662.out; have hnb126 := NB662_664.out; have hnc126 := NB664_662.out; have hnb127 := NB662_665.out; have hnc127 := NB665_662.out; obtain ⟨u128_0, u128_1, o128_0, o128_1⟩ := bc2 (w := wr) BK662.out; have hnb129 := NB665_663.out; have hnc129 := NB663_665.out; have hnb130 := NB665_664.out; have hnc130 := NB664_665.out; obtain ⟨u131_0, u131_1, o131_0, o131_1⟩ := bc2 (w := wr) BK665.out; have hnb132 := NB664_663.out; have hnc132 := NB663_664.out; obtain ⟨u133_0, u133_1, o133_0, o133_1⟩ := bc2 (w := wr) BK664.out
    go_wp2
    refine bodyPost_ret (results_cell_row rfl _ _ gb664 141 #[.int .i64 x666000_1, .int .i64 x666001_1] (0, 0) _ rfl (by (with_reducible repeat (first | refine blk_drewN ?_ _ | refine blk_drew ?_ | refine blk_alloc ?_ _)); refine blk_put (cs := #[.int .i64 x666000_1, .int .i64 0]) ?_ 1 _ rfl; (with_reducible repeat (first | refine blk_drewN ?_ _ | refine blk_drew ?_ | refine blk_alloc ?_ _)); refine blk_put (cs := #[.int .i64 0, .int .i64 0]) ?_ 0 _ rfl; (with_reducible repeat (first | refine blk_drewN ?_ _ | refine blk_drew ?_ | refine blk_alloc ?_ _)); exact BK664.out) Try.underlying141 rfl (by kernel_rfl)) rfl ?_
    exact ⟨tE, bBl HB.out⟩
end Go.Proofs.Ytkjkokgbhepmoaa.PB

namespace Go.Proofs.Ytkjkokgbhepmoaa.PB
open Go.RowKit Go.Proofs.YtkjkokgbhepmoaaW.PrintWords Go.Proofs.YtkjkokgbhepmoaaW.PrintLast Go.Proofs.YtkjkokgbhepmoaaW.PrintMore
attribute [local go_sem] max2_int min2_int max_two min_two max_three min_three max_four min_four
def strength_up.f (a0 : Int) (a1 : Int) : Option (Int) := if a1 = 0 then (none) else (some (wrap64 (Int.tdiv (wrap64 ((wrap64 (a0 + a1)) - 1)) a1)))
set_option maxHeartbeats 8000000 in
set_option maxRecDepth 100000 in
theorem strength_up.calls (a0 : Int) (a1 : Int) (r : Int) (w : World) (h : strength_up.f a0 a1 = some r) :
  Calls Try.prog 145 #[.int .i64 a0, .int .i64 a1] w fun e w' => e = .returned (.int .i64 r) ∧ Drawn0 w w' := by
 have H : (if a1 = 0 then (none) else (some (wrap64 (Int.tdiv (wrap64 ((wrap64 (a0 + a1)) - 1)) a1)))) = some r := h
 clear h
 by_cases c3 : a1 = 0
 ·rw [if_pos c3] at H
  exact absurd H (by simp)
 ·rw [if_neg c3] at H
  have c3b0 : (a1 == 0) = false := beq_eq_false_iff_ne.mpr c3
  have c3b1 : (a1 != 0) = true := bne_iff_ne.mpr c3
  obtain rfl := Option.some.inj H
  go_enter Try.func145, Try.ntmps145
  go_wp2
  go_ret
  exact ⟨by first | rfl | (simp; done) | (simp [*]; done), by repeat (first | exact Drawn0.refl _ | apply Drawn0.step)⟩
end Go.Proofs.Ytkjkokgbhepmoaa.PB

namespace Go.Proofs.Ytkjkokgbhepmoaa.PB
open Go.RowKit Go.Proofs.YtkjkokgbhepmoaaW.PrintWords Go.Proofs.YtkjkokgbhepmoaaW.PrintLast Go.Proofs.YtkjkokgbhepmoaaW.PrintMore
attribute [local go_sem] max2_int min2_int max_two min_two max_three min_three max_four min_four
def strength_strain.f (k : Nat) (l0_0 : List (S84)) (a0_1 : Int) (a1_0 : Int) (a1_1 : Int) (a2 : Int) : Option (Int) := (strength_steepest.f k l0_0 a0_1 a1_0 a1_1).bind fun bt674 => ((strength_up.f (wrap64 ((wrap64 ((wrap64 (a0_1 * bt674.1)) * a2)) * a2)) (wrap64 (1000000 * bt674.2))).bind fun t677 => (some t677))
theorem strength_strain.mono : ∀ a0 a1 a2 a3 a4 k, LeO (strength_strain.f k a0 a1 a2 a3 a4) (strength_strain.f (k + 1) a0 a1 a2 a3 a4) := by
 intro a0 a1 a2 a3 a4 k
 unfold strength_strain.f
 repeat' first
   | (with_reducible exact strength_steepest.mono _ _ _ _ _)
   | (with_reducible exact LeO.refl _)
   | (with_reducible exact LeO.none _)
   | (with_reducible refine LeO.ite ?_ ?_)
   | (with_reducible refine LeO.bind ?_ (fun _ => ?_))
   | exact LeO.none _
   | refine LeO.ite ?_ ?_
   | refine LeO.bind ?_ (fun _ => ?_)
set_option maxHeartbeats 8000000 in
set_option maxRecDepth 100000 in
theorem strength_strain.calls (k : Nat) (A0_0 : Option Addr) (c0_0 : Nat) (l0_0 : List (S84)) (a0_1 : Int) (a1_0 : Int) (a1_1 : Int) (a2 : Int) (r : Int) (w : World) (hr0_0 : Kd.C k84 w A0_0 l0_0.length l0_0) (hc0_0 : l0_0.length ≤ c0_0) (h : strength_strain.f k l0_0 a0_1 a1_0 a1_1 a2 = some r) :
  Calls Try.prog 94 #[.agg #[.slice A0_0 l0_0.length c0_0, .int .i64 a0_1], .agg #[.int .i64 a1_0, .int .i64 a1_1], .int .i64 a2] w fun e w' => e = .returned (.int .i64 r) ∧ Below w.heap.size w w' := by
 have hu71 := Try.underlying71; have hu27 := Try.underlying27; have hu141 := Try.underlying141; have HR0_0 := Sd.mk hr0_0; have HC0_0 := Sd.mk hc0_0; clear hr0_0 hc0_0; have HB := Sd.mk (Below.refl w.heap.size w)
 have H : ((strength_steepest.f k l0_0 a0_1 a1_0 a1_1).bind fun bt674 => ((strength_up.f (wrap64 ((wrap64 ((wrap64 (a0_1 * bt674.1)) * a2)) * a2)) (wrap64 (1000000 * bt674.2))).bind fun t677 => (some t677))) = some r := h
 clear h; replace H := Option.bind_eq_some_iff.mp H
 obtain ⟨⟨t674, t675⟩, A40, H⟩ := H
 try dsimp only at H
 have A4 := Sd.mk A40; clear A40; replace H := Option.bind_eq_some_iff.mp H; obtain ⟨t677, A50, H⟩ := H
 try dsimp only at H
 have A5 := Sd.mk A50; clear A50; obtain rfl := Option.some.inj H
 go_enter Try.func94, Try.ntmps94
 go_wp2_with (first | ((with_reducible refine gate_dst (N := 3) rfl ?_); refine box_event ?hg (N := 3) ?hd (cs := #[.slice A0_0 l0_0.length c0_0, .int .i64 a0_1]) (t := 71) ?hr ?_; (case hd => rfl); (case hg => rfl); (case hr => exact tG); intro gb672 hg w6 hbox hb; have BK672 := Sd.mk (hbox); have GW672 := Sd.mk (bSz hg (bBl HB.out)); have GE672 := Sd.mk (bSz hg (bBl HB.out)); replace HB := Sd.mk (below_step (bBl HB.out) hb); clear hb hbox hg) | ((with_reducible refine gate_dst (N := 4) rfl ?_); refine box_event ?hg (N := 4) ?hd (cs := #[.int .i64 a1_0, .int .i64 a1_1]) (t := 27) ?hr ?_; (case hd => rfl); (case hg => rfl); (case hr => exact tG); intro gb673 hg w7 hbox hb; have BK673 := Sd.mk (hbox); have GW673 := Sd.mk (bSz hg (bBl HB.out)); have GE673 := Sd.mk (bSz hg (bBl HB.out)); replace HB := Sd.mk (below_step (bBl HB.out) hb); have NB672_673 := Sd.mk (bNl hg (bkA BK672.out)); have NB673_672 := Sd.mk (bNg hg (bkA BK672.out)); replace BK672 := Sd.mk (blk_below (bkA BK672.out) hb); clear hb hbox hg; have hnb8 := NB672_673.out; have hnc8 := NB673_672.out; obtain ⟨u9_0, u9_1, o9_0, o9_1⟩ := bc2 (w := w7) BK672.out; obtain ⟨u10_0, u10_1, o10_0, o10_1⟩ := bc2 (w := w7) BK673.out) | ((with_reducible refine gate_callee (f := 100) rfl ?_); refine goesL_ (some 10) rfl rfl Try.func100 (by kernel_rfl) rfl #[.agg #[.slice A0_0 l0_0.length c0_0, .int .i64 a0_1], .agg #[.int .i64 a1_0, .int .i64 a1_1]] rfl tM ?_; (with_reducible refine (strength_steepest.calls k _ _ l0_0 a0_1 a1_0 a1_1 t674 t675 _ (cS (Kd.C_below HR0_0.out HB.out)) HC0_0.out A4.out).mono ?_); rintro e w11 ⟨rfl, hb⟩; refine ⟨_, rfl, ?_⟩; replace BK672 := Sd.mk (blk_below (bkA BK672.out) hb); replace BK673 := Sd.mk (blk_below (bkA BK673.out) hb); replace HB := Sd.mk (below_step (bBl HB.out) hb); (try clear hb); (try clear hb2); (try clear hk); (try clear hi)) | ((with_reducible refine gate_dst (N := 7) rfl ?_); refine box_event ?hg (N := 7) ?hd (cs := #[.int .i64 0, .int .i64 0]) (t := 141) ?hr ?_; (case hd => rfl); (case hg => rfl); (case hr => exact tG); intro gb676 hg w12 hbox hb; have BK676 := Sd.mk (hbox); have GW676 := Sd.mk (bSz hg (bBl HB.out)); have GE676 := Sd.mk (bSz hg (bBl HB.out)); replace HB := Sd.mk (below_step (bBl HB.out) hb); have NB672_676 := Sd.mk (bNl hg (bkA BK672.out)); have NB676_672 := Sd.mk (bNg hg (bkA BK672.out)); replace BK672 := Sd.mk (blk_below (bkA BK672.out) hb); have NB673_676 := Sd.mk (bNl hg (bkA BK673.out)); have NB676_673 := Sd.mk (bNg hg (bkA BK673.out)); replace BK673 := Sd.mk (blk_below (bkA BK673.out) hb); clear hb hbox hg; have hnb13 := NB676_672.out; have hnc13 := NB672_676.out; have hnb14 := NB676_673.out; have hnc14 := NB673_676.out; obtain ⟨u15_0, u15_1, o15_0, o15_1⟩ := bc2 (w := w12) BK676.out; obtain ⟨u16_0, u16_1, o16_0, o16_1⟩ := bc2 (w := w12) BK672.out) | ((with_reducible refine gate_callee (f := 145) rfl ?_); refine goesL_ (some 23) rfl rfl Try.func145 (by kernel_rfl) rfl #[.int .i64 (wrap64 ((wrap64 ((wrap64 (a0_1 * t674)) * a2)) * a2)), .int .i64 (wrap64 (1000000 * t675))] rfl tM ?_; (with_reducible refine (strength_up.calls (wrap64 ((wrap64 ((wrap64 (a0_1 * t674)) * a2)) * a2)) (wrap64 (1000000 * t675)) t677 _ A5.out).mono ?_); rintro e w' ⟨rfl, ⟨nd, rfl⟩⟩; refine ⟨_, rfl, ?_⟩))
 go_ret
 exact ⟨tE, bBl HB.out⟩
end Go.Proofs.Ytkjkokgbhepmoaa.PB

namespace Go.Proofs.Ytkjkokgbhepmoaa.PB
open Go.RowKit Go.Proofs.YtkjkokgbhepmoaaW.PrintWords Go.Proofs.YtkjkokgbhepmoaaW.PrintLast Go.Proofs.YtkjkokgbhepmoaaW.PrintMore
attribute [local go_sem] max2_int min2_int max_two min_two max_three min_three max_four min_four
def strength_quotient_lowest.l0 : Nat → Int → Int → Int → Int → Option (Int × Int)
 | 0, _, _, _, _ => none
 | k + 1, x3, x4, x692q0, x692q1 => if x4 = 0 then (if x3 = 0 then (none) else (some (wrap64 (Int.tdiv x692q0 x3), wrap64 (Int.tdiv x692q1 x3)))) else (strength_quotient_lowest.l0 k x4 (Int.tmod x3 x4) x692q0 x692q1)
def strength_quotient_lowest.f (k : Nat) (a0_0 : Int) (a0_1 : Int) : Option (Int × Int) := strength_quotient_lowest.l0 k a0_0 a0_1 a0_0 a0_1
def strength_quotient_lowest.T4 : Bool × List (List Nat × List Nat) := (true, [([], []), ([0], [0]), ([], []), ([1, 2], [1, 2]), ([], []), ([4], [4]), ([], []), ([5, 6], [5, 6]), ([3, 7], [3, 7]), ([8, 0, 1, 2, 3, 4, 5, 6, 7, 8], [8])])
def strength_quotient_lowest.B4 : List Nat := [0, 1, 0, 7, 0, 16, 0, 112, 255, 511]
theorem strength_quotient_lowest.tab4 : rtab .any (opsOf Try.f101 4) = strength_quotient_lowest.T4 := by kernel_rfl
theorem strength_quotient_lowest.bits4 : waitsOk strength_quotient_lowest.T4.2 strength_quotient_lowest.B4 = true := by kernel_rfl
set_option maxHeartbeats 8000000 in
set_option maxRecDepth 100000 in
theorem strength_quotient_lowest.calls (k : Nat) (a0_0 : Int) (a0_1 : Int) (r1 : Int) (r2 : Int) (w : World) (h : strength_quotient_lowest.f k a0_0 a0_1 = some (r1, r2)) :
  Calls Try.prog 101 #[.agg #[.int .i64 a0_0, .int .i64 a0_1]] w fun e w' => e = .returned (.agg #[.int .i64 r1, .int .i64 r2]) ∧ Below w.heap.size w w' := by
 have hu141 := Try.underlying141; have hu87 := Try.underlying87; have HB := Sd.mk (Below.refl w.heap.size w)
 have H : (strength_quotient_lowest.l0 k a0_0 a0_1 a0_0 a0_1) = some (r1, r2) := h
 clear h; have H' := Sd.mk H; clear H
 go_enter Try.func101, Try.ntmps101
 try go_wp2_with (first | ((with_reducible refine gate_dst (N := 1) rfl ?_); refine box_event ?hg (N := 1) ?hd (cs := #[.int .i64 a0_0, .int .i64 a0_1]) (t := 141) ?hr ?_; (case hd => rfl); (case hg => rfl); (case hr => exact tG); intro gb691 hg w2 hbox hb; have BK691 := Sd.mk (hbox); have GW691 := Sd.mk (bSz hg (bBl HB.out)); have GE691 := Sd.mk (bSz hg (bBl HB.out)); replace HB := Sd.mk (below_step (bBl HB.out) hb); clear hb hbox hg) | ((with_reducible refine gate_dst (N := 2) rfl ?_); refine box_event ?hg (N := 2) ?hd (cs := #[.int .i64 0, .int .i64 0]) (t := 87) ?hr ?_; (case hd => rfl); (case hg => rfl); (case hr => exact tG); intro gb692 hg w3 hbox hb; have BK692 := Sd.mk (hbox); have GW692 := Sd.mk (bSz hg (bBl HB.out)); have GE692 := Sd.mk (bSz hg (bBl HB.out)); replace HB := Sd.mk (below_step (bBl HB.out) hb); have NB691_692 := Sd.mk (bNl hg (bkA BK691.out)); have NB692_691 := Sd.mk (bNg hg (bkA BK691.out)); replace BK691 := Sd.mk (blk_below (bkA BK691.out) hb); clear hb hbox hg))
 replace BK691 := Sd.mk (blk_drew BK691.out); replace BK692 := Sd.mk (blk_drew BK692.out); replace HB := Sd.mk (below_drew1 HB.out)
 refine start_ (n := 6) (S := fun w' => w'.cell? ⟨gb691, 0, none⟩ = some (.int .i64 a0_0) ∧ w'.cell? ⟨gb691, 1, none⟩ = some (.int .i64 a0_1)) (ds := []) #[false, false, false, false, false, false] (by kernel_rfl) rfl rfl ⟨(blk_cell BK691.out 0).trans rfl, (blk_cell BK691.out 1).trans rfl⟩ (fun hHeld => ?_)
 generalize w3.drew = w4 at BK691 BK692 HB hHeld ⊢
 refine pure_ (i := 0) (N := some 5) (v := ?_) (a' := ?_) #[true, false, false, false, false, false] rfl rfl (by kernel_rfl) (fun _ _ _ h => h) (Or.inl ⟨by rfl, ?_⟩) ?_ ?_
 rotate_left
 ·exact tW
 rotate_left
 ·exact tP
 refine pure_ (i := 2) (N := some 7) (v := ?_) (a' := ?_) #[true, false, true, false, false, false] rfl rfl (by kernel_rfl) (fun _ _ _ h => h) (Or.inl ⟨by rfl, ?_⟩) ?_ ?_
 rotate_left
 ·exact tW
 rotate_left
 ·exact tP
 refine take_ (i := 1) (N := some 6) (v := ?_) (a' := ?_) #[true, true, true, false, false, false] rfl rfl (by kernel_rfl) (fun _ _ _ h => h) (Or.inl ⟨by rfl, ?_⟩) hHeld ?_ ?_
 rotate_left
 ·rintro w' ⟨s0, s1⟩
  go_simp
  with_reducible rfl
 rotate_left
 ·exact tP
 refine pure_ (i := 4) (N := some 3) (v := ?_) (a' := ?_) #[true, true, true, false, true, false] rfl rfl (by kernel_rfl) (fun _ _ _ h => h) (Or.inl ⟨by rfl, ?_⟩) ?_ ?_
 rotate_left
 ·exact tW
 rotate_left
 ·exact tP
 refine take_ (i := 3) (N := some 8) (v := ?_) (a' := ?_) #[true, true, true, true, true, false] rfl rfl (by kernel_rfl) (fun _ _ _ h => h) (Or.inl ⟨by rfl, ?_⟩) hHeld ?_ ?_
 rotate_left
 ·rintro w' ⟨s0, s1⟩
  go_simp
  with_reducible rfl
 rotate_left
 ·exact tP
 refine pure_ (i := 5) (N := some 4) (v := ?_) (a' := ?_) #[true, true, true, true, true, true] rfl rfl (by kernel_rfl) (fun _ _ _ h => h) (Or.inl ⟨by rfl, ?_⟩) ?_ ?_
 rotate_left
 ·exact tW
 rotate_left
 ·exact tP
 refine done_ (by kernel_rfl) ?_
 try go_wp2
 go_loopg [3, 4] k (fun kq v3 v4 w' => ∃ (x3_1 : Int) (x4_1 : Int), v3 = .int .i64 x3_1 ∧ v4 = .int .i64 x4_1 ∧ Sd (strength_quotient_lowest.l0 kq x3_1 x4_1 a0_0 a0_1 = some (r1, r2)) ∧ Sd (kq ≤ k) ∧ Sd (w'.heap[gb691]? = some (.cells #[.int .i64 a0_0, .int .i64 a0_1] 141 (0, 0))) ∧ Sd (w'.heap[gb692]? = some (.cells #[.int .i64 0, .int .i64 0] 87 (0, 0))) ∧ Sd (Below w.heap.size w w'))
 case atStart => exact ⟨(a0_0), (a0_1), tS, tS, H', ⟨Nat.le_refl _⟩, ⟨bkA BK691.out⟩, ⟨bkA BK692.out⟩, ⟨bBl HB.out⟩⟩
 case round =>
  clear H'; (try clear c1); (try clear p2); obtain ⟨x3_1, x4_1, rfl, rfl, HA, HK1, BK691, BK692, HB⟩ := hrel
  cases gk with
  | zero => exact absurd HA.out (by simp [strength_quotient_lowest.l0])
  | succ k1 =>
   have H := HA.out; clear HA
   simp only [strength_quotient_lowest.l0] at H
   by_cases c5 : x4_1 = 0
   ·rw [if_pos c5] at H
    have c5b0 : (x4_1 == 0) = true := beq_iff_eq.mpr c5
    have c5b1 : (x4_1 != 0) = false := bne_eq_false_iff_eq.mpr c5
    clear c5
    by_cases c6 : x3_1 = 0
    ·rw [if_pos c6] at H
     exact absurd H (by simp)
    ·rw [if_neg c6] at H
     have c6b0 : (x3_1 == 0) = false := beq_eq_false_iff_ne.mpr c6
     have c6b1 : (x3_1 != 0) = true := bne_iff_ne.mpr c6
     simp only [Option.some.injEq, Prod.mk.injEq] at H
     obtain ⟨rfl, rfl⟩ := H
     try go_wp2
     replace BK691 := Sd.mk (blk_drew BK691.out); replace BK692 := Sd.mk (blk_drew BK692.out); replace HB := Sd.mk (below_drew1 HB.out)
     refine start_ (n := 10) (S := fun w' => w'.cell? ⟨gb691, 0, none⟩ = some (.int .i64 a0_0) ∧ w'.cell? ⟨gb691, 1, none⟩ = some (.int .i64 a0_1)) (ds := []) #[false, false, false, false, false, false, false, false, false, false] (by kernel_rfl) rfl rfl ⟨(blk_cell BK691.out 0).trans rfl, (blk_cell BK691.out 1).trans rfl⟩ (fun hHeld => ?_); refine with_tabW strength_quotient_lowest.tab4 strength_quotient_lowest.bits4 (fun HT_ HW_ => ?_)
     generalize wr.drew = w7 at BK691 BK692 HB hHeld ⊢
     refine pure_ (i := 0) (N := some 15) (v := ?_) (a' := ?_) #[true, false, false, false, false, false, false, false, false, false] rfl rfl (any_of HT_.out (by kernel_rfl)) (fun _ _ _ h => h) (Or.inl ⟨by rfl, ?_⟩) ?_ ?_
     rotate_left
     ·exact tW
     rotate_left
     ·exact tP
     refine pure_ (i := 2) (N := some 17) (v := ?_) (a' := ?_) #[true, false, true, false, false, false, false, false, false, false] rfl rfl (any_of HT_.out (by kernel_rfl)) (fun _ _ _ h => h) (Or.inl ⟨by rfl, ?_⟩) ?_ ?_
     rotate_left
     ·exact tW
     rotate_left
     ·exact tP
     refine pure_ (i := 4) (N := some 19) (v := ?_) (a' := ?_) #[true, false, true, false, true, false, false, false, false, false] rfl rfl (any_of HT_.out (by kernel_rfl)) (fun _ _ _ h => h) (Or.inl ⟨by rfl, ?_⟩) ?_ ?_
     rotate_left
     ·exact tW
     rotate_left
     ·exact tP
     refine pure_ (i := 6) (N := some 21) (v := ?_) (a' := ?_) #[true, false, true, false, true, false, true, false, false, false] rfl rfl (any_of HT_.out (by kernel_rfl)) (fun _ _ _ h => h) (Or.inl ⟨by rfl, ?_⟩) ?_ ?_
     rotate_left
     ·exact tW
     rotate_left
     ·exact tP
     refine take_ (i := 1) (N := some 16) (v := ?_) (a' := ?_) #[true, true, true, false, true, false, true, false, false, false] rfl rfl (take_ofW HT_.out HW_.out (by kernel_rfl)) (fun _ _ _ h => h) (Or.inl ⟨by rfl, ?_⟩) hHeld ?_ ?_
     rotate_left
     ·rintro w' ⟨s0, s1⟩
      go_simp
      with_reducible rfl
     rotate_left
     ·exact tP
     refine pure_ (i := 3) (N := some 18) (v := ?_) (a' := ?_) #[true, true, true, true, true, false, true, false, false, false] rfl rfl (any_of HT_.out (by kernel_rfl)) (fun _ _ _ h => h) (Or.inl ⟨by rfl, ?_⟩) ?_ ?_
     rotate_left
     ·exact tW
     rotate_left
     ·exact tP
     refine take_ (i := 5) (N := some 20) (v := ?_) (a' := ?_) #[true, true, true, true, true, true, true, false, false, false] rfl rfl (take_ofW HT_.out HW_.out (by kernel_rfl)) (fun _ _ _ h => h) (Or.inl ⟨by rfl, ?_⟩) hHeld ?_ ?_
     rotate_left
     ·rintro w' ⟨s0, s1⟩
      go_simp
      with_reducible rfl
     rotate_left
     ·exact tP
     refine pure_ (i := 7) (N := some 22) (v := ?_) (a' := ?_) #[true, true, true, true, true, true, true, true, false, false] rfl rfl (any_of HT_.out (by kernel_rfl)) (fun _ _ _ h => h) (Or.inl ⟨by rfl, ?_⟩) ?_ ?_
     rotate_left
     ·exact tW
     rotate_left
     ·exact tP
     refine pure_ (i := 8) (N := some 23) (v := ?_) (a' := ?_) #[true, true, true, true, true, true, true, true, true, false] rfl rfl (any_of HT_.out (by kernel_rfl)) (fun _ _ _ h => h) (Or.inl ⟨by rfl, ?_⟩) ?_ ?_
     rotate_left
     ·exact tW
     rotate_left
     ·exact tP
     refine one_ (i := 9) (N := none) #[true, true, true, true, true, true, true, true, true, true] rfl rfl (one_of HT_.out (by kernel_rfl)) (by decide) (fun K hK => ?_)
     have hs8 : w7.cell? ⟨gb692, 0, none⟩ = some (.int .i64 0) := (blk_cell BK692.out 0).trans rfl
     have hfs8 := blk_frozen BK692.out 0; have hns8_0 := NB691_692.out; have hms8_0 := NB692_691.out
     have hs9 : w7.cell? ⟨gb692, 1, none⟩ = some (.int .i64 0) := (blk_cell BK692.out 1).trans rfl
     have hfs9 := blk_frozen BK692.out 1; have hns9_0 := NB691_692.out; have hms9_0 := NB692_691.out
     refine skip_ (w1 := ?_) (by rfl) rfl ?_ ?_
     rotate_left
     ·go_simp
      rfl
     refine hK.out _ _ ⟨((cell_far (p := ⟨gb692, _, none⟩) NB691_692.out _).trans (((cell_far (p := ⟨gb692, _, none⟩) NB691_692.out _).trans (hHeld.1)))), ((cell_far (p := ⟨gb692, _, none⟩) NB691_692.out _).trans (((cell_far (p := ⟨gb692, _, none⟩) NB691_692.out _).trans (hHeld.2))))⟩ (fun hHeld => ?_)
     clear hK K
     refine done_ (done_of HT_.out (by kernel_rfl)) ?_
     try go_wp2
     refine bodyPost_ret (results_cell_row rfl _ _ gb692 87 #[.int .i64 (wrap64 (Int.tdiv a0_0 x3_1)), .int .i64 (wrap64 (Int.tdiv a0_1 x3_1))] (0, 0) _ rfl (by (with_reducible repeat (first | refine blk_drewN ?_ _ | refine blk_drew ?_ | refine blk_alloc ?_ _)); refine blk_put (cs := #[.int .i64 (wrap64 (Int.tdiv a0_0 x3_1)), .int .i64 0]) ?_ 1 _ rfl; (with_reducible repeat (first | refine blk_drewN ?_ _ | refine blk_drew ?_ | refine blk_alloc ?_ _)); refine blk_put (cs := #[.int .i64 0, .int .i64 0]) ?_ 0 _ rfl; (with_reducible repeat (first | refine blk_drewN ?_ _ | refine blk_drew ?_ | refine blk_alloc ?_ _)); exact BK692.out) Try.underlying87 rfl (by kernel_rfl)) rfl ?_
     exact ⟨tE, bBl HB.out⟩
   ·rw [if_neg c5] at H
    have c5b0 : (x4_1 == 0) = false := beq_eq_false_iff_ne.mpr c5
    have c5b1 : (x4_1 != 0) = true := bne_iff_ne.mpr c5
    have H' := Sd.mk H; clear H
    try go_wp2
    replace BK691 := Sd.mk (blk_drew BK691.out); replace BK692 := Sd.mk (blk_drew BK692.out); replace HB := Sd.mk (below_drew1 HB.out)
    refine start_ (n := 6) (S := fun w' => True) (ds := []) #[false, false, false, false, false, false] (by kernel_rfl) rfl rfl trivial (fun hHeld => ?_)
    generalize wr.drew = w10 at BK691 BK692 HB hHeld ⊢
    refine pure_ (i := 0) (N := some 11) (v := ?_) (a' := ?_) #[true, false, false, false, false, false] rfl rfl (by kernel_rfl) (fun _ _ _ h => h) (Or.inl ⟨by rfl, ?_⟩) ?_ ?_
    rotate_left
    ·exact tW
    rotate_left
    ·exact tP
    refine pure_ (i := 1) (N := some 12) (v := ?_) (a' := ?_) #[true, true, false, false, false, false] rfl rfl (by kernel_rfl) (fun _ _ _ h => h) (Or.inl ⟨by rfl, ?_⟩) ?_ ?_
    rotate_left
    ·exact tW
    rotate_left
    ·exact tP
    refine pure_ (i := 2) (N := some 13) (v := ?_) (a' := ?_) #[true, true, true, false, false, false] rfl rfl (by kernel_rfl) (fun _ _ _ h => h) (Or.inl ⟨by rfl, ?_⟩) ?_ ?_
    rotate_left
    ·exact tW
    rotate_left
    ·exact tP
    refine pure_ (i := 3) (N := some 14) (v := ?_) (a' := ?_) #[true, true, true, true, false, false] rfl rfl (by kernel_rfl) (fun _ _ _ h => h) (Or.inl ⟨by rfl, ?_⟩) ?_ ?_
    rotate_left
    ·exact tW
    rotate_left
    ·exact tP
    refine pure_ (i := 4) (N := some 3) (v := ?_) (a' := ?_) #[true, true, true, true, true, false] rfl rfl (by kernel_rfl) (fun _ _ _ h => h) (Or.inl ⟨by rfl, ?_⟩) ?_ ?_
    rotate_left
    ·exact tW
    rotate_left
    ·exact tP
    refine pure_ (i := 5) (N := some 4) (v := ?_) (a' := ?_) #[true, true, true, true, true, true] rfl rfl (by kernel_rfl) (fun _ _ _ h => h) (Or.inl ⟨by rfl, ?_⟩) ?_ ?_
    rotate_left
    ·exact tW
    rotate_left
    ·exact tP
    refine done_ (by kernel_rfl) ?_
    try go_wp2
    go_roundg k1
    case measure => have := HK1.out; omega
    case rel => exact ⟨(x4_1), (Int.tmod x3_1 x4_1), tS, tS, H', ⟨by have := HK1.out; omega⟩, ⟨bkA BK691.out⟩, ⟨bkA BK692.out⟩, ⟨bBl HB.out⟩⟩
end Go.Proofs.Ytkjkokgbhepmoaa.PB

namespace Go.Proofs.Ytkjkokgbhepmoaa.PB
open Go.RowKit Go.Proofs.YtkjkokgbhepmoaaW.PrintWords Go.Proofs.YtkjkokgbhepmoaaW.PrintLast Go.Proofs.YtkjkokgbhepmoaaW.PrintMore
def spanB (a b lo hi : Int) : Bool := decide (lo ≤ a) && decide (a ≤ b) && decide (b ≤ hi)
theorem sspan_f (a b lo hi : Int) (w : World) : Calls Try.prog 141 #[.agg #[.int .i64 a, .int .i64 b], .int .i64 lo, .int .i64 hi] w fun e w' => e = .returned (.bool (spanB a b lo hi)) ∧ Below w.heap.size w w' := by
  refine strength_span.calls a b lo hi (spanB a b lo hi) w ?_
  unfold strength_span.f spanB
  by_cases h : a ≥ lo
  · by_cases h' : a ≤ b
    · rw [if_pos h, if_pos h', decide_eq_true h, decide_eq_true h']; rfl
    · rw [if_pos h, if_neg h', decide_eq_true h, decide_eq_false h']; rfl
  · rw [if_neg h, decide_eq_false h]; rfl
def tempsV (kn : List S84) (fac t0 t1 : Int) : Int := if lehrV kn fac = 0 then (if spanB t0 t1 0 10000 = true then 0 else 1) else lehrV kn fac
theorem blk_two (w : World) (o1 o2 : Obj) : ((w.alloc o1).alloc o2).heap[w.heap.size]? = some o1 ∧ ((w.alloc o1).alloc o2).heap[w.heap.size + 1]? = some o2 ∧ Below w.heap.size w ((w.alloc o1).alloc o2) ∧ ((w.alloc o1).alloc o2).heap.size = w.heap.size + 1 + 1 :=
  ⟨blk_alloc (blk_new w o1) o2, by simpa using blk_new (w.alloc o1) o2, below_alloc (below_alloc (Below.refl w.heap.size w) o1) o2, by simp⟩
theorem blk_three (w : World) (o1 o2 o3 : Obj) : (((w.alloc o1).alloc o2).alloc o3).heap[w.heap.size]? = some o1 ∧ (((w.alloc o1).alloc o2).alloc o3).heap[w.heap.size + 1]? = some o2 ∧ (((w.alloc o1).alloc o2).alloc o3).heap[w.heap.size + 1 + 1]? = some o3 ∧ Below w.heap.size w (((w.alloc o1).alloc o2).alloc o3) ∧ (((w.alloc o1).alloc o2).alloc o3).heap.size = w.heap.size + 1 + 1 + 1 :=
  ⟨blk_alloc (blk_two w o1 o2).1 o3, blk_alloc (blk_two w o1 o2).2.1 o3, by simpa using blk_new ((w.alloc o1).alloc o2) o3, below_alloc (blk_two w o1 o2).2.2.1 o3, by simp⟩
set_option maxHeartbeats 4000000 in
set_option maxRecDepth 100000 in
theorem temps_calls (A : Option Addr) (c : Nat) (kn : List S84) (fac t0 t1 : Int) (w : World) (hr : Kd.C k84 w A kn.length kn) :
    Calls Try.prog 97 #[.agg #[.slice A kn.length c, .int .i64 fac], .agg #[.int .i64 t0, .int .i64 t1]] w fun en w' => en = endF (tempsV kn fac t0 t1) ∧ Below w.heap.size w w' := by
  obtain ⟨b1, b2, hb0, hsz⟩ := blk_two w (.cells #[.slice A kn.length c, .int .i64 fac] 71) (.cells #[.int .i64 t0, .int .i64 t1] 27)
  have BT := Sd.mk b2
  have HSZ := Sd.mk hsz
  have HB := Sd.mk hb0
  have HR := Sd.mk (Kd.C_below hr hb0)
  clear b1 b2 hsz hb0 hr
  by_cases h0 : lehrV kn fac = 0
  · have H0 := Sd.mk h0
    clear h0
    have HV : Sd (tempsV kn fac t0 t1 = if spanB t0 t1 0 10000 = true then 0 else 1) := ⟨if_pos H0.out⟩
    cases hs : spanB t0 t1 0 10000 with
    | true =>
      have HS := Sd.mk hs
      clear hs
      go_enter Try.func97, Try.ntmps97
      go_wp2_with (first | (go_at_call 89; refine (lehr_ok A c kn fac _ HR.out H0.out).mono ?_; rintro e w1 ⟨rfl, hb1⟩; have BT1 := Sd.mk (blk_below BT.out hb1); have ht0 : w1.cell? ⟨w.heap.size + 1, 0, none⟩ = some (.int .i64 t0) := (blk_cell BT1.out 0).trans rfl; have ht1 : w1.cell? ⟨w.heap.size + 1, 0 + 1, none⟩ = some (.int .i64 t1) := (blk_cell BT1.out 1).trans rfl; have HB1 := Sd.mk (below_then HB.out (by have := HSZ.out; omega) hb1); clear hb1) | (go_at_call 141; refine (sspan_f _ _ _ _ _).mono ?_; rw [HS.out]; rintro e w2 ⟨rfl, hb2⟩) | (go_at_call 91; (with_reducible refine (demand_ok _ _).mono ?_); rintro e w' ⟨rfl, rfl⟩))
      go_end0
      exact ⟨by rw [HV.out, HS.out]; rfl, below_then HB1.out HB1.out.size hb2⟩
    | false =>
      have HS := Sd.mk hs
      clear hs
      go_enter Try.func97, Try.ntmps97
      go_wp2_with (first | (go_at_call 89; refine (lehr_ok A c kn fac _ HR.out H0.out).mono ?_; rintro e w1 ⟨rfl, hb1⟩; have BT1 := Sd.mk (blk_below BT.out hb1); have ht0 : w1.cell? ⟨w.heap.size + 1, 0, none⟩ = some (.int .i64 t0) := (blk_cell BT1.out 0).trans rfl; have ht1 : w1.cell? ⟨w.heap.size + 1, 0 + 1, none⟩ = some (.int .i64 t1) := (blk_cell BT1.out 1).trans rfl; have HB1 := Sd.mk (below_then HB.out (by have := HSZ.out; omega) hb1); clear hb1) | (go_at_call 141; refine (sspan_f _ _ _ _ _).mono ?_; rw [HS.out]; rintro e w2 ⟨rfl, hb2⟩) | (go_at_call 91; (with_reducible refine (demand_no _ _).mono ?_); rintro e w' ⟨rfl, rfl⟩))
      exact ⟨rfl, by rw [HV.out, HS.out]; rfl, below_then HB1.out HB1.out.size hb2⟩
  · have H0 := Sd.mk h0
    have HV : Sd (tempsV kn fac t0 t1 = lehrV kn fac) := ⟨if_neg h0⟩
    clear h0
    go_enter Try.func97, Try.ntmps97
    go_wp2_with (go_at_call 89; refine (lehr_no A c kn fac _ HR.out H0.out).mono ?_; rintro e w1 ⟨rfl, hb1⟩)
    exact ⟨rfl, by rw [HV.out, endF_ne H0.out], below_then HB.out (by have := HSZ.out; omega) hb1⟩
theorem temps_ok (A : Option Addr) (c : Nat) (kn : List S84) (fac t0 t1 : Int) (w : World) (hr : Kd.C k84 w A kn.length kn) (h : tempsV kn fac t0 t1 = 0) :
    Calls Try.prog 97 #[.agg #[.slice A kn.length c, .int .i64 fac], .agg #[.int .i64 t0, .int .i64 t1]] w fun en w' => en = .returned (.tuple #[]) ∧ Below w.heap.size w w' :=
  (temps_calls A c kn fac t0 t1 w hr).mono fun e w' he => ⟨by rw [he.1, h]; rfl, he.2⟩
theorem temps_no (A : Option Addr) (c : Nat) (kn : List S84) (fac t0 t1 : Int) (w : World) (hr : Kd.C k84 w A kn.length kn) (h : tempsV kn fac t0 t1 ≠ 0) :
    Calls Try.prog 97 #[.agg #[.slice A kn.length c, .int .i64 fac], .agg #[.int .i64 t0, .int .i64 t1]] w fun en w' => en = .panicked (failC (tempsV kn fac t0 t1)) ∧ Below w.heap.size w w' :=
  (temps_calls A c kn fac t0 t1 w hr).mono fun e w' he => ⟨by rw [he.1, endF_ne h], he.2⟩
end Go.Proofs.Ytkjkokgbhepmoaa.PB

namespace Go.Proofs.Ytkjkokgbhepmoaa.PB
open Go.RowKit Go.Proofs.YtkjkokgbhepmoaaW.PrintWords Go.Proofs.YtkjkokgbhepmoaaW.PrintLast Go.Proofs.YtkjkokgbhepmoaaW.PrintMore
def x_CheckLehr.f (kn : List S84) (fac : Int) : Option Int := some (lehrV kn fac)
theorem x_CheckLehr.calls (A0 : Option Addr) (c0 : Nat) (l0 : List S84) (a1 : Int) (r : Int) (w : World) (hr0 : Kd.C k84 w A0 l0.length l0) (hc0 : l0.length ≤ c0) (h : x_CheckLehr.f l0 a1 = some r) :
    Calls Try.prog 40 #[.agg #[.slice A0 l0.length c0, .int .i64 a1]] w fun e w' => e = .returned (.int .i64 r) ∧ Below w.heap.size w w' := by
  obtain rfl := Option.some.inj h
  exact CheckLehr_calls A0 c0 l0 a1 w hr0
def x_Held.f (k : Nat) (kn : List S84) (fac temp : Int) : Option (Int × Int) := if lehrV kn fac = 0 then (if inB temp 0 10000 = true then (strength_held.f k kn fac temp).bind fun t => some (t, 0) else some (0, 1)) else some (0, lehrV kn fac)
theorem x_Held.mono : ∀ kn fac temp k, LeO (x_Held.f k kn fac temp) (x_Held.f (k + 1) kn fac temp) := by
  intro kn fac temp k
  unfold x_Held.f
  refine LeO.ite (LeO.ite ?_ (LeO.refl _)) (LeO.refl _)
  exact LeO.bind (strength_held.mono _ _ _ _) fun _ => LeO.refl _
set_option maxHeartbeats 4000000 in
set_option maxRecDepth 100000 in
theorem x_Held.calls (k : Nat) (A0_0 : Option Addr) (c0_0 : Nat) (l0_0 : List S84) (a0_1 : Int) (a1 : Int) (r1 r2 : Int) (w : World) (hr0_0 : Kd.C k84 w A0_0 l0_0.length l0_0) (hc0_0 : l0_0.length ≤ c0_0) (h : x_Held.f k l0_0 a0_1 a1 = some (r1, r2)) :
    Calls Try.prog 38 #[.agg #[.slice A0_0 l0_0.length c0_0, .int .i64 a0_1], .int .i64 a1] w fun e w' => e = .returned (.tuple #[.int .i64 r1, .int .i64 r2]) ∧ Below w.heap.size w w' := by
  have hmf := run_makeFunc_
  obtain ⟨b1, b2, hb0, hsz⟩ := blk_two w (.cells #[.slice A0_0 l0_0.length c0_0, .int .i64 a0_1] 71) (.cells #[.int .i64 0] 38)
  have BX := Sd.mk b1
  have BE := Sd.mk b2
  have HSZ := Sd.mk hsz
  have HB := Sd.mk hb0
  have HR := Sd.mk (Kd.C_below hr0_0 hb0)
  clear b1 b2 hsz hb0 hr0_0
  unfold x_Held.f at h
  by_cases h0 : lehrV l0_0 a0_1 = 0
  · rw [if_pos h0] at h
    have H0 := Sd.mk h0
    clear h0
    cases hi : inB a1 0 10000 with
    | true =>
      rw [if_pos hi] at h
      obtain ⟨t, ht, h⟩ := Option.bind_eq_some_iff.mp h
      simp only [Option.some.injEq, Prod.mk.injEq] at h
      obtain ⟨rfl, rfl⟩ := h
      have HI := Sd.mk hi
      have HT := Sd.mk ht
      clear hi ht
      go_enter_defers Try.func38, Try.ntmps38
      go_wp2_with (first | (go_at_call 89; refine (lehr_ok A0_0 c0_0 l0_0 a0_1 _ HR.out H0.out).mono ?_; rintro e w1 ⟨rfl, hb1⟩; have BX1 := Sd.mk (blk_below BX.out hb1); have BE1 := Sd.mk (blk_below BE.out hb1); have HR1 := Sd.mk (Kd.C_below HR.out hb1); have HB1 := Sd.mk (below_then HB.out (by have := HSZ.out; omega) hb1); have hl0 : w1.cell? ⟨w.heap.size, 0, none⟩ = some (.slice A0_0 l0_0.length c0_0) := (blk_cell BX1.out 0).trans rfl; have hl1 : w1.cell? ⟨w.heap.size, 0 + 1, none⟩ = some (.int .i64 a0_1) := (blk_cell BX1.out 1).trans rfl; clear hb1) | (go_at_call 92; refine (swithin_f _ _ _ _).mono ?_; rw [HI.out]; rintro e w2 ⟨rfl, q, rfl⟩) | (go_at_call 91; (with_reducible refine (demand_ok _ _).mono ?_); rintro e w' ⟨rfl, rfl⟩) | (go_at_call 93; refine (strength_held.calls k _ _ l0_0 a0_1 a1 t _ (Kd.C_drewN HR1.out _) hc0_0 HT.out).mono ?_; rintro e w3 ⟨rfl, hb3⟩; have BE3 := Sd.mk (blk_below (blk_drewN BE1.out _) hb3); have HB3 := Sd.mk (below_then (pw_below_drewN HB1.out _) (pw_below_drewN HB1.out _).size hb3); have he0 : w3.cell? ⟨w.heap.size + 1, 0, none⟩ = some (.int .i64 0) := (blk_cell BE3.out 0).trans rfl; have he1 := blk_frozen BE3.out 0))
      refine leaves_cons (f := 95) (args := #[.pointer (some ⟨w.heap.size + 1, 0, none⟩)]) (by simp) (by simp [go_sem]) ?_
      refine (door95_ok _ _).mono ?_
      rintro e u' w'' ⟨rfl, rfl, rfl⟩
      exact ⟨_, results_te rfl _ _ (w.heap.size + 1) 0 rfl (blk_put BE3.out 0 _ rfl), rfl, below_set HB3.out (by omega)⟩
    | false =>
      rw [if_neg (by rw [hi]; simp)] at h
      simp only [Option.some.injEq, Prod.mk.injEq] at h
      obtain ⟨rfl, rfl⟩ := h
      have HI := Sd.mk hi
      clear hi
      go_enter_defers Try.func38, Try.ntmps38
      go_wp2_with (first | (go_at_call 89; refine (lehr_ok A0_0 c0_0 l0_0 a0_1 _ HR.out H0.out).mono ?_; rintro e w1 ⟨rfl, hb1⟩; have BE1 := Sd.mk (blk_below BE.out hb1); have HB1 := Sd.mk (below_then HB.out (by have := HSZ.out; omega) hb1); clear hb1) | (go_at_call 92; refine (swithin_f _ _ _ _).mono ?_; rw [HI.out]; rintro e w2 ⟨rfl, q, rfl⟩) | (go_at_call 91; (with_reducible refine (demand_no _ _).mono ?_); rintro e w' ⟨rfl, rfl⟩))
      refine leaves_cons (f := 95) (args := #[.pointer (some ⟨w.heap.size + 1, 0, none⟩)]) (by simp) (by simp [go_sem]) ?_
      refine (door95_fail _ _ 0 [] _ (blk_drewN BE1.out _)).mono ?_
      rintro e u' w'' ⟨rfl, rfl, rfl⟩
      exact ⟨_, results_te rfl _ _ (w.heap.size + 1) 1 rfl (blk_put (blk_alloc (blk_drewN BE1.out _) _) 0 _ rfl), rfl, below_set (below_alloc (pw_below_drewN HB1.out _) _) (by omega)⟩
  · rw [if_neg h0] at h
    simp only [Option.some.injEq, Prod.mk.injEq] at h
    obtain ⟨rfl, rfl⟩ := h
    have H0 := Sd.mk h0
    clear h0
    go_enter_defers Try.func38, Try.ntmps38
    go_wp2_with (go_at_call 89; refine (lehr_no A0_0 c0_0 l0_0 a0_1 _ HR.out H0.out).mono ?_; rintro e w1 ⟨rfl, hb1⟩)
    refine leaves_cons (f := 95) (args := #[.pointer (some ⟨w.heap.size + 1, 0, none⟩)]) (by simp) (by simp [go_sem]) ?_
    refine (door95_fail _ _ 0 [] _ (blk_below BE.out hb1)).mono ?_
    rintro e u' w'' ⟨rfl, rfl, rfl⟩
    exact ⟨_, results_te rfl _ _ (w.heap.size + 1) _ rfl (blk_put (blk_alloc (blk_below BE.out hb1) _) 0 _ rfl), rfl, below_set (below_alloc (below_then HB.out (by have := HSZ.out; omega) hb1) _) (by omega)⟩
end Go.Proofs.Ytkjkokgbhepmoaa.PB

namespace Go.Proofs.Ytkjkokgbhepmoaa.PB
open Go.RowKit Go.Proofs.YtkjkokgbhepmoaaW.PrintWords Go.Proofs.YtkjkokgbhepmoaaW.PrintLast Go.Proofs.YtkjkokgbhepmoaaW.PrintMore
def x_Strain.f (k : Nat) (kn : List S84) (fac t0 t1 th : Int) : Option (Int × Int) := if tempsV kn fac t0 t1 = 0 then (if inB th 1 2000 = true then (strength_strain.f k kn fac t0 t1 th).bind fun t => some (t, 0) else some (0, 1)) else some (0, tempsV kn fac t0 t1)
theorem x_Strain.mono : ∀ kn fac t0 t1 th k, LeO (x_Strain.f k kn fac t0 t1 th) (x_Strain.f (k + 1) kn fac t0 t1 th) := by
  intro kn fac t0 t1 th k
  unfold x_Strain.f
  refine LeO.ite (LeO.ite ?_ (LeO.refl _)) (LeO.refl _)
  exact LeO.bind (strength_strain.mono _ _ _ _ _ _) fun _ => LeO.refl _
set_option maxHeartbeats 4000000 in
set_option maxRecDepth 100000 in
theorem x_Strain.calls (k : Nat) (A0_0 : Option Addr) (c0_0 : Nat) (l0_0 : List S84) (a0_1 : Int) (a1_0 a1_1 a2 : Int) (r1 r2 : Int) (w : World) (hr0_0 : Kd.C k84 w A0_0 l0_0.length l0_0) (hc0_0 : l0_0.length ≤ c0_0) (h : x_Strain.f k l0_0 a0_1 a1_0 a1_1 a2 = some (r1, r2)) :
    Calls Try.prog 39 #[.agg #[.slice A0_0 l0_0.length c0_0, .int .i64 a0_1], .agg #[.int .i64 a1_0, .int .i64 a1_1], .int .i64 a2] w fun e w' => e = .returned (.tuple #[.int .i64 r1, .int .i64 r2]) ∧ Below w.heap.size w w' := by
  have hmf := run_makeFunc_
  obtain ⟨b1, b2, b3, hb0, hsz⟩ := blk_three w (.cells #[.slice A0_0 l0_0.length c0_0, .int .i64 a0_1] 71) (.cells #[.int .i64 a1_0, .int .i64 a1_1] 27) (.cells #[.int .i64 0] 38)
  have BX := Sd.mk b1
  have BT := Sd.mk b2
  have BE := Sd.mk b3
  have HSZ := Sd.mk hsz
  have HB := Sd.mk hb0
  have HR := Sd.mk (Kd.C_below hr0_0 hb0)
  have ht00 := (blk_cell b2 0).trans rfl
  have ht01 := (blk_cell b2 1).trans rfl
  clear b1 b2 b3 hsz hb0 hr0_0
  unfold x_Strain.f at h
  by_cases h0 : tempsV l0_0 a0_1 a1_0 a1_1 = 0
  · rw [if_pos h0] at h
    have H0 := Sd.mk h0
    clear h0
    cases hi : inB a2 1 2000 with
    | true =>
      rw [if_pos hi] at h
      obtain ⟨t, ht, h⟩ := Option.bind_eq_some_iff.mp h
      simp only [Option.some.injEq, Prod.mk.injEq] at h
      obtain ⟨rfl, rfl⟩ := h
      have HI := Sd.mk hi
      have HT := Sd.mk ht
      clear hi ht
      go_enter_defers Try.func39, Try.ntmps39
      go_wp2_with (first | (go_at_call 97; refine (temps_ok A0_0 c0_0 l0_0 a0_1 a1_0 a1_1 _ HR.out H0.out).mono ?_; rintro e w1 ⟨rfl, hb1⟩; have BX1 := Sd.mk (blk_below BX.out hb1); have BT1 := Sd.mk (blk_below BT.out hb1); have BE1 := Sd.mk (blk_below BE.out hb1); have HR1 := Sd.mk (Kd.C_below HR.out hb1); have HB1 := Sd.mk (below_then HB.out (by have := HSZ.out; omega) hb1); have hl0 : w1.cell? ⟨w.heap.size, 0, none⟩ = some (.slice A0_0 l0_0.length c0_0) := (blk_cell BX1.out 0).trans rfl; have hl1 : w1.cell? ⟨w.heap.size, 0 + 1, none⟩ = some (.int .i64 a0_1) := (blk_cell BX1.out 1).trans rfl; have ht0 : w1.cell? ⟨w.heap.size + 1, 0, none⟩ = some (.int .i64 a1_0) := (blk_cell BT1.out 0).trans rfl; have ht1 : w1.cell? ⟨w.heap.size + 1, 0 + 1, none⟩ = some (.int .i64 a1_1) := (blk_cell BT1.out 1).trans rfl; clear hb1) | (go_at_call 92; refine (swithin_f _ _ _ _).mono ?_; rw [HI.out]; rintro e w2 ⟨rfl, q, rfl⟩) | (go_at_call 91; (with_reducible refine (demand_ok _ _).mono ?_); rintro e w' ⟨rfl, rfl⟩) | (go_at_call 94; refine (strength_strain.calls k _ _ l0_0 a0_1 a1_0 a1_1 a2 t _ (Kd.C_drewN HR1.out _) hc0_0 HT.out).mono ?_; rintro e w3 ⟨rfl, hb3⟩; have BE3 := Sd.mk (blk_below (blk_drewN BE1.out _) hb3); have HB3 := Sd.mk (below_then (pw_below_drewN HB1.out _) (pw_below_drewN HB1.out _).size hb3); have he0 : w3.cell? ⟨w.heap.size + 1 + 1, 0, none⟩ = some (.int .i64 0) := (blk_cell BE3.out 0).trans rfl; have he1 := blk_frozen BE3.out 0))
      refine leaves_cons (f := 96) (args := #[.pointer (some ⟨w.heap.size + 1 + 1, 0, none⟩)]) (by simp) (by simp [go_sem]) ?_
      refine (door96_ok _ _).mono ?_
      rintro e u' w'' ⟨rfl, rfl, rfl⟩
      exact ⟨_, results_te rfl _ _ (w.heap.size + 1 + 1) 0 rfl (blk_put BE3.out 0 _ rfl), rfl, below_set HB3.out (by omega)⟩
    | false =>
      rw [if_neg (by rw [hi]; simp)] at h
      simp only [Option.some.injEq, Prod.mk.injEq] at h
      obtain ⟨rfl, rfl⟩ := h
      have HI := Sd.mk hi
      clear hi
      go_enter_defers Try.func39, Try.ntmps39
      go_wp2_with (first | (go_at_call 97; refine (temps_ok A0_0 c0_0 l0_0 a0_1 a1_0 a1_1 _ HR.out H0.out).mono ?_; rintro e w1 ⟨rfl, hb1⟩; have BE1 := Sd.mk (blk_below BE.out hb1); have HB1 := Sd.mk (below_then HB.out (by have := HSZ.out; omega) hb1); clear hb1) | (go_at_call 92; refine (swithin_f _ _ _ _).mono ?_; rw [HI.out]; rintro e w2 ⟨rfl, q, rfl⟩) | (go_at_call 91; (with_reducible refine (demand_no _ _).mono ?_); rintro e w' ⟨rfl, rfl⟩))
      refine leaves_cons (f := 96) (args := #[.pointer (some ⟨w.heap.size + 1 + 1, 0, none⟩)]) (by simp) (by simp [go_sem]) ?_
      refine (door96_fail _ _ 0 [] _ (blk_drewN BE1.out _)).mono ?_
      rintro e u' w'' ⟨rfl, rfl, rfl⟩
      exact ⟨_, results_te rfl _ _ (w.heap.size + 1 + 1) 1 rfl (blk_put (blk_alloc (blk_drewN BE1.out _) _) 0 _ rfl), rfl, below_set (below_alloc (pw_below_drewN HB1.out _) _) (by omega)⟩
  · rw [if_neg h0] at h
    simp only [Option.some.injEq, Prod.mk.injEq] at h
    obtain ⟨rfl, rfl⟩ := h
    have H0 := Sd.mk h0
    clear h0
    go_enter_defers Try.func39, Try.ntmps39
    go_wp2_with (go_at_call 97; refine (temps_no A0_0 c0_0 l0_0 a0_1 a1_0 a1_1 _ HR.out H0.out).mono ?_; rintro e w1 ⟨rfl, hb1⟩)
    refine leaves_cons (f := 96) (args := #[.pointer (some ⟨w.heap.size + 1 + 1, 0, none⟩)]) (by simp) (by simp [go_sem]) ?_
    refine (door96_fail _ _ 0 [] _ (blk_below BE.out hb1)).mono ?_
    rintro e u' w'' ⟨rfl, rfl, rfl⟩
    exact ⟨_, results_te rfl _ _ (w.heap.size + 1 + 1) _ rfl (blk_put (blk_alloc (blk_below BE.out hb1) _) 0 _ rfl), rfl, below_set (below_alloc (below_then HB.out (by have := HSZ.out; omega) hb1) _) (by omega)⟩
end Go.Proofs.Ytkjkokgbhepmoaa.PB

namespace Go.Proofs.Ytkjkokgbhepmoaa.PB
open Go.RowKit Go.Proofs.YtkjkokgbhepmoaaW.PrintWords Go.Proofs.YtkjkokgbhepmoaaW.PrintLast Go.Proofs.YtkjkokgbhepmoaaW.PrintMore
theorem blk_four (w : World) (o1 o2 o3 o4 : Obj) : ((((w.alloc o1).alloc o2).alloc o3).alloc o4).heap[w.heap.size]? = some o1 ∧ ((((w.alloc o1).alloc o2).alloc o3).alloc o4).heap[w.heap.size + 1]? = some o2 ∧ ((((w.alloc o1).alloc o2).alloc o3).alloc o4).heap[w.heap.size + 1 + 1]? = some o3 ∧ ((((w.alloc o1).alloc o2).alloc o3).alloc o4).heap[w.heap.size + 1 + 1 + 1]? = some o4 ∧ Below w.heap.size w ((((w.alloc o1).alloc o2).alloc o3).alloc o4) ∧ ((((w.alloc o1).alloc o2).alloc o3).alloc o4).heap.size = w.heap.size + 1 + 1 + 1 + 1 :=
  ⟨blk_alloc (blk_three w o1 o2 o3).1 o4, blk_alloc (blk_three w o1 o2 o3).2.1 o4, blk_alloc (blk_three w o1 o2 o3).2.2.1 o4, by simpa using blk_new (((w.alloc o1).alloc o2).alloc o3) o4, below_alloc (blk_three w o1 o2 o3).2.2.2.1 o4, by simp⟩
def x_Steepest.f (k : Nat) (kn : List S84) (fac t0 t1 : Int) : Option (Int × Int × Int) := if tempsV kn fac t0 t1 = 0 then (strength_steepest.f k kn fac t0 t1).bind fun q => (strength_quotient_lowest.f k q.1 q.2).bind fun r => some (r.1, r.2, 0) else some (0, 0, tempsV kn fac t0 t1)
set_option maxHeartbeats 4000000 in
set_option maxRecDepth 100000 in
theorem x_Steepest.calls (k : Nat) (A0_0 : Option Addr) (c0_0 : Nat) (l0_0 : List S84) (a0_1 : Int) (a1_0 a1_1 : Int) (r1 r2 r3 : Int) (w : World) (hr0_0 : Kd.C k84 w A0_0 l0_0.length l0_0) (hc0_0 : l0_0.length ≤ c0_0) (h : x_Steepest.f k l0_0 a0_1 a1_0 a1_1 = some (r1, r2, r3)) :
    Calls Try.prog 41 #[.agg #[.slice A0_0 l0_0.length c0_0, .int .i64 a0_1], .agg #[.int .i64 a1_0, .int .i64 a1_1]] w fun e w' => e = .returned (.tuple #[.agg #[.int .i64 r1, .int .i64 r2], .int .i64 r3]) ∧ Below w.heap.size w w' := by
  have hmf := run_makeFunc_
  obtain ⟨b1, b2, b3, b4, hb0, hsz⟩ := blk_four w (.cells #[.slice A0_0 l0_0.length c0_0, .int .i64 a0_1] 71) (.cells #[.int .i64 a1_0, .int .i64 a1_1] 27) (.cells #[.int .i64 0, .int .i64 0] 87) (.cells #[.int .i64 0] 38)
  have BX := Sd.mk b1
  have BT := Sd.mk b2
  have BR := Sd.mk b3
  have BE := Sd.mk b4
  have HSZ := Sd.mk hsz
  have HB := Sd.mk hb0
  have HR := Sd.mk (Kd.C_below hr0_0 hb0)
  clear b1 b2 b3 b4 hsz hb0 hr0_0
  unfold x_Steepest.f at h
  by_cases h0 : tempsV l0_0 a0_1 a1_0 a1_1 = 0
  · rw [if_pos h0] at h
    have H0 := Sd.mk h0
    clear h0
    obtain ⟨⟨q1, q2⟩, hq, h⟩ := Option.bind_eq_some_iff.mp h
    obtain ⟨⟨p1, p2⟩, hp, h⟩ := Option.bind_eq_some_iff.mp h
    simp only [Option.some.injEq, Prod.mk.injEq] at h
    obtain ⟨rfl, rfl, rfl⟩ := h
    have HQ := Sd.mk hq
    have HP := Sd.mk hp
    clear hq hp
    go_enter_defers Try.func41, Try.ntmps41
    go_wp2_with (first | (go_at_call 97; refine (temps_ok A0_0 c0_0 l0_0 a0_1 a1_0 a1_1 _ HR.out H0.out).mono ?_; rintro e w1 ⟨rfl, hb1⟩; have BX1 := Sd.mk (blk_below BX.out hb1); have BT1 := Sd.mk (blk_below BT.out hb1); have BR1 := Sd.mk (blk_below BR.out hb1); have BE1 := Sd.mk (blk_below BE.out hb1); have HR1 := Sd.mk (Kd.C_below HR.out hb1); have HB1 := Sd.mk (below_then HB.out (by have := HSZ.out; omega) hb1); have hl0 : w1.cell? ⟨w.heap.size, 0, none⟩ = some (.slice A0_0 l0_0.length c0_0) := (blk_cell BX1.out 0).trans rfl; have hl1 : w1.cell? ⟨w.heap.size, 0 + 1, none⟩ = some (.int .i64 a0_1) := (blk_cell BX1.out 1).trans rfl; have ht0 : w1.cell? ⟨w.heap.size + 1, 0, none⟩ = some (.int .i64 a1_0) := (blk_cell BT1.out 0).trans rfl; have ht1 : w1.cell? ⟨w.heap.size + 1, 0 + 1, none⟩ = some (.int .i64 a1_1) := (blk_cell BT1.out 1).trans rfl; clear hb1) | (go_at_call 100; refine (strength_steepest.calls k _ _ l0_0 a0_1 a1_0 a1_1 q1 q2 _ HR1.out hc0_0 HQ.out).mono ?_; rintro e w2 ⟨rfl, hb2⟩; have BR2 := Sd.mk (blk_below BR1.out hb2); have BE2 := Sd.mk (blk_below BE1.out hb2); have HB2 := Sd.mk (below_then HB1.out HB1.out.size hb2); clear hb2) | (go_at_call 101; refine (strength_quotient_lowest.calls k q1 q2 p1 p2 _ HP.out).mono ?_; rintro e w3 ⟨rfl, hb3⟩; have BR3 := Sd.mk (blk_below BR2.out hb3); have BE3 := Sd.mk (blk_below BE2.out hb3); have HB3 := Sd.mk (below_then HB2.out HB2.out.size hb3); have he0 : w3.cell? ⟨w.heap.size + 1 + 1 + 1, 0, none⟩ = some (.int .i64 0) := (blk_cell BE3.out 0).trans rfl; have he1 := blk_frozen BE3.out 0; have hq0 : w3.cell? ⟨w.heap.size + 1 + 1, 0, none⟩ = some (.int .i64 0) := (blk_cell BR3.out 0).trans rfl; have hq1 : w3.cell? ⟨w.heap.size + 1 + 1, 0 + 1, none⟩ = some (.int .i64 0) := (blk_cell BR3.out 1).trans rfl; have hq2 := blk_frozen BR3.out 0; have hq3 := blk_frozen BR3.out 1))
    refine leaves_cons (f := 99) (args := #[.pointer (some ⟨w.heap.size + 1 + 1 + 1, 0, none⟩)]) (by simp) (by simp [go_sem]) ?_
    refine (door99_ok _ _).mono ?_
    rintro e u' w'' ⟨rfl, rfl, rfl⟩
    have BRf := blk_far (blk_put (blk_put BR3.out 0 (.int .i64 p1) rfl) 1 (.int .i64 p2) rfl) (show w.heap.size + 1 + 1 ≠ (⟨w.heap.size + 1 + 1 + 1, 0, none⟩ : Addr).block by show _ ≠ _; simp) (.int .i64 0)
    have BEf := blk_put (blk_far (blk_far BE3.out (show w.heap.size + 1 + 1 + 1 ≠ (⟨w.heap.size + 1 + 1, 0, none⟩ : Addr).block by show _ ≠ _; simp) (.int .i64 p1)) (show w.heap.size + 1 + 1 + 1 ≠ (⟨w.heap.size + 1 + 1, 1, none⟩ : Addr).block by show _ ≠ _; simp) (.int .i64 p2)) 0 (.int .i64 0) rfl
    exact ⟨_, results_ce rfl _ _ (w.heap.size + 1 + 1) (w.heap.size + 1 + 1 + 1) _ _ rfl (run_loadVar_row _ _ 87 87 _ (0, 0) _ BRf Try.underlying87 rfl (by kernel_rfl)) rfl BEf, rfl, below_set (below_set (below_set HB3.out (by omega)) (by omega)) (by omega)⟩
  · rw [if_neg h0] at h
    simp only [Option.some.injEq, Prod.mk.injEq] at h
    obtain ⟨rfl, rfl, rfl⟩ := h
    have H0 := Sd.mk h0
    clear h0
    go_enter_defers Try.func41, Try.ntmps41
    go_wp2_with (go_at_call 97; refine (temps_no A0_0 c0_0 l0_0 a0_1 a1_0 a1_1 _ HR.out H0.out).mono ?_; rintro e w1 ⟨rfl, hb1⟩)
    refine leaves_cons (f := 99) (args := #[.pointer (some ⟨w.heap.size + 1 + 1 + 1, 0, none⟩)]) (by simp) (by simp [go_sem]) ?_
    refine (door99_fail _ _ 0 [] _ (blk_below BE.out hb1)).mono ?_
    rintro e u' w'' ⟨rfl, rfl, rfl⟩
    have BRf : ((w1.alloc (.cells #[.int .i64 (tempsV l0_0 a0_1 a1_0 a1_1)] 174)).setCell ⟨w.heap.size + 1 + 1 + 1, 0, none⟩ (.int .i64 (tempsV l0_0 a0_1 a1_0 a1_1))).heap[w.heap.size + 1 + 1]? = some (.cells #[.int .i64 0, .int .i64 0] 87 (0, 0)) :=
      blk_far (blk_alloc (blk_below BR.out hb1) _) (by show _ ≠ _; simp) _
    exact ⟨_, results_ce rfl _ _ (w.heap.size + 1 + 1) (w.heap.size + 1 + 1 + 1) _ _ rfl (run_loadVar_row _ _ 87 87 _ (0, 0) _ BRf Try.underlying87 rfl (by kernel_rfl)) rfl (blk_put (blk_alloc (blk_below BE.out hb1) _) 0 _ rfl), rfl, below_set (below_alloc (below_then HB.out (by have := HSZ.out; omega) hb1) _) (by omega)⟩
end Go.Proofs.Ytkjkokgbhepmoaa.PB

