import Derived.Test.YtkjkokgbhepmoaaB5
set_option linter.unusedVariables false
set_option linter.unusedSimpArgs false
namespace Go.Proofs.Ytkjkokgbhepmoaa.PB
open Go.RowKit Go.Proofs.YtkjkokgbhepmoaaW.PrintWords Go.Proofs.YtkjkokgbhepmoaaW.PrintLast Go.Proofs.YtkjkokgbhepmoaaW.PrintMore
attribute [local go_sem] max2_int min2_int max_two min_two max_three min_three max_four min_four
mutual
def batch_least.l0 : Nat → List (S51) → Int → List (S51) → Int → Int → List ByteArray → List (S63) → List (S27) → List (S65) → Int → Int → Int → Int → List Int → Option (Int)
 | 0, _, _, _, _, _, _, _, _, _, _, _, _, _, _ => none
 | k + 1, x1, x7, x16, x17, x18, x469q0, x469q1, x469q2, x469q3, x469q4, x469q5, x469q6, x470q0, x470q1 => if x18 < x17 then (if 0 ≤ x18 then (if x18 < (x16.length : Int) then (if x18 < (x470q1.length : Int) then (batch_least.l0 k x1 (wrap64 (x7 - (wrap64 ((rd x470q1 x18) * ((rd_T51 x16 x18).f1))))) x16 x17 (wrap64 (x18 + 1)) x469q0 x469q1 x469q2 x469q3 x469q4 x469q5 x469q6 x470q0 x470q1) else (none)) else (none)) else (none)) else (batch_least.l1 k x1 x7 x469q1 (x469q1.length : Int) 0 x470q0 x470q1)
def batch_least.l1 : Nat → List (S51) → Int → List (S63) → Int → Int → Int → List Int → Option (Int)
 | 0, _, _, _, _, _, _, _ => none
 | k + 1, x1, x7, x35, x36, x37, x470q0, x470q1 => if x37 < x36 then (if 0 ≤ x37 then (if x37 < (x35.length : Int) then (batch_least.l2 k x1 x7 x37 (wrap64 (x470q0 * ((rd_T63 x35 x37).f1))) x35 x36 x37 x1 (x1.length : Int) 0 x470q0 x470q1 ((rd_T63 x35 x37).f0) ((rd_T63 x35 x37).f1) ((rd_T63 x35 x37).f2) ((rd_T63 x35 x37).f3) ((rd_T63 x35 x37).f4) ((rd_T63 x35 x37).f5) ((rd_T63 x35 x37).f6)) else (none)) else (none)) else (some x7)
def batch_least.l2 : Nat → List (S51) → Int → Int → Int → List (S63) → Int → Int → List (S51) → Int → Int → Int → List Int → ByteArray → Int → Int → Int → Int → Int → List (S27) → Option (Int)
 | 0, _, _, _, _, _, _, _, _, _, _, _, _, _, _, _, _, _, _, _ => none
 | k + 1, x1, x7, x10, x12, x35, x36, x37, x47, x48, x49, x470q0, x470q1, x475q0, x475q1, x475q2, x475q3, x475q4, x475q5, x475q6 => if x49 < x48 then (if 0 ≤ x49 then (if x49 < (x47.length : Int) then (if x49 < (x470q1.length : Int) then (if 0 ≤ x10 then (if x10 < (((rd_T51 x47 x49).f0).length : Int) then (batch_least.l2 k x1 x7 x10 (wrap64 (x12 + (wrap64 ((rd x470q1 x49) * (rd ((rd_T51 x47 x49).f0) x10))))) x35 x36 x37 x47 x48 (wrap64 (x49 + 1)) x470q0 x470q1 x475q0 x475q1 x475q2 x475q3 x475q4 x475q5 x475q6) else (none)) else (none)) else (none)) else (none)) else (none)) else (if x475q5 = 0 then (none) else (batch_least.l1 k x1 (wrap64 (x7 + (mn (wrap64 (x12 * x475q3)) (wrap64 (x12 * (wrap64 (x475q4 - (Int.tmod (wrap64 (x475q4 - x475q3)) x475q5)))))))) x35 x36 (wrap64 (x37 + 1)) x470q0 x470q1))
end
def batch_least.f (k : Nat) (l0_0 : List ByteArray) (l0_1 : List (S63)) (l0_2 : List (S27)) (l0_3 : List (S65)) (a0_4 : Int) (a0_5 : Int) (a0_6 : Int) (l1 : List (S51)) (a2_0 : Int) (l2_1 : List Int) : Option (Int) := batch_least.l0 k l1 0 l1 (l1.length : Int) 0 l0_0 l0_1 l0_2 l0_3 a0_4 a0_5 a0_6 a2_0 l2_1
set_option maxHeartbeats 8000000 in
set_option maxRecDepth 100000 in
theorem batch_least.calls (k : Nat) (A0_0 : Option Addr) (c0_0 : Nat) (l0_0 : List ByteArray) (A0_1 : Option Addr) (c0_1 : Nat) (l0_1 : List (S63)) (A0_2 : Option Addr) (c0_2 : Nat) (l0_2 : List (S27)) (A0_3 : Option Addr) (c0_3 : Nat) (l0_3 : List (S65)) (a0_4 : Int) (a0_5 : Int) (a0_6 : Int) (A1 : Option Addr) (c1 : Nat) (l1 : List (S51)) (a2_0 : Int) (A2_1 : Option Addr) (c2_1 : Nat) (l2_1 : List Int) (r : Int) (w : World) (hr0_0 : Kd.C Kd.string w A0_0 l0_0.length l0_0) (hc0_0 : l0_0.length ≤ c0_0) (hr0_1 : Kd.C k63 w A0_1 l0_1.length l0_1) (hc0_1 : l0_1.length ≤ c0_1) (hr0_2 : Kd.C k27 w A0_2 l0_2.length l0_2) (hc0_2 : l0_2.length ≤ c0_2) (hr0_3 : Kd.C k65 w A0_3 l0_3.length l0_3) (hc0_3 : l0_3.length ≤ c0_3) (hr1 : Kd.C k51 w A1 l1.length l1) (hc1 : l1.length ≤ c1) (hr2_1 : Kd.C (Kd.int .i64) w A2_1 l2_1.length l2_1) (hc2_1 : l2_1.length ≤ c2_1) (h : batch_least.f k l0_0 l0_1 l0_2 l0_3 a0_4 a0_5 a0_6 l1 a2_0 l2_1 = some r) :
  Calls Try.prog 82 #[.agg #[.slice A0_0 l0_0.length c0_0, .slice A0_1 l0_1.length c0_1, .slice A0_2 l0_2.length c0_2, .slice A0_3 l0_3.length c0_3, .int .i64 a0_4, .int .i64 a0_5, .int .i64 a0_6], .slice A1 l1.length c1, .agg #[.int .i64 a2_0, .slice A2_1 l2_1.length c2_1]] w fun e w' => e = .returned (.int .i64 r) ∧ Below w.heap.size w w' := by
 have hu29 := Try.underlying29; have hu32 := Try.underlying32; have hu51 := Try.underlying51; have hu63 := Try.underlying63; have HR0_0 := Sd.mk hr0_0; have HC0_0 := Sd.mk hc0_0; clear hr0_0 hc0_0; have HR0_1 := Sd.mk hr0_1; have HC0_1 := Sd.mk hc0_1; clear hr0_1 hc0_1; have HR0_2 := Sd.mk hr0_2; have HC0_2 := Sd.mk hc0_2; clear hr0_2 hc0_2; have HR0_3 := Sd.mk hr0_3; have HC0_3 := Sd.mk hc0_3; clear hr0_3 hc0_3; have HR1 := Sd.mk hr1; have HC1 := Sd.mk hc1; clear hr1 hc1; have HR2_1 := Sd.mk hr2_1; have HC2_1 := Sd.mk hc2_1; clear hr2_1 hc2_1; have HB := Sd.mk (Below.refl w.heap.size w)
 have H : (batch_least.l0 k l1 0 l1 (l1.length : Int) 0 l0_0 l0_1 l0_2 l0_3 a0_4 a0_5 a0_6 a2_0 l2_1) = some r := h
 clear h; have H' := Sd.mk H; clear H
 go_enter Try.func82, Try.ntmps82
 go_wp2_with (first | ((with_reducible refine gate_dst (N := 3) rfl ?_); refine box_event ?hg (N := 3) ?hd (cs := #[.slice A0_0 l0_0.length c0_0, .slice A0_1 l0_1.length c0_1, .slice A0_2 l0_2.length c0_2, .slice A0_3 l0_3.length c0_3, .int .i64 a0_4, .int .i64 a0_5, .int .i64 a0_6]) (t := 29) ?hr ?_; (case hd => rfl); (case hg => rfl); (case hr => exact tG); intro gb468 hg w4 hbox hb; have BK468 := Sd.mk (hbox); have GW468 := Sd.mk (bSz hg (bBl HB.out)); have GE468 := Sd.mk (bSz hg (bBl HB.out)); replace HB := Sd.mk (below_step (bBl HB.out) hb); clear hb hbox hg) | ((with_reducible refine gate_dst (N := 5) rfl ?_); refine box_event ?hg (N := 5) ?hd (cs := #[.int .i64 a2_0, .slice A2_1 l2_1.length c2_1]) (t := 32) ?hr ?_; (case hd => rfl); (case hg => rfl); (case hr => exact tG); intro gb469 hg w5 hbox hb; have BK469 := Sd.mk (hbox); have GW469 := Sd.mk (bSz hg (bBl HB.out)); have GE469 := Sd.mk (bSz hg (bBl HB.out)); replace HB := Sd.mk (below_step (bBl HB.out) hb); have NB468_469 := Sd.mk (bNl hg (bkA BK468.out)); have NB469_468 := Sd.mk (bNg hg (bkA BK468.out)); replace BK468 := Sd.mk (blk_below (bkA BK468.out) hb); clear hb hbox hg))
 repeat (go_quiet (first | ((with_reducible refine gate_dst (N := 3) rfl ?_); refine box_event ?hg (N := 3) ?hd (cs := #[.slice A0_0 l0_0.length c0_0, .slice A0_1 l0_1.length c0_1, .slice A0_2 l0_2.length c0_2, .slice A0_3 l0_3.length c0_3, .int .i64 a0_4, .int .i64 a0_5, .int .i64 a0_6]) (t := 29) ?hr ?_; (case hd => rfl); (case hg => rfl); (case hr => exact tG); intro gb468 hg w4 hbox hb; have BK468 := Sd.mk (hbox); have GW468 := Sd.mk (bSz hg (bBl HB.out)); have GE468 := Sd.mk (bSz hg (bBl HB.out)); replace HB := Sd.mk (below_step (bBl HB.out) hb); clear hb hbox hg) | ((with_reducible refine gate_dst (N := 5) rfl ?_); refine box_event ?hg (N := 5) ?hd (cs := #[.int .i64 a2_0, .slice A2_1 l2_1.length c2_1]) (t := 32) ?hr ?_; (case hd => rfl); (case hg => rfl); (case hr => exact tG); intro gb469 hg w5 hbox hb; have BK469 := Sd.mk (hbox); have GW469 := Sd.mk (bSz hg (bBl HB.out)); have GE469 := Sd.mk (bSz hg (bBl HB.out)); replace HB := Sd.mk (below_step (bBl HB.out) hb); have NB468_469 := Sd.mk (bNl hg (bkA BK468.out)); have NB469_468 := Sd.mk (bNg hg (bkA BK468.out)); replace BK468 := Sd.mk (blk_below (bkA BK468.out) hb); clear hb hbox hg)); try go_wp2_with (first | ((with_reducible refine gate_dst (N := 3) rfl ?_); refine box_event ?hg (N := 3) ?hd (cs := #[.slice A0_0 l0_0.length c0_0, .slice A0_1 l0_1.length c0_1, .slice A0_2 l0_2.length c0_2, .slice A0_3 l0_3.length c0_3, .int .i64 a0_4, .int .i64 a0_5, .int .i64 a0_6]) (t := 29) ?hr ?_; (case hd => rfl); (case hg => rfl); (case hr => exact tG); intro gb468 hg w4 hbox hb; have BK468 := Sd.mk (hbox); have GW468 := Sd.mk (bSz hg (bBl HB.out)); have GE468 := Sd.mk (bSz hg (bBl HB.out)); replace HB := Sd.mk (below_step (bBl HB.out) hb); clear hb hbox hg) | ((with_reducible refine gate_dst (N := 5) rfl ?_); refine box_event ?hg (N := 5) ?hd (cs := #[.int .i64 a2_0, .slice A2_1 l2_1.length c2_1]) (t := 32) ?hr ?_; (case hd => rfl); (case hg => rfl); (case hr => exact tG); intro gb469 hg w5 hbox hb; have BK469 := Sd.mk (hbox); have GW469 := Sd.mk (bSz hg (bBl HB.out)); have GE469 := Sd.mk (bSz hg (bBl HB.out)); replace HB := Sd.mk (below_step (bBl HB.out) hb); have NB468_469 := Sd.mk (bNl hg (bkA BK468.out)); have NB469_468 := Sd.mk (bNg hg (bkA BK468.out)); replace BK468 := Sd.mk (blk_below (bkA BK468.out) hb); clear hb hbox hg)))
 go_loopg [7, 18] k (fun kq v7 v18 w' => ∃ (x7_1 : Int) (x18_1 : Int), v7 = .int .i64 x7_1 ∧ v18 = .int .i64 x18_1 ∧ Sd (batch_least.l0 kq l1 x7_1 l1 (l1.length : Int) x18_1 l0_0 l0_1 l0_2 l0_3 a0_4 a0_5 a0_6 a2_0 l2_1 = some r) ∧ Sd (kq ≤ k) ∧ Sd (w'.heap[gb468]? = some (.cells #[(.slice A0_0 l0_0.length c0_0), (.slice A0_1 l0_1.length c0_1), (.slice A0_2 l0_2.length c0_2), (.slice A0_3 l0_3.length c0_3), .int .i64 a0_4, .int .i64 a0_5, .int .i64 a0_6] 29 (0, 0))) ∧ Sd (w'.heap[gb469]? = some (.cells #[.int .i64 a2_0, (.slice A2_1 l2_1.length c2_1)] 32 (0, 0))) ∧ Sd (Below w.heap.size w w'))
 case atStart => exact ⟨(0), (0), tS, tS, H', ⟨Nat.le_refl _⟩, ⟨bkA BK468.out⟩, ⟨bkA BK469.out⟩, ⟨bBl HB.out⟩⟩
 case round =>
  clear H'; (try clear c1); (try clear c2); (try clear p2); obtain ⟨x7_1, x18_1, rfl, rfl, HA, HK1, BK468, BK469, HB⟩ := hrel
  cases gk with
  | zero => exact absurd HA.out (by simp [batch_least.l0])
  | succ k1 =>
   have H := HA.out; clear HA
   simp only [batch_least.l0] at H
   by_cases c6 : x18_1 < (l1.length : Int)
   ·rw [if_pos c6] at H
    have c6b0 : decide (x18_1 < (l1.length : Int)) = true := decide_eq_true c6
    clear c6
    by_cases c7 : 0 ≤ x18_1
    ·rw [if_pos c7] at H
     have c7b0 : decide (0 ≤ x18_1) = true := decide_eq_true c7
     clear c7
     by_cases c8 : x18_1 < (l1.length : Int)
     ·rw [if_pos c8] at H
      have c8b0 : decide (x18_1 < (l1.length : Int)) = true := decide_eq_true c8
      clear c8
      by_cases c9 : x18_1 < (l2_1.length : Int)
      ·rw [if_pos c9] at H
       have c9b0 : decide (x18_1 < (l2_1.length : Int)) = true := decide_eq_true c9
       clear c9; have H' := Sd.mk H; clear H
       have p470 : 0 ≤ (x18_1 : Int) := tB
       have q470 : x18_1 < (l1.length : Int) := tB
       obtain ⟨ad470, A470_0, c470_0, e470, hx470_0, hx470_1, hl470_0, hi470_0⟩ := at_T51 HR1.out x18_1 p470 q470; cases e470; replace hx470_0 := cU HB hx470_0; replace hx470_1 := cU HB hx470_1; have HR470_0 := Sd.mk hi470_0; have HC470_0 := Sd.mk hl470_0; clear hi470_0 hl470_0; replace p470 := eq_true p470; replace q470 := eq_true q470
       go_wp2_with (first | ((with_reducible refine gate_dst (N := 9) rfl ?_); refine box_event ?hg (N := 9) ?hd (cs := #[.slice none 0 0, .int .i64 0]) (t := 51) ?hr ?_; (case hd => rfl); (case hg => rfl); (case hr => exact tG); intro gb471 hg w10 hbox hb; have BK471 := Sd.mk (hbox); have GW471 := Sd.mk (bSz hg (bBl HB.out)); have GE471 := Sd.mk (bSz hg (bBl HB.out)); replace HB := Sd.mk (below_step (bBl HB.out) hb); have NB468_471 := Sd.mk (bNl hg (bkA BK468.out)); have NB471_468 := Sd.mk (bNg hg (bkA BK468.out)); replace BK468 := Sd.mk (blk_below (bkA BK468.out) hb); have NB469_471 := Sd.mk (bNl hg (bkA BK469.out)); have NB471_469 := Sd.mk (bNg hg (bkA BK469.out)); replace BK469 := Sd.mk (blk_below (bkA BK469.out) hb); clear hb hbox hg; have hnb11 := NB471_468.out; have hnc11 := NB468_471.out; have hnb12 := NB471_469.out; have hnc12 := NB469_471.out; obtain ⟨u13_0, u13_1, o13_0, o13_1⟩ := bc2 (w := w10) BK471.out; have hnb14 := NB469_468.out; have hnc14 := NB468_469.out; obtain ⟨u15_0, u15_1, o15_0, o15_1⟩ := bc2 (w := w10) BK469.out; have p472 : 0 ≤ (x18_1 : Int) := tB; have q472 : x18_1 < (l2_1.length : Int) := tB; obtain ⟨ad472, e472, hx472_0⟩ := Kd.at_int HR2_1.out x18_1 p472 q472; cases e472; have hn472_0 : ad472.block ≠ gb471 := Nat.ne_of_lt (Nat.lt_of_lt_of_le (by have := World.block_lt_of_cell? _ _ hx472_0; first | rwa [add_block] at this | exact this) GW471.out); have hn472_1 : ad472.block ≠ gb471 := Nat.ne_of_lt (Nat.lt_of_lt_of_le (by have := World.block_lt_of_cell? _ _ hx472_0; first | rwa [add_block] at this | exact this) GW471.out); replace hx472_0 := cU HB hx472_0; replace hx472_0 := (cell_far (p := ⟨gb471, 0, none⟩) (by first | (rw [add_block]; exact hn472_0) | (show (Addr.add _ _).block ≠ _; rw [add_block]; exact hn472_0) | exact hn472_0) (.slice A470_0 ((rd_T51 l1 x18_1).f0).length c470_0)).trans hx472_0; replace hx472_0 := (cell_far (p := ⟨gb471, 1, none⟩) (by first | (rw [add_block]; exact hn472_1) | (show (Addr.add _ _).block ≠ _; rw [add_block]; exact hn472_1) | exact hn472_1) (.int .i64 ((rd_T51 l1 x18_1).f1))).trans hx472_0; (try have hy472_0 := fun (n_ : Nat) => (show ((((w10.drewN n_).setCell ⟨gb471, 0, none⟩ (.slice A470_0 ((rd_T51 l1 x18_1).f0).length c470_0)).setCell ⟨gb471, 1, none⟩ (.int .i64 ((rd_T51 l1 x18_1).f1)))).cell? _ = some _ from hx472_0)); clear hn472_0; clear hn472_1; replace p472 := eq_true p472; replace q472 := eq_true q472))
       repeat (go_quiet (first | ((with_reducible refine gate_dst (N := 9) rfl ?_); refine box_event ?hg (N := 9) ?hd (cs := #[.slice none 0 0, .int .i64 0]) (t := 51) ?hr ?_; (case hd => rfl); (case hg => rfl); (case hr => exact tG); intro gb471 hg w10 hbox hb; have BK471 := Sd.mk (hbox); have GW471 := Sd.mk (bSz hg (bBl HB.out)); have GE471 := Sd.mk (bSz hg (bBl HB.out)); replace HB := Sd.mk (below_step (bBl HB.out) hb); have NB468_471 := Sd.mk (bNl hg (bkA BK468.out)); have NB471_468 := Sd.mk (bNg hg (bkA BK468.out)); replace BK468 := Sd.mk (blk_below (bkA BK468.out) hb); have NB469_471 := Sd.mk (bNl hg (bkA BK469.out)); have NB471_469 := Sd.mk (bNg hg (bkA BK469.out)); replace BK469 := Sd.mk (blk_below (bkA BK469.out) hb); clear hb hbox hg; have hnb11 := NB471_468.out; have hnc11 := NB468_471.out; have hnb12 := NB471_469.out; have hnc12 := NB469_471.out; obtain ⟨u13_0, u13_1, o13_0, o13_1⟩ := bc2 (w := w10) BK471.out; have hnb14 := NB469_468.out; have hnc14 := NB468_469.out; obtain ⟨u15_0, u15_1, o15_0, o15_1⟩ := bc2 (w := w10) BK469.out; have p472 : 0 ≤ (x18_1 : Int) := tB; have q472 : x18_1 < (l2_1.length : Int) := tB; obtain ⟨ad472, e472, hx472_0⟩ := Kd.at_int HR2_1.out x18_1 p472 q472; cases e472; have hn472_0 : ad472.block ≠ gb471 := Nat.ne_of_lt (Nat.lt_of_lt_of_le (by have := World.block_lt_of_cell? _ _ hx472_0; first | rwa [add_block] at this | exact this) GW471.out); have hn472_1 : ad472.block ≠ gb471 := Nat.ne_of_lt (Nat.lt_of_lt_of_le (by have := World.block_lt_of_cell? _ _ hx472_0; first | rwa [add_block] at this | exact this) GW471.out); replace hx472_0 := cU HB hx472_0; replace hx472_0 := (cell_far (p := ⟨gb471, 0, none⟩) (by first | (rw [add_block]; exact hn472_0) | (show (Addr.add _ _).block ≠ _; rw [add_block]; exact hn472_0) | exact hn472_0) (.slice A470_0 ((rd_T51 l1 x18_1).f0).length c470_0)).trans hx472_0; replace hx472_0 := (cell_far (p := ⟨gb471, 1, none⟩) (by first | (rw [add_block]; exact hn472_1) | (show (Addr.add _ _).block ≠ _; rw [add_block]; exact hn472_1) | exact hn472_1) (.int .i64 ((rd_T51 l1 x18_1).f1))).trans hx472_0; (try have hy472_0 := fun (n_ : Nat) => (show ((((w10.drewN n_).setCell ⟨gb471, 0, none⟩ (.slice A470_0 ((rd_T51 l1 x18_1).f0).length c470_0)).setCell ⟨gb471, 1, none⟩ (.int .i64 ((rd_T51 l1 x18_1).f1)))).cell? _ = some _ from hx472_0)); clear hn472_0; clear hn472_1; replace p472 := eq_true p472; replace q472 := eq_true q472)); try go_wp2_with (first | ((with_reducible refine gate_dst (N := 9) rfl ?_); refine box_event ?hg (N := 9) ?hd (cs := #[.slice none 0 0, .int .i64 0]) (t := 51) ?hr ?_; (case hd => rfl); (case hg => rfl); (case hr => exact tG); intro gb471 hg w10 hbox hb; have BK471 := Sd.mk (hbox); have GW471 := Sd.mk (bSz hg (bBl HB.out)); have GE471 := Sd.mk (bSz hg (bBl HB.out)); replace HB := Sd.mk (below_step (bBl HB.out) hb); have NB468_471 := Sd.mk (bNl hg (bkA BK468.out)); have NB471_468 := Sd.mk (bNg hg (bkA BK468.out)); replace BK468 := Sd.mk (blk_below (bkA BK468.out) hb); have NB469_471 := Sd.mk (bNl hg (bkA BK469.out)); have NB471_469 := Sd.mk (bNg hg (bkA BK469.out)); replace BK469 := Sd.mk (blk_below (bkA BK469.out) hb); clear hb hbox hg; have hnb11 := NB471_468.out; have hnc11 := NB468_471.out; have hnb12 := NB471_469.out; have hnc12 := NB469_471.out; obtain ⟨u13_0, u13_1, o13_0, o13_1⟩ := bc2 (w := w10) BK471.out; have hnb14 := NB469_468.out; have hnc14 := NB468_469.out; obtain ⟨u15_0, u15_1, o15_0, o15_1⟩ := bc2 (w := w10) BK469.out; have p472 : 0 ≤ (x18_1 : Int) := tB; have q472 : x18_1 < (l2_1.length : Int) := tB; obtain ⟨ad472, e472, hx472_0⟩ := Kd.at_int HR2_1.out x18_1 p472 q472; cases e472; have hn472_0 : ad472.block ≠ gb471 := Nat.ne_of_lt (Nat.lt_of_lt_of_le (by have := World.block_lt_of_cell? _ _ hx472_0; first | rwa [add_block] at this | exact this) GW471.out); have hn472_1 : ad472.block ≠ gb471 := Nat.ne_of_lt (Nat.lt_of_lt_of_le (by have := World.block_lt_of_cell? _ _ hx472_0; first | rwa [add_block] at this | exact this) GW471.out); replace hx472_0 := cU HB hx472_0; replace hx472_0 := (cell_far (p := ⟨gb471, 0, none⟩) (by first | (rw [add_block]; exact hn472_0) | (show (Addr.add _ _).block ≠ _; rw [add_block]; exact hn472_0) | exact hn472_0) (.slice A470_0 ((rd_T51 l1 x18_1).f0).length c470_0)).trans hx472_0; replace hx472_0 := (cell_far (p := ⟨gb471, 1, none⟩) (by first | (rw [add_block]; exact hn472_1) | (show (Addr.add _ _).block ≠ _; rw [add_block]; exact hn472_1) | exact hn472_1) (.int .i64 ((rd_T51 l1 x18_1).f1))).trans hx472_0; (try have hy472_0 := fun (n_ : Nat) => (show ((((w10.drewN n_).setCell ⟨gb471, 0, none⟩ (.slice A470_0 ((rd_T51 l1 x18_1).f0).length c470_0)).setCell ⟨gb471, 1, none⟩ (.int .i64 ((rd_T51 l1 x18_1).f1)))).cell? _ = some _ from hx472_0)); clear hn472_0; clear hn472_1; replace p472 := eq_true p472; replace q472 := eq_true q472)))
       go_roundg k1
       case measure => have := HK1.out; omega
       case rel => exact ⟨(wrap64 (x7_1 - (wrap64 ((rd l2_1 x18_1) * ((rd_T51 l1 x18_1).f1))))), (wrap64 (x18_1 + 1)), tS, tS, H', ⟨by have := HK1.out; omega⟩, ⟨by (with_reducible repeat (first | refine blk_drewN ?_ _ | refine blk_drew ?_ | refine blk_alloc ?_ _)); refine blk_far ?_ NB468_471.out _; (with_reducible repeat (first | refine blk_drewN ?_ _ | refine blk_drew ?_ | refine blk_alloc ?_ _)); refine blk_far ?_ NB468_471.out _; (with_reducible repeat (first | refine blk_drewN ?_ _ | refine blk_drew ?_ | refine blk_alloc ?_ _)); exact BK468.out⟩, ⟨by (with_reducible repeat (first | refine blk_drewN ?_ _ | refine blk_drew ?_ | refine blk_alloc ?_ _)); refine blk_far ?_ NB469_471.out _; (with_reducible repeat (first | refine blk_drewN ?_ _ | refine blk_drew ?_ | refine blk_alloc ?_ _)); refine blk_far ?_ NB469_471.out _; (with_reducible repeat (first | refine blk_drewN ?_ _ | refine blk_drew ?_ | refine blk_alloc ?_ _)); exact BK469.out⟩, ⟨bBl HB.out⟩⟩
      ·rw [if_neg c9] at H
       exact absurd H (by simp)
     ·rw [if_neg c8] at H
      exact absurd H (by simp)
    ·rw [if_neg c7] at H
     exact absurd H (by simp)
   ·rw [if_neg c6] at H
    have c6b0 : decide (x18_1 < (l1.length : Int)) = false := decide_eq_false c6
    clear c6; have H' := Sd.mk H; clear H; have hnb16 := NB468_469.out; have hnc16 := NB469_468.out; obtain ⟨u17_0, u17_1, u17_2, u17_3, u17_4, u17_5, u17_6, o17_0, o17_1, o17_2, o17_3, o17_4, o17_5, o17_6⟩ := bc7 (w := wr) BK468.out
    go_wp2
    repeat (go_quiet (fail); try go_wp2)
    go_loopg [7, 37] k1 (fun kq v7 v37 w' => ∃ (x7_2 : Int) (x37_2 : Int), v7 = .int .i64 x7_2 ∧ v37 = .int .i64 x37_2 ∧ Sd (batch_least.l1 kq l1 x7_2 l0_1 (l0_1.length : Int) x37_2 a2_0 l2_1 = some r) ∧ Sd (kq ≤ k1) ∧ Sd (w'.heap[gb468]? = some (.cells #[(.slice A0_0 l0_0.length c0_0), (.slice A0_1 l0_1.length c0_1), (.slice A0_2 l0_2.length c0_2), (.slice A0_3 l0_3.length c0_3), .int .i64 a0_4, .int .i64 a0_5, .int .i64 a0_6] 29 (0, 0))) ∧ Sd (w'.heap[gb469]? = some (.cells #[.int .i64 a2_0, (.slice A2_1 l2_1.length c2_1)] 32 (0, 0))) ∧ Sd (Below w.heap.size w w'))
    case atStart => exact ⟨(x7_1), (0), tS, tS, H', ⟨Nat.le_refl _⟩, ⟨bkA BK468.out⟩, ⟨bkA BK469.out⟩, ⟨bBl HB.out⟩⟩
    case round =>
     clear H'; (try clear c1); (try clear c2); (try clear p2 p2); (try clear c4); (try clear p4); (try clear q4); (try clear hx4); (try clear c6); (try clear c6b0); (try clear p6); (try clear c7); (try clear c7b0); (try clear c8); (try clear c8b0); (try clear c9); (try clear c9b0); (try clear c11); (try clear c12); (try clear c14); (try clear c16); (try clear u13_0 u13_1); (try clear u15_0 u15_1); (try clear u17_0 u17_1 u17_2 u17_3 u17_4 u17_5 u17_6); (try clear o13_0 o13_1); (try clear o15_0 o15_1); (try clear o17_0 o17_1 o17_2 o17_3 o17_4 o17_5 o17_6); (try clear hx470_0); (try clear hx470_1); (try clear hx472_0); (try clear p470); (try clear p472); (try clear q470); (try clear q472); obtain ⟨x7_2, x37_2, rfl, rfl, HA, HK2, BK468, BK469, HB⟩ := hrel
     cases gk with
     | zero => exact absurd HA.out (by simp [batch_least.l1])
     | succ k2 =>
      have H := HA.out; clear HA
      simp only [batch_least.l1] at H
      by_cases c18 : x37_2 < (l0_1.length : Int)
      ·rw [if_pos c18] at H
       have c18b0 : decide (x37_2 < (l0_1.length : Int)) = true := decide_eq_true c18
       clear c18
       by_cases c19 : 0 ≤ x37_2
       ·rw [if_pos c19] at H
        have c19b0 : decide (0 ≤ x37_2) = true := decide_eq_true c19
        clear c19
        by_cases c20 : x37_2 < (l0_1.length : Int)
        ·rw [if_pos c20] at H
         have c20b0 : decide (x37_2 < (l0_1.length : Int)) = true := decide_eq_true c20
         clear c20; have H' := Sd.mk H; clear H
         have p473 : 0 ≤ (x37_2 : Int) := tB
         have q473 : x37_2 < (l0_1.length : Int) := tB
         obtain ⟨ad473, A473_6, c473_6, e473, hx473_0, hx473_1, hx473_2, hx473_3, hx473_4, hx473_5, hx473_6, hl473_6, hi473_6⟩ := at_T63 HR0_1.out x37_2 p473 q473; cases e473; replace hx473_0 := cU HB hx473_0; replace hx473_1 := cU HB hx473_1; replace hx473_2 := cU HB hx473_2; replace hx473_3 := cU HB hx473_3; replace hx473_4 := cU HB hx473_4; replace hx473_5 := cU HB hx473_5; replace hx473_6 := cU HB hx473_6; have HR473_6 := Sd.mk hi473_6; have HC473_6 := Sd.mk hl473_6; clear hi473_6 hl473_6; replace p473 := eq_true p473; replace q473 := eq_true q473
         go_wp2_with (first | ((with_reducible refine gate_dst (N := 11) rfl ?_); refine box_event ?hg (N := 11) ?hd (cs := #[.string (⟨#[]⟩ : ByteArray), .int .i64 0, .int .i64 0, .int .i64 0, .int .i64 0, .int .i64 0, .slice none 0 0]) (t := 63) ?hr ?_; (case hd => rfl); (case hg => rfl); (case hr => exact tG); intro gb474 hg w21 hbox hb; have BK474 := Sd.mk (hbox); have GW474 := Sd.mk (bSz hg (bBl HB.out)); have GE474 := Sd.mk (bSz hg (bBl HB.out)); replace HB := Sd.mk (below_step (bBl HB.out) hb); have NB468_474 := Sd.mk (bNl hg (bkA BK468.out)); have NB474_468 := Sd.mk (bNg hg (bkA BK468.out)); replace BK468 := Sd.mk (blk_below (bkA BK468.out) hb); have NB469_474 := Sd.mk (bNl hg (bkA BK469.out)); have NB474_469 := Sd.mk (bNg hg (bkA BK469.out)); replace BK469 := Sd.mk (blk_below (bkA BK469.out) hb); clear hb hbox hg; have hnb22 := NB474_468.out; have hnc22 := NB468_474.out; have hnb23 := NB474_469.out; have hnc23 := NB469_474.out; obtain ⟨u24_0, u24_1, u24_2, u24_3, u24_4, u24_5, u24_6, o24_0, o24_1, o24_2, o24_3, o24_4, o24_5, o24_6⟩ := bc7 (w := w21) BK474.out; have hnb25 := NB469_468.out; have hnc25 := NB468_469.out; obtain ⟨u26_0, u26_1, o26_0, o26_1⟩ := bc2 (w := w21) BK469.out))
         repeat (go_quiet (first | ((with_reducible refine gate_dst (N := 11) rfl ?_); refine box_event ?hg (N := 11) ?hd (cs := #[.string (⟨#[]⟩ : ByteArray), .int .i64 0, .int .i64 0, .int .i64 0, .int .i64 0, .int .i64 0, .slice none 0 0]) (t := 63) ?hr ?_; (case hd => rfl); (case hg => rfl); (case hr => exact tG); intro gb474 hg w21 hbox hb; have BK474 := Sd.mk (hbox); have GW474 := Sd.mk (bSz hg (bBl HB.out)); have GE474 := Sd.mk (bSz hg (bBl HB.out)); replace HB := Sd.mk (below_step (bBl HB.out) hb); have NB468_474 := Sd.mk (bNl hg (bkA BK468.out)); have NB474_468 := Sd.mk (bNg hg (bkA BK468.out)); replace BK468 := Sd.mk (blk_below (bkA BK468.out) hb); have NB469_474 := Sd.mk (bNl hg (bkA BK469.out)); have NB474_469 := Sd.mk (bNg hg (bkA BK469.out)); replace BK469 := Sd.mk (blk_below (bkA BK469.out) hb); clear hb hbox hg; have hnb22 := NB474_468.out; have hnc22 := NB468_474.out; have hnb23 := NB474_469.out; have hnc23 := NB469_474.out; obtain ⟨u24_0, u24_1, u24_2, u24_3, u24_4, u24_5, u24_6, o24_0, o24_1, o24_2, o24_3, o24_4, o24_5, o24_6⟩ := bc7 (w := w21) BK474.out; have hnb25 := NB469_468.out; have hnc25 := NB468_469.out; obtain ⟨u26_0, u26_1, o26_0, o26_1⟩ := bc2 (w := w21) BK469.out)); try go_wp2_with (first | ((with_reducible refine gate_dst (N := 11) rfl ?_); refine box_event ?hg (N := 11) ?hd (cs := #[.string (⟨#[]⟩ : ByteArray), .int .i64 0, .int .i64 0, .int .i64 0, .int .i64 0, .int .i64 0, .slice none 0 0]) (t := 63) ?hr ?_; (case hd => rfl); (case hg => rfl); (case hr => exact tG); intro gb474 hg w21 hbox hb; have BK474 := Sd.mk (hbox); have GW474 := Sd.mk (bSz hg (bBl HB.out)); have GE474 := Sd.mk (bSz hg (bBl HB.out)); replace HB := Sd.mk (below_step (bBl HB.out) hb); have NB468_474 := Sd.mk (bNl hg (bkA BK468.out)); have NB474_468 := Sd.mk (bNg hg (bkA BK468.out)); replace BK468 := Sd.mk (blk_below (bkA BK468.out) hb); have NB469_474 := Sd.mk (bNl hg (bkA BK469.out)); have NB474_469 := Sd.mk (bNg hg (bkA BK469.out)); replace BK469 := Sd.mk (blk_below (bkA BK469.out) hb); clear hb hbox hg; have hnb22 := NB474_468.out; have hnc22 := NB468_474.out; have hnb23 := NB474_469.out; have hnc23 := NB469_474.out; obtain ⟨u24_0, u24_1, u24_2, u24_3, u24_4, u24_5, u24_6, o24_0, o24_1, o24_2, o24_3, o24_4, o24_5, o24_6⟩ := bc7 (w := w21) BK474.out; have hnb25 := NB469_468.out; have hnc25 := NB468_469.out; obtain ⟨u26_0, u26_1, o26_0, o26_1⟩ := bc2 (w := w21) BK469.out)))
         go_loopg [12, 49] k2 (fun kq v12 v49 w' => ∃ (x12_3 : Int) (x49_3 : Int), v12 = .int .i64 x12_3 ∧ v49 = .int .i64 x49_3 ∧ Sd (batch_least.l2 kq l1 x7_2 x37_2 x12_3 l0_1 (l0_1.length : Int) x37_2 l1 (l1.length : Int) x49_3 a2_0 l2_1 ((rd_T63 l0_1 x37_2).f0) ((rd_T63 l0_1 x37_2).f1) ((rd_T63 l0_1 x37_2).f2) ((rd_T63 l0_1 x37_2).f3) ((rd_T63 l0_1 x37_2).f4) ((rd_T63 l0_1 x37_2).f5) ((rd_T63 l0_1 x37_2).f6) = some r) ∧ Sd (kq ≤ k2) ∧ Sd (w'.heap[gb468]? = some (.cells #[(.slice A0_0 l0_0.length c0_0), (.slice (some ad473) l0_1.length c0_1), (.slice A0_2 l0_2.length c0_2), (.slice A0_3 l0_3.length c0_3), .int .i64 a0_4, .int .i64 a0_5, .int .i64 a0_6] 29 (0, 0))) ∧ Sd (w'.heap[gb469]? = some (.cells #[.int .i64 a2_0, (.slice A2_1 l2_1.length c2_1)] 32 (0, 0))) ∧ Sd (w'.heap[gb474]? = some (.cells #[.string ((rd_T63 l0_1 x37_2).f0), .int .i64 ((rd_T63 l0_1 x37_2).f1), .int .i64 ((rd_T63 l0_1 x37_2).f2), .int .i64 ((rd_T63 l0_1 x37_2).f3), .int .i64 ((rd_T63 l0_1 x37_2).f4), .int .i64 ((rd_T63 l0_1 x37_2).f5), (.slice A473_6 ((rd_T63 l0_1 x37_2).f6).length c473_6)] 63 (0, 0))) ∧ Sd (Below w.heap.size w w'))
         case atStart => exact ⟨(wrap64 (a2_0 * ((rd_T63 l0_1 x37_2).f1))), (0), tS, tS, H', ⟨Nat.le_refl _⟩, ⟨by (with_reducible repeat (first | refine blk_drewN ?_ _ | refine blk_drew ?_ | refine blk_alloc ?_ _)); refine blk_far ?_ NB468_474.out _; (with_reducible repeat (first | refine blk_drewN ?_ _ | refine blk_drew ?_ | refine blk_alloc ?_ _)); refine blk_far ?_ NB468_474.out _; (with_reducible repeat (first | refine blk_drewN ?_ _ | refine blk_drew ?_ | refine blk_alloc ?_ _)); refine blk_far ?_ NB468_474.out _; (with_reducible repeat (first | refine blk_drewN ?_ _ | refine blk_drew ?_ | refine blk_alloc ?_ _)); refine blk_far ?_ NB468_474.out _; (with_reducible repeat (first | refine blk_drewN ?_ _ | refine blk_drew ?_ | refine blk_alloc ?_ _)); refine blk_far ?_ NB468_474.out _; (with_reducible repeat (first | refine blk_drewN ?_ _ | refine blk_drew ?_ | refine blk_alloc ?_ _)); refine blk_far ?_ NB468_474.out _; (with_reducible repeat (first | refine blk_drewN ?_ _ | refine blk_drew ?_ | refine blk_alloc ?_ _)); refine blk_far ?_ NB468_474.out _; (with_reducible repeat (first | refine blk_drewN ?_ _ | refine blk_drew ?_ | refine blk_alloc ?_ _)); exact BK468.out⟩, ⟨by (with_reducible repeat (first | refine blk_drewN ?_ _ | refine blk_drew ?_ | refine blk_alloc ?_ _)); refine blk_far ?_ NB469_474.out _; (with_reducible repeat (first | refine blk_drewN ?_ _ | refine blk_drew ?_ | refine blk_alloc ?_ _)); refine blk_far ?_ NB469_474.out _; (with_reducible repeat (first | refine blk_drewN ?_ _ | refine blk_drew ?_ | refine blk_alloc ?_ _)); refine blk_far ?_ NB469_474.out _; (with_reducible repeat (first | refine blk_drewN ?_ _ | refine blk_drew ?_ | refine blk_alloc ?_ _)); refine blk_far ?_ NB469_474.out _; (with_reducible repeat (first | refine blk_drewN ?_ _ | refine blk_drew ?_ | refine blk_alloc ?_ _)); refine blk_far ?_ NB469_474.out _; (with_reducible repeat (first | refine blk_drewN ?_ _ | refine blk_drew ?_ | refine blk_alloc ?_ _)); refine blk_far ?_ NB469_474.out _; (with_reducible repeat (first | refine blk_drewN ?_ _ | refine blk_drew ?_ | refine blk_alloc ?_ _)); refine blk_far ?_ NB469_474.out _; (with_reducible repeat (first | refine blk_drewN ?_ _ | refine blk_drew ?_ | refine blk_alloc ?_ _)); exact BK469.out⟩, ⟨by (with_reducible repeat (first | refine blk_drewN ?_ _ | refine blk_drew ?_ | refine blk_alloc ?_ _)); refine blk_put (cs := #[.string ((rd_T63 l0_1 x37_2).f0), .int .i64 ((rd_T63 l0_1 x37_2).f1), .int .i64 ((rd_T63 l0_1 x37_2).f2), .int .i64 ((rd_T63 l0_1 x37_2).f3), .int .i64 ((rd_T63 l0_1 x37_2).f4), .int .i64 ((rd_T63 l0_1 x37_2).f5), .slice none 0 0]) ?_ 6 _ rfl; (with_reducible repeat (first | refine blk_drewN ?_ _ | refine blk_drew ?_ | refine blk_alloc ?_ _)); refine blk_put (cs := #[.string ((rd_T63 l0_1 x37_2).f0), .int .i64 ((rd_T63 l0_1 x37_2).f1), .int .i64 ((rd_T63 l0_1 x37_2).f2), .int .i64 ((rd_T63 l0_1 x37_2).f3), .int .i64 ((rd_T63 l0_1 x37_2).f4), .int .i64 0, .slice none 0 0]) ?_ 5 _ rfl; (with_reducible repeat (first | refine blk_drewN ?_ _ | refine blk_drew ?_ | refine blk_alloc ?_ _)); refine blk_put (cs := #[.string ((rd_T63 l0_1 x37_2).f0), .int .i64 ((rd_T63 l0_1 x37_2).f1), .int .i64 ((rd_T63 l0_1 x37_2).f2), .int .i64 ((rd_T63 l0_1 x37_2).f3), .int .i64 0, .int .i64 0, .slice none 0 0]) ?_ 4 _ rfl; (with_reducible repeat (first | refine blk_drewN ?_ _ | refine blk_drew ?_ | refine blk_alloc ?_ _)); refine blk_put (cs := #[.string ((rd_T63 l0_1 x37_2).f0), .int .i64 ((rd_T63 l0_1 x37_2).f1), .int .i64 ((rd_T63 l0_1 x37_2).f2), .int .i64 0, .int .i64 0, .int .i64 0, .slice none 0 0]) ?_ 3 _ rfl; (with_reducible repeat (first | refine blk_drewN ?_ _ | refine blk_drew ?_ | refine blk_alloc ?_ _)); refine blk_put (cs := #[.string ((rd_T63 l0_1 x37_2).f0), .int .i64 ((rd_T63 l0_1 x37_2).f1), .int .i64 0, .int .i64 0, .int .i64 0, .int .i64 0, .slice none 0 0]) ?_ 2 _ rfl; (with_reducible repeat (first | refine blk_drewN ?_ _ | refine blk_drew ?_ | refine blk_alloc ?_ _)); refine blk_put (cs := #[.string ((rd_T63 l0_1 x37_2).f0), .int .i64 0, .int .i64 0, .int .i64 0, .int .i64 0, .int .i64 0, .slice none 0 0]) ?_ 1 _ rfl; (with_reducible repeat (first | refine blk_drewN ?_ _ | refine blk_drew ?_ | refine blk_alloc ?_ _)); refine blk_put (cs := #[.string (⟨#[]⟩ : ByteArray), .int .i64 0, .int .i64 0, .int .i64 0, .int .i64 0, .int .i64 0, .slice none 0 0]) ?_ 0 _ rfl; (with_reducible repeat (first | refine blk_drewN ?_ _ | refine blk_drew ?_ | refine blk_alloc ?_ _)); exact BK474.out⟩, ⟨bBl HB.out⟩⟩
         case round =>
          clear H'; (try clear c1); (try clear c2); (try clear p2 p2); (try clear c4); (try clear p4 p4); (try clear q4 q4); (try clear hx4); (try clear c6); (try clear c6b0); (try clear p6 p6); (try clear c7); (try clear c7b0); (try clear c8); (try clear c8b0); (try clear c9); (try clear c9b0); (try clear c11); (try clear c12); (try clear c14); (try clear c16); (try clear c18); (try clear c18b0); (try clear c19); (try clear c19b0); (try clear c20); (try clear c20b0); (try clear c22); (try clear c23); (try clear c25); (try clear u13_0 u13_1); (try clear u15_0 u15_1); (try clear u17_0 u17_1 u17_2 u17_3 u17_4 u17_5 u17_6); (try clear u24_0 u24_1 u24_2 u24_3 u24_4 u24_5 u24_6); (try clear u26_0 u26_1); (try clear o13_0 o13_1); (try clear o15_0 o15_1); (try clear o17_0 o17_1 o17_2 o17_3 o17_4 o17_5 o17_6); (try clear o24_0 o24_1 o24_2 o24_3 o24_4 o24_5 o24_6); (try clear o26_0 o26_1); (try clear hx470_0); (try clear hx470_1); (try clear hx472_0); (try clear hx473_0); (try clear hx473_1); (try clear hx473_2); (try clear hx473_3); (try clear hx473_4); (try clear hx473_5); (try clear hx473_6); (try clear p470); (try clear p472); (try clear p473); (try clear q470); (try clear q472); (try clear q473); obtain ⟨x12_3, x49_3, rfl, rfl, HA, HK3, BK468, BK469, BK474, HB⟩ := hrel
          cases gk with
          | zero => exact absurd HA.out (by simp [batch_least.l2])
          | succ k3 =>
           have H := HA.out; clear HA
           simp only [batch_least.l2] at H
           by_cases c27 : x49_3 < (l1.length : Int)
           ·rw [if_pos c27] at H
            have c27b0 : decide (x49_3 < (l1.length : Int)) = true := decide_eq_true c27
            clear c27
            by_cases c28 : 0 ≤ x49_3
            ·rw [if_pos c28] at H
             have c28b0 : decide (0 ≤ x49_3) = true := decide_eq_true c28
             clear c28
             by_cases c29 : x49_3 < (l1.length : Int)
             ·rw [if_pos c29] at H
              have c29b0 : decide (x49_3 < (l1.length : Int)) = true := decide_eq_true c29
              clear c29
              by_cases c30 : x49_3 < (l2_1.length : Int)
              ·rw [if_pos c30] at H
               have c30b0 : decide (x49_3 < (l2_1.length : Int)) = true := decide_eq_true c30
               clear c30
               by_cases c31 : 0 ≤ x37_2
               ·rw [if_pos c31] at H
                have c31b0 : decide (0 ≤ x37_2) = true := decide_eq_true c31
                clear c31
                by_cases c32 : x37_2 < (((rd_T51 l1 x49_3).f0).length : Int)
                ·rw [if_pos c32] at H
                 have c32b0 : decide (x37_2 < (((rd_T51 l1 x49_3).f0).length : Int)) = true := decide_eq_true c32
                 clear c32; have H' := Sd.mk H; clear H
                 have p475 : 0 ≤ (x49_3 : Int) := tB
                 have q475 : x49_3 < (l1.length : Int) := tB
                 obtain ⟨ad475, A475_0, c475_0, e475, hx475_0, hx475_1, hl475_0, hi475_0⟩ := at_T51 HR1.out x49_3 p475 q475; cases e475; replace hx475_0 := cU HB hx475_0; replace hx475_1 := cU HB hx475_1; have HR475_0 := Sd.mk hi475_0; have HC475_0 := Sd.mk hl475_0; clear hi475_0 hl475_0; replace p475 := eq_true p475; replace q475 := eq_true q475
                 go_wp2_with (first | ((with_reducible refine gate_dst (N := 14) rfl ?_); refine box_event ?hg (N := 14) ?hd (cs := #[.slice none 0 0, .int .i64 0]) (t := 51) ?hr ?_; (case hd => rfl); (case hg => rfl); (case hr => exact tG); intro gb476 hg w33 hbox hb; have BK476 := Sd.mk (hbox); have GW476 := Sd.mk (bSz hg (bBl HB.out)); have GE476 := Sd.mk (bSz hg (bBl HB.out)); replace HB := Sd.mk (below_step (bBl HB.out) hb); have NB468_476 := Sd.mk (bNl hg (bkA BK468.out)); have NB476_468 := Sd.mk (bNg hg (bkA BK468.out)); replace BK468 := Sd.mk (blk_below (bkA BK468.out) hb); have NB469_476 := Sd.mk (bNl hg (bkA BK469.out)); have NB476_469 := Sd.mk (bNg hg (bkA BK469.out)); replace BK469 := Sd.mk (blk_below (bkA BK469.out) hb); have NB474_476 := Sd.mk (bNl hg (bkA BK474.out)); have NB476_474 := Sd.mk (bNg hg (bkA BK474.out)); replace BK474 := Sd.mk (blk_below (bkA BK474.out) hb); clear hb hbox hg; have hnb34 := NB476_468.out; have hnc34 := NB468_476.out; have hnb35 := NB476_469.out; have hnc35 := NB469_476.out; have hnb36 := NB476_474.out; have hnc36 := NB474_476.out; obtain ⟨u37_0, u37_1, o37_0, o37_1⟩ := bc2 (w := w33) BK476.out; have hnb38 := NB469_468.out; have hnc38 := NB468_469.out; have hnb39 := NB469_474.out; have hnc39 := NB474_469.out; obtain ⟨u40_0, u40_1, o40_0, o40_1⟩ := bc2 (w := w33) BK469.out; have p477 : 0 ≤ (x49_3 : Int) := tB; have q477 : x49_3 < (l2_1.length : Int) := tB; obtain ⟨ad477, e477, hx477_0⟩ := Kd.at_int HR2_1.out x49_3 p477 q477; cases e477; have hn477_0 : ad477.block ≠ gb476 := Nat.ne_of_lt (Nat.lt_of_lt_of_le (by have := World.block_lt_of_cell? _ _ hx477_0; first | rwa [add_block] at this | exact this) GW476.out); have hn477_1 : ad477.block ≠ gb476 := Nat.ne_of_lt (Nat.lt_of_lt_of_le (by have := World.block_lt_of_cell? _ _ hx477_0; first | rwa [add_block] at this | exact this) GW476.out); replace hx477_0 := cU HB hx477_0; replace hx477_0 := (cell_far (p := ⟨gb476, 0, none⟩) (by first | (rw [add_block]; exact hn477_0) | (show (Addr.add _ _).block ≠ _; rw [add_block]; exact hn477_0) | exact hn477_0) (.slice A475_0 ((rd_T51 l1 x49_3).f0).length c475_0)).trans hx477_0; replace hx477_0 := (cell_far (p := ⟨gb476, 1, none⟩) (by first | (rw [add_block]; exact hn477_1) | (show (Addr.add _ _).block ≠ _; rw [add_block]; exact hn477_1) | exact hn477_1) (.int .i64 ((rd_T51 l1 x49_3).f1))).trans hx477_0; (try have hy477_0 := fun (n_ : Nat) => (show ((((w33.drewN n_).setCell ⟨gb476, 0, none⟩ (.slice A475_0 ((rd_T51 l1 x49_3).f0).length c475_0)).setCell ⟨gb476, 1, none⟩ (.int .i64 ((rd_T51 l1 x49_3).f1)))).cell? _ = some _ from hx477_0)); clear hn477_0; clear hn477_1; replace p477 := eq_true p477; replace q477 := eq_true q477; have p478 : 0 ≤ (x37_2 : Int) := tB; have q478 : x37_2 < (((rd_T51 l1 x49_3).f0).length : Int) := tB; obtain ⟨ad478, e478, hx478_0⟩ := Kd.at_int HR475_0.out x37_2 p478 q478; cases e478; have hn478_0 : ad478.block ≠ gb476 := Nat.ne_of_lt (Nat.lt_of_lt_of_le (by have := World.block_lt_of_cell? _ _ hx478_0; first | rwa [add_block] at this | exact this) GW476.out); have hn478_1 : ad478.block ≠ gb476 := Nat.ne_of_lt (Nat.lt_of_lt_of_le (by have := World.block_lt_of_cell? _ _ hx478_0; first | rwa [add_block] at this | exact this) GW476.out); replace hx478_0 := cU HB hx478_0; replace hx478_0 := (cell_far (p := ⟨gb476, 0, none⟩) (by first | (rw [add_block]; exact hn478_0) | (show (Addr.add _ _).block ≠ _; rw [add_block]; exact hn478_0) | exact hn478_0) (.slice (some ad478) ((rd_T51 l1 x49_3).f0).length c475_0)).trans hx478_0; replace hx478_0 := (cell_far (p := ⟨gb476, 1, none⟩) (by first | (rw [add_block]; exact hn478_1) | (show (Addr.add _ _).block ≠ _; rw [add_block]; exact hn478_1) | exact hn478_1) (.int .i64 ((rd_T51 l1 x49_3).f1))).trans hx478_0; (try have hy478_0 := fun (n_ : Nat) => (show ((((w33.drewN n_).setCell ⟨gb476, 0, none⟩ (.slice (some ad478) ((rd_T51 l1 x49_3).f0).length c475_0)).setCell ⟨gb476, 1, none⟩ (.int .i64 ((rd_T51 l1 x49_3).f1)))).cell? _ = some _ from hx478_0)); clear hn478_0; clear hn478_1; replace p478 := eq_true p478; replace q478 := eq_true q478))
                 repeat (go_quiet (first | ((with_reducible refine gate_dst (N := 14) rfl ?_); refine box_event ?hg (N := 14) ?hd (cs := #[.slice none 0 0, .int .i64 0]) (t := 51) ?hr ?_; (case hd => rfl); (case hg => rfl); (case hr => exact tG); intro gb476 hg w33 hbox hb; have BK476 := Sd.mk (hbox); have GW476 := Sd.mk (bSz hg (bBl HB.out)); have GE476 := Sd.mk (bSz hg (bBl HB.out)); replace HB := Sd.mk (below_step (bBl HB.out) hb); have NB468_476 := Sd.mk (bNl hg (bkA BK468.out)); have NB476_468 := Sd.mk (bNg hg (bkA BK468.out)); replace BK468 := Sd.mk (blk_below (bkA BK468.out) hb); have NB469_476 := Sd.mk (bNl hg (bkA BK469.out)); have NB476_469 := Sd.mk (bNg hg (bkA BK469.out)); replace BK469 := Sd.mk (blk_below (bkA BK469.out) hb); have NB474_476 := Sd.mk (bNl hg (bkA BK474.out)); have NB476_474 := Sd.mk (bNg hg (bkA BK474.out)); replace BK474 := Sd.mk (blk_below (bkA BK474.out) hb); clear hb hbox hg; have hnb34 := NB476_468.out; have hnc34 := NB468_476.out; have hnb35 := NB476_469.out; have hnc35 := NB469_476.out; have hnb36 := NB476_474.out; have hnc36 := NB474_476.out; obtain ⟨u37_0, u37_1, o37_0, o37_1⟩ := bc2 (w := w33) BK476.out; have hnb38 := NB469_468.out; have hnc38 := NB468_469.out; have hnb39 := NB469_474.out; have hnc39 := NB474_469.out; obtain ⟨u40_0, u40_1, o40_0, o40_1⟩ := bc2 (w := w33) BK469.out; have p477 : 0 ≤ (x49_3 : Int) := tB; have q477 : x49_3 < (l2_1.length : Int) := tB; obtain ⟨ad477, e477, hx477_0⟩ := Kd.at_int HR2_1.out x49_3 p477 q477; cases e477; have hn477_0 : ad477.block ≠ gb476 := Nat.ne_of_lt (Nat.lt_of_lt_of_le (by have := World.block_lt_of_cell? _ _ hx477_0; first | rwa [add_block] at this | exact this) GW476.out); have hn477_1 : ad477.block ≠ gb476 := Nat.ne_of_lt (Nat.lt_of_lt_of_le (by have := World.block_lt_of_cell? _ _ hx477_0; first | rwa [add_block] at this | exact this) GW476.out); replace hx477_0 := cU HB hx477_0; replace hx477_0 := (cell_far (p := ⟨gb476, 0, none⟩) (by first | (rw [add_block]; exact hn477_0) | (show (Addr.add _ _).block ≠ _; rw [add_block]; exact hn477_0) | exact hn477_0) (.slice A475_0 ((rd_T51 l1 x49_3).f0).length c475_0)).trans hx477_0; replace hx477_0 := (cell_far (p := ⟨gb476, 1, none⟩) (by first | (rw [add_block]; exact hn477_1) | (show (Addr.add _ _).block ≠ _; rw [add_block]; exact hn477_1) | exact hn477_1) (.int .i64 ((rd_T51 l1 x49_3).f1))).trans hx477_0; (try have hy477_0 := fun (n_ : Nat) => (show ((((w33.drewN n_).setCell ⟨gb476, 0, none⟩ (.slice A475_0 ((rd_T51 l1 x49_3).f0).length c475_0)).setCell ⟨gb476, 1, none⟩ (.int .i64 ((rd_T51 l1 x49_3).f1)))).cell? _ = some _ from hx477_0)); clear hn477_0; clear hn477_1; replace p477 := eq_true p477; replace q477 := eq_true q477; have p478 : 0 ≤ (x37_2 : Int) := tB; have q478 : x37_2 < (((rd_T51 l1 x49_3).f0).length : Int) := tB; obtain ⟨ad478, e478, hx478_0⟩ := Kd.at_int HR475_0.out x37_2 p478 q478; cases e478; have hn478_0 : ad478.block ≠ gb476 := Nat.ne_of_lt (Nat.lt_of_lt_of_le (by have := World.block_lt_of_cell? _ _ hx478_0; first | rwa [add_block] at this | exact this) GW476.out); have hn478_1 : ad478.block ≠ gb476 := Nat.ne_of_lt (Nat.lt_of_lt_of_le (by have := World.block_lt_of_cell? _ _ hx478_0; first | rwa [add_block] at this | exact this) GW476.out); replace hx478_0 := cU HB hx478_0; replace hx478_0 := (cell_far (p := ⟨gb476, 0, none⟩) (by first | (rw [add_block]; exact hn478_0) | (show (Addr.add _ _).block ≠ _; rw [add_block]; exact hn478_0) | exact hn478_0) (.slice (some ad478) ((rd_T51 l1 x49_3).f0).length c475_0)).trans hx478_0; replace hx478_0 := (cell_far (p := ⟨gb476, 1, none⟩) (by first | (rw [add_block]; exact hn478_1) | (show (Addr.add _ _).block ≠ _; rw [add_block]; exact hn478_1) | exact hn478_1) (.int .i64 ((rd_T51 l1 x49_3).f1))).trans hx478_0; (try have hy478_0 := fun (n_ : Nat) => (show ((((w33.drewN n_).setCell ⟨gb476, 0, none⟩ (.slice (some ad478) ((rd_T51 l1 x49_3).f0).length c475_0)).setCell ⟨gb476, 1, none⟩ (.int .i64 ((rd_T51 l1 x49_3).f1)))).cell? _ = some _ from hx478_0)); clear hn478_0; clear hn478_1; replace p478 := eq_true p478; replace q478 := eq_true q478)); try go_wp2_with (first | ((with_reducible refine gate_dst (N := 14) rfl ?_); refine box_event ?hg (N := 14) ?hd (cs := #[.slice none 0 0, .int .i64 0]) (t := 51) ?hr ?_; (case hd => rfl); (case hg => rfl); (case hr => exact tG); intro gb476 hg w33 hbox hb; have BK476 := Sd.mk (hbox); have GW476 := Sd.mk (bSz hg (bBl HB.out)); have GE476 := Sd.mk (bSz hg (bBl HB.out)); replace HB := Sd.mk (below_step (bBl HB.out) hb); have NB468_476 := Sd.mk (bNl hg (bkA BK468.out)); have NB476_468 := Sd.mk (bNg hg (bkA BK468.out)); replace BK468 := Sd.mk (blk_below (bkA BK468.out) hb); have NB469_476 := Sd.mk (bNl hg (bkA BK469.out)); have NB476_469 := Sd.mk (bNg hg (bkA BK469.out)); replace BK469 := Sd.mk (blk_below (bkA BK469.out) hb); have NB474_476 := Sd.mk (bNl hg (bkA BK474.out)); have NB476_474 := Sd.mk (bNg hg (bkA BK474.out)); replace BK474 := Sd.mk (blk_below (bkA BK474.out) hb); clear hb hbox hg; have hnb34 := NB476_468.out; have hnc34 := NB468_476.out; have hnb35 := NB476_469.out; have hnc35 := NB469_476.out; have hnb36 := NB476_474.out; have hnc36 := NB474_476.out; obtain ⟨u37_0, u37_1, o37_0, o37_1⟩ := bc2 (w := w33) BK476.out; have hnb38 := NB469_468.out; have hnc38 := NB468_469.out; have hnb39 := NB469_474.out; have hnc39 := NB474_469.out; obtain ⟨u40_0, u40_1, o40_0, o40_1⟩ := bc2 (w := w33) BK469.out; have p477 : 0 ≤ (x49_3 : Int) := tB; have q477 : x49_3 < (l2_1.length : Int) := tB; obtain ⟨ad477, e477, hx477_0⟩ := Kd.at_int HR2_1.out x49_3 p477 q477; cases e477; have hn477_0 : ad477.block ≠ gb476 := Nat.ne_of_lt (Nat.lt_of_lt_of_le (by have := World.block_lt_of_cell? _ _ hx477_0; first | rwa [add_block] at this | exact this) GW476.out); have hn477_1 : ad477.block ≠ gb476 := Nat.ne_of_lt (Nat.lt_of_lt_of_le (by have := World.block_lt_of_cell? _ _ hx477_0; first | rwa [add_block] at this | exact this) GW476.out); replace hx477_0 := cU HB hx477_0; replace hx477_0 := (cell_far (p := ⟨gb476, 0, none⟩) (by first | (rw [add_block]; exact hn477_0) | (show (Addr.add _ _).block ≠ _; rw [add_block]; exact hn477_0) | exact hn477_0) (.slice A475_0 ((rd_T51 l1 x49_3).f0).length c475_0)).trans hx477_0; replace hx477_0 := (cell_far (p := ⟨gb476, 1, none⟩) (by first | (rw [add_block]; exact hn477_1) | (show (Addr.add _ _).block ≠ _; rw [add_block]; exact hn477_1) | exact hn477_1) (.int .i64 ((rd_T51 l1 x49_3).f1))).trans hx477_0; (try have hy477_0 := fun (n_ : Nat) => (show ((((w33.drewN n_).setCell ⟨gb476, 0, none⟩ (.slice A475_0 ((rd_T51 l1 x49_3).f0).length c475_0)).setCell ⟨gb476, 1, none⟩ (.int .i64 ((rd_T51 l1 x49_3).f1)))).cell? _ = some _ from hx477_0)); clear hn477_0; clear hn477_1; replace p477 := eq_true p477; replace q477 := eq_true q477; have p478 : 0 ≤ (x37_2 : Int) := tB; have q478 : x37_2 < (((rd_T51 l1 x49_3).f0).length : Int) := tB; obtain ⟨ad478, e478, hx478_0⟩ := Kd.at_int HR475_0.out x37_2 p478 q478; cases e478; have hn478_0 : ad478.block ≠ gb476 := Nat.ne_of_lt (Nat.lt_of_lt_of_le (by have := World.block_lt_of_cell? _ _ hx478_0; first | rwa [add_block] at this | exact this) GW476.out); have hn478_1 : ad478.block ≠ gb476 := Nat.ne_of_lt (Nat.lt_of_lt_of_le (by have := World.block_lt_of_cell? _ _ hx478_0; first | rwa [add_block] at this | exact this) GW476.out); replace hx478_0 := cU HB hx478_0; replace hx478_0 := (cell_far (p := ⟨gb476, 0, none⟩) (by first | (rw [add_block]; exact hn478_0) | (show (Addr.add _ _).block ≠ _; rw [add_block]; exact hn478_0) | exact hn478_0) (.slice (some ad478) ((rd_T51 l1 x49_3).f0).length c475_0)).trans hx478_0; replace hx478_0 := (cell_far (p := ⟨gb476, 1, none⟩) (by first | (rw [add_block]; exact hn478_1) | (show (Addr.add _ _).block ≠ _; rw [add_block]; exact hn478_1) | exact hn478_1) (.int .i64 ((rd_T51 l1 x49_3).f1))).trans hx478_0; (try have hy478_0 := fun (n_ : Nat) => (show ((((w33.drewN n_).setCell ⟨gb476, 0, none⟩ (.slice (some ad478) ((rd_T51 l1 x49_3).f0).length c475_0)).setCell ⟨gb476, 1, none⟩ (.int .i64 ((rd_T51 l1 x49_3).f1)))).cell? _ = some _ from hx478_0)); clear hn478_0; clear hn478_1; replace p478 := eq_true p478; replace q478 := eq_true q478)))
                 go_roundg k3
                 case measure => have := HK1.out; have := HK2.out; have := HK3.out; omega
                 case rel => exact ⟨(wrap64 (x12_3 + (wrap64 ((rd l2_1 x49_3) * (rd ((rd_T51 l1 x49_3).f0) x37_2))))), (wrap64 (x49_3 + 1)), tS, tS, H', ⟨by have := HK1.out; have := HK2.out; have := HK3.out; omega⟩, ⟨by (with_reducible repeat (first | refine blk_drewN ?_ _ | refine blk_drew ?_ | refine blk_alloc ?_ _)); refine blk_far ?_ NB468_476.out _; (with_reducible repeat (first | refine blk_drewN ?_ _ | refine blk_drew ?_ | refine blk_alloc ?_ _)); refine blk_far ?_ NB468_476.out _; (with_reducible repeat (first | refine blk_drewN ?_ _ | refine blk_drew ?_ | refine blk_alloc ?_ _)); exact BK468.out⟩, ⟨by (with_reducible repeat (first | refine blk_drewN ?_ _ | refine blk_drew ?_ | refine blk_alloc ?_ _)); refine blk_far ?_ NB469_476.out _; (with_reducible repeat (first | refine blk_drewN ?_ _ | refine blk_drew ?_ | refine blk_alloc ?_ _)); refine blk_far ?_ NB469_476.out _; (with_reducible repeat (first | refine blk_drewN ?_ _ | refine blk_drew ?_ | refine blk_alloc ?_ _)); exact BK469.out⟩, ⟨by (with_reducible repeat (first | refine blk_drewN ?_ _ | refine blk_drew ?_ | refine blk_alloc ?_ _)); refine blk_far ?_ NB474_476.out _; (with_reducible repeat (first | refine blk_drewN ?_ _ | refine blk_drew ?_ | refine blk_alloc ?_ _)); refine blk_far ?_ NB474_476.out _; (with_reducible repeat (first | refine blk_drewN ?_ _ | refine blk_drew ?_ | refine blk_alloc ?_ _)); exact BK474.out⟩, ⟨bBl HB.out⟩⟩
                ·rw [if_neg c32] at H
                 exact absurd H (by simp)
               ·rw [if_neg c31] at H
                exact absurd H (by simp)
              ·rw [if_neg c30] at H
               exact absurd H (by simp)
             ·rw [if_neg c29] at H
              exact absurd H (by simp)
            ·rw [if_neg c28] at H
             exact absurd H (by simp)
           ·rw [if_neg c27] at H
            have c27b0 : decide (x49_3 < (l1.length : Int)) = false := decide_eq_false c27
            clear c27
            by_cases c41 : ((rd_T63 l0_1 x37_2).f5) = 0
            ·rw [if_pos c41] at H
             exact absurd H (by simp)
            ·rw [if_neg c41] at H
             have c41b0 : (((rd_T63 l0_1 x37_2).f5) == 0) = false := beq_eq_false_iff_ne.mpr c41
             have c41b1 : (((rd_T63 l0_1 x37_2).f5) != 0) = true := bne_iff_ne.mpr c41
             obtain ⟨ji42, hji42⟩ : ∃ j_ : Int, (mn (wrap64 (x12_3 * ((rd_T63 l0_1 x37_2).f3))) (wrap64 (x12_3 * (wrap64 (((rd_T63 l0_1 x37_2).f4) - (Int.tmod (wrap64 (((rd_T63 l0_1 x37_2).f4) - ((rd_T63 l0_1 x37_2).f3))) ((rd_T63 l0_1 x37_2).f5))))))) = j_ := ⟨_, rfl⟩
             replace H : (batch_least.l1 k3 l1 (wrap64 (x7_2 + (ji42))) l0_1 (l0_1.length : Int) (wrap64 (x37_2 + 1)) a2_0 l2_1) = some r := by first | (rw [hji42] at H; exact H) | (simp only [hji42] at H ⊢; exact H)
             have hji42_ : (if (wrap64 (x12_3 * (wrap64 (((rd_T63 l0_1 x37_2).f4) - (Int.tmod (wrap64 (((rd_T63 l0_1 x37_2).f4) - ((rd_T63 l0_1 x37_2).f3))) ((rd_T63 l0_1 x37_2).f5)))))) < (wrap64 (x12_3 * ((rd_T63 l0_1 x37_2).f3))) then (wrap64 (x12_3 * (wrap64 (((rd_T63 l0_1 x37_2).f4) - (Int.tmod (wrap64 (((rd_T63 l0_1 x37_2).f4) - ((rd_T63 l0_1 x37_2).f3))) ((rd_T63 l0_1 x37_2).f5)))))) else (wrap64 (x12_3 * ((rd_T63 l0_1 x37_2).f3)))) = ji42 := hji42
             have H' := Sd.mk H; clear H; have hnb43 := NB474_468.out; have hnc43 := NB468_474.out; have hnb44 := NB474_469.out; have hnc44 := NB469_474.out; obtain ⟨u45_0, u45_1, u45_2, u45_3, u45_4, u45_5, u45_6, o45_0, o45_1, o45_2, o45_3, o45_4, o45_5, o45_6⟩ := bc7 (w := wr) BK474.out
             go_wp2
             repeat (go_quiet (fail); try go_wp2)
             go_roundg k3
             case measure => have := HK1.out; have := HK2.out; have := HK3.out; omega
             case rel => exact ⟨(wrap64 (x7_2 + (ji42))), (wrap64 (x37_2 + 1)), (by first | rfl | (simp; done) | (simp only [← hji42] <;> (first | rfl | simp)) | (simp [*]; done)), tS, H', ⟨by have := HK1.out; have := HK2.out; have := HK3.out; omega⟩, ⟨bkA BK468.out⟩, ⟨bkA BK469.out⟩, ⟨bBl HB.out⟩⟩
        ·rw [if_neg c20] at H
         exact absurd H (by simp)
       ·rw [if_neg c19] at H
        exact absurd H (by simp)
      ·rw [if_neg c18] at H
       have c18b0 : decide (x37_2 < (l0_1.length : Int)) = false := decide_eq_false c18
       clear c18; obtain rfl := Option.some.inj H
       go_wp2
       repeat (go_quiet (fail); try go_wp2)
       go_ret
       exact ⟨tE, bBl HB.out⟩
def batch_Bound.j0 : Nat → List (S51) → Bool → List ByteArray → List (S63) → List (S27) → List (S65) → Int → Int → Int → Int → List Int → Option (Int × Bool × Int)
 | 0, _, _, _, _, _, _, _, _, _, _, _ => none
 | k + 1, x8, x33, x480q0, x480q1, x480q2, x480q3, x480q4, x480q5, x480q6, x481q0, x481q1 => if x33 = true then (some (0, false, 1)) else ((batch_least.f k x480q0 x480q1 x480q2 x480q3 x480q4 x480q5 x480q6 x8 x481q0 x481q1).bind fun t487 => (if x481q0 = 0 then (some (0, decide (t487 > 0), 0)) else ((batch_up.f t487 x481q0).bind fun t488 => (some (t488, false, 0)))))
def batch_Bound.f (k : Nat) (l0_0 : List ByteArray) (l0_1 : List (S63)) (l0_2 : List (S27)) (l0_3 : List (S65)) (a0_4 : Int) (a0_5 : Int) (a0_6 : Int) (a1_0 : Int) (l1_1 : List Int) : Option (Int × Bool × Int) := (batch_Check.f k l0_0 l0_1 l0_2 l0_3 a0_4 a0_5 a0_6).bind fun t481 => (if t481 = 0 then ((x_lines.f l0_0 l0_1 l0_2 l0_3 a0_4 a0_5 a0_6).bind fun t482 => ((batch_within.f a1_0 0 1000000).bind fun t485 => (if t485 = true then (if (l1_1.length : Int) = (t482.length : Int) then ((x_weights.f l1_1).bind fun t486 => (batch_Bound.j0 k t482 t486 l0_0 l0_1 l0_2 l0_3 a0_4 a0_5 a0_6 a1_0 l1_1)) else (batch_Bound.j0 k t482 true l0_0 l0_1 l0_2 l0_3 a0_4 a0_5 a0_6 a1_0 l1_1)) else (batch_Bound.j0 k t482 true l0_0 l0_1 l0_2 l0_3 a0_4 a0_5 a0_6 a1_0 l1_1)))) else (some (0, false, t481)))
set_option maxHeartbeats 8000000 in
set_option maxRecDepth 100000 in
theorem batch_Bound.calls (k : Nat) (A0_0 : Option Addr) (c0_0 : Nat) (l0_0 : List ByteArray) (A0_1 : Option Addr) (c0_1 : Nat) (l0_1 : List (S63)) (A0_2 : Option Addr) (c0_2 : Nat) (l0_2 : List (S27)) (A0_3 : Option Addr) (c0_3 : Nat) (l0_3 : List (S65)) (a0_4 : Int) (a0_5 : Int) (a0_6 : Int) (a1_0 : Int) (A1_1 : Option Addr) (c1_1 : Nat) (l1_1 : List Int) (r1 : Int) (r2 : Bool) (r3 : Int) (w : World) (hr0_0 : Kd.C Kd.string w A0_0 l0_0.length l0_0) (hc0_0 : l0_0.length ≤ c0_0) (hr0_1 : Kd.C k63 w A0_1 l0_1.length l0_1) (hc0_1 : l0_1.length ≤ c0_1) (hr0_2 : Kd.C k27 w A0_2 l0_2.length l0_2) (hc0_2 : l0_2.length ≤ c0_2) (hr0_3 : Kd.C k65 w A0_3 l0_3.length l0_3) (hc0_3 : l0_3.length ≤ c0_3) (hr1_1 : Kd.C (Kd.int .i64) w A1_1 l1_1.length l1_1) (hc1_1 : l1_1.length ≤ c1_1) (h : batch_Bound.f k l0_0 l0_1 l0_2 l0_3 a0_4 a0_5 a0_6 a1_0 l1_1 = some (r1, r2, r3)) :
  Calls Try.prog 30 #[.agg #[.slice A0_0 l0_0.length c0_0, .slice A0_1 l0_1.length c0_1, .slice A0_2 l0_2.length c0_2, .slice A0_3 l0_3.length c0_3, .int .i64 a0_4, .int .i64 a0_5, .int .i64 a0_6], .agg #[.int .i64 a1_0, .slice A1_1 l1_1.length c1_1]] w fun e w' => e = .returned (.tuple #[.int .i64 r1, .bool r2, .int .i64 r3]) ∧ Below w.heap.size w w' := by
 have hu29 := Try.underlying29; have hu32 := Try.underlying32; have HR0_0 := Sd.mk hr0_0; have HC0_0 := Sd.mk hc0_0; clear hr0_0 hc0_0; have HR0_1 := Sd.mk hr0_1; have HC0_1 := Sd.mk hc0_1; clear hr0_1 hc0_1; have HR0_2 := Sd.mk hr0_2; have HC0_2 := Sd.mk hc0_2; clear hr0_2 hc0_2; have HR0_3 := Sd.mk hr0_3; have HC0_3 := Sd.mk hc0_3; clear hr0_3 hc0_3; have HR1_1 := Sd.mk hr1_1; have HC1_1 := Sd.mk hc1_1; clear hr1_1 hc1_1; have HB := Sd.mk (Below.refl w.heap.size w)
 have H : ((batch_Check.f k l0_0 l0_1 l0_2 l0_3 a0_4 a0_5 a0_6).bind fun t481 => (if t481 = 0 then ((x_lines.f l0_0 l0_1 l0_2 l0_3 a0_4 a0_5 a0_6).bind fun t482 => ((batch_within.f a1_0 0 1000000).bind fun t485 => (if t485 = true then (if (l1_1.length : Int) = (t482.length : Int) then ((x_weights.f l1_1).bind fun t486 => (batch_Bound.j0 k t482 t486 l0_0 l0_1 l0_2 l0_3 a0_4 a0_5 a0_6 a1_0 l1_1)) else (batch_Bound.j0 k t482 true l0_0 l0_1 l0_2 l0_3 a0_4 a0_5 a0_6 a1_0 l1_1)) else (batch_Bound.j0 k t482 true l0_0 l0_1 l0_2 l0_3 a0_4 a0_5 a0_6 a1_0 l1_1)))) else (some (0, false, t481)))) = some (r1, r2, r3) := h
 clear h; replace H := Option.bind_eq_some_iff.mp H; obtain ⟨t481, A30, H⟩ := H
 try dsimp only at H
 have A3 := Sd.mk A30; clear A30
 by_cases c4 : t481 = 0
 ·rw [if_pos c4] at H
  have c4b0 : (t481 == 0) = true := beq_iff_eq.mpr c4
  have c4b1 : (t481 != 0) = false := bne_eq_false_iff_eq.mpr c4
  clear c4; replace H := Option.bind_eq_some_iff.mp H; obtain ⟨t482, A50, H⟩ := H
  try dsimp only at H
  have A5 := Sd.mk A50; clear A50; have HC6 := Sd.mk H; clear H
  go_enter Try.func30, Try.ntmps30
  go_upto_region 5 with (first | ((with_reducible refine gate_dst (N := 2) rfl ?_); (try (refine gate_guard (by rfl) ?_; dsimp only)); refine box_event ?hg (N := 2) ?hd (cs := #[.slice A0_0 l0_0.length c0_0, .slice A0_1 l0_1.length c0_1, .slice A0_2 l0_2.length c0_2, .slice A0_3 l0_3.length c0_3, .int .i64 a0_4, .int .i64 a0_5, .int .i64 a0_6]) (t := 29) ?hr ?_; (case hd => rfl); (case hg => rfl); (case hr => exact tG); intro gb479 hg w7 hbox hb; have BK479 := Sd.mk (hbox); have GW479 := Sd.mk (bSz hg (bBl HB.out)); have GE479 := Sd.mk (bSz hg (bBl HB.out)); replace HB := Sd.mk (below_step (bBl HB.out) hb); clear hb hbox hg) | ((with_reducible refine gate_dst (N := 3) rfl ?_); (try (refine gate_guard (by rfl) ?_; dsimp only)); refine box_event ?hg (N := 3) ?hd (cs := #[.int .i64 a1_0, .slice A1_1 l1_1.length c1_1]) (t := 32) ?hr ?_; (case hd => rfl); (case hg => rfl); (case hr => exact tG); intro gb480 hg w8 hbox hb; have BK480 := Sd.mk (hbox); have GW480 := Sd.mk (bSz hg (bBl HB.out)); have GE480 := Sd.mk (bSz hg (bBl HB.out)); replace HB := Sd.mk (below_step (bBl HB.out) hb); have NB479_480 := Sd.mk (bNl hg (bkA BK479.out)); have NB480_479 := Sd.mk (bNg hg (bkA BK479.out)); replace BK479 := Sd.mk (blk_below (bkA BK479.out) hb); clear hb hbox hg; have hnb9 := NB479_480.out; have hnc9 := NB480_479.out; obtain ⟨u10_0, u10_1, u10_2, u10_3, u10_4, u10_5, u10_6, o10_0, o10_1, o10_2, o10_3, o10_4, o10_5, o10_6⟩ := bc7 (w := w8) BK479.out) | ((with_reducible refine gate_callee (f := 26) rfl ?_); refine goesL_ (some 11) rfl rfl Try.func26 (by kernel_rfl) rfl #[.agg #[.slice A0_0 l0_0.length c0_0, .slice A0_1 l0_1.length c0_1, .slice A0_2 l0_2.length c0_2, .slice A0_3 l0_3.length c0_3, .int .i64 a0_4, .int .i64 a0_5, .int .i64 a0_6]] rfl tM ?_; (with_reducible refine (batch_Check.calls k _ _ l0_0 _ _ l0_1 _ _ l0_2 _ _ l0_3 a0_4 a0_5 a0_6 t481 _ (cS (Kd.C_below HR0_0.out HB.out)) HC0_0.out (cS (Kd.C_below HR0_1.out HB.out)) HC0_1.out (cS (Kd.C_below HR0_2.out HB.out)) HC0_2.out (cS (Kd.C_below HR0_3.out HB.out)) HC0_3.out A3.out).mono ?_); rintro e w11 ⟨rfl, hb⟩; refine ⟨_, rfl, ?_⟩; replace BK479 := Sd.mk (blk_below (bkA BK479.out) hb); replace BK480 := Sd.mk (blk_below (bkA BK480.out) hb); replace HB := Sd.mk (below_step (bBl HB.out) hb); (try clear hb); (try clear hb2); (try clear hk); (try clear hi); obtain ⟨u12_0, u12_1, u12_2, u12_3, u12_4, u12_5, u12_6, o12_0, o12_1, o12_2, o12_3, o12_4, o12_5, o12_6⟩ := bc7 (w := w11) BK479.out) | ((with_reducible refine gate_callee (f := 63) rfl ?_); refine goesL_ (some 16) rfl rfl Try.func63 (by kernel_rfl) rfl #[.agg #[.slice A0_0 l0_0.length c0_0, .slice A0_1 l0_1.length c0_1, .slice A0_2 l0_2.length c0_2, .slice A0_3 l0_3.length c0_3, .int .i64 a0_4, .int .i64 a0_5, .int .i64 a0_6]] rfl tM ?_; (with_reducible refine (x_lines.calls _ _ l0_0 _ _ l0_1 _ _ l0_2 _ _ l0_3 a0_4 a0_5 a0_6 t482 _ (cS (Kd.C_below HR0_0.out HB.out)) HC0_0.out (cS (Kd.C_below HR0_1.out HB.out)) HC0_1.out (cS (Kd.C_below HR0_2.out HB.out)) HC0_2.out (cS (Kd.C_below HR0_3.out HB.out)) HC0_3.out A5.out).mono ?_); rintro e w13 ⟨v483, rfl, ho0, hb⟩; refine ⟨_, rfl, ?_⟩; have HO484 := Sd.mk (Kd.R_lower ho0 (below_size (bBl HB.out))); replace BK479 := Sd.mk (blk_below (bkA BK479.out) hb); replace BK480 := Sd.mk (blk_below (bkA BK480.out) hb); replace HB := Sd.mk (below_step (bBl HB.out) hb); (try clear hb); (try clear hb2); (try clear hk); (try clear hi); (try clear ho0)))
  (try simp only [Act.put, List.setIfInBounds_toArray, List.set_cons_zero, List.set_cons_succ])
  go_cut [33] (fun v33 wc => ∃ (kq : Nat) (x33_5 : Bool), v33 = .bool x33_5 ∧ Sd (batch_Bound.j0 kq t482 x33_5 l0_0 l0_1 l0_2 l0_3 a0_4 a0_5 a0_6 a1_0 l1_1 = some (r1, r2, r3)) ∧ Sd (kq ≤ k) ∧ Sd (Kd.R k51 51 wc w.heap.size (fun _ => True) v483 t482) ∧ Sd (wc.heap[gb479]? = some (.cells #[(.slice A0_0 l0_0.length c0_0), (.slice A0_1 l0_1.length c0_1), (.slice A0_2 l0_2.length c0_2), (.slice A0_3 l0_3.length c0_3), .int .i64 a0_4, .int .i64 a0_5, .int .i64 a0_6] 29 (0, 0))) ∧ Sd (wc.heap[gb480]? = some (.cells #[.int .i64 a1_0, (.slice A1_1 l1_1.length c1_1)] 32 (0, 0))) ∧ Sd (Below w.heap.size w wc))
  case first =>
   have H := HC6.out; clear HC6; replace H := Option.bind_eq_some_iff.mp H; obtain ⟨t485, A140, H⟩ := H
   try dsimp only at H
   have A14 := Sd.mk A140; clear A140
   by_cases c15 : t485 = true
   ·subst c15
    have H1 : (if (l1_1.length : Int) = (t482.length : Int) then ((x_weights.f l1_1).bind fun t486 => (batch_Bound.j0 k t482 t486 l0_0 l0_1 l0_2 l0_3 a0_4 a0_5 a0_6 a1_0 l1_1)) else (batch_Bound.j0 k t482 true l0_0 l0_1 l0_2 l0_3 a0_4 a0_5 a0_6 a1_0 l1_1)) = some (r1, r2, r3) := by rw [if_pos rfl] at H; exact H
    clear H; have H := H1; clear H1
    by_cases c16 : (l1_1.length : Int) = (t482.length : Int)
    ·rw [if_pos c16] at H
     have c16b0 : ((l1_1.length : Int) == (t482.length : Int)) = true := beq_iff_eq.mpr c16
     have c16b1 : ((l1_1.length : Int) != (t482.length : Int)) = false := bne_eq_false_iff_eq.mpr c16
     have c16b2 : (l1_1.length == t482.length) = true := by first | simpa using c16 | (simp at c16 ⊢; omega)
     clear c16
     (first | rw [c16b0] | (simp only [i64_w, i32_w]; rw [c16b0]) | skip)
     replace H := Option.bind_eq_some_iff.mp H; obtain ⟨t486, A170, H⟩ := H
     try dsimp only at H
     have A17 := Sd.mk A170; clear A170; have H' := Sd.mk H; clear H; have hnb18 := NB480_479.out; have hnc18 := NB479_480.out; obtain ⟨u19_0, u19_1, o19_0, o19_1⟩ := bc2 (w := w13) BK480.out
     go_wp2_with (first | ((with_reducible refine gate_callee (f := 55) rfl ?_); refine goesL_ (some 19) rfl rfl Try.func55 (by kernel_rfl) rfl #[.int .i64 a1_0, .int .i64 0, .int .i64 1000000] rfl tM ?_; (with_reducible refine (batch_within.calls a1_0 0 1000000 true _ A14.out).mono ?_); rintro e w' ⟨rfl, ⟨nd, rfl⟩⟩; refine ⟨_, rfl, ?_⟩; obtain ⟨Ao20, co20, eo20⟩ := Kd.R_slice HO484.out; subst eo20) | (go_at_call 80; (with_reducible refine (x_weights.calls _ _ l1_1 t486 _ (cS (Kd.C_below HR1_1.out (bBl HB.out))) HC1_1.out A17.out).mono ?_); rintro e w21 ⟨rfl, hb⟩; replace HO484 := Sd.mk (Kd.R_below (by (with_reducible repeat (first | apply Kd.R_alloc | apply Kd.R_drewN | apply Kd.R_drew)); exact HO484.out) hb); replace BK479 := Sd.mk (blk_below (bkA BK479.out) hb); replace BK480 := Sd.mk (blk_below (bkA BK480.out) hb); replace HB := Sd.mk (below_step (bBl HB.out) hb); (try clear hb); (try clear hb2); (try clear hk); (try clear hi)))
     go_meet
     case rel => exact ⟨_, (t486), tS, H', ⟨by first | omega | exact Nat.le_refl _⟩, ⟨by (with_reducible repeat (first | apply Kd.R_alloc | apply Kd.R_drewN | apply Kd.R_drew)); exact HO484.out⟩, ⟨bkA BK479.out⟩, ⟨bkA BK480.out⟩, ⟨bBl HB.out⟩⟩
    ·rw [if_neg c16] at H
     have c16b0 : ((l1_1.length : Int) == (t482.length : Int)) = false := beq_eq_false_iff_ne.mpr c16
     have c16b1 : ((l1_1.length : Int) != (t482.length : Int)) = true := bne_iff_ne.mpr c16
     have c16b2 : (l1_1.length == t482.length) = false := by first | simpa using c16 | (simp at c16 ⊢; omega)
     (first | rw [c16b0] | (simp only [i64_w, i32_w]; rw [c16b0]) | skip)
     have H' := Sd.mk H; clear H; have hnb22 := NB480_479.out; have hnc22 := NB479_480.out; obtain ⟨u23_0, u23_1, o23_0, o23_1⟩ := bc2 (w := w13) BK480.out
     go_wp2_with (first | ((with_reducible refine gate_callee (f := 55) rfl ?_); refine goesL_ (some 19) rfl rfl Try.func55 (by kernel_rfl) rfl #[.int .i64 a1_0, .int .i64 0, .int .i64 1000000] rfl tM ?_; (with_reducible refine (batch_within.calls a1_0 0 1000000 true _ A14.out).mono ?_); rintro e w' ⟨rfl, ⟨nd, rfl⟩⟩; refine ⟨_, rfl, ?_⟩; obtain ⟨Ao24, co24, eo24⟩ := Kd.R_slice HO484.out; subst eo24))
     go_meet
     case rel => exact ⟨_, (true), tS, H', ⟨by first | omega | exact Nat.le_refl _⟩, ⟨by (with_reducible repeat (first | apply Kd.R_alloc | apply Kd.R_drewN | apply Kd.R_drew)); exact HO484.out⟩, ⟨bkA BK479.out⟩, ⟨bkA BK480.out⟩, ⟨bBl HB.out⟩⟩
   ·replace c15 := Bool.eq_false_iff.mpr c15
    subst c15
    have H1 : (batch_Bound.j0 k t482 true l0_0 l0_1 l0_2 l0_3 a0_4 a0_5 a0_6 a1_0 l1_1) = some (r1, r2, r3) := by rw [if_neg (show ¬ (false = true) by decide)] at H; exact H
    clear H; have H := H1; clear H1; have H' := Sd.mk H; clear H; have hnb25 := NB480_479.out; have hnc25 := NB479_480.out; obtain ⟨u26_0, u26_1, o26_0, o26_1⟩ := bc2 (w := w13) BK480.out
    go_wp2_with (first | ((with_reducible refine gate_callee (f := 55) rfl ?_); refine goesL_ (some 19) rfl rfl Try.func55 (by kernel_rfl) rfl #[.int .i64 a1_0, .int .i64 0, .int .i64 1000000] rfl tM ?_; (with_reducible refine (batch_within.calls a1_0 0 1000000 false _ A14.out).mono ?_); rintro e w' ⟨rfl, ⟨nd, rfl⟩⟩; refine ⟨_, rfl, ?_⟩))
    go_meet
    case rel => exact ⟨_, (true), tS, H', ⟨by first | omega | exact Nat.le_refl _⟩, ⟨by (with_reducible repeat (first | apply Kd.R_alloc | apply Kd.R_drewN | apply Kd.R_drew)); exact HO484.out⟩, ⟨bkA BK479.out⟩, ⟨bkA BK480.out⟩, ⟨bBl HB.out⟩⟩
  case rest =>
   clear HC6; (try clear c1); (try clear c2); (try clear p2); (try clear c3); (try clear c4); (try clear c4b0); (try clear c4b1); (try clear c5); (try clear c6); (try clear c9); (try clear c15); (try clear c16); (try clear c16b0); (try clear c16b1); (try clear c16b2); (try clear c18); (try clear c22); (try clear c25); (try clear c26); (try clear u10_0 u10_1 u10_2 u10_3 u10_4 u10_5 u10_6); (try clear u12_0 u12_1 u12_2 u12_3 u12_4 u12_5 u12_6); (try clear u19_0 u19_1); (try clear u23_0 u23_1); (try clear u26_0 u26_1); (try clear o10_0 o10_1 o10_2 o10_3 o10_4 o10_5 o10_6); (try clear o12_0 o12_1 o12_2 o12_3 o12_4 o12_5 o12_6); (try clear o19_0 o19_1); (try clear o23_0 o23_1); (try clear o26_0 o26_1); obtain ⟨kq, x33_5, rfl, HA, HJ5, HO_8, BK479, BK480, HB⟩ := hcut
   cases kq with
   | zero => exact absurd HA.out (by simp [batch_Bound.j0])
   | succ kj5 =>
    have H := HA.out; clear HA
    simp only [batch_Bound.j0] at H
    by_cases c27 : x33_5 = true
    ·subst c27
     have H1 : (some (0, false, 1)) = some (r1, r2, r3) := by rw [if_pos rfl] at H; exact H
     clear H; have H := H1; clear H1
     simp only [Option.some.injEq, Prod.mk.injEq] at H
     obtain ⟨rfl, rfl, rfl⟩ := H
     go_wp2
     go_ret3
     exact ⟨tE, bBl HB.out⟩
    ·replace c27 := Bool.eq_false_iff.mpr c27
     subst c27
     have H1 : ((batch_least.f kj5 l0_0 l0_1 l0_2 l0_3 a0_4 a0_5 a0_6 t482 a1_0 l1_1).bind fun t487 => (if a1_0 = 0 then (some (0, decide (t487 > 0), 0)) else ((batch_up.f t487 a1_0).bind fun t488 => (some (t488, false, 0))))) = some (r1, r2, r3) := by rw [if_neg (show ¬ (false = true) by decide)] at H; exact H
     clear H; have H := H1; clear H1; replace H := Option.bind_eq_some_iff.mp H; obtain ⟨t487, A280, H⟩ := H
     try dsimp only at H
     have A28 := Sd.mk A280; clear A280
     by_cases c29 : a1_0 = 0
     ·rw [if_pos c29] at H
      have c29b0 : (a1_0 == 0) = true := beq_iff_eq.mpr c29
      have c29b1 : (a1_0 != 0) = false := bne_eq_false_iff_eq.mpr c29
      clear c29
      simp only [Option.some.injEq, Prod.mk.injEq] at H
      obtain ⟨rfl, rfl, rfl⟩ := H; have hnb30 := NB479_480.out; have hnc30 := NB480_479.out; obtain ⟨u31_0, u31_1, u31_2, u31_3, u31_4, u31_5, u31_6, o31_0, o31_1, o31_2, o31_3, o31_4, o31_5, o31_6⟩ := bc7 (w := wc) BK479.out; obtain ⟨u32_0, u32_1, o32_0, o32_1⟩ := bc2 (w := wc) BK480.out; obtain ⟨Ao33, co33, eo33⟩ := Kd.R_slice HO_8.out; subst eo33
      go_wp2_with (first | ((with_reducible refine gate_callee (f := 82) rfl ?_); refine goesL_ (some 37) rfl rfl Try.func82 (by kernel_rfl) rfl #[.agg #[.slice A0_0 l0_0.length c0_0, .slice A0_1 l0_1.length c0_1, .slice A0_2 l0_2.length c0_2, .slice A0_3 l0_3.length c0_3, .int .i64 a0_4, .int .i64 a0_5, .int .i64 a0_6], .slice Ao33 t482.length co33, .agg #[.int .i64 a1_0, .slice A1_1 l1_1.length c1_1]] rfl tM ?_; (with_reducible refine (batch_least.calls kj5 _ _ l0_0 _ _ l0_1 _ _ l0_2 _ _ l0_3 a0_4 a0_5 a0_6 _ _ t482 a1_0 _ _ l1_1 t487 _ (cS (Kd.C_below HR0_0.out HB.out)) HC0_0.out (cS (Kd.C_below HR0_1.out HB.out)) HC0_1.out (cS (Kd.C_below HR0_2.out HB.out)) HC0_2.out (cS (Kd.C_below HR0_3.out HB.out)) HC0_3.out (cS ((Kd.R_reads' HO_8.out).2.2)) ((Kd.R_reads' HO_8.out).2.1) (cS (Kd.C_below HR1_1.out HB.out)) HC1_1.out A28.out).mono ?_); rintro e w34 ⟨rfl, hb⟩; refine ⟨_, rfl, ?_⟩; replace HO_8 := Sd.mk (Kd.R_below (by (with_reducible repeat (first | apply Kd.R_alloc | apply Kd.R_drewN | apply Kd.R_drew)); exact HO_8.out) hb); replace BK479 := Sd.mk (blk_below (bkA BK479.out) hb); replace BK480 := Sd.mk (blk_below (bkA BK480.out) hb); replace HB := Sd.mk (below_step (bBl HB.out) hb); (try clear hb); (try clear hb2); (try clear hk); (try clear hi); obtain ⟨u35_0, u35_1, o35_0, o35_1⟩ := bc2 (w := w34) BK480.out))
      go_ret3
      exact ⟨tE, bBl HB.out⟩
     ·rw [if_neg c29] at H
      have c29b0 : (a1_0 == 0) = false := beq_eq_false_iff_ne.mpr c29
      have c29b1 : (a1_0 != 0) = true := bne_iff_ne.mpr c29
      replace H := Option.bind_eq_some_iff.mp H; obtain ⟨t488, A360, H⟩ := H
      try dsimp only at H
      have A36 := Sd.mk A360; clear A360
      simp only [Option.some.injEq, Prod.mk.injEq] at H
      obtain ⟨rfl, rfl, rfl⟩ := H; have hnb37 := NB479_480.out; have hnc37 := NB480_479.out; obtain ⟨u38_0, u38_1, u38_2, u38_3, u38_4, u38_5, u38_6, o38_0, o38_1, o38_2, o38_3, o38_4, o38_5, o38_6⟩ := bc7 (w := wc) BK479.out; obtain ⟨u39_0, u39_1, o39_0, o39_1⟩ := bc2 (w := wc) BK480.out; obtain ⟨Ao40, co40, eo40⟩ := Kd.R_slice HO_8.out; subst eo40
      go_wp2_with (first | ((with_reducible refine gate_callee (f := 82) rfl ?_); refine goesL_ (some 37) rfl rfl Try.func82 (by kernel_rfl) rfl #[.agg #[.slice A0_0 l0_0.length c0_0, .slice A0_1 l0_1.length c0_1, .slice A0_2 l0_2.length c0_2, .slice A0_3 l0_3.length c0_3, .int .i64 a0_4, .int .i64 a0_5, .int .i64 a0_6], .slice Ao40 t482.length co40, .agg #[.int .i64 a1_0, .slice A1_1 l1_1.length c1_1]] rfl tM ?_; (with_reducible refine (batch_least.calls kj5 _ _ l0_0 _ _ l0_1 _ _ l0_2 _ _ l0_3 a0_4 a0_5 a0_6 _ _ t482 a1_0 _ _ l1_1 t487 _ (cS (Kd.C_below HR0_0.out HB.out)) HC0_0.out (cS (Kd.C_below HR0_1.out HB.out)) HC0_1.out (cS (Kd.C_below HR0_2.out HB.out)) HC0_2.out (cS (Kd.C_below HR0_3.out HB.out)) HC0_3.out (cS ((Kd.R_reads' HO_8.out).2.2)) ((Kd.R_reads' HO_8.out).2.1) (cS (Kd.C_below HR1_1.out HB.out)) HC1_1.out A28.out).mono ?_); rintro e w41 ⟨rfl, hb⟩; refine ⟨_, rfl, ?_⟩; replace HO_8 := Sd.mk (Kd.R_below (by (with_reducible repeat (first | apply Kd.R_alloc | apply Kd.R_drewN | apply Kd.R_drew)); exact HO_8.out) hb); replace BK479 := Sd.mk (blk_below (bkA BK479.out) hb); replace BK480 := Sd.mk (blk_below (bkA BK480.out) hb); replace HB := Sd.mk (below_step (bBl HB.out) hb); (try clear hb); (try clear hb2); (try clear hk); (try clear hi); obtain ⟨u42_0, u42_1, o42_0, o42_1⟩ := bc2 (w := w41) BK480.out) | ((with_reducible refine gate_callee (f := 59) rfl ?_); refine goesL_ (some 46) rfl rfl Try.func59 (by kernel_rfl) rfl #[.int .i64 t487, .int .i64 a1_0] rfl tM ?_; (with_reducible refine (batch_up.calls t487 a1_0 t488 _ A36.out).mono ?_); rintro e w' ⟨rfl, ⟨nd, rfl⟩⟩; refine ⟨_, rfl, ?_⟩))
      go_ret3
      exact ⟨tE, bBl HB.out⟩
 ·rw [if_neg c4] at H
  have c4b0 : (t481 == 0) = false := beq_eq_false_iff_ne.mpr c4
  have c4b1 : (t481 != 0) = true := bne_iff_ne.mpr c4
  simp only [Option.some.injEq, Prod.mk.injEq] at H
  obtain ⟨rfl, rfl, rfl⟩ := H
  go_enter Try.func30, Try.ntmps30
  go_wp2_with (first | ((with_reducible refine gate_dst (N := 2) rfl ?_); (try (refine gate_guard (by rfl) ?_; dsimp only)); refine box_event ?hg (N := 2) ?hd (cs := #[.slice A0_0 l0_0.length c0_0, .slice A0_1 l0_1.length c0_1, .slice A0_2 l0_2.length c0_2, .slice A0_3 l0_3.length c0_3, .int .i64 a0_4, .int .i64 a0_5, .int .i64 a0_6]) (t := 29) ?hr ?_; (case hd => rfl); (case hg => rfl); (case hr => exact tG); intro gb479 hg w43 hbox hb; have BK479 := Sd.mk (hbox); have GW479 := Sd.mk (bSz hg (bBl HB.out)); have GE479 := Sd.mk (bSz hg (bBl HB.out)); replace HB := Sd.mk (below_step (bBl HB.out) hb); clear hb hbox hg) | ((with_reducible refine gate_dst (N := 3) rfl ?_); (try (refine gate_guard (by rfl) ?_; dsimp only)); refine box_event ?hg (N := 3) ?hd (cs := #[.int .i64 a1_0, .slice A1_1 l1_1.length c1_1]) (t := 32) ?hr ?_; (case hd => rfl); (case hg => rfl); (case hr => exact tG); intro gb480 hg w44 hbox hb; have BK480 := Sd.mk (hbox); have GW480 := Sd.mk (bSz hg (bBl HB.out)); have GE480 := Sd.mk (bSz hg (bBl HB.out)); replace HB := Sd.mk (below_step (bBl HB.out) hb); have NB479_480 := Sd.mk (bNl hg (bkA BK479.out)); have NB480_479 := Sd.mk (bNg hg (bkA BK479.out)); replace BK479 := Sd.mk (blk_below (bkA BK479.out) hb); clear hb hbox hg; have hnb45 := NB479_480.out; have hnc45 := NB480_479.out; obtain ⟨u46_0, u46_1, u46_2, u46_3, u46_4, u46_5, u46_6, o46_0, o46_1, o46_2, o46_3, o46_4, o46_5, o46_6⟩ := bc7 (w := w44) BK479.out) | ((with_reducible refine gate_callee (f := 26) rfl ?_); refine goesL_ (some 11) rfl rfl Try.func26 (by kernel_rfl) rfl #[.agg #[.slice A0_0 l0_0.length c0_0, .slice A0_1 l0_1.length c0_1, .slice A0_2 l0_2.length c0_2, .slice A0_3 l0_3.length c0_3, .int .i64 a0_4, .int .i64 a0_5, .int .i64 a0_6]] rfl tM ?_; (with_reducible refine (batch_Check.calls k _ _ l0_0 _ _ l0_1 _ _ l0_2 _ _ l0_3 a0_4 a0_5 a0_6 t481 _ (cS (Kd.C_below HR0_0.out HB.out)) HC0_0.out (cS (Kd.C_below HR0_1.out HB.out)) HC0_1.out (cS (Kd.C_below HR0_2.out HB.out)) HC0_2.out (cS (Kd.C_below HR0_3.out HB.out)) HC0_3.out A3.out).mono ?_); rintro e w47 ⟨rfl, hb⟩; refine ⟨_, rfl, ?_⟩; replace BK479 := Sd.mk (blk_below (bkA BK479.out) hb); replace BK480 := Sd.mk (blk_below (bkA BK480.out) hb); replace HB := Sd.mk (below_step (bBl HB.out) hb); (try clear hb); (try clear hb2); (try clear hk); (try clear hi)))
  go_ret3
  exact ⟨tE, bBl HB.out⟩
end Go.Proofs.Ytkjkokgbhepmoaa.PB

namespace Go.Proofs.Ytkjkokgbhepmoaa.PB
open Go.RowKit Go.Proofs.YtkjkokgbhepmoaaW.PrintWords Go.Proofs.YtkjkokgbhepmoaaW.PrintLast Go.Proofs.YtkjkokgbhepmoaaW.PrintMore
attribute [local go_sem] max2_int min2_int max_two min_two max_three min_three max_four min_four
mutual
def rf_Bound.j0 : Nat → List (S51) → Bool → List ByteArray → List (S63) → List (S27) → List (S65) → Int → Int → Int → Int → List Int → Option (Int × Bool × Int)
 | 0, _, _, _, _, _, _, _, _, _, _, _ => none
 | k + 1, x8, x37, x490q0, x490q1, x490q2, x490q3, x490q4, x490q5, x490q6, x491q0, x491q1 => if x37 = true then (some (0, false, 1)) else (rf_Bound.l0 k x8 0 0 x490q0 x490q1 x490q2 x490q3 x490q4 x490q5 x490q6 x491q0 x491q1)
def rf_Bound.l0 : Nat → List (S51) → Int → Int → List ByteArray → List (S63) → List (S27) → List (S65) → Int → Int → Int → Int → List Int → Option (Int × Bool × Int)
 | 0, _, _, _, _, _, _, _, _, _, _, _, _ => none
 | k + 1, x8, x9, x10, x490q0, x490q1, x490q2, x490q3, x490q4, x490q5, x490q6, x491q0, x491q1 => if x10 < (x8.length : Int) then (if 0 ≤ x10 then (if x10 < (x491q1.length : Int) then (if (rd x491q1 x10) < 0 then (some (0, false, 1)) else (if (rd x491q1 x10) > 1000 then (some (0, false, 1)) else (rf_Bound.l0 k x8 (wrap64 (x9 - (wrap64 ((rd x491q1 x10) * ((rd_T51 x8 x10).f1))))) (wrap64 (x10 + 1)) x490q0 x490q1 x490q2 x490q3 x490q4 x490q5 x490q6 x491q0 x491q1))) else (none)) else (none)) else (rf_Bound.l1 k x8 x9 0 x490q0 x490q1 x490q2 x490q3 x490q4 x490q5 x490q6 x491q0 x491q1)
def rf_Bound.l1 : Nat → List (S51) → Int → Int → List ByteArray → List (S63) → List (S27) → List (S65) → Int → Int → Int → Int → List Int → Option (Int × Bool × Int)
 | 0, _, _, _, _, _, _, _, _, _, _, _, _ => none
 | k + 1, x8, x9, x11, x490q0, x490q1, x490q2, x490q3, x490q4, x490q5, x490q6, x491q0, x491q1 => if x11 < (x490q1.length : Int) then (if 0 ≤ x11 then (rf_Bound.l2 k x8 x9 x11 (wrap64 (x491q0 * ((rd_T63 x490q1 x11).f1))) 0 x490q0 x490q1 x490q2 x490q3 x490q4 x490q5 x490q6 x491q0 x491q1 ((rd_T63 x490q1 x11).f0) ((rd_T63 x490q1 x11).f1) ((rd_T63 x490q1 x11).f2) ((rd_T63 x490q1 x11).f3) ((rd_T63 x490q1 x11).f4) ((rd_T63 x490q1 x11).f5) ((rd_T63 x490q1 x11).f6)) else (none)) else (if x491q0 = 0 then (some (0, decide (x9 > 0), 0)) else ((rf_ceiling.f x9 x491q0).bind fun t499 => (some (t499, false, 0))))
def rf_Bound.l2 : Nat → List (S51) → Int → Int → Int → Int → List ByteArray → List (S63) → List (S27) → List (S65) → Int → Int → Int → Int → List Int → ByteArray → Int → Int → Int → Int → Int → List (S27) → Option (Int × Bool × Int)
 | 0, _, _, _, _, _, _, _, _, _, _, _, _, _, _, _, _, _, _, _, _, _ => none
 | k + 1, x8, x9, x11, x13, x14, x490q0, x490q1, x490q2, x490q3, x490q4, x490q5, x490q6, x491q0, x491q1, x502q0, x502q1, x502q2, x502q3, x502q4, x502q5, x502q6 => if x14 < (x8.length : Int) then (if 0 ≤ x14 then (if x14 < (x491q1.length : Int) then (if 0 ≤ x11 then (if x11 < (((rd_T51 x8 x14).f0).length : Int) then (rf_Bound.l2 k x8 x9 x11 (wrap64 (x13 + (wrap64 ((rd x491q1 x14) * (rd ((rd_T51 x8 x14).f0) x11))))) (wrap64 (x14 + 1)) x490q0 x490q1 x490q2 x490q3 x490q4 x490q5 x490q6 x491q0 x491q1 x502q0 x502q1 x502q2 x502q3 x502q4 x502q5 x502q6) else (none)) else (none)) else (none)) else (none)) else (if x13 ≥ 0 then (rf_Bound.l1 k x8 (wrap64 (x9 + (wrap64 (x13 * x502q3)))) (wrap64 (x11 + 1)) x490q0 x490q1 x490q2 x490q3 x490q4 x490q5 x490q6 x491q0 x491q1) else (if x502q5 = 0 then (none) else (rf_Bound.l1 k x8 (wrap64 (x9 + (wrap64 (x13 * (wrap64 (x502q3 + (wrap64 ((wrap64 (Int.tdiv (wrap64 (x502q4 - x502q3)) x502q5)) * x502q5)))))))) (wrap64 (x11 + 1)) x490q0 x490q1 x490q2 x490q3 x490q4 x490q5 x490q6 x491q0 x491q1)))
end
def rf_Bound.f (k : Nat) (l0_0 : List ByteArray) (l0_1 : List (S63)) (l0_2 : List (S27)) (l0_3 : List (S65)) (a0_4 : Int) (a0_5 : Int) (a0_6 : Int) (a1_0 : Int) (l1_1 : List Int) : Option (Int × Bool × Int) := (rf_Check.f k l0_0 l0_1 l0_2 l0_3 a0_4 a0_5 a0_6).bind fun t491 => (if t491 = 0 then ((x_AllLines.f l0_0 l0_1 l0_2 l0_3 a0_4 a0_5 a0_6).bind fun t492 => (if a1_0 < 0 then (rf_Bound.j0 k t492 true l0_0 l0_1 l0_2 l0_3 a0_4 a0_5 a0_6 a1_0 l1_1) else (if a1_0 > 1000000 then (rf_Bound.j0 k t492 true l0_0 l0_1 l0_2 l0_3 a0_4 a0_5 a0_6 a1_0 l1_1) else (rf_Bound.j0 k t492 ((l1_1.length : Int) != (t492.length : Int)) l0_0 l0_1 l0_2 l0_3 a0_4 a0_5 a0_6 a1_0 l1_1)))) else (some (0, false, t491)))
set_option maxHeartbeats 8000000 in
set_option maxRecDepth 100000 in
theorem rf_Bound.calls (k : Nat) (A0_0 : Option Addr) (c0_0 : Nat) (l0_0 : List ByteArray) (A0_1 : Option Addr) (c0_1 : Nat) (l0_1 : List (S63)) (A0_2 : Option Addr) (c0_2 : Nat) (l0_2 : List (S27)) (A0_3 : Option Addr) (c0_3 : Nat) (l0_3 : List (S65)) (a0_4 : Int) (a0_5 : Int) (a0_6 : Int) (a1_0 : Int) (A1_1 : Option Addr) (c1_1 : Nat) (l1_1 : List Int) (r1 : Int) (r2 : Bool) (r3 : Int) (w : World) (hr0_0 : Kd.C Kd.string w A0_0 l0_0.length l0_0) (hc0_0 : l0_0.length ≤ c0_0) (hr0_1 : Kd.C k63 w A0_1 l0_1.length l0_1) (hc0_1 : l0_1.length ≤ c0_1) (hr0_2 : Kd.C k27 w A0_2 l0_2.length l0_2) (hc0_2 : l0_2.length ≤ c0_2) (hr0_3 : Kd.C k65 w A0_3 l0_3.length l0_3) (hc0_3 : l0_3.length ≤ c0_3) (hr1_1 : Kd.C (Kd.int .i64) w A1_1 l1_1.length l1_1) (hc1_1 : l1_1.length ≤ c1_1) (h : rf_Bound.f k l0_0 l0_1 l0_2 l0_3 a0_4 a0_5 a0_6 a1_0 l1_1 = some (r1, r2, r3)) :
  Calls Try.prog 31 #[.agg #[.slice A0_0 l0_0.length c0_0, .slice A0_1 l0_1.length c0_1, .slice A0_2 l0_2.length c0_2, .slice A0_3 l0_3.length c0_3, .int .i64 a0_4, .int .i64 a0_5, .int .i64 a0_6], .agg #[.int .i64 a1_0, .slice A1_1 l1_1.length c1_1]] w fun e w' => e = .returned (.tuple #[.int .i64 r1, .bool r2, .int .i64 r3]) ∧ Below w.heap.size w w' := by
 have hu29 := Try.underlying29; have hu32 := Try.underlying32; have hu63 := Try.underlying63; have HR0_0 := Sd.mk hr0_0; have HC0_0 := Sd.mk hc0_0; clear hr0_0 hc0_0; have HR0_1 := Sd.mk hr0_1; have HC0_1 := Sd.mk hc0_1; clear hr0_1 hc0_1; have HR0_2 := Sd.mk hr0_2; have HC0_2 := Sd.mk hc0_2; clear hr0_2 hc0_2; have HR0_3 := Sd.mk hr0_3; have HC0_3 := Sd.mk hc0_3; clear hr0_3 hc0_3; have HR1_1 := Sd.mk hr1_1; have HC1_1 := Sd.mk hc1_1; clear hr1_1 hc1_1; have HB := Sd.mk (Below.refl w.heap.size w)
 have H : ((rf_Check.f k l0_0 l0_1 l0_2 l0_3 a0_4 a0_5 a0_6).bind fun t491 => (if t491 = 0 then ((x_AllLines.f l0_0 l0_1 l0_2 l0_3 a0_4 a0_5 a0_6).bind fun t492 => (if a1_0 < 0 then (rf_Bound.j0 k t492 true l0_0 l0_1 l0_2 l0_3 a0_4 a0_5 a0_6 a1_0 l1_1) else (if a1_0 > 1000000 then (rf_Bound.j0 k t492 true l0_0 l0_1 l0_2 l0_3 a0_4 a0_5 a0_6 a1_0 l1_1) else (rf_Bound.j0 k t492 ((l1_1.length : Int) != (t492.length : Int)) l0_0 l0_1 l0_2 l0_3 a0_4 a0_5 a0_6 a1_0 l1_1)))) else (some (0, false, t491)))) = some (r1, r2, r3) := h
 clear h; replace H := Option.bind_eq_some_iff.mp H; obtain ⟨t491, A30, H⟩ := H
 try dsimp only at H
 have A3 := Sd.mk A30; clear A30
 by_cases c4 : t491 = 0
 ·rw [if_pos c4] at H
  have c4b0 : (t491 == 0) = true := beq_iff_eq.mpr c4
  have c4b1 : (t491 != 0) = false := bne_eq_false_iff_eq.mpr c4
  clear c4; replace H := Option.bind_eq_some_iff.mp H; obtain ⟨t492, A50, H⟩ := H
  try dsimp only at H
  have A5 := Sd.mk A50; clear A50; have HC6 := Sd.mk H; clear H
  go_enter Try.func31, Try.ntmps31
  go_upto_region 5 with (first | ((with_reducible refine gate_dst (N := 2) rfl ?_); (try (refine gate_guard (by rfl) ?_; dsimp only)); refine box_event ?hg (N := 2) ?hd (cs := #[.slice A0_0 l0_0.length c0_0, .slice A0_1 l0_1.length c0_1, .slice A0_2 l0_2.length c0_2, .slice A0_3 l0_3.length c0_3, .int .i64 a0_4, .int .i64 a0_5, .int .i64 a0_6]) (t := 29) ?hr ?_; (case hd => rfl); (case hg => rfl); (case hr => exact tG); intro gb489 hg w7 hbox hb; have BK489 := Sd.mk (hbox); have GW489 := Sd.mk (bSz hg (bBl HB.out)); have GE489 := Sd.mk (bSz hg (bBl HB.out)); replace HB := Sd.mk (below_step (bBl HB.out) hb); clear hb hbox hg) | ((with_reducible refine gate_dst (N := 3) rfl ?_); (try (refine gate_guard (by rfl) ?_; dsimp only)); refine box_event ?hg (N := 3) ?hd (cs := #[.int .i64 a1_0, .slice A1_1 l1_1.length c1_1]) (t := 32) ?hr ?_; (case hd => rfl); (case hg => rfl); (case hr => exact tG); intro gb490 hg w8 hbox hb; have BK490 := Sd.mk (hbox); have GW490 := Sd.mk (bSz hg (bBl HB.out)); have GE490 := Sd.mk (bSz hg (bBl HB.out)); replace HB := Sd.mk (below_step (bBl HB.out) hb); have NB489_490 := Sd.mk (bNl hg (bkA BK489.out)); have NB490_489 := Sd.mk (bNg hg (bkA BK489.out)); replace BK489 := Sd.mk (blk_below (bkA BK489.out) hb); clear hb hbox hg; have hnb9 := NB489_490.out; have hnc9 := NB490_489.out; obtain ⟨u10_0, u10_1, u10_2, u10_3, u10_4, u10_5, u10_6, o10_0, o10_1, o10_2, o10_3, o10_4, o10_5, o10_6⟩ := bc7 (w := w8) BK489.out) | (go_at_call 27; (with_reducible refine (rf_Check.calls k _ _ l0_0 _ _ l0_1 _ _ l0_2 _ _ l0_3 a0_4 a0_5 a0_6 t491 _ (cS (Kd.C_below HR0_0.out HB.out)) HC0_0.out (cS (Kd.C_below HR0_1.out HB.out)) HC0_1.out (cS (Kd.C_below HR0_2.out HB.out)) HC0_2.out (cS (Kd.C_below HR0_3.out HB.out)) HC0_3.out A3.out).mono ?_); rintro e w11 ⟨rfl, hb⟩; replace BK489 := Sd.mk (blk_below (bkA BK489.out) hb); replace BK490 := Sd.mk (blk_below (bkA BK490.out) hb); replace HB := Sd.mk (below_step (bBl HB.out) hb); (try clear hb); (try clear hb2); (try clear hk); (try clear hi); obtain ⟨u12_0, u12_1, u12_2, u12_3, u12_4, u12_5, u12_6, o12_0, o12_1, o12_2, o12_3, o12_4, o12_5, o12_6⟩ := bc7 (w := w11) BK489.out) | (go_at_call 64; (with_reducible refine (x_AllLines.calls _ _ l0_0 _ _ l0_1 _ _ l0_2 _ _ l0_3 a0_4 a0_5 a0_6 t492 _ (cS (Kd.C_below HR0_0.out HB.out)) HC0_0.out (cS (Kd.C_below HR0_1.out HB.out)) HC0_1.out (cS (Kd.C_below HR0_2.out HB.out)) HC0_2.out (cS (Kd.C_below HR0_3.out HB.out)) HC0_3.out A5.out).mono ?_); rintro e w13 ⟨v493, rfl, ho0, hb⟩; have HO494 := Sd.mk (Kd.R_lower ho0 (below_size (bBl HB.out))); replace BK489 := Sd.mk (blk_below (bkA BK489.out) hb); replace BK490 := Sd.mk (blk_below (bkA BK490.out) hb); replace HB := Sd.mk (below_step (bBl HB.out) hb); (try clear hb); (try clear hb2); (try clear hk); (try clear hi); (try clear ho0)))
  repeat (go_quiet (first | ((with_reducible refine gate_dst (N := 2) rfl ?_); (try (refine gate_guard (by rfl) ?_; dsimp only)); refine box_event ?hg (N := 2) ?hd (cs := #[.slice A0_0 l0_0.length c0_0, .slice A0_1 l0_1.length c0_1, .slice A0_2 l0_2.length c0_2, .slice A0_3 l0_3.length c0_3, .int .i64 a0_4, .int .i64 a0_5, .int .i64 a0_6]) (t := 29) ?hr ?_; (case hd => rfl); (case hg => rfl); (case hr => exact tG); intro gb489 hg w7 hbox hb; have BK489 := Sd.mk (hbox); have GW489 := Sd.mk (bSz hg (bBl HB.out)); have GE489 := Sd.mk (bSz hg (bBl HB.out)); replace HB := Sd.mk (below_step (bBl HB.out) hb); clear hb hbox hg) | ((with_reducible refine gate_dst (N := 3) rfl ?_); (try (refine gate_guard (by rfl) ?_; dsimp only)); refine box_event ?hg (N := 3) ?hd (cs := #[.int .i64 a1_0, .slice A1_1 l1_1.length c1_1]) (t := 32) ?hr ?_; (case hd => rfl); (case hg => rfl); (case hr => exact tG); intro gb490 hg w8 hbox hb; have BK490 := Sd.mk (hbox); have GW490 := Sd.mk (bSz hg (bBl HB.out)); have GE490 := Sd.mk (bSz hg (bBl HB.out)); replace HB := Sd.mk (below_step (bBl HB.out) hb); have NB489_490 := Sd.mk (bNl hg (bkA BK489.out)); have NB490_489 := Sd.mk (bNg hg (bkA BK489.out)); replace BK489 := Sd.mk (blk_below (bkA BK489.out) hb); clear hb hbox hg; have hnb9 := NB489_490.out; have hnc9 := NB490_489.out; obtain ⟨u10_0, u10_1, u10_2, u10_3, u10_4, u10_5, u10_6, o10_0, o10_1, o10_2, o10_3, o10_4, o10_5, o10_6⟩ := bc7 (w := w8) BK489.out) | (go_at_call 27; (with_reducible refine (rf_Check.calls k _ _ l0_0 _ _ l0_1 _ _ l0_2 _ _ l0_3 a0_4 a0_5 a0_6 t491 _ (cS (Kd.C_below HR0_0.out HB.out)) HC0_0.out (cS (Kd.C_below HR0_1.out HB.out)) HC0_1.out (cS (Kd.C_below HR0_2.out HB.out)) HC0_2.out (cS (Kd.C_below HR0_3.out HB.out)) HC0_3.out A3.out).mono ?_); rintro e w11 ⟨rfl, hb⟩; replace BK489 := Sd.mk (blk_below (bkA BK489.out) hb); replace BK490 := Sd.mk (blk_below (bkA BK490.out) hb); replace HB := Sd.mk (below_step (bBl HB.out) hb); (try clear hb); (try clear hb2); (try clear hk); (try clear hi); obtain ⟨u12_0, u12_1, u12_2, u12_3, u12_4, u12_5, u12_6, o12_0, o12_1, o12_2, o12_3, o12_4, o12_5, o12_6⟩ := bc7 (w := w11) BK489.out) | (go_at_call 64; (with_reducible refine (x_AllLines.calls _ _ l0_0 _ _ l0_1 _ _ l0_2 _ _ l0_3 a0_4 a0_5 a0_6 t492 _ (cS (Kd.C_below HR0_0.out HB.out)) HC0_0.out (cS (Kd.C_below HR0_1.out HB.out)) HC0_1.out (cS (Kd.C_below HR0_2.out HB.out)) HC0_2.out (cS (Kd.C_below HR0_3.out HB.out)) HC0_3.out A5.out).mono ?_); rintro e w13 ⟨v493, rfl, ho0, hb⟩; have HO494 := Sd.mk (Kd.R_lower ho0 (below_size (bBl HB.out))); replace BK489 := Sd.mk (blk_below (bkA BK489.out) hb); replace BK490 := Sd.mk (blk_below (bkA BK490.out) hb); replace HB := Sd.mk (below_step (bBl HB.out) hb); (try clear hb); (try clear hb2); (try clear hk); (try clear hi); (try clear ho0))); go_upto_region 5 with (first | ((with_reducible refine gate_dst (N := 2) rfl ?_); (try (refine gate_guard (by rfl) ?_; dsimp only)); refine box_event ?hg (N := 2) ?hd (cs := #[.slice A0_0 l0_0.length c0_0, .slice A0_1 l0_1.length c0_1, .slice A0_2 l0_2.length c0_2, .slice A0_3 l0_3.length c0_3, .int .i64 a0_4, .int .i64 a0_5, .int .i64 a0_6]) (t := 29) ?hr ?_; (case hd => rfl); (case hg => rfl); (case hr => exact tG); intro gb489 hg w7 hbox hb; have BK489 := Sd.mk (hbox); have GW489 := Sd.mk (bSz hg (bBl HB.out)); have GE489 := Sd.mk (bSz hg (bBl HB.out)); replace HB := Sd.mk (below_step (bBl HB.out) hb); clear hb hbox hg) | ((with_reducible refine gate_dst (N := 3) rfl ?_); (try (refine gate_guard (by rfl) ?_; dsimp only)); refine box_event ?hg (N := 3) ?hd (cs := #[.int .i64 a1_0, .slice A1_1 l1_1.length c1_1]) (t := 32) ?hr ?_; (case hd => rfl); (case hg => rfl); (case hr => exact tG); intro gb490 hg w8 hbox hb; have BK490 := Sd.mk (hbox); have GW490 := Sd.mk (bSz hg (bBl HB.out)); have GE490 := Sd.mk (bSz hg (bBl HB.out)); replace HB := Sd.mk (below_step (bBl HB.out) hb); have NB489_490 := Sd.mk (bNl hg (bkA BK489.out)); have NB490_489 := Sd.mk (bNg hg (bkA BK489.out)); replace BK489 := Sd.mk (blk_below (bkA BK489.out) hb); clear hb hbox hg; have hnb9 := NB489_490.out; have hnc9 := NB490_489.out; obtain ⟨u10_0, u10_1, u10_2, u10_3, u10_4, u10_5, u10_6, o10_0, o10_1, o10_2, o10_3, o10_4, o10_5, o10_6⟩ := bc7 (w := w8) BK489.out) | (go_at_call 27; (with_reducible refine (rf_Check.calls k _ _ l0_0 _ _ l0_1 _ _ l0_2 _ _ l0_3 a0_4 a0_5 a0_6 t491 _ (cS (Kd.C_below HR0_0.out HB.out)) HC0_0.out (cS (Kd.C_below HR0_1.out HB.out)) HC0_1.out (cS (Kd.C_below HR0_2.out HB.out)) HC0_2.out (cS (Kd.C_below HR0_3.out HB.out)) HC0_3.out A3.out).mono ?_); rintro e w11 ⟨rfl, hb⟩; replace BK489 := Sd.mk (blk_below (bkA BK489.out) hb); replace BK490 := Sd.mk (blk_below (bkA BK490.out) hb); replace HB := Sd.mk (below_step (bBl HB.out) hb); (try clear hb); (try clear hb2); (try clear hk); (try clear hi); obtain ⟨u12_0, u12_1, u12_2, u12_3, u12_4, u12_5, u12_6, o12_0, o12_1, o12_2, o12_3, o12_4, o12_5, o12_6⟩ := bc7 (w := w11) BK489.out) | (go_at_call 64; (with_reducible refine (x_AllLines.calls _ _ l0_0 _ _ l0_1 _ _ l0_2 _ _ l0_3 a0_4 a0_5 a0_6 t492 _ (cS (Kd.C_below HR0_0.out HB.out)) HC0_0.out (cS (Kd.C_below HR0_1.out HB.out)) HC0_1.out (cS (Kd.C_below HR0_2.out HB.out)) HC0_2.out (cS (Kd.C_below HR0_3.out HB.out)) HC0_3.out A5.out).mono ?_); rintro e w13 ⟨v493, rfl, ho0, hb⟩; have HO494 := Sd.mk (Kd.R_lower ho0 (below_size (bBl HB.out))); replace BK489 := Sd.mk (blk_below (bkA BK489.out) hb); replace BK490 := Sd.mk (blk_below (bkA BK490.out) hb); replace HB := Sd.mk (below_step (bBl HB.out) hb); (try clear hb); (try clear hb2); (try clear hk); (try clear hi); (try clear ho0))))
  (try simp only [Act.put, List.setIfInBounds_toArray, List.set_cons_zero, List.set_cons_succ])
  go_cut [37] (fun v37 wc => ∃ (kq : Nat) (x37_5 : Bool), v37 = .bool x37_5 ∧ Sd (rf_Bound.j0 kq t492 x37_5 l0_0 l0_1 l0_2 l0_3 a0_4 a0_5 a0_6 a1_0 l1_1 = some (r1, r2, r3)) ∧ Sd (kq ≤ k) ∧ Sd (Kd.R k51 51 wc w.heap.size (fun _ => True) v493 t492) ∧ Sd (wc.heap[gb489]? = some (.cells #[(.slice A0_0 l0_0.length c0_0), (.slice A0_1 l0_1.length c0_1), (.slice A0_2 l0_2.length c0_2), (.slice A0_3 l0_3.length c0_3), .int .i64 a0_4, .int .i64 a0_5, .int .i64 a0_6] 29 (0, 0))) ∧ Sd (wc.heap[gb490]? = some (.cells #[.int .i64 a1_0, (.slice A1_1 l1_1.length c1_1)] 32 (0, 0))) ∧ Sd (Below w.heap.size w wc))
  case first =>
   have H := HC6.out; clear HC6
   by_cases c14 : a1_0 < 0
   ·rw [if_pos c14] at H
    have c14b0 : decide (a1_0 < 0) = true := decide_eq_true c14
    clear c14
    (first | rw [c14b0] | (simp only [i64_w, i32_w]; rw [c14b0]) | skip)
    have H' := Sd.mk H; clear H; have hnb15 := NB490_489.out; have hnc15 := NB489_490.out; obtain ⟨u16_0, u16_1, o16_0, o16_1⟩ := bc2 (w := w13) BK490.out
    go_wp2
    repeat (go_quiet (fail); try go_wp2)
    go_meet
    case rel => exact ⟨_, (true), tS, H', ⟨by first | omega | exact Nat.le_refl _⟩, ⟨by (with_reducible repeat (first | apply Kd.R_alloc | apply Kd.R_drewN | apply Kd.R_drew)); exact HO494.out⟩, ⟨bkA BK489.out⟩, ⟨bkA BK490.out⟩, ⟨bBl HB.out⟩⟩
   ·rw [if_neg c14] at H
    have c14b0 : decide (a1_0 < 0) = false := decide_eq_false c14
    clear c14
    (first | rw [c14b0] | (simp only [i64_w, i32_w]; rw [c14b0]) | skip)
    by_cases c17 : a1_0 > 1000000
    ·rw [if_pos c17] at H
     have c17b0 : decide (1000000 < a1_0) = true := decide_eq_true c17
     clear c17; have H' := Sd.mk H; clear H; have hnb18 := NB490_489.out; have hnc18 := NB489_490.out; obtain ⟨u19_0, u19_1, o19_0, o19_1⟩ := bc2 (w := w13) BK490.out
     go_wp2
     repeat (go_quiet (fail); try go_wp2)
     go_meet
     case rel => exact ⟨_, (true), tS, H', ⟨by first | omega | exact Nat.le_refl _⟩, ⟨by (with_reducible repeat (first | apply Kd.R_alloc | apply Kd.R_drewN | apply Kd.R_drew)); exact HO494.out⟩, ⟨bkA BK489.out⟩, ⟨bkA BK490.out⟩, ⟨bBl HB.out⟩⟩
    ·rw [if_neg c17] at H
     have c17b0 : decide (1000000 < a1_0) = false := decide_eq_false c17
     clear c17; have H' := Sd.mk H; clear H; have hnb20 := NB490_489.out; have hnc20 := NB489_490.out; obtain ⟨u21_0, u21_1, o21_0, o21_1⟩ := bc2 (w := w13) BK490.out; obtain ⟨Ao22, co22, eo22⟩ := Kd.R_slice HO494.out; subst eo22
     go_wp2
     repeat (go_quiet (fail); try go_wp2)
     go_meet
     case rel => exact ⟨_, (((l1_1.length : Int) != (t492.length : Int))), tS, H', ⟨by first | omega | exact Nat.le_refl _⟩, ⟨by (with_reducible repeat (first | apply Kd.R_alloc | apply Kd.R_drewN | apply Kd.R_drew)); exact HO494.out⟩, ⟨bkA BK489.out⟩, ⟨bkA BK490.out⟩, ⟨bBl HB.out⟩⟩
  case rest =>
   clear HC6; (try clear c1); (try clear c2); (try clear p2); (try clear c3); (try clear c4); (try clear c4b0); (try clear c4b1); (try clear c9); (try clear c14); (try clear c14b0); (try clear c15); (try clear c17); (try clear c17b0); (try clear c18); (try clear c20); (try clear u10_0 u10_1 u10_2 u10_3 u10_4 u10_5 u10_6); (try clear u12_0 u12_1 u12_2 u12_3 u12_4 u12_5 u12_6); (try clear u16_0 u16_1); (try clear u19_0 u19_1); (try clear u21_0 u21_1); (try clear o10_0 o10_1 o10_2 o10_3 o10_4 o10_5 o10_6); (try clear o12_0 o12_1 o12_2 o12_3 o12_4 o12_5 o12_6); (try clear o16_0 o16_1); (try clear o19_0 o19_1); (try clear o21_0 o21_1); obtain ⟨kq, x37_5, rfl, HA, HJ5, HO_8, BK489, BK490, HB⟩ := hcut
   cases kq with
   | zero => exact absurd HA.out (by simp [rf_Bound.j0])
   | succ kj5 =>
    have H := HA.out; clear HA
    simp only [rf_Bound.j0] at H
    by_cases c23 : x37_5 = true
    ·subst c23
     have H1 : (some (0, false, 1)) = some (r1, r2, r3) := by rw [if_pos rfl] at H; exact H
     clear H; have H := H1; clear H1
     simp only [Option.some.injEq, Prod.mk.injEq] at H
     obtain ⟨rfl, rfl, rfl⟩ := H
     go_wp2
     repeat (go_quiet (fail); try go_wp2)
     go_ret3
     exact ⟨tE, bBl HB.out⟩
    ·replace c23 := Bool.eq_false_iff.mpr c23
     subst c23
     have H1 : (rf_Bound.l0 kj5 t492 0 0 l0_0 l0_1 l0_2 l0_3 a0_4 a0_5 a0_6 a1_0 l1_1) = some (r1, r2, r3) := by rw [if_neg (show ¬ (false = true) by decide)] at H; exact H
     clear H; have H := H1; clear H1; have H' := Sd.mk H; clear H
     go_wp2
     repeat (go_quiet (fail); try go_wp2)
     go_loopg [9, 10] kj5 (fun kq v9 v10 w' => ∃ (x9_2 : Int) (x10_2 : Int), v9 = .int .i64 x9_2 ∧ v10 = .int .i64 x10_2 ∧ Sd (rf_Bound.l0 kq t492 x9_2 x10_2 l0_0 l0_1 l0_2 l0_3 a0_4 a0_5 a0_6 a1_0 l1_1 = some (r1, r2, r3)) ∧ Sd (kq ≤ kj5) ∧ Sd (Kd.R k51 51 w' w.heap.size (fun _ => True) v493 t492) ∧ Sd (w'.heap[gb489]? = some (.cells #[(.slice A0_0 l0_0.length c0_0), (.slice A0_1 l0_1.length c0_1), (.slice A0_2 l0_2.length c0_2), (.slice A0_3 l0_3.length c0_3), .int .i64 a0_4, .int .i64 a0_5, .int .i64 a0_6] 29 (0, 0))) ∧ Sd (w'.heap[gb490]? = some (.cells #[.int .i64 a1_0, (.slice A1_1 l1_1.length c1_1)] 32 (0, 0))) ∧ Sd (Below w.heap.size w w'))
     case atStart => exact ⟨(0), (0), tS, tS, H', ⟨Nat.le_refl _⟩, ⟨by (with_reducible repeat (first | apply Kd.R_alloc | apply Kd.R_drewN | apply Kd.R_drew)); exact HO_8.out⟩, ⟨bkA BK489.out⟩, ⟨bkA BK490.out⟩, ⟨bBl HB.out⟩⟩
     case round =>
      clear H'; (try clear c1); (try clear c2); (try clear p2 p2); (try clear c3); (try clear c4); (try clear c4b0); (try clear c4b1); (try clear c9); (try clear c14); (try clear c14b0); (try clear c15); (try clear c17); (try clear c17b0); (try clear c18); (try clear c20); (try clear c23); (try clear u10_0 u10_1 u10_2 u10_3 u10_4 u10_5 u10_6); (try clear u12_0 u12_1 u12_2 u12_3 u12_4 u12_5 u12_6); (try clear u16_0 u16_1); (try clear u19_0 u19_1); (try clear u21_0 u21_1); (try clear o10_0 o10_1 o10_2 o10_3 o10_4 o10_5 o10_6); (try clear o12_0 o12_1 o12_2 o12_3 o12_4 o12_5 o12_6); (try clear o16_0 o16_1); (try clear o19_0 o19_1); (try clear o21_0 o21_1); obtain ⟨x9_2, x10_2, rfl, rfl, HA, HK2, HO_8, BK489, BK490, HB⟩ := hrel
      cases gk with
      | zero => exact absurd HA.out (by simp [rf_Bound.l0])
      | succ k2 =>
       have H := HA.out; clear HA
       simp only [rf_Bound.l0] at H
       by_cases c24 : x10_2 < (t492.length : Int)
       ·rw [if_pos c24] at H
        have c24b0 : decide (x10_2 < (t492.length : Int)) = true := decide_eq_true c24
        clear c24
        by_cases c25 : 0 ≤ x10_2
        ·rw [if_pos c25] at H
         have c25b0 : decide (0 ≤ x10_2) = true := decide_eq_true c25
         clear c25
         by_cases c26 : x10_2 < (l1_1.length : Int)
         ·rw [if_pos c26] at H
          have c26b0 : decide (x10_2 < (l1_1.length : Int)) = true := decide_eq_true c26
          clear c26
          by_cases c27 : (rd l1_1 x10_2) < 0
          ·rw [if_pos c27] at H
           have c27b0 : decide ((rd l1_1 x10_2) < 0) = true := decide_eq_true c27
           clear c27
           simp only [Option.some.injEq, Prod.mk.injEq] at H
           obtain ⟨rfl, rfl, rfl⟩ := H; obtain ⟨Ao28, co28, eo28⟩ := Kd.R_slice HO_8.out; subst eo28; have hnb29 := NB490_489.out; have hnc29 := NB489_490.out; obtain ⟨u30_0, u30_1, o30_0, o30_1⟩ := bc2 (w := wr) BK490.out
           have p495 : 0 ≤ (x10_2 : Int) := tB
           have q495 : x10_2 < (l1_1.length : Int) := tB
           obtain ⟨ad495, e495, hx495_0⟩ := Kd.at_int HR1_1.out x10_2 p495 q495; cases e495; replace hx495_0 := cU HB hx495_0; replace p495 := eq_true p495; replace q495 := eq_true q495
           go_wp2
           repeat (go_quiet (fail); try go_wp2)
           go_ret3
           exact ⟨tE, bBl HB.out⟩
          ·rw [if_neg c27] at H
           have c27b0 : decide ((rd l1_1 x10_2) < 0) = false := decide_eq_false c27
           clear c27
           by_cases c31 : (rd l1_1 x10_2) > 1000
           ·rw [if_pos c31] at H
            have c31b0 : decide (1000 < (rd l1_1 x10_2)) = true := decide_eq_true c31
            clear c31
            simp only [Option.some.injEq, Prod.mk.injEq] at H
            obtain ⟨rfl, rfl, rfl⟩ := H; obtain ⟨Ao32, co32, eo32⟩ := Kd.R_slice HO_8.out; subst eo32; have hnb33 := NB490_489.out; have hnc33 := NB489_490.out; obtain ⟨u34_0, u34_1, o34_0, o34_1⟩ := bc2 (w := wr) BK490.out
            have p495 : 0 ≤ (x10_2 : Int) := tB
            have q495 : x10_2 < (l1_1.length : Int) := tB
            obtain ⟨ad495, e495, hx495_0⟩ := Kd.at_int HR1_1.out x10_2 p495 q495; cases e495; replace hx495_0 := cU HB hx495_0; replace p495 := eq_true p495; replace q495 := eq_true q495
            have p496 : 0 ≤ (x10_2 : Int) := tB
            have q496 : x10_2 < (l1_1.length : Int) := tB
            obtain ⟨ad496, e496, hx496_0⟩ := Kd.at_int HR1_1.out x10_2 p496 q496
            obtain rfl : ad495 = ad496 := (by injection e496)
            replace hx496_0 := cU HB hx496_0; replace p496 := eq_true p496; replace q496 := eq_true q496
            go_wp2
            repeat (go_quiet (fail); try go_wp2)
            go_ret3
            exact ⟨tE, bBl HB.out⟩
           ·rw [if_neg c31] at H
            have c31b0 : decide (1000 < (rd l1_1 x10_2)) = false := decide_eq_false c31
            clear c31; have H' := Sd.mk H; clear H; obtain ⟨Ao35, co35, eo35⟩ := Kd.R_slice HO_8.out; subst eo35; have hnb36 := NB490_489.out; have hnc36 := NB489_490.out; obtain ⟨u37_0, u37_1, o37_0, o37_1⟩ := bc2 (w := wr) BK490.out
            have p495 : 0 ≤ (x10_2 : Int) := tB
            have q495 : x10_2 < (l1_1.length : Int) := tB
            obtain ⟨ad495, e495, hx495_0⟩ := Kd.at_int HR1_1.out x10_2 p495 q495; cases e495; replace hx495_0 := cU HB hx495_0; replace p495 := eq_true p495; replace q495 := eq_true q495
            have p496 : 0 ≤ (x10_2 : Int) := tB
            have q496 : x10_2 < (l1_1.length : Int) := tB
            obtain ⟨ad496, e496, hx496_0⟩ := Kd.at_int HR1_1.out x10_2 p496 q496
            obtain rfl : ad495 = ad496 := (by injection e496)
            replace hx496_0 := cU HB hx496_0; replace p496 := eq_true p496; replace q496 := eq_true q496
            have p497 : 0 ≤ (x10_2 : Int) := tB
            have q497 : x10_2 < (l1_1.length : Int) := tB
            obtain ⟨ad497, e497, hx497_0⟩ := Kd.at_int HR1_1.out x10_2 p497 q497
            obtain rfl : ad495 = ad497 := (by injection e497)
            replace hx497_0 := cU HB hx497_0; replace p497 := eq_true p497; replace q497 := eq_true q497
            have p498 : 0 ≤ (x10_2 : Int) := tB
            have q498 : x10_2 < (t492.length : Int) := tB
            obtain ⟨ad498, A498_0, c498_0, e498, hx498_0, hx498_1, hl498_0, hi498_0⟩ := at_T51 (Kd.R_reads' HO_8.out).2.2 x10_2 p498 q498; cases e498
            obtain ⟨ce498, hce498, hMe498, hcc498⟩ := Kd.R_get HO_8.out z51 x10_2 p498 (by first | exact q498 | exact tB | (have e_ := (Kd.R_reads' HO_8.out).1; omega))
            obtain ⟨ve498_0, rfl, ge498_0⟩ := k51_openM hMe498; have hv498_0 := hcc498 0 _ rfl
            rw [Nat.add_zero] at hv498_0
            replace hv498_0 := Option.some.inj (hv498_0.symm.trans hx498_0)
            rw [hv498_0] at ge498_0
            have HL498_0 := Sd.mk (show Kd.R (Kd.int .i64) 3 _ _ _ _ ((rd_T51 t492 x10_2).f0) from ge498_0)
            clear hv498_0 ge498_0; clear hcc498 hce498; have HR498_0 := Sd.mk hi498_0; have HC498_0 := Sd.mk hl498_0; clear hi498_0 hl498_0; replace p498 := eq_true p498; replace q498 := eq_true q498
            go_wp2
            repeat (go_quiet (fail); try go_wp2)
            go_roundg k2
            case measure => have := HJ5.out; have := HK2.out; omega
            case rel => exact ⟨(wrap64 (x9_2 - (wrap64 ((rd l1_1 x10_2) * ((rd_T51 t492 x10_2).f1))))), (wrap64 (x10_2 + 1)), tS, tS, H', ⟨by have := HJ5.out; have := HK2.out; omega⟩, ⟨by (with_reducible repeat (first | apply Kd.R_alloc | apply Kd.R_drewN | apply Kd.R_drew)); exact HO_8.out⟩, ⟨bkA BK489.out⟩, ⟨bkA BK490.out⟩, ⟨bBl HB.out⟩⟩
         ·rw [if_neg c26] at H
          exact absurd H (by simp)
        ·rw [if_neg c25] at H
         exact absurd H (by simp)
       ·rw [if_neg c24] at H
        have c24b0 : decide (x10_2 < (t492.length : Int)) = false := decide_eq_false c24
        clear c24; have H' := Sd.mk H; clear H; obtain ⟨Ao38, co38, eo38⟩ := Kd.R_slice HO_8.out; subst eo38
        go_wp2
        repeat (go_quiet (fail); try go_wp2)
        go_loopg [9, 11] k2 (fun kq v9 v11 w' => ∃ (x9_3 : Int) (x11_3 : Int), v9 = .int .i64 x9_3 ∧ v11 = .int .i64 x11_3 ∧ Sd (rf_Bound.l1 kq t492 x9_3 x11_3 l0_0 l0_1 l0_2 l0_3 a0_4 a0_5 a0_6 a1_0 l1_1 = some (r1, r2, r3)) ∧ Sd (kq ≤ k2) ∧ Sd (Kd.R k51 51 w' w.heap.size (fun _ => True) (.slice Ao38 t492.length co38) t492) ∧ Sd (w'.heap[gb489]? = some (.cells #[(.slice A0_0 l0_0.length c0_0), (.slice A0_1 l0_1.length c0_1), (.slice A0_2 l0_2.length c0_2), (.slice A0_3 l0_3.length c0_3), .int .i64 a0_4, .int .i64 a0_5, .int .i64 a0_6] 29 (0, 0))) ∧ Sd (w'.heap[gb490]? = some (.cells #[.int .i64 a1_0, (.slice A1_1 l1_1.length c1_1)] 32 (0, 0))) ∧ Sd (Below w.heap.size w w'))
        case atStart => exact ⟨(x9_2), (0), tS, tS, H', ⟨Nat.le_refl _⟩, ⟨by (with_reducible repeat (first | apply Kd.R_alloc | apply Kd.R_drewN | apply Kd.R_drew)); exact HO_8.out⟩, ⟨bkA BK489.out⟩, ⟨bkA BK490.out⟩, ⟨bBl HB.out⟩⟩
        case round =>
         clear H'; (try clear c1); (try clear c2); (try clear p2 p2); (try clear c3); (try clear c4); (try clear c4b0); (try clear c4b1); (try clear p4); (try clear q4); (try clear hx4); (try clear p6); (try clear c9); (try clear c14); (try clear c14b0); (try clear c15); (try clear c17); (try clear c17b0); (try clear c18); (try clear c20); (try clear c23); (try clear c24); (try clear c24b0); (try clear c25); (try clear c25b0); (try clear c26); (try clear c26b0); (try clear c27); (try clear c27b0); (try clear c29); (try clear c31); (try clear c31b0); (try clear c33); (try clear c36); (try clear u10_0 u10_1 u10_2 u10_3 u10_4 u10_5 u10_6); (try clear u12_0 u12_1 u12_2 u12_3 u12_4 u12_5 u12_6); (try clear u16_0 u16_1); (try clear u19_0 u19_1); (try clear u21_0 u21_1); (try clear u30_0 u30_1); (try clear u34_0 u34_1); (try clear u37_0 u37_1); (try clear o10_0 o10_1 o10_2 o10_3 o10_4 o10_5 o10_6); (try clear o12_0 o12_1 o12_2 o12_3 o12_4 o12_5 o12_6); (try clear o16_0 o16_1); (try clear o19_0 o19_1); (try clear o21_0 o21_1); (try clear o30_0 o30_1); (try clear o34_0 o34_1); (try clear o37_0 o37_1); (try clear hx495_0); (try clear hx496_0); (try clear hx497_0); (try clear hx498_0); (try clear hx498_1); (try clear p495); (try clear p496); (try clear p497); (try clear p498); (try clear q495); (try clear q496); (try clear q497); (try clear q498); obtain ⟨x9_3, x11_3, rfl, rfl, HA, HK3, HO_8, BK489, BK490, HB⟩ := hrel
         cases gk with
         | zero => exact absurd HA.out (by simp [rf_Bound.l1])
         | succ k3 =>
          have H := HA.out; clear HA
          simp only [rf_Bound.l1] at H
          by_cases c39 : x11_3 < (l0_1.length : Int)
          ·rw [if_pos c39] at H
           have c39b0 : decide (x11_3 < (l0_1.length : Int)) = true := decide_eq_true c39
           clear c39
           by_cases c40 : 0 ≤ x11_3
           ·rw [if_pos c40] at H
            have c40b0 : decide (0 ≤ x11_3) = true := decide_eq_true c40
            clear c40; have H' := Sd.mk H; clear H; have hnb41 := NB489_490.out; have hnc41 := NB490_489.out; obtain ⟨u42_0, u42_1, u42_2, u42_3, u42_4, u42_5, u42_6, o42_0, o42_1, o42_2, o42_3, o42_4, o42_5, o42_6⟩ := bc7 (w := wr) BK489.out
            have p500 : 0 ≤ (x11_3 : Int) := tB
            have q500 : x11_3 < (l0_1.length : Int) := tB
            obtain ⟨ad500, A500_6, c500_6, e500, hx500_0, hx500_1, hx500_2, hx500_3, hx500_4, hx500_5, hx500_6, hl500_6, hi500_6⟩ := at_T63 HR0_1.out x11_3 p500 q500; cases e500; replace hx500_0 := cU HB hx500_0; replace hx500_1 := cU HB hx500_1; replace hx500_2 := cU HB hx500_2; replace hx500_3 := cU HB hx500_3; replace hx500_4 := cU HB hx500_4; replace hx500_5 := cU HB hx500_5; replace hx500_6 := cU HB hx500_6; have HR500_6 := Sd.mk hi500_6; have HC500_6 := Sd.mk hl500_6; clear hi500_6 hl500_6; replace p500 := eq_true p500; replace q500 := eq_true q500
            go_wp2_with (first | ((with_reducible refine gate_dst (N := 12) rfl ?_); (try (refine gate_guard (by rfl) ?_; dsimp only)); refine box_event ?hg (N := 12) ?hd (cs := #[.string (⟨#[]⟩ : ByteArray), .int .i64 0, .int .i64 0, .int .i64 0, .int .i64 0, .int .i64 0, .slice none 0 0]) (t := 63) ?hr ?_; (case hd => rfl); (case hg => rfl); (case hr => exact tG); intro gb501 hg w43 hbox hb; replace HO_8 := Sd.mk (Kd.R_below (by (with_reducible repeat (first | apply Kd.R_alloc | apply Kd.R_drewN | apply Kd.R_drew)); exact HO_8.out) hb); have BK501 := Sd.mk (hbox); have GW501 := Sd.mk (bSz hg (bBl HB.out)); have GE501 := Sd.mk (bSz hg (bBl HB.out)); replace HB := Sd.mk (below_step (bBl HB.out) hb); have NB489_501 := Sd.mk (bNl hg (bkA BK489.out)); have NB501_489 := Sd.mk (bNg hg (bkA BK489.out)); replace BK489 := Sd.mk (blk_below (bkA BK489.out) hb); have NB490_501 := Sd.mk (bNl hg (bkA BK490.out)); have NB501_490 := Sd.mk (bNg hg (bkA BK490.out)); replace BK490 := Sd.mk (blk_below (bkA BK490.out) hb); clear hb hbox hg; have hnb44 := NB501_489.out; have hnc44 := NB489_501.out; have hnb45 := NB501_490.out; have hnc45 := NB490_501.out; obtain ⟨u46_0, u46_1, u46_2, u46_3, u46_4, u46_5, u46_6, o46_0, o46_1, o46_2, o46_3, o46_4, o46_5, o46_6⟩ := bc7 (w := w43) BK501.out; obtain ⟨u47_0, u47_1, o47_0, o47_1⟩ := bc2 (w := w43) BK490.out))
            repeat (go_quiet (first | ((with_reducible refine gate_dst (N := 12) rfl ?_); (try (refine gate_guard (by rfl) ?_; dsimp only)); refine box_event ?hg (N := 12) ?hd (cs := #[.string (⟨#[]⟩ : ByteArray), .int .i64 0, .int .i64 0, .int .i64 0, .int .i64 0, .int .i64 0, .slice none 0 0]) (t := 63) ?hr ?_; (case hd => rfl); (case hg => rfl); (case hr => exact tG); intro gb501 hg w43 hbox hb; replace HO_8 := Sd.mk (Kd.R_below (by (with_reducible repeat (first | apply Kd.R_alloc | apply Kd.R_drewN | apply Kd.R_drew)); exact HO_8.out) hb); have BK501 := Sd.mk (hbox); have GW501 := Sd.mk (bSz hg (bBl HB.out)); have GE501 := Sd.mk (bSz hg (bBl HB.out)); replace HB := Sd.mk (below_step (bBl HB.out) hb); have NB489_501 := Sd.mk (bNl hg (bkA BK489.out)); have NB501_489 := Sd.mk (bNg hg (bkA BK489.out)); replace BK489 := Sd.mk (blk_below (bkA BK489.out) hb); have NB490_501 := Sd.mk (bNl hg (bkA BK490.out)); have NB501_490 := Sd.mk (bNg hg (bkA BK490.out)); replace BK490 := Sd.mk (blk_below (bkA BK490.out) hb); clear hb hbox hg; have hnb44 := NB501_489.out; have hnc44 := NB489_501.out; have hnb45 := NB501_490.out; have hnc45 := NB490_501.out; obtain ⟨u46_0, u46_1, u46_2, u46_3, u46_4, u46_5, u46_6, o46_0, o46_1, o46_2, o46_3, o46_4, o46_5, o46_6⟩ := bc7 (w := w43) BK501.out; obtain ⟨u47_0, u47_1, o47_0, o47_1⟩ := bc2 (w := w43) BK490.out)); try go_wp2_with (first | ((with_reducible refine gate_dst (N := 12) rfl ?_); (try (refine gate_guard (by rfl) ?_; dsimp only)); refine box_event ?hg (N := 12) ?hd (cs := #[.string (⟨#[]⟩ : ByteArray), .int .i64 0, .int .i64 0, .int .i64 0, .int .i64 0, .int .i64 0, .slice none 0 0]) (t := 63) ?hr ?_; (case hd => rfl); (case hg => rfl); (case hr => exact tG); intro gb501 hg w43 hbox hb; replace HO_8 := Sd.mk (Kd.R_below (by (with_reducible repeat (first | apply Kd.R_alloc | apply Kd.R_drewN | apply Kd.R_drew)); exact HO_8.out) hb); have BK501 := Sd.mk (hbox); have GW501 := Sd.mk (bSz hg (bBl HB.out)); have GE501 := Sd.mk (bSz hg (bBl HB.out)); replace HB := Sd.mk (below_step (bBl HB.out) hb); have NB489_501 := Sd.mk (bNl hg (bkA BK489.out)); have NB501_489 := Sd.mk (bNg hg (bkA BK489.out)); replace BK489 := Sd.mk (blk_below (bkA BK489.out) hb); have NB490_501 := Sd.mk (bNl hg (bkA BK490.out)); have NB501_490 := Sd.mk (bNg hg (bkA BK490.out)); replace BK490 := Sd.mk (blk_below (bkA BK490.out) hb); clear hb hbox hg; have hnb44 := NB501_489.out; have hnc44 := NB489_501.out; have hnb45 := NB501_490.out; have hnc45 := NB490_501.out; obtain ⟨u46_0, u46_1, u46_2, u46_3, u46_4, u46_5, u46_6, o46_0, o46_1, o46_2, o46_3, o46_4, o46_5, o46_6⟩ := bc7 (w := w43) BK501.out; obtain ⟨u47_0, u47_1, o47_0, o47_1⟩ := bc2 (w := w43) BK490.out)))
            go_loopg [13, 14] k3 (fun kq v13 v14 w' => ∃ (x13_4 : Int) (x14_4 : Int), v13 = .int .i64 x13_4 ∧ v14 = .int .i64 x14_4 ∧ Sd (rf_Bound.l2 kq t492 x9_3 x11_3 x13_4 x14_4 l0_0 l0_1 l0_2 l0_3 a0_4 a0_5 a0_6 a1_0 l1_1 ((rd_T63 l0_1 x11_3).f0) ((rd_T63 l0_1 x11_3).f1) ((rd_T63 l0_1 x11_3).f2) ((rd_T63 l0_1 x11_3).f3) ((rd_T63 l0_1 x11_3).f4) ((rd_T63 l0_1 x11_3).f5) ((rd_T63 l0_1 x11_3).f6) = some (r1, r2, r3)) ∧ Sd (kq ≤ k3) ∧ Sd (Kd.R k51 51 w' w.heap.size (fun _ => True) (.slice Ao38 t492.length co38) t492) ∧ Sd (w'.heap[gb489]? = some (.cells #[(.slice A0_0 l0_0.length c0_0), (.slice (some ad500) l0_1.length c0_1), (.slice A0_2 l0_2.length c0_2), (.slice A0_3 l0_3.length c0_3), .int .i64 a0_4, .int .i64 a0_5, .int .i64 a0_6] 29 (0, 0))) ∧ Sd (w'.heap[gb490]? = some (.cells #[.int .i64 a1_0, (.slice A1_1 l1_1.length c1_1)] 32 (0, 0))) ∧ Sd (w'.heap[gb501]? = some (.cells #[.string ((rd_T63 l0_1 x11_3).f0), .int .i64 ((rd_T63 l0_1 x11_3).f1), .int .i64 ((rd_T63 l0_1 x11_3).f2), .int .i64 ((rd_T63 l0_1 x11_3).f3), .int .i64 ((rd_T63 l0_1 x11_3).f4), .int .i64 ((rd_T63 l0_1 x11_3).f5), (.slice A500_6 ((rd_T63 l0_1 x11_3).f6).length c500_6)] 63 (0, 0))) ∧ Sd (Below w.heap.size w w'))
            case atStart => exact ⟨(wrap64 (a1_0 * ((rd_T63 l0_1 x11_3).f1))), (0), tS, tS, H', ⟨Nat.le_refl _⟩, ⟨by (with_reducible repeat (first | apply Kd.R_alloc | apply Kd.R_drewN | apply Kd.R_drew)); exact Kd.R_mono (Kd.R_far (p := ⟨gb501, 6, none⟩) (Kd.R_far (p := ⟨gb501, 5, none⟩) (Kd.R_far (p := ⟨gb501, 4, none⟩) (Kd.R_far (p := ⟨gb501, 3, none⟩) (Kd.R_far (p := ⟨gb501, 2, none⟩) (Kd.R_far (p := ⟨gb501, 1, none⟩) (Kd.R_far (p := ⟨gb501, 0, none⟩) (Kd.R_types HO_8.out BK501.out (by decide)) (fun _ hk => hk.2) (.string ((rd_T63 l0_1 x11_3).f0))) (fun _ hk => hk.2) (.int .i64 ((rd_T63 l0_1 x11_3).f1))) (fun _ hk => hk.2) (.int .i64 ((rd_T63 l0_1 x11_3).f2))) (fun _ hk => hk.2) (.int .i64 ((rd_T63 l0_1 x11_3).f3))) (fun _ hk => hk.2) (.int .i64 ((rd_T63 l0_1 x11_3).f4))) (fun _ hk => hk.2) (.int .i64 ((rd_T63 l0_1 x11_3).f5))) (fun _ hk => hk.2) (.slice A500_6 ((rd_T63 l0_1 x11_3).f6).length c500_6)) (fun _ hk => trivial)⟩, ⟨by (with_reducible repeat (first | refine blk_drewN ?_ _ | refine blk_drew ?_ | refine blk_alloc ?_ _)); refine blk_far ?_ NB489_501.out _; (with_reducible repeat (first | refine blk_drewN ?_ _ | refine blk_drew ?_ | refine blk_alloc ?_ _)); refine blk_far ?_ NB489_501.out _; (with_reducible repeat (first | refine blk_drewN ?_ _ | refine blk_drew ?_ | refine blk_alloc ?_ _)); refine blk_far ?_ NB489_501.out _; (with_reducible repeat (first | refine blk_drewN ?_ _ | refine blk_drew ?_ | refine blk_alloc ?_ _)); refine blk_far ?_ NB489_501.out _; (with_reducible repeat (first | refine blk_drewN ?_ _ | refine blk_drew ?_ | refine blk_alloc ?_ _)); refine blk_far ?_ NB489_501.out _; (with_reducible repeat (first | refine blk_drewN ?_ _ | refine blk_drew ?_ | refine blk_alloc ?_ _)); refine blk_far ?_ NB489_501.out _; (with_reducible repeat (first | refine blk_drewN ?_ _ | refine blk_drew ?_ | refine blk_alloc ?_ _)); refine blk_far ?_ NB489_501.out _; (with_reducible repeat (first | refine blk_drewN ?_ _ | refine blk_drew ?_ | refine blk_alloc ?_ _)); exact BK489.out⟩, ⟨by (with_reducible repeat (first | refine blk_drewN ?_ _ | refine blk_drew ?_ | refine blk_alloc ?_ _)); refine blk_far ?_ NB490_501.out _; (with_reducible repeat (first | refine blk_drewN ?_ _ | refine blk_drew ?_ | refine blk_alloc ?_ _)); refine blk_far ?_ NB490_501.out _; (with_reducible repeat (first | refine blk_drewN ?_ _ | refine blk_drew ?_ | refine blk_alloc ?_ _)); refine blk_far ?_ NB490_501.out _; (with_reducible repeat (first | refine blk_drewN ?_ _ | refine blk_drew ?_ | refine blk_alloc ?_ _)); refine blk_far ?_ NB490_501.out _; (with_reducible repeat (first | refine blk_drewN ?_ _ | refine blk_drew ?_ | refine blk_alloc ?_ _)); refine blk_far ?_ NB490_501.out _; (with_reducible repeat (first | refine blk_drewN ?_ _ | refine blk_drew ?_ | refine blk_alloc ?_ _)); refine blk_far ?_ NB490_501.out _; (with_reducible repeat (first | refine blk_drewN ?_ _ | refine blk_drew ?_ | refine blk_alloc ?_ _)); refine blk_far ?_ NB490_501.out _; (with_reducible repeat (first | refine blk_drewN ?_ _ | refine blk_drew ?_ | refine blk_alloc ?_ _)); exact BK490.out⟩, ⟨by (with_reducible repeat (first | refine blk_drewN ?_ _ | refine blk_drew ?_ | refine blk_alloc ?_ _)); refine blk_put (cs := #[.string ((rd_T63 l0_1 x11_3).f0), .int .i64 ((rd_T63 l0_1 x11_3).f1), .int .i64 ((rd_T63 l0_1 x11_3).f2), .int .i64 ((rd_T63 l0_1 x11_3).f3), .int .i64 ((rd_T63 l0_1 x11_3).f4), .int .i64 ((rd_T63 l0_1 x11_3).f5), .slice none 0 0]) ?_ 6 _ rfl; (with_reducible repeat (first | refine blk_drewN ?_ _ | refine blk_drew ?_ | refine blk_alloc ?_ _)); refine blk_put (cs := #[.string ((rd_T63 l0_1 x11_3).f0), .int .i64 ((rd_T63 l0_1 x11_3).f1), .int .i64 ((rd_T63 l0_1 x11_3).f2), .int .i64 ((rd_T63 l0_1 x11_3).f3), .int .i64 ((rd_T63 l0_1 x11_3).f4), .int .i64 0, .slice none 0 0]) ?_ 5 _ rfl; (with_reducible repeat (first | refine blk_drewN ?_ _ | refine blk_drew ?_ | refine blk_alloc ?_ _)); refine blk_put (cs := #[.string ((rd_T63 l0_1 x11_3).f0), .int .i64 ((rd_T63 l0_1 x11_3).f1), .int .i64 ((rd_T63 l0_1 x11_3).f2), .int .i64 ((rd_T63 l0_1 x11_3).f3), .int .i64 0, .int .i64 0, .slice none 0 0]) ?_ 4 _ rfl; (with_reducible repeat (first | refine blk_drewN ?_ _ | refine blk_drew ?_ | refine blk_alloc ?_ _)); refine blk_put (cs := #[.string ((rd_T63 l0_1 x11_3).f0), .int .i64 ((rd_T63 l0_1 x11_3).f1), .int .i64 ((rd_T63 l0_1 x11_3).f2), .int .i64 0, .int .i64 0, .int .i64 0, .slice none 0 0]) ?_ 3 _ rfl; (with_reducible repeat (first | refine blk_drewN ?_ _ | refine blk_drew ?_ | refine blk_alloc ?_ _)); refine blk_put (cs := #[.string ((rd_T63 l0_1 x11_3).f0), .int .i64 ((rd_T63 l0_1 x11_3).f1), .int .i64 0, .int .i64 0, .int .i64 0, .int .i64 0, .slice none 0 0]) ?_ 2 _ rfl; (with_reducible repeat (first | refine blk_drewN ?_ _ | refine blk_drew ?_ | refine blk_alloc ?_ _)); refine blk_put (cs := #[.string ((rd_T63 l0_1 x11_3).f0), .int .i64 0, .int .i64 0, .int .i64 0, .int .i64 0, .int .i64 0, .slice none 0 0]) ?_ 1 _ rfl; (with_reducible repeat (first | refine blk_drewN ?_ _ | refine blk_drew ?_ | refine blk_alloc ?_ _)); refine blk_put (cs := #[.string (⟨#[]⟩ : ByteArray), .int .i64 0, .int .i64 0, .int .i64 0, .int .i64 0, .int .i64 0, .slice none 0 0]) ?_ 0 _ rfl; (with_reducible repeat (first | refine blk_drewN ?_ _ | refine blk_drew ?_ | refine blk_alloc ?_ _)); exact BK501.out⟩, ⟨bBl HB.out⟩⟩
            case round =>
             clear H'; (try clear c1); (try clear c2); (try clear p2 p2); (try clear c3); (try clear c4); (try clear c4b0); (try clear c4b1); (try clear p4 p4); (try clear q4 q4); (try clear hx4); (try clear c5); (try clear p5); (try clear q5); (try clear hx5); (try clear p6 p6); (try clear c9); (try clear c14); (try clear c14b0); (try clear c15); (try clear c17); (try clear c17b0); (try clear c18); (try clear c20); (try clear c23); (try clear c24); (try clear c24b0); (try clear c25); (try clear c25b0); (try clear c26); (try clear c26b0); (try clear c27); (try clear c27b0); (try clear c29); (try clear c31); (try clear c31b0); (try clear c33); (try clear c36); (try clear c39); (try clear c39b0); (try clear c40); (try clear c40b0); (try clear c41); (try clear c44); (try clear c45); (try clear u10_0 u10_1 u10_2 u10_3 u10_4 u10_5 u10_6); (try clear u12_0 u12_1 u12_2 u12_3 u12_4 u12_5 u12_6); (try clear u16_0 u16_1); (try clear u19_0 u19_1); (try clear u21_0 u21_1); (try clear u30_0 u30_1); (try clear u34_0 u34_1); (try clear u37_0 u37_1); (try clear u42_0 u42_1 u42_2 u42_3 u42_4 u42_5 u42_6); (try clear u46_0 u46_1 u46_2 u46_3 u46_4 u46_5 u46_6); (try clear u47_0 u47_1); (try clear o10_0 o10_1 o10_2 o10_3 o10_4 o10_5 o10_6); (try clear o12_0 o12_1 o12_2 o12_3 o12_4 o12_5 o12_6); (try clear o16_0 o16_1); (try clear o19_0 o19_1); (try clear o21_0 o21_1); (try clear o30_0 o30_1); (try clear o34_0 o34_1); (try clear o37_0 o37_1); (try clear o42_0 o42_1 o42_2 o42_3 o42_4 o42_5 o42_6); (try clear o46_0 o46_1 o46_2 o46_3 o46_4 o46_5 o46_6); (try clear o47_0 o47_1); (try clear hx495_0); (try clear hx496_0); (try clear hx497_0); (try clear hx498_0); (try clear hx498_1); (try clear hx500_0); (try clear hx500_1); (try clear hx500_2); (try clear hx500_3); (try clear hx500_4); (try clear hx500_5); (try clear hx500_6); (try clear p495); (try clear p496); (try clear p497); (try clear p498); (try clear p500); (try clear q495); (try clear q496); (try clear q497); (try clear q498); (try clear q500); obtain ⟨x13_4, x14_4, rfl, rfl, HA, HK4, HO_8, BK489, BK490, BK501, HB⟩ := hrel
             cases gk with
             | zero => exact absurd HA.out (by simp [rf_Bound.l2])
             | succ k4 =>
              have H := HA.out; clear HA
              simp only [rf_Bound.l2] at H
              by_cases c48 : x14_4 < (t492.length : Int)
              ·rw [if_pos c48] at H
               have c48b0 : decide (x14_4 < (t492.length : Int)) = true := decide_eq_true c48
               clear c48
               by_cases c49 : 0 ≤ x14_4
               ·rw [if_pos c49] at H
                have c49b0 : decide (0 ≤ x14_4) = true := decide_eq_true c49
                clear c49
                by_cases c50 : x14_4 < (l1_1.length : Int)
                ·rw [if_pos c50] at H
                 have c50b0 : decide (x14_4 < (l1_1.length : Int)) = true := decide_eq_true c50
                 clear c50
                 by_cases c51 : 0 ≤ x11_3
                 ·rw [if_pos c51] at H
                  have c51b0 : decide (0 ≤ x11_3) = true := decide_eq_true c51
                  clear c51
                  by_cases c52 : x11_3 < (((rd_T51 t492 x14_4).f0).length : Int)
                  ·rw [if_pos c52] at H
                   have c52b0 : decide (x11_3 < (((rd_T51 t492 x14_4).f0).length : Int)) = true := decide_eq_true c52
                   clear c52; have H' := Sd.mk H; clear H; have hnb53 := NB490_489.out; have hnc53 := NB489_490.out; have hnb54 := NB490_501.out; have hnc54 := NB501_490.out; obtain ⟨u55_0, u55_1, o55_0, o55_1⟩ := bc2 (w := wr) BK490.out
                   have p502 : 0 ≤ (x14_4 : Int) := tB
                   have q502 : x14_4 < (l1_1.length : Int) := tB
                   obtain ⟨ad502, e502, hx502_0⟩ := Kd.at_int HR1_1.out x14_4 p502 q502; cases e502; replace hx502_0 := cU HB hx502_0; replace p502 := eq_true p502; replace q502 := eq_true q502
                   have p503 : 0 ≤ (x14_4 : Int) := tB
                   have q503 : x14_4 < (t492.length : Int) := tB
                   obtain ⟨ad503, A503_0, c503_0, e503, hx503_0, hx503_1, hl503_0, hi503_0⟩ := at_T51 (Kd.R_reads' HO_8.out).2.2 x14_4 p503 q503; cases e503
                   obtain ⟨ce503, hce503, hMe503, hcc503⟩ := Kd.R_get HO_8.out z51 x14_4 p503 (by first | exact q503 | exact tB | (have e_ := (Kd.R_reads' HO_8.out).1; omega))
                   obtain ⟨ve503_0, rfl, ge503_0⟩ := k51_openM hMe503; have hv503_0 := hcc503 0 _ rfl
                   rw [Nat.add_zero] at hv503_0
                   replace hv503_0 := Option.some.inj (hv503_0.symm.trans hx503_0)
                   rw [hv503_0] at ge503_0
                   have HL503_0 := Sd.mk (show Kd.R (Kd.int .i64) 3 _ _ _ _ ((rd_T51 t492 x14_4).f0) from ge503_0)
                   clear hv503_0 ge503_0; clear hcc503 hce503; have HR503_0 := Sd.mk hi503_0; have HC503_0 := Sd.mk hl503_0; clear hi503_0 hl503_0; replace p503 := eq_true p503; replace q503 := eq_true q503
                   have p504 : 0 ≤ (x11_3 : Int) := tB
                   have q504 : x11_3 < (((rd_T51 t492 x14_4).f0).length : Int) := tB
                   obtain ⟨ad504, e504, hx504_0⟩ := Kd.at_int (by repeat (first | (with_reducible exact HR503_0.out) | (with_reducible refine Kd.C_alloc ?_ _) | (with_reducible refine Kd.C_drewN ?_ _) | (with_reducible refine Kd.C_drew ?_) | exact HR503_0.out)) x11_3 p504 q504
                   cases e504; replace p504 := eq_true p504; replace q504 := eq_true q504
                   go_wp2
                   repeat (go_quiet (fail); try go_wp2)
                   go_roundg k4
                   case measure => have := HJ5.out; have := HK2.out; have := HK3.out; have := HK4.out; omega
                   case rel => exact ⟨(wrap64 (x13_4 + (wrap64 ((rd l1_1 x14_4) * (rd ((rd_T51 t492 x14_4).f0) x11_3))))), (wrap64 (x14_4 + 1)), tS, tS, H', ⟨by have := HJ5.out; have := HK2.out; have := HK3.out; have := HK4.out; omega⟩, ⟨by (with_reducible repeat (first | apply Kd.R_alloc | apply Kd.R_drewN | apply Kd.R_drew)); exact HO_8.out⟩, ⟨bkA BK489.out⟩, ⟨bkA BK490.out⟩, ⟨bkA BK501.out⟩, ⟨bBl HB.out⟩⟩
                  ·rw [if_neg c52] at H
                   exact absurd H (by simp)
                 ·rw [if_neg c51] at H
                  exact absurd H (by simp)
                ·rw [if_neg c50] at H
                 exact absurd H (by simp)
               ·rw [if_neg c49] at H
                exact absurd H (by simp)
              ·rw [if_neg c48] at H
               have c48b0 : decide (x14_4 < (t492.length : Int)) = false := decide_eq_false c48
               clear c48
               by_cases c56 : x13_4 ≥ 0
               ·rw [if_pos c56] at H
                have c56b0 : decide (0 ≤ x13_4) = true := decide_eq_true c56
                clear c56; have H' := Sd.mk H; clear H; have hnb57 := NB501_489.out; have hnc57 := NB489_501.out; have hnb58 := NB501_490.out; have hnc58 := NB490_501.out; obtain ⟨u59_0, u59_1, u59_2, u59_3, u59_4, u59_5, u59_6, o59_0, o59_1, o59_2, o59_3, o59_4, o59_5, o59_6⟩ := bc7 (w := wr) BK501.out
                go_wp2
                repeat (go_quiet (fail); try go_wp2)
                go_roundg k4
                case measure => have := HJ5.out; have := HK2.out; have := HK3.out; have := HK4.out; omega
                case rel => exact ⟨(wrap64 (x9_3 + (wrap64 (x13_4 * ((rd_T63 l0_1 x11_3).f3))))), (wrap64 (x11_3 + 1)), tS, tS, H', ⟨by have := HJ5.out; have := HK2.out; have := HK3.out; have := HK4.out; omega⟩, ⟨by (with_reducible repeat (first | apply Kd.R_alloc | apply Kd.R_drewN | apply Kd.R_drew)); exact HO_8.out⟩, ⟨bkA BK489.out⟩, ⟨bkA BK490.out⟩, ⟨bBl HB.out⟩⟩
               ·rw [if_neg c56] at H
                have c56b0 : decide (0 ≤ x13_4) = false := decide_eq_false c56
                clear c56
                by_cases c60 : ((rd_T63 l0_1 x11_3).f5) = 0
                ·rw [if_pos c60] at H
                 exact absurd H (by simp)
                ·rw [if_neg c60] at H
                 have c60b0 : (((rd_T63 l0_1 x11_3).f5) == 0) = false := beq_eq_false_iff_ne.mpr c60
                 have c60b1 : (((rd_T63 l0_1 x11_3).f5) != 0) = true := bne_iff_ne.mpr c60
                 have H' := Sd.mk H; clear H; have hnb61 := NB501_489.out; have hnc61 := NB489_501.out; have hnb62 := NB501_490.out; have hnc62 := NB490_501.out; obtain ⟨u63_0, u63_1, u63_2, u63_3, u63_4, u63_5, u63_6, o63_0, o63_1, o63_2, o63_3, o63_4, o63_5, o63_6⟩ := bc7 (w := wr) BK501.out
                 go_wp2
                 repeat (go_quiet (fail); try go_wp2)
                 go_roundg k4
                 case measure => have := HJ5.out; have := HK2.out; have := HK3.out; have := HK4.out; omega
                 case rel => exact ⟨(wrap64 (x9_3 + (wrap64 (x13_4 * (wrap64 (((rd_T63 l0_1 x11_3).f3) + (wrap64 ((wrap64 (Int.tdiv (wrap64 (((rd_T63 l0_1 x11_3).f4) - ((rd_T63 l0_1 x11_3).f3))) ((rd_T63 l0_1 x11_3).f5))) * ((rd_T63 l0_1 x11_3).f5))))))))), (wrap64 (x11_3 + 1)), tS, tS, H', ⟨by have := HJ5.out; have := HK2.out; have := HK3.out; have := HK4.out; omega⟩, ⟨by (with_reducible repeat (first | apply Kd.R_alloc | apply Kd.R_drewN | apply Kd.R_drew)); exact HO_8.out⟩, ⟨bkA BK489.out⟩, ⟨bkA BK490.out⟩, ⟨bBl HB.out⟩⟩
           ·rw [if_neg c40] at H
            exact absurd H (by simp)
          ·rw [if_neg c39] at H
           have c39b0 : decide (x11_3 < (l0_1.length : Int)) = false := decide_eq_false c39
           clear c39
           by_cases c64 : a1_0 = 0
           ·rw [if_pos c64] at H
            have c64b0 : (a1_0 == 0) = true := beq_iff_eq.mpr c64
            have c64b1 : (a1_0 != 0) = false := bne_eq_false_iff_eq.mpr c64
            clear c64
            simp only [Option.some.injEq, Prod.mk.injEq] at H
            obtain ⟨rfl, rfl, rfl⟩ := H; have hnb65 := NB489_490.out; have hnc65 := NB490_489.out; obtain ⟨u66_0, u66_1, u66_2, u66_3, u66_4, u66_5, u66_6, o66_0, o66_1, o66_2, o66_3, o66_4, o66_5, o66_6⟩ := bc7 (w := wr) BK489.out; obtain ⟨u67_0, u67_1, o67_0, o67_1⟩ := bc2 (w := wr) BK490.out
            go_wp2
            repeat (go_quiet (fail); try go_wp2)
            go_ret3
            exact ⟨tE, bBl HB.out⟩
           ·rw [if_neg c64] at H
            have c64b0 : (a1_0 == 0) = false := beq_eq_false_iff_ne.mpr c64
            have c64b1 : (a1_0 != 0) = true := bne_iff_ne.mpr c64
            replace H := Option.bind_eq_some_iff.mp H; obtain ⟨t499, A680, H⟩ := H
            try dsimp only at H
            have A68 := Sd.mk A680; clear A680
            simp only [Option.some.injEq, Prod.mk.injEq] at H
            obtain ⟨rfl, rfl, rfl⟩ := H; have hnb69 := NB489_490.out; have hnc69 := NB490_489.out; obtain ⟨u70_0, u70_1, u70_2, u70_3, u70_4, u70_5, u70_6, o70_0, o70_1, o70_2, o70_3, o70_4, o70_5, o70_6⟩ := bc7 (w := wr) BK489.out; obtain ⟨u71_0, u71_1, o71_0, o71_1⟩ := bc2 (w := wr) BK490.out
            go_wp2_with (first | (go_at_call 62; (with_reducible refine (rf_ceiling.calls x9_3 a1_0 t499 _ A68.out).mono ?_); rintro e w' ⟨rfl, ⟨nd, rfl⟩⟩; (try exact tD)))
            repeat (go_quiet (first | (go_at_call 62; (with_reducible refine (rf_ceiling.calls x9_3 a1_0 t499 _ A68.out).mono ?_); rintro e w' ⟨rfl, ⟨nd, rfl⟩⟩; (try exact tD))); try go_wp2_with (first | (go_at_call 62; (with_reducible refine (rf_ceiling.calls x9_3 a1_0 t499 _ A68.out).mono ?_); rintro e w' ⟨rfl, ⟨nd, rfl⟩⟩; (try exact tD))))
            go_ret3
            exact ⟨tE, bBl HB.out⟩
 ·rw [if_neg c4] at H
  have c4b0 : (t491 == 0) = false := beq_eq_false_iff_ne.mpr c4
  have c4b1 : (t491 != 0) = true := bne_iff_ne.mpr c4
  simp only [Option.some.injEq, Prod.mk.injEq] at H
  obtain ⟨rfl, rfl, rfl⟩ := H
  go_enter Try.func31, Try.ntmps31
  go_wp2_with (first | ((with_reducible refine gate_dst (N := 2) rfl ?_); (try (refine gate_guard (by rfl) ?_; dsimp only)); refine box_event ?hg (N := 2) ?hd (cs := #[.slice A0_0 l0_0.length c0_0, .slice A0_1 l0_1.length c0_1, .slice A0_2 l0_2.length c0_2, .slice A0_3 l0_3.length c0_3, .int .i64 a0_4, .int .i64 a0_5, .int .i64 a0_6]) (t := 29) ?hr ?_; (case hd => rfl); (case hg => rfl); (case hr => exact tG); intro gb489 hg w72 hbox hb; have BK489 := Sd.mk (hbox); have GW489 := Sd.mk (bSz hg (bBl HB.out)); have GE489 := Sd.mk (bSz hg (bBl HB.out)); replace HB := Sd.mk (below_step (bBl HB.out) hb); clear hb hbox hg) | ((with_reducible refine gate_dst (N := 3) rfl ?_); (try (refine gate_guard (by rfl) ?_; dsimp only)); refine box_event ?hg (N := 3) ?hd (cs := #[.int .i64 a1_0, .slice A1_1 l1_1.length c1_1]) (t := 32) ?hr ?_; (case hd => rfl); (case hg => rfl); (case hr => exact tG); intro gb490 hg w73 hbox hb; have BK490 := Sd.mk (hbox); have GW490 := Sd.mk (bSz hg (bBl HB.out)); have GE490 := Sd.mk (bSz hg (bBl HB.out)); replace HB := Sd.mk (below_step (bBl HB.out) hb); have NB489_490 := Sd.mk (bNl hg (bkA BK489.out)); have NB490_489 := Sd.mk (bNg hg (bkA BK489.out)); replace BK489 := Sd.mk (blk_below (bkA BK489.out) hb); clear hb hbox hg; have hnb74 := NB489_490.out; have hnc74 := NB490_489.out; obtain ⟨u75_0, u75_1, u75_2, u75_3, u75_4, u75_5, u75_6, o75_0, o75_1, o75_2, o75_3, o75_4, o75_5, o75_6⟩ := bc7 (w := w73) BK489.out) | (go_at_call 27; (with_reducible refine (rf_Check.calls k _ _ l0_0 _ _ l0_1 _ _ l0_2 _ _ l0_3 a0_4 a0_5 a0_6 t491 _ (cS (Kd.C_below HR0_0.out HB.out)) HC0_0.out (cS (Kd.C_below HR0_1.out HB.out)) HC0_1.out (cS (Kd.C_below HR0_2.out HB.out)) HC0_2.out (cS (Kd.C_below HR0_3.out HB.out)) HC0_3.out A3.out).mono ?_); rintro e w76 ⟨rfl, hb⟩; replace BK489 := Sd.mk (blk_below (bkA BK489.out) hb); replace BK490 := Sd.mk (blk_below (bkA BK490.out) hb); replace HB := Sd.mk (below_step (bBl HB.out) hb); (try clear hb); (try clear hb2); (try clear hk); (try clear hi)))
  repeat (go_quiet (first | ((with_reducible refine gate_dst (N := 2) rfl ?_); (try (refine gate_guard (by rfl) ?_; dsimp only)); refine box_event ?hg (N := 2) ?hd (cs := #[.slice A0_0 l0_0.length c0_0, .slice A0_1 l0_1.length c0_1, .slice A0_2 l0_2.length c0_2, .slice A0_3 l0_3.length c0_3, .int .i64 a0_4, .int .i64 a0_5, .int .i64 a0_6]) (t := 29) ?hr ?_; (case hd => rfl); (case hg => rfl); (case hr => exact tG); intro gb489 hg w72 hbox hb; have BK489 := Sd.mk (hbox); have GW489 := Sd.mk (bSz hg (bBl HB.out)); have GE489 := Sd.mk (bSz hg (bBl HB.out)); replace HB := Sd.mk (below_step (bBl HB.out) hb); clear hb hbox hg) | ((with_reducible refine gate_dst (N := 3) rfl ?_); (try (refine gate_guard (by rfl) ?_; dsimp only)); refine box_event ?hg (N := 3) ?hd (cs := #[.int .i64 a1_0, .slice A1_1 l1_1.length c1_1]) (t := 32) ?hr ?_; (case hd => rfl); (case hg => rfl); (case hr => exact tG); intro gb490 hg w73 hbox hb; have BK490 := Sd.mk (hbox); have GW490 := Sd.mk (bSz hg (bBl HB.out)); have GE490 := Sd.mk (bSz hg (bBl HB.out)); replace HB := Sd.mk (below_step (bBl HB.out) hb); have NB489_490 := Sd.mk (bNl hg (bkA BK489.out)); have NB490_489 := Sd.mk (bNg hg (bkA BK489.out)); replace BK489 := Sd.mk (blk_below (bkA BK489.out) hb); clear hb hbox hg; have hnb74 := NB489_490.out; have hnc74 := NB490_489.out; obtain ⟨u75_0, u75_1, u75_2, u75_3, u75_4, u75_5, u75_6, o75_0, o75_1, o75_2, o75_3, o75_4, o75_5, o75_6⟩ := bc7 (w := w73) BK489.out) | (go_at_call 27; (with_reducible refine (rf_Check.calls k _ _ l0_0 _ _ l0_1 _ _ l0_2 _ _ l0_3 a0_4 a0_5 a0_6 t491 _ (cS (Kd.C_below HR0_0.out HB.out)) HC0_0.out (cS (Kd.C_below HR0_1.out HB.out)) HC0_1.out (cS (Kd.C_below HR0_2.out HB.out)) HC0_2.out (cS (Kd.C_below HR0_3.out HB.out)) HC0_3.out A3.out).mono ?_); rintro e w76 ⟨rfl, hb⟩; replace BK489 := Sd.mk (blk_below (bkA BK489.out) hb); replace BK490 := Sd.mk (blk_below (bkA BK490.out) hb); replace HB := Sd.mk (below_step (bBl HB.out) hb); (try clear hb); (try clear hb2); (try clear hk); (try clear hi))); try go_wp2_with (first | ((with_reducible refine gate_dst (N := 2) rfl ?_); (try (refine gate_guard (by rfl) ?_; dsimp only)); refine box_event ?hg (N := 2) ?hd (cs := #[.slice A0_0 l0_0.length c0_0, .slice A0_1 l0_1.length c0_1, .slice A0_2 l0_2.length c0_2, .slice A0_3 l0_3.length c0_3, .int .i64 a0_4, .int .i64 a0_5, .int .i64 a0_6]) (t := 29) ?hr ?_; (case hd => rfl); (case hg => rfl); (case hr => exact tG); intro gb489 hg w72 hbox hb; have BK489 := Sd.mk (hbox); have GW489 := Sd.mk (bSz hg (bBl HB.out)); have GE489 := Sd.mk (bSz hg (bBl HB.out)); replace HB := Sd.mk (below_step (bBl HB.out) hb); clear hb hbox hg) | ((with_reducible refine gate_dst (N := 3) rfl ?_); (try (refine gate_guard (by rfl) ?_; dsimp only)); refine box_event ?hg (N := 3) ?hd (cs := #[.int .i64 a1_0, .slice A1_1 l1_1.length c1_1]) (t := 32) ?hr ?_; (case hd => rfl); (case hg => rfl); (case hr => exact tG); intro gb490 hg w73 hbox hb; have BK490 := Sd.mk (hbox); have GW490 := Sd.mk (bSz hg (bBl HB.out)); have GE490 := Sd.mk (bSz hg (bBl HB.out)); replace HB := Sd.mk (below_step (bBl HB.out) hb); have NB489_490 := Sd.mk (bNl hg (bkA BK489.out)); have NB490_489 := Sd.mk (bNg hg (bkA BK489.out)); replace BK489 := Sd.mk (blk_below (bkA BK489.out) hb); clear hb hbox hg; have hnb74 := NB489_490.out; have hnc74 := NB490_489.out; obtain ⟨u75_0, u75_1, u75_2, u75_3, u75_4, u75_5, u75_6, o75_0, o75_1, o75_2, o75_3, o75_4, o75_5, o75_6⟩ := bc7 (w := w73) BK489.out) | (go_at_call 27; (with_reducible refine (rf_Check.calls k _ _ l0_0 _ _ l0_1 _ _ l0_2 _ _ l0_3 a0_4 a0_5 a0_6 t491 _ (cS (Kd.C_below HR0_0.out HB.out)) HC0_0.out (cS (Kd.C_below HR0_1.out HB.out)) HC0_1.out (cS (Kd.C_below HR0_2.out HB.out)) HC0_2.out (cS (Kd.C_below HR0_3.out HB.out)) HC0_3.out A3.out).mono ?_); rintro e w76 ⟨rfl, hb⟩; replace BK489 := Sd.mk (blk_below (bkA BK489.out) hb); replace BK490 := Sd.mk (blk_below (bkA BK490.out) hb); replace HB := Sd.mk (below_step (bBl HB.out) hb); (try clear hb); (try clear hb2); (try clear hk); (try clear hi))))
  go_ret3
  exact ⟨tE, bBl HB.out⟩
end Go.Proofs.Ytkjkokgbhepmoaa.PB

namespace Go.Proofs.Ytkjkokgbhepmoaa.PB
open Go.RowKit Go.Proofs.YtkjkokgbhepmoaaW.PrintWords Go.Proofs.YtkjkokgbhepmoaaW.PrintLast Go.Proofs.YtkjkokgbhepmoaaW.PrintMore
attribute [local go_sem] max2_int min2_int max_two min_two max_three min_three max_four min_four
def lw_BatchBounds.j0 : Nat → Bool → List ByteArray → List (S63) → List (S27) → List (S65) → Int → Int → Int → List Int → List Int → Int → Int → Int → List Int → Option (Bool)
 | 0, _, _, _, _, _, _, _, _, _, _, _, _, _, _ => none
 | k + 1, x16, x506q0, x506q1, x506q2, x506q3, x506q4, x506q5, x506q6, x507q0, x507q1, x507q2, x507q3, x507q4, x507q5 => if x16 = true then ((lw_lives.f k).bind fun t509 => (some t509)) else ((batch_Bound.f k x506q0 x506q1 x506q2 x506q3 x506q4 x506q5 x506q6 x507q4 x507q5).bind fun bt510 => ((rf_Bound.f k x506q0 x506q1 x506q2 x506q3 x506q4 x506q5 x506q6 x507q4 x507q5).bind fun bt513 => (if bt510.1 = bt513.1 then (if (bt510.2.1 == bt513.2.1) = true then (if bt510.2.2 = bt513.2.2 then ((lw_lives.f k).bind fun t516 => (some t516)) else (some false)) else (some false)) else (some false))))
def lw_BatchBounds.f (k : Nat) (l0_0 : List ByteArray) (l0_1 : List (S63)) (l0_2 : List (S27)) (l0_3 : List (S65)) (a0_4 : Int) (a0_5 : Int) (a0_6 : Int) (l1_0 : List Int) (l1_1 : List Int) (a1_2 : Int) (a1_3 : Int) (a1_4 : Int) (l1_5 : List Int) : Option (Bool) := (lw_Great.f k l0_0 l0_1 l0_2 l0_3 a0_4 a0_5 a0_6).bind fun t507 => (if t507 = true then (lw_BatchBounds.j0 k true l0_0 l0_1 l0_2 l0_3 a0_4 a0_5 a0_6 l1_0 l1_1 a1_2 a1_3 a1_4 l1_5) else ((lw_wide.f l1_0 l1_1 a1_2 a1_3 a1_4 l1_5).bind fun t508 => (lw_BatchBounds.j0 k t508 l0_0 l0_1 l0_2 l0_3 a0_4 a0_5 a0_6 l1_0 l1_1 a1_2 a1_3 a1_4 l1_5)))
set_option maxHeartbeats 8000000 in
set_option maxRecDepth 100000 in
theorem lw_BatchBounds.calls (k : Nat) (A0_0 : Option Addr) (c0_0 : Nat) (l0_0 : List ByteArray) (A0_1 : Option Addr) (c0_1 : Nat) (l0_1 : List (S63)) (A0_2 : Option Addr) (c0_2 : Nat) (l0_2 : List (S27)) (A0_3 : Option Addr) (c0_3 : Nat) (l0_3 : List (S65)) (a0_4 : Int) (a0_5 : Int) (a0_6 : Int) (A1_0 : Option Addr) (c1_0 : Nat) (l1_0 : List Int) (A1_1 : Option Addr) (c1_1 : Nat) (l1_1 : List Int) (a1_2 : Int) (a1_3 : Int) (a1_4 : Int) (A1_5 : Option Addr) (c1_5 : Nat) (l1_5 : List Int) (r : Bool) (w : World) (hr0_0 : Kd.C Kd.string w A0_0 l0_0.length l0_0) (hc0_0 : l0_0.length ≤ c0_0) (hr0_1 : Kd.C k63 w A0_1 l0_1.length l0_1) (hc0_1 : l0_1.length ≤ c0_1) (hr0_2 : Kd.C k27 w A0_2 l0_2.length l0_2) (hc0_2 : l0_2.length ≤ c0_2) (hr0_3 : Kd.C k65 w A0_3 l0_3.length l0_3) (hc0_3 : l0_3.length ≤ c0_3) (hr1_0 : Kd.C (Kd.int .i64) w A1_0 l1_0.length l1_0) (hc1_0 : l1_0.length ≤ c1_0) (hr1_1 : Kd.C (Kd.int .i64) w A1_1 l1_1.length l1_1) (hc1_1 : l1_1.length ≤ c1_1) (hr1_5 : Kd.C (Kd.int .i64) w A1_5 l1_5.length l1_5) (hc1_5 : l1_5.length ≤ c1_5) (h : lw_BatchBounds.f k l0_0 l0_1 l0_2 l0_3 a0_4 a0_5 a0_6 l1_0 l1_1 a1_2 a1_3 a1_4 l1_5 = some r) :
  Calls Try.prog 6 #[.agg #[.slice A0_0 l0_0.length c0_0, .slice A0_1 l0_1.length c0_1, .slice A0_2 l0_2.length c0_2, .slice A0_3 l0_3.length c0_3, .int .i64 a0_4, .int .i64 a0_5, .int .i64 a0_6], .agg #[.slice A1_0 l1_0.length c1_0, .slice A1_1 l1_1.length c1_1, .int .i64 a1_2, .int .i64 a1_3, .int .i64 a1_4, .slice A1_5 l1_5.length c1_5]] w fun e w' => e = .returned (.bool r) ∧ Below w.heap.size w w' := by
 have hu29 := Try.underlying29; have hu34 := Try.underlying34; have hu32 := Try.underlying32; have HR0_0 := Sd.mk hr0_0; have HC0_0 := Sd.mk hc0_0; clear hr0_0 hc0_0; have HR0_1 := Sd.mk hr0_1; have HC0_1 := Sd.mk hc0_1; clear hr0_1 hc0_1; have HR0_2 := Sd.mk hr0_2; have HC0_2 := Sd.mk hc0_2; clear hr0_2 hc0_2; have HR0_3 := Sd.mk hr0_3; have HC0_3 := Sd.mk hc0_3; clear hr0_3 hc0_3; have HR1_0 := Sd.mk hr1_0; have HC1_0 := Sd.mk hc1_0; clear hr1_0 hc1_0; have HR1_1 := Sd.mk hr1_1; have HC1_1 := Sd.mk hc1_1; clear hr1_1 hc1_1; have HR1_5 := Sd.mk hr1_5; have HC1_5 := Sd.mk hc1_5; clear hr1_5 hc1_5; have HB := Sd.mk (Below.refl w.heap.size w)
 have H : ((lw_Great.f k l0_0 l0_1 l0_2 l0_3 a0_4 a0_5 a0_6).bind fun t507 => (if t507 = true then (lw_BatchBounds.j0 k true l0_0 l0_1 l0_2 l0_3 a0_4 a0_5 a0_6 l1_0 l1_1 a1_2 a1_3 a1_4 l1_5) else ((lw_wide.f l1_0 l1_1 a1_2 a1_3 a1_4 l1_5).bind fun t508 => (lw_BatchBounds.j0 k t508 l0_0 l0_1 l0_2 l0_3 a0_4 a0_5 a0_6 l1_0 l1_1 a1_2 a1_3 a1_4 l1_5)))) = some r := h
 clear h; have HC3 := Sd.mk H; clear H
 go_enter Try.func6, Try.ntmps6
 go_upto_region 1 with (first | ((with_reducible refine gate_dst (N := 2) rfl ?_); refine box_event ?hg (N := 2) ?hd (cs := #[.slice A0_0 l0_0.length c0_0, .slice A0_1 l0_1.length c0_1, .slice A0_2 l0_2.length c0_2, .slice A0_3 l0_3.length c0_3, .int .i64 a0_4, .int .i64 a0_5, .int .i64 a0_6]) (t := 29) ?hr ?_; (case hd => rfl); (case hg => rfl); (case hr => exact tG); intro gb505 hg w4 hbox hb; have BK505 := Sd.mk (hbox); have GW505 := Sd.mk (bSz hg (bBl HB.out)); have GE505 := Sd.mk (bSz hg (bBl HB.out)); replace HB := Sd.mk (below_step (bBl HB.out) hb); clear hb hbox hg) | ((with_reducible refine gate_dst (N := 3) rfl ?_); refine box_event ?hg (N := 3) ?hd (cs := #[.slice A1_0 l1_0.length c1_0, .slice A1_1 l1_1.length c1_1, .int .i64 a1_2, .int .i64 a1_3, .int .i64 a1_4, .slice A1_5 l1_5.length c1_5]) (t := 34) ?hr ?_; (case hd => rfl); (case hg => rfl); (case hr => exact tG); intro gb506 hg w5 hbox hb; have BK506 := Sd.mk (hbox); have GW506 := Sd.mk (bSz hg (bBl HB.out)); have GE506 := Sd.mk (bSz hg (bBl HB.out)); replace HB := Sd.mk (below_step (bBl HB.out) hb); have NB505_506 := Sd.mk (bNl hg (bkA BK505.out)); have NB506_505 := Sd.mk (bNg hg (bkA BK505.out)); replace BK505 := Sd.mk (blk_below (bkA BK505.out) hb); clear hb hbox hg))
 (try simp only [Act.put, List.setIfInBounds_toArray, List.set_cons_zero, List.set_cons_succ])
 go_cut [16] (fun v16 wc => ∃ (kq : Nat) (x16_2 : Bool), v16 = .bool x16_2 ∧ Sd (lw_BatchBounds.j0 kq x16_2 l0_0 l0_1 l0_2 l0_3 a0_4 a0_5 a0_6 l1_0 l1_1 a1_2 a1_3 a1_4 l1_5 = some r) ∧ Sd (kq ≤ k) ∧ Sd (wc.heap[gb505]? = some (.cells #[(.slice A0_0 l0_0.length c0_0), (.slice A0_1 l0_1.length c0_1), (.slice A0_2 l0_2.length c0_2), (.slice A0_3 l0_3.length c0_3), .int .i64 a0_4, .int .i64 a0_5, .int .i64 a0_6] 29 (0, 0))) ∧ Sd (wc.heap[gb506]? = some (.cells #[(.slice A1_0 l1_0.length c1_0), (.slice A1_1 l1_1.length c1_1), .int .i64 a1_2, .int .i64 a1_3, .int .i64 a1_4, (.slice A1_5 l1_5.length c1_5)] 34 (0, 0))) ∧ Sd (Below w.heap.size w wc))
 case first =>
  have H := HC3.out; clear HC3; replace H := Option.bind_eq_some_iff.mp H; obtain ⟨t507, A60, H⟩ := H
  try dsimp only at H
  have A6 := Sd.mk A60; clear A60
  by_cases c7 : t507 = true
  ·subst c7
   have H1 : (lw_BatchBounds.j0 k true l0_0 l0_1 l0_2 l0_3 a0_4 a0_5 a0_6 l1_0 l1_1 a1_2 a1_3 a1_4 l1_5) = some r := by rw [if_pos rfl] at H; exact H
   clear H; have H := H1; clear H1; have H' := Sd.mk H; clear H; have hnb8 := NB505_506.out; have hnc8 := NB506_505.out; obtain ⟨u9_0, u9_1, u9_2, u9_3, u9_4, u9_5, u9_6, o9_0, o9_1, o9_2, o9_3, o9_4, o9_5, o9_6⟩ := bc7 (w := w5) BK505.out
   go_wp2_with (first | ((with_reducible refine gate_callee (f := 12) rfl ?_); refine goesL_ (some 12) rfl rfl Try.func12 (by kernel_rfl) rfl #[.agg #[.slice A0_0 l0_0.length c0_0, .slice A0_1 l0_1.length c0_1, .slice A0_2 l0_2.length c0_2, .slice A0_3 l0_3.length c0_3, .int .i64 a0_4, .int .i64 a0_5, .int .i64 a0_6]] rfl tM ?_; (with_reducible refine (lw_Great.calls k _ _ l0_0 _ _ l0_1 _ _ l0_2 _ _ l0_3 a0_4 a0_5 a0_6 true _ (cS (Kd.C_below HR0_0.out HB.out)) HC0_0.out (cS (Kd.C_below HR0_1.out HB.out)) HC0_1.out (cS (Kd.C_below HR0_2.out HB.out)) HC0_2.out (cS (Kd.C_below HR0_3.out HB.out)) HC0_3.out A6.out).mono ?_); rintro e w10 ⟨rfl, hb⟩; refine ⟨_, rfl, ?_⟩; replace BK505 := Sd.mk (blk_below (bkA BK505.out) hb); replace BK506 := Sd.mk (blk_below (bkA BK506.out) hb); replace HB := Sd.mk (below_step (bBl HB.out) hb); (try clear hb); (try clear hb2); (try clear hk); (try clear hi)))
   go_meet
   case rel => exact ⟨_, (true), tS, H', ⟨by first | omega | exact Nat.le_refl _⟩, ⟨bkA BK505.out⟩, ⟨bkA BK506.out⟩, ⟨bBl HB.out⟩⟩
  ·replace c7 := Bool.eq_false_iff.mpr c7
   subst c7
   have H1 : ((lw_wide.f l1_0 l1_1 a1_2 a1_3 a1_4 l1_5).bind fun t508 => (lw_BatchBounds.j0 k t508 l0_0 l0_1 l0_2 l0_3 a0_4 a0_5 a0_6 l1_0 l1_1 a1_2 a1_3 a1_4 l1_5)) = some r := by rw [if_neg (show ¬ (false = true) by decide)] at H; exact H
   clear H; have H := H1; clear H1; replace H := Option.bind_eq_some_iff.mp H; obtain ⟨t508, A110, H⟩ := H
   try dsimp only at H
   have A11 := Sd.mk A110; clear A110; have H' := Sd.mk H; clear H; have hnb12 := NB505_506.out; have hnc12 := NB506_505.out; obtain ⟨u13_0, u13_1, u13_2, u13_3, u13_4, u13_5, u13_6, o13_0, o13_1, o13_2, o13_3, o13_4, o13_5, o13_6⟩ := bc7 (w := w5) BK505.out
   go_wp2_with (first | ((with_reducible refine gate_callee (f := 12) rfl ?_); refine goesL_ (some 12) rfl rfl Try.func12 (by kernel_rfl) rfl #[.agg #[.slice A0_0 l0_0.length c0_0, .slice A0_1 l0_1.length c0_1, .slice A0_2 l0_2.length c0_2, .slice A0_3 l0_3.length c0_3, .int .i64 a0_4, .int .i64 a0_5, .int .i64 a0_6]] rfl tM ?_; (with_reducible refine (lw_Great.calls k _ _ l0_0 _ _ l0_1 _ _ l0_2 _ _ l0_3 a0_4 a0_5 a0_6 false _ (cS (Kd.C_below HR0_0.out HB.out)) HC0_0.out (cS (Kd.C_below HR0_1.out HB.out)) HC0_1.out (cS (Kd.C_below HR0_2.out HB.out)) HC0_2.out (cS (Kd.C_below HR0_3.out HB.out)) HC0_3.out A6.out).mono ?_); rintro e w14 ⟨rfl, hb⟩; refine ⟨_, rfl, ?_⟩; replace BK505 := Sd.mk (blk_below (bkA BK505.out) hb); replace BK506 := Sd.mk (blk_below (bkA BK506.out) hb); replace HB := Sd.mk (below_step (bBl HB.out) hb); (try clear hb); (try clear hb2); (try clear hk); (try clear hi); obtain ⟨u15_0, u15_1, u15_2, u15_3, u15_4, u15_5, o15_0, o15_1, o15_2, o15_3, o15_4, o15_5⟩ := bc6 (w := w14) BK506.out) | (go_at_call 13; (with_reducible refine (lw_wide.calls _ _ l1_0 _ _ l1_1 a1_2 a1_3 a1_4 _ _ l1_5 t508 _ (cS (Kd.C_below HR1_0.out HB.out)) HC1_0.out (cS (Kd.C_below HR1_1.out HB.out)) HC1_1.out (cS (Kd.C_below HR1_5.out HB.out)) HC1_5.out A11.out).mono ?_); rintro e w16 ⟨rfl, hb⟩; replace BK505 := Sd.mk (blk_below (bkA BK505.out) hb); replace BK506 := Sd.mk (blk_below (bkA BK506.out) hb); replace HB := Sd.mk (below_step (bBl HB.out) hb); (try clear hb); (try clear hb2); (try clear hk); (try clear hi)))
   go_meet
   case rel => exact ⟨_, (t508), tS, H', ⟨by first | omega | exact Nat.le_refl _⟩, ⟨bkA BK505.out⟩, ⟨bkA BK506.out⟩, ⟨bBl HB.out⟩⟩
 case rest =>
  clear HC3; (try clear c1); (try clear p2); (try clear c6); (try clear c7); (try clear c8); (try clear c12); (try clear u13_0 u13_1 u13_2 u13_3 u13_4 u13_5 u13_6); (try clear u15_0 u15_1 u15_2 u15_3 u15_4 u15_5); (try clear u9_0 u9_1 u9_2 u9_3 u9_4 u9_5 u9_6); (try clear o13_0 o13_1 o13_2 o13_3 o13_4 o13_5 o13_6); (try clear o15_0 o15_1 o15_2 o15_3 o15_4 o15_5); (try clear o9_0 o9_1 o9_2 o9_3 o9_4 o9_5 o9_6); obtain ⟨kq, x16_2, rfl, HA, HJ2, BK505, BK506, HB⟩ := hcut
  cases kq with
  | zero => exact absurd HA.out (by simp [lw_BatchBounds.j0])
  | succ kj2 =>
   have H := HA.out; clear HA
   simp only [lw_BatchBounds.j0] at H
   by_cases c17 : x16_2 = true
   ·subst c17
    have H1 : ((lw_lives.f kj2).bind fun t509 => (some t509)) = some r := by rw [if_pos rfl] at H; exact H
    clear H; have H := H1; clear H1; replace H := Option.bind_eq_some_iff.mp H; obtain ⟨t509, A180, H⟩ := H
    try dsimp only at H
    have A18 := Sd.mk A180; clear A180; obtain rfl := Option.some.inj H
    go_wp2_with (first | ((with_reducible refine gate_callee (f := 14) rfl ?_); refine goesL_ (some 17) rfl rfl Try.func14 (by kernel_rfl) rfl #[] rfl tM ?_; (with_reducible refine (lw_lives.calls kj2  t509 _ A18.out).mono ?_); rintro e w19 ⟨rfl, hb⟩; refine ⟨_, rfl, ?_⟩; replace BK505 := Sd.mk (blk_below (bkA BK505.out) hb); replace BK506 := Sd.mk (blk_below (bkA BK506.out) hb); replace HB := Sd.mk (below_step (bBl HB.out) hb); (try clear hb); (try clear hb2); (try clear hk); (try clear hi)))
    go_ret
    exact ⟨tE, bBl HB.out⟩
   ·replace c17 := Bool.eq_false_iff.mpr c17
    subst c17
    have H1 : ((batch_Bound.f kj2 l0_0 l0_1 l0_2 l0_3 a0_4 a0_5 a0_6 a1_4 l1_5).bind fun bt510 => ((rf_Bound.f kj2 l0_0 l0_1 l0_2 l0_3 a0_4 a0_5 a0_6 a1_4 l1_5).bind fun bt513 => (if bt510.1 = bt513.1 then (if (bt510.2.1 == bt513.2.1) = true then (if bt510.2.2 = bt513.2.2 then ((lw_lives.f kj2).bind fun t516 => (some t516)) else (some false)) else (some false)) else (some false)))) = some r := by rw [if_neg (show ¬ (false = true) by decide)] at H; exact H
    clear H; have H := H1; clear H1; replace H := Option.bind_eq_some_iff.mp H
    obtain ⟨⟨t510, t511, t512⟩, A200, H⟩ := H
    try dsimp only at H
    have A20 := Sd.mk A200; clear A200; replace H := Option.bind_eq_some_iff.mp H
    obtain ⟨⟨t513, t514, t515⟩, A210, H⟩ := H
    try dsimp only at H
    have A21 := Sd.mk A210; clear A210
    by_cases c22 : t510 = t513
    ·rw [if_pos c22] at H
     have c22b0 : (t510 == t513) = true := beq_iff_eq.mpr c22
     have c22b1 : (t510 != t513) = false := bne_eq_false_iff_eq.mpr c22
     clear c22
     by_cases c23 : (t511 == t514) = true
     ·rw [if_pos c23] at H
      have c23b0 : (t511 == t514) = true := c23
      (try (have c23b1 : decide (t511 = t514) = true := by simpa using c23))
      (try (have c23b2 : (t511 == t514) = true := by simpa using c23))
      clear c23
      by_cases c24 : t512 = t515
      ·rw [if_pos c24] at H
       have c24b0 : (t512 == t515) = true := beq_iff_eq.mpr c24
       have c24b1 : (t512 != t515) = false := bne_eq_false_iff_eq.mpr c24
       clear c24; replace H := Option.bind_eq_some_iff.mp H; obtain ⟨t516, A250, H⟩ := H
       try dsimp only at H
       have A25 := Sd.mk A250; clear A250; obtain rfl := Option.some.inj H; have hnb26 := NB505_506.out; have hnc26 := NB506_505.out; obtain ⟨u27_0, u27_1, u27_2, u27_3, u27_4, u27_5, u27_6, o27_0, o27_1, o27_2, o27_3, o27_4, o27_5, o27_6⟩ := bc7 (w := wc) BK505.out; obtain ⟨u28_0, u28_1, u28_2, u28_3, u28_4, u28_5, o28_0, o28_1, o28_2, o28_3, o28_4, o28_5⟩ := bc6 (w := wc) BK506.out
       go_wp2_with (first | ((with_reducible refine gate_callee (f := 30) rfl ?_); refine goesL_ (some 22) rfl rfl Try.func30 (by kernel_rfl) rfl #[.agg #[.slice A0_0 l0_0.length c0_0, .slice A0_1 l0_1.length c0_1, .slice A0_2 l0_2.length c0_2, .slice A0_3 l0_3.length c0_3, .int .i64 a0_4, .int .i64 a0_5, .int .i64 a0_6], .agg #[.int .i64 a1_4, .slice A1_5 l1_5.length c1_5]] rfl tM ?_; (with_reducible refine (batch_Bound.calls kj2 _ _ l0_0 _ _ l0_1 _ _ l0_2 _ _ l0_3 a0_4 a0_5 a0_6 a1_4 _ _ l1_5 t510 t511 t512 _ (cS (Kd.C_below HR0_0.out HB.out)) HC0_0.out (cS (Kd.C_below HR0_1.out HB.out)) HC0_1.out (cS (Kd.C_below HR0_2.out HB.out)) HC0_2.out (cS (Kd.C_below HR0_3.out HB.out)) HC0_3.out (cS (Kd.C_below HR1_5.out HB.out)) HC1_5.out A20.out).mono ?_); rintro e w29 ⟨rfl, hb⟩; refine ⟨_, rfl, ?_⟩; replace BK505 := Sd.mk (blk_below (bkA BK505.out) hb); replace BK506 := Sd.mk (blk_below (bkA BK506.out) hb); replace HB := Sd.mk (below_step (bBl HB.out) hb); (try clear hb); (try clear hb2); (try clear hk); (try clear hi); obtain ⟨u30_0, u30_1, u30_2, u30_3, u30_4, u30_5, u30_6, o30_0, o30_1, o30_2, o30_3, o30_4, o30_5, o30_6⟩ := bc7 (w := w29) BK505.out; obtain ⟨u31_0, u31_1, u31_2, u31_3, u31_4, u31_5, o31_0, o31_1, o31_2, o31_3, o31_4, o31_5⟩ := bc6 (w := w29) BK506.out) | ((with_reducible refine gate_callee (f := 31) rfl ?_); refine goesL_ (some 30) rfl rfl Try.func31 (by kernel_rfl) rfl #[.agg #[.slice A0_0 l0_0.length c0_0, .slice A0_1 l0_1.length c0_1, .slice A0_2 l0_2.length c0_2, .slice A0_3 l0_3.length c0_3, .int .i64 a0_4, .int .i64 a0_5, .int .i64 a0_6], .agg #[.int .i64 a1_4, .slice A1_5 l1_5.length c1_5]] rfl tM ?_; (with_reducible refine (rf_Bound.calls kj2 _ _ l0_0 _ _ l0_1 _ _ l0_2 _ _ l0_3 a0_4 a0_5 a0_6 a1_4 _ _ l1_5 t513 t514 t515 _ (cS (Kd.C_below HR0_0.out HB.out)) HC0_0.out (cS (Kd.C_below HR0_1.out HB.out)) HC0_1.out (cS (Kd.C_below HR0_2.out HB.out)) HC0_2.out (cS (Kd.C_below HR0_3.out HB.out)) HC0_3.out (cS (Kd.C_below HR1_5.out HB.out)) HC1_5.out A21.out).mono ?_); rintro e w32 ⟨rfl, hb⟩; refine ⟨_, rfl, ?_⟩; replace BK505 := Sd.mk (blk_below (bkA BK505.out) hb); replace BK506 := Sd.mk (blk_below (bkA BK506.out) hb); replace HB := Sd.mk (below_step (bBl HB.out) hb); (try clear hb); (try clear hb2); (try clear hk); (try clear hi)) | (go_at_call 14; (with_reducible refine (lw_lives.calls kj2  t516 _ A25.out).mono ?_); rintro e w33 ⟨rfl, hb⟩; replace BK505 := Sd.mk (blk_below (bkA BK505.out) hb); replace BK506 := Sd.mk (blk_below (bkA BK506.out) hb); replace HB := Sd.mk (below_step (bBl HB.out) hb); (try clear hb); (try clear hb2); (try clear hk); (try clear hi)))
       go_ret
       exact ⟨tE, bBl HB.out⟩
      ·rw [if_neg c24] at H
       have c24b0 : (t512 == t515) = false := beq_eq_false_iff_ne.mpr c24
       have c24b1 : (t512 != t515) = true := bne_iff_ne.mpr c24
       obtain rfl := Option.some.inj H; have hnb34 := NB505_506.out; have hnc34 := NB506_505.out; obtain ⟨u35_0, u35_1, u35_2, u35_3, u35_4, u35_5, u35_6, o35_0, o35_1, o35_2, o35_3, o35_4, o35_5, o35_6⟩ := bc7 (w := wc) BK505.out; obtain ⟨u36_0, u36_1, u36_2, u36_3, u36_4, u36_5, o36_0, o36_1, o36_2, o36_3, o36_4, o36_5⟩ := bc6 (w := wc) BK506.out
       go_wp2_with (first | ((with_reducible refine gate_callee (f := 30) rfl ?_); refine goesL_ (some 22) rfl rfl Try.func30 (by kernel_rfl) rfl #[.agg #[.slice A0_0 l0_0.length c0_0, .slice A0_1 l0_1.length c0_1, .slice A0_2 l0_2.length c0_2, .slice A0_3 l0_3.length c0_3, .int .i64 a0_4, .int .i64 a0_5, .int .i64 a0_6], .agg #[.int .i64 a1_4, .slice A1_5 l1_5.length c1_5]] rfl tM ?_; (with_reducible refine (batch_Bound.calls kj2 _ _ l0_0 _ _ l0_1 _ _ l0_2 _ _ l0_3 a0_4 a0_5 a0_6 a1_4 _ _ l1_5 t510 t511 t512 _ (cS (Kd.C_below HR0_0.out HB.out)) HC0_0.out (cS (Kd.C_below HR0_1.out HB.out)) HC0_1.out (cS (Kd.C_below HR0_2.out HB.out)) HC0_2.out (cS (Kd.C_below HR0_3.out HB.out)) HC0_3.out (cS (Kd.C_below HR1_5.out HB.out)) HC1_5.out A20.out).mono ?_); rintro e w37 ⟨rfl, hb⟩; refine ⟨_, rfl, ?_⟩; replace BK505 := Sd.mk (blk_below (bkA BK505.out) hb); replace BK506 := Sd.mk (blk_below (bkA BK506.out) hb); replace HB := Sd.mk (below_step (bBl HB.out) hb); (try clear hb); (try clear hb2); (try clear hk); (try clear hi); obtain ⟨u38_0, u38_1, u38_2, u38_3, u38_4, u38_5, u38_6, o38_0, o38_1, o38_2, o38_3, o38_4, o38_5, o38_6⟩ := bc7 (w := w37) BK505.out; obtain ⟨u39_0, u39_1, u39_2, u39_3, u39_4, u39_5, o39_0, o39_1, o39_2, o39_3, o39_4, o39_5⟩ := bc6 (w := w37) BK506.out) | ((with_reducible refine gate_callee (f := 31) rfl ?_); refine goesL_ (some 30) rfl rfl Try.func31 (by kernel_rfl) rfl #[.agg #[.slice A0_0 l0_0.length c0_0, .slice A0_1 l0_1.length c0_1, .slice A0_2 l0_2.length c0_2, .slice A0_3 l0_3.length c0_3, .int .i64 a0_4, .int .i64 a0_5, .int .i64 a0_6], .agg #[.int .i64 a1_4, .slice A1_5 l1_5.length c1_5]] rfl tM ?_; (with_reducible refine (rf_Bound.calls kj2 _ _ l0_0 _ _ l0_1 _ _ l0_2 _ _ l0_3 a0_4 a0_5 a0_6 a1_4 _ _ l1_5 t513 t514 t515 _ (cS (Kd.C_below HR0_0.out HB.out)) HC0_0.out (cS (Kd.C_below HR0_1.out HB.out)) HC0_1.out (cS (Kd.C_below HR0_2.out HB.out)) HC0_2.out (cS (Kd.C_below HR0_3.out HB.out)) HC0_3.out (cS (Kd.C_below HR1_5.out HB.out)) HC1_5.out A21.out).mono ?_); rintro e w40 ⟨rfl, hb⟩; refine ⟨_, rfl, ?_⟩; replace BK505 := Sd.mk (blk_below (bkA BK505.out) hb); replace BK506 := Sd.mk (blk_below (bkA BK506.out) hb); replace HB := Sd.mk (below_step (bBl HB.out) hb); (try clear hb); (try clear hb2); (try clear hk); (try clear hi)))
       go_ret
       exact ⟨tE, bBl HB.out⟩
     ·rw [if_neg c23] at H
      have c23b0 : (t511 == t514) = false := by simpa using c23
      (try (have c23b1 : decide (t511 = t514) = false := by simpa using c23))
      (try (have c23b2 : (t511 == t514) = false := by simpa using c23))
      (try (have c23b3 : ¬ (t511 = t514) := by simpa using c23))
      clear c23; obtain rfl := Option.some.inj H; have hnb41 := NB505_506.out; have hnc41 := NB506_505.out; obtain ⟨u42_0, u42_1, u42_2, u42_3, u42_4, u42_5, u42_6, o42_0, o42_1, o42_2, o42_3, o42_4, o42_5, o42_6⟩ := bc7 (w := wc) BK505.out; obtain ⟨u43_0, u43_1, u43_2, u43_3, u43_4, u43_5, o43_0, o43_1, o43_2, o43_3, o43_4, o43_5⟩ := bc6 (w := wc) BK506.out
      go_wp2_with (first | ((with_reducible refine gate_callee (f := 30) rfl ?_); refine goesL_ (some 22) rfl rfl Try.func30 (by kernel_rfl) rfl #[.agg #[.slice A0_0 l0_0.length c0_0, .slice A0_1 l0_1.length c0_1, .slice A0_2 l0_2.length c0_2, .slice A0_3 l0_3.length c0_3, .int .i64 a0_4, .int .i64 a0_5, .int .i64 a0_6], .agg #[.int .i64 a1_4, .slice A1_5 l1_5.length c1_5]] rfl tM ?_; (with_reducible refine (batch_Bound.calls kj2 _ _ l0_0 _ _ l0_1 _ _ l0_2 _ _ l0_3 a0_4 a0_5 a0_6 a1_4 _ _ l1_5 t510 t511 t512 _ (cS (Kd.C_below HR0_0.out HB.out)) HC0_0.out (cS (Kd.C_below HR0_1.out HB.out)) HC0_1.out (cS (Kd.C_below HR0_2.out HB.out)) HC0_2.out (cS (Kd.C_below HR0_3.out HB.out)) HC0_3.out (cS (Kd.C_below HR1_5.out HB.out)) HC1_5.out A20.out).mono ?_); rintro e w44 ⟨rfl, hb⟩; refine ⟨_, rfl, ?_⟩; replace BK505 := Sd.mk (blk_below (bkA BK505.out) hb); replace BK506 := Sd.mk (blk_below (bkA BK506.out) hb); replace HB := Sd.mk (below_step (bBl HB.out) hb); (try clear hb); (try clear hb2); (try clear hk); (try clear hi); obtain ⟨u45_0, u45_1, u45_2, u45_3, u45_4, u45_5, u45_6, o45_0, o45_1, o45_2, o45_3, o45_4, o45_5, o45_6⟩ := bc7 (w := w44) BK505.out; obtain ⟨u46_0, u46_1, u46_2, u46_3, u46_4, u46_5, o46_0, o46_1, o46_2, o46_3, o46_4, o46_5⟩ := bc6 (w := w44) BK506.out) | ((with_reducible refine gate_callee (f := 31) rfl ?_); refine goesL_ (some 30) rfl rfl Try.func31 (by kernel_rfl) rfl #[.agg #[.slice A0_0 l0_0.length c0_0, .slice A0_1 l0_1.length c0_1, .slice A0_2 l0_2.length c0_2, .slice A0_3 l0_3.length c0_3, .int .i64 a0_4, .int .i64 a0_5, .int .i64 a0_6], .agg #[.int .i64 a1_4, .slice A1_5 l1_5.length c1_5]] rfl tM ?_; (with_reducible refine (rf_Bound.calls kj2 _ _ l0_0 _ _ l0_1 _ _ l0_2 _ _ l0_3 a0_4 a0_5 a0_6 a1_4 _ _ l1_5 t513 t514 t515 _ (cS (Kd.C_below HR0_0.out HB.out)) HC0_0.out (cS (Kd.C_below HR0_1.out HB.out)) HC0_1.out (cS (Kd.C_below HR0_2.out HB.out)) HC0_2.out (cS (Kd.C_below HR0_3.out HB.out)) HC0_3.out (cS (Kd.C_below HR1_5.out HB.out)) HC1_5.out A21.out).mono ?_); rintro e w47 ⟨rfl, hb⟩; refine ⟨_, rfl, ?_⟩; replace BK505 := Sd.mk (blk_below (bkA BK505.out) hb); replace BK506 := Sd.mk (blk_below (bkA BK506.out) hb); replace HB := Sd.mk (below_step (bBl HB.out) hb); (try clear hb); (try clear hb2); (try clear hk); (try clear hi)))
      go_ret
      exact ⟨tE, bBl HB.out⟩
    ·rw [if_neg c22] at H
     have c22b0 : (t510 == t513) = false := beq_eq_false_iff_ne.mpr c22
     have c22b1 : (t510 != t513) = true := bne_iff_ne.mpr c22
     obtain rfl := Option.some.inj H; have hnb48 := NB505_506.out; have hnc48 := NB506_505.out; obtain ⟨u49_0, u49_1, u49_2, u49_3, u49_4, u49_5, u49_6, o49_0, o49_1, o49_2, o49_3, o49_4, o49_5, o49_6⟩ := bc7 (w := wc) BK505.out; obtain ⟨u50_0, u50_1, u50_2, u50_3, u50_4, u50_5, o50_0, o50_1, o50_2, o50_3, o50_4, o50_5⟩ := bc6 (w := wc) BK506.out
     go_wp2_with (first | ((with_reducible refine gate_callee (f := 30) rfl ?_); refine goesL_ (some 22) rfl rfl Try.func30 (by kernel_rfl) rfl #[.agg #[.slice A0_0 l0_0.length c0_0, .slice A0_1 l0_1.length c0_1, .slice A0_2 l0_2.length c0_2, .slice A0_3 l0_3.length c0_3, .int .i64 a0_4, .int .i64 a0_5, .int .i64 a0_6], .agg #[.int .i64 a1_4, .slice A1_5 l1_5.length c1_5]] rfl tM ?_; (with_reducible refine (batch_Bound.calls kj2 _ _ l0_0 _ _ l0_1 _ _ l0_2 _ _ l0_3 a0_4 a0_5 a0_6 a1_4 _ _ l1_5 t510 t511 t512 _ (cS (Kd.C_below HR0_0.out HB.out)) HC0_0.out (cS (Kd.C_below HR0_1.out HB.out)) HC0_1.out (cS (Kd.C_below HR0_2.out HB.out)) HC0_2.out (cS (Kd.C_below HR0_3.out HB.out)) HC0_3.out (cS (Kd.C_below HR1_5.out HB.out)) HC1_5.out A20.out).mono ?_); rintro e w51 ⟨rfl, hb⟩; refine ⟨_, rfl, ?_⟩; replace BK505 := Sd.mk (blk_below (bkA BK505.out) hb); replace BK506 := Sd.mk (blk_below (bkA BK506.out) hb); replace HB := Sd.mk (below_step (bBl HB.out) hb); (try clear hb); (try clear hb2); (try clear hk); (try clear hi); obtain ⟨u52_0, u52_1, u52_2, u52_3, u52_4, u52_5, u52_6, o52_0, o52_1, o52_2, o52_3, o52_4, o52_5, o52_6⟩ := bc7 (w := w51) BK505.out; obtain ⟨u53_0, u53_1, u53_2, u53_3, u53_4, u53_5, o53_0, o53_1, o53_2, o53_3, o53_4, o53_5⟩ := bc6 (w := w51) BK506.out) | ((with_reducible refine gate_callee (f := 31) rfl ?_); refine goesL_ (some 30) rfl rfl Try.func31 (by kernel_rfl) rfl #[.agg #[.slice A0_0 l0_0.length c0_0, .slice A0_1 l0_1.length c0_1, .slice A0_2 l0_2.length c0_2, .slice A0_3 l0_3.length c0_3, .int .i64 a0_4, .int .i64 a0_5, .int .i64 a0_6], .agg #[.int .i64 a1_4, .slice A1_5 l1_5.length c1_5]] rfl tM ?_; (with_reducible refine (rf_Bound.calls kj2 _ _ l0_0 _ _ l0_1 _ _ l0_2 _ _ l0_3 a0_4 a0_5 a0_6 a1_4 _ _ l1_5 t513 t514 t515 _ (cS (Kd.C_below HR0_0.out HB.out)) HC0_0.out (cS (Kd.C_below HR0_1.out HB.out)) HC0_1.out (cS (Kd.C_below HR0_2.out HB.out)) HC0_2.out (cS (Kd.C_below HR0_3.out HB.out)) HC0_3.out (cS (Kd.C_below HR1_5.out HB.out)) HC1_5.out A21.out).mono ?_); rintro e w54 ⟨rfl, hb⟩; refine ⟨_, rfl, ?_⟩; replace BK505 := Sd.mk (blk_below (bkA BK505.out) hb); replace BK506 := Sd.mk (blk_below (bkA BK506.out) hb); replace HB := Sd.mk (below_step (bBl HB.out) hb); (try clear hb); (try clear hb2); (try clear hk); (try clear hi)))
     go_ret
     exact ⟨tE, bBl HB.out⟩
end Go.Proofs.Ytkjkokgbhepmoaa.PB

namespace Go.Proofs.Ytkjkokgbhepmoaa.PB
open Go.RowKit Go.Proofs.YtkjkokgbhepmoaaW.PrintWords Go.Proofs.YtkjkokgbhepmoaaW.PrintLast Go.Proofs.YtkjkokgbhepmoaaW.PrintMore
structure BdOk (m : Nat) (L : List S51) (D : Int) (y : List Int) : Prop where
  n : L.length ≤ 39
  line : ∀ j : Nat, j < L.length → LnOk m (rd_T51 L (j : Int))
  d : 0 ≤ D ∧ D ≤ 1000000
  len : y.length = L.length
  y : ∀ j : Nat, j < L.length → 0 ≤ rd y (j : Int) ∧ rd y (j : Int) ≤ 1000
section
variable (o : List ByteArray) (mt : List S63) (s : List S27) (p : List S65) (a4 a5 a6 : Int) (L : List S51) (D : Int) (y : List Int)
def tbS (i : Nat) : Int := sumTo (fun j => -(rd y (j : Int) * (rd_T51 L (j : Int)).f1)) i
def cS_ (i n : Nat) : Int := D * (rd_T63 mt (i : Int)).f1 + sumTo (fun j => rd y (j : Int) * rd (rd_T51 L (j : Int)).f0 (i : Int)) n
def mostM (x : S63) : Int := x.f4 - Int.tmod (x.f4 - x.f3) x.f5
def gM (i : Nat) : Int := mn (cS_ mt L D y i L.length * (rd_T63 mt (i : Int)).f3) (cS_ mt L D y i L.length * mostM (rd_T63 mt (i : Int)))
def bdV : Int := tbS L y L.length + sumTo (gM mt L D y) mt.length
variable (H : BatchOk o mt s p a4 a5 a6) (B : BdOk mt.length L D y)
theorem mule {c x : Int} {X : Int} (h3 : 0 ≤ c) (h4 : c ≤ 1000) (h1 : -X ≤ x) (h2 : x ≤ X) : -(1000 * X) ≤ c * x ∧ c * x ≤ 1000 * X := by
  have e1 := Int.mul_le_mul_of_nonneg_left h1 h3
  have e2 := Int.mul_le_mul_of_nonneg_left h2 h3
  have e3 := Int.mul_le_mul_of_nonneg_right h4 (show 0 ≤ X by omega)
  have e4 : c * -X = -(c * X) := Int.mul_neg _ _
  omega
include B in
theorem tb_at (j : Nat) (hj : j < L.length) : -10000000000 ≤ rd y (j : Int) * (rd_T51 L (j : Int)).f1 ∧ rd y (j : Int) * (rd_T51 L (j : Int)).f1 ≤ 10000000000 := by
  have a := B.y j hj
  have b := (B.line j hj).b0
  have c := (B.line j hj).b1
  have := mule (X := 10000000) a.1 a.2 c (by omega)
  omega
include B in
theorem tb_bound (i : Nat) (hi : i ≤ L.length) : -390000000000 ≤ tbS L y i ∧ tbS L y i ≤ 390000000000 := by
  have h := sumTo_bound (f := fun j => -(rd y (j : Int) * (rd_T51 L (j : Int)).f1)) (M := 10000000000) (n := L.length) (fun j hj => by have := tb_at mt L D y B j hj; omega) i hi
  have := B.n
  unfold tbS
  omega
include B in
theorem c_at (i : Nat) (hi : i < mt.length) (j : Nat) (hj : j < L.length) : -1200000000000 ≤ rd y (j : Int) * rd (rd_T51 L (j : Int)).f0 (i : Int) ∧ rd y (j : Int) * rd (rd_T51 L (j : Int)).f0 (i : Int) ≤ 1200000000000 := by
  have a := B.y j hj
  have b := (B.line j hj).at_ i hi
  have := mule (X := 1200000000) a.1 a.2 b.1 b.2
  omega
include H B in
theorem price_bound (i : Nat) (hi : i < mt.length) : 0 ≤ D * (rd_T63 mt (i : Int)).f1 ∧ D * (rd_T63 mt (i : Int)).f1 ≤ 10000000000 := by
  have a := (H.mats i hi).price
  have b := B.d
  have e1 := Int.mul_le_mul_of_nonneg_right b.2 a.1
  have e2 := Int.mul_nonneg b.1 a.1
  omega
include H B in
theorem c_bound (i : Nat) (hi : i < mt.length) (n : Nat) (hn : n ≤ L.length) : -47000000000000 ≤ cS_ mt L D y i n ∧ cS_ mt L D y i n ≤ 47000000000000 := by
  have h := sumTo_bound (f := fun j => rd y (j : Int) * rd (rd_T51 L (j : Int)).f0 (i : Int)) (M := 1200000000000) (n := L.length) (fun j hj => c_at mt L D y B i hi j hj) n hn
  have h1 := price_bound o mt s p a4 a5 a6 L D y H B i hi
  have := B.n
  unfold cS_
  omega
theorem most_eq {x : S63} {n : Nat} (M : MatOk n x) : x.f3 ≤ mostM x ∧ mostM x ≤ x.f4 ∧ (-10000 ≤ x.f4 - x.f3 ∧ x.f4 - x.f3 ≤ 10000) ∧ mostM x = x.f3 + Int.tdiv (x.f4 - x.f3) x.f5 * x.f5 ∧ 0 ≤ Int.tdiv (x.f4 - x.f3) x.f5 ∧ Int.tdiv (x.f4 - x.f3) x.f5 ≤ 10000 := by
  have h1 := M.least
  have h2 := M.most
  have h3 := M.step
  have e1 := Int.mul_tdiv_add_tmod (x.f4 - x.f3) x.f5
  have e2 := Int.tmod_nonneg (a := x.f4 - x.f3) x.f5 (by omega)
  have e3 : Int.tdiv (x.f4 - x.f3) x.f5 = (x.f4 - x.f3) / x.f5 := Int.tdiv_eq_ediv_of_nonneg (by omega)
  have e4 : 0 ≤ (x.f4 - x.f3) / x.f5 := Int.ediv_nonneg (by omega) (by omega)
  have e5 : x.f5 * Int.tdiv (x.f4 - x.f3) x.f5 = Int.tdiv (x.f4 - x.f3) x.f5 * x.f5 := Int.mul_comm _ _
  have e6 : 0 ≤ Int.tdiv (x.f4 - x.f3) x.f5 * x.f5 := Int.mul_nonneg (by omega) (by omega)
  have e7 := Int.ediv_le_self x.f5 (show 0 ≤ x.f4 - x.f3 by omega)
  unfold mostM
  refine ⟨?_, ?_, ?_, ?_, ?_, ?_⟩ <;> omega
theorem mulf {c x : Int} (h1 : -47000000000000 ≤ c) (h2 : c ≤ 47000000000000) (h3 : 0 ≤ x) (h4 : x ≤ 10000) : -470000000000000000 ≤ c * x ∧ c * x ≤ 470000000000000000 := by
  have e1 := Int.mul_le_mul_of_nonneg_right h1 h3
  have e2 := Int.mul_le_mul_of_nonneg_right h2 h3
  omega
include H B in
theorem g_bound (i : Nat) (hi : i < mt.length) : -470000000000000000 ≤ gM mt L D y i ∧ gM mt L D y i ≤ 470000000000000000 := by
  have M := H.mats i hi
  have hm := most_eq M
  have h1 := M.least
  have h2 := M.most
  have c := c_bound o mt s p a4 a5 a6 L D y H B i hi L.length (Nat.le_refl _)
  exact mn_in (mulf c.1 c.2 h1.1 h1.2) (mulf c.1 c.2 (by omega) (by omega))
include H B in
theorem V_bound (i : Nat) (hi : i ≤ mt.length) : -6000000000000000000 ≤ tbS L y L.length + sumTo (gM mt L D y) i ∧ tbS L y L.length + sumTo (gM mt L D y) i ≤ 6000000000000000000 := by
  have h := sumTo_bound (f := gM mt L D y) (M := 470000000000000000) (n := mt.length) (fun j hj => g_bound o mt s p a4 a5 a6 L D y H B j hj) i hi
  have h2 := tb_bound mt L D y B L.length (Nat.le_refl _)
  have := H.m12
  omega
include H B in
theorem least_l2 (i : Nat) (hi : i < mt.length) (x7 v : Int) (hv : Ev (fun k => batch_least.l1 k L (wrap64 (x7 + gM mt L D y i)) mt (mt.length : Int) (wrap64 ((i : Int) + 1)) D y) v) :
    ∀ (m j : Nat), j + m = L.length → Ev (fun k => batch_least.l2 k L x7 (i : Int) (cS_ mt L D y i j) mt (mt.length : Int) (i : Int) L (L.length : Int) (j : Int) D y (rd_T63 mt (i : Int)).f0 (rd_T63 mt (i : Int)).f1 (rd_T63 mt (i : Int)).f2 (rd_T63 mt (i : Int)).f3 (rd_T63 mt (i : Int)).f4 (rd_T63 mt (i : Int)).f5 (rd_T63 mt (i : Int)).f6) v
  | 0, j, hj => by
    have M := H.mats i hi
    have hm := most_eq M
    have h1 := M.least
    have h2 := M.most
    have h3 := M.step
    obtain rfl : j = L.length := by omega
    have c := c_bound o mt s p a4 a5 a6 L D y H B i hi L.length (Nat.le_refl _)
    have b1 := mulf c.1 c.2 h1.1 h1.2
    have b2 := mulf c.1 c.2 (show 0 ≤ mostM (rd_T63 mt (i : Int)) by omega) (by omega)
    have e : wrap64 ((rd_T63 mt (i : Int)).f4 - Int.tmod ((rd_T63 mt (i : Int)).f4 - (rd_T63 mt (i : Int)).f3) (rd_T63 mt (i : Int)).f5) = mostM (rd_T63 mt (i : Int)) := wrap_id (by unfold mostM at *; omega) (by unfold mostM at *; omega)
    apply Ev.step
    simp only [batch_least.l2, if_neg (show ¬ (L.length : Int) < (L.length : Int) by omega), if_neg (show ¬ (rd_T63 mt (i : Int)).f5 = 0 by omega)]
    rw [wrap_id (x := (rd_T63 mt (i : Int)).f4 - (rd_T63 mt (i : Int)).f3) (by omega) (by omega), e, wrap_id (x := cS_ mt L D y i L.length * (rd_T63 mt (i : Int)).f3) (by omega) (by omega), wrap_id (x := cS_ mt L D y i L.length * mostM (rd_T63 mt (i : Int))) (by omega) (by omega)]
    exact hv
  | m + 1, j, hj => by
    have ih := least_l2 i hi x7 v hv m (j + 1) (by omega)
    have hl := (B.line j (by omega)).len
    have hyl := B.len
    have hn := B.n
    have a := c_at mt L D y B i hi j (by omega)
    have b := c_bound o mt s p a4 a5 a6 L D y H B i hi (j + 1) (by omega)
    have e : cS_ mt L D y i j + rd y (j : Int) * rd (rd_T51 L (j : Int)).f0 (i : Int) = cS_ mt L D y i (j + 1) := by unfold cS_; simp only [sumTo]; omega
    apply Ev.step
    simp only [batch_least.l2, if_pos (show (j : Int) < (L.length : Int) by omega), if_pos (i_pos j), if_pos (show (j : Int) < (y.length : Int) by omega), if_pos (i_pos i), if_pos (show (i : Int) < ((rd_T51 L (j : Int)).f0.length : Int) by omega), wrap_succ (i_pos j) (show (j : Int) ≤ 1000000000 by omega)]
    rw [wrap_id (x := rd y (j : Int) * rd (rd_T51 L (j : Int)).f0 (i : Int)) (by omega) (by omega), e, wrap_id (by omega) (by omega)]
    exact ih
include H B in
theorem least_l1 : ∀ (m i : Nat), i + m = mt.length → Ev (fun k => batch_least.l1 k L (tbS L y L.length + sumTo (gM mt L D y) i) mt (mt.length : Int) (i : Int) D y) (bdV mt L D y)
  | 0, i, hi => by
    obtain rfl : i = mt.length := by omega
    apply Ev.step
    simp only [batch_least.l1, if_neg (show ¬ (mt.length : Int) < (mt.length : Int) by omega)]
    exact Ev.const _
  | m + 1, i, hi => by
    have ih := least_l1 m (i + 1) (by omega)
    have hm := H.m12
    have hp := price_bound o mt s p a4 a5 a6 L D y H B i (by omega)
    have hV := V_bound o mt s p a4 a5 a6 L D y H B (i + 1) (by omega)
    have hl := least_l2 o mt s p a4 a5 a6 L D y H B i (by omega) (tbS L y L.length + sumTo (gM mt L D y) i) (bdV mt L D y) (by
      rw [wrap_succ (i_pos i) (show (i : Int) ≤ 1000000000 by omega)]
      have e : tbS L y L.length + sumTo (gM mt L D y) i + gM mt L D y i = tbS L y L.length + sumTo (gM mt L D y) (i + 1) := by simp only [sumTo]; omega
      rw [e, wrap_id (by omega) (by omega)]
      exact ih) L.length 0 (by omega)
    have e0 : cS_ mt L D y i 0 = D * (rd_T63 mt (i : Int)).f1 := by unfold cS_; simp [sumTo]
    rw [e0] at hl
    apply Ev.step
    simp only [batch_least.l1, if_pos (show (i : Int) < (mt.length : Int) by omega), if_pos (i_pos i)]
    rw [wrap_id (x := D * (rd_T63 mt (i : Int)).f1) (by omega) (by omega)]
    exact hl
include H B in
theorem least_l0 : ∀ (m i : Nat), i + m = L.length → Ev (fun k => batch_least.l0 k L (tbS L y i) L (L.length : Int) (i : Int) o mt s p a4 a5 a6 D y) (bdV mt L D y)
  | 0, i, hi => by
    obtain rfl : i = L.length := by omega
    have h := least_l1 o mt s p a4 a5 a6 L D y H B mt.length 0 (by omega)
    have e : tbS L y L.length + sumTo (gM mt L D y) 0 = tbS L y L.length := by simp [sumTo]
    rw [e] at h
    apply Ev.step
    simp only [batch_least.l0, if_neg (show ¬ (L.length : Int) < (L.length : Int) by omega)]
    exact h
  | m + 1, i, hi => by
    have ih := least_l0 m (i + 1) (by omega)
    have hyl := B.len
    have hn := B.n
    have a := tb_at mt L D y B i (by omega)
    have b := tb_bound mt L D y B (i + 1) (by omega)
    have e : tbS L y i - rd y (i : Int) * (rd_T51 L (i : Int)).f1 = tbS L y (i + 1) := by unfold tbS; simp only [sumTo]; omega
    apply Ev.step
    simp only [batch_least.l0, if_pos (show (i : Int) < (L.length : Int) by omega), if_pos (i_pos i), if_pos (show (i : Int) < (y.length : Int) by omega), wrap_succ (i_pos i) (show (i : Int) ≤ 1000000000 by omega)]
    rw [wrap_id (x := rd y (i : Int) * (rd_T51 L (i : Int)).f1) (by omega) (by omega), e, wrap_id (by omega) (by omega)]
    exact ih
def upV (v : Int) : Int := (batch_up.f v D).getD 0
def bndV : Int × Bool × Int := if D = 0 then (0, decide (bdV mt L D y > 0), 0) else (upV D (bdV mt L D y), false, 0)
include H B in
theorem up_eq (hD : D ≠ 0) : batch_up.f (bdV mt L D y) D = some (upV D (bdV mt L D y)) ∧ rf_ceiling.f (bdV mt L D y) D = some (upV D (bdV mt L D y)) := by
  have hV := V_bound o mt s p a4 a5 a6 L D y H B mt.length (Nat.le_refl _)
  have hd := B.d
  obtain ⟨v, e1, e2⟩ := ups (n := bdV mt L D y) (d := D) (by omega) (by unfold bdV; omega) (by unfold bdV; omega)
  unfold upV
  rw [e1, e2]
  exact ⟨rfl, rfl⟩
include H B in
theorem bound_j0 : Ev (fun k => batch_Bound.j0 k L false o mt s p a4 a5 a6 D y) (bndV mt L D y) := by
  have h := least_l0 o mt s p a4 a5 a6 L D y H B L.length 0 (by omega)
  apply Ev.step
  simp only [batch_Bound.j0, Bool.false_eq_true, if_false]
  unfold batch_least.f
  refine Ev.bind h ?_
  unfold bndV
  by_cases hD : D = 0
  · simp only [if_pos hD]; exact Ev.const _
  · simp only [if_neg hD, (up_eq o mt s p a4 a5 a6 L D y H B hD).1, Option.bind_some]; exact Ev.const _
include H in
theorem ref_g (i : Nat) (hi : i < mt.length) : gM mt L D y i = if cS_ mt L D y i L.length ≥ 0 then cS_ mt L D y i L.length * (rd_T63 mt (i : Int)).f3 else cS_ mt L D y i L.length * mostM (rd_T63 mt (i : Int)) := by
  have M := H.mats i hi
  have hm := most_eq M
  unfold gM mn
  by_cases h : cS_ mt L D y i L.length ≥ 0
  · rw [if_pos h]
    have e := Int.mul_le_mul_of_nonneg_left hm.1 h
    rw [if_neg (by omega)]
  · rw [if_neg h]
    have e := Int.mul_le_mul_of_nonpos_left (show cS_ mt L D y i L.length ≤ 0 by omega) hm.1
    split <;> omega
include H B in
theorem ref_l2 (i : Nat) (hi : i < mt.length) (x9 : Int) (v : Int × Bool × Int) (hv : Ev (fun k => rf_Bound.l1 k L (wrap64 (x9 + gM mt L D y i)) (wrap64 ((i : Int) + 1)) o mt s p a4 a5 a6 D y) v) :
    ∀ (m j : Nat), j + m = L.length → Ev (fun k => rf_Bound.l2 k L x9 (i : Int) (cS_ mt L D y i j) (j : Int) o mt s p a4 a5 a6 D y (rd_T63 mt (i : Int)).f0 (rd_T63 mt (i : Int)).f1 (rd_T63 mt (i : Int)).f2 (rd_T63 mt (i : Int)).f3 (rd_T63 mt (i : Int)).f4 (rd_T63 mt (i : Int)).f5 (rd_T63 mt (i : Int)).f6) v
  | 0, j, hj => by
    have M := H.mats i hi
    have hm := most_eq M
    have h1 := M.least
    have h2 := M.most
    have h3 := M.step
    obtain rfl : j = L.length := by omega
    have c := c_bound o mt s p a4 a5 a6 L D y H B i hi L.length (Nat.le_refl _)
    have b1 := mulf c.1 c.2 h1.1 h1.2
    have b2 := mulf c.1 c.2 (show 0 ≤ mostM (rd_T63 mt (i : Int)) by omega) (by omega)
    have g := ref_g o mt s p a4 a5 a6 L D y H i hi
    rw [g] at hv
    apply Ev.step
    by_cases hc : cS_ mt L D y i L.length ≥ 0
    · rw [if_pos hc] at hv
      simp only [rf_Bound.l2, if_neg (show ¬ (L.length : Int) < (L.length : Int) by omega), if_pos hc]
      rw [wrap_id (x := cS_ mt L D y i L.length * (rd_T63 mt (i : Int)).f3) (by omega) (by omega)]
      exact hv
    · rw [if_neg hc] at hv
      simp only [rf_Bound.l2, if_neg (show ¬ (L.length : Int) < (L.length : Int) by omega), if_neg hc, if_neg (show ¬ (rd_T63 mt (i : Int)).f5 = 0 by omega)]
      rw [wrap_id (x := (rd_T63 mt (i : Int)).f4 - (rd_T63 mt (i : Int)).f3) (by omega) (by omega), wrap_id (x := Int.tdiv ((rd_T63 mt (i : Int)).f4 - (rd_T63 mt (i : Int)).f3) (rd_T63 mt (i : Int)).f5) (by omega) (by omega), wrap_id (x := Int.tdiv ((rd_T63 mt (i : Int)).f4 - (rd_T63 mt (i : Int)).f3) (rd_T63 mt (i : Int)).f5 * (rd_T63 mt (i : Int)).f5) (by omega) (by omega), ← hm.2.2.2.1, wrap_id (x := mostM (rd_T63 mt (i : Int))) (by omega) (by omega), wrap_id (x := cS_ mt L D y i L.length * mostM (rd_T63 mt (i : Int))) (by omega) (by omega)]
      exact hv
  | m + 1, j, hj => by
    have ih := ref_l2 i hi x9 v hv m (j + 1) (by omega)
    have hl := (B.line j (by omega)).len
    have hyl := B.len
    have hn := B.n
    have a := c_at mt L D y B i hi j (by omega)
    have b := c_bound o mt s p a4 a5 a6 L D y H B i hi (j + 1) (by omega)
    have e : cS_ mt L D y i j + rd y (j : Int) * rd (rd_T51 L (j : Int)).f0 (i : Int) = cS_ mt L D y i (j + 1) := by unfold cS_; simp only [sumTo]; omega
    apply Ev.step
    simp only [rf_Bound.l2, if_pos (show (j : Int) < (L.length : Int) by omega), if_pos (i_pos j), if_pos (show (j : Int) < (y.length : Int) by omega), if_pos (i_pos i), if_pos (show (i : Int) < ((rd_T51 L (j : Int)).f0.length : Int) by omega), wrap_succ (i_pos j) (show (j : Int) ≤ 1000000000 by omega)]
    rw [wrap_id (x := rd y (j : Int) * rd (rd_T51 L (j : Int)).f0 (i : Int)) (by omega) (by omega), e, wrap_id (by omega) (by omega)]
    exact ih
include H B in
theorem ref_l1 : ∀ (m i : Nat), i + m = mt.length → Ev (fun k => rf_Bound.l1 k L (tbS L y L.length + sumTo (gM mt L D y) i) (i : Int) o mt s p a4 a5 a6 D y) (bndV mt L D y)
  | 0, i, hi => by
    obtain rfl : i = mt.length := by omega
    apply Ev.step
    simp only [rf_Bound.l1, if_neg (show ¬ (mt.length : Int) < (mt.length : Int) by omega)]
    unfold bndV
    by_cases hD : D = 0
    · simp only [if_pos hD]; exact Ev.const _
    · have h := (up_eq o mt s p a4 a5 a6 L D y H B hD).2
      unfold bdV at h
      simp only [if_neg hD, h, Option.bind_some]; exact Ev.const _
  | m + 1, i, hi => by
    have ih := ref_l1 m (i + 1) (by omega)
    have hm := H.m12
    have hp := price_bound o mt s p a4 a5 a6 L D y H B i (by omega)
    have hV := V_bound o mt s p a4 a5 a6 L D y H B (i + 1) (by omega)
    have hl := ref_l2 o mt s p a4 a5 a6 L D y H B i (by omega) (tbS L y L.length + sumTo (gM mt L D y) i) (bndV mt L D y) (by
      rw [wrap_succ (i_pos i) (show (i : Int) ≤ 1000000000 by omega)]
      have e : tbS L y L.length + sumTo (gM mt L D y) i + gM mt L D y i = tbS L y L.length + sumTo (gM mt L D y) (i + 1) := by simp only [sumTo]; omega
      rw [e, wrap_id (by omega) (by omega)]
      exact ih) L.length 0 (by omega)
    have e0 : cS_ mt L D y i 0 = D * (rd_T63 mt (i : Int)).f1 := by unfold cS_; simp [sumTo]
    rw [e0] at hl
    apply Ev.step
    simp only [rf_Bound.l1, if_pos (show (i : Int) < (mt.length : Int) by omega), if_pos (i_pos i)]
    rw [wrap_id (x := D * (rd_T63 mt (i : Int)).f1) (by omega) (by omega)]
    exact hl
include H B in
theorem ref_l0 : ∀ (m i : Nat), i + m = L.length → Ev (fun k => rf_Bound.l0 k L (tbS L y i) (i : Int) o mt s p a4 a5 a6 D y) (bndV mt L D y)
  | 0, i, hi => by
    obtain rfl : i = L.length := by omega
    have h := ref_l1 o mt s p a4 a5 a6 L D y H B mt.length 0 (by omega)
    have e : tbS L y L.length + sumTo (gM mt L D y) 0 = tbS L y L.length := by simp [sumTo]
    rw [e] at h
    apply Ev.step
    simp only [rf_Bound.l0, if_neg (show ¬ (L.length : Int) < (L.length : Int) by omega)]
    exact h
  | m + 1, i, hi => by
    have ih := ref_l0 m (i + 1) (by omega)
    have hyl := B.len
    have hn := B.n
    have hy := B.y i (by omega)
    have a := tb_at mt L D y B i (by omega)
    have b := tb_bound mt L D y B (i + 1) (by omega)
    have e : tbS L y i - rd y (i : Int) * (rd_T51 L (i : Int)).f1 = tbS L y (i + 1) := by unfold tbS; simp only [sumTo]; omega
    apply Ev.step
    simp only [rf_Bound.l0, if_pos (show (i : Int) < (L.length : Int) by omega), if_pos (i_pos i), if_pos (show (i : Int) < (y.length : Int) by omega), if_neg (show ¬ rd y (i : Int) < 0 by omega), if_neg (show ¬ rd y (i : Int) > 1000 by omega), wrap_succ (i_pos i) (show (i : Int) ≤ 1000000000 by omega)]
    rw [wrap_id (x := rd y (i : Int) * (rd_T51 L (i : Int)).f1) (by omega) (by omega), e, wrap_id (by omega) (by omega)]
    exact ih
end
end Go.Proofs.Ytkjkokgbhepmoaa.PB

namespace Go.Proofs.Ytkjkokgbhepmoaa.PB
open Go.RowKit Go.Proofs.YtkjkokgbhepmoaaW.PrintWords Go.Proofs.YtkjkokgbhepmoaaW.PrintLast Go.Proofs.YtkjkokgbhepmoaaW.PrintMore
theorem out_any {y : List Int} (h : y.any (outside 0 1000) = false) (j : Nat) (hj : j < y.length) : 0 ≤ rd y (j : Int) ∧ rd y (j : Int) ≤ 1000 := by
  have hm : rd y (j : Int) ∈ y := by
    have : rd y (j : Int) = y[j] := by simp [rd, hj]
    rw [this]; exact List.getElem_mem hj
  have hn : outside 0 1000 (rd y (j : Int)) = false := by
    cases ho : outside 0 1000 (rd y (j : Int)) with
    | false => rfl
    | true => rw [List.any_eq_true.mpr ⟨_, hm, ho⟩] at h; cases h
  simp [outside] at hn; omega
theorem any_out {y : List Int} (h : y.any (outside 0 1000) = true) : ∃ j : Nat, j < y.length ∧ (rd y (j : Int) < 0 ∨ rd y (j : Int) > 1000) := by
  obtain ⟨x, hx, ho⟩ := List.any_eq_true.1 h
  obtain ⟨j, hj, rfl⟩ := List.getElem_of_mem hx
  refine ⟨j, hj, ?_⟩
  have : rd y (j : Int) = y[j] := by simp [rd, hj]
  rw [this]
  simp [outside] at ho; omega
section
variable (o : List ByteArray) (mt : List S63) (s : List S27) (p : List S65) (a4 a5 a6 : Int) (D : Int) (y : List Int)
theorem ref_bad (L : List S51) (hn : L.length ≤ 39) (hl : y.length = L.length) : ∀ (m i : Nat) (x9 : Int), i + m = L.length → (∃ j : Nat, i ≤ j ∧ j < L.length ∧ (rd y (j : Int) < 0 ∨ rd y (j : Int) > 1000)) → Ev (fun k => rf_Bound.l0 k L x9 (i : Int) o mt s p a4 a5 a6 D y) (0, false, 1)
  | 0, i, x9, hi, ⟨j, h1, h2, h3⟩ => by omega
  | m + 1, i, x9, hi, ⟨j, h1, h2, h3⟩ => by
    apply Ev.step
    simp only [rf_Bound.l0, if_pos (show (i : Int) < (L.length : Int) by omega), if_pos (i_pos i), if_pos (show (i : Int) < (y.length : Int) by omega), wrap_succ (i_pos i) (show (i : Int) ≤ 1000000000 by omega)]
    by_cases ha : rd y (i : Int) < 0
    · simp only [if_pos ha]; exact Ev.const _
    · by_cases hb : rd y (i : Int) > 1000
      · simp only [if_neg ha, if_pos hb]; exact Ev.const _
      · simp only [if_neg ha, if_neg hb]
        have hne : j ≠ i := by intro e; subst e; omega
        exact ref_bad L hn hl m (i + 1) _ (by omega) ⟨j, by omega, h2, h3⟩
def boundR : Int × Bool × Int :=
  if checkV o mt s p a4 a5 a6 = 0 then
    (if (0 ≤ D ∧ D ≤ 1000000) ∧ y.length = (linesV mt s p a4 a5 a6).length ∧ y.any (outside 0 1000) = false then bndV mt (linesV mt s p a4 a5 a6) D y else (0, false, 1))
  else (0, false, checkV o mt s p a4 a5 a6)
theorem bd_ok (H : BatchOk o mt s p a4 a5 a6) (h : (0 ≤ D ∧ D ≤ 1000000) ∧ y.length = (linesV mt s p a4 a5 a6).length ∧ y.any (outside 0 1000) = false) : BdOk mt.length (linesV mt s p a4 a5 a6) D y := by
  have h1 := H.slen; have h2 := H.o12; have h3 := H.p6
  refine ⟨by rw [linesV_len]; omega, fun j hj => ?_, h.1, h.2.1, fun j hj => out_any h.2.2 j (by rw [h.2.1]; exact hj)⟩
  have e : rd_T51 (linesV mt s p a4 a5 a6) (j : Int) = (linesV mt s p a4 a5 a6)[j] := by simp [rd_T51, List.getD, hj]
  rw [e]
  exact lines_ln H _ (List.getElem_mem hj)
theorem jb_true (L : List S51) : Ev (fun k => batch_Bound.j0 k L true o mt s p a4 a5 a6 D y) (0, false, 1) := by
  apply Ev.step
  simp only [batch_Bound.j0, if_true]
  exact Ev.const _
theorem jr_true (L : List S51) : Ev (fun k => rf_Bound.j0 k L true o mt s p a4 a5 a6 D y) (0, false, 1) := by
  apply Ev.step
  simp only [rf_Bound.j0, if_true]
  exact Ev.const _
theorem bBound : Ev (fun k => batch_Bound.f k o mt s p a4 a5 a6 D y) (boundR o mt s p a4 a5 a6 D y) := by
  unfold batch_Bound.f boundR
  refine Ev.bind (bcheck o mt s p a4 a5 a6) ?_
  by_cases hc : checkV o mt s p a4 a5 a6 = 0
  · have H := check_ok hc
    simp only [if_pos hc, x_lines.f, Option.bind_some, batch_within.f, x_weights.f]
    by_cases hd : D ≥ 0
    · by_cases hd2 : D ≤ 1000000
      · simp only [if_pos hd, decide_eq_true hd2, Option.bind_some, if_true]
        by_cases hl : (y.length : Int) = ((linesV mt s p a4 a5 a6).length : Int)
        · simp only [if_pos hl]
          cases hw : y.any (outside 0 1000) with
          | true =>
            rw [if_neg (fun h => by cases h.2.2)]
            exact jb_true o mt s p a4 a5 a6 D y _
          | false =>
            have hall : (0 ≤ D ∧ D ≤ 1000000) ∧ y.length = (linesV mt s p a4 a5 a6).length ∧ y.any (outside 0 1000) = false := ⟨⟨hd, hd2⟩, by omega, hw⟩
            rw [if_pos ⟨⟨hd, hd2⟩, by omega, rfl⟩]
            exact bound_j0 o mt s p a4 a5 a6 _ D y H (bd_ok o mt s p a4 a5 a6 D y H hall)
        · rw [if_neg (fun h => hl (by rw [h.2.1]))]
          simp only [if_neg hl]
          exact jb_true o mt s p a4 a5 a6 D y _
      · rw [if_neg (show ¬ ((0 ≤ D ∧ D ≤ 1000000) ∧ y.length = (linesV mt s p a4 a5 a6).length ∧ y.any (outside 0 1000) = false) from fun h => hd2 h.1.2)]
        simp only [if_pos hd, decide_eq_false hd2, Option.bind_some, Bool.false_eq_true, if_false]
        exact jb_true o mt s p a4 a5 a6 D y _
    · rw [if_neg (show ¬ ((0 ≤ D ∧ D ≤ 1000000) ∧ y.length = (linesV mt s p a4 a5 a6).length ∧ y.any (outside 0 1000) = false) from fun h => hd h.1.1)]
      simp only [if_neg hd, Option.bind_some, Bool.false_eq_true, if_false]
      exact jb_true o mt s p a4 a5 a6 D y _
  · simp only [if_neg hc]; exact Ev.const _
theorem rBound : Ev (fun k => rf_Bound.f k o mt s p a4 a5 a6 D y) (boundR o mt s p a4 a5 a6 D y) := by
  unfold rf_Bound.f boundR
  refine Ev.bind (rcheck o mt s p a4 a5 a6) ?_
  by_cases hc : checkV o mt s p a4 a5 a6 = 0
  · have H := check_ok hc
    have h1 := H.slen; have h2 := H.o12; have h3 := H.p6
    have hll : (linesV mt s p a4 a5 a6).length ≤ 39 := by rw [linesV_len]; omega
    simp only [if_pos hc, x_AllLines.f, Option.bind_some]
    by_cases hd : D < 0
    · rw [if_neg (show ¬ ((0 ≤ D ∧ D ≤ 1000000) ∧ y.length = (linesV mt s p a4 a5 a6).length ∧ y.any (outside 0 1000) = false) from fun h => by have := h.1.1; omega)]
      simp only [if_pos hd]
      exact jr_true o mt s p a4 a5 a6 D y _
    · by_cases hd2 : D > 1000000
      · rw [if_neg (show ¬ ((0 ≤ D ∧ D ≤ 1000000) ∧ y.length = (linesV mt s p a4 a5 a6).length ∧ y.any (outside 0 1000) = false) from fun h => by have := h.1.2; omega)]
        simp only [if_neg hd, if_pos hd2]
        exact jr_true o mt s p a4 a5 a6 D y _
      · simp only [if_neg hd, if_neg hd2]
        by_cases hl : y.length = (linesV mt s p a4 a5 a6).length
        · simp only [hl, bne_self_eq_false]
          apply Ev.step
          simp only [rf_Bound.j0, Bool.false_eq_true, if_false]
          cases hw : y.any (outside 0 1000) with
          | true =>
            rw [if_neg (fun h => by cases h.2.2)]
            obtain ⟨j, hj, hb⟩ := any_out hw
            exact ref_bad o mt s p a4 a5 a6 D y _ hll hl _ 0 0 (by rw [Nat.zero_add]) ⟨j, by omega, by omega, hb⟩
          | false =>
            have hall : (0 ≤ D ∧ D ≤ 1000000) ∧ y.length = (linesV mt s p a4 a5 a6).length ∧ y.any (outside 0 1000) = false := ⟨⟨by omega, by omega⟩, hl, hw⟩
            rw [if_pos ⟨⟨by omega, by omega⟩, trivial, rfl⟩]
            exact ref_l0 o mt s p a4 a5 a6 _ D y H (bd_ok o mt s p a4 a5 a6 D y H hall) _ 0 (by rw [Nat.zero_add])
        · rw [if_neg (fun h => hl h.2.1)]
          have hb : ((y.length : Int) != ((linesV mt s p a4 a5 a6).length : Int)) = true := by
            rw [bne_iff_ne]; intro e; exact hl (by omega)
          simp only [hb]
          exact jr_true o mt s p a4 a5 a6 D y _
  · simp only [if_neg hc]; exact Ev.const _
variable (r q : List Int) (n b3 b4 : Int) (l5 : List Int)
theorem bounds_j0 (b : Bool) : Ev (fun k => lw_BatchBounds.j0 k b o mt s p a4 a5 a6 r q n b3 b4 l5) true := by
  apply Ev.step
  cases b with
  | true => simp only [lw_BatchBounds.j0, if_true]; exact Ev.bind lives_ev (Ev.const _)
  | false =>
    simp only [lw_BatchBounds.j0, Bool.false_eq_true, if_false]
    refine Ev.bind (bBound o mt s p a4 a5 a6 b4 l5) (Ev.bind (rBound o mt s p a4 a5 a6 b4 l5) ?_)
    simp only [BEq.rfl, if_true]
    exact Ev.bind lives_ev (Ev.const _)
theorem BatchBounds_true : ∃ k, lw_BatchBounds.f k o mt s p a4 a5 a6 r q n b3 b4 l5 = some true := by
  obtain ⟨b, hb⟩ := great o mt s p a4 a5 a6
  obtain ⟨w, hw⟩ := wide_ev r q n b3 b4 l5
  have h : Ev (fun k => lw_BatchBounds.f k o mt s p a4 a5 a6 r q n b3 b4 l5) true := by
    unfold lw_BatchBounds.f
    refine Ev.bind hb ?_
    cases b with
    | true => simp only [if_true]; exact bounds_j0 o mt s p a4 a5 a6 r q n b3 b4 l5 true
    | false =>
      simp only [Bool.false_eq_true, if_false, hw, Option.bind_some]
      exact bounds_j0 o mt s p a4 a5 a6 r q n b3 b4 l5 w
  obtain ⟨K, hK⟩ := h
  exact ⟨K, hK K (Nat.le_refl _)⟩
end
end Go.Proofs.Ytkjkokgbhepmoaa.PB

