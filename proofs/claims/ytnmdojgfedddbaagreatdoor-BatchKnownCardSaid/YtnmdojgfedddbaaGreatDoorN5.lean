import Derived.Test.YtnmdojgfedddbaaGreatDoorN4
import Derived.KernelRfl
set_option linter.unusedVariables false
set_option linter.unusedSimpArgs false
set_option maxHeartbeats 8000000
set_option maxRecDepth 1000000
namespace Go.Proofs.YtnmdojgfedddbaaGreatDoor.PB
open Go.RowKit Go.Proofs.YtnmdojgfedddbaaGreatDoorW.PrintWords Go.Proofs.YtnmdojgfedddbaaGreatDoorW.PrintLast Go.Proofs.YtnmdojgfedddbaaGreatDoorW.PrintMore
section
attribute [local go_sem] max2_int min2_int max_two min_two max_three min_three max_four min_four
mutual
def b_least.l0 : Nat → List (S40) → Int → List (S40) → Int → Int → List ByteArray → List (S50) → List (S27) → List (S77) → Int → Int → Int → Int → List Int → Option (Int)
 | 0, _, _, _, _, _, _, _, _, _, _, _, _, _, _ => none
 | k + 1, x1, x7, x16, x17, x18, x184q0, x184q1, x184q2, x184q3, x184q4, x184q5, x184q6, x185q0, x185q1 => if x18 < x17 then (if 0 ≤ x18 then (if x18 < (x16.length : Int) then (if x18 < (x185q1.length : Int) then (b_least.l0 k x1 (wrap64 (x7 - (wrap64 ((rd x185q1 x18) * ((rd_T40 x16 x18).f1))))) x16 x17 (wrap64 (x18 + 1)) x184q0 x184q1 x184q2 x184q3 x184q4 x184q5 x184q6 x185q0 x185q1) else (none)) else (none)) else (none)) else (b_least.l1 k x1 x7 x184q1 (x184q1.length : Int) 0 x185q0 x185q1)
def b_least.l1 : Nat → List (S40) → Int → List (S50) → Int → Int → Int → List Int → Option (Int)
 | 0, _, _, _, _, _, _, _ => none
 | k + 1, x1, x7, x35, x36, x37, x185q0, x185q1 => if x37 < x36 then (if 0 ≤ x37 then (if x37 < (x35.length : Int) then (b_least.l2 k x1 x7 x37 (wrap64 (x185q0 * ((rd_T50 x35 x37).f1))) x35 x36 x37 x1 (x1.length : Int) 0 x185q0 x185q1 ((rd_T50 x35 x37).f0) ((rd_T50 x35 x37).f1) ((rd_T50 x35 x37).f2) ((rd_T50 x35 x37).f3) ((rd_T50 x35 x37).f4) ((rd_T50 x35 x37).f5) ((rd_T50 x35 x37).f6)) else (none)) else (none)) else (some x7)
def b_least.l2 : Nat → List (S40) → Int → Int → Int → List (S50) → Int → Int → List (S40) → Int → Int → Int → List Int → ByteArray → Int → Int → Int → Int → Int → List (S27) → Option (Int)
 | 0, _, _, _, _, _, _, _, _, _, _, _, _, _, _, _, _, _, _, _ => none
 | k + 1, x1, x7, x10, x12, x35, x36, x37, x47, x48, x49, x185q0, x185q1, x190q0, x190q1, x190q2, x190q3, x190q4, x190q5, x190q6 => if x49 < x48 then (if 0 ≤ x49 then (if x49 < (x47.length : Int) then (if x49 < (x185q1.length : Int) then (if 0 ≤ x10 then (if x10 < (((rd_T40 x47 x49).f0).length : Int) then (b_least.l2 k x1 x7 x10 (wrap64 (x12 + (wrap64 ((rd x185q1 x49) * (rd ((rd_T40 x47 x49).f0) x10))))) x35 x36 x37 x47 x48 (wrap64 (x49 + 1)) x185q0 x185q1 x190q0 x190q1 x190q2 x190q3 x190q4 x190q5 x190q6) else (none)) else (none)) else (none)) else (none)) else (none)) else (if x190q5 = 0 then (none) else (b_least.l1 k x1 (wrap64 (x7 + (mn (wrap64 (x12 * x190q3)) (wrap64 (x12 * (wrap64 (x190q4 - (Int.tmod (wrap64 (x190q4 - x190q3)) x190q5)))))))) x35 x36 (wrap64 (x37 + 1)) x185q0 x185q1))
end
def b_least.f (k : Nat) (l0_0 : List ByteArray) (l0_1 : List (S50)) (l0_2 : List (S27)) (l0_3 : List (S77)) (a0_4 : Int) (a0_5 : Int) (a0_6 : Int) (l1 : List (S40)) (a2_0 : Int) (l2_1 : List Int) : Option (Int) := b_least.l0 k l1 0 l1 (l1.length : Int) 0 l0_0 l0_1 l0_2 l0_3 a0_4 a0_5 a0_6 a2_0 l2_1
theorem b_least.calls (k : Nat) (A0_0 : Option Addr) (c0_0 : Nat) (l0_0 : List ByteArray) (A0_1 : Option Addr) (c0_1 : Nat) (l0_1 : List (S50)) (A0_2 : Option Addr) (c0_2 : Nat) (l0_2 : List (S27)) (A0_3 : Option Addr) (c0_3 : Nat) (l0_3 : List (S77)) (a0_4 : Int) (a0_5 : Int) (a0_6 : Int) (A1 : Option Addr) (c1 : Nat) (l1 : List (S40)) (a2_0 : Int) (A2_1 : Option Addr) (c2_1 : Nat) (l2_1 : List Int) (r : Int) (w : World) (hr0_0 : Kd.C Kd.string w A0_0 l0_0.length l0_0) (hc0_0 : l0_0.length ≤ c0_0) (hr0_1 : Kd.C k50 w A0_1 l0_1.length l0_1) (hc0_1 : l0_1.length ≤ c0_1) (hr0_2 : Kd.C k27 w A0_2 l0_2.length l0_2) (hc0_2 : l0_2.length ≤ c0_2) (hr0_3 : Kd.C k77 w A0_3 l0_3.length l0_3) (hc0_3 : l0_3.length ≤ c0_3) (hr1 : Kd.C k40 w A1 l1.length l1) (hc1 : l1.length ≤ c1) (hr2_1 : Kd.C (Kd.int .i64) w A2_1 l2_1.length l2_1) (hc2_1 : l2_1.length ≤ c2_1) (h : b_least.f k l0_0 l0_1 l0_2 l0_3 a0_4 a0_5 a0_6 l1 a2_0 l2_1 = some r) :
  Calls Tryz.prog 29 #[.agg #[.slice A0_0 l0_0.length c0_0, .slice A0_1 l0_1.length c0_1, .slice A0_2 l0_2.length c0_2, .slice A0_3 l0_3.length c0_3, .int .i64 a0_4, .int .i64 a0_5, .int .i64 a0_6], .slice A1 l1.length c1, .agg #[.int .i64 a2_0, .slice A2_1 l2_1.length c2_1]] w fun e w' => e = .returned (.int .i64 r) ∧ Below w.heap.size w w' := by
 have hu29 := Tryz.underlying29; have hu46 := Tryz.underlying46; have hu40 := Tryz.underlying40; have hu50 := Tryz.underlying50; have HR0_0 := Sd.mk hr0_0; have HC0_0 := Sd.mk hc0_0; clear hr0_0 hc0_0; have HR0_1 := Sd.mk hr0_1; have HC0_1 := Sd.mk hc0_1; clear hr0_1 hc0_1; have HR0_2 := Sd.mk hr0_2; have HC0_2 := Sd.mk hc0_2; clear hr0_2 hc0_2; have HR0_3 := Sd.mk hr0_3; have HC0_3 := Sd.mk hc0_3; clear hr0_3 hc0_3; have HR1 := Sd.mk hr1; have HC1 := Sd.mk hc1; clear hr1 hc1; have HR2_1 := Sd.mk hr2_1; have HC2_1 := Sd.mk hc2_1; clear hr2_1 hc2_1; have HB := Sd.mk (Below.refl w.heap.size w)
 have H : (b_least.l0 k l1 0 l1 (l1.length : Int) 0 l0_0 l0_1 l0_2 l0_3 a0_4 a0_5 a0_6 a2_0 l2_1) = some r := h
 clear h; have H' := Sd.mk H; clear H
 go_enter Tryz.func29, Tryz.ntmps29
 go_wp2_with (first | ((with_reducible refine gate_dst (N := 3) rfl ?_); refine box_event ?hg (N := 3) ?hd (cs := #[.slice A0_0 l0_0.length c0_0, .slice A0_1 l0_1.length c0_1, .slice A0_2 l0_2.length c0_2, .slice A0_3 l0_3.length c0_3, .int .i64 a0_4, .int .i64 a0_5, .int .i64 a0_6]) (t := 29) ?hr ?_; (case hd => rfl); (case hg => rfl); (case hr => exact tG); intro gb183 hg w4 hbox hb; have BK183 := Sd.mk (hbox); have GW183 := Sd.mk (bSz hg (bBl HB.out)); have GE183 := Sd.mk (bSz hg (bBl HB.out)); replace HB := Sd.mk (below_step (bBl HB.out) hb); clear hb hbox hg) | ((with_reducible refine gate_dst (N := 5) rfl ?_); refine box_event ?hg (N := 5) ?hd (cs := #[.int .i64 a2_0, .slice A2_1 l2_1.length c2_1]) (t := 46) ?hr ?_; (case hd => rfl); (case hg => rfl); (case hr => exact tG); intro gb184 hg w5 hbox hb; have BK184 := Sd.mk (hbox); have GW184 := Sd.mk (bSz hg (bBl HB.out)); have GE184 := Sd.mk (bSz hg (bBl HB.out)); replace HB := Sd.mk (below_step (bBl HB.out) hb); have NB183_184 := Sd.mk (bNl hg (bkA BK183.out)); have NB184_183 := Sd.mk (bNg hg (bkA BK183.out)); replace BK183 := Sd.mk (blk_below (bkA BK183.out) hb); clear hb hbox hg))
 repeat (go_quiet (first | ((with_reducible refine gate_dst (N := 3) rfl ?_); refine box_event ?hg (N := 3) ?hd (cs := #[.slice A0_0 l0_0.length c0_0, .slice A0_1 l0_1.length c0_1, .slice A0_2 l0_2.length c0_2, .slice A0_3 l0_3.length c0_3, .int .i64 a0_4, .int .i64 a0_5, .int .i64 a0_6]) (t := 29) ?hr ?_; (case hd => rfl); (case hg => rfl); (case hr => exact tG); intro gb183 hg w4 hbox hb; have BK183 := Sd.mk (hbox); have GW183 := Sd.mk (bSz hg (bBl HB.out)); have GE183 := Sd.mk (bSz hg (bBl HB.out)); replace HB := Sd.mk (below_step (bBl HB.out) hb); clear hb hbox hg) | ((with_reducible refine gate_dst (N := 5) rfl ?_); refine box_event ?hg (N := 5) ?hd (cs := #[.int .i64 a2_0, .slice A2_1 l2_1.length c2_1]) (t := 46) ?hr ?_; (case hd => rfl); (case hg => rfl); (case hr => exact tG); intro gb184 hg w5 hbox hb; have BK184 := Sd.mk (hbox); have GW184 := Sd.mk (bSz hg (bBl HB.out)); have GE184 := Sd.mk (bSz hg (bBl HB.out)); replace HB := Sd.mk (below_step (bBl HB.out) hb); have NB183_184 := Sd.mk (bNl hg (bkA BK183.out)); have NB184_183 := Sd.mk (bNg hg (bkA BK183.out)); replace BK183 := Sd.mk (blk_below (bkA BK183.out) hb); clear hb hbox hg)); try go_wp2_with (first | ((with_reducible refine gate_dst (N := 3) rfl ?_); refine box_event ?hg (N := 3) ?hd (cs := #[.slice A0_0 l0_0.length c0_0, .slice A0_1 l0_1.length c0_1, .slice A0_2 l0_2.length c0_2, .slice A0_3 l0_3.length c0_3, .int .i64 a0_4, .int .i64 a0_5, .int .i64 a0_6]) (t := 29) ?hr ?_; (case hd => rfl); (case hg => rfl); (case hr => exact tG); intro gb183 hg w4 hbox hb; have BK183 := Sd.mk (hbox); have GW183 := Sd.mk (bSz hg (bBl HB.out)); have GE183 := Sd.mk (bSz hg (bBl HB.out)); replace HB := Sd.mk (below_step (bBl HB.out) hb); clear hb hbox hg) | ((with_reducible refine gate_dst (N := 5) rfl ?_); refine box_event ?hg (N := 5) ?hd (cs := #[.int .i64 a2_0, .slice A2_1 l2_1.length c2_1]) (t := 46) ?hr ?_; (case hd => rfl); (case hg => rfl); (case hr => exact tG); intro gb184 hg w5 hbox hb; have BK184 := Sd.mk (hbox); have GW184 := Sd.mk (bSz hg (bBl HB.out)); have GE184 := Sd.mk (bSz hg (bBl HB.out)); replace HB := Sd.mk (below_step (bBl HB.out) hb); have NB183_184 := Sd.mk (bNl hg (bkA BK183.out)); have NB184_183 := Sd.mk (bNg hg (bkA BK183.out)); replace BK183 := Sd.mk (blk_below (bkA BK183.out) hb); clear hb hbox hg)))
 go_loopg [7, 18] k (fun kq v7 v18 w' => ∃ (x7_1 : Int) (x18_1 : Int), v7 = .int .i64 x7_1 ∧ v18 = .int .i64 x18_1 ∧ Sd (b_least.l0 kq l1 x7_1 l1 (l1.length : Int) x18_1 l0_0 l0_1 l0_2 l0_3 a0_4 a0_5 a0_6 a2_0 l2_1 = some r) ∧ Sd (kq ≤ k) ∧ Sd (w'.heap[gb183]? = some (.cells #[(.slice A0_0 l0_0.length c0_0), (.slice A0_1 l0_1.length c0_1), (.slice A0_2 l0_2.length c0_2), (.slice A0_3 l0_3.length c0_3), .int .i64 a0_4, .int .i64 a0_5, .int .i64 a0_6] 29 (0, 0))) ∧ Sd (w'.heap[gb184]? = some (.cells #[.int .i64 a2_0, (.slice A2_1 l2_1.length c2_1)] 46 (0, 0))) ∧ Sd (Below w.heap.size w w'))
 case atStart => exact ⟨(0), (0), tS, tS, H', ⟨Nat.le_refl _⟩, ⟨bkA BK183.out⟩, ⟨bkA BK184.out⟩, ⟨bBl HB.out⟩⟩
 case round =>
  clear H'; (try clear c1); (try clear c2); (try clear p2); obtain ⟨x7_1, x18_1, rfl, rfl, HA, HK1, BK183, BK184, HB⟩ := hrel
  cases gk with
  | zero => exact absurd HA.out (by simp [b_least.l0])
  | succ k1 =>
   have H := HA.out; clear HA
   simp only [b_least.l0] at H
   by_cases c6 : x18_1 < (l1.length : Int)
   ·rw [if_pos c6] at H
    have c6b0 : decide (x18_1 < (l1.length : Int)) = true := decide_eq_true c6
    clear c6
    by_cases c7 : 0 ≤ x18_1
    ·rw [if_pos c7] at H
     have c7b0 : decide (0 ≤ x18_1) = true := decide_eq_true c7
     clear c7
     by_cases c8 : x18_1 < (l1.length : Int)
     ·rw [if_pos c8] at H
      have c8b0 : decide (x18_1 < (l1.length : Int)) = true := decide_eq_true c8
      clear c8
      by_cases c9 : x18_1 < (l2_1.length : Int)
      ·rw [if_pos c9] at H
       have c9b0 : decide (x18_1 < (l2_1.length : Int)) = true := decide_eq_true c9
       clear c9; have H' := Sd.mk H; clear H
       have p185 : 0 ≤ (x18_1 : Int) := tB
       have q185 : x18_1 < (l1.length : Int) := tB
       obtain ⟨ad185, A185_0, c185_0, e185, hx185_0, hx185_1, hl185_0, hi185_0⟩ := at_T40 HR1.out x18_1 p185 q185; cases e185; replace hx185_0 := cU HB hx185_0; replace hx185_1 := cU HB hx185_1; have HR185_0 := Sd.mk hi185_0; have HC185_0 := Sd.mk hl185_0; clear hi185_0 hl185_0; replace p185 := eq_true p185; replace q185 := eq_true q185
       go_wp2_with (first | ((with_reducible refine gate_dst (N := 9) rfl ?_); refine box_event ?hg (N := 9) ?hd (cs := #[.slice none 0 0, .int .i64 0]) (t := 40) ?hr ?_; (case hd => rfl); (case hg => rfl); (case hr => exact tG); intro gb186 hg w10 hbox hb; have BK186 := Sd.mk (hbox); have GW186 := Sd.mk (bSz hg (bBl HB.out)); have GE186 := Sd.mk (bSz hg (bBl HB.out)); replace HB := Sd.mk (below_step (bBl HB.out) hb); have NB183_186 := Sd.mk (bNl hg (bkA BK183.out)); have NB186_183 := Sd.mk (bNg hg (bkA BK183.out)); replace BK183 := Sd.mk (blk_below (bkA BK183.out) hb); have NB184_186 := Sd.mk (bNl hg (bkA BK184.out)); have NB186_184 := Sd.mk (bNg hg (bkA BK184.out)); replace BK184 := Sd.mk (blk_below (bkA BK184.out) hb); clear hb hbox hg; have hnb11 := NB186_183.out; have hnc11 := NB183_186.out; have hnb12 := NB186_184.out; have hnc12 := NB184_186.out; obtain ⟨u13_0, u13_1, o13_0, o13_1⟩ := bc2 (w := w10) BK186.out; have hnb14 := NB184_183.out; have hnc14 := NB183_184.out; obtain ⟨u15_0, u15_1, o15_0, o15_1⟩ := bc2 (w := w10) BK184.out; have p187 : 0 ≤ (x18_1 : Int) := tB; have q187 : x18_1 < (l2_1.length : Int) := tB; obtain ⟨ad187, e187, hx187_0⟩ := Kd.at_int HR2_1.out x18_1 p187 q187; cases e187; have hn187_0 : ad187.block ≠ gb186 := Nat.ne_of_lt (Nat.lt_of_lt_of_le (by have := World.block_lt_of_cell? _ _ hx187_0; first | rwa [add_block] at this | exact this) GW186.out); have hn187_1 : ad187.block ≠ gb186 := Nat.ne_of_lt (Nat.lt_of_lt_of_le (by have := World.block_lt_of_cell? _ _ hx187_0; first | rwa [add_block] at this | exact this) GW186.out); replace hx187_0 := cU HB hx187_0; replace hx187_0 := (cell_far (p := ⟨gb186, 0, none⟩) (by first | (rw [add_block]; exact hn187_0) | (show (Addr.add _ _).block ≠ _; rw [add_block]; exact hn187_0) | exact hn187_0) (.slice A185_0 ((rd_T40 l1 x18_1).f0).length c185_0)).trans hx187_0; replace hx187_0 := (cell_far (p := ⟨gb186, 1, none⟩) (by first | (rw [add_block]; exact hn187_1) | (show (Addr.add _ _).block ≠ _; rw [add_block]; exact hn187_1) | exact hn187_1) (.int .i64 ((rd_T40 l1 x18_1).f1))).trans hx187_0; (try have hy187_0 := fun (n_ : Nat) => (show ((((w10.drewN n_).setCell ⟨gb186, 0, none⟩ (.slice A185_0 ((rd_T40 l1 x18_1).f0).length c185_0)).setCell ⟨gb186, 1, none⟩ (.int .i64 ((rd_T40 l1 x18_1).f1)))).cell? _ = some _ from hx187_0)); clear hn187_0; clear hn187_1; replace p187 := eq_true p187; replace q187 := eq_true q187))
       repeat (go_quiet (first | ((with_reducible refine gate_dst (N := 9) rfl ?_); refine box_event ?hg (N := 9) ?hd (cs := #[.slice none 0 0, .int .i64 0]) (t := 40) ?hr ?_; (case hd => rfl); (case hg => rfl); (case hr => exact tG); intro gb186 hg w10 hbox hb; have BK186 := Sd.mk (hbox); have GW186 := Sd.mk (bSz hg (bBl HB.out)); have GE186 := Sd.mk (bSz hg (bBl HB.out)); replace HB := Sd.mk (below_step (bBl HB.out) hb); have NB183_186 := Sd.mk (bNl hg (bkA BK183.out)); have NB186_183 := Sd.mk (bNg hg (bkA BK183.out)); replace BK183 := Sd.mk (blk_below (bkA BK183.out) hb); have NB184_186 := Sd.mk (bNl hg (bkA BK184.out)); have NB186_184 := Sd.mk (bNg hg (bkA BK184.out)); replace BK184 := Sd.mk (blk_below (bkA BK184.out) hb); clear hb hbox hg; have hnb11 := NB186_183.out; have hnc11 := NB183_186.out; have hnb12 := NB186_184.out; have hnc12 := NB184_186.out; obtain ⟨u13_0, u13_1, o13_0, o13_1⟩ := bc2 (w := w10) BK186.out; have hnb14 := NB184_183.out; have hnc14 := NB183_184.out; obtain ⟨u15_0, u15_1, o15_0, o15_1⟩ := bc2 (w := w10) BK184.out; have p187 : 0 ≤ (x18_1 : Int) := tB; have q187 : x18_1 < (l2_1.length : Int) := tB; obtain ⟨ad187, e187, hx187_0⟩ := Kd.at_int HR2_1.out x18_1 p187 q187; cases e187; have hn187_0 : ad187.block ≠ gb186 := Nat.ne_of_lt (Nat.lt_of_lt_of_le (by have := World.block_lt_of_cell? _ _ hx187_0; first | rwa [add_block] at this | exact this) GW186.out); have hn187_1 : ad187.block ≠ gb186 := Nat.ne_of_lt (Nat.lt_of_lt_of_le (by have := World.block_lt_of_cell? _ _ hx187_0; first | rwa [add_block] at this | exact this) GW186.out); replace hx187_0 := cU HB hx187_0; replace hx187_0 := (cell_far (p := ⟨gb186, 0, none⟩) (by first | (rw [add_block]; exact hn187_0) | (show (Addr.add _ _).block ≠ _; rw [add_block]; exact hn187_0) | exact hn187_0) (.slice A185_0 ((rd_T40 l1 x18_1).f0).length c185_0)).trans hx187_0; replace hx187_0 := (cell_far (p := ⟨gb186, 1, none⟩) (by first | (rw [add_block]; exact hn187_1) | (show (Addr.add _ _).block ≠ _; rw [add_block]; exact hn187_1) | exact hn187_1) (.int .i64 ((rd_T40 l1 x18_1).f1))).trans hx187_0; (try have hy187_0 := fun (n_ : Nat) => (show ((((w10.drewN n_).setCell ⟨gb186, 0, none⟩ (.slice A185_0 ((rd_T40 l1 x18_1).f0).length c185_0)).setCell ⟨gb186, 1, none⟩ (.int .i64 ((rd_T40 l1 x18_1).f1)))).cell? _ = some _ from hx187_0)); clear hn187_0; clear hn187_1; replace p187 := eq_true p187; replace q187 := eq_true q187)); try go_wp2_with (first | ((with_reducible refine gate_dst (N := 9) rfl ?_); refine box_event ?hg (N := 9) ?hd (cs := #[.slice none 0 0, .int .i64 0]) (t := 40) ?hr ?_; (case hd => rfl); (case hg => rfl); (case hr => exact tG); intro gb186 hg w10 hbox hb; have BK186 := Sd.mk (hbox); have GW186 := Sd.mk (bSz hg (bBl HB.out)); have GE186 := Sd.mk (bSz hg (bBl HB.out)); replace HB := Sd.mk (below_step (bBl HB.out) hb); have NB183_186 := Sd.mk (bNl hg (bkA BK183.out)); have NB186_183 := Sd.mk (bNg hg (bkA BK183.out)); replace BK183 := Sd.mk (blk_below (bkA BK183.out) hb); have NB184_186 := Sd.mk (bNl hg (bkA BK184.out)); have NB186_184 := Sd.mk (bNg hg (bkA BK184.out)); replace BK184 := Sd.mk (blk_below (bkA BK184.out) hb); clear hb hbox hg; have hnb11 := NB186_183.out; have hnc11 := NB183_186.out; have hnb12 := NB186_184.out; have hnc12 := NB184_186.out; obtain ⟨u13_0, u13_1, o13_0, o13_1⟩ := bc2 (w := w10) BK186.out; have hnb14 := NB184_183.out; have hnc14 := NB183_184.out; obtain ⟨u15_0, u15_1, o15_0, o15_1⟩ := bc2 (w := w10) BK184.out; have p187 : 0 ≤ (x18_1 : Int) := tB; have q187 : x18_1 < (l2_1.length : Int) := tB; obtain ⟨ad187, e187, hx187_0⟩ := Kd.at_int HR2_1.out x18_1 p187 q187; cases e187; have hn187_0 : ad187.block ≠ gb186 := Nat.ne_of_lt (Nat.lt_of_lt_of_le (by have := World.block_lt_of_cell? _ _ hx187_0; first | rwa [add_block] at this | exact this) GW186.out); have hn187_1 : ad187.block ≠ gb186 := Nat.ne_of_lt (Nat.lt_of_lt_of_le (by have := World.block_lt_of_cell? _ _ hx187_0; first | rwa [add_block] at this | exact this) GW186.out); replace hx187_0 := cU HB hx187_0; replace hx187_0 := (cell_far (p := ⟨gb186, 0, none⟩) (by first | (rw [add_block]; exact hn187_0) | (show (Addr.add _ _).block ≠ _; rw [add_block]; exact hn187_0) | exact hn187_0) (.slice A185_0 ((rd_T40 l1 x18_1).f0).length c185_0)).trans hx187_0; replace hx187_0 := (cell_far (p := ⟨gb186, 1, none⟩) (by first | (rw [add_block]; exact hn187_1) | (show (Addr.add _ _).block ≠ _; rw [add_block]; exact hn187_1) | exact hn187_1) (.int .i64 ((rd_T40 l1 x18_1).f1))).trans hx187_0; (try have hy187_0 := fun (n_ : Nat) => (show ((((w10.drewN n_).setCell ⟨gb186, 0, none⟩ (.slice A185_0 ((rd_T40 l1 x18_1).f0).length c185_0)).setCell ⟨gb186, 1, none⟩ (.int .i64 ((rd_T40 l1 x18_1).f1)))).cell? _ = some _ from hx187_0)); clear hn187_0; clear hn187_1; replace p187 := eq_true p187; replace q187 := eq_true q187)))
       go_roundg k1
       case measure => have := HK1.out; omega
       case rel => exact ⟨(wrap64 (x7_1 - (wrap64 ((rd l2_1 x18_1) * ((rd_T40 l1 x18_1).f1))))), (wrap64 (x18_1 + 1)), tS, tS, H', ⟨by have := HK1.out; omega⟩, ⟨by (with_reducible repeat (first | refine blk_drewN ?_ _ | refine blk_drew ?_ | refine blk_alloc ?_ _)); refine blk_far ?_ NB183_186.out _; (with_reducible repeat (first | refine blk_drewN ?_ _ | refine blk_drew ?_ | refine blk_alloc ?_ _)); refine blk_far ?_ NB183_186.out _; (with_reducible repeat (first | refine blk_drewN ?_ _ | refine blk_drew ?_ | refine blk_alloc ?_ _)); exact BK183.out⟩, ⟨by (with_reducible repeat (first | refine blk_drewN ?_ _ | refine blk_drew ?_ | refine blk_alloc ?_ _)); refine blk_far ?_ NB184_186.out _; (with_reducible repeat (first | refine blk_drewN ?_ _ | refine blk_drew ?_ | refine blk_alloc ?_ _)); refine blk_far ?_ NB184_186.out _; (with_reducible repeat (first | refine blk_drewN ?_ _ | refine blk_drew ?_ | refine blk_alloc ?_ _)); exact BK184.out⟩, ⟨bBl HB.out⟩⟩
      ·rw [if_neg c9] at H
       exact absurd H (by simp)
     ·rw [if_neg c8] at H
      exact absurd H (by simp)
    ·rw [if_neg c7] at H
     exact absurd H (by simp)
   ·rw [if_neg c6] at H
    have c6b0 : decide (x18_1 < (l1.length : Int)) = false := decide_eq_false c6
    clear c6; have H' := Sd.mk H; clear H; have hnb16 := NB183_184.out; have hnc16 := NB184_183.out; obtain ⟨u17_0, u17_1, u17_2, u17_3, u17_4, u17_5, u17_6, o17_0, o17_1, o17_2, o17_3, o17_4, o17_5, o17_6⟩ := bc7 (w := wr) BK183.out
    go_wp2
    repeat (go_quiet (fail); try go_wp2)
    go_loopg [7, 37] k1 (fun kq v7 v37 w' => ∃ (x7_2 : Int) (x37_2 : Int), v7 = .int .i64 x7_2 ∧ v37 = .int .i64 x37_2 ∧ Sd (b_least.l1 kq l1 x7_2 l0_1 (l0_1.length : Int) x37_2 a2_0 l2_1 = some r) ∧ Sd (kq ≤ k1) ∧ Sd (w'.heap[gb183]? = some (.cells #[(.slice A0_0 l0_0.length c0_0), (.slice A0_1 l0_1.length c0_1), (.slice A0_2 l0_2.length c0_2), (.slice A0_3 l0_3.length c0_3), .int .i64 a0_4, .int .i64 a0_5, .int .i64 a0_6] 29 (0, 0))) ∧ Sd (w'.heap[gb184]? = some (.cells #[.int .i64 a2_0, (.slice A2_1 l2_1.length c2_1)] 46 (0, 0))) ∧ Sd (Below w.heap.size w w'))
    case atStart => exact ⟨(x7_1), (0), tS, tS, H', ⟨Nat.le_refl _⟩, ⟨bkA BK183.out⟩, ⟨bkA BK184.out⟩, ⟨bBl HB.out⟩⟩
    case round =>
     clear H'; (try clear c1); (try clear p1); (try clear q1); (try clear hx1); (try clear c2); (try clear p2 p2); (try clear c6); (try clear c6b0); (try clear p6); (try clear c7); (try clear c7b0); (try clear c8); (try clear c8b0); (try clear c9); (try clear c9b0); (try clear c11); (try clear c12); (try clear c14); (try clear c16); (try clear u13_0 u13_1); (try clear u15_0 u15_1); (try clear u17_0 u17_1 u17_2 u17_3 u17_4 u17_5 u17_6); (try clear o13_0 o13_1); (try clear o15_0 o15_1); (try clear o17_0 o17_1 o17_2 o17_3 o17_4 o17_5 o17_6); (try clear hx185_0); (try clear hx185_1); (try clear hx187_0); (try clear p185); (try clear p187); (try clear q185); (try clear q187); obtain ⟨x7_2, x37_2, rfl, rfl, HA, HK2, BK183, BK184, HB⟩ := hrel
     cases gk with
     | zero => exact absurd HA.out (by simp [b_least.l1])
     | succ k2 =>
      have H := HA.out; clear HA
      simp only [b_least.l1] at H
      by_cases c18 : x37_2 < (l0_1.length : Int)
      ·rw [if_pos c18] at H
       have c18b0 : decide (x37_2 < (l0_1.length : Int)) = true := decide_eq_true c18
       clear c18
       by_cases c19 : 0 ≤ x37_2
       ·rw [if_pos c19] at H
        have c19b0 : decide (0 ≤ x37_2) = true := decide_eq_true c19
        clear c19
        by_cases c20 : x37_2 < (l0_1.length : Int)
        ·rw [if_pos c20] at H
         have c20b0 : decide (x37_2 < (l0_1.length : Int)) = true := decide_eq_true c20
         clear c20; have H' := Sd.mk H; clear H
         have p188 : 0 ≤ (x37_2 : Int) := tB
         have q188 : x37_2 < (l0_1.length : Int) := tB
         obtain ⟨ad188, A188_6, c188_6, e188, hx188_0, hx188_1, hx188_2, hx188_3, hx188_4, hx188_5, hx188_6, hl188_6, hi188_6⟩ := at_T50 HR0_1.out x37_2 p188 q188; cases e188; replace hx188_0 := cU HB hx188_0; replace hx188_1 := cU HB hx188_1; replace hx188_2 := cU HB hx188_2; replace hx188_3 := cU HB hx188_3; replace hx188_4 := cU HB hx188_4; replace hx188_5 := cU HB hx188_5; replace hx188_6 := cU HB hx188_6; have HR188_6 := Sd.mk hi188_6; have HC188_6 := Sd.mk hl188_6; clear hi188_6 hl188_6; replace p188 := eq_true p188; replace q188 := eq_true q188
         go_wp2_with (first | ((with_reducible refine gate_dst (N := 11) rfl ?_); refine box_event ?hg (N := 11) ?hd (cs := #[.string (⟨#[]⟩ : ByteArray), .int .i64 0, .int .i64 0, .int .i64 0, .int .i64 0, .int .i64 0, .slice none 0 0]) (t := 50) ?hr ?_; (case hd => rfl); (case hg => rfl); (case hr => exact tG); intro gb189 hg w21 hbox hb; have BK189 := Sd.mk (hbox); have GW189 := Sd.mk (bSz hg (bBl HB.out)); have GE189 := Sd.mk (bSz hg (bBl HB.out)); replace HB := Sd.mk (below_step (bBl HB.out) hb); have NB183_189 := Sd.mk (bNl hg (bkA BK183.out)); have NB189_183 := Sd.mk (bNg hg (bkA BK183.out)); replace BK183 := Sd.mk (blk_below (bkA BK183.out) hb); have NB184_189 := Sd.mk (bNl hg (bkA BK184.out)); have NB189_184 := Sd.mk (bNg hg (bkA BK184.out)); replace BK184 := Sd.mk (blk_below (bkA BK184.out) hb); clear hb hbox hg; have hnb22 := NB189_183.out; have hnc22 := NB183_189.out; have hnb23 := NB189_184.out; have hnc23 := NB184_189.out; obtain ⟨u24_0, u24_1, u24_2, u24_3, u24_4, u24_5, u24_6, o24_0, o24_1, o24_2, o24_3, o24_4, o24_5, o24_6⟩ := bc7 (w := w21) BK189.out; have hnb25 := NB184_183.out; have hnc25 := NB183_184.out; obtain ⟨u26_0, u26_1, o26_0, o26_1⟩ := bc2 (w := w21) BK184.out))
         repeat (go_quiet (first | ((with_reducible refine gate_dst (N := 11) rfl ?_); refine box_event ?hg (N := 11) ?hd (cs := #[.string (⟨#[]⟩ : ByteArray), .int .i64 0, .int .i64 0, .int .i64 0, .int .i64 0, .int .i64 0, .slice none 0 0]) (t := 50) ?hr ?_; (case hd => rfl); (case hg => rfl); (case hr => exact tG); intro gb189 hg w21 hbox hb; have BK189 := Sd.mk (hbox); have GW189 := Sd.mk (bSz hg (bBl HB.out)); have GE189 := Sd.mk (bSz hg (bBl HB.out)); replace HB := Sd.mk (below_step (bBl HB.out) hb); have NB183_189 := Sd.mk (bNl hg (bkA BK183.out)); have NB189_183 := Sd.mk (bNg hg (bkA BK183.out)); replace BK183 := Sd.mk (blk_below (bkA BK183.out) hb); have NB184_189 := Sd.mk (bNl hg (bkA BK184.out)); have NB189_184 := Sd.mk (bNg hg (bkA BK184.out)); replace BK184 := Sd.mk (blk_below (bkA BK184.out) hb); clear hb hbox hg; have hnb22 := NB189_183.out; have hnc22 := NB183_189.out; have hnb23 := NB189_184.out; have hnc23 := NB184_189.out; obtain ⟨u24_0, u24_1, u24_2, u24_3, u24_4, u24_5, u24_6, o24_0, o24_1, o24_2, o24_3, o24_4, o24_5, o24_6⟩ := bc7 (w := w21) BK189.out; have hnb25 := NB184_183.out; have hnc25 := NB183_184.out; obtain ⟨u26_0, u26_1, o26_0, o26_1⟩ := bc2 (w := w21) BK184.out)); try go_wp2_with (first | ((with_reducible refine gate_dst (N := 11) rfl ?_); refine box_event ?hg (N := 11) ?hd (cs := #[.string (⟨#[]⟩ : ByteArray), .int .i64 0, .int .i64 0, .int .i64 0, .int .i64 0, .int .i64 0, .slice none 0 0]) (t := 50) ?hr ?_; (case hd => rfl); (case hg => rfl); (case hr => exact tG); intro gb189 hg w21 hbox hb; have BK189 := Sd.mk (hbox); have GW189 := Sd.mk (bSz hg (bBl HB.out)); have GE189 := Sd.mk (bSz hg (bBl HB.out)); replace HB := Sd.mk (below_step (bBl HB.out) hb); have NB183_189 := Sd.mk (bNl hg (bkA BK183.out)); have NB189_183 := Sd.mk (bNg hg (bkA BK183.out)); replace BK183 := Sd.mk (blk_below (bkA BK183.out) hb); have NB184_189 := Sd.mk (bNl hg (bkA BK184.out)); have NB189_184 := Sd.mk (bNg hg (bkA BK184.out)); replace BK184 := Sd.mk (blk_below (bkA BK184.out) hb); clear hb hbox hg; have hnb22 := NB189_183.out; have hnc22 := NB183_189.out; have hnb23 := NB189_184.out; have hnc23 := NB184_189.out; obtain ⟨u24_0, u24_1, u24_2, u24_3, u24_4, u24_5, u24_6, o24_0, o24_1, o24_2, o24_3, o24_4, o24_5, o24_6⟩ := bc7 (w := w21) BK189.out; have hnb25 := NB184_183.out; have hnc25 := NB183_184.out; obtain ⟨u26_0, u26_1, o26_0, o26_1⟩ := bc2 (w := w21) BK184.out)))
         go_loopg [12, 49] k2 (fun kq v12 v49 w' => ∃ (x12_3 : Int) (x49_3 : Int), v12 = .int .i64 x12_3 ∧ v49 = .int .i64 x49_3 ∧ Sd (b_least.l2 kq l1 x7_2 x37_2 x12_3 l0_1 (l0_1.length : Int) x37_2 l1 (l1.length : Int) x49_3 a2_0 l2_1 ((rd_T50 l0_1 x37_2).f0) ((rd_T50 l0_1 x37_2).f1) ((rd_T50 l0_1 x37_2).f2) ((rd_T50 l0_1 x37_2).f3) ((rd_T50 l0_1 x37_2).f4) ((rd_T50 l0_1 x37_2).f5) ((rd_T50 l0_1 x37_2).f6) = some r) ∧ Sd (kq ≤ k2) ∧ Sd (w'.heap[gb183]? = some (.cells #[(.slice A0_0 l0_0.length c0_0), (.slice (some ad188) l0_1.length c0_1), (.slice A0_2 l0_2.length c0_2), (.slice A0_3 l0_3.length c0_3), .int .i64 a0_4, .int .i64 a0_5, .int .i64 a0_6] 29 (0, 0))) ∧ Sd (w'.heap[gb184]? = some (.cells #[.int .i64 a2_0, (.slice A2_1 l2_1.length c2_1)] 46 (0, 0))) ∧ Sd (w'.heap[gb189]? = some (.cells #[.string ((rd_T50 l0_1 x37_2).f0), .int .i64 ((rd_T50 l0_1 x37_2).f1), .int .i64 ((rd_T50 l0_1 x37_2).f2), .int .i64 ((rd_T50 l0_1 x37_2).f3), .int .i64 ((rd_T50 l0_1 x37_2).f4), .int .i64 ((rd_T50 l0_1 x37_2).f5), (.slice A188_6 ((rd_T50 l0_1 x37_2).f6).length c188_6)] 50 (0, 0))) ∧ Sd (Below w.heap.size w w'))
         case atStart => exact ⟨(wrap64 (a2_0 * ((rd_T50 l0_1 x37_2).f1))), (0), tS, tS, H', ⟨Nat.le_refl _⟩, ⟨by (with_reducible repeat (first | refine blk_drewN ?_ _ | refine blk_drew ?_ | refine blk_alloc ?_ _)); refine blk_far ?_ NB183_189.out _; (with_reducible repeat (first | refine blk_drewN ?_ _ | refine blk_drew ?_ | refine blk_alloc ?_ _)); refine blk_far ?_ NB183_189.out _; (with_reducible repeat (first | refine blk_drewN ?_ _ | refine blk_drew ?_ | refine blk_alloc ?_ _)); refine blk_far ?_ NB183_189.out _; (with_reducible repeat (first | refine blk_drewN ?_ _ | refine blk_drew ?_ | refine blk_alloc ?_ _)); refine blk_far ?_ NB183_189.out _; (with_reducible repeat (first | refine blk_drewN ?_ _ | refine blk_drew ?_ | refine blk_alloc ?_ _)); refine blk_far ?_ NB183_189.out _; (with_reducible repeat (first | refine blk_drewN ?_ _ | refine blk_drew ?_ | refine blk_alloc ?_ _)); refine blk_far ?_ NB183_189.out _; (with_reducible repeat (first | refine blk_drewN ?_ _ | refine blk_drew ?_ | refine blk_alloc ?_ _)); refine blk_far ?_ NB183_189.out _; (with_reducible repeat (first | refine blk_drewN ?_ _ | refine blk_drew ?_ | refine blk_alloc ?_ _)); exact BK183.out⟩, ⟨by (with_reducible repeat (first | refine blk_drewN ?_ _ | refine blk_drew ?_ | refine blk_alloc ?_ _)); refine blk_far ?_ NB184_189.out _; (with_reducible repeat (first | refine blk_drewN ?_ _ | refine blk_drew ?_ | refine blk_alloc ?_ _)); refine blk_far ?_ NB184_189.out _; (with_reducible repeat (first | refine blk_drewN ?_ _ | refine blk_drew ?_ | refine blk_alloc ?_ _)); refine blk_far ?_ NB184_189.out _; (with_reducible repeat (first | refine blk_drewN ?_ _ | refine blk_drew ?_ | refine blk_alloc ?_ _)); refine blk_far ?_ NB184_189.out _; (with_reducible repeat (first | refine blk_drewN ?_ _ | refine blk_drew ?_ | refine blk_alloc ?_ _)); refine blk_far ?_ NB184_189.out _; (with_reducible repeat (first | refine blk_drewN ?_ _ | refine blk_drew ?_ | refine blk_alloc ?_ _)); refine blk_far ?_ NB184_189.out _; (with_reducible repeat (first | refine blk_drewN ?_ _ | refine blk_drew ?_ | refine blk_alloc ?_ _)); refine blk_far ?_ NB184_189.out _; (with_reducible repeat (first | refine blk_drewN ?_ _ | refine blk_drew ?_ | refine blk_alloc ?_ _)); exact BK184.out⟩, ⟨by (with_reducible repeat (first | refine blk_drewN ?_ _ | refine blk_drew ?_ | refine blk_alloc ?_ _)); refine blk_put (cs := #[.string ((rd_T50 l0_1 x37_2).f0), .int .i64 ((rd_T50 l0_1 x37_2).f1), .int .i64 ((rd_T50 l0_1 x37_2).f2), .int .i64 ((rd_T50 l0_1 x37_2).f3), .int .i64 ((rd_T50 l0_1 x37_2).f4), .int .i64 ((rd_T50 l0_1 x37_2).f5), .slice none 0 0]) ?_ 6 _ rfl; (with_reducible repeat (first | refine blk_drewN ?_ _ | refine blk_drew ?_ | refine blk_alloc ?_ _)); refine blk_put (cs := #[.string ((rd_T50 l0_1 x37_2).f0), .int .i64 ((rd_T50 l0_1 x37_2).f1), .int .i64 ((rd_T50 l0_1 x37_2).f2), .int .i64 ((rd_T50 l0_1 x37_2).f3), .int .i64 ((rd_T50 l0_1 x37_2).f4), .int .i64 0, .slice none 0 0]) ?_ 5 _ rfl; (with_reducible repeat (first | refine blk_drewN ?_ _ | refine blk_drew ?_ | refine blk_alloc ?_ _)); refine blk_put (cs := #[.string ((rd_T50 l0_1 x37_2).f0), .int .i64 ((rd_T50 l0_1 x37_2).f1), .int .i64 ((rd_T50 l0_1 x37_2).f2), .int .i64 ((rd_T50 l0_1 x37_2).f3), .int .i64 0, .int .i64 0, .slice none 0 0]) ?_ 4 _ rfl; (with_reducible repeat (first | refine blk_drewN ?_ _ | refine blk_drew ?_ | refine blk_alloc ?_ _)); refine blk_put (cs := #[.string ((rd_T50 l0_1 x37_2).f0), .int .i64 ((rd_T50 l0_1 x37_2).f1), .int .i64 ((rd_T50 l0_1 x37_2).f2), .int .i64 0, .int .i64 0, .int .i64 0, .slice none 0 0]) ?_ 3 _ rfl; (with_reducible repeat (first | refine blk_drewN ?_ _ | refine blk_drew ?_ | refine blk_alloc ?_ _)); refine blk_put (cs := #[.string ((rd_T50 l0_1 x37_2).f0), .int .i64 ((rd_T50 l0_1 x37_2).f1), .int .i64 0, .int .i64 0, .int .i64 0, .int .i64 0, .slice none 0 0]) ?_ 2 _ rfl; (with_reducible repeat (first | refine blk_drewN ?_ _ | refine blk_drew ?_ | refine blk_alloc ?_ _)); refine blk_put (cs := #[.string ((rd_T50 l0_1 x37_2).f0), .int .i64 0, .int .i64 0, .int .i64 0, .int .i64 0, .int .i64 0, .slice none 0 0]) ?_ 1 _ rfl; (with_reducible repeat (first | refine blk_drewN ?_ _ | refine blk_drew ?_ | refine blk_alloc ?_ _)); refine blk_put (cs := #[.string (⟨#[]⟩ : ByteArray), .int .i64 0, .int .i64 0, .int .i64 0, .int .i64 0, .int .i64 0, .slice none 0 0]) ?_ 0 _ rfl; (with_reducible repeat (first | refine blk_drewN ?_ _ | refine blk_drew ?_ | refine blk_alloc ?_ _)); exact BK189.out⟩, ⟨bBl HB.out⟩⟩
         case round =>
          clear H'; (try clear c1); (try clear p1 p1); (try clear q1 q1); (try clear hx1); (try clear c2); (try clear p2 p2); (try clear c6); (try clear c6b0); (try clear p6 p6); (try clear c7); (try clear c7b0); (try clear c8); (try clear c8b0); (try clear c9); (try clear c9b0); (try clear c11); (try clear c12); (try clear c14); (try clear c16); (try clear c18); (try clear c18b0); (try clear p18); (try clear q18); (try clear hx18); (try clear c19); (try clear c19b0); (try clear c20); (try clear c20b0); (try clear c22); (try clear c23); (try clear c25); (try clear u13_0 u13_1); (try clear u15_0 u15_1); (try clear u17_0 u17_1 u17_2 u17_3 u17_4 u17_5 u17_6); (try clear u24_0 u24_1 u24_2 u24_3 u24_4 u24_5 u24_6); (try clear u26_0 u26_1); (try clear o13_0 o13_1); (try clear o15_0 o15_1); (try clear o17_0 o17_1 o17_2 o17_3 o17_4 o17_5 o17_6); (try clear o24_0 o24_1 o24_2 o24_3 o24_4 o24_5 o24_6); (try clear o26_0 o26_1); (try clear hx185_0); (try clear hx185_1); (try clear hx187_0); (try clear hx188_0); (try clear hx188_1); (try clear hx188_2); (try clear hx188_3); (try clear hx188_4); (try clear hx188_5); (try clear hx188_6); (try clear p185); (try clear p187); (try clear p188); (try clear q185); (try clear q187); (try clear q188); obtain ⟨x12_3, x49_3, rfl, rfl, HA, HK3, BK183, BK184, BK189, HB⟩ := hrel
          cases gk with
          | zero => exact absurd HA.out (by simp [b_least.l2])
          | succ k3 =>
           have H := HA.out; clear HA
           simp only [b_least.l2] at H
           by_cases c27 : x49_3 < (l1.length : Int)
           ·rw [if_pos c27] at H
            have c27b0 : decide (x49_3 < (l1.length : Int)) = true := decide_eq_true c27
            clear c27
            by_cases c28 : 0 ≤ x49_3
            ·rw [if_pos c28] at H
             have c28b0 : decide (0 ≤ x49_3) = true := decide_eq_true c28
             clear c28
             by_cases c29 : x49_3 < (l1.length : Int)
             ·rw [if_pos c29] at H
              have c29b0 : decide (x49_3 < (l1.length : Int)) = true := decide_eq_true c29
              clear c29
              by_cases c30 : x49_3 < (l2_1.length : Int)
              ·rw [if_pos c30] at H
               have c30b0 : decide (x49_3 < (l2_1.length : Int)) = true := decide_eq_true c30
               clear c30
               by_cases c31 : 0 ≤ x37_2
               ·rw [if_pos c31] at H
                have c31b0 : decide (0 ≤ x37_2) = true := decide_eq_true c31
                clear c31
                by_cases c32 : x37_2 < (((rd_T40 l1 x49_3).f0).length : Int)
                ·rw [if_pos c32] at H
                 have c32b0 : decide (x37_2 < (((rd_T40 l1 x49_3).f0).length : Int)) = true := decide_eq_true c32
                 clear c32; have H' := Sd.mk H; clear H
                 have p190 : 0 ≤ (x49_3 : Int) := tB
                 have q190 : x49_3 < (l1.length : Int) := tB
                 obtain ⟨ad190, A190_0, c190_0, e190, hx190_0, hx190_1, hl190_0, hi190_0⟩ := at_T40 HR1.out x49_3 p190 q190; cases e190; replace hx190_0 := cU HB hx190_0; replace hx190_1 := cU HB hx190_1; have HR190_0 := Sd.mk hi190_0; have HC190_0 := Sd.mk hl190_0; clear hi190_0 hl190_0; replace p190 := eq_true p190; replace q190 := eq_true q190
                 go_wp2_with (first | ((with_reducible refine gate_dst (N := 14) rfl ?_); refine box_event ?hg (N := 14) ?hd (cs := #[.slice none 0 0, .int .i64 0]) (t := 40) ?hr ?_; (case hd => rfl); (case hg => rfl); (case hr => exact tG); intro gb191 hg w33 hbox hb; have BK191 := Sd.mk (hbox); have GW191 := Sd.mk (bSz hg (bBl HB.out)); have GE191 := Sd.mk (bSz hg (bBl HB.out)); replace HB := Sd.mk (below_step (bBl HB.out) hb); have NB183_191 := Sd.mk (bNl hg (bkA BK183.out)); have NB191_183 := Sd.mk (bNg hg (bkA BK183.out)); replace BK183 := Sd.mk (blk_below (bkA BK183.out) hb); have NB184_191 := Sd.mk (bNl hg (bkA BK184.out)); have NB191_184 := Sd.mk (bNg hg (bkA BK184.out)); replace BK184 := Sd.mk (blk_below (bkA BK184.out) hb); have NB189_191 := Sd.mk (bNl hg (bkA BK189.out)); have NB191_189 := Sd.mk (bNg hg (bkA BK189.out)); replace BK189 := Sd.mk (blk_below (bkA BK189.out) hb); clear hb hbox hg; have hnb34 := NB191_183.out; have hnc34 := NB183_191.out; have hnb35 := NB191_184.out; have hnc35 := NB184_191.out; have hnb36 := NB191_189.out; have hnc36 := NB189_191.out; obtain ⟨u37_0, u37_1, o37_0, o37_1⟩ := bc2 (w := w33) BK191.out; have hnb38 := NB184_183.out; have hnc38 := NB183_184.out; have hnb39 := NB184_189.out; have hnc39 := NB189_184.out; obtain ⟨u40_0, u40_1, o40_0, o40_1⟩ := bc2 (w := w33) BK184.out; have p192 : 0 ≤ (x49_3 : Int) := tB; have q192 : x49_3 < (l2_1.length : Int) := tB; obtain ⟨ad192, e192, hx192_0⟩ := Kd.at_int HR2_1.out x49_3 p192 q192; cases e192; have hn192_0 : ad192.block ≠ gb191 := Nat.ne_of_lt (Nat.lt_of_lt_of_le (by have := World.block_lt_of_cell? _ _ hx192_0; first | rwa [add_block] at this | exact this) GW191.out); have hn192_1 : ad192.block ≠ gb191 := Nat.ne_of_lt (Nat.lt_of_lt_of_le (by have := World.block_lt_of_cell? _ _ hx192_0; first | rwa [add_block] at this | exact this) GW191.out); replace hx192_0 := cU HB hx192_0; replace hx192_0 := (cell_far (p := ⟨gb191, 0, none⟩) (by first | (rw [add_block]; exact hn192_0) | (show (Addr.add _ _).block ≠ _; rw [add_block]; exact hn192_0) | exact hn192_0) (.slice A190_0 ((rd_T40 l1 x49_3).f0).length c190_0)).trans hx192_0; replace hx192_0 := (cell_far (p := ⟨gb191, 1, none⟩) (by first | (rw [add_block]; exact hn192_1) | (show (Addr.add _ _).block ≠ _; rw [add_block]; exact hn192_1) | exact hn192_1) (.int .i64 ((rd_T40 l1 x49_3).f1))).trans hx192_0; (try have hy192_0 := fun (n_ : Nat) => (show ((((w33.drewN n_).setCell ⟨gb191, 0, none⟩ (.slice A190_0 ((rd_T40 l1 x49_3).f0).length c190_0)).setCell ⟨gb191, 1, none⟩ (.int .i64 ((rd_T40 l1 x49_3).f1)))).cell? _ = some _ from hx192_0)); clear hn192_0; clear hn192_1; replace p192 := eq_true p192; replace q192 := eq_true q192; have p193 : 0 ≤ (x37_2 : Int) := tB; have q193 : x37_2 < (((rd_T40 l1 x49_3).f0).length : Int) := tB; obtain ⟨ad193, e193, hx193_0⟩ := Kd.at_int HR190_0.out x37_2 p193 q193; cases e193; have hn193_0 : ad193.block ≠ gb191 := Nat.ne_of_lt (Nat.lt_of_lt_of_le (by have := World.block_lt_of_cell? _ _ hx193_0; first | rwa [add_block] at this | exact this) GW191.out); have hn193_1 : ad193.block ≠ gb191 := Nat.ne_of_lt (Nat.lt_of_lt_of_le (by have := World.block_lt_of_cell? _ _ hx193_0; first | rwa [add_block] at this | exact this) GW191.out); replace hx193_0 := cU HB hx193_0; replace hx193_0 := (cell_far (p := ⟨gb191, 0, none⟩) (by first | (rw [add_block]; exact hn193_0) | (show (Addr.add _ _).block ≠ _; rw [add_block]; exact hn193_0) | exact hn193_0) (.slice (some ad193) ((rd_T40 l1 x49_3).f0).length c190_0)).trans hx193_0; replace hx193_0 := (cell_far (p := ⟨gb191, 1, none⟩) (by first | (rw [add_block]; exact hn193_1) | (show (Addr.add _ _).block ≠ _; rw [add_block]; exact hn193_1) | exact hn193_1) (.int .i64 ((rd_T40 l1 x49_3).f1))).trans hx193_0; (try have hy193_0 := fun (n_ : Nat) => (show ((((w33.drewN n_).setCell ⟨gb191, 0, none⟩ (.slice (some ad193) ((rd_T40 l1 x49_3).f0).length c190_0)).setCell ⟨gb191, 1, none⟩ (.int .i64 ((rd_T40 l1 x49_3).f1)))).cell? _ = some _ from hx193_0)); clear hn193_0; clear hn193_1; replace p193 := eq_true p193; replace q193 := eq_true q193))
                 repeat (go_quiet (first | ((with_reducible refine gate_dst (N := 14) rfl ?_); refine box_event ?hg (N := 14) ?hd (cs := #[.slice none 0 0, .int .i64 0]) (t := 40) ?hr ?_; (case hd => rfl); (case hg => rfl); (case hr => exact tG); intro gb191 hg w33 hbox hb; have BK191 := Sd.mk (hbox); have GW191 := Sd.mk (bSz hg (bBl HB.out)); have GE191 := Sd.mk (bSz hg (bBl HB.out)); replace HB := Sd.mk (below_step (bBl HB.out) hb); have NB183_191 := Sd.mk (bNl hg (bkA BK183.out)); have NB191_183 := Sd.mk (bNg hg (bkA BK183.out)); replace BK183 := Sd.mk (blk_below (bkA BK183.out) hb); have NB184_191 := Sd.mk (bNl hg (bkA BK184.out)); have NB191_184 := Sd.mk (bNg hg (bkA BK184.out)); replace BK184 := Sd.mk (blk_below (bkA BK184.out) hb); have NB189_191 := Sd.mk (bNl hg (bkA BK189.out)); have NB191_189 := Sd.mk (bNg hg (bkA BK189.out)); replace BK189 := Sd.mk (blk_below (bkA BK189.out) hb); clear hb hbox hg; have hnb34 := NB191_183.out; have hnc34 := NB183_191.out; have hnb35 := NB191_184.out; have hnc35 := NB184_191.out; have hnb36 := NB191_189.out; have hnc36 := NB189_191.out; obtain ⟨u37_0, u37_1, o37_0, o37_1⟩ := bc2 (w := w33) BK191.out; have hnb38 := NB184_183.out; have hnc38 := NB183_184.out; have hnb39 := NB184_189.out; have hnc39 := NB189_184.out; obtain ⟨u40_0, u40_1, o40_0, o40_1⟩ := bc2 (w := w33) BK184.out; have p192 : 0 ≤ (x49_3 : Int) := tB; have q192 : x49_3 < (l2_1.length : Int) := tB; obtain ⟨ad192, e192, hx192_0⟩ := Kd.at_int HR2_1.out x49_3 p192 q192; cases e192; have hn192_0 : ad192.block ≠ gb191 := Nat.ne_of_lt (Nat.lt_of_lt_of_le (by have := World.block_lt_of_cell? _ _ hx192_0; first | rwa [add_block] at this | exact this) GW191.out); have hn192_1 : ad192.block ≠ gb191 := Nat.ne_of_lt (Nat.lt_of_lt_of_le (by have := World.block_lt_of_cell? _ _ hx192_0; first | rwa [add_block] at this | exact this) GW191.out); replace hx192_0 := cU HB hx192_0; replace hx192_0 := (cell_far (p := ⟨gb191, 0, none⟩) (by first | (rw [add_block]; exact hn192_0) | (show (Addr.add _ _).block ≠ _; rw [add_block]; exact hn192_0) | exact hn192_0) (.slice A190_0 ((rd_T40 l1 x49_3).f0).length c190_0)).trans hx192_0; replace hx192_0 := (cell_far (p := ⟨gb191, 1, none⟩) (by first | (rw [add_block]; exact hn192_1) | (show (Addr.add _ _).block ≠ _; rw [add_block]; exact hn192_1) | exact hn192_1) (.int .i64 ((rd_T40 l1 x49_3).f1))).trans hx192_0; (try have hy192_0 := fun (n_ : Nat) => (show ((((w33.drewN n_).setCell ⟨gb191, 0, none⟩ (.slice A190_0 ((rd_T40 l1 x49_3).f0).length c190_0)).setCell ⟨gb191, 1, none⟩ (.int .i64 ((rd_T40 l1 x49_3).f1)))).cell? _ = some _ from hx192_0)); clear hn192_0; clear hn192_1; replace p192 := eq_true p192; replace q192 := eq_true q192; have p193 : 0 ≤ (x37_2 : Int) := tB; have q193 : x37_2 < (((rd_T40 l1 x49_3).f0).length : Int) := tB; obtain ⟨ad193, e193, hx193_0⟩ := Kd.at_int HR190_0.out x37_2 p193 q193; cases e193; have hn193_0 : ad193.block ≠ gb191 := Nat.ne_of_lt (Nat.lt_of_lt_of_le (by have := World.block_lt_of_cell? _ _ hx193_0; first | rwa [add_block] at this | exact this) GW191.out); have hn193_1 : ad193.block ≠ gb191 := Nat.ne_of_lt (Nat.lt_of_lt_of_le (by have := World.block_lt_of_cell? _ _ hx193_0; first | rwa [add_block] at this | exact this) GW191.out); replace hx193_0 := cU HB hx193_0; replace hx193_0 := (cell_far (p := ⟨gb191, 0, none⟩) (by first | (rw [add_block]; exact hn193_0) | (show (Addr.add _ _).block ≠ _; rw [add_block]; exact hn193_0) | exact hn193_0) (.slice (some ad193) ((rd_T40 l1 x49_3).f0).length c190_0)).trans hx193_0; replace hx193_0 := (cell_far (p := ⟨gb191, 1, none⟩) (by first | (rw [add_block]; exact hn193_1) | (show (Addr.add _ _).block ≠ _; rw [add_block]; exact hn193_1) | exact hn193_1) (.int .i64 ((rd_T40 l1 x49_3).f1))).trans hx193_0; (try have hy193_0 := fun (n_ : Nat) => (show ((((w33.drewN n_).setCell ⟨gb191, 0, none⟩ (.slice (some ad193) ((rd_T40 l1 x49_3).f0).length c190_0)).setCell ⟨gb191, 1, none⟩ (.int .i64 ((rd_T40 l1 x49_3).f1)))).cell? _ = some _ from hx193_0)); clear hn193_0; clear hn193_1; replace p193 := eq_true p193; replace q193 := eq_true q193)); try go_wp2_with (first | ((with_reducible refine gate_dst (N := 14) rfl ?_); refine box_event ?hg (N := 14) ?hd (cs := #[.slice none 0 0, .int .i64 0]) (t := 40) ?hr ?_; (case hd => rfl); (case hg => rfl); (case hr => exact tG); intro gb191 hg w33 hbox hb; have BK191 := Sd.mk (hbox); have GW191 := Sd.mk (bSz hg (bBl HB.out)); have GE191 := Sd.mk (bSz hg (bBl HB.out)); replace HB := Sd.mk (below_step (bBl HB.out) hb); have NB183_191 := Sd.mk (bNl hg (bkA BK183.out)); have NB191_183 := Sd.mk (bNg hg (bkA BK183.out)); replace BK183 := Sd.mk (blk_below (bkA BK183.out) hb); have NB184_191 := Sd.mk (bNl hg (bkA BK184.out)); have NB191_184 := Sd.mk (bNg hg (bkA BK184.out)); replace BK184 := Sd.mk (blk_below (bkA BK184.out) hb); have NB189_191 := Sd.mk (bNl hg (bkA BK189.out)); have NB191_189 := Sd.mk (bNg hg (bkA BK189.out)); replace BK189 := Sd.mk (blk_below (bkA BK189.out) hb); clear hb hbox hg; have hnb34 := NB191_183.out; have hnc34 := NB183_191.out; have hnb35 := NB191_184.out; have hnc35 := NB184_191.out; have hnb36 := NB191_189.out; have hnc36 := NB189_191.out; obtain ⟨u37_0, u37_1, o37_0, o37_1⟩ := bc2 (w := w33) BK191.out; have hnb38 := NB184_183.out; have hnc38 := NB183_184.out; have hnb39 := NB184_189.out; have hnc39 := NB189_184.out; obtain ⟨u40_0, u40_1, o40_0, o40_1⟩ := bc2 (w := w33) BK184.out; have p192 : 0 ≤ (x49_3 : Int) := tB; have q192 : x49_3 < (l2_1.length : Int) := tB; obtain ⟨ad192, e192, hx192_0⟩ := Kd.at_int HR2_1.out x49_3 p192 q192; cases e192; have hn192_0 : ad192.block ≠ gb191 := Nat.ne_of_lt (Nat.lt_of_lt_of_le (by have := World.block_lt_of_cell? _ _ hx192_0; first | rwa [add_block] at this | exact this) GW191.out); have hn192_1 : ad192.block ≠ gb191 := Nat.ne_of_lt (Nat.lt_of_lt_of_le (by have := World.block_lt_of_cell? _ _ hx192_0; first | rwa [add_block] at this | exact this) GW191.out); replace hx192_0 := cU HB hx192_0; replace hx192_0 := (cell_far (p := ⟨gb191, 0, none⟩) (by first | (rw [add_block]; exact hn192_0) | (show (Addr.add _ _).block ≠ _; rw [add_block]; exact hn192_0) | exact hn192_0) (.slice A190_0 ((rd_T40 l1 x49_3).f0).length c190_0)).trans hx192_0; replace hx192_0 := (cell_far (p := ⟨gb191, 1, none⟩) (by first | (rw [add_block]; exact hn192_1) | (show (Addr.add _ _).block ≠ _; rw [add_block]; exact hn192_1) | exact hn192_1) (.int .i64 ((rd_T40 l1 x49_3).f1))).trans hx192_0; (try have hy192_0 := fun (n_ : Nat) => (show ((((w33.drewN n_).setCell ⟨gb191, 0, none⟩ (.slice A190_0 ((rd_T40 l1 x49_3).f0).length c190_0)).setCell ⟨gb191, 1, none⟩ (.int .i64 ((rd_T40 l1 x49_3).f1)))).cell? _ = some _ from hx192_0)); clear hn192_0; clear hn192_1; replace p192 := eq_true p192; replace q192 := eq_true q192; have p193 : 0 ≤ (x37_2 : Int) := tB; have q193 : x37_2 < (((rd_T40 l1 x49_3).f0).length : Int) := tB; obtain ⟨ad193, e193, hx193_0⟩ := Kd.at_int HR190_0.out x37_2 p193 q193; cases e193; have hn193_0 : ad193.block ≠ gb191 := Nat.ne_of_lt (Nat.lt_of_lt_of_le (by have := World.block_lt_of_cell? _ _ hx193_0; first | rwa [add_block] at this | exact this) GW191.out); have hn193_1 : ad193.block ≠ gb191 := Nat.ne_of_lt (Nat.lt_of_lt_of_le (by have := World.block_lt_of_cell? _ _ hx193_0; first | rwa [add_block] at this | exact this) GW191.out); replace hx193_0 := cU HB hx193_0; replace hx193_0 := (cell_far (p := ⟨gb191, 0, none⟩) (by first | (rw [add_block]; exact hn193_0) | (show (Addr.add _ _).block ≠ _; rw [add_block]; exact hn193_0) | exact hn193_0) (.slice (some ad193) ((rd_T40 l1 x49_3).f0).length c190_0)).trans hx193_0; replace hx193_0 := (cell_far (p := ⟨gb191, 1, none⟩) (by first | (rw [add_block]; exact hn193_1) | (show (Addr.add _ _).block ≠ _; rw [add_block]; exact hn193_1) | exact hn193_1) (.int .i64 ((rd_T40 l1 x49_3).f1))).trans hx193_0; (try have hy193_0 := fun (n_ : Nat) => (show ((((w33.drewN n_).setCell ⟨gb191, 0, none⟩ (.slice (some ad193) ((rd_T40 l1 x49_3).f0).length c190_0)).setCell ⟨gb191, 1, none⟩ (.int .i64 ((rd_T40 l1 x49_3).f1)))).cell? _ = some _ from hx193_0)); clear hn193_0; clear hn193_1; replace p193 := eq_true p193; replace q193 := eq_true q193)))
                 go_roundg k3
                 case measure => have := HK1.out; have := HK2.out; have := HK3.out; omega
                 case rel => exact ⟨(wrap64 (x12_3 + (wrap64 ((rd l2_1 x49_3) * (rd ((rd_T40 l1 x49_3).f0) x37_2))))), (wrap64 (x49_3 + 1)), tS, tS, H', ⟨by have := HK1.out; have := HK2.out; have := HK3.out; omega⟩, ⟨by (with_reducible repeat (first | refine blk_drewN ?_ _ | refine blk_drew ?_ | refine blk_alloc ?_ _)); refine blk_far ?_ NB183_191.out _; (with_reducible repeat (first | refine blk_drewN ?_ _ | refine blk_drew ?_ | refine blk_alloc ?_ _)); refine blk_far ?_ NB183_191.out _; (with_reducible repeat (first | refine blk_drewN ?_ _ | refine blk_drew ?_ | refine blk_alloc ?_ _)); exact BK183.out⟩, ⟨by (with_reducible repeat (first | refine blk_drewN ?_ _ | refine blk_drew ?_ | refine blk_alloc ?_ _)); refine blk_far ?_ NB184_191.out _; (with_reducible repeat (first | refine blk_drewN ?_ _ | refine blk_drew ?_ | refine blk_alloc ?_ _)); refine blk_far ?_ NB184_191.out _; (with_reducible repeat (first | refine blk_drewN ?_ _ | refine blk_drew ?_ | refine blk_alloc ?_ _)); exact BK184.out⟩, ⟨by (with_reducible repeat (first | refine blk_drewN ?_ _ | refine blk_drew ?_ | refine blk_alloc ?_ _)); refine blk_far ?_ NB189_191.out _; (with_reducible repeat (first | refine blk_drewN ?_ _ | refine blk_drew ?_ | refine blk_alloc ?_ _)); refine blk_far ?_ NB189_191.out _; (with_reducible repeat (first | refine blk_drewN ?_ _ | refine blk_drew ?_ | refine blk_alloc ?_ _)); exact BK189.out⟩, ⟨bBl HB.out⟩⟩
                ·rw [if_neg c32] at H
                 exact absurd H (by simp)
               ·rw [if_neg c31] at H
                exact absurd H (by simp)
              ·rw [if_neg c30] at H
               exact absurd H (by simp)
             ·rw [if_neg c29] at H
              exact absurd H (by simp)
            ·rw [if_neg c28] at H
             exact absurd H (by simp)
           ·rw [if_neg c27] at H
            have c27b0 : decide (x49_3 < (l1.length : Int)) = false := decide_eq_false c27
            clear c27
            by_cases c41 : ((rd_T50 l0_1 x37_2).f5) = 0
            ·rw [if_pos c41] at H
             exact absurd H (by simp)
            ·rw [if_neg c41] at H
             have c41b0 : (((rd_T50 l0_1 x37_2).f5) == 0) = false := beq_eq_false_iff_ne.mpr c41
             have c41b1 : (((rd_T50 l0_1 x37_2).f5) != 0) = true := bne_iff_ne.mpr c41
             obtain ⟨ji42, hji42⟩ : ∃ j_ : Int, (mn (wrap64 (x12_3 * ((rd_T50 l0_1 x37_2).f3))) (wrap64 (x12_3 * (wrap64 (((rd_T50 l0_1 x37_2).f4) - (Int.tmod (wrap64 (((rd_T50 l0_1 x37_2).f4) - ((rd_T50 l0_1 x37_2).f3))) ((rd_T50 l0_1 x37_2).f5))))))) = j_ := ⟨_, rfl⟩
             replace H : (b_least.l1 k3 l1 (wrap64 (x7_2 + (ji42))) l0_1 (l0_1.length : Int) (wrap64 (x37_2 + 1)) a2_0 l2_1) = some r := by first | (rw [hji42] at H; exact H) | (simp only [hji42] at H ⊢; exact H)
             have hji42_ : (if (wrap64 (x12_3 * (wrap64 (((rd_T50 l0_1 x37_2).f4) - (Int.tmod (wrap64 (((rd_T50 l0_1 x37_2).f4) - ((rd_T50 l0_1 x37_2).f3))) ((rd_T50 l0_1 x37_2).f5)))))) < (wrap64 (x12_3 * ((rd_T50 l0_1 x37_2).f3))) then (wrap64 (x12_3 * (wrap64 (((rd_T50 l0_1 x37_2).f4) - (Int.tmod (wrap64 (((rd_T50 l0_1 x37_2).f4) - ((rd_T50 l0_1 x37_2).f3))) ((rd_T50 l0_1 x37_2).f5)))))) else (wrap64 (x12_3 * ((rd_T50 l0_1 x37_2).f3)))) = ji42 := hji42
             have H' := Sd.mk H; clear H; have hnb43 := NB189_183.out; have hnc43 := NB183_189.out; have hnb44 := NB189_184.out; have hnc44 := NB184_189.out; obtain ⟨u45_0, u45_1, u45_2, u45_3, u45_4, u45_5, u45_6, o45_0, o45_1, o45_2, o45_3, o45_4, o45_5, o45_6⟩ := bc7 (w := wr) BK189.out
             go_wp2
             repeat (go_quiet (fail); try go_wp2)
             go_roundg k3
             case measure => have := HK1.out; have := HK2.out; have := HK3.out; omega
             case rel => exact ⟨(wrap64 (x7_2 + (ji42))), (wrap64 (x37_2 + 1)), (by first | rfl | (simp; done) | (simp only [← hji42] <;> (first | rfl | simp)) | (simp [*]; done)), tS, H', ⟨by have := HK1.out; have := HK2.out; have := HK3.out; omega⟩, ⟨bkA BK183.out⟩, ⟨bkA BK184.out⟩, ⟨bBl HB.out⟩⟩
        ·rw [if_neg c20] at H
         exact absurd H (by simp)
       ·rw [if_neg c19] at H
        exact absurd H (by simp)
      ·rw [if_neg c18] at H
       have c18b0 : decide (x37_2 < (l0_1.length : Int)) = false := decide_eq_false c18
       clear c18; obtain rfl := Option.some.inj H
       go_wp2
       repeat (go_quiet (fail); try go_wp2)
       go_ret
       exact ⟨tE, bBl HB.out⟩
end
section
def b_Bound.j0 : Nat → List (S40) → Bool → List ByteArray → List (S50) → List (S27) → List (S77) → Int → Int → Int → Int → List Int → Option (Int × Bool × Int)
 | 0, _, _, _, _, _, _, _, _, _, _, _ => none
 | k + 1, x8, x33, x196q0, x196q1, x196q2, x196q3, x196q4, x196q5, x196q6, x197q0, x197q1 => if x33 = true then (some (0, false, 1)) else ((b_least.f k x196q0 x196q1 x196q2 x196q3 x196q4 x196q5 x196q6 x8 x197q0 x197q1).bind fun t203 => (if x197q0 = 0 then (some (0, decide (t203 > 0), 0)) else ((b_up.f t203 x197q0).bind fun t204 => (some (t204, false, 0)))))
def b_Bound.f (k : Nat) (l0_0 : List ByteArray) (l0_1 : List (S50)) (l0_2 : List (S27)) (l0_3 : List (S77)) (a0_4 : Int) (a0_5 : Int) (a0_6 : Int) (a1_0 : Int) (l1_1 : List Int) : Option (Int × Bool × Int) := (b_Check.f k l0_0 l0_1 l0_2 l0_3 a0_4 a0_5 a0_6).bind fun t197 => (if t197 = 0 then ((x_lines.f l0_0 l0_1 l0_2 l0_3 a0_4 a0_5 a0_6).bind fun t198 => ((b_within.f a1_0 0 1000000).bind fun t201 => (if t201 = true then (if (l1_1.length : Int) = (t198.length : Int) then ((x_weights.f l1_1).bind fun t202 => (b_Bound.j0 k t198 t202 l0_0 l0_1 l0_2 l0_3 a0_4 a0_5 a0_6 a1_0 l1_1)) else (b_Bound.j0 k t198 true l0_0 l0_1 l0_2 l0_3 a0_4 a0_5 a0_6 a1_0 l1_1)) else (b_Bound.j0 k t198 true l0_0 l0_1 l0_2 l0_3 a0_4 a0_5 a0_6 a1_0 l1_1)))) else (some (0, false, t197)))
theorem b_Bound.calls (k : Nat) (A0_0 : Option Addr) (c0_0 : Nat) (l0_0 : List ByteArray) (A0_1 : Option Addr) (c0_1 : Nat) (l0_1 : List (S50)) (A0_2 : Option Addr) (c0_2 : Nat) (l0_2 : List (S27)) (A0_3 : Option Addr) (c0_3 : Nat) (l0_3 : List (S77)) (a0_4 : Int) (a0_5 : Int) (a0_6 : Int) (a1_0 : Int) (A1_1 : Option Addr) (c1_1 : Nat) (l1_1 : List Int) (r1 : Int) (r2 : Bool) (r3 : Int) (w : World) (hr0_0 : Kd.C Kd.string w A0_0 l0_0.length l0_0) (hc0_0 : l0_0.length ≤ c0_0) (hr0_1 : Kd.C k50 w A0_1 l0_1.length l0_1) (hc0_1 : l0_1.length ≤ c0_1) (hr0_2 : Kd.C k27 w A0_2 l0_2.length l0_2) (hc0_2 : l0_2.length ≤ c0_2) (hr0_3 : Kd.C k77 w A0_3 l0_3.length l0_3) (hc0_3 : l0_3.length ≤ c0_3) (hr1_1 : Kd.C (Kd.int .i64) w A1_1 l1_1.length l1_1) (hc1_1 : l1_1.length ≤ c1_1) (h : b_Bound.f k l0_0 l0_1 l0_2 l0_3 a0_4 a0_5 a0_6 a1_0 l1_1 = some (r1, r2, r3)) :
  Calls Tryz.prog 11 #[.agg #[.slice A0_0 l0_0.length c0_0, .slice A0_1 l0_1.length c0_1, .slice A0_2 l0_2.length c0_2, .slice A0_3 l0_3.length c0_3, .int .i64 a0_4, .int .i64 a0_5, .int .i64 a0_6], .agg #[.int .i64 a1_0, .slice A1_1 l1_1.length c1_1]] w fun e w' => e = .returned (.tuple #[.int .i64 r1, .bool r2, .int .i64 r3]) ∧ Below w.heap.size w w' := by
 have hu29 := Tryz.underlying29; have hu46 := Tryz.underlying46; have HR0_0 := Sd.mk hr0_0; have HC0_0 := Sd.mk hc0_0; clear hr0_0 hc0_0; have HR0_1 := Sd.mk hr0_1; have HC0_1 := Sd.mk hc0_1; clear hr0_1 hc0_1; have HR0_2 := Sd.mk hr0_2; have HC0_2 := Sd.mk hc0_2; clear hr0_2 hc0_2; have HR0_3 := Sd.mk hr0_3; have HC0_3 := Sd.mk hc0_3; clear hr0_3 hc0_3; have HR1_1 := Sd.mk hr1_1; have HC1_1 := Sd.mk hc1_1; clear hr1_1 hc1_1; have HB := Sd.mk (Below.refl w.heap.size w)
 have H : ((b_Check.f k l0_0 l0_1 l0_2 l0_3 a0_4 a0_5 a0_6).bind fun t197 => (if t197 = 0 then ((x_lines.f l0_0 l0_1 l0_2 l0_3 a0_4 a0_5 a0_6).bind fun t198 => ((b_within.f a1_0 0 1000000).bind fun t201 => (if t201 = true then (if (l1_1.length : Int) = (t198.length : Int) then ((x_weights.f l1_1).bind fun t202 => (b_Bound.j0 k t198 t202 l0_0 l0_1 l0_2 l0_3 a0_4 a0_5 a0_6 a1_0 l1_1)) else (b_Bound.j0 k t198 true l0_0 l0_1 l0_2 l0_3 a0_4 a0_5 a0_6 a1_0 l1_1)) else (b_Bound.j0 k t198 true l0_0 l0_1 l0_2 l0_3 a0_4 a0_5 a0_6 a1_0 l1_1)))) else (some (0, false, t197)))) = some (r1, r2, r3) := h
 clear h; replace H := Option.bind_eq_some_iff.mp H; obtain ⟨t197, A30, H⟩ := H
 try dsimp only at H
 have A3 := Sd.mk A30; clear A30
 by_cases c4 : t197 = 0
 ·rw [if_pos c4] at H
  have c4b0 : (t197 == 0) = true := beq_iff_eq.mpr c4
  have c4b1 : (t197 != 0) = false := bne_eq_false_iff_eq.mpr c4
  clear c4; replace H := Option.bind_eq_some_iff.mp H; obtain ⟨t198, A50, H⟩ := H
  try dsimp only at H
  have A5 := Sd.mk A50; clear A50; have HC6 := Sd.mk H; clear H
  go_enter Tryz.func11, Tryz.ntmps11
  go_upto_region 5 with (first | ((with_reducible refine gate_dst (N := 2) rfl ?_); (try (refine gate_guard (by rfl) ?_; dsimp only)); refine box_event ?hg (N := 2) ?hd (cs := #[.slice A0_0 l0_0.length c0_0, .slice A0_1 l0_1.length c0_1, .slice A0_2 l0_2.length c0_2, .slice A0_3 l0_3.length c0_3, .int .i64 a0_4, .int .i64 a0_5, .int .i64 a0_6]) (t := 29) ?hr ?_; (case hd => rfl); (case hg => rfl); (case hr => exact tG); intro gb195 hg w7 hbox hb; have BK195 := Sd.mk (hbox); have GW195 := Sd.mk (bSz hg (bBl HB.out)); have GE195 := Sd.mk (bSz hg (bBl HB.out)); replace HB := Sd.mk (below_step (bBl HB.out) hb); clear hb hbox hg) | ((with_reducible refine gate_dst (N := 3) rfl ?_); (try (refine gate_guard (by rfl) ?_; dsimp only)); refine box_event ?hg (N := 3) ?hd (cs := #[.int .i64 a1_0, .slice A1_1 l1_1.length c1_1]) (t := 46) ?hr ?_; (case hd => rfl); (case hg => rfl); (case hr => exact tG); intro gb196 hg w8 hbox hb; have BK196 := Sd.mk (hbox); have GW196 := Sd.mk (bSz hg (bBl HB.out)); have GE196 := Sd.mk (bSz hg (bBl HB.out)); replace HB := Sd.mk (below_step (bBl HB.out) hb); have NB195_196 := Sd.mk (bNl hg (bkA BK195.out)); have NB196_195 := Sd.mk (bNg hg (bkA BK195.out)); replace BK195 := Sd.mk (blk_below (bkA BK195.out) hb); clear hb hbox hg; have hnb9 := NB195_196.out; have hnc9 := NB196_195.out; obtain ⟨u10_0, u10_1, u10_2, u10_3, u10_4, u10_5, u10_6, o10_0, o10_1, o10_2, o10_3, o10_4, o10_5, o10_6⟩ := bc7 (w := w8) BK195.out) | ((with_reducible refine gate_callee (f := 13) rfl ?_); refine goesL_ (some 11) rfl rfl Tryz.func13 (by kernel_rfl) rfl #[.agg #[.slice A0_0 l0_0.length c0_0, .slice A0_1 l0_1.length c0_1, .slice A0_2 l0_2.length c0_2, .slice A0_3 l0_3.length c0_3, .int .i64 a0_4, .int .i64 a0_5, .int .i64 a0_6]] rfl tM ?_; (with_reducible refine (b_Check.calls k _ _ l0_0 _ _ l0_1 _ _ l0_2 _ _ l0_3 a0_4 a0_5 a0_6 t197 _ (cS (Kd.C_below HR0_0.out HB.out)) HC0_0.out (cS (Kd.C_below HR0_1.out HB.out)) HC0_1.out (cS (Kd.C_below HR0_2.out HB.out)) HC0_2.out (cS (Kd.C_below HR0_3.out HB.out)) HC0_3.out A3.out).mono ?_); rintro e w11 ⟨rfl, hb⟩; refine ⟨_, rfl, ?_⟩; replace BK195 := Sd.mk (blk_below (bkA BK195.out) hb); replace BK196 := Sd.mk (blk_below (bkA BK196.out) hb); replace HB := Sd.mk (below_step (bBl HB.out) hb); (try clear hb); (try clear hb2); (try clear hk); (try clear hi); obtain ⟨u12_0, u12_1, u12_2, u12_3, u12_4, u12_5, u12_6, o12_0, o12_1, o12_2, o12_3, o12_4, o12_5, o12_6⟩ := bc7 (w := w11) BK195.out) | ((with_reducible refine gate_callee (f := 22) rfl ?_); refine goesL_ (some 16) rfl rfl Tryz.func22 (by kernel_rfl) rfl #[.agg #[.slice A0_0 l0_0.length c0_0, .slice A0_1 l0_1.length c0_1, .slice A0_2 l0_2.length c0_2, .slice A0_3 l0_3.length c0_3, .int .i64 a0_4, .int .i64 a0_5, .int .i64 a0_6]] rfl tM ?_; (with_reducible refine (x_lines.calls _ _ l0_0 _ _ l0_1 _ _ l0_2 _ _ l0_3 a0_4 a0_5 a0_6 t198 _ (cS (Kd.C_below HR0_0.out HB.out)) HC0_0.out (cS (Kd.C_below HR0_1.out HB.out)) HC0_1.out (cS (Kd.C_below HR0_2.out HB.out)) HC0_2.out (cS (Kd.C_below HR0_3.out HB.out)) HC0_3.out A5.out).mono ?_); rintro e w13 ⟨v199, rfl, ho0, hb⟩; refine ⟨_, rfl, ?_⟩; have HO200 := Sd.mk (Kd.R_lower ho0 (below_size (bBl HB.out))); replace BK195 := Sd.mk (blk_below (bkA BK195.out) hb); replace BK196 := Sd.mk (blk_below (bkA BK196.out) hb); replace HB := Sd.mk (below_step (bBl HB.out) hb); (try clear hb); (try clear hb2); (try clear hk); (try clear hi); (try clear ho0)))
  (try simp only [Act.put, List.setIfInBounds_toArray, List.set_cons_zero, List.set_cons_succ])
  go_cut [33] (fun v33 wc => ∃ (kq : Nat) (x33_5 : Bool), v33 = .bool x33_5 ∧ Sd (b_Bound.j0 kq t198 x33_5 l0_0 l0_1 l0_2 l0_3 a0_4 a0_5 a0_6 a1_0 l1_1 = some (r1, r2, r3)) ∧ Sd (kq ≤ k) ∧ Sd (Kd.R k40 40 wc w.heap.size (fun _ => True) v199 t198) ∧ Sd (wc.heap[gb195]? = some (.cells #[(.slice A0_0 l0_0.length c0_0), (.slice A0_1 l0_1.length c0_1), (.slice A0_2 l0_2.length c0_2), (.slice A0_3 l0_3.length c0_3), .int .i64 a0_4, .int .i64 a0_5, .int .i64 a0_6] 29 (0, 0))) ∧ Sd (wc.heap[gb196]? = some (.cells #[.int .i64 a1_0, (.slice A1_1 l1_1.length c1_1)] 46 (0, 0))) ∧ Sd (Below w.heap.size w wc))
  case first =>
   have H := HC6.out; clear HC6; replace H := Option.bind_eq_some_iff.mp H; obtain ⟨t201, A140, H⟩ := H
   try dsimp only at H
   have A14 := Sd.mk A140; clear A140
   by_cases c15 : t201 = true
   ·subst c15
    have H1 : (if (l1_1.length : Int) = (t198.length : Int) then ((x_weights.f l1_1).bind fun t202 => (b_Bound.j0 k t198 t202 l0_0 l0_1 l0_2 l0_3 a0_4 a0_5 a0_6 a1_0 l1_1)) else (b_Bound.j0 k t198 true l0_0 l0_1 l0_2 l0_3 a0_4 a0_5 a0_6 a1_0 l1_1)) = some (r1, r2, r3) := by rw [if_pos rfl] at H; exact H
    clear H; have H := H1; clear H1
    by_cases c16 : (l1_1.length : Int) = (t198.length : Int)
    ·rw [if_pos c16] at H
     have c16b0 : ((l1_1.length : Int) == (t198.length : Int)) = true := beq_iff_eq.mpr c16
     have c16b1 : ((l1_1.length : Int) != (t198.length : Int)) = false := bne_eq_false_iff_eq.mpr c16
     have c16b2 : (l1_1.length == t198.length) = true := by first | simpa using c16 | (simp at c16 ⊢; omega)
     clear c16
     (first | rw [c16b0] | (simp only [i64_w, i32_w]; rw [c16b0]) | skip)
     replace H := Option.bind_eq_some_iff.mp H; obtain ⟨t202, A170, H⟩ := H
     try dsimp only at H
     have A17 := Sd.mk A170; clear A170; have H' := Sd.mk H; clear H; have hnb18 := NB196_195.out; have hnc18 := NB195_196.out; obtain ⟨u19_0, u19_1, o19_0, o19_1⟩ := bc2 (w := w13) BK196.out
     go_wp2_with (first | ((with_reducible refine gate_callee (f := 26) rfl ?_); refine goesL_ (some 19) rfl rfl Tryz.func26 (by kernel_rfl) rfl #[.int .i64 a1_0, .int .i64 0, .int .i64 1000000] rfl tM ?_; (with_reducible refine (b_within.calls a1_0 0 1000000 true _ A14.out).mono ?_); rintro e w' ⟨rfl, ⟨nd, rfl⟩⟩; refine ⟨_, rfl, ?_⟩; obtain ⟨Ao20, co20, eo20⟩ := Kd.R_slice HO200.out; subst eo20) | (go_at_call 27; (with_reducible refine (x_weights.calls _ _ l1_1 t202 _ (cS (Kd.C_below HR1_1.out (bBl HB.out))) HC1_1.out A17.out).mono ?_); rintro e w21 ⟨rfl, hb⟩; replace HO200 := Sd.mk (Kd.R_below (by (with_reducible repeat (first | apply Kd.R_alloc | apply Kd.R_drewN | apply Kd.R_drew)); exact HO200.out) hb); replace BK195 := Sd.mk (blk_below (bkA BK195.out) hb); replace BK196 := Sd.mk (blk_below (bkA BK196.out) hb); replace HB := Sd.mk (below_step (bBl HB.out) hb); (try clear hb); (try clear hb2); (try clear hk); (try clear hi)))
     go_meet
     case rel => exact ⟨_, (t202), tS, H', ⟨by first | omega | exact Nat.le_refl _⟩, ⟨by (with_reducible repeat (first | apply Kd.R_alloc | apply Kd.R_drewN | apply Kd.R_drew)); exact HO200.out⟩, ⟨bkA BK195.out⟩, ⟨bkA BK196.out⟩, ⟨bBl HB.out⟩⟩
    ·rw [if_neg c16] at H
     have c16b0 : ((l1_1.length : Int) == (t198.length : Int)) = false := beq_eq_false_iff_ne.mpr c16
     have c16b1 : ((l1_1.length : Int) != (t198.length : Int)) = true := bne_iff_ne.mpr c16
     have c16b2 : (l1_1.length == t198.length) = false := by first | simpa using c16 | (simp at c16 ⊢; omega)
     (first | rw [c16b0] | (simp only [i64_w, i32_w]; rw [c16b0]) | skip)
     have H' := Sd.mk H; clear H; have hnb22 := NB196_195.out; have hnc22 := NB195_196.out; obtain ⟨u23_0, u23_1, o23_0, o23_1⟩ := bc2 (w := w13) BK196.out
     go_wp2_with (first | ((with_reducible refine gate_callee (f := 26) rfl ?_); refine goesL_ (some 19) rfl rfl Tryz.func26 (by kernel_rfl) rfl #[.int .i64 a1_0, .int .i64 0, .int .i64 1000000] rfl tM ?_; (with_reducible refine (b_within.calls a1_0 0 1000000 true _ A14.out).mono ?_); rintro e w' ⟨rfl, ⟨nd, rfl⟩⟩; refine ⟨_, rfl, ?_⟩; obtain ⟨Ao24, co24, eo24⟩ := Kd.R_slice HO200.out; subst eo24))
     go_meet
     case rel => exact ⟨_, (true), tS, H', ⟨by first | omega | exact Nat.le_refl _⟩, ⟨by (with_reducible repeat (first | apply Kd.R_alloc | apply Kd.R_drewN | apply Kd.R_drew)); exact HO200.out⟩, ⟨bkA BK195.out⟩, ⟨bkA BK196.out⟩, ⟨bBl HB.out⟩⟩
   ·replace c15 := Bool.eq_false_iff.mpr c15
    subst c15
    have H1 : (b_Bound.j0 k t198 true l0_0 l0_1 l0_2 l0_3 a0_4 a0_5 a0_6 a1_0 l1_1) = some (r1, r2, r3) := by rw [if_neg (show ¬ (false = true) by decide)] at H; exact H
    clear H; have H := H1; clear H1; have H' := Sd.mk H; clear H; have hnb25 := NB196_195.out; have hnc25 := NB195_196.out; obtain ⟨u26_0, u26_1, o26_0, o26_1⟩ := bc2 (w := w13) BK196.out
    go_wp2_with (first | ((with_reducible refine gate_callee (f := 26) rfl ?_); refine goesL_ (some 19) rfl rfl Tryz.func26 (by kernel_rfl) rfl #[.int .i64 a1_0, .int .i64 0, .int .i64 1000000] rfl tM ?_; (with_reducible refine (b_within.calls a1_0 0 1000000 false _ A14.out).mono ?_); rintro e w' ⟨rfl, ⟨nd, rfl⟩⟩; refine ⟨_, rfl, ?_⟩))
    go_meet
    case rel => exact ⟨_, (true), tS, H', ⟨by first | omega | exact Nat.le_refl _⟩, ⟨by (with_reducible repeat (first | apply Kd.R_alloc | apply Kd.R_drewN | apply Kd.R_drew)); exact HO200.out⟩, ⟨bkA BK195.out⟩, ⟨bkA BK196.out⟩, ⟨bBl HB.out⟩⟩
  case rest =>
   clear HC6; (try clear c1); (try clear c2); (try clear p2); (try clear c4); (try clear c4b0); (try clear c4b1); (try clear c9); (try clear c11); (try clear c13); (try clear c15); (try clear c16); (try clear c16b0); (try clear c16b1); (try clear c16b2); (try clear c18); (try clear c22); (try clear c25); (try clear c26); (try clear u10_0 u10_1 u10_2 u10_3 u10_4 u10_5 u10_6); (try clear u12_0 u12_1 u12_2 u12_3 u12_4 u12_5 u12_6); (try clear u19_0 u19_1); (try clear u23_0 u23_1); (try clear u26_0 u26_1); (try clear o10_0 o10_1 o10_2 o10_3 o10_4 o10_5 o10_6); (try clear o12_0 o12_1 o12_2 o12_3 o12_4 o12_5 o12_6); (try clear o19_0 o19_1); (try clear o23_0 o23_1); (try clear o26_0 o26_1); obtain ⟨kq, x33_5, rfl, HA, HJ5, HO_8, BK195, BK196, HB⟩ := hcut
   cases kq with
   | zero => exact absurd HA.out (by simp [b_Bound.j0])
   | succ kj5 =>
    have H := HA.out; clear HA
    simp only [b_Bound.j0] at H
    by_cases c27 : x33_5 = true
    ·subst c27
     have H1 : (some (0, false, 1)) = some (r1, r2, r3) := by rw [if_pos rfl] at H; exact H
     clear H; have H := H1; clear H1
     simp only [Option.some.injEq, Prod.mk.injEq] at H
     obtain ⟨rfl, rfl, rfl⟩ := H
     go_wp2
     go_ret3
     exact ⟨tE, bBl HB.out⟩
    ·replace c27 := Bool.eq_false_iff.mpr c27
     subst c27
     have H1 : ((b_least.f kj5 l0_0 l0_1 l0_2 l0_3 a0_4 a0_5 a0_6 t198 a1_0 l1_1).bind fun t203 => (if a1_0 = 0 then (some (0, decide (t203 > 0), 0)) else ((b_up.f t203 a1_0).bind fun t204 => (some (t204, false, 0))))) = some (r1, r2, r3) := by rw [if_neg (show ¬ (false = true) by decide)] at H; exact H
     clear H; have H := H1; clear H1; replace H := Option.bind_eq_some_iff.mp H; obtain ⟨t203, A280, H⟩ := H
     try dsimp only at H
     have A28 := Sd.mk A280; clear A280
     by_cases c29 : a1_0 = 0
     ·rw [if_pos c29] at H
      have c29b0 : (a1_0 == 0) = true := beq_iff_eq.mpr c29
      have c29b1 : (a1_0 != 0) = false := bne_eq_false_iff_eq.mpr c29
      clear c29
      simp only [Option.some.injEq, Prod.mk.injEq] at H
      obtain ⟨rfl, rfl, rfl⟩ := H; have hnb30 := NB195_196.out; have hnc30 := NB196_195.out; obtain ⟨u31_0, u31_1, u31_2, u31_3, u31_4, u31_5, u31_6, o31_0, o31_1, o31_2, o31_3, o31_4, o31_5, o31_6⟩ := bc7 (w := wc) BK195.out; obtain ⟨u32_0, u32_1, o32_0, o32_1⟩ := bc2 (w := wc) BK196.out; obtain ⟨Ao33, co33, eo33⟩ := Kd.R_slice HO_8.out; subst eo33
      go_wp2_with (first | ((with_reducible refine gate_callee (f := 29) rfl ?_); refine goesL_ (some 37) rfl rfl Tryz.func29 (by kernel_rfl) rfl #[.agg #[.slice A0_0 l0_0.length c0_0, .slice A0_1 l0_1.length c0_1, .slice A0_2 l0_2.length c0_2, .slice A0_3 l0_3.length c0_3, .int .i64 a0_4, .int .i64 a0_5, .int .i64 a0_6], .slice Ao33 t198.length co33, .agg #[.int .i64 a1_0, .slice A1_1 l1_1.length c1_1]] rfl tM ?_; (with_reducible refine (b_least.calls kj5 _ _ l0_0 _ _ l0_1 _ _ l0_2 _ _ l0_3 a0_4 a0_5 a0_6 _ _ t198 a1_0 _ _ l1_1 t203 _ (cS (Kd.C_below HR0_0.out HB.out)) HC0_0.out (cS (Kd.C_below HR0_1.out HB.out)) HC0_1.out (cS (Kd.C_below HR0_2.out HB.out)) HC0_2.out (cS (Kd.C_below HR0_3.out HB.out)) HC0_3.out (cS ((Kd.R_reads' HO_8.out).2.2)) ((Kd.R_reads' HO_8.out).2.1) (cS (Kd.C_below HR1_1.out HB.out)) HC1_1.out A28.out).mono ?_); rintro e w34 ⟨rfl, hb⟩; refine ⟨_, rfl, ?_⟩; replace HO_8 := Sd.mk (Kd.R_below (by (with_reducible repeat (first | apply Kd.R_alloc | apply Kd.R_drewN | apply Kd.R_drew)); exact HO_8.out) hb); replace BK195 := Sd.mk (blk_below (bkA BK195.out) hb); replace BK196 := Sd.mk (blk_below (bkA BK196.out) hb); replace HB := Sd.mk (below_step (bBl HB.out) hb); (try clear hb); (try clear hb2); (try clear hk); (try clear hi); obtain ⟨u35_0, u35_1, o35_0, o35_1⟩ := bc2 (w := w34) BK196.out))
      go_ret3
      exact ⟨tE, bBl HB.out⟩
     ·rw [if_neg c29] at H
      have c29b0 : (a1_0 == 0) = false := beq_eq_false_iff_ne.mpr c29
      have c29b1 : (a1_0 != 0) = true := bne_iff_ne.mpr c29
      replace H := Option.bind_eq_some_iff.mp H; obtain ⟨t204, A360, H⟩ := H
      try dsimp only at H
      have A36 := Sd.mk A360; clear A360
      simp only [Option.some.injEq, Prod.mk.injEq] at H
      obtain ⟨rfl, rfl, rfl⟩ := H; have hnb37 := NB195_196.out; have hnc37 := NB196_195.out; obtain ⟨u38_0, u38_1, u38_2, u38_3, u38_4, u38_5, u38_6, o38_0, o38_1, o38_2, o38_3, o38_4, o38_5, o38_6⟩ := bc7 (w := wc) BK195.out; obtain ⟨u39_0, u39_1, o39_0, o39_1⟩ := bc2 (w := wc) BK196.out; obtain ⟨Ao40, co40, eo40⟩ := Kd.R_slice HO_8.out; subst eo40
      go_wp2_with (first | ((with_reducible refine gate_callee (f := 29) rfl ?_); refine goesL_ (some 37) rfl rfl Tryz.func29 (by kernel_rfl) rfl #[.agg #[.slice A0_0 l0_0.length c0_0, .slice A0_1 l0_1.length c0_1, .slice A0_2 l0_2.length c0_2, .slice A0_3 l0_3.length c0_3, .int .i64 a0_4, .int .i64 a0_5, .int .i64 a0_6], .slice Ao40 t198.length co40, .agg #[.int .i64 a1_0, .slice A1_1 l1_1.length c1_1]] rfl tM ?_; (with_reducible refine (b_least.calls kj5 _ _ l0_0 _ _ l0_1 _ _ l0_2 _ _ l0_3 a0_4 a0_5 a0_6 _ _ t198 a1_0 _ _ l1_1 t203 _ (cS (Kd.C_below HR0_0.out HB.out)) HC0_0.out (cS (Kd.C_below HR0_1.out HB.out)) HC0_1.out (cS (Kd.C_below HR0_2.out HB.out)) HC0_2.out (cS (Kd.C_below HR0_3.out HB.out)) HC0_3.out (cS ((Kd.R_reads' HO_8.out).2.2)) ((Kd.R_reads' HO_8.out).2.1) (cS (Kd.C_below HR1_1.out HB.out)) HC1_1.out A28.out).mono ?_); rintro e w41 ⟨rfl, hb⟩; refine ⟨_, rfl, ?_⟩; replace HO_8 := Sd.mk (Kd.R_below (by (with_reducible repeat (first | apply Kd.R_alloc | apply Kd.R_drewN | apply Kd.R_drew)); exact HO_8.out) hb); replace BK195 := Sd.mk (blk_below (bkA BK195.out) hb); replace BK196 := Sd.mk (blk_below (bkA BK196.out) hb); replace HB := Sd.mk (below_step (bBl HB.out) hb); (try clear hb); (try clear hb2); (try clear hk); (try clear hi); obtain ⟨u42_0, u42_1, o42_0, o42_1⟩ := bc2 (w := w41) BK196.out) | ((with_reducible refine gate_callee (f := 30) rfl ?_); refine goesL_ (some 46) rfl rfl Tryz.func30 (by kernel_rfl) rfl #[.int .i64 t203, .int .i64 a1_0] rfl tM ?_; (with_reducible refine (b_up.calls t203 a1_0 t204 _ A36.out).mono ?_); rintro e w' ⟨rfl, ⟨nd, rfl⟩⟩; refine ⟨_, rfl, ?_⟩))
      go_ret3
      exact ⟨tE, bBl HB.out⟩
 ·rw [if_neg c4] at H
  have c4b0 : (t197 == 0) = false := beq_eq_false_iff_ne.mpr c4
  have c4b1 : (t197 != 0) = true := bne_iff_ne.mpr c4
  simp only [Option.some.injEq, Prod.mk.injEq] at H
  obtain ⟨rfl, rfl, rfl⟩ := H
  go_enter Tryz.func11, Tryz.ntmps11
  go_wp2_with (first | ((with_reducible refine gate_dst (N := 2) rfl ?_); (try (refine gate_guard (by rfl) ?_; dsimp only)); refine box_event ?hg (N := 2) ?hd (cs := #[.slice A0_0 l0_0.length c0_0, .slice A0_1 l0_1.length c0_1, .slice A0_2 l0_2.length c0_2, .slice A0_3 l0_3.length c0_3, .int .i64 a0_4, .int .i64 a0_5, .int .i64 a0_6]) (t := 29) ?hr ?_; (case hd => rfl); (case hg => rfl); (case hr => exact tG); intro gb195 hg w43 hbox hb; have BK195 := Sd.mk (hbox); have GW195 := Sd.mk (bSz hg (bBl HB.out)); have GE195 := Sd.mk (bSz hg (bBl HB.out)); replace HB := Sd.mk (below_step (bBl HB.out) hb); clear hb hbox hg) | ((with_reducible refine gate_dst (N := 3) rfl ?_); (try (refine gate_guard (by rfl) ?_; dsimp only)); refine box_event ?hg (N := 3) ?hd (cs := #[.int .i64 a1_0, .slice A1_1 l1_1.length c1_1]) (t := 46) ?hr ?_; (case hd => rfl); (case hg => rfl); (case hr => exact tG); intro gb196 hg w44 hbox hb; have BK196 := Sd.mk (hbox); have GW196 := Sd.mk (bSz hg (bBl HB.out)); have GE196 := Sd.mk (bSz hg (bBl HB.out)); replace HB := Sd.mk (below_step (bBl HB.out) hb); have NB195_196 := Sd.mk (bNl hg (bkA BK195.out)); have NB196_195 := Sd.mk (bNg hg (bkA BK195.out)); replace BK195 := Sd.mk (blk_below (bkA BK195.out) hb); clear hb hbox hg; have hnb45 := NB195_196.out; have hnc45 := NB196_195.out; obtain ⟨u46_0, u46_1, u46_2, u46_3, u46_4, u46_5, u46_6, o46_0, o46_1, o46_2, o46_3, o46_4, o46_5, o46_6⟩ := bc7 (w := w44) BK195.out) | ((with_reducible refine gate_callee (f := 13) rfl ?_); refine goesL_ (some 11) rfl rfl Tryz.func13 (by kernel_rfl) rfl #[.agg #[.slice A0_0 l0_0.length c0_0, .slice A0_1 l0_1.length c0_1, .slice A0_2 l0_2.length c0_2, .slice A0_3 l0_3.length c0_3, .int .i64 a0_4, .int .i64 a0_5, .int .i64 a0_6]] rfl tM ?_; (with_reducible refine (b_Check.calls k _ _ l0_0 _ _ l0_1 _ _ l0_2 _ _ l0_3 a0_4 a0_5 a0_6 t197 _ (cS (Kd.C_below HR0_0.out HB.out)) HC0_0.out (cS (Kd.C_below HR0_1.out HB.out)) HC0_1.out (cS (Kd.C_below HR0_2.out HB.out)) HC0_2.out (cS (Kd.C_below HR0_3.out HB.out)) HC0_3.out A3.out).mono ?_); rintro e w47 ⟨rfl, hb⟩; refine ⟨_, rfl, ?_⟩; replace BK195 := Sd.mk (blk_below (bkA BK195.out) hb); replace BK196 := Sd.mk (blk_below (bkA BK196.out) hb); replace HB := Sd.mk (below_step (bBl HB.out) hb); (try clear hb); (try clear hb2); (try clear hk); (try clear hi)))
  go_ret3
  exact ⟨tE, bBl HB.out⟩
end
section
open Go.RowKit Go.Shelf Go.Proofs.YtnmdojgfedddbaaGreatDoorW.PrintWords Go.Proofs.YtnmdojgfedddbaaGreatDoorW.PrintLast Go.Proofs.YtnmdojgfedddbaaGreatDoorW.PrintMore
attribute [local go_sem] Oper.semAt_some
def oxs : List ByteArray := [⟨#[115, 105]⟩, ⟨#[110, 97]⟩]
def mts : List S50 := [⟨⟨#[115, 97, 110, 100]⟩, 1, 0, 0, 200, 20, [⟨980, 1000⟩, ⟨0, 0⟩]⟩, ⟨⟨#[115, 111, 100, 97]⟩, 4, 0, 0, 100, 20, [⟨0, 0⟩, ⟨570, 580⟩]⟩]
def mtsX : List S50 := [⟨⟨#[115, 97, 110, 100]⟩, 1, 0, 0, 200, 20, [⟨1001, 1000⟩, ⟨0, 0⟩]⟩, ⟨⟨#[115, 111, 100, 97]⟩, 4, 0, 0, 100, 20, [⟨0, 0⟩, ⟨570, 580⟩]⟩]
def shs : List S27 := [⟨700, 800⟩, ⟨200, 300⟩]
def lns : List S40 := ((b_Lines.f 60 oxs mts shs [] (-9999) 9999 100).getD ([], 0)).1
theorem lns_f : b_Lines.f 60 oxs mts shs [] (-9999) 9999 100 = some (lns, 0) := by kernel_rfl
theorem lns_len : lns.length = 7 := by kernel_rfl
theorem lns_0 : rd_T40 lns 0 = ⟨[-980, -570], -100000⟩ := by kernel_rfl
theorem pass_no : b_Passes.f 60 oxs mts shs [] (-9999) 9999 100 [80, 60] = some (false, 0) := by kernel_rfl
theorem pass_yes : b_Passes.f 60 oxs mts shs [] (-9999) 9999 100 [100, 60] = some (true, 0) := by kernel_rfl
theorem best_f : b_Best.f 200 oxs mts shs [] (-9999) 9999 100 = some ([80, 40], 240, true, 0) := by kernel_rfl
theorem best_g : b_Best.f 200 oxs mts shs [] (-9999) 9999 9000 = some ([], 0, false, 0) := by kernel_rfl
theorem bound_f : b_Bound.f 60 oxs mts shs [] (-9999) 9999 100 1 [0, 0, 0, 0, 0, 0, 0] = some (0, false, 0) := by kernel_rfl
theorem bound_g : b_Bound.f 60 oxs mts shs [] (-9999) 9999 9000 0 [1, 0, 0, 0, 0, 0, 0] = some (0, true, 0) := by kernel_rfl
theorem check_f : b_Check.f 60 oxs mtsX shs [] (-9999) 9999 9000 = some 1 := by kernel_rfl
theorem lives_f : lw_lives.f 60 = some true := by kernel_rfl
end
section
open Go.RowKit Go.Shelf Go.Proofs.YtnmdojgfedddbaaGreatDoorW.PrintWords Go.Proofs.YtnmdojgfedddbaaGreatDoorW.PrintLast Go.Proofs.YtnmdojgfedddbaaGreatDoorW.PrintMore
attribute [local go_sem] Oper.semAt_some
theorem below_row {B g : Nat} {w w' : World} (h : Below B w w') (hg : B ≤ g) (cs : Array Value) : Below B w (w'.setRow g cs) :=
  h.trans ⟨rfl, rfl, rfl, by simp [World.setRow], fun k hk => setRow_other _ _ _ _ (by omega)⟩
theorem parse1 (mx : Int) (w : World) (hm : w.cell? ⟨0, 0, none⟩ = some (.int .i64 mx)) :
    Calls Tryz.prog 12 #[.string ⟨#[111, 120, 105, 100, 101, 115, 32, 115, 105, 10, 114, 101, 100, 111, 120, 32, 48, 32, 49, 10]⟩] w fun e w' => e = .returned (.tuple #[.agg #[.slice none 0 0, .slice none 0 0, .slice none 0 0, .slice none 0 0, .int .i64 0, .int .i64 0, .int .i64 0], .int .i64 2, .int .i64 4]) ∧ Below w.heap.size w w' := by
  have HM := Sd.mk hm
  have HP := Sd.mk (blk_new w (.cells #[.slice none 0 0, .slice none 0 0, .slice none 0 0, .slice none 0 0, .int .i64 0, .int .i64 0, .int .i64 0] 29))
  have HB := Sd.mk (below_alloc (Below.refl w.heap.size w) (.cells #[.slice none 0 0, .slice none 0 0, .slice none 0 0, .slice none 0 0, .int .i64 0, .int .i64 0, .int .i64 0] 29))
  have HM0 := Sd.mk (mem_cell HB.out hm)
  clear hm
  go_enter Tryz.func12, Tryz.ntmps12
  go_upto_region 4 with (go_at_call 31; refine (sh_strings_Split ⟨#[111, 120, 105, 100, 101, 115, 32, 115, 105, 10, 114, 101, 100, 111, 120, 32, 48, 32, 49, 10]⟩ ⟨#[10]⟩ mx _ (by decide) HM0.out (by decide)).mono ?_; rw [show Lib.splitB ⟨#[10]⟩ 0 (Lib.countB ⟨#[111, 120, 105, 100, 101, 115, 32, 115, 105, 10, 114, 101, 100, 111, 120, 32, 48, 32, 49, 10]⟩ ⟨#[10]⟩) ⟨#[111, 120, 105, 100, 101, 115, 32, 115, 105, 10, 114, 101, 100, 111, 120, 32, 48, 32, 49, 10]⟩ = [⟨#[111, 120, 105, 100, 101, 115, 32, 115, 105]⟩, ⟨#[114, 101, 100, 111, 120, 32, 48, 32, 49]⟩, ⟨#[]⟩] from by kernel_rfl, show Lib.countB ⟨#[111, 120, 105, 100, 101, 115, 32, 115, 105, 10, 114, 101, 100, 111, 120, 32, 48, 32, 49, 10]⟩ ⟨#[10]⟩ = 2 from by kernel_rfl]; rintro e w1 ⟨rfl, hw1⟩; have HLP := Sd.mk (show (w.alloc (.cells #[.slice none 0 0, .slice none 0 0, .slice none 0 0, .slice none 0 0, .int .i64 0, .int .i64 0, .int .i64 0] 29)).heap.size ≠ w.heap.size by rw [World.size_alloc]; omega); have HL1 := Sd.mk (show w1.heap[(w.alloc (.cells #[.slice none 0 0, .slice none 0 0, .slice none 0 0, .slice none 0 0, .int .i64 0, .int .i64 0, .int .i64 0] 29)).heap.size]? = some (.cells #[.string ⟨#[111, 120, 105, 100, 101, 115, 32, 115, 105]⟩, .string ⟨#[114, 101, 100, 111, 120, 32, 48, 32, 49]⟩, .string ⟨#[]⟩] 9 (0, 0)) from hw1 ▸ blk_new _ _); have hb1 : Below (w.alloc (.cells #[.slice none 0 0, .slice none 0 0, .slice none 0 0, .slice none 0 0, .int .i64 0, .int .i64 0, .int .i64 0] 29)).heap.size (w.alloc (.cells #[.slice none 0 0, .slice none 0 0, .slice none 0 0, .slice none 0 0, .int .i64 0, .int .i64 0, .int .i64 0] 29)) w1 := hw1 ▸ below_alloc (Below.refl _ _) _; have HB1 := Sd.mk (below_then HB.out HB.out.size hb1); have HP1 := Sd.mk (blk_below HP.out hb1); clear hb1 hw1 HP HB HM0; generalize (w.alloc (.cells #[.slice none 0 0, .slice none 0 0, .slice none 0 0, .slice none 0 0, .int .i64 0, .int .i64 0, .int .i64 0] 29)).heap.size = L at HL1 HLP ⊢)
  have s0 : w1.cell? ⟨L, 2, none⟩ = some (.string ⟨#[]⟩) := (blk_cell HL1.out 2).trans rfl
  go_upto_region 8 with (fail)
  clear s0
  refine wp_loop_rounds 3 ?_
  rw [rounds_succ]
  have s0 : w1.cell? ⟨L, 0, none⟩ = some (.string ⟨#[111, 120, 105, 100, 101, 115, 32, 115, 105]⟩) := (blk_cell HL1.out 0).trans rfl
  go_upto_region 12 with (go_at_call 32; refine (read_oxides w.heap.size _ _ _ _ _ _ _ mx w1 (mem_cell HB1.out HM.out) HP1.out).mono ?_; rintro e w2 ⟨v0, rfl, hk, hp⟩; have HP2 := Sd.mk hp; have HL2 := Sd.mk (hk.obj HL1.out HLP.out); have HB2 := Sd.mk (HB1.out.trans hk.bel); clear hk hp)
  clear s0 HP1 HL1 HB1
  go_upto_region 8 with (fail)
  rw [rounds_succ]
  have s1 : w2.cell? ⟨L, 1, none⟩ = some (.string ⟨#[114, 101, 100, 111, 120, 32, 48, 32, 49]⟩) := (blk_cell HL2.out 1).trans rfl
  go_upto_region 12 with (go_at_call 32; refine (read_no w.heap.size _ _ _ _ _ _ _ mx w2 (mem_cell HB2.out HM.out) HP2.out).mono ?_; rintro e w3 ⟨rfl, hk, hp⟩; have HP3 := Sd.mk hp; have HL3 := Sd.mk (hk.obj HL2.out HLP.out); have HB3 := Sd.mk (HB2.out.trans hk.bel); clear hk hp)
  clear s1 HP2 HL2 HB2
  go_wp2_with ((with_reducible refine gate_store (t := 29) (p := 2) rfl ?_); refine wpList_store_row (by rfl) 29 (.tmp 2) (.tmp 44) rfl w.heap.size #[.slice none 0 0, .slice none 0 0, .slice none 0 0, .slice none 0 0, .int .i64 0, .int .i64 0, .int .i64 0] rfl rfl 29 #[v0, .slice none 0 0, .slice none 0 0, .slice none 0 0, .int .i64 0, .int .i64 0, .int .i64 0] HP3.out (by kernel_rfl) (by rfl) (by kernel_rfl) ?_)
  refine bodyPost_ret (results_ctt rfl _ _ w.heap.size 29 #[.slice none 0 0, .slice none 0 0, .slice none 0 0, .slice none 0 0, .int .i64 0, .int .i64 0, .int .i64 0] (0, 0) _ rfl (setRow_heap _ _ _ _ _ _ HP3.out) Tryz.underlying29 rfl (by kernel_rfl)) rfl ⟨rfl, ?_⟩
  exact below_row HB3.out (Nat.le_refl _) _
theorem parse2 (mx : Int) (w : World) (hm : w.cell? ⟨0, 0, none⟩ = some (.int .i64 mx)) :
    Calls Tryz.prog 12 #[.string ⟨#[111, 120, 105, 100, 101, 115, 32, 115, 105, 10, 119, 97, 110, 116, 101, 100, 32, 49, 10, 114, 101, 100, 111, 120, 32, 48, 32, 49, 10]⟩] w fun e w' => e = .returned (.tuple #[.agg #[.slice none 0 0, .slice none 0 0, .slice none 0 0, .slice none 0 0, .int .i64 0, .int .i64 0, .int .i64 0], .int .i64 0, .int .i64 4]) ∧ Below w.heap.size w w' := by
  have HM := Sd.mk hm
  have HP := Sd.mk (blk_new w (.cells #[.slice none 0 0, .slice none 0 0, .slice none 0 0, .slice none 0 0, .int .i64 0, .int .i64 0, .int .i64 0] 29))
  have HB := Sd.mk (below_alloc (Below.refl w.heap.size w) (.cells #[.slice none 0 0, .slice none 0 0, .slice none 0 0, .slice none 0 0, .int .i64 0, .int .i64 0, .int .i64 0] 29))
  have HM0 := Sd.mk (mem_cell HB.out hm)
  clear hm
  go_enter Tryz.func12, Tryz.ntmps12
  go_upto_region 4 with (go_at_call 31; refine (sh_strings_Split ⟨#[111, 120, 105, 100, 101, 115, 32, 115, 105, 10, 119, 97, 110, 116, 101, 100, 32, 49, 10, 114, 101, 100, 111, 120, 32, 48, 32, 49, 10]⟩ ⟨#[10]⟩ mx _ (by decide) HM0.out (by decide)).mono ?_; rw [show Lib.splitB ⟨#[10]⟩ 0 (Lib.countB ⟨#[111, 120, 105, 100, 101, 115, 32, 115, 105, 10, 119, 97, 110, 116, 101, 100, 32, 49, 10, 114, 101, 100, 111, 120, 32, 48, 32, 49, 10]⟩ ⟨#[10]⟩) ⟨#[111, 120, 105, 100, 101, 115, 32, 115, 105, 10, 119, 97, 110, 116, 101, 100, 32, 49, 10, 114, 101, 100, 111, 120, 32, 48, 32, 49, 10]⟩ = [⟨#[111, 120, 105, 100, 101, 115, 32, 115, 105]⟩, ⟨#[119, 97, 110, 116, 101, 100, 32, 49]⟩, ⟨#[114, 101, 100, 111, 120, 32, 48, 32, 49]⟩, ⟨#[]⟩] from by kernel_rfl, show Lib.countB ⟨#[111, 120, 105, 100, 101, 115, 32, 115, 105, 10, 119, 97, 110, 116, 101, 100, 32, 49, 10, 114, 101, 100, 111, 120, 32, 48, 32, 49, 10]⟩ ⟨#[10]⟩ = 3 from by kernel_rfl]; rintro e w1 ⟨rfl, hw1⟩; have HLP := Sd.mk (show (w.alloc (.cells #[.slice none 0 0, .slice none 0 0, .slice none 0 0, .slice none 0 0, .int .i64 0, .int .i64 0, .int .i64 0] 29)).heap.size ≠ w.heap.size by rw [World.size_alloc]; omega); have HL1 := Sd.mk (show w1.heap[(w.alloc (.cells #[.slice none 0 0, .slice none 0 0, .slice none 0 0, .slice none 0 0, .int .i64 0, .int .i64 0, .int .i64 0] 29)).heap.size]? = some (.cells #[.string ⟨#[111, 120, 105, 100, 101, 115, 32, 115, 105]⟩, .string ⟨#[119, 97, 110, 116, 101, 100, 32, 49]⟩, .string ⟨#[114, 101, 100, 111, 120, 32, 48, 32, 49]⟩, .string ⟨#[]⟩] 9 (0, 0)) from hw1 ▸ blk_new _ _); have hb1 : Below (w.alloc (.cells #[.slice none 0 0, .slice none 0 0, .slice none 0 0, .slice none 0 0, .int .i64 0, .int .i64 0, .int .i64 0] 29)).heap.size (w.alloc (.cells #[.slice none 0 0, .slice none 0 0, .slice none 0 0, .slice none 0 0, .int .i64 0, .int .i64 0, .int .i64 0] 29)) w1 := hw1 ▸ below_alloc (Below.refl _ _) _; have HB1 := Sd.mk (below_then HB.out HB.out.size hb1); have HP1 := Sd.mk (blk_below HP.out hb1); clear hb1 hw1 HP HB HM0; generalize (w.alloc (.cells #[.slice none 0 0, .slice none 0 0, .slice none 0 0, .slice none 0 0, .int .i64 0, .int .i64 0, .int .i64 0] 29)).heap.size = L at HL1 HLP ⊢)
  have s0 : w1.cell? ⟨L, 3, none⟩ = some (.string ⟨#[]⟩) := (blk_cell HL1.out 3).trans rfl
  go_upto_region 8 with (fail)
  clear s0
  refine wp_loop_rounds 4 ?_
  rw [rounds_succ]
  have s0 : w1.cell? ⟨L, 0, none⟩ = some (.string ⟨#[111, 120, 105, 100, 101, 115, 32, 115, 105]⟩) := (blk_cell HL1.out 0).trans rfl
  go_upto_region 12 with (go_at_call 32; refine (read_oxides w.heap.size _ _ _ _ _ _ _ mx w1 (mem_cell HB1.out HM.out) HP1.out).mono ?_; rintro e w2 ⟨v0, rfl, hk, hp⟩; have HP2 := Sd.mk hp; have HL2 := Sd.mk (hk.obj HL1.out HLP.out); have HB2 := Sd.mk (HB1.out.trans hk.bel); clear hk hp)
  clear s0 HP1 HL1 HB1
  go_upto_region 8 with (fail)
  rw [rounds_succ]
  have s1 : w2.cell? ⟨L, 1, none⟩ = some (.string ⟨#[119, 97, 110, 116, 101, 100, 32, 49]⟩) := (blk_cell HL2.out 1).trans rfl
  go_upto_region 12 with (go_at_call 32; refine (read_wanted w.heap.size _ _ _ _ _ _ _ mx w2 (mem_cell HB2.out HM.out) HP2.out).mono ?_; rintro e w3 ⟨rfl, hk, hp⟩; have HP3 := Sd.mk hp; have HL3 := Sd.mk (hk.obj HL2.out HLP.out); have HB3 := Sd.mk (HB2.out.trans hk.bel); clear hk hp)
  clear s1 HP2 HL2 HB2
  go_upto_region 8 with (fail)
  rw [rounds_succ]
  have s2 : w3.cell? ⟨L, 2, none⟩ = some (.string ⟨#[114, 101, 100, 111, 120, 32, 48, 32, 49]⟩) := (blk_cell HL3.out 2).trans rfl
  go_upto_region 12 with (go_at_call 32; refine (read_redox w.heap.size _ _ _ _ _ _ _ mx w3 (mem_cell HB3.out HM.out) HP3.out).mono ?_; rintro e w4 ⟨rfl, hk, hp⟩; have HP4 := Sd.mk hp; have HL4 := Sd.mk (hk.obj HL3.out HLP.out); have HB4 := Sd.mk (HB3.out.trans hk.bel); clear hk hp)
  clear s2 HP3 HL3 HB3
  go_upto_region 8 with (fail)
  rw [rounds_succ]
  go_wp2_with ((with_reducible refine gate_store (t := 29) (p := 2) rfl ?_); refine wpList_store_row (by rfl) 29 (.tmp 2) (.tmp 50) rfl w.heap.size #[.slice none 0 0, .slice none 0 0, .slice none 0 0, .slice none 0 0, .int .i64 0, .int .i64 0, .int .i64 0] rfl rfl 29 #[v0, .slice none 0 0, .slice none 0 0, .slice none 0 0, .int .i64 ((0 : Nat) : Int), .int .i64 ((1 : Nat) : Int), .int .i64 ((1 : Nat) : Int)] HP4.out (by kernel_rfl) (by rfl) (by kernel_rfl) ?_)
  refine bodyPost_ret (results_ctt rfl _ _ w.heap.size 29 #[.slice none 0 0, .slice none 0 0, .slice none 0 0, .slice none 0 0, .int .i64 0, .int .i64 0, .int .i64 0] (0, 0) _ rfl (setRow_heap _ _ _ _ _ _ HP4.out) Tryz.underlying29 rfl (by kernel_rfl)) rfl ⟨rfl, ?_⟩
  exact below_row HB4.out (Nat.le_refl _) _
end
section
open Go.RowKit Go.Shelf Go.Proofs.YtnmdojgfedddbaaGreatDoorW.PrintWords Go.Proofs.YtnmdojgfedddbaaGreatDoorW.PrintLast Go.Proofs.YtnmdojgfedddbaaGreatDoorW.PrintMore
attribute [local go_sem] Oper.semAt_some
structure BR (W : World) (Ao Am As : Option Addr) : Prop where
  o : Kd.C Kd.string W Ao 2 oxs
  m : Kd.C k50 W Am 2 mts
  s : Kd.C k27 W As 2 shs
theorem BR.below {W W' : World} {Ao Am As : Option Addr} (h : BR W Ao Am As) (hb : Below W.heap.size W W') : BR W' Ao Am As := ⟨Kd.C_below h.o hb, Kd.C_below h.m hb, Kd.C_below h.s hb⟩
theorem BR.alloc {W : World} {Ao Am As : Option Addr} (h : BR W Ao Am As) (o : Obj) : BR (W.alloc o) Ao Am As := h.below (below_alloc (Below.refl _ _) o)
theorem Cnil {W : World} {A : Option Addr} : Kd.C k77 W A ([] : List S77).length [] := ⟨rfl, by decide, fun hn => absurd hn (by decide)⟩
theorem C_int2 {w : World} {g : Nat} {a b : Int} (hb : w.heap[g]? = some (.cells #[.int .i64 a, .int .i64 b] 3 (0, 0))) : Kd.C (Kd.int .i64) w (some ⟨g, 0, none⟩) 2 [a, b] :=
  C_blk (Kd.int .i64) (xs := [a, b]) hb (Reps.one rfl (Reps.one rfl (Reps.none _ _))) (by simp)
theorem C_int7 {w : World} {g : Nat} {a b c d e f h : Int} (hb : w.heap[g]? = some (.cells #[.int .i64 a, .int .i64 b, .int .i64 c, .int .i64 d, .int .i64 e, .int .i64 f, .int .i64 h] 3 (0, 0))) : Kd.C (Kd.int .i64) w (some ⟨g, 0, none⟩) 7 [a, b, c, d, e, f, h] :=
  C_blk (Kd.int .i64) (xs := [a, b, c, d, e, f, h]) hb (Reps.one rfl (Reps.one rfl (Reps.one rfl (Reps.one rfl (Reps.one rfl (Reps.one rfl (Reps.one rfl (Reps.none _ _)))))))) (by simp)
theorem blk_last {w : World} {g : Nat} {o : Obj} (h : g = w.heap.size) : (w.alloc o).heap[g]? = some o := h ▸ blk_new w o
structure EX (lo : Int) (B : Nat) (W : World) : Prop where
  o : W.heap[B + 1]? = some (.cells #[.string ⟨#[115, 105]⟩, .string ⟨#[110, 97]⟩] 9 (0, 0))
  s : W.heap[B + 1 + 1]? = some (.cells #[.int .i64 700, .int .i64 800, .int .i64 200, .int .i64 300] 27 (0, 0))
  c : W.heap[B + 1 + 1 + 1]? = some (.cells #[.int .i64 lo, .int .i64 1000, .int .i64 0, .int .i64 0] 27 (0, 0))
  d : W.heap[B + 1 + 1 + 1 + 1]? = some (.cells #[.int .i64 0, .int .i64 0, .int .i64 570, .int .i64 580] 27 (0, 0))
  m : W.heap[B + 1 + 1 + 1 + 1 + 1]? = some (.cells #[.string ⟨#[115, 97, 110, 100]⟩, .int .i64 1, .int .i64 0, .int .i64 0, .int .i64 200, .int .i64 20, .slice (some ⟨B + 1 + 1 + 1, 0, none⟩) 2 2, .string ⟨#[115, 111, 100, 97]⟩, .int .i64 4, .int .i64 0, .int .i64 0, .int .i64 100, .int .i64 20, .slice (some ⟨B + 1 + 1 + 1 + 1, 0, none⟩) 2 2] 50 (0, 0))
theorem EX.below {lo : Int} {B : Nat} {W W' : World} (h : EX lo B W) (hb : Below W.heap.size W W') : EX lo B W' := ⟨blk_below h.o hb, blk_below h.s hb, blk_below h.c hb, blk_below h.d hb, blk_below h.m hb⟩
theorem EX.put {lo : Int} {B : Nat} {W : World} (h : EX lo B W) (hi : Int) : EX hi B (W.setCell ⟨B + 1 + 1 + 1, 0, none⟩ (.int .i64 hi)) :=
  ⟨blk_far h.o (by show B + 1 ≠ B + 1 + 1 + 1; omega) _, blk_far h.s (by show B + 1 + 1 ≠ B + 1 + 1 + 1; omega) _, blk_put h.c 0 _ rfl, blk_far h.d (by show B + 1 + 1 + 1 + 1 ≠ B + 1 + 1 + 1; omega) _, blk_far h.m (by show B + 1 + 1 + 1 + 1 + 1 ≠ B + 1 + 1 + 1; omega) _⟩
def mtsL (lo : Int) : List S50 := [⟨⟨#[115, 97, 110, 100]⟩, 1, 0, 0, 200, 20, [⟨lo, 1000⟩, ⟨0, 0⟩]⟩, ⟨⟨#[115, 111, 100, 97]⟩, 4, 0, 0, 100, 20, [⟨0, 0⟩, ⟨570, 580⟩]⟩]
theorem C_sp2 {w : World} {g : Nat} {a b c d : Int} (hb : w.heap[g]? = some (.cells #[.int .i64 a, .int .i64 b, .int .i64 c, .int .i64 d] 27 (0, 0))) : Kd.C k27 w (some ⟨g, 0, none⟩) 2 [⟨a, b⟩, ⟨c, d⟩] :=
  C_blk k27 (xs := [⟨a, b⟩, ⟨c, d⟩]) hb (Reps.c2 (k27_mk w ⟨a, b⟩) (Reps.c2 (k27_mk w ⟨c, d⟩) (Reps.none _ _))) (by simp)
theorem EX.mt {lo : Int} {B : Nat} {W : World} (h : EX lo B W) : Kd.C k50 W (some ⟨B + 1 + 1 + 1 + 1 + 1, 0, none⟩) 2 (mtsL lo) := by
  refine C_blk k50 (xs := mtsL lo) h.m ?_ (by simp [mtsL])
  have h0 := k50_mk W ⟨⟨#[115, 97, 110, 100]⟩, 1, 0, 0, 200, 20, [⟨lo, 1000⟩, ⟨0, 0⟩]⟩ (c6 := 2) (by simp) (C_sp2 h.c)
  have h1 := k50_mk W ⟨⟨#[115, 111, 100, 97]⟩, 4, 0, 0, 100, 20, [⟨0, 0⟩, ⟨570, 580⟩]⟩ (c6 := 2) (by simp) (C_sp2 h.d)
  refine ⟨rfl, fun j p hj => ?_⟩
  match j, hj with
  | 0, hj => cases hj; exact h0
  | 1, hj => cases hj; exact h1
  | j + 2, hj => exact absurd hj (by simp [mtsL])
theorem EX.br {B : Nat} {W : World} (h : EX 980 B W) : BR W (some ⟨B + 1, 0, none⟩) (some ⟨B + 1 + 1 + 1 + 1 + 1, 0, none⟩) (some ⟨B + 1 + 1, 0, none⟩) :=
  ⟨C_strs oxs h.o (by decide), h.mt, C_sp2 h.s⟩
theorem Batch_x (w : World) : Calls Tryz.prog 6 #[] w fun e w' => ∃ Ao co Am cm As cs Ap ca, e = .returned (.agg #[.slice Ao 2 co, .slice Am 2 cm, .slice As 2 cs, .slice Ap 0 ca, .int .i64 (-9999), .int .i64 9999, .int .i64 100]) ∧ 2 ≤ co ∧ 2 ≤ cm ∧ 2 ≤ cs ∧ BR w' Ao Am As ∧ Below w.heap.size w w' ∧ ∃ B, w.heap.size ≤ B ∧ EX 980 B w' ∧ Ao = some ⟨B + 1, 0, none⟩ ∧ Am = some ⟨B + 1 + 1 + 1 + 1 + 1, 0, none⟩ ∧ As = some ⟨B + 1 + 1, 0, none⟩ := by
  go_enter Tryz.func6, Tryz.ntmps6
  go_wp2
  have hE : EX 980 w.heap.size (((((((w.alloc (.cells #[.slice (some ⟨w.heap.size + 1, 0, none⟩) 2 2, .slice (some ⟨w.heap.size + 1 + 1 + 1 + 1 + 1, 0, none⟩) 2 2, .slice (some ⟨w.heap.size + 1 + 1, 0, none⟩) 2 2, .slice none 0 0, .int .i64 (-9999), .int .i64 9999, .int .i64 100] 29)).alloc (.cells #[.string ⟨#[115, 105]⟩, .string ⟨#[110, 97]⟩] 9)).alloc (.cells #[.int .i64 700, .int .i64 800, .int .i64 200, .int .i64 300] 27)).alloc (.cells #[.int .i64 980, .int .i64 1000, .int .i64 0, .int .i64 0] 27)).alloc (.cells #[.int .i64 0, .int .i64 0, .int .i64 570, .int .i64 580] 27)).alloc (.cells #[.string ⟨#[115, 97, 110, 100]⟩, .int .i64 1, .int .i64 0, .int .i64 0, .int .i64 200, .int .i64 20, .slice (some ⟨w.heap.size + 1 + 1 + 1, 0, none⟩) 2 2, .string ⟨#[115, 111, 100, 97]⟩, .int .i64 4, .int .i64 0, .int .i64 0, .int .i64 100, .int .i64 20, .slice (some ⟨w.heap.size + 1 + 1 + 1 + 1, 0, none⟩) 2 2] 50))) := by
    refine ⟨?_, ?_, ?_, ?_, ?_⟩
    · refine blk_alloc (blk_alloc (blk_alloc (blk_alloc ?_ _) _) _) _
      simpa only [World.size_alloc] using blk_new (w.alloc (.cells #[.slice (some ⟨w.heap.size + 1, 0, none⟩) 2 2, .slice (some ⟨w.heap.size + 1 + 1 + 1 + 1 + 1, 0, none⟩) 2 2, .slice (some ⟨w.heap.size + 1 + 1, 0, none⟩) 2 2, .slice none 0 0, .int .i64 (-9999), .int .i64 9999, .int .i64 100] 29)) (.cells #[.string ⟨#[115, 105]⟩, .string ⟨#[110, 97]⟩] 9)
    · refine blk_alloc (blk_alloc (blk_alloc (blk_last ?_) _) _) _
      simp only [World.size_alloc]
    · refine blk_alloc (blk_alloc (blk_last ?_) _) _
      simp only [World.size_alloc]
    · refine blk_alloc (blk_last ?_) _
      simp only [World.size_alloc]
    · refine blk_last ?_
      simp only [World.size_alloc]
  refine bodyPost_ret (results_c1 rfl _ _ w.heap.size 29 #[.slice (some ⟨w.heap.size + 1, 0, none⟩) 2 2, .slice (some ⟨w.heap.size + 1 + 1 + 1 + 1 + 1, 0, none⟩) 2 2, .slice (some ⟨w.heap.size + 1 + 1, 0, none⟩) 2 2, .slice none 0 0, .int .i64 (-9999), .int .i64 9999, .int .i64 100] (0, 0) _ rfl (blk_alloc (blk_alloc (blk_alloc (blk_alloc (blk_alloc (blk_new _ _) _) _) _) _) _) Tryz.underlying29 rfl (by kernel_rfl)) rfl ?_
  exact ⟨_, 2, _, 2, _, 2, none, 0, rfl, by decide, by decide, by decide, hE.br, below_alloc (below_alloc (below_alloc (below_alloc (below_alloc (below_alloc (Below.refl _ _) _) _) _) _) _) _, w.heap.size, Nat.le_refl _, hE, rfl, rfl, rfl⟩
def knwT : Bool × List (List Nat × List Nat) := (true, [([], []), ([], []), ([1], [1]), ([0, 2], [0, 2]), ([3], [3]), ([4], [4]), ([4], [4]), ([4], [4]), ([5, 3, 0, 1, 2, 3, 4, 5], [5]), ([6, 8, 0, 1, 2, 3, 4, 5, 6, 8], [6]), ([7, 9, 0, 1, 2, 3, 4, 5, 6, 7, 8, 9], [7])])
def knwB : List Nat := [0, 0, 2, 7, 15, 31, 31, 31, 63, 383, 1023]
theorem knw_tab : rtab .any (opsOf Tryz.f3 8) = knwT := by kernel_rfl
theorem knw_bits : waitsOk knwT.2 knwB = true := by kernel_rfl
theorem known_walk (mx : Int) (w : World) (hm : w.cell? ⟨0, 0, none⟩ = some (.int .i64 mx)) : Calls Tryz.prog 3 #[] w fun e w' => e = .returned (.bool true) ∧ Below w.heap.size w w' := by
  have HM := Sd.mk hm
  clear hm
  go_enter Tryz.func3, Tryz.ntmps3
  go_upto_region 2 with (go_at_call 6; refine (Batch_x _).mono ?_; rintro e w1 ⟨Ao, co, Am, cm, As, cs, Ap, ca, rfl, hco, hcm, hcs, hbr, hb, B, hB, hex, hAo, hAm, hAs⟩; have BR1 := Sd.mk hbr; have HB1 := Sd.mk hb; have HN1 := Sd.mk hex; have HBB := Sd.mk hB; have HAS := Sd.mk (And.intro hAo (And.intro hAm hAs)); clear hbr hb hex hAo hAm hAs hB)
  have BX2 := Sd.mk (blk_new w1 (.cells #[.slice Ao 2 co, .slice Am 2 cm, .slice As 2 cs, .slice Ap 0 ca, .int .i64 (-9999), .int .i64 9999, .int .i64 100] 29))
  have HW2 := Sd.mk (below_alloc (Below.refl w1.heap.size w1) (.cells #[.slice Ao 2 co, .slice Am 2 cm, .slice As 2 cs, .slice Ap 0 ca, .int .i64 (-9999), .int .i64 9999, .int .i64 100] 29))
  have HXE := Sd.mk (show w1.heap.size ≤ w1.heap.size from Nat.le_refl _)
  generalize w1.alloc (.cells #[.slice Ao 2 co, .slice Am 2 cm, .slice As 2 cs, .slice Ap 0 ca, .int .i64 (-9999), .int .i64 9999, .int .i64 100] 29) = w2 at BX2 HW2 ⊢
  generalize hX : w1.heap.size = X at BX2 ⊢
  replace HXE : Sd (w1.heap.size = X) := ⟨hX⟩
  clear hX
  have hc0 : w2.cell? ⟨X, 0, none⟩ = some (.slice Ao 2 co) := (blk_cell BX2.out 0).trans rfl
  have hc1 : w2.cell? ⟨X, 0 + 1, none⟩ = some (.slice Am 2 cm) := (blk_cell BX2.out 1).trans rfl
  have hc2 : w2.cell? ⟨X, 0 + 2, none⟩ = some (.slice As 2 cs) := (blk_cell BX2.out 2).trans rfl
  have hc3 : w2.cell? ⟨X, 0 + 3, none⟩ = some (.slice Ap 0 ca) := (blk_cell BX2.out 3).trans rfl
  have hc4 : w2.cell? ⟨X, 0 + 4, none⟩ = some (.int .i64 (-9999)) := (blk_cell BX2.out 4).trans rfl
  have hc5 : w2.cell? ⟨X, 0 + 5, none⟩ = some (.int .i64 9999) := (blk_cell BX2.out 5).trans rfl
  have hc6 : w2.cell? ⟨X, 0 + 6, none⟩ = some (.int .i64 100) := (blk_cell BX2.out 6).trans rfl
  go_upto_region 3 with (go_at_call 7; refine (b_Passes.calls 60 Ao co oxs Am cm mts As cs shs Ap ca [] (-9999) 9999 100 (some ⟨w2.heap.size, 0, none⟩) 2 [80, 60] false 0 _ (BR1.out.below (below_alloc HW2.out _)).o hco (BR1.out.below (below_alloc HW2.out _)).m hcm (BR1.out.below (below_alloc HW2.out _)).s hcs Cnil (Nat.zero_le _) (C_int2 (blk_new _ _)) (Nat.le_refl _) pass_no).mono ?_; rintro e w3 ⟨rfl, hb0⟩; have hb := below_then (below_alloc (Below.refl _ _) _) (by simp) hb0; have BX3 := Sd.mk (blk_below BX2.out hb); have HW3 := Sd.mk (below_then HW2.out HW2.out.size hb); clear hb hb0)
  clear hc0 hc1 hc2 hc3 hc4 hc5 hc6 BX2 HW2
  have hc0 : w3.cell? ⟨X, 0, none⟩ = some (.slice Ao 2 co) := (blk_cell BX3.out 0).trans rfl
  have hc1 : w3.cell? ⟨X, 0 + 1, none⟩ = some (.slice Am 2 cm) := (blk_cell BX3.out 1).trans rfl
  have hc2 : w3.cell? ⟨X, 0 + 2, none⟩ = some (.slice As 2 cs) := (blk_cell BX3.out 2).trans rfl
  have hc3 : w3.cell? ⟨X, 0 + 3, none⟩ = some (.slice Ap 0 ca) := (blk_cell BX3.out 3).trans rfl
  have hc4 : w3.cell? ⟨X, 0 + 4, none⟩ = some (.int .i64 (-9999)) := (blk_cell BX3.out 4).trans rfl
  have hc5 : w3.cell? ⟨X, 0 + 5, none⟩ = some (.int .i64 9999) := (blk_cell BX3.out 5).trans rfl
  have hc6 : w3.cell? ⟨X, 0 + 6, none⟩ = some (.int .i64 100) := (blk_cell BX3.out 6).trans rfl
  go_upto_region 4 with (go_at_call 7; refine (b_Passes.calls 60 Ao co oxs Am cm mts As cs shs Ap ca [] (-9999) 9999 100 (some ⟨w3.heap.size, 0, none⟩) 2 [100, 60] true 0 _ (BR1.out.below (below_alloc HW3.out _)).o hco (BR1.out.below (below_alloc HW3.out _)).m hcm (BR1.out.below (below_alloc HW3.out _)).s hcs Cnil (Nat.zero_le _) (C_int2 (blk_new _ _)) (Nat.le_refl _) pass_yes).mono ?_; rintro e w4 ⟨rfl, hb0⟩; have hb := below_then (below_alloc (Below.refl _ _) _) (by simp) hb0; have BX4 := Sd.mk (blk_below BX3.out hb); have HW4 := Sd.mk (below_then HW3.out HW3.out.size hb); clear hb hb0)
  clear hc0 hc1 hc2 hc3 hc4 hc5 hc6 BX3 HW3
  have hc0 : w4.cell? ⟨X, 0, none⟩ = some (.slice Ao 2 co) := (blk_cell BX4.out 0).trans rfl
  have hc1 : w4.cell? ⟨X, 0 + 1, none⟩ = some (.slice Am 2 cm) := (blk_cell BX4.out 1).trans rfl
  have hc2 : w4.cell? ⟨X, 0 + 2, none⟩ = some (.slice As 2 cs) := (blk_cell BX4.out 2).trans rfl
  have hc3 : w4.cell? ⟨X, 0 + 3, none⟩ = some (.slice Ap 0 ca) := (blk_cell BX4.out 3).trans rfl
  have hc4 : w4.cell? ⟨X, 0 + 4, none⟩ = some (.int .i64 (-9999)) := (blk_cell BX4.out 4).trans rfl
  have hc5 : w4.cell? ⟨X, 0 + 5, none⟩ = some (.int .i64 9999) := (blk_cell BX4.out 5).trans rfl
  have hc6 : w4.cell? ⟨X, 0 + 6, none⟩ = some (.int .i64 100) := (blk_cell BX4.out 6).trans rfl
  go_upto_region 5 with (go_at_call 8; refine (b_Lines.calls 60 Ao co oxs Am cm mts As cs shs Ap ca [] (-9999) 9999 100 lns 0 _ (BR1.out.below HW4.out).o hco (BR1.out.below HW4.out).m hcm (BR1.out.below HW4.out).s hcs Cnil (Nat.zero_le _) lns_f).mono ?_; rintro e w5 ⟨v5, rfl, hv5, hb⟩; obtain ⟨g5, c5, rfl, _, _, _⟩ := Kd.R_form hv5 (by rw [lns_len]; decide); have HV5 := Sd.mk (Kd.R_reads' hv5).2.2; rw [lns_len] at HV5 ⊢; have BX5 := Sd.mk (blk_below BX4.out hb); have HW5 := Sd.mk (below_then HW4.out HW4.out.size hb); clear hb hv5)
  clear hc0 hc1 hc2 hc3 hc4 hc5 hc6 BX4 HW4
  obtain ⟨ad, A5, ca5, ea, s0, s1, hcl, hcc⟩ := at_T40 HV5.out 0 (by decide) (by decide)
  cases ea
  rw [lns_0] at s0 s1 hcl hcc
  have s0' : w5.cell? ⟨g5, 0, none⟩ = some (.slice A5 2 ca5) := s0
  have s1' : w5.cell? ⟨g5, 0 + 1, none⟩ = some (.int .i64 (-100000)) := s1
  have HF5 := Sd.mk (show Kd.C (Kd.int .i64) w5 A5 2 [-980, -570] from hcc)
  have HC5 := Sd.mk (show 2 ≤ ca5 from hcl)
  clear s0 s1 hcl hcc
  go_upto_region 7 with (go_at_call 9; refine (lw_SameInts.calls 5 A5 ca5 [-980, -570] (some ⟨w5.heap.size, 0, none⟩) 2 [-980, -570] true _ (Kd.C_below HF5.out (below_alloc (Below.refl _ _) _)) HC5.out (C_int2 (blk_new _ _)) (Nat.le_refl _) (by kernel_rfl)).mono ?_; rintro e w6 ⟨rfl, hd⟩; have hb := below_then (below_alloc (Below.refl _ _) _) (by simp) hd.below; have s2 := mem_cell hb s1'; have BX6 := Sd.mk (blk_below BX5.out hb); have HW6 := Sd.mk (below_then HW5.out HW5.out.size hb); clear hb hd s0' s1')
  clear BX5 HW5 s2 HF5 HC5 HV5
  have hc0 : w6.cell? ⟨X, 0, none⟩ = some (.slice Ao 2 co) := (blk_cell BX6.out 0).trans rfl
  have hc1 : w6.cell? ⟨X, 0 + 1, none⟩ = some (.slice Am 2 cm) := (blk_cell BX6.out 1).trans rfl
  have hc2 : w6.cell? ⟨X, 0 + 2, none⟩ = some (.slice As 2 cs) := (blk_cell BX6.out 2).trans rfl
  have hc3 : w6.cell? ⟨X, 0 + 3, none⟩ = some (.slice Ap 0 ca) := (blk_cell BX6.out 3).trans rfl
  have hc4 : w6.cell? ⟨X, 0 + 4, none⟩ = some (.int .i64 (-9999)) := (blk_cell BX6.out 4).trans rfl
  have hc5 : w6.cell? ⟨X, 0 + 5, none⟩ = some (.int .i64 9999) := (blk_cell BX6.out 5).trans rfl
  have hc6 : w6.cell? ⟨X, 0 + 6, none⟩ = some (.int .i64 100) := (blk_cell BX6.out 6).trans rfl
  go_upto_region 8 with (go_at_call 10; refine (b_Best.calls 200 Ao co oxs Am cm mts As cs shs Ap ca [] (-9999) 9999 100 [80, 40] 240 true 0 _ (BR1.out.below HW6.out).o hco (BR1.out.below HW6.out).m hcm (BR1.out.below HW6.out).s hcs Cnil (Nat.zero_le _) best_f).mono ?_; rintro e w7 ⟨v7, rfl, hv7, hb⟩; obtain ⟨g7, c7, rfl, _, _, _⟩ := Kd.R_form hv7 (by decide); have HV7 := Sd.mk (Kd.R_reads' hv7).2.2; have HC7 := Sd.mk (Kd.R_reads' hv7).2.1; have BX7 := Sd.mk (blk_below BX6.out hb); have HW7 := Sd.mk (below_then HW6.out HW6.out.size hb); clear hb hv7)
  clear hc0 hc1 hc2 hc3 hc4 hc5 hc6 BX6 HW6
  refine start_ (n := 11) (S := fun w' => w'.heap[X]? = some (.cells #[.slice Ao 2 co, .slice Am 2 cm, .slice As 2 cs, .slice Ap 0 ca, .int .i64 (-9999), .int .i64 9999, .int .i64 100] 29 (0, 0))) (ds := []) #[false, false, false, false, false, false, false, false, false, false, false] (by kernel_rfl) rfl rfl (blk_drew BX7.out) (fun hHeld => ?_)
  refine with_tabW knw_tab knw_bits (fun HT_ HW_ => ?_)
  have HW8 := Sd.mk (below_drew1 HW7.out)
  have HV8 := Sd.mk (Kd.C_below HV7.out (below_drew1 (Below.refl _ w7)))
  clear BX7 HW7 HV7
  generalize w7.drew = w8 at HW8 HV8 hHeld ⊢
  refine take_ (i := 0) (N := some 81) (v := ?_) (a' := ?_) #[true, false, false, false, false, false, false, false, false, false, false] rfl rfl (take_ofW HT_.out HW_.out (by kernel_rfl)) (fun _ _ _ h => h) (Or.inl ⟨by rfl, ?_⟩) hHeld ?_ ?_
  rotate_left
  · rintro w' hx
    have s0 : w'.cell? ⟨X, 0, none⟩ = some (.slice Ao 2 co) := (blk_cell hx 0).trans rfl
    have s1 : w'.cell? ⟨X, 0 + 1, none⟩ = some (.slice Am 2 cm) := (blk_cell hx 1).trans rfl
    have s2 : w'.cell? ⟨X, 0 + 2, none⟩ = some (.slice As 2 cs) := (blk_cell hx 2).trans rfl
    have s3 : w'.cell? ⟨X, 0 + 3, none⟩ = some (.slice Ap 0 ca) := (blk_cell hx 3).trans rfl
    have s4 : w'.cell? ⟨X, 0 + 4, none⟩ = some (.int .i64 (-9999)) := (blk_cell hx 4).trans rfl
    have s5 : w'.cell? ⟨X, 0 + 5, none⟩ = some (.int .i64 9999) := (blk_cell hx 5).trans rfl
    have s6 : w'.cell? ⟨X, 0 + 6, none⟩ = some (.int .i64 100) := (blk_cell hx 6).trans rfl
    go_simp
    with_reducible rfl
  rotate_left
  · simp only [Act.put, List.setIfInBounds_toArray, List.set_cons_zero, List.set_cons_succ, i64_w, i32_w]
    rfl
  refine one_ (i := 1) (N := some 82) #[true, true, false, false, false, false, false, false, false, false, false] rfl rfl (one_of HT_.out (by kernel_rfl)) (by decide) (fun K hK => ?_)
  have hmk : ∀ W : World, (Instr.makeSlice 34 (.int .i64 7) (.int .i64 7)).run Tryz.prog W = .ok (.slice (some ⟨W.heap.size, 0, none⟩) 7 7) (W.alloc (.cells #[.int .i64 0, .int .i64 0, .int .i64 0, .int .i64 0, .int .i64 0, .int .i64 0, .int .i64 0] 3)) := fun W => by
    have h := print_make_int (P := Tryz.prog) 34 3 (.int .i64 0) 8 (by rfl) (by rfl) rfl (by decide) 7 (by decide) (by decide) W
    rw [show madeCells #[.int .i64 0] (Int.toNat 7) = #[.int .i64 0, .int .i64 0, .int .i64 0, .int .i64 0, .int .i64 0, .int .i64 0, .int .i64 0] from by kernel_rfl] at h
    exact h
  refine value_ (w1 := w8.alloc (.cells #[.int .i64 0, .int .i64 0, .int .i64 0, .int .i64 0, .int .i64 0, .int .i64 0, .int .i64 0] 3)) (v := .slice (some ⟨w8.heap.size, 0, none⟩) 7 7) (by rfl) rfl (by go_simp) ?_
  have HZ9 := Sd.mk (blk_new w8 (.cells #[.int .i64 0, .int .i64 0, .int .i64 0, .int .i64 0, .int .i64 0, .int .i64 0, .int .i64 0] 3))
  have HW9 := Sd.mk (below_alloc HW8.out (.cells #[.int .i64 0, .int .i64 0, .int .i64 0, .int .i64 0, .int .i64 0, .int .i64 0, .int .i64 0] 3))
  have HV9 := Sd.mk (Kd.C_below HV8.out (below_alloc (Below.refl _ _) (.cells #[.int .i64 0, .int .i64 0, .int .i64 0, .int .i64 0, .int .i64 0, .int .i64 0, .int .i64 0] 3)))
  have hh := blk_alloc hHeld (.cells #[.int .i64 0, .int .i64 0, .int .i64 0, .int .i64 0, .int .i64 0, .int .i64 0, .int .i64 0] 3)
  clear hmk HW8 HV8 hHeld
  generalize w8.alloc (.cells #[.int .i64 0, .int .i64 0, .int .i64 0, .int .i64 0, .int .i64 0, .int .i64 0, .int .i64 0] 3) = w9 at HZ9 HW9 HV9 hh ⊢
  generalize w8.heap.size = z9 at HZ9 ⊢
  refine hK.out _ _ hh (fun hHeld => ?_)
  clear hh
  clear hK K
  refine norm_ (a' := ?_) ?_ ?_
  rotate_left
  · show Act.put _ (some 82) _ = _
    simp only [Act.put, List.setIfInBounds_toArray, List.set_cons_zero, List.set_cons_succ, i64_w, i32_w]
    rfl
  refine pure_ (i := 2) (N := some 83) (v := ?_) (a' := ?_) #[true, true, true, false, false, false, false, false, false, false, false] rfl rfl (any_of HT_.out (by kernel_rfl)) (fun _ _ _ h => h) (Or.inl ⟨by rfl, ?_⟩) ?_ ?_
  rotate_left
  · intro w'
    go_simp
    with_reducible rfl
  rotate_left
  · simp only [Act.put, List.setIfInBounds_toArray, List.set_cons_zero, List.set_cons_succ, i64_w, i32_w]
    rfl
  refine one_ (i := 3) (N := some 84) #[true, true, true, true, false, false, false, false, false, false, false] rfl rfl (one_of HT_.out (by kernel_rfl)) (by decide) (fun K hK => ?_)
  refine goes_ Tryz.func11 (by kernel_rfl) rfl #[.agg #[.slice Ao 2 co, .slice Am 2 cm, .slice As 2 cs, .slice Ap 0 ca, .int .i64 (-9999), .int .i64 9999, .int .i64 100], .agg #[.int .i64 1, .slice (some ⟨z9, 0, none⟩) 7 7]] (by (try simp only [Array.map_toArray, List.map_toArray, List.map_cons, List.map_nil]); rfl) rfl rfl (by (try simp only [List.map_toArray, List.map_cons, List.map_nil]); first | done | rfl) ?_
  refine (b_Bound.calls 60 Ao co oxs Am cm mts As cs shs Ap ca [] (-9999) 9999 100 1 (some ⟨z9, 0, none⟩) 7 [0, 0, 0, 0, 0, 0, 0] 0 false 0 w9 (BR1.out.below HW9.out).o hco (BR1.out.below HW9.out).m hcm (BR1.out.below HW9.out).s hcs Cnil (Nat.zero_le _) (C_int7 HZ9.out) (Nat.le_refl _) bound_f).mono ?_
  rintro e w10 ⟨rfl, hb⟩
  refine ⟨_, rfl, ?_⟩
  have HW10 := Sd.mk (below_then HW9.out HW9.out.size hb)
  have HV10 := Sd.mk (Kd.C_below HV9.out hb)
  have hh := blk_below hHeld hb
  clear hb HZ9 HW9 HV9 hHeld
  refine hK.out _ _ hh (fun hHeld => ?_)
  clear hh
  clear hK K
  refine norm_ (a' := ?_) ?_ ?_
  rotate_left
  · show Act.put _ (some 84) _ = _
    simp only [Act.put, List.setIfInBounds_toArray, List.set_cons_zero, List.set_cons_succ, i64_w, i32_w]
    rfl
  refine pure_ (i := 4) (N := some 80) (v := ?_) (a' := ?_) #[true, true, true, true, true, false, false, false, false, false, false] rfl rfl (any_of HT_.out (by kernel_rfl)) (fun _ _ _ h => h) (Or.inl ⟨by rfl, ?_⟩) ?_ ?_
  rotate_left
  · intro w'
    go_simp
    with_reducible rfl
  rotate_left
  · simp only [Act.put, List.setIfInBounds_toArray, List.set_cons_zero, List.set_cons_succ, i64_w, i32_w]
    rfl
  refine pure_ (i := 5) (N := some 85) (v := ?_) (a' := ?_) #[true, true, true, true, true, true, false, false, false, false, false] rfl rfl (any_of HT_.out (by kernel_rfl)) (fun _ _ _ h => h) (Or.inl ⟨by rfl, ?_⟩) ?_ ?_
  rotate_left
  · intro w'
    go_simp
    with_reducible rfl
  rotate_left
  · simp only [Act.put, List.setIfInBounds_toArray, List.set_cons_zero, List.set_cons_succ, i64_w, i32_w]
    rfl
  refine pure_ (i := 6) (N := some 86) (v := ?_) (a' := ?_) #[true, true, true, true, true, true, true, false, false, false, false] rfl rfl (any_of HT_.out (by kernel_rfl)) (fun _ _ _ h => h) (Or.inl ⟨by rfl, ?_⟩) ?_ ?_
  rotate_left
  · intro w'
    go_simp
    with_reducible rfl
  rotate_left
  · simp only [Act.put, List.setIfInBounds_toArray, List.set_cons_zero, List.set_cons_succ, i64_w, i32_w]
    rfl
  refine pure_ (i := 7) (N := some 87) (v := ?_) (a' := ?_) #[true, true, true, true, true, true, true, true, false, false, false] rfl rfl (any_of HT_.out (by kernel_rfl)) (fun _ _ _ h => h) (Or.inl ⟨by rfl, ?_⟩) ?_ ?_
  rotate_left
  · intro w'
    go_simp
    with_reducible rfl
  rotate_left
  · simp only [Act.put, List.setIfInBounds_toArray, List.set_cons_zero, List.set_cons_succ, i64_w, i32_w]
    rfl
  refine pure_ (i := 8) (N := some 11) (v := ?_) (a' := ?_) #[true, true, true, true, true, true, true, true, true, false, false] rfl rfl (any_of HT_.out (by kernel_rfl)) (fun _ _ _ h => h) (Or.inl ⟨by rfl, ?_⟩) ?_ ?_
  rotate_left
  · intro w'
    go_simp
    with_reducible rfl
  rotate_left
  · simp only [Act.put, List.setIfInBounds_toArray, List.set_cons_zero, List.set_cons_succ, i64_w, i32_w]
    rfl
  refine pure_ (i := 9) (N := some 12) (v := ?_) (a' := ?_) #[true, true, true, true, true, true, true, true, true, true, false] rfl rfl (any_of HT_.out (by kernel_rfl)) (fun _ _ _ h => h) (Or.inl ⟨by rfl, ?_⟩) ?_ ?_
  rotate_left
  · intro w'
    go_simp
    with_reducible rfl
  rotate_left
  · simp only [Act.put, List.setIfInBounds_toArray, List.set_cons_zero, List.set_cons_succ, i64_w, i32_w]
    rfl
  refine pure_ (i := 10) (N := some 5) (v := ?_) (a' := ?_) #[true, true, true, true, true, true, true, true, true, true, true] rfl rfl (any_of HT_.out (by kernel_rfl)) (fun _ _ _ h => h) (Or.inl ⟨by rfl, ?_⟩) ?_ ?_
  rotate_left
  · intro w'
    go_simp
    with_reducible rfl
  rotate_left
  · simp only [Act.put, List.setIfInBounds_toArray, List.set_cons_zero, List.set_cons_succ, i64_w, i32_w]
    rfl
  refine done_ (done_of HT_.out (by kernel_rfl)) ?_
  have BX10 := Sd.mk hHeld
  clear HT_ HW_ hHeld
  go_upto_region 11 with (go_at_call 9; refine (lw_SameInts.calls 5 (some ⟨g7, 0, none⟩) c7 [80, 40] (some ⟨w10.heap.size, 0, none⟩) 2 [80, 40] true _ (Kd.C_below HV10.out (below_alloc (Below.refl _ _) _)) HC7.out (C_int2 (blk_new _ _)) (Nat.le_refl _) (by kernel_rfl)).mono ?_; rintro e w11 ⟨rfl, hd⟩; have hb := below_then (below_alloc (Below.refl _ _) _) (by simp) hd.below; have BX11 := Sd.mk (blk_below BX10.out hb); have HW11 := Sd.mk (below_then HW10.out HW10.out.size hb); clear hb hd)
  clear BX10 HW10 HV10 HC7
  have hc6 : w11.cell? ⟨X, 6, none⟩ = some (.int .i64 100) := (blk_cell BX11.out 6).trans rfl
  have hf6 := blk_frozen BX11.out 6
  go_upto_region 12 with (fail)
  clear hc6 hf6
  have BX12 := Sd.mk (blk_put BX11.out 6 (.int .i64 9000) rfl)
  have HW12 := Sd.mk (HW11.out.setCell (p := ⟨X, 6, none⟩) (Nat.le_of_eq HXE.out) (.int .i64 9000))
  clear BX11 HW11
  generalize w11.setCell ⟨X, 6, none⟩ (.int .i64 9000) = w12 at BX12 HW12 ⊢
  have hc0 : w12.cell? ⟨X, 0, none⟩ = some (.slice Ao 2 co) := (blk_cell BX12.out 0).trans rfl
  have hc1 : w12.cell? ⟨X, 0 + 1, none⟩ = some (.slice Am 2 cm) := (blk_cell BX12.out 1).trans rfl
  have hc2 : w12.cell? ⟨X, 0 + 2, none⟩ = some (.slice As 2 cs) := (blk_cell BX12.out 2).trans rfl
  have hc3 : w12.cell? ⟨X, 0 + 3, none⟩ = some (.slice Ap 0 ca) := (blk_cell BX12.out 3).trans rfl
  have hc4 : w12.cell? ⟨X, 0 + 4, none⟩ = some (.int .i64 (-9999)) := (blk_cell BX12.out 4).trans rfl
  have hc5 : w12.cell? ⟨X, 0 + 5, none⟩ = some (.int .i64 9999) := (blk_cell BX12.out 5).trans rfl
  have hc6 : w12.cell? ⟨X, 0 + 6, none⟩ = some (.int .i64 9000) := (blk_cell BX12.out 6).trans rfl
  go_upto_region 13 with (go_at_call 11; refine (b_Bound.calls 60 Ao co oxs Am cm mts As cs shs Ap ca [] (-9999) 9999 9000 0 (some ⟨w12.heap.size, 0, none⟩) 7 [1, 0, 0, 0, 0, 0, 0] 0 true 0 _ (BR1.out.below (below_alloc HW12.out _)).o hco (BR1.out.below (below_alloc HW12.out _)).m hcm (BR1.out.below (below_alloc HW12.out _)).s hcs Cnil (Nat.zero_le _) (C_int7 (blk_new _ _)) (Nat.le_refl _) bound_g).mono ?_; rintro e w13 ⟨rfl, hb0⟩; have hb := below_then (below_alloc (Below.refl _ _) _) (by simp) hb0; have BX13 := Sd.mk (blk_below BX12.out hb); have HW13 := Sd.mk (below_then HW12.out HW12.out.size hb); clear hb hb0)
  clear hc0 hc1 hc2 hc3 hc4 hc5 hc6 BX12 HW12
  have hc0 : w13.cell? ⟨X, 0, none⟩ = some (.slice Ao 2 co) := (blk_cell BX13.out 0).trans rfl
  have hc1 : w13.cell? ⟨X, 0 + 1, none⟩ = some (.slice Am 2 cm) := (blk_cell BX13.out 1).trans rfl
  have hc2 : w13.cell? ⟨X, 0 + 2, none⟩ = some (.slice As 2 cs) := (blk_cell BX13.out 2).trans rfl
  have hc3 : w13.cell? ⟨X, 0 + 3, none⟩ = some (.slice Ap 0 ca) := (blk_cell BX13.out 3).trans rfl
  have hc4 : w13.cell? ⟨X, 0 + 4, none⟩ = some (.int .i64 (-9999)) := (blk_cell BX13.out 4).trans rfl
  have hc5 : w13.cell? ⟨X, 0 + 5, none⟩ = some (.int .i64 9999) := (blk_cell BX13.out 5).trans rfl
  have hc6 : w13.cell? ⟨X, 0 + 6, none⟩ = some (.int .i64 9000) := (blk_cell BX13.out 6).trans rfl
  go_upto_region 14 with (go_at_call 10; refine (b_Best.calls 200 Ao co oxs Am cm mts As cs shs Ap ca [] (-9999) 9999 9000 [] 0 false 0 _ (BR1.out.below HW13.out).o hco (BR1.out.below HW13.out).m hcm (BR1.out.below HW13.out).s hcs Cnil (Nat.zero_le _) best_g).mono ?_; rintro e w14 ⟨v14, rfl, hv, hb⟩; obtain ⟨A14, c14, rfl⟩ := Kd.R_slice hv; have BX14 := Sd.mk (blk_below BX13.out hb); have HW14 := Sd.mk (below_then HW13.out HW13.out.size hb); clear hb hv)
  clear hc0 hc1 hc2 hc3 hc4 hc5 hc6 BX13 HW13
  go_upto_region 16 with (fail)
  go_upto_region 17 with (go_at_call 12; refine (parse1 mx _ (mem_cell (below_then HB1.out HB1.out.size HW14.out) HM.out)).mono ?_; rintro e w15 ⟨rfl, hb⟩; have BX15 := Sd.mk (blk_below BX14.out hb); have HW15 := Sd.mk (below_then HW14.out HW14.out.size hb); clear hb)
  clear BX14 HW14
  have BX16 := Sd.mk (blk_alloc BX15.out (.cells #[.slice none 0 0, .slice none 0 0, .slice none 0 0, .slice none 0 0, .int .i64 0, .int .i64 0, .int .i64 0] 29))
  have HW16 := Sd.mk (below_alloc HW15.out (.cells #[.slice none 0 0, .slice none 0 0, .slice none 0 0, .slice none 0 0, .int .i64 0, .int .i64 0, .int .i64 0] 29))
  clear BX15 HW15
  generalize w15.alloc (.cells #[.slice none 0 0, .slice none 0 0, .slice none 0 0, .slice none 0 0, .int .i64 0, .int .i64 0, .int .i64 0] 29) = w16 at BX16 HW16 ⊢
  go_upto_region 18 with (go_at_call 12; refine (parse2 mx _ (mem_cell (below_then HB1.out HB1.out.size HW16.out) HM.out)).mono ?_; rintro e w17 ⟨rfl, hb⟩; have BX17 := Sd.mk (blk_below BX16.out hb); have HW17 := Sd.mk (below_then HW16.out HW16.out.size hb); clear hb)
  clear BX16 HW16
  have BX18 := Sd.mk (blk_alloc BX17.out (.cells #[.slice none 0 0, .slice none 0 0, .slice none 0 0, .slice none 0 0, .int .i64 0, .int .i64 0, .int .i64 0] 29))
  have HW18 := Sd.mk (below_alloc HW17.out (.cells #[.slice none 0 0, .slice none 0 0, .slice none 0 0, .slice none 0 0, .int .i64 0, .int .i64 0, .int .i64 0] 29))
  clear BX17 HW17
  generalize w17.alloc (.cells #[.slice none 0 0, .slice none 0 0, .slice none 0 0, .slice none 0 0, .int .i64 0, .int .i64 0, .int .i64 0] 29) = w18 at BX18 HW18 ⊢
  have HE := Sd.mk (HN1.out.below HW18.out)
  have hc1 : w18.cell? ⟨X, 1, none⟩ = some (.slice Am 2 cm) := (blk_cell BX18.out 1).trans rfl
  rw [HAS.out.2.1] at hc1
  have hm6 : w18.cell? ⟨B + 1 + 1 + 1 + 1 + 1, 6, none⟩ = some (.slice (some ⟨B + 1 + 1 + 1, 0, none⟩) 2 2) := (blk_cell HE.out.m 6).trans rfl
  have hcc : w18.cell? ⟨B + 1 + 1 + 1, 0, none⟩ = some (.int .i64 980) := (blk_cell HE.out.c 0).trans rfl
  have hcf := blk_frozen HE.out.c 0
  go_upto_region 19 with (fail)
  clear hc1 hm6 hcc hcf
  have HE19 := Sd.mk (HE.out.put 1001)
  have BX19 := Sd.mk (blk_far BX18.out (p := ⟨B + 1 + 1 + 1, 0, none⟩) (by show X ≠ B + 1 + 1 + 1; have := blk_lt HN1.out.c; have := HXE.out; omega) (.int .i64 1001))
  have HB19 := Sd.mk ((below_then HB1.out HB1.out.size HW18.out).setCell (p := ⟨B + 1 + 1 + 1, 0, none⟩) (by show w.heap.size ≤ B + 1 + 1 + 1; have := HBB.out; omega) (.int .i64 1001))
  clear HE BX18 HW18
  generalize w18.setCell ⟨B + 1 + 1 + 1, 0, none⟩ (.int .i64 1001) = w19 at HE19 BX19 HB19 ⊢
  have hc0 : w19.cell? ⟨X, 0, none⟩ = some (.slice Ao 2 co) := (blk_cell BX19.out 0).trans rfl
  have hc1 : w19.cell? ⟨X, 0 + 1, none⟩ = some (.slice Am 2 cm) := (blk_cell BX19.out 1).trans rfl
  have hc2 : w19.cell? ⟨X, 0 + 2, none⟩ = some (.slice As 2 cs) := (blk_cell BX19.out 2).trans rfl
  have hc3 : w19.cell? ⟨X, 0 + 3, none⟩ = some (.slice Ap 0 ca) := (blk_cell BX19.out 3).trans rfl
  have hc4 : w19.cell? ⟨X, 0 + 4, none⟩ = some (.int .i64 (-9999)) := (blk_cell BX19.out 4).trans rfl
  have hc5 : w19.cell? ⟨X, 0 + 5, none⟩ = some (.int .i64 9999) := (blk_cell BX19.out 5).trans rfl
  have hc6 : w19.cell? ⟨X, 0 + 6, none⟩ = some (.int .i64 9000) := (blk_cell BX19.out 6).trans rfl
  go_wp2_with (first | (go_at_call 13; refine (b_Check.calls 60 Ao co oxs Am cm mtsX As cs shs Ap ca [] (-9999) 9999 9000 1 _ (HAS.out.1 ▸ C_strs oxs HE19.out.o (by decide)) hco (HAS.out.2.1 ▸ HE19.out.mt) hcm (HAS.out.2.2 ▸ C_sp2 HE19.out.s) hcs Cnil (Nat.zero_le _) check_f).mono ?_; rintro e w20 ⟨rfl, hb⟩; have HB20 := Sd.mk (below_then HB19.out HB19.out.size hb); clear hb) | (go_at_call 14; refine (lw_lives.calls 60 true _ lives_f).mono ?_; rintro e w21 ⟨rfl, hb⟩; have HB21 := Sd.mk (below_then HB20.out HB20.out.size hb); clear hb))
  go_ret
  exact ⟨rfl, HB21.out⟩
end
end Go.Proofs.YtnmdojgfedddbaaGreatDoor.PB
