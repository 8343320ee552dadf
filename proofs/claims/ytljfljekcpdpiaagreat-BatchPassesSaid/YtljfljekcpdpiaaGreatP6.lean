import Derived.Test.YtljfljekcpdpiaaGreatP5
set_option linter.unusedVariables false
set_option linter.unusedSimpArgs false
namespace Go.Proofs.YtljfljekcpdpiaaGreat.PB
open Go.RowKit Go.Proofs.YtljfljekcpdpiaaGreatW.PrintWords Go.Proofs.YtljfljekcpdpiaaGreatW.PrintLast Go.Proofs.YtljfljekcpdpiaaGreatW.PrintMore
attribute [local go_sem] max2_int min2_int max_two min_two max_three min_three max_four min_four
def batch_Cost.f (k : Nat) (l0_0 : List ByteArray) (l0_1 : List (S70)) (l0_2 : List (S27)) (l0_3 : List (S89)) (a0_4 : Int) (a0_5 : Int) (a0_6 : Int) (l1 : List Int) : Option (Int × Int) := (batch_asked.f k l0_0 l0_1 l0_2 l0_3 a0_4 a0_5 a0_6 l1).bind fun t313 => (if t313 = 0 then ((batch_cost.f k l0_0 l0_1 l0_2 l0_3 a0_4 a0_5 a0_6 l1).bind fun t314 => (some (t314, 0))) else (some (0, t313)))
set_option maxHeartbeats 8000000 in
set_option maxRecDepth 100000 in
theorem batch_Cost.calls (k : Nat) (A0_0 : Option Addr) (c0_0 : Nat) (l0_0 : List ByteArray) (A0_1 : Option Addr) (c0_1 : Nat) (l0_1 : List (S70)) (A0_2 : Option Addr) (c0_2 : Nat) (l0_2 : List (S27)) (A0_3 : Option Addr) (c0_3 : Nat) (l0_3 : List (S89)) (a0_4 : Int) (a0_5 : Int) (a0_6 : Int) (A1 : Option Addr) (c1 : Nat) (l1 : List Int) (r1 : Int) (r2 : Int) (w : World) (hr0_0 : Kd.C Kd.string w A0_0 l0_0.length l0_0) (hc0_0 : l0_0.length ≤ c0_0) (hr0_1 : Kd.C k70 w A0_1 l0_1.length l0_1) (hc0_1 : l0_1.length ≤ c0_1) (hr0_2 : Kd.C k27 w A0_2 l0_2.length l0_2) (hc0_2 : l0_2.length ≤ c0_2) (hr0_3 : Kd.C k89 w A0_3 l0_3.length l0_3) (hc0_3 : l0_3.length ≤ c0_3) (hr1 : Kd.C (Kd.int .i64) w A1 l1.length l1) (hc1 : l1.length ≤ c1) (h : batch_Cost.f k l0_0 l0_1 l0_2 l0_3 a0_4 a0_5 a0_6 l1 = some (r1, r2)) :
  Calls Tryz.prog 17 #[.agg #[.slice A0_0 l0_0.length c0_0, .slice A0_1 l0_1.length c0_1, .slice A0_2 l0_2.length c0_2, .slice A0_3 l0_3.length c0_3, .int .i64 a0_4, .int .i64 a0_5, .int .i64 a0_6], .slice A1 l1.length c1] w fun e w' => e = .returned (.tuple #[.int .i64 r1, .int .i64 r2]) ∧ Below w.heap.size w w' := by
 have hu29 := Tryz.underlying29; have HR0_0 := Sd.mk hr0_0; have HC0_0 := Sd.mk hc0_0; clear hr0_0 hc0_0; have HR0_1 := Sd.mk hr0_1; have HC0_1 := Sd.mk hc0_1; clear hr0_1 hc0_1; have HR0_2 := Sd.mk hr0_2; have HC0_2 := Sd.mk hc0_2; clear hr0_2 hc0_2; have HR0_3 := Sd.mk hr0_3; have HC0_3 := Sd.mk hc0_3; clear hr0_3 hc0_3; have HR1 := Sd.mk hr1; have HC1 := Sd.mk hc1; clear hr1 hc1; have HB := Sd.mk (Below.refl w.heap.size w)
 have H : ((batch_asked.f k l0_0 l0_1 l0_2 l0_3 a0_4 a0_5 a0_6 l1).bind fun t313 => (if t313 = 0 then ((batch_cost.f k l0_0 l0_1 l0_2 l0_3 a0_4 a0_5 a0_6 l1).bind fun t314 => (some (t314, 0))) else (some (0, t313)))) = some (r1, r2) := h
 clear h; replace H := Option.bind_eq_some_iff.mp H; obtain ⟨t313, A30, H⟩ := H
 try dsimp only at H
 have A3 := Sd.mk A30; clear A30
 by_cases c4 : t313 = 0
 ·rw [if_pos c4] at H
  have c4b0 : (t313 == 0) = true := beq_iff_eq.mpr c4
  have c4b1 : (t313 != 0) = false := bne_eq_false_iff_eq.mpr c4
  clear c4; replace H := Option.bind_eq_some_iff.mp H; obtain ⟨t314, A50, H⟩ := H
  try dsimp only at H
  have A5 := Sd.mk A50; clear A50
  simp only [Option.some.injEq, Prod.mk.injEq] at H
  obtain ⟨rfl, rfl⟩ := H
  go_enter Tryz.func17, Tryz.ntmps17
  go_wp2_with (first | ((with_reducible refine gate_dst (N := 2) rfl ?_); refine box_event ?hg (N := 2) ?hd (cs := #[.slice A0_0 l0_0.length c0_0, .slice A0_1 l0_1.length c0_1, .slice A0_2 l0_2.length c0_2, .slice A0_3 l0_3.length c0_3, .int .i64 a0_4, .int .i64 a0_5, .int .i64 a0_6]) (t := 29) ?hr ?_; (case hd => rfl); (case hg => rfl); (case hr => exact tG); intro gb312 hg w6 hbox hb; have BK312 := Sd.mk (hbox); have GW312 := Sd.mk (bSz hg (bBl HB.out)); have GE312 := Sd.mk (bSz hg (bBl HB.out)); replace HB := Sd.mk (below_step (bBl HB.out) hb); clear hb hbox hg; obtain ⟨u7_0, u7_1, u7_2, u7_3, u7_4, u7_5, u7_6, o7_0, o7_1, o7_2, o7_3, o7_4, o7_5, o7_6⟩ := bc7 (w := w6) BK312.out) | ((with_reducible refine gate_callee (f := 50) rfl ?_); refine goesL_ (some 9) rfl rfl Tryz.func50 (by kernel_rfl) rfl #[.agg #[.slice A0_0 l0_0.length c0_0, .slice A0_1 l0_1.length c0_1, .slice A0_2 l0_2.length c0_2, .slice A0_3 l0_3.length c0_3, .int .i64 a0_4, .int .i64 a0_5, .int .i64 a0_6], .slice A1 l1.length c1] rfl tM ?_; (with_reducible refine (batch_asked.calls k _ _ l0_0 _ _ l0_1 _ _ l0_2 _ _ l0_3 a0_4 a0_5 a0_6 _ _ l1 t313 _ (cS (Kd.C_below HR0_0.out HB.out)) HC0_0.out (cS (Kd.C_below HR0_1.out HB.out)) HC0_1.out (cS (Kd.C_below HR0_2.out HB.out)) HC0_2.out (cS (Kd.C_below HR0_3.out HB.out)) HC0_3.out (cS (Kd.C_below HR1.out HB.out)) HC1.out A3.out).mono ?_); rintro e w8 ⟨rfl, hb⟩; refine ⟨_, rfl, ?_⟩; replace BK312 := Sd.mk (blk_below (bkA BK312.out) hb); replace HB := Sd.mk (below_step (bBl HB.out) hb); (try clear hb); (try clear hb2); (try clear hk); (try clear hi); obtain ⟨u9_0, u9_1, u9_2, u9_3, u9_4, u9_5, u9_6, o9_0, o9_1, o9_2, o9_3, o9_4, o9_5, o9_6⟩ := bc7 (w := w8) BK312.out) | ((with_reducible refine gate_callee (f := 58) rfl ?_); refine goesL_ (some 15) rfl rfl Tryz.func58 (by kernel_rfl) rfl #[.agg #[.slice A0_0 l0_0.length c0_0, .slice A0_1 l0_1.length c0_1, .slice A0_2 l0_2.length c0_2, .slice A0_3 l0_3.length c0_3, .int .i64 a0_4, .int .i64 a0_5, .int .i64 a0_6], .slice A1 l1.length c1] rfl tM ?_; (with_reducible refine (batch_cost.calls k _ _ l0_0 _ _ l0_1 _ _ l0_2 _ _ l0_3 a0_4 a0_5 a0_6 _ _ l1 t314 _ (cS (Kd.C_below HR0_0.out HB.out)) HC0_0.out (cS (Kd.C_below HR0_1.out HB.out)) HC0_1.out (cS (Kd.C_below HR0_2.out HB.out)) HC0_2.out (cS (Kd.C_below HR0_3.out HB.out)) HC0_3.out (cS (Kd.C_below HR1.out HB.out)) HC1.out A5.out).mono ?_); rintro e w10 ⟨rfl, hb⟩; refine ⟨_, rfl, ?_⟩; replace BK312 := Sd.mk (blk_below (bkA BK312.out) hb); replace HB := Sd.mk (below_step (bBl HB.out) hb); (try clear hb); (try clear hb2); (try clear hk); (try clear hi)))
  go_ret2
  exact ⟨tE, bBl HB.out⟩
 ·rw [if_neg c4] at H
  have c4b0 : (t313 == 0) = false := beq_eq_false_iff_ne.mpr c4
  have c4b1 : (t313 != 0) = true := bne_iff_ne.mpr c4
  simp only [Option.some.injEq, Prod.mk.injEq] at H
  obtain ⟨rfl, rfl⟩ := H
  go_enter Tryz.func17, Tryz.ntmps17
  go_wp2_with (first | ((with_reducible refine gate_dst (N := 2) rfl ?_); refine box_event ?hg (N := 2) ?hd (cs := #[.slice A0_0 l0_0.length c0_0, .slice A0_1 l0_1.length c0_1, .slice A0_2 l0_2.length c0_2, .slice A0_3 l0_3.length c0_3, .int .i64 a0_4, .int .i64 a0_5, .int .i64 a0_6]) (t := 29) ?hr ?_; (case hd => rfl); (case hg => rfl); (case hr => exact tG); intro gb312 hg w11 hbox hb; have BK312 := Sd.mk (hbox); have GW312 := Sd.mk (bSz hg (bBl HB.out)); have GE312 := Sd.mk (bSz hg (bBl HB.out)); replace HB := Sd.mk (below_step (bBl HB.out) hb); clear hb hbox hg; obtain ⟨u12_0, u12_1, u12_2, u12_3, u12_4, u12_5, u12_6, o12_0, o12_1, o12_2, o12_3, o12_4, o12_5, o12_6⟩ := bc7 (w := w11) BK312.out) | ((with_reducible refine gate_callee (f := 50) rfl ?_); refine goesL_ (some 9) rfl rfl Tryz.func50 (by kernel_rfl) rfl #[.agg #[.slice A0_0 l0_0.length c0_0, .slice A0_1 l0_1.length c0_1, .slice A0_2 l0_2.length c0_2, .slice A0_3 l0_3.length c0_3, .int .i64 a0_4, .int .i64 a0_5, .int .i64 a0_6], .slice A1 l1.length c1] rfl tM ?_; (with_reducible refine (batch_asked.calls k _ _ l0_0 _ _ l0_1 _ _ l0_2 _ _ l0_3 a0_4 a0_5 a0_6 _ _ l1 t313 _ (cS (Kd.C_below HR0_0.out HB.out)) HC0_0.out (cS (Kd.C_below HR0_1.out HB.out)) HC0_1.out (cS (Kd.C_below HR0_2.out HB.out)) HC0_2.out (cS (Kd.C_below HR0_3.out HB.out)) HC0_3.out (cS (Kd.C_below HR1.out HB.out)) HC1.out A3.out).mono ?_); rintro e w13 ⟨rfl, hb⟩; refine ⟨_, rfl, ?_⟩; replace BK312 := Sd.mk (blk_below (bkA BK312.out) hb); replace HB := Sd.mk (below_step (bBl HB.out) hb); (try clear hb); (try clear hb2); (try clear hk); (try clear hi)))
  go_ret2
  exact ⟨tE, bBl HB.out⟩
end Go.Proofs.YtljfljekcpdpiaaGreat.PB

namespace Go.Proofs.YtljfljekcpdpiaaGreat.PB
open Go.RowKit Go.Proofs.YtljfljekcpdpiaaGreatW.PrintWords Go.Proofs.YtljfljekcpdpiaaGreatW.PrintLast Go.Proofs.YtljfljekcpdpiaaGreatW.PrintMore
attribute [local go_sem] max2_int min2_int max_two min_two max_three min_three max_four min_four
def rf_cost.l0 : Nat → List Int → Int → Int → List ByteArray → List (S70) → List (S27) → List (S89) → Int → Int → Int → Option (Int)
 | 0, _, _, _, _, _, _, _, _, _, _ => none
 | k + 1, x1, x5, x6, x316q0, x316q1, x316q2, x316q3, x316q4, x316q5, x316q6 => if x6 < (x1.length : Int) then (if 0 ≤ x6 then (if x6 < (x316q1.length : Int) then (rf_cost.l0 k x1 (wrap64 (x5 + (wrap64 ((rd x1 x6) * ((rd_T70 x316q1 x6).f1))))) (wrap64 (x6 + 1)) x316q0 x316q1 x316q2 x316q3 x316q4 x316q5 x316q6) else (none)) else (none)) else (some x5)
def rf_cost.f (k : Nat) (l0_0 : List ByteArray) (l0_1 : List (S70)) (l0_2 : List (S27)) (l0_3 : List (S89)) (a0_4 : Int) (a0_5 : Int) (a0_6 : Int) (l1 : List Int) : Option (Int) := rf_cost.l0 k l1 0 0 l0_0 l0_1 l0_2 l0_3 a0_4 a0_5 a0_6
set_option maxHeartbeats 8000000 in
set_option maxRecDepth 100000 in
theorem rf_cost.calls (k : Nat) (A0_0 : Option Addr) (c0_0 : Nat) (l0_0 : List ByteArray) (A0_1 : Option Addr) (c0_1 : Nat) (l0_1 : List (S70)) (A0_2 : Option Addr) (c0_2 : Nat) (l0_2 : List (S27)) (A0_3 : Option Addr) (c0_3 : Nat) (l0_3 : List (S89)) (a0_4 : Int) (a0_5 : Int) (a0_6 : Int) (A1 : Option Addr) (c1 : Nat) (l1 : List Int) (r : Int) (w : World) (hr0_0 : Kd.C Kd.string w A0_0 l0_0.length l0_0) (hc0_0 : l0_0.length ≤ c0_0) (hr0_1 : Kd.C k70 w A0_1 l0_1.length l0_1) (hc0_1 : l0_1.length ≤ c0_1) (hr0_2 : Kd.C k27 w A0_2 l0_2.length l0_2) (hc0_2 : l0_2.length ≤ c0_2) (hr0_3 : Kd.C k89 w A0_3 l0_3.length l0_3) (hc0_3 : l0_3.length ≤ c0_3) (hr1 : Kd.C (Kd.int .i64) w A1 l1.length l1) (hc1 : l1.length ≤ c1) (h : rf_cost.f k l0_0 l0_1 l0_2 l0_3 a0_4 a0_5 a0_6 l1 = some r) :
  Calls Tryz.prog 59 #[.agg #[.slice A0_0 l0_0.length c0_0, .slice A0_1 l0_1.length c0_1, .slice A0_2 l0_2.length c0_2, .slice A0_3 l0_3.length c0_3, .int .i64 a0_4, .int .i64 a0_5, .int .i64 a0_6], .slice A1 l1.length c1] w fun e w' => e = .returned (.int .i64 r) ∧ Below w.heap.size w w' := by
 have hu29 := Tryz.underlying29; have HR0_0 := Sd.mk hr0_0; have HC0_0 := Sd.mk hc0_0; clear hr0_0 hc0_0; have HR0_1 := Sd.mk hr0_1; have HC0_1 := Sd.mk hc0_1; clear hr0_1 hc0_1; have HR0_2 := Sd.mk hr0_2; have HC0_2 := Sd.mk hc0_2; clear hr0_2 hc0_2; have HR0_3 := Sd.mk hr0_3; have HC0_3 := Sd.mk hc0_3; clear hr0_3 hc0_3; have HR1 := Sd.mk hr1; have HC1 := Sd.mk hc1; clear hr1 hc1; have HB := Sd.mk (Below.refl w.heap.size w)
 have H : (rf_cost.l0 k l1 0 0 l0_0 l0_1 l0_2 l0_3 a0_4 a0_5 a0_6) = some r := h
 clear h; have H' := Sd.mk H; clear H
 go_enter Tryz.func59, Tryz.ntmps59
 go_wp2_with (first | ((with_reducible refine gate_dst (N := 2) rfl ?_); refine box_event ?hg (N := 2) ?hd (cs := #[.slice A0_0 l0_0.length c0_0, .slice A0_1 l0_1.length c0_1, .slice A0_2 l0_2.length c0_2, .slice A0_3 l0_3.length c0_3, .int .i64 a0_4, .int .i64 a0_5, .int .i64 a0_6]) (t := 29) ?hr ?_; (case hd => rfl); (case hg => rfl); (case hr => exact tG); intro gb315 hg w3 hbox hb; have BK315 := Sd.mk (hbox); have GW315 := Sd.mk (bSz hg (bBl HB.out)); have GE315 := Sd.mk (bSz hg (bBl HB.out)); replace HB := Sd.mk (below_step (bBl HB.out) hb); clear hb hbox hg))
 repeat (go_quiet (first | ((with_reducible refine gate_dst (N := 2) rfl ?_); refine box_event ?hg (N := 2) ?hd (cs := #[.slice A0_0 l0_0.length c0_0, .slice A0_1 l0_1.length c0_1, .slice A0_2 l0_2.length c0_2, .slice A0_3 l0_3.length c0_3, .int .i64 a0_4, .int .i64 a0_5, .int .i64 a0_6]) (t := 29) ?hr ?_; (case hd => rfl); (case hg => rfl); (case hr => exact tG); intro gb315 hg w3 hbox hb; have BK315 := Sd.mk (hbox); have GW315 := Sd.mk (bSz hg (bBl HB.out)); have GE315 := Sd.mk (bSz hg (bBl HB.out)); replace HB := Sd.mk (below_step (bBl HB.out) hb); clear hb hbox hg)); try go_wp2_with (first | ((with_reducible refine gate_dst (N := 2) rfl ?_); refine box_event ?hg (N := 2) ?hd (cs := #[.slice A0_0 l0_0.length c0_0, .slice A0_1 l0_1.length c0_1, .slice A0_2 l0_2.length c0_2, .slice A0_3 l0_3.length c0_3, .int .i64 a0_4, .int .i64 a0_5, .int .i64 a0_6]) (t := 29) ?hr ?_; (case hd => rfl); (case hg => rfl); (case hr => exact tG); intro gb315 hg w3 hbox hb; have BK315 := Sd.mk (hbox); have GW315 := Sd.mk (bSz hg (bBl HB.out)); have GE315 := Sd.mk (bSz hg (bBl HB.out)); replace HB := Sd.mk (below_step (bBl HB.out) hb); clear hb hbox hg)))
 go_loopg [5, 6] k (fun kq v5 v6 w' => ∃ (x5_1 : Int) (x6_1 : Int), v5 = .int .i64 x5_1 ∧ v6 = .int .i64 x6_1 ∧ Sd (rf_cost.l0 kq l1 x5_1 x6_1 l0_0 l0_1 l0_2 l0_3 a0_4 a0_5 a0_6 = some r) ∧ Sd (kq ≤ k) ∧ Sd (w'.heap[gb315]? = some (.cells #[(.slice A0_0 l0_0.length c0_0), (.slice A0_1 l0_1.length c0_1), (.slice A0_2 l0_2.length c0_2), (.slice A0_3 l0_3.length c0_3), .int .i64 a0_4, .int .i64 a0_5, .int .i64 a0_6] 29 (0, 0))) ∧ Sd (Below w.heap.size w w'))
 case atStart => exact ⟨(0), (0), tS, tS, H', ⟨Nat.le_refl _⟩, ⟨bkA BK315.out⟩, ⟨bBl HB.out⟩⟩
 case round =>
  clear H'; (try clear c1); (try clear p2); obtain ⟨x5_1, x6_1, rfl, rfl, HA, HK1, BK315, HB⟩ := hrel
  cases gk with
  | zero => exact absurd HA.out (by simp [rf_cost.l0])
  | succ k1 =>
   have H := HA.out; clear HA
   simp only [rf_cost.l0] at H
   by_cases c4 : x6_1 < (l1.length : Int)
   ·rw [if_pos c4] at H
    have c4b0 : decide (x6_1 < (l1.length : Int)) = true := decide_eq_true c4
    clear c4
    by_cases c5 : 0 ≤ x6_1
    ·rw [if_pos c5] at H
     have c5b0 : decide (0 ≤ x6_1) = true := decide_eq_true c5
     clear c5
     by_cases c6 : x6_1 < (l0_1.length : Int)
     ·rw [if_pos c6] at H
      have c6b0 : decide (x6_1 < (l0_1.length : Int)) = true := decide_eq_true c6
      clear c6; have H' := Sd.mk H; clear H
      have p316 : 0 ≤ (x6_1 : Int) := tB
      have q316 : x6_1 < (l1.length : Int) := tB
      obtain ⟨ad316, e316, hx316_0⟩ := Kd.at_int HR1.out x6_1 p316 q316; cases e316; replace hx316_0 := cU HB hx316_0; replace p316 := eq_true p316; replace q316 := eq_true q316; obtain ⟨u7_0, u7_1, u7_2, u7_3, u7_4, u7_5, u7_6, o7_0, o7_1, o7_2, o7_3, o7_4, o7_5, o7_6⟩ := bc7 (w := wr) BK315.out
      have p317 : 0 ≤ (x6_1 : Int) := tB
      have q317 : x6_1 < (l0_1.length : Int) := tB
      obtain ⟨ad317, A317_6, c317_6, e317, hx317_0, hx317_1, hx317_2, hx317_3, hx317_4, hx317_5, hx317_6, hl317_6, hi317_6⟩ := at_T70 HR0_1.out x6_1 p317 q317; cases e317; replace hx317_0 := cU HB hx317_0; replace hx317_1 := cU HB hx317_1; replace hx317_2 := cU HB hx317_2; replace hx317_3 := cU HB hx317_3; replace hx317_4 := cU HB hx317_4; replace hx317_5 := cU HB hx317_5; replace hx317_6 := cU HB hx317_6; have HR317_6 := Sd.mk hi317_6; have HC317_6 := Sd.mk hl317_6; clear hi317_6 hl317_6; replace p317 := eq_true p317; replace q317 := eq_true q317
      go_wp2
      repeat (go_quiet (fail); try go_wp2)
      go_roundg k1
      case measure => have := HK1.out; omega
      case rel => exact ⟨(wrap64 (x5_1 + (wrap64 ((rd l1 x6_1) * ((rd_T70 l0_1 x6_1).f1))))), (wrap64 (x6_1 + 1)), tS, tS, H', ⟨by have := HK1.out; omega⟩, ⟨bkA BK315.out⟩, ⟨bBl HB.out⟩⟩
     ·rw [if_neg c6] at H
      exact absurd H (by simp)
    ·rw [if_neg c5] at H
     exact absurd H (by simp)
   ·rw [if_neg c4] at H
    have c4b0 : decide (x6_1 < (l1.length : Int)) = false := decide_eq_false c4
    clear c4; obtain rfl := Option.some.inj H
    go_wp2
    repeat (go_quiet (fail); try go_wp2)
    go_ret
    exact ⟨tE, bBl HB.out⟩
end Go.Proofs.YtljfljekcpdpiaaGreat.PB

namespace Go.Proofs.YtljfljekcpdpiaaGreat.PB
open Go.RowKit Go.Proofs.YtljfljekcpdpiaaGreatW.PrintWords Go.Proofs.YtljfljekcpdpiaaGreatW.PrintLast Go.Proofs.YtljfljekcpdpiaaGreatW.PrintMore
attribute [local go_sem] max2_int min2_int max_two min_two max_three min_three max_four min_four
def rf_Cost.f (k : Nat) (l0_0 : List ByteArray) (l0_1 : List (S70)) (l0_2 : List (S27)) (l0_3 : List (S89)) (a0_4 : Int) (a0_5 : Int) (a0_6 : Int) (l1 : List Int) : Option (Int × Int) := (rf_asked.f k l0_0 l0_1 l0_2 l0_3 a0_4 a0_5 a0_6 l1).bind fun t319 => (if t319 = 0 then ((rf_cost.f k l0_0 l0_1 l0_2 l0_3 a0_4 a0_5 a0_6 l1).bind fun t320 => (some (t320, 0))) else (some (0, t319)))
set_option maxHeartbeats 8000000 in
set_option maxRecDepth 100000 in
theorem rf_Cost.calls (k : Nat) (A0_0 : Option Addr) (c0_0 : Nat) (l0_0 : List ByteArray) (A0_1 : Option Addr) (c0_1 : Nat) (l0_1 : List (S70)) (A0_2 : Option Addr) (c0_2 : Nat) (l0_2 : List (S27)) (A0_3 : Option Addr) (c0_3 : Nat) (l0_3 : List (S89)) (a0_4 : Int) (a0_5 : Int) (a0_6 : Int) (A1 : Option Addr) (c1 : Nat) (l1 : List Int) (r1 : Int) (r2 : Int) (w : World) (hr0_0 : Kd.C Kd.string w A0_0 l0_0.length l0_0) (hc0_0 : l0_0.length ≤ c0_0) (hr0_1 : Kd.C k70 w A0_1 l0_1.length l0_1) (hc0_1 : l0_1.length ≤ c0_1) (hr0_2 : Kd.C k27 w A0_2 l0_2.length l0_2) (hc0_2 : l0_2.length ≤ c0_2) (hr0_3 : Kd.C k89 w A0_3 l0_3.length l0_3) (hc0_3 : l0_3.length ≤ c0_3) (hr1 : Kd.C (Kd.int .i64) w A1 l1.length l1) (hc1 : l1.length ≤ c1) (h : rf_Cost.f k l0_0 l0_1 l0_2 l0_3 a0_4 a0_5 a0_6 l1 = some (r1, r2)) :
  Calls Tryz.prog 18 #[.agg #[.slice A0_0 l0_0.length c0_0, .slice A0_1 l0_1.length c0_1, .slice A0_2 l0_2.length c0_2, .slice A0_3 l0_3.length c0_3, .int .i64 a0_4, .int .i64 a0_5, .int .i64 a0_6], .slice A1 l1.length c1] w fun e w' => e = .returned (.tuple #[.int .i64 r1, .int .i64 r2]) ∧ Below w.heap.size w w' := by
 have hu29 := Tryz.underlying29; have HR0_0 := Sd.mk hr0_0; have HC0_0 := Sd.mk hc0_0; clear hr0_0 hc0_0; have HR0_1 := Sd.mk hr0_1; have HC0_1 := Sd.mk hc0_1; clear hr0_1 hc0_1; have HR0_2 := Sd.mk hr0_2; have HC0_2 := Sd.mk hc0_2; clear hr0_2 hc0_2; have HR0_3 := Sd.mk hr0_3; have HC0_3 := Sd.mk hc0_3; clear hr0_3 hc0_3; have HR1 := Sd.mk hr1; have HC1 := Sd.mk hc1; clear hr1 hc1; have HB := Sd.mk (Below.refl w.heap.size w)
 have H : ((rf_asked.f k l0_0 l0_1 l0_2 l0_3 a0_4 a0_5 a0_6 l1).bind fun t319 => (if t319 = 0 then ((rf_cost.f k l0_0 l0_1 l0_2 l0_3 a0_4 a0_5 a0_6 l1).bind fun t320 => (some (t320, 0))) else (some (0, t319)))) = some (r1, r2) := h
 clear h; replace H := Option.bind_eq_some_iff.mp H; obtain ⟨t319, A30, H⟩ := H
 try dsimp only at H
 have A3 := Sd.mk A30; clear A30
 by_cases c4 : t319 = 0
 ·rw [if_pos c4] at H
  have c4b0 : (t319 == 0) = true := beq_iff_eq.mpr c4
  have c4b1 : (t319 != 0) = false := bne_eq_false_iff_eq.mpr c4
  clear c4; replace H := Option.bind_eq_some_iff.mp H; obtain ⟨t320, A50, H⟩ := H
  try dsimp only at H
  have A5 := Sd.mk A50; clear A50
  simp only [Option.some.injEq, Prod.mk.injEq] at H
  obtain ⟨rfl, rfl⟩ := H
  go_enter Tryz.func18, Tryz.ntmps18
  go_wp2_with (first | ((with_reducible refine gate_dst (N := 2) rfl ?_); refine box_event ?hg (N := 2) ?hd (cs := #[.slice A0_0 l0_0.length c0_0, .slice A0_1 l0_1.length c0_1, .slice A0_2 l0_2.length c0_2, .slice A0_3 l0_3.length c0_3, .int .i64 a0_4, .int .i64 a0_5, .int .i64 a0_6]) (t := 29) ?hr ?_; (case hd => rfl); (case hg => rfl); (case hr => exact tG); intro gb318 hg w6 hbox hb; have BK318 := Sd.mk (hbox); have GW318 := Sd.mk (bSz hg (bBl HB.out)); have GE318 := Sd.mk (bSz hg (bBl HB.out)); replace HB := Sd.mk (below_step (bBl HB.out) hb); clear hb hbox hg; obtain ⟨u7_0, u7_1, u7_2, u7_3, u7_4, u7_5, u7_6, o7_0, o7_1, o7_2, o7_3, o7_4, o7_5, o7_6⟩ := bc7 (w := w6) BK318.out) | ((with_reducible refine gate_callee (f := 53) rfl ?_); refine goesL_ (some 9) rfl rfl Tryz.func53 (by kernel_rfl) rfl #[.agg #[.slice A0_0 l0_0.length c0_0, .slice A0_1 l0_1.length c0_1, .slice A0_2 l0_2.length c0_2, .slice A0_3 l0_3.length c0_3, .int .i64 a0_4, .int .i64 a0_5, .int .i64 a0_6], .slice A1 l1.length c1] rfl tM ?_; (with_reducible refine (rf_asked.calls k _ _ l0_0 _ _ l0_1 _ _ l0_2 _ _ l0_3 a0_4 a0_5 a0_6 _ _ l1 t319 _ (cS (Kd.C_below HR0_0.out HB.out)) HC0_0.out (cS (Kd.C_below HR0_1.out HB.out)) HC0_1.out (cS (Kd.C_below HR0_2.out HB.out)) HC0_2.out (cS (Kd.C_below HR0_3.out HB.out)) HC0_3.out (cS (Kd.C_below HR1.out HB.out)) HC1.out A3.out).mono ?_); rintro e w8 ⟨rfl, hb⟩; refine ⟨_, rfl, ?_⟩; replace BK318 := Sd.mk (blk_below (bkA BK318.out) hb); replace HB := Sd.mk (below_step (bBl HB.out) hb); (try clear hb); (try clear hb2); (try clear hk); (try clear hi); obtain ⟨u9_0, u9_1, u9_2, u9_3, u9_4, u9_5, u9_6, o9_0, o9_1, o9_2, o9_3, o9_4, o9_5, o9_6⟩ := bc7 (w := w8) BK318.out) | ((with_reducible refine gate_callee (f := 59) rfl ?_); refine goesL_ (some 15) rfl rfl Tryz.func59 (by kernel_rfl) rfl #[.agg #[.slice A0_0 l0_0.length c0_0, .slice A0_1 l0_1.length c0_1, .slice A0_2 l0_2.length c0_2, .slice A0_3 l0_3.length c0_3, .int .i64 a0_4, .int .i64 a0_5, .int .i64 a0_6], .slice A1 l1.length c1] rfl tM ?_; (with_reducible refine (rf_cost.calls k _ _ l0_0 _ _ l0_1 _ _ l0_2 _ _ l0_3 a0_4 a0_5 a0_6 _ _ l1 t320 _ (cS (Kd.C_below HR0_0.out HB.out)) HC0_0.out (cS (Kd.C_below HR0_1.out HB.out)) HC0_1.out (cS (Kd.C_below HR0_2.out HB.out)) HC0_2.out (cS (Kd.C_below HR0_3.out HB.out)) HC0_3.out (cS (Kd.C_below HR1.out HB.out)) HC1.out A5.out).mono ?_); rintro e w10 ⟨rfl, hb⟩; refine ⟨_, rfl, ?_⟩; replace BK318 := Sd.mk (blk_below (bkA BK318.out) hb); replace HB := Sd.mk (below_step (bBl HB.out) hb); (try clear hb); (try clear hb2); (try clear hk); (try clear hi)))
  go_ret2
  exact ⟨tE, bBl HB.out⟩
 ·rw [if_neg c4] at H
  have c4b0 : (t319 == 0) = false := beq_eq_false_iff_ne.mpr c4
  have c4b1 : (t319 != 0) = true := bne_iff_ne.mpr c4
  simp only [Option.some.injEq, Prod.mk.injEq] at H
  obtain ⟨rfl, rfl⟩ := H
  go_enter Tryz.func18, Tryz.ntmps18
  go_wp2_with (first | ((with_reducible refine gate_dst (N := 2) rfl ?_); refine box_event ?hg (N := 2) ?hd (cs := #[.slice A0_0 l0_0.length c0_0, .slice A0_1 l0_1.length c0_1, .slice A0_2 l0_2.length c0_2, .slice A0_3 l0_3.length c0_3, .int .i64 a0_4, .int .i64 a0_5, .int .i64 a0_6]) (t := 29) ?hr ?_; (case hd => rfl); (case hg => rfl); (case hr => exact tG); intro gb318 hg w11 hbox hb; have BK318 := Sd.mk (hbox); have GW318 := Sd.mk (bSz hg (bBl HB.out)); have GE318 := Sd.mk (bSz hg (bBl HB.out)); replace HB := Sd.mk (below_step (bBl HB.out) hb); clear hb hbox hg; obtain ⟨u12_0, u12_1, u12_2, u12_3, u12_4, u12_5, u12_6, o12_0, o12_1, o12_2, o12_3, o12_4, o12_5, o12_6⟩ := bc7 (w := w11) BK318.out) | ((with_reducible refine gate_callee (f := 53) rfl ?_); refine goesL_ (some 9) rfl rfl Tryz.func53 (by kernel_rfl) rfl #[.agg #[.slice A0_0 l0_0.length c0_0, .slice A0_1 l0_1.length c0_1, .slice A0_2 l0_2.length c0_2, .slice A0_3 l0_3.length c0_3, .int .i64 a0_4, .int .i64 a0_5, .int .i64 a0_6], .slice A1 l1.length c1] rfl tM ?_; (with_reducible refine (rf_asked.calls k _ _ l0_0 _ _ l0_1 _ _ l0_2 _ _ l0_3 a0_4 a0_5 a0_6 _ _ l1 t319 _ (cS (Kd.C_below HR0_0.out HB.out)) HC0_0.out (cS (Kd.C_below HR0_1.out HB.out)) HC0_1.out (cS (Kd.C_below HR0_2.out HB.out)) HC0_2.out (cS (Kd.C_below HR0_3.out HB.out)) HC0_3.out (cS (Kd.C_below HR1.out HB.out)) HC1.out A3.out).mono ?_); rintro e w13 ⟨rfl, hb⟩; refine ⟨_, rfl, ?_⟩; replace BK318 := Sd.mk (blk_below (bkA BK318.out) hb); replace HB := Sd.mk (below_step (bBl HB.out) hb); (try clear hb); (try clear hb2); (try clear hk); (try clear hi)))
  go_ret2
  exact ⟨tE, bBl HB.out⟩
end Go.Proofs.YtljfljekcpdpiaaGreat.PB

namespace Go.Proofs.YtljfljekcpdpiaaGreat.PB
open Go.RowKit Go.Proofs.YtljfljekcpdpiaaGreatW.PrintWords Go.Proofs.YtljfljekcpdpiaaGreatW.PrintLast Go.Proofs.YtljfljekcpdpiaaGreatW.PrintMore
attribute [local go_sem] max2_int min2_int max_two min_two max_three min_three max_four min_four
mutual
def lw_BatchPasses.j0 : Nat → Bool → List ByteArray → List (S70) → List (S27) → List (S89) → Int → Int → Int → List Int → List Int → Int → Int → Int → List Int → Option (Bool)
 | 0, _, _, _, _, _, _, _, _, _, _, _, _, _, _ => none
 | k + 1, x16, x322q0, x322q1, x322q2, x322q3, x322q4, x322q5, x322q6, x323q0, x323q1, x323q2, x323q3, x323q4, x323q5 => if x16 = true then ((lw_lives.f k).bind fun t325 => (some t325)) else ((batch_Passes.f k x322q0 x322q1 x322q2 x322q3 x322q4 x322q5 x322q6 x323q0).bind fun bt326 => ((rf_Passes.f k x322q0 x322q1 x322q2 x322q3 x322q4 x322q5 x322q6 x323q0).bind fun bt328 => (if (bt326.1 != bt328.1) = true then (lw_BatchPasses.j1 k true x322q0 x322q1 x322q2 x322q3 x322q4 x322q5 x322q6 x323q0 x323q1 x323q2 x323q3 x323q4 x323q5) else (lw_BatchPasses.j1 k (bt326.2 != bt328.2) x322q0 x322q1 x322q2 x322q3 x322q4 x322q5 x322q6 x323q0 x323q1 x323q2 x323q3 x323q4 x323q5))))
def lw_BatchPasses.j1 : Nat → Bool → List ByteArray → List (S70) → List (S27) → List (S89) → Int → Int → Int → List Int → List Int → Int → Int → Int → List Int → Option (Bool)
 | 0, _, _, _, _, _, _, _, _, _, _, _, _, _, _ => none
 | k + 1, x39, x322q0, x322q1, x322q2, x322q3, x322q4, x322q5, x322q6, x323q0, x323q1, x323q2, x323q3, x323q4, x323q5 => if x39 = true then (some false) else ((batch_Allowed.f k x322q0 x322q1 x322q2 x322q3 x322q4 x322q5 x322q6 x323q0).bind fun bt330 => ((rf_Allowed.f k x322q0 x322q1 x322q2 x322q3 x322q4 x322q5 x322q6 x323q0).bind fun bt332 => (if (bt330.1 != bt332.1) = true then (lw_BatchPasses.j2 k true x322q0 x322q1 x322q2 x322q3 x322q4 x322q5 x322q6 x323q0 x323q1 x323q2 x323q3 x323q4 x323q5) else (lw_BatchPasses.j2 k (bt330.2 != bt332.2) x322q0 x322q1 x322q2 x322q3 x322q4 x322q5 x322q6 x323q0 x323q1 x323q2 x323q3 x323q4 x323q5))))
def lw_BatchPasses.j2 : Nat → Bool → List ByteArray → List (S70) → List (S27) → List (S89) → Int → Int → Int → List Int → List Int → Int → Int → Int → List Int → Option (Bool)
 | 0, _, _, _, _, _, _, _, _, _, _, _, _, _, _ => none
 | k + 1, x61, x322q0, x322q1, x322q2, x322q3, x322q4, x322q5, x322q6, x323q0, x323q1, x323q2, x323q3, x323q4, x323q5 => if x61 = true then (some false) else ((batch_Cost.f k x322q0 x322q1 x322q2 x322q3 x322q4 x322q5 x322q6 x323q0).bind fun bt334 => ((rf_Cost.f k x322q0 x322q1 x322q2 x322q3 x322q4 x322q5 x322q6 x323q0).bind fun bt336 => (if bt334.1 = bt336.1 then (if bt334.2 = bt336.2 then ((lw_lives.f k).bind fun t338 => (some t338)) else (some false)) else (some false))))
end
def lw_BatchPasses.f (k : Nat) (l0_0 : List ByteArray) (l0_1 : List (S70)) (l0_2 : List (S27)) (l0_3 : List (S89)) (a0_4 : Int) (a0_5 : Int) (a0_6 : Int) (l1_0 : List Int) (l1_1 : List Int) (a1_2 : Int) (a1_3 : Int) (a1_4 : Int) (l1_5 : List Int) : Option (Bool) := (lw_Great.f k l0_0 l0_1 l0_2 l0_3 a0_4 a0_5 a0_6).bind fun t323 => (if t323 = true then (lw_BatchPasses.j0 k true l0_0 l0_1 l0_2 l0_3 a0_4 a0_5 a0_6 l1_0 l1_1 a1_2 a1_3 a1_4 l1_5) else ((lw_wide.f l1_0 l1_1 a1_2 a1_3 a1_4 l1_5).bind fun t324 => (lw_BatchPasses.j0 k t324 l0_0 l0_1 l0_2 l0_3 a0_4 a0_5 a0_6 l1_0 l1_1 a1_2 a1_3 a1_4 l1_5)))
set_option maxHeartbeats 8000000 in
set_option maxRecDepth 100000 in
theorem lw_BatchPasses.calls (k : Nat) (A0_0 : Option Addr) (c0_0 : Nat) (l0_0 : List ByteArray) (A0_1 : Option Addr) (c0_1 : Nat) (l0_1 : List (S70)) (A0_2 : Option Addr) (c0_2 : Nat) (l0_2 : List (S27)) (A0_3 : Option Addr) (c0_3 : Nat) (l0_3 : List (S89)) (a0_4 : Int) (a0_5 : Int) (a0_6 : Int) (A1_0 : Option Addr) (c1_0 : Nat) (l1_0 : List Int) (A1_1 : Option Addr) (c1_1 : Nat) (l1_1 : List Int) (a1_2 : Int) (a1_3 : Int) (a1_4 : Int) (A1_5 : Option Addr) (c1_5 : Nat) (l1_5 : List Int) (r : Bool) (w : World) (hr0_0 : Kd.C Kd.string w A0_0 l0_0.length l0_0) (hc0_0 : l0_0.length ≤ c0_0) (hr0_1 : Kd.C k70 w A0_1 l0_1.length l0_1) (hc0_1 : l0_1.length ≤ c0_1) (hr0_2 : Kd.C k27 w A0_2 l0_2.length l0_2) (hc0_2 : l0_2.length ≤ c0_2) (hr0_3 : Kd.C k89 w A0_3 l0_3.length l0_3) (hc0_3 : l0_3.length ≤ c0_3) (hr1_0 : Kd.C (Kd.int .i64) w A1_0 l1_0.length l1_0) (hc1_0 : l1_0.length ≤ c1_0) (hr1_1 : Kd.C (Kd.int .i64) w A1_1 l1_1.length l1_1) (hc1_1 : l1_1.length ≤ c1_1) (hr1_5 : Kd.C (Kd.int .i64) w A1_5 l1_5.length l1_5) (hc1_5 : l1_5.length ≤ c1_5) (h : lw_BatchPasses.f k l0_0 l0_1 l0_2 l0_3 a0_4 a0_5 a0_6 l1_0 l1_1 a1_2 a1_3 a1_4 l1_5 = some r) :
  Calls Tryz.prog 3 #[.agg #[.slice A0_0 l0_0.length c0_0, .slice A0_1 l0_1.length c0_1, .slice A0_2 l0_2.length c0_2, .slice A0_3 l0_3.length c0_3, .int .i64 a0_4, .int .i64 a0_5, .int .i64 a0_6], .agg #[.slice A1_0 l1_0.length c1_0, .slice A1_1 l1_1.length c1_1, .int .i64 a1_2, .int .i64 a1_3, .int .i64 a1_4, .slice A1_5 l1_5.length c1_5]] w fun e w' => e = .returned (.bool r) ∧ Below w.heap.size w w' := by
 have hu29 := Tryz.underlying29; have hu34 := Tryz.underlying34; have HR0_0 := Sd.mk hr0_0; have HC0_0 := Sd.mk hc0_0; clear hr0_0 hc0_0; have HR0_1 := Sd.mk hr0_1; have HC0_1 := Sd.mk hc0_1; clear hr0_1 hc0_1; have HR0_2 := Sd.mk hr0_2; have HC0_2 := Sd.mk hc0_2; clear hr0_2 hc0_2; have HR0_3 := Sd.mk hr0_3; have HC0_3 := Sd.mk hc0_3; clear hr0_3 hc0_3; have HR1_0 := Sd.mk hr1_0; have HC1_0 := Sd.mk hc1_0; clear hr1_0 hc1_0; have HR1_1 := Sd.mk hr1_1; have HC1_1 := Sd.mk hc1_1; clear hr1_1 hc1_1; have HR1_5 := Sd.mk hr1_5; have HC1_5 := Sd.mk hc1_5; clear hr1_5 hc1_5; have HB := Sd.mk (Below.refl w.heap.size w)
 have H : ((lw_Great.f k l0_0 l0_1 l0_2 l0_3 a0_4 a0_5 a0_6).bind fun t323 => (if t323 = true then (lw_BatchPasses.j0 k true l0_0 l0_1 l0_2 l0_3 a0_4 a0_5 a0_6 l1_0 l1_1 a1_2 a1_3 a1_4 l1_5) else ((lw_wide.f l1_0 l1_1 a1_2 a1_3 a1_4 l1_5).bind fun t324 => (lw_BatchPasses.j0 k t324 l0_0 l0_1 l0_2 l0_3 a0_4 a0_5 a0_6 l1_0 l1_1 a1_2 a1_3 a1_4 l1_5)))) = some r := h
 clear h; have HC3 := Sd.mk H; clear H
 go_enter Tryz.func3, Tryz.ntmps3
 go_upto_region 1 with (first | ((with_reducible refine gate_dst (N := 2) rfl ?_); refine box_event ?hg (N := 2) ?hd (cs := #[.slice A0_0 l0_0.length c0_0, .slice A0_1 l0_1.length c0_1, .slice A0_2 l0_2.length c0_2, .slice A0_3 l0_3.length c0_3, .int .i64 a0_4, .int .i64 a0_5, .int .i64 a0_6]) (t := 29) ?hr ?_; (case hd => rfl); (case hg => rfl); (case hr => exact tG); intro gb321 hg w4 hbox hb; have BK321 := Sd.mk (hbox); have GW321 := Sd.mk (bSz hg (bBl HB.out)); have GE321 := Sd.mk (bSz hg (bBl HB.out)); replace HB := Sd.mk (below_step (bBl HB.out) hb); clear hb hbox hg) | ((with_reducible refine gate_dst (N := 3) rfl ?_); refine box_event ?hg (N := 3) ?hd (cs := #[.slice A1_0 l1_0.length c1_0, .slice A1_1 l1_1.length c1_1, .int .i64 a1_2, .int .i64 a1_3, .int .i64 a1_4, .slice A1_5 l1_5.length c1_5]) (t := 34) ?hr ?_; (case hd => rfl); (case hg => rfl); (case hr => exact tG); intro gb322 hg w5 hbox hb; have BK322 := Sd.mk (hbox); have GW322 := Sd.mk (bSz hg (bBl HB.out)); have GE322 := Sd.mk (bSz hg (bBl HB.out)); replace HB := Sd.mk (below_step (bBl HB.out) hb); have NB321_322 := Sd.mk (bNl hg (bkA BK321.out)); have NB322_321 := Sd.mk (bNg hg (bkA BK321.out)); replace BK321 := Sd.mk (blk_below (bkA BK321.out) hb); clear hb hbox hg))
 (try simp only [Act.put, List.setIfInBounds_toArray, List.set_cons_zero, List.set_cons_succ])
 go_cut [16] (fun v16 wc => ∃ (kq : Nat) (x16_2 : Bool), v16 = .bool x16_2 ∧ Sd (lw_BatchPasses.j0 kq x16_2 l0_0 l0_1 l0_2 l0_3 a0_4 a0_5 a0_6 l1_0 l1_1 a1_2 a1_3 a1_4 l1_5 = some r) ∧ Sd (kq ≤ k) ∧ Sd (wc.heap[gb321]? = some (.cells #[(.slice A0_0 l0_0.length c0_0), (.slice A0_1 l0_1.length c0_1), (.slice A0_2 l0_2.length c0_2), (.slice A0_3 l0_3.length c0_3), .int .i64 a0_4, .int .i64 a0_5, .int .i64 a0_6] 29 (0, 0))) ∧ Sd (wc.heap[gb322]? = some (.cells #[(.slice A1_0 l1_0.length c1_0), (.slice A1_1 l1_1.length c1_1), .int .i64 a1_2, .int .i64 a1_3, .int .i64 a1_4, (.slice A1_5 l1_5.length c1_5)] 34 (0, 0))) ∧ Sd (Below w.heap.size w wc))
 case first =>
  have H := HC3.out; clear HC3; replace H := Option.bind_eq_some_iff.mp H; obtain ⟨t323, A60, H⟩ := H
  try dsimp only at H
  have A6 := Sd.mk A60; clear A60
  by_cases c7 : t323 = true
  ·subst c7
   have H1 : (lw_BatchPasses.j0 k true l0_0 l0_1 l0_2 l0_3 a0_4 a0_5 a0_6 l1_0 l1_1 a1_2 a1_3 a1_4 l1_5) = some r := by rw [if_pos rfl] at H; exact H
   clear H; have H := H1; clear H1; have H' := Sd.mk H; clear H; have hnb8 := NB321_322.out; have hnc8 := NB322_321.out; obtain ⟨u9_0, u9_1, u9_2, u9_3, u9_4, u9_5, u9_6, o9_0, o9_1, o9_2, o9_3, o9_4, o9_5, o9_6⟩ := bc7 (w := w5) BK321.out
   go_wp2_with (first | ((with_reducible refine gate_callee (f := 10) rfl ?_); refine goesL_ (some 12) rfl rfl Tryz.func10 (by kernel_rfl) rfl #[.agg #[.slice A0_0 l0_0.length c0_0, .slice A0_1 l0_1.length c0_1, .slice A0_2 l0_2.length c0_2, .slice A0_3 l0_3.length c0_3, .int .i64 a0_4, .int .i64 a0_5, .int .i64 a0_6]] rfl tM ?_; (with_reducible refine (lw_Great.calls k _ _ l0_0 _ _ l0_1 _ _ l0_2 _ _ l0_3 a0_4 a0_5 a0_6 true _ (cS (Kd.C_below HR0_0.out HB.out)) HC0_0.out (cS (Kd.C_below HR0_1.out HB.out)) HC0_1.out (cS (Kd.C_below HR0_2.out HB.out)) HC0_2.out (cS (Kd.C_below HR0_3.out HB.out)) HC0_3.out A6.out).mono ?_); rintro e w10 ⟨rfl, hb⟩; refine ⟨_, rfl, ?_⟩; replace BK321 := Sd.mk (blk_below (bkA BK321.out) hb); replace BK322 := Sd.mk (blk_below (bkA BK322.out) hb); replace HB := Sd.mk (below_step (bBl HB.out) hb); (try clear hb); (try clear hb2); (try clear hk); (try clear hi)))
   go_meet
   case rel => exact ⟨_, (true), tS, H', ⟨by first | omega | exact Nat.le_refl _⟩, ⟨bkA BK321.out⟩, ⟨bkA BK322.out⟩, ⟨bBl HB.out⟩⟩
  ·replace c7 := Bool.eq_false_iff.mpr c7
   subst c7
   have H1 : ((lw_wide.f l1_0 l1_1 a1_2 a1_3 a1_4 l1_5).bind fun t324 => (lw_BatchPasses.j0 k t324 l0_0 l0_1 l0_2 l0_3 a0_4 a0_5 a0_6 l1_0 l1_1 a1_2 a1_3 a1_4 l1_5)) = some r := by rw [if_neg (show ¬ (false = true) by decide)] at H; exact H
   clear H; have H := H1; clear H1; replace H := Option.bind_eq_some_iff.mp H; obtain ⟨t324, A110, H⟩ := H
   try dsimp only at H
   have A11 := Sd.mk A110; clear A110; have H' := Sd.mk H; clear H; have hnb12 := NB321_322.out; have hnc12 := NB322_321.out; obtain ⟨u13_0, u13_1, u13_2, u13_3, u13_4, u13_5, u13_6, o13_0, o13_1, o13_2, o13_3, o13_4, o13_5, o13_6⟩ := bc7 (w := w5) BK321.out
   go_wp2_with (first | ((with_reducible refine gate_callee (f := 10) rfl ?_); refine goesL_ (some 12) rfl rfl Tryz.func10 (by kernel_rfl) rfl #[.agg #[.slice A0_0 l0_0.length c0_0, .slice A0_1 l0_1.length c0_1, .slice A0_2 l0_2.length c0_2, .slice A0_3 l0_3.length c0_3, .int .i64 a0_4, .int .i64 a0_5, .int .i64 a0_6]] rfl tM ?_; (with_reducible refine (lw_Great.calls k _ _ l0_0 _ _ l0_1 _ _ l0_2 _ _ l0_3 a0_4 a0_5 a0_6 false _ (cS (Kd.C_below HR0_0.out HB.out)) HC0_0.out (cS (Kd.C_below HR0_1.out HB.out)) HC0_1.out (cS (Kd.C_below HR0_2.out HB.out)) HC0_2.out (cS (Kd.C_below HR0_3.out HB.out)) HC0_3.out A6.out).mono ?_); rintro e w14 ⟨rfl, hb⟩; refine ⟨_, rfl, ?_⟩; replace BK321 := Sd.mk (blk_below (bkA BK321.out) hb); replace BK322 := Sd.mk (blk_below (bkA BK322.out) hb); replace HB := Sd.mk (below_step (bBl HB.out) hb); (try clear hb); (try clear hb2); (try clear hk); (try clear hi); obtain ⟨u15_0, u15_1, u15_2, u15_3, u15_4, u15_5, o15_0, o15_1, o15_2, o15_3, o15_4, o15_5⟩ := bc6 (w := w14) BK322.out) | (go_at_call 11; (with_reducible refine (lw_wide.calls _ _ l1_0 _ _ l1_1 a1_2 a1_3 a1_4 _ _ l1_5 t324 _ (cS (Kd.C_below HR1_0.out HB.out)) HC1_0.out (cS (Kd.C_below HR1_1.out HB.out)) HC1_1.out (cS (Kd.C_below HR1_5.out HB.out)) HC1_5.out A11.out).mono ?_); rintro e w16 ⟨rfl, hb⟩; replace BK321 := Sd.mk (blk_below (bkA BK321.out) hb); replace BK322 := Sd.mk (blk_below (bkA BK322.out) hb); replace HB := Sd.mk (below_step (bBl HB.out) hb); (try clear hb); (try clear hb2); (try clear hk); (try clear hi)))
   go_meet
   case rel => exact ⟨_, (t324), tS, H', ⟨by first | omega | exact Nat.le_refl _⟩, ⟨bkA BK321.out⟩, ⟨bkA BK322.out⟩, ⟨bBl HB.out⟩⟩
 case rest =>
  clear HC3; (try clear c1); (try clear p2); (try clear c3); (try clear c7); (try clear c8); (try clear c10); (try clear c12); (try clear u13_0 u13_1 u13_2 u13_3 u13_4 u13_5 u13_6); (try clear u15_0 u15_1 u15_2 u15_3 u15_4 u15_5); (try clear u9_0 u9_1 u9_2 u9_3 u9_4 u9_5 u9_6); (try clear o13_0 o13_1 o13_2 o13_3 o13_4 o13_5 o13_6); (try clear o15_0 o15_1 o15_2 o15_3 o15_4 o15_5); (try clear o9_0 o9_1 o9_2 o9_3 o9_4 o9_5 o9_6); obtain ⟨kq, x16_2, rfl, HA, HJ2, BK321, BK322, HB⟩ := hcut
  cases kq with
  | zero => exact absurd HA.out (by simp [lw_BatchPasses.j0])
  | succ kj2 =>
   have H := HA.out; clear HA
   simp only [lw_BatchPasses.j0] at H
   by_cases c17 : x16_2 = true
   ·subst c17
    have H1 : ((lw_lives.f kj2).bind fun t325 => (some t325)) = some r := by rw [if_pos rfl] at H; exact H
    clear H; have H := H1; clear H1; replace H := Option.bind_eq_some_iff.mp H; obtain ⟨t325, A180, H⟩ := H
    try dsimp only at H
    have A18 := Sd.mk A180; clear A180; obtain rfl := Option.some.inj H
    go_wp2_with (first | ((with_reducible refine gate_callee (f := 12) rfl ?_); refine goesL_ (some 17) rfl rfl Tryz.func12 (by kernel_rfl) rfl #[] rfl tM ?_; (with_reducible refine (lw_lives.calls kj2  t325 _ A18.out).mono ?_); rintro e w19 ⟨rfl, hb⟩; refine ⟨_, rfl, ?_⟩; replace BK321 := Sd.mk (blk_below (bkA BK321.out) hb); replace BK322 := Sd.mk (blk_below (bkA BK322.out) hb); replace HB := Sd.mk (below_step (bBl HB.out) hb); (try clear hb); (try clear hb2); (try clear hk); (try clear hi)))
    go_ret
    exact ⟨tE, bBl HB.out⟩
   ·replace c17 := Bool.eq_false_iff.mpr c17
    subst c17
    have H1 : ((batch_Passes.f kj2 l0_0 l0_1 l0_2 l0_3 a0_4 a0_5 a0_6 l1_0).bind fun bt326 => ((rf_Passes.f kj2 l0_0 l0_1 l0_2 l0_3 a0_4 a0_5 a0_6 l1_0).bind fun bt328 => (if (bt326.1 != bt328.1) = true then (lw_BatchPasses.j1 kj2 true l0_0 l0_1 l0_2 l0_3 a0_4 a0_5 a0_6 l1_0 l1_1 a1_2 a1_3 a1_4 l1_5) else (lw_BatchPasses.j1 kj2 (bt326.2 != bt328.2) l0_0 l0_1 l0_2 l0_3 a0_4 a0_5 a0_6 l1_0 l1_1 a1_2 a1_3 a1_4 l1_5)))) = some r := by rw [if_neg (show ¬ (false = true) by decide)] at H; exact H
    clear H; have H := H1; clear H1; replace H := Option.bind_eq_some_iff.mp H
    obtain ⟨⟨t326, t327⟩, A200, H⟩ := H
    try dsimp only at H
    have A20 := Sd.mk A200; clear A200; replace H := Option.bind_eq_some_iff.mp H
    obtain ⟨⟨t328, t329⟩, A210, H⟩ := H
    try dsimp only at H
    have A21 := Sd.mk A210; clear A210; have HC22 := Sd.mk H; clear H; have hnb23 := NB321_322.out; have hnc23 := NB322_321.out; obtain ⟨u24_0, u24_1, u24_2, u24_3, u24_4, u24_5, u24_6, o24_0, o24_1, o24_2, o24_3, o24_4, o24_5, o24_6⟩ := bc7 (w := wc) BK321.out; obtain ⟨u25_0, u25_1, u25_2, u25_3, u25_4, u25_5, o25_0, o25_1, o25_2, o25_3, o25_4, o25_5⟩ := bc6 (w := wc) BK322.out
    go_upto_region 5 with (first | ((with_reducible refine gate_callee (f := 13) rfl ?_); refine goesL_ (some 22) rfl rfl Tryz.func13 (by kernel_rfl) rfl #[.agg #[.slice A0_0 l0_0.length c0_0, .slice A0_1 l0_1.length c0_1, .slice A0_2 l0_2.length c0_2, .slice A0_3 l0_3.length c0_3, .int .i64 a0_4, .int .i64 a0_5, .int .i64 a0_6], .slice A1_0 l1_0.length c1_0] rfl tM ?_; (with_reducible refine (batch_Passes.calls kj2 _ _ l0_0 _ _ l0_1 _ _ l0_2 _ _ l0_3 a0_4 a0_5 a0_6 _ _ l1_0 t326 t327 _ (cS (Kd.C_below HR0_0.out HB.out)) HC0_0.out (cS (Kd.C_below HR0_1.out HB.out)) HC0_1.out (cS (Kd.C_below HR0_2.out HB.out)) HC0_2.out (cS (Kd.C_below HR0_3.out HB.out)) HC0_3.out (cS (Kd.C_below HR1_0.out HB.out)) HC1_0.out A20.out).mono ?_); rintro e w26 ⟨rfl, hb⟩; refine ⟨_, rfl, ?_⟩; replace BK321 := Sd.mk (blk_below (bkA BK321.out) hb); replace BK322 := Sd.mk (blk_below (bkA BK322.out) hb); replace HB := Sd.mk (below_step (bBl HB.out) hb); (try clear hb); (try clear hb2); (try clear hk); (try clear hi); obtain ⟨u27_0, u27_1, u27_2, u27_3, u27_4, u27_5, u27_6, o27_0, o27_1, o27_2, o27_3, o27_4, o27_5, o27_6⟩ := bc7 (w := w26) BK321.out; obtain ⟨u28_0, u28_1, u28_2, u28_3, u28_4, u28_5, o28_0, o28_1, o28_2, o28_3, o28_4, o28_5⟩ := bc6 (w := w26) BK322.out) | ((with_reducible refine gate_callee (f := 14) rfl ?_); refine goesL_ (some 29) rfl rfl Tryz.func14 (by kernel_rfl) rfl #[.agg #[.slice A0_0 l0_0.length c0_0, .slice A0_1 l0_1.length c0_1, .slice A0_2 l0_2.length c0_2, .slice A0_3 l0_3.length c0_3, .int .i64 a0_4, .int .i64 a0_5, .int .i64 a0_6], .slice A1_0 l1_0.length c1_0] rfl tM ?_; (with_reducible refine (rf_Passes.calls kj2 _ _ l0_0 _ _ l0_1 _ _ l0_2 _ _ l0_3 a0_4 a0_5 a0_6 _ _ l1_0 t328 t329 _ (cS (Kd.C_below HR0_0.out HB.out)) HC0_0.out (cS (Kd.C_below HR0_1.out HB.out)) HC0_1.out (cS (Kd.C_below HR0_2.out HB.out)) HC0_2.out (cS (Kd.C_below HR0_3.out HB.out)) HC0_3.out (cS (Kd.C_below HR1_0.out HB.out)) HC1_0.out A21.out).mono ?_); rintro e w29 ⟨rfl, hb⟩; refine ⟨_, rfl, ?_⟩; replace BK321 := Sd.mk (blk_below (bkA BK321.out) hb); replace BK322 := Sd.mk (blk_below (bkA BK322.out) hb); replace HB := Sd.mk (below_step (bBl HB.out) hb); (try clear hb); (try clear hb2); (try clear hk); (try clear hi)))
    (try simp only [Act.put, List.setIfInBounds_toArray, List.set_cons_zero, List.set_cons_succ])
    go_cut [39] (fun v39 wc => ∃ (kq : Nat) (x39_21 : Bool), v39 = .bool x39_21 ∧ Sd (lw_BatchPasses.j1 kq x39_21 l0_0 l0_1 l0_2 l0_3 a0_4 a0_5 a0_6 l1_0 l1_1 a1_2 a1_3 a1_4 l1_5 = some r) ∧ Sd (kq ≤ kj2) ∧ Sd (wc.heap[gb321]? = some (.cells #[(.slice A0_0 l0_0.length c0_0), (.slice A0_1 l0_1.length c0_1), (.slice A0_2 l0_2.length c0_2), (.slice A0_3 l0_3.length c0_3), .int .i64 a0_4, .int .i64 a0_5, .int .i64 a0_6] 29 (0, 0))) ∧ Sd (wc.heap[gb322]? = some (.cells #[(.slice A1_0 l1_0.length c1_0), (.slice A1_1 l1_1.length c1_1), .int .i64 a1_2, .int .i64 a1_3, .int .i64 a1_4, (.slice A1_5 l1_5.length c1_5)] 34 (0, 0))) ∧ Sd (Below w.heap.size w wc))
    case first =>
     have H := HC22.out; clear HC22
     by_cases c30 : (t326 != t328) = true
     ·rw [if_pos c30] at H
      have c30b0 : (t326 != t328) = true := c30
      (try (have c30b1 : decide (t326 = t328) = false := by simpa using c30))
      (try (have c30b2 : (t326 == t328) = false := by simpa using c30))
      (try (have c30b3 : ¬ (t326 = t328) := by simpa using c30))
      clear c30
      (first | rw [c30b0] | (simp only [i64_w, i32_w]; rw [c30b0]) | skip)
      have H' := Sd.mk H; clear H
      go_wp2
      go_meet
      case rel => exact ⟨_, (true), tS, H', ⟨by have := HJ2.out; first | omega | exact Nat.le_refl _⟩, ⟨bkA BK321.out⟩, ⟨bkA BK322.out⟩, ⟨bBl HB.out⟩⟩
     ·rw [if_neg c30] at H
      have c30b0 : (t326 != t328) = false := by simpa using c30
      (try (have c30b1 : decide (t326 = t328) = true := by simpa using c30))
      (try (have c30b2 : (t326 == t328) = true := by simpa using c30))
      clear c30
      (first | rw [c30b0] | (simp only [i64_w, i32_w]; rw [c30b0]) | skip)
      have H' := Sd.mk H; clear H
      go_wp2
      go_meet
      case rel => exact ⟨_, ((t327 != t329)), tS, H', ⟨by have := HJ2.out; first | omega | exact Nat.le_refl _⟩, ⟨bkA BK321.out⟩, ⟨bkA BK322.out⟩, ⟨bBl HB.out⟩⟩
    case rest =>
     clear HC22; (try clear c1); (try clear c2); (try clear p2 p2); (try clear c3); (try clear c7); (try clear c8); (try clear c10); (try clear c12); (try clear c13); (try clear c14); (try clear c17); (try clear c23); (try clear c30); (try clear c30b0); (try clear c30b1); (try clear c30b2); (try clear u13_0 u13_1 u13_2 u13_3 u13_4 u13_5 u13_6); (try clear u15_0 u15_1 u15_2 u15_3 u15_4 u15_5); (try clear u24_0 u24_1 u24_2 u24_3 u24_4 u24_5 u24_6); (try clear u25_0 u25_1 u25_2 u25_3 u25_4 u25_5); (try clear u27_0 u27_1 u27_2 u27_3 u27_4 u27_5 u27_6); (try clear u28_0 u28_1 u28_2 u28_3 u28_4 u28_5); (try clear u9_0 u9_1 u9_2 u9_3 u9_4 u9_5 u9_6); (try clear o13_0 o13_1 o13_2 o13_3 o13_4 o13_5 o13_6); (try clear o15_0 o15_1 o15_2 o15_3 o15_4 o15_5); (try clear o24_0 o24_1 o24_2 o24_3 o24_4 o24_5 o24_6); (try clear o25_0 o25_1 o25_2 o25_3 o25_4 o25_5); (try clear o27_0 o27_1 o27_2 o27_3 o27_4 o27_5 o27_6); (try clear o28_0 o28_1 o28_2 o28_3 o28_4 o28_5); (try clear o9_0 o9_1 o9_2 o9_3 o9_4 o9_5 o9_6); obtain ⟨kq, x39_21, rfl, HA, HJ21, BK321, BK322, HB⟩ := hcut
     cases kq with
     | zero => exact absurd HA.out (by simp [lw_BatchPasses.j1])
     | succ kj21 =>
      have H := HA.out; clear HA
      simp only [lw_BatchPasses.j1] at H
      by_cases c31 : x39_21 = true
      ·subst c31
       have H1 : (some false) = some r := by rw [if_pos rfl] at H; exact H
       clear H; have H := H1; clear H1; obtain rfl := Option.some.inj H
       go_wp2
       go_ret
       exact ⟨tE, bBl HB.out⟩
      ·replace c31 := Bool.eq_false_iff.mpr c31
       subst c31
       have H1 : ((batch_Allowed.f kj21 l0_0 l0_1 l0_2 l0_3 a0_4 a0_5 a0_6 l1_0).bind fun bt330 => ((rf_Allowed.f kj21 l0_0 l0_1 l0_2 l0_3 a0_4 a0_5 a0_6 l1_0).bind fun bt332 => (if (bt330.1 != bt332.1) = true then (lw_BatchPasses.j2 kj21 true l0_0 l0_1 l0_2 l0_3 a0_4 a0_5 a0_6 l1_0 l1_1 a1_2 a1_3 a1_4 l1_5) else (lw_BatchPasses.j2 kj21 (bt330.2 != bt332.2) l0_0 l0_1 l0_2 l0_3 a0_4 a0_5 a0_6 l1_0 l1_1 a1_2 a1_3 a1_4 l1_5)))) = some r := by rw [if_neg (show ¬ (false = true) by decide)] at H; exact H
       clear H; have H := H1; clear H1; replace H := Option.bind_eq_some_iff.mp H
       obtain ⟨⟨t330, t331⟩, A320, H⟩ := H
       try dsimp only at H
       have A32 := Sd.mk A320; clear A320; replace H := Option.bind_eq_some_iff.mp H
       obtain ⟨⟨t332, t333⟩, A330, H⟩ := H
       try dsimp only at H
       have A33 := Sd.mk A330; clear A330; have HC34 := Sd.mk H; clear H; have hnb35 := NB321_322.out; have hnc35 := NB322_321.out; obtain ⟨u36_0, u36_1, u36_2, u36_3, u36_4, u36_5, u36_6, o36_0, o36_1, o36_2, o36_3, o36_4, o36_5, o36_6⟩ := bc7 (w := wc) BK321.out; obtain ⟨u37_0, u37_1, u37_2, u37_3, u37_4, u37_5, o37_0, o37_1, o37_2, o37_3, o37_4, o37_5⟩ := bc6 (w := wc) BK322.out
       go_upto_region 9 with (first | ((with_reducible refine gate_callee (f := 15) rfl ?_); refine goesL_ (some 44) rfl rfl Tryz.func15 (by kernel_rfl) rfl #[.agg #[.slice A0_0 l0_0.length c0_0, .slice A0_1 l0_1.length c0_1, .slice A0_2 l0_2.length c0_2, .slice A0_3 l0_3.length c0_3, .int .i64 a0_4, .int .i64 a0_5, .int .i64 a0_6], .slice A1_0 l1_0.length c1_0] rfl tM ?_; (with_reducible refine (batch_Allowed.calls kj21 _ _ l0_0 _ _ l0_1 _ _ l0_2 _ _ l0_3 a0_4 a0_5 a0_6 _ _ l1_0 t330 t331 _ (cS (Kd.C_below HR0_0.out HB.out)) HC0_0.out (cS (Kd.C_below HR0_1.out HB.out)) HC0_1.out (cS (Kd.C_below HR0_2.out HB.out)) HC0_2.out (cS (Kd.C_below HR0_3.out HB.out)) HC0_3.out (cS (Kd.C_below HR1_0.out HB.out)) HC1_0.out A32.out).mono ?_); rintro e w38 ⟨rfl, hb⟩; refine ⟨_, rfl, ?_⟩; replace BK321 := Sd.mk (blk_below (bkA BK321.out) hb); replace BK322 := Sd.mk (blk_below (bkA BK322.out) hb); replace HB := Sd.mk (below_step (bBl HB.out) hb); (try clear hb); (try clear hb2); (try clear hk); (try clear hi); obtain ⟨u39_0, u39_1, u39_2, u39_3, u39_4, u39_5, u39_6, o39_0, o39_1, o39_2, o39_3, o39_4, o39_5, o39_6⟩ := bc7 (w := w38) BK321.out; obtain ⟨u40_0, u40_1, u40_2, u40_3, u40_4, u40_5, o40_0, o40_1, o40_2, o40_3, o40_4, o40_5⟩ := bc6 (w := w38) BK322.out) | ((with_reducible refine gate_callee (f := 16) rfl ?_); refine goesL_ (some 51) rfl rfl Tryz.func16 (by kernel_rfl) rfl #[.agg #[.slice A0_0 l0_0.length c0_0, .slice A0_1 l0_1.length c0_1, .slice A0_2 l0_2.length c0_2, .slice A0_3 l0_3.length c0_3, .int .i64 a0_4, .int .i64 a0_5, .int .i64 a0_6], .slice A1_0 l1_0.length c1_0] rfl tM ?_; (with_reducible refine (rf_Allowed.calls kj21 _ _ l0_0 _ _ l0_1 _ _ l0_2 _ _ l0_3 a0_4 a0_5 a0_6 _ _ l1_0 t332 t333 _ (cS (Kd.C_below HR0_0.out HB.out)) HC0_0.out (cS (Kd.C_below HR0_1.out HB.out)) HC0_1.out (cS (Kd.C_below HR0_2.out HB.out)) HC0_2.out (cS (Kd.C_below HR0_3.out HB.out)) HC0_3.out (cS (Kd.C_below HR1_0.out HB.out)) HC1_0.out A33.out).mono ?_); rintro e w41 ⟨rfl, hb⟩; refine ⟨_, rfl, ?_⟩; replace BK321 := Sd.mk (blk_below (bkA BK321.out) hb); replace BK322 := Sd.mk (blk_below (bkA BK322.out) hb); replace HB := Sd.mk (below_step (bBl HB.out) hb); (try clear hb); (try clear hb2); (try clear hk); (try clear hi)))
       (try simp only [Act.put, List.setIfInBounds_toArray, List.set_cons_zero, List.set_cons_succ])
       go_cut [61] (fun v61 wc => ∃ (kq : Nat) (x61_33 : Bool), v61 = .bool x61_33 ∧ Sd (lw_BatchPasses.j2 kq x61_33 l0_0 l0_1 l0_2 l0_3 a0_4 a0_5 a0_6 l1_0 l1_1 a1_2 a1_3 a1_4 l1_5 = some r) ∧ Sd (kq ≤ kj21) ∧ Sd (wc.heap[gb321]? = some (.cells #[(.slice A0_0 l0_0.length c0_0), (.slice A0_1 l0_1.length c0_1), (.slice A0_2 l0_2.length c0_2), (.slice A0_3 l0_3.length c0_3), .int .i64 a0_4, .int .i64 a0_5, .int .i64 a0_6] 29 (0, 0))) ∧ Sd (wc.heap[gb322]? = some (.cells #[(.slice A1_0 l1_0.length c1_0), (.slice A1_1 l1_1.length c1_1), .int .i64 a1_2, .int .i64 a1_3, .int .i64 a1_4, (.slice A1_5 l1_5.length c1_5)] 34 (0, 0))) ∧ Sd (Below w.heap.size w wc))
       case first =>
        have H := HC34.out; clear HC34
        by_cases c42 : (t330 != t332) = true
        ·rw [if_pos c42] at H
         have c42b0 : (t330 != t332) = true := c42
         (try (have c42b1 : decide (t330 = t332) = false := by simpa using c42))
         (try (have c42b2 : (t330 == t332) = false := by simpa using c42))
         (try (have c42b3 : ¬ (t330 = t332) := by simpa using c42))
         clear c42
         (first | rw [c42b0] | (simp only [i64_w, i32_w]; rw [c42b0]) | skip)
         have H' := Sd.mk H; clear H
         go_wp2
         go_meet
         case rel => exact ⟨_, (true), tS, H', ⟨by have := HJ2.out; have := HJ21.out; first | omega | exact Nat.le_refl _⟩, ⟨bkA BK321.out⟩, ⟨bkA BK322.out⟩, ⟨bBl HB.out⟩⟩
        ·rw [if_neg c42] at H
         have c42b0 : (t330 != t332) = false := by simpa using c42
         (try (have c42b1 : decide (t330 = t332) = true := by simpa using c42))
         (try (have c42b2 : (t330 == t332) = true := by simpa using c42))
         clear c42
         (first | rw [c42b0] | (simp only [i64_w, i32_w]; rw [c42b0]) | skip)
         have H' := Sd.mk H; clear H
         go_wp2
         go_meet
         case rel => exact ⟨_, ((t331 != t333)), tS, H', ⟨by have := HJ2.out; have := HJ21.out; first | omega | exact Nat.le_refl _⟩, ⟨bkA BK321.out⟩, ⟨bkA BK322.out⟩, ⟨bBl HB.out⟩⟩
       case rest =>
        clear HC34; (try clear c1); (try clear c2); (try clear p2 p2); (try clear c3); (try clear c4); (try clear c7); (try clear c8); (try clear c10); (try clear c12); (try clear c13); (try clear c14); (try clear c15); (try clear c16); (try clear c17); (try clear c23); (try clear c30); (try clear c30b0); (try clear c30b1); (try clear c30b2); (try clear c31); (try clear c35); (try clear c42); (try clear c42b0); (try clear c42b1); (try clear c42b2); (try clear u13_0 u13_1 u13_2 u13_3 u13_4 u13_5 u13_6); (try clear u15_0 u15_1 u15_2 u15_3 u15_4 u15_5); (try clear u24_0 u24_1 u24_2 u24_3 u24_4 u24_5 u24_6); (try clear u25_0 u25_1 u25_2 u25_3 u25_4 u25_5); (try clear u27_0 u27_1 u27_2 u27_3 u27_4 u27_5 u27_6); (try clear u28_0 u28_1 u28_2 u28_3 u28_4 u28_5); (try clear u36_0 u36_1 u36_2 u36_3 u36_4 u36_5 u36_6); (try clear u37_0 u37_1 u37_2 u37_3 u37_4 u37_5); (try clear u39_0 u39_1 u39_2 u39_3 u39_4 u39_5 u39_6); (try clear u40_0 u40_1 u40_2 u40_3 u40_4 u40_5); (try clear u9_0 u9_1 u9_2 u9_3 u9_4 u9_5 u9_6); (try clear o13_0 o13_1 o13_2 o13_3 o13_4 o13_5 o13_6); (try clear o15_0 o15_1 o15_2 o15_3 o15_4 o15_5); (try clear o24_0 o24_1 o24_2 o24_3 o24_4 o24_5 o24_6); (try clear o25_0 o25_1 o25_2 o25_3 o25_4 o25_5); (try clear o27_0 o27_1 o27_2 o27_3 o27_4 o27_5 o27_6); (try clear o28_0 o28_1 o28_2 o28_3 o28_4 o28_5); (try clear o36_0 o36_1 o36_2 o36_3 o36_4 o36_5 o36_6); (try clear o37_0 o37_1 o37_2 o37_3 o37_4 o37_5); (try clear o39_0 o39_1 o39_2 o39_3 o39_4 o39_5 o39_6); (try clear o40_0 o40_1 o40_2 o40_3 o40_4 o40_5); (try clear o9_0 o9_1 o9_2 o9_3 o9_4 o9_5 o9_6); obtain ⟨kq, x61_33, rfl, HA, HJ33, BK321, BK322, HB⟩ := hcut
        cases kq with
        | zero => exact absurd HA.out (by simp [lw_BatchPasses.j2])
        | succ kj33 =>
         have H := HA.out; clear HA
         simp only [lw_BatchPasses.j2] at H
         by_cases c43 : x61_33 = true
         ·subst c43
          have H1 : (some false) = some r := by rw [if_pos rfl] at H; exact H
          clear H; have H := H1; clear H1; obtain rfl := Option.some.inj H
          go_wp2
          go_ret
          exact ⟨tE, bBl HB.out⟩
         ·replace c43 := Bool.eq_false_iff.mpr c43
          subst c43
          have H1 : ((batch_Cost.f kj33 l0_0 l0_1 l0_2 l0_3 a0_4 a0_5 a0_6 l1_0).bind fun bt334 => ((rf_Cost.f kj33 l0_0 l0_1 l0_2 l0_3 a0_4 a0_5 a0_6 l1_0).bind fun bt336 => (if bt334.1 = bt336.1 then (if bt334.2 = bt336.2 then ((lw_lives.f kj33).bind fun t338 => (some t338)) else (some false)) else (some false)))) = some r := by rw [if_neg (show ¬ (false = true) by decide)] at H; exact H
          clear H; have H := H1; clear H1; replace H := Option.bind_eq_some_iff.mp H
          obtain ⟨⟨t334, t335⟩, A440, H⟩ := H
          try dsimp only at H
          have A44 := Sd.mk A440; clear A440; replace H := Option.bind_eq_some_iff.mp H
          obtain ⟨⟨t336, t337⟩, A450, H⟩ := H
          try dsimp only at H
          have A45 := Sd.mk A450; clear A450
          by_cases c46 : t334 = t336
          ·rw [if_pos c46] at H
           have c46b0 : (t334 == t336) = true := beq_iff_eq.mpr c46
           have c46b1 : (t334 != t336) = false := bne_eq_false_iff_eq.mpr c46
           clear c46
           by_cases c47 : t335 = t337
           ·rw [if_pos c47] at H
            have c47b0 : (t335 == t337) = true := beq_iff_eq.mpr c47
            have c47b1 : (t335 != t337) = false := bne_eq_false_iff_eq.mpr c47
            clear c47; replace H := Option.bind_eq_some_iff.mp H; obtain ⟨t338, A480, H⟩ := H
            try dsimp only at H
            have A48 := Sd.mk A480; clear A480; obtain rfl := Option.some.inj H; have hnb49 := NB321_322.out; have hnc49 := NB322_321.out; obtain ⟨u50_0, u50_1, u50_2, u50_3, u50_4, u50_5, u50_6, o50_0, o50_1, o50_2, o50_3, o50_4, o50_5, o50_6⟩ := bc7 (w := wc) BK321.out; obtain ⟨u51_0, u51_1, u51_2, u51_3, u51_4, u51_5, o51_0, o51_1, o51_2, o51_3, o51_4, o51_5⟩ := bc6 (w := wc) BK322.out
            go_wp2_with (first | ((with_reducible refine gate_callee (f := 17) rfl ?_); refine goesL_ (some 66) rfl rfl Tryz.func17 (by kernel_rfl) rfl #[.agg #[.slice A0_0 l0_0.length c0_0, .slice A0_1 l0_1.length c0_1, .slice A0_2 l0_2.length c0_2, .slice A0_3 l0_3.length c0_3, .int .i64 a0_4, .int .i64 a0_5, .int .i64 a0_6], .slice A1_0 l1_0.length c1_0] rfl tM ?_; (with_reducible refine (batch_Cost.calls kj33 _ _ l0_0 _ _ l0_1 _ _ l0_2 _ _ l0_3 a0_4 a0_5 a0_6 _ _ l1_0 t334 t335 _ (cS (Kd.C_below HR0_0.out HB.out)) HC0_0.out (cS (Kd.C_below HR0_1.out HB.out)) HC0_1.out (cS (Kd.C_below HR0_2.out HB.out)) HC0_2.out (cS (Kd.C_below HR0_3.out HB.out)) HC0_3.out (cS (Kd.C_below HR1_0.out HB.out)) HC1_0.out A44.out).mono ?_); rintro e w52 ⟨rfl, hb⟩; refine ⟨_, rfl, ?_⟩; replace BK321 := Sd.mk (blk_below (bkA BK321.out) hb); replace BK322 := Sd.mk (blk_below (bkA BK322.out) hb); replace HB := Sd.mk (below_step (bBl HB.out) hb); (try clear hb); (try clear hb2); (try clear hk); (try clear hi); obtain ⟨u53_0, u53_1, u53_2, u53_3, u53_4, u53_5, u53_6, o53_0, o53_1, o53_2, o53_3, o53_4, o53_5, o53_6⟩ := bc7 (w := w52) BK321.out; obtain ⟨u54_0, u54_1, u54_2, u54_3, u54_4, u54_5, o54_0, o54_1, o54_2, o54_3, o54_4, o54_5⟩ := bc6 (w := w52) BK322.out) | ((with_reducible refine gate_callee (f := 18) rfl ?_); refine goesL_ (some 73) rfl rfl Tryz.func18 (by kernel_rfl) rfl #[.agg #[.slice A0_0 l0_0.length c0_0, .slice A0_1 l0_1.length c0_1, .slice A0_2 l0_2.length c0_2, .slice A0_3 l0_3.length c0_3, .int .i64 a0_4, .int .i64 a0_5, .int .i64 a0_6], .slice A1_0 l1_0.length c1_0] rfl tM ?_; (with_reducible refine (rf_Cost.calls kj33 _ _ l0_0 _ _ l0_1 _ _ l0_2 _ _ l0_3 a0_4 a0_5 a0_6 _ _ l1_0 t336 t337 _ (cS (Kd.C_below HR0_0.out HB.out)) HC0_0.out (cS (Kd.C_below HR0_1.out HB.out)) HC0_1.out (cS (Kd.C_below HR0_2.out HB.out)) HC0_2.out (cS (Kd.C_below HR0_3.out HB.out)) HC0_3.out (cS (Kd.C_below HR1_0.out HB.out)) HC1_0.out A45.out).mono ?_); rintro e w55 ⟨rfl, hb⟩; refine ⟨_, rfl, ?_⟩; replace BK321 := Sd.mk (blk_below (bkA BK321.out) hb); replace BK322 := Sd.mk (blk_below (bkA BK322.out) hb); replace HB := Sd.mk (below_step (bBl HB.out) hb); (try clear hb); (try clear hb2); (try clear hk); (try clear hi)) | (go_at_call 12; (with_reducible refine (lw_lives.calls kj33  t338 _ A48.out).mono ?_); rintro e w56 ⟨rfl, hb⟩; replace BK321 := Sd.mk (blk_below (bkA BK321.out) hb); replace BK322 := Sd.mk (blk_below (bkA BK322.out) hb); replace HB := Sd.mk (below_step (bBl HB.out) hb); (try clear hb); (try clear hb2); (try clear hk); (try clear hi)))
            go_ret
            exact ⟨tE, bBl HB.out⟩
           ·rw [if_neg c47] at H
            have c47b0 : (t335 == t337) = false := beq_eq_false_iff_ne.mpr c47
            have c47b1 : (t335 != t337) = true := bne_iff_ne.mpr c47
            obtain rfl := Option.some.inj H; have hnb57 := NB321_322.out; have hnc57 := NB322_321.out; obtain ⟨u58_0, u58_1, u58_2, u58_3, u58_4, u58_5, u58_6, o58_0, o58_1, o58_2, o58_3, o58_4, o58_5, o58_6⟩ := bc7 (w := wc) BK321.out; obtain ⟨u59_0, u59_1, u59_2, u59_3, u59_4, u59_5, o59_0, o59_1, o59_2, o59_3, o59_4, o59_5⟩ := bc6 (w := wc) BK322.out
            go_wp2_with (first | ((with_reducible refine gate_callee (f := 17) rfl ?_); refine goesL_ (some 66) rfl rfl Tryz.func17 (by kernel_rfl) rfl #[.agg #[.slice A0_0 l0_0.length c0_0, .slice A0_1 l0_1.length c0_1, .slice A0_2 l0_2.length c0_2, .slice A0_3 l0_3.length c0_3, .int .i64 a0_4, .int .i64 a0_5, .int .i64 a0_6], .slice A1_0 l1_0.length c1_0] rfl tM ?_; (with_reducible refine (batch_Cost.calls kj33 _ _ l0_0 _ _ l0_1 _ _ l0_2 _ _ l0_3 a0_4 a0_5 a0_6 _ _ l1_0 t334 t335 _ (cS (Kd.C_below HR0_0.out HB.out)) HC0_0.out (cS (Kd.C_below HR0_1.out HB.out)) HC0_1.out (cS (Kd.C_below HR0_2.out HB.out)) HC0_2.out (cS (Kd.C_below HR0_3.out HB.out)) HC0_3.out (cS (Kd.C_below HR1_0.out HB.out)) HC1_0.out A44.out).mono ?_); rintro e w60 ⟨rfl, hb⟩; refine ⟨_, rfl, ?_⟩; replace BK321 := Sd.mk (blk_below (bkA BK321.out) hb); replace BK322 := Sd.mk (blk_below (bkA BK322.out) hb); replace HB := Sd.mk (below_step (bBl HB.out) hb); (try clear hb); (try clear hb2); (try clear hk); (try clear hi); obtain ⟨u61_0, u61_1, u61_2, u61_3, u61_4, u61_5, u61_6, o61_0, o61_1, o61_2, o61_3, o61_4, o61_5, o61_6⟩ := bc7 (w := w60) BK321.out; obtain ⟨u62_0, u62_1, u62_2, u62_3, u62_4, u62_5, o62_0, o62_1, o62_2, o62_3, o62_4, o62_5⟩ := bc6 (w := w60) BK322.out) | ((with_reducible refine gate_callee (f := 18) rfl ?_); refine goesL_ (some 73) rfl rfl Tryz.func18 (by kernel_rfl) rfl #[.agg #[.slice A0_0 l0_0.length c0_0, .slice A0_1 l0_1.length c0_1, .slice A0_2 l0_2.length c0_2, .slice A0_3 l0_3.length c0_3, .int .i64 a0_4, .int .i64 a0_5, .int .i64 a0_6], .slice A1_0 l1_0.length c1_0] rfl tM ?_; (with_reducible refine (rf_Cost.calls kj33 _ _ l0_0 _ _ l0_1 _ _ l0_2 _ _ l0_3 a0_4 a0_5 a0_6 _ _ l1_0 t336 t337 _ (cS (Kd.C_below HR0_0.out HB.out)) HC0_0.out (cS (Kd.C_below HR0_1.out HB.out)) HC0_1.out (cS (Kd.C_below HR0_2.out HB.out)) HC0_2.out (cS (Kd.C_below HR0_3.out HB.out)) HC0_3.out (cS (Kd.C_below HR1_0.out HB.out)) HC1_0.out A45.out).mono ?_); rintro e w63 ⟨rfl, hb⟩; refine ⟨_, rfl, ?_⟩; replace BK321 := Sd.mk (blk_below (bkA BK321.out) hb); replace BK322 := Sd.mk (blk_below (bkA BK322.out) hb); replace HB := Sd.mk (below_step (bBl HB.out) hb); (try clear hb); (try clear hb2); (try clear hk); (try clear hi)))
            go_ret
            exact ⟨tE, bBl HB.out⟩
          ·rw [if_neg c46] at H
           have c46b0 : (t334 == t336) = false := beq_eq_false_iff_ne.mpr c46
           have c46b1 : (t334 != t336) = true := bne_iff_ne.mpr c46
           obtain rfl := Option.some.inj H; have hnb64 := NB321_322.out; have hnc64 := NB322_321.out; obtain ⟨u65_0, u65_1, u65_2, u65_3, u65_4, u65_5, u65_6, o65_0, o65_1, o65_2, o65_3, o65_4, o65_5, o65_6⟩ := bc7 (w := wc) BK321.out; obtain ⟨u66_0, u66_1, u66_2, u66_3, u66_4, u66_5, o66_0, o66_1, o66_2, o66_3, o66_4, o66_5⟩ := bc6 (w := wc) BK322.out
           go_wp2_with (first | ((with_reducible refine gate_callee (f := 17) rfl ?_); refine goesL_ (some 66) rfl rfl Tryz.func17 (by kernel_rfl) rfl #[.agg #[.slice A0_0 l0_0.length c0_0, .slice A0_1 l0_1.length c0_1, .slice A0_2 l0_2.length c0_2, .slice A0_3 l0_3.length c0_3, .int .i64 a0_4, .int .i64 a0_5, .int .i64 a0_6], .slice A1_0 l1_0.length c1_0] rfl tM ?_; (with_reducible refine (batch_Cost.calls kj33 _ _ l0_0 _ _ l0_1 _ _ l0_2 _ _ l0_3 a0_4 a0_5 a0_6 _ _ l1_0 t334 t335 _ (cS (Kd.C_below HR0_0.out HB.out)) HC0_0.out (cS (Kd.C_below HR0_1.out HB.out)) HC0_1.out (cS (Kd.C_below HR0_2.out HB.out)) HC0_2.out (cS (Kd.C_below HR0_3.out HB.out)) HC0_3.out (cS (Kd.C_below HR1_0.out HB.out)) HC1_0.out A44.out).mono ?_); rintro e w67 ⟨rfl, hb⟩; refine ⟨_, rfl, ?_⟩; replace BK321 := Sd.mk (blk_below (bkA BK321.out) hb); replace BK322 := Sd.mk (blk_below (bkA BK322.out) hb); replace HB := Sd.mk (below_step (bBl HB.out) hb); (try clear hb); (try clear hb2); (try clear hk); (try clear hi); obtain ⟨u68_0, u68_1, u68_2, u68_3, u68_4, u68_5, u68_6, o68_0, o68_1, o68_2, o68_3, o68_4, o68_5, o68_6⟩ := bc7 (w := w67) BK321.out; obtain ⟨u69_0, u69_1, u69_2, u69_3, u69_4, u69_5, o69_0, o69_1, o69_2, o69_3, o69_4, o69_5⟩ := bc6 (w := w67) BK322.out) | ((with_reducible refine gate_callee (f := 18) rfl ?_); refine goesL_ (some 73) rfl rfl Tryz.func18 (by kernel_rfl) rfl #[.agg #[.slice A0_0 l0_0.length c0_0, .slice A0_1 l0_1.length c0_1, .slice A0_2 l0_2.length c0_2, .slice A0_3 l0_3.length c0_3, .int .i64 a0_4, .int .i64 a0_5, .int .i64 a0_6], .slice A1_0 l1_0.length c1_0] rfl tM ?_; (with_reducible refine (rf_Cost.calls kj33 _ _ l0_0 _ _ l0_1 _ _ l0_2 _ _ l0_3 a0_4 a0_5 a0_6 _ _ l1_0 t336 t337 _ (cS (Kd.C_below HR0_0.out HB.out)) HC0_0.out (cS (Kd.C_below HR0_1.out HB.out)) HC0_1.out (cS (Kd.C_below HR0_2.out HB.out)) HC0_2.out (cS (Kd.C_below HR0_3.out HB.out)) HC0_3.out (cS (Kd.C_below HR1_0.out HB.out)) HC1_0.out A45.out).mono ?_); rintro e w70 ⟨rfl, hb⟩; refine ⟨_, rfl, ?_⟩; replace BK321 := Sd.mk (blk_below (bkA BK321.out) hb); replace BK322 := Sd.mk (blk_below (bkA BK322.out) hb); replace HB := Sd.mk (below_step (bBl HB.out) hb); (try clear hb); (try clear hb2); (try clear hk); (try clear hi)))
           go_ret
           exact ⟨tE, bBl HB.out⟩
end Go.Proofs.YtljfljekcpdpiaaGreat.PB

namespace Go.Proofs.YtljfljekcpdpiaaGreat.PB
open Go.RowKit Go.Proofs.YtljfljekcpdpiaaGreatW.PrintWords Go.Proofs.YtljfljekcpdpiaaGreatW.PrintLast Go.Proofs.YtljfljekcpdpiaaGreatW.PrintMore
attribute [local go_sem] max2_int min2_int max_two min_two max_three min_three max_four min_four
end Go.Proofs.YtljfljekcpdpiaaGreat.PB

namespace Go.Proofs.YtljfljekcpdpiaaGreat.PB
open Go.RowKit Go.Proofs.YtljfljekcpdpiaaGreatW.PrintWords Go.Proofs.YtljfljekcpdpiaaGreatW.PrintLast Go.Proofs.YtljfljekcpdpiaaGreatW.PrintMore
section
variable {o : List ByteArray} {mt : List S70} {s : List S27} {p : List S89} {a4 a5 a6 : Int}
theorem linesV_len : (linesV mt s p a4 a5 a6).length = 1 + 2 * (s.length + p.length) + 2 := by
  simp [linesV, headL_len]
end
section
variable (o : List ByteArray) (mt : List S70) (s : List S27) (p : List S89) (a4 a5 a6 : Int)
end
end Go.Proofs.YtljfljekcpdpiaaGreat.PB

namespace Go.Proofs.YtljfljekcpdpiaaGreat.PB
open Go.RowKit Go.Proofs.YtljfljekcpdpiaaGreatW.PrintWords Go.Proofs.YtljfljekcpdpiaaGreatW.PrintLast Go.Proofs.YtljfljekcpdpiaaGreatW.PrintMore
theorem rTotal_l0 (r fs : List Int) (b : Int) (h1 : r.length ≤ fs.length) (h2 : r.length ≤ 1000000) : ∀ (m i : Nat), i + m = r.length → Ev (fun k => rf_Total.l0 k r (vW r fs i) (i : Int) fs b) (vW r fs r.length)
  | 0, i, hi => by
    apply Ev.step
    simp only [rf_Total.l0, if_neg (show ¬ (i : Int) < (r.length : Int) by omega)]
    rw [show i = r.length by omega]
    exact Ev.const _
  | m + 1, i, hi => by
    have ih := rTotal_l0 r fs b h1 h2 m (i + 1) (by omega)
    apply Ev.step
    simp only [rf_Total.l0, if_pos (show (i : Int) < (r.length : Int) by omega), if_pos (i_pos i), if_pos (show (i : Int) < (fs.length : Int) by omega), wrap_succ (i_pos i) (show (i : Int) ≤ 1000000000 by omega)]
    exact ih
theorem rTotal {mt : List S70} {r : List Int} {x : S168} (hm : mt.length ≤ 12) (hr : RecOk mt r) (hx : LineOk mt.length x) : Ev (fun k => rf_Total.f k x.f0 x.f1 r) (tot r x.f0 mt.length) := by
  have h := rTotal_l0 r x.f0 x.f1 (by rw [hr.len, hx.len]; exact Nat.le_refl _) (by rw [hr.len]; omega) r.length 0 (by omega)
  rw [hr.len, vW_tot hm hr hx mt.length (Nat.le_refl _)] at h
  exact h
theorem rKeeps_l0 {mt : List S70} {r : List Int} (L : List S168) (hm : mt.length ≤ 12) (hr : RecOk mt r) (hL : ∀ x ∈ L, LineOk mt.length x) (hl : L.length ≤ 1000000) :
    ∀ (m i : Nat), i + m = L.length → Ev (fun k => rf_Keeps.l0 k L r 1 (i : Int)) ((L.drop i).all fun x => decide (tot r x.f0 mt.length ≤ x.f1))
  | 0, i, hi => by
    apply Ev.step
    simp only [rf_Keeps.l0, if_neg (show ¬ (i : Int) < (L.length : Int) by omega)]
    rw [List.drop_of_length_le (by omega)]
    exact Ev.const _
  | m + 1, i, hi => by
    have ih := rKeeps_l0 L hm hr hL hl m (i + 1) (by omega)
    have hlt : i < L.length := by omega
    have hg : rd_T168 L (i : Int) = L[i] := by simp [rd_T168, hlt]
    have hx := hL L[i] (List.getElem_mem hlt)
    have hw : wrap64 (1 * L[i].f1) = L[i].f1 := by rw [wrap_id (x := 1 * L[i].f1) (by have := hx.b1; omega) (by have := hx.b0; omega), Int.one_mul]
    rw [List.drop_eq_getElem_cons hlt, List.all_cons]
    apply Ev.step
    simp only [rf_Keeps.l0, if_pos (show (i : Int) < (L.length : Int) by omega), if_pos (i_pos i), hg, hw, wrap_succ (i_pos i) (show (i : Int) ≤ 1000000000 by omega)]
    refine Ev.bind (rTotal hm hr hx) ?_
    by_cases hc : tot r L[i].f0 mt.length ≤ L[i].f1
    · simp only [if_neg (show ¬ tot r L[i].f0 mt.length > L[i].f1 by omega), decide_eq_true hc, Bool.true_and]; exact ih
    · simp only [if_pos (show tot r L[i].f0 mt.length > L[i].f1 by omega), decide_eq_false hc, Bool.false_and]; exact Ev.const _
section
variable (o : List ByteArray) (mt : List S70) (s : List S27) (p : List S89) (a4 a5 a6 : Int) (r : List Int)
theorem rKeeps (H : BatchOk o mt s p a4 a5 a6) (hr : RecOk mt r) : Ev (fun k => rf_Keeps.f k (linesV mt s p a4 a5 a6) r 1) (passB mt s p a4 a5 a6 r) := by
  have h := rKeeps_l0 (linesV mt s p a4 a5 a6) H.m12 hr (lines_ok H) (by rw [linesV_len]; have := H.o12; have := H.p6; have := H.slen; omega) (linesV mt s p a4 a5 a6).length 0 (by omega)
  rw [List.drop_zero] at h
  exact h
theorem rPasses : Ev (fun k => rf_Passes.f k o mt s p a4 a5 a6 r) (PassV o mt s p a4 a5 a6 r) := by
  unfold rf_Passes.f PassV
  refine Ev.bind (rasked o mt s p a4 a5 a6 r) ?_
  by_cases h : askV o mt s p a4 a5 a6 r = 0
  · obtain ⟨H, hr⟩ := ask_ok h
    simp only [if_pos h, x_AllLines.f, if_pos (ask_check o mt s p a4 a5 a6 r h), Option.bind_some]
    exact Ev.bind (rKeeps o mt s p a4 a5 a6 r H hr) (Ev.const _)
  · simp only [if_neg h]; exact Ev.const _
def may (m : S70) (n : Int) : Bool := decide (m.f3 ≤ n) && decide (n ≤ m.f4) && (Int.tmod (wrap64 (n - m.f3)) m.f5 == 0)
def mayL (mt : List S70) (r : List Int) : Nat → Nat → Bool
  | 0, _ => true
  | m + 1, i => may (rd_T70 mt (i : Int)) (rd r (i : Int)) && mayL mt r m (i + 1)
theorem bmay_l0 (H : BatchOk o mt s p a4 a5 a6) (hr : RecOk mt r) : ∀ (m i : Nat), i + m = mt.length → Ev (fun k => batch_Allowed.l0 k r mt (mt.length : Int) (i : Int)) (mayL mt r m i, 0)
  | 0, i, hi => by
    apply Ev.step
    simp only [batch_Allowed.l0, if_neg (show ¬ (i : Int) < (mt.length : Int) by omega), mayL]
    exact Ev.const _
  | m + 1, i, hi => by
    have ih := bmay_l0 H hr m (i + 1) (by omega)
    have M := H.mats i (by omega)
    have hm := H.m12
    have hrl := hr.len
    have hs : ¬ (rd_T70 mt (i : Int)).f5 = 0 := by have := M.step; omega
    apply Ev.step
    simp only [batch_Allowed.l0, if_pos (show (i : Int) < (mt.length : Int) by omega), if_pos (i_pos i), if_pos (show (i : Int) < (r.length : Int) by omega), if_neg hs, wrap_succ (i_pos i) (show (i : Int) ≤ 1000000000 by omega), batch_within.f, mayL, may]
    by_cases h1 : rd r (i : Int) ≥ (rd_T70 mt (i : Int)).f3
    · by_cases h2 : rd r (i : Int) ≤ (rd_T70 mt (i : Int)).f4
      · simp only [if_pos h1, decide_eq_true h1, decide_eq_true h2, Option.bind_some, if_true, Bool.true_and]
        by_cases h3 : Int.tmod (wrap64 (rd r (i : Int) - (rd_T70 mt (i : Int)).f3)) (rd_T70 mt (i : Int)).f5 = 0
        · simp only [if_pos h3, beq_iff_eq.2 h3, Bool.true_and]; exact ih
        · simp only [if_neg h3, beq_eq_false_iff_ne.2 h3, Bool.false_and]; exact Ev.const _
      · simp only [if_pos h1, decide_eq_true h1, decide_eq_false h2, Option.bind_some, Bool.false_eq_true, if_false, Bool.true_and, Bool.false_and]; exact Ev.const _
    · simp only [if_neg h1, decide_eq_false h1, Option.bind_some, Bool.false_eq_true, if_false, Bool.false_and]; exact Ev.const _
theorem rmay_l0 (H : BatchOk o mt s p a4 a5 a6) (hr : RecOk mt r) : ∀ (m i : Nat), i + m = mt.length → Ev (fun k => rf_Allowed.l0 k r (i : Int) o mt s p a4 a5 a6) (mayL mt r m i, 0)
  | 0, i, hi => by
    have hrl := hr.len
    apply Ev.step
    simp only [rf_Allowed.l0, if_neg (show ¬ (i : Int) < (r.length : Int) by omega), mayL]
    exact Ev.const _
  | m + 1, i, hi => by
    have ih := rmay_l0 H hr m (i + 1) (by omega)
    have M := H.mats i (by omega)
    have hm := H.m12
    have hrl := hr.len
    have hs : ¬ (rd_T70 mt (i : Int)).f5 = 0 := by have := M.step; omega
    apply Ev.step
    simp only [rf_Allowed.l0, if_pos (show (i : Int) < (mt.length : Int) by omega), if_pos (i_pos i), if_pos (show (i : Int) < (r.length : Int) by omega), if_neg hs, wrap_succ (i_pos i) (show (i : Int) ≤ 1000000000 by omega), rf_allowed.f, mayL, may]
    by_cases h1 : rd r (i : Int) ≥ (rd_T70 mt (i : Int)).f3
    · by_cases h2 : rd r (i : Int) ≤ (rd_T70 mt (i : Int)).f4
      · simp only [if_pos h1, if_pos h2, decide_eq_true h1, decide_eq_true h2, Option.bind_some, Bool.true_and]
        by_cases h3 : Int.tmod (wrap64 (rd r (i : Int) - (rd_T70 mt (i : Int)).f3)) (rd_T70 mt (i : Int)).f5 = 0
        · simp only [beq_iff_eq.2 h3, if_true, Bool.true_and]; exact ih
        · simp only [beq_eq_false_iff_ne.2 h3, Bool.false_eq_true, if_false, Bool.false_and]; exact Ev.const _
      · simp only [if_pos h1, if_neg h2, decide_eq_true h1, decide_eq_false h2, Option.bind_some, Bool.false_eq_true, if_false, Bool.true_and, Bool.false_and]; exact Ev.const _
    · simp only [if_neg h1, decide_eq_false h1, Option.bind_some, Bool.false_eq_true, if_false, Bool.false_and]; exact Ev.const _
def MayV : Bool × Int := if askV o mt s p a4 a5 a6 r = 0 then (mayL mt r mt.length 0, 0) else (false, askV o mt s p a4 a5 a6 r)
theorem bAllowed : Ev (fun k => batch_Allowed.f k o mt s p a4 a5 a6 r) (MayV o mt s p a4 a5 a6 r) := by
  unfold batch_Allowed.f MayV
  refine Ev.bind (basked o mt s p a4 a5 a6 r) ?_
  by_cases h : askV o mt s p a4 a5 a6 r = 0
  · obtain ⟨H, hr⟩ := ask_ok h
    simp only [if_pos h]
    exact bmay_l0 o mt s p a4 a5 a6 r H hr mt.length 0 (by omega)
  · simp only [if_neg h]; exact Ev.const _
theorem rAllowed : Ev (fun k => rf_Allowed.f k o mt s p a4 a5 a6 r) (MayV o mt s p a4 a5 a6 r) := by
  unfold rf_Allowed.f MayV
  refine Ev.bind (rasked o mt s p a4 a5 a6 r) ?_
  by_cases h : askV o mt s p a4 a5 a6 r = 0
  · obtain ⟨H, hr⟩ := ask_ok h
    simp only [if_pos h]
    exact rmay_l0 o mt s p a4 a5 a6 r H hr mt.length 0 (by omega)
  · simp only [if_neg h]; exact Ev.const _
def cW (mt : List S70) (r : List Int) : Nat → Int
  | 0 => 0
  | i + 1 => wrap64 (cW mt r i + wrap64 (rd r (i : Int) * (rd_T70 mt (i : Int)).f1))
theorem bcost_l0 (hm : mt.length ≤ 12) (hrl : r.length = mt.length) : ∀ (m i : Nat), i + m = mt.length → Ev (fun k => batch_cost.l0 k r (cW mt r i) mt (mt.length : Int) (i : Int)) (cW mt r mt.length)
  | 0, i, hi => by
    apply Ev.step
    simp only [batch_cost.l0, if_neg (show ¬ (i : Int) < (mt.length : Int) by omega)]
    rw [show i = mt.length by omega]
    exact Ev.const _
  | m + 1, i, hi => by
    have ih := bcost_l0 hm hrl m (i + 1) (by omega)
    apply Ev.step
    simp only [batch_cost.l0, if_pos (show (i : Int) < (mt.length : Int) by omega), if_pos (i_pos i), if_pos (show (i : Int) < (r.length : Int) by omega), wrap_succ (i_pos i) (show (i : Int) ≤ 1000000000 by omega)]
    exact ih
theorem rcost_l0 (hm : mt.length ≤ 12) (hrl : r.length = mt.length) : ∀ (m i : Nat), i + m = mt.length → Ev (fun k => rf_cost.l0 k r (cW mt r i) (i : Int) o mt s p a4 a5 a6) (cW mt r mt.length)
  | 0, i, hi => by
    apply Ev.step
    simp only [rf_cost.l0, if_neg (show ¬ (i : Int) < (r.length : Int) by omega)]
    rw [show i = mt.length by omega]
    exact Ev.const _
  | m + 1, i, hi => by
    have ih := rcost_l0 hm hrl m (i + 1) (by omega)
    apply Ev.step
    simp only [rf_cost.l0, if_pos (show (i : Int) < (mt.length : Int) by omega), if_pos (i_pos i), if_pos (show (i : Int) < (r.length : Int) by omega), wrap_succ (i_pos i) (show (i : Int) ≤ 1000000000 by omega)]
    exact ih
def CostV : Int × Int := if askV o mt s p a4 a5 a6 r = 0 then (cW mt r mt.length, 0) else (0, askV o mt s p a4 a5 a6 r)
theorem bCost : Ev (fun k => batch_Cost.f k o mt s p a4 a5 a6 r) (CostV o mt s p a4 a5 a6 r) := by
  unfold batch_Cost.f CostV
  refine Ev.bind (basked o mt s p a4 a5 a6 r) ?_
  by_cases h : askV o mt s p a4 a5 a6 r = 0
  · obtain ⟨H, hr⟩ := ask_ok h
    simp only [if_pos h]
    exact Ev.bind (bcost_l0 mt r H.m12 hr.len mt.length 0 (by omega)) (Ev.const _)
  · simp only [if_neg h]; exact Ev.const _
theorem rCost : Ev (fun k => rf_Cost.f k o mt s p a4 a5 a6 r) (CostV o mt s p a4 a5 a6 r) := by
  unfold rf_Cost.f CostV
  refine Ev.bind (rasked o mt s p a4 a5 a6 r) ?_
  by_cases h : askV o mt s p a4 a5 a6 r = 0
  · obtain ⟨H, hr⟩ := ask_ok h
    simp only [if_pos h]
    exact Ev.bind (rcost_l0 o mt s p a4 a5 a6 r H.m12 hr.len mt.length 0 (by omega)) (Ev.const _)
  · simp only [if_neg h]; exact Ev.const _
end
section
variable (o : List ByteArray) (mt : List S70) (s : List S27) (p : List S89) (a4 a5 a6 : Int) (r q : List Int) (n b3 b4 : Int) (l5 : List Int)
theorem passes_j2 : Ev (fun k => lw_BatchPasses.j2 k false o mt s p a4 a5 a6 r q n b3 b4 l5) true := by
  apply Ev.step
  simp only [lw_BatchPasses.j2, Bool.false_eq_true, if_false]
  refine Ev.bind (bCost o mt s p a4 a5 a6 r) (Ev.bind (rCost o mt s p a4 a5 a6 r) ?_)
  simp only [if_true]
  exact Ev.bind lives_ev (Ev.const _)
theorem passes_j1 : Ev (fun k => lw_BatchPasses.j1 k false o mt s p a4 a5 a6 r q n b3 b4 l5) true := by
  apply Ev.step
  simp only [lw_BatchPasses.j1, Bool.false_eq_true, if_false]
  refine Ev.bind (bAllowed o mt s p a4 a5 a6 r) (Ev.bind (rAllowed o mt s p a4 a5 a6 r) ?_)
  simp only [bne_self_eq_false, Bool.false_eq_true, if_false]
  exact passes_j2 o mt s p a4 a5 a6 r q n b3 b4 l5
theorem passes_j0 (b : Bool) : Ev (fun k => lw_BatchPasses.j0 k b o mt s p a4 a5 a6 r q n b3 b4 l5) true := by
  apply Ev.step
  cases b with
  | true => simp only [lw_BatchPasses.j0, if_true]; exact Ev.bind lives_ev (Ev.const _)
  | false =>
    simp only [lw_BatchPasses.j0, Bool.false_eq_true, if_false]
    refine Ev.bind (bPasses o mt s p a4 a5 a6 r) (Ev.bind (rPasses o mt s p a4 a5 a6 r) ?_)
    simp only [bne_self_eq_false, Bool.false_eq_true, if_false]
    exact passes_j1 o mt s p a4 a5 a6 r q n b3 b4 l5
theorem BatchPasses_true : ∃ k, lw_BatchPasses.f k o mt s p a4 a5 a6 r q n b3 b4 l5 = some true := by
  obtain ⟨b, hb⟩ := great o mt s p a4 a5 a6
  obtain ⟨w, hw⟩ := wide_ev r q n b3 b4 l5
  have h : Ev (fun k => lw_BatchPasses.f k o mt s p a4 a5 a6 r q n b3 b4 l5) true := by
    unfold lw_BatchPasses.f
    refine Ev.bind hb ?_
    cases b with
    | true => simp only [if_true]; exact passes_j0 o mt s p a4 a5 a6 r q n b3 b4 l5 true
    | false =>
      simp only [Bool.false_eq_true, if_false, hw, Option.bind_some]
      exact passes_j0 o mt s p a4 a5 a6 r q n b3 b4 l5 w
  obtain ⟨K, hK⟩ := h
  exact ⟨K, hK K (Nat.le_refl _)⟩
end
end Go.Proofs.YtljfljekcpdpiaaGreat.PB

