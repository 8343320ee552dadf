import Derived.Test.YtljfljekcpdpiaaGreatC4
set_option linter.unusedVariables false
set_option linter.unusedSimpArgs false
set_option maxHeartbeats 8000000
set_option maxRecDepth 1000000
namespace Go.Proofs.YtljfljekcpdpiaaGreat.PB
open Go.RowKit Go.Proofs.YtljfljekcpdpiaaGreatW.PrintWords Go.Proofs.YtljfljekcpdpiaaGreatW.PrintLast Go.Proofs.YtljfljekcpdpiaaGreatW.PrintMore
section
def b_Cost.f (k : Nat) (l0_0 : List ByteArray) (l0_1 : List (S70)) (l0_2 : List (S27)) (l0_3 : List (S89)) (a0_4 : Int) (a0_5 : Int) (a0_6 : Int) (l1 : List Int) : Option (Int × Int) := (b_asked.f k l0_0 l0_1 l0_2 l0_3 a0_4 a0_5 a0_6 l1).bind fun t313 => (if t313 = 0 then ((b_cost.f k l0_0 l0_1 l0_2 l0_3 a0_4 a0_5 a0_6 l1).bind fun t314 => (some (t314, 0))) else (some (0, t313)))
theorem b_Cost.calls (k : Nat) (A0_0 : Option Addr) (c0_0 : Nat) (l0_0 : List ByteArray) (A0_1 : Option Addr) (c0_1 : Nat) (l0_1 : List (S70)) (A0_2 : Option Addr) (c0_2 : Nat) (l0_2 : List (S27)) (A0_3 : Option Addr) (c0_3 : Nat) (l0_3 : List (S89)) (a0_4 : Int) (a0_5 : Int) (a0_6 : Int) (A1 : Option Addr) (c1 : Nat) (l1 : List Int) (r1 : Int) (r2 : Int) (w : World) (hr0_0 : Kd.C Kd.string w A0_0 l0_0.length l0_0) (hc0_0 : l0_0.length ≤ c0_0) (hr0_1 : Kd.C k70 w A0_1 l0_1.length l0_1) (hc0_1 : l0_1.length ≤ c0_1) (hr0_2 : Kd.C k27 w A0_2 l0_2.length l0_2) (hc0_2 : l0_2.length ≤ c0_2) (hr0_3 : Kd.C k89 w A0_3 l0_3.length l0_3) (hc0_3 : l0_3.length ≤ c0_3) (hr1 : Kd.C (Kd.int .i64) w A1 l1.length l1) (hc1 : l1.length ≤ c1) (h : b_Cost.f k l0_0 l0_1 l0_2 l0_3 a0_4 a0_5 a0_6 l1 = some (r1, r2)) :
  Calls Tryz.prog 17 #[.agg #[.slice A0_0 l0_0.length c0_0, .slice A0_1 l0_1.length c0_1, .slice A0_2 l0_2.length c0_2, .slice A0_3 l0_3.length c0_3, .int .i64 a0_4, .int .i64 a0_5, .int .i64 a0_6], .slice A1 l1.length c1] w fun e w' => e = .returned (.tuple #[.int .i64 r1, .int .i64 r2]) ∧ Below w.heap.size w w' := by
 have hu29 := Tryz.underlying29; have HR0_0 := Sd.mk hr0_0; have HC0_0 := Sd.mk hc0_0; clear hr0_0 hc0_0; have HR0_1 := Sd.mk hr0_1; have HC0_1 := Sd.mk hc0_1; clear hr0_1 hc0_1; have HR0_2 := Sd.mk hr0_2; have HC0_2 := Sd.mk hc0_2; clear hr0_2 hc0_2; have HR0_3 := Sd.mk hr0_3; have HC0_3 := Sd.mk hc0_3; clear hr0_3 hc0_3; have HR1 := Sd.mk hr1; have HC1 := Sd.mk hc1; clear hr1 hc1; have HB := Sd.mk (Below.refl w.heap.size w)
 have H : ((b_asked.f k l0_0 l0_1 l0_2 l0_3 a0_4 a0_5 a0_6 l1).bind fun t313 => (if t313 = 0 then ((b_cost.f k l0_0 l0_1 l0_2 l0_3 a0_4 a0_5 a0_6 l1).bind fun t314 => (some (t314, 0))) else (some (0, t313)))) = some (r1, r2) := h
 clear h; replace H := Option.bind_eq_some_iff.mp H; obtain ⟨t313, A30, H⟩ := H
 try dsimp only at H
 have A3 := Sd.mk A30; clear A30
 by_cases c4 : t313 = 0
 ·rw [if_pos c4] at H
  have c4b0 : (t313 == 0) = true := beq_iff_eq.mpr c4
  have c4b1 : (t313 != 0) = false := bne_eq_false_iff_eq.mpr c4
  clear c4; replace H := Option.bind_eq_some_iff.mp H; obtain ⟨t314, A50, H⟩ := H
  try dsimp only at H
  have A5 := Sd.mk A50; clear A50
  simp only [Option.some.injEq, Prod.mk.injEq] at H
  obtain ⟨rfl, rfl⟩ := H
  go_enter Tryz.func17, Tryz.ntmps17
  go_wp2_with (first | ((with_reducible refine gate_dst (N := 2) rfl ?_); refine box_event ?hg (N := 2) ?hd (cs := #[.slice A0_0 l0_0.length c0_0, .slice A0_1 l0_1.length c0_1, .slice A0_2 l0_2.length c0_2, .slice A0_3 l0_3.length c0_3, .int .i64 a0_4, .int .i64 a0_5, .int .i64 a0_6]) (t := 29) ?hr ?_; (case hd => rfl); (case hg => rfl); (case hr => exact tG); intro gb312 hg w6 hbox hb; have BK312 := Sd.mk (hbox); have GW312 := Sd.mk (bSz hg (bBl HB.out)); have GE312 := Sd.mk (bSz hg (bBl HB.out)); replace HB := Sd.mk (below_step (bBl HB.out) hb); clear hb hbox hg; obtain ⟨u7_0, u7_1, u7_2, u7_3, u7_4, u7_5, u7_6, o7_0, o7_1, o7_2, o7_3, o7_4, o7_5, o7_6⟩ := bc7 (w := w6) BK312.out) | ((with_reducible refine gate_callee (f := 50) rfl ?_); refine goesL_ (some 9) rfl rfl Tryz.func50 (by kernel_rfl) rfl #[.agg #[.slice A0_0 l0_0.length c0_0, .slice A0_1 l0_1.length c0_1, .slice A0_2 l0_2.length c0_2, .slice A0_3 l0_3.length c0_3, .int .i64 a0_4, .int .i64 a0_5, .int .i64 a0_6], .slice A1 l1.length c1] rfl tM ?_; (with_reducible refine (b_asked.calls k _ _ l0_0 _ _ l0_1 _ _ l0_2 _ _ l0_3 a0_4 a0_5 a0_6 _ _ l1 t313 _ (cS (Kd.C_below HR0_0.out HB.out)) HC0_0.out (cS (Kd.C_below HR0_1.out HB.out)) HC0_1.out (cS (Kd.C_below HR0_2.out HB.out)) HC0_2.out (cS (Kd.C_below HR0_3.out HB.out)) HC0_3.out (cS (Kd.C_below HR1.out HB.out)) HC1.out A3.out).mono ?_); rintro e w8 ⟨rfl, hb⟩; refine ⟨_, rfl, ?_⟩; replace BK312 := Sd.mk (blk_below (bkA BK312.out) hb); replace HB := Sd.mk (below_step (bBl HB.out) hb); (try clear hb); (try clear hb2); (try clear hk); (try clear hi); obtain ⟨u9_0, u9_1, u9_2, u9_3, u9_4, u9_5, u9_6, o9_0, o9_1, o9_2, o9_3, o9_4, o9_5, o9_6⟩ := bc7 (w := w8) BK312.out) | ((with_reducible refine gate_callee (f := 58) rfl ?_); refine goesL_ (some 15) rfl rfl Tryz.func58 (by kernel_rfl) rfl #[.agg #[.slice A0_0 l0_0.length c0_0, .slice A0_1 l0_1.length c0_1, .slice A0_2 l0_2.length c0_2, .slice A0_3 l0_3.length c0_3, .int .i64 a0_4, .int .i64 a0_5, .int .i64 a0_6], .slice A1 l1.length c1] rfl tM ?_; (with_reducible refine (b_cost.calls k _ _ l0_0 _ _ l0_1 _ _ l0_2 _ _ l0_3 a0_4 a0_5 a0_6 _ _ l1 t314 _ (cS (Kd.C_below HR0_0.out HB.out)) HC0_0.out (cS (Kd.C_below HR0_1.out HB.out)) HC0_1.out (cS (Kd.C_below HR0_2.out HB.out)) HC0_2.out (cS (Kd.C_below HR0_3.out HB.out)) HC0_3.out (cS (Kd.C_below HR1.out HB.out)) HC1.out A5.out).mono ?_); rintro e w10 ⟨rfl, hb⟩; refine ⟨_, rfl, ?_⟩; replace BK312 := Sd.mk (blk_below (bkA BK312.out) hb); replace HB := Sd.mk (below_step (bBl HB.out) hb); (try clear hb); (try clear hb2); (try clear hk); (try clear hi)))
  go_ret2
  exact ⟨tE, bBl HB.out⟩
 ·rw [if_neg c4] at H
  have c4b0 : (t313 == 0) = false := beq_eq_false_iff_ne.mpr c4
  have c4b1 : (t313 != 0) = true := bne_iff_ne.mpr c4
  simp only [Option.some.injEq, Prod.mk.injEq] at H
  obtain ⟨rfl, rfl⟩ := H
  go_enter Tryz.func17, Tryz.ntmps17
  go_wp2_with (first | ((with_reducible refine gate_dst (N := 2) rfl ?_); refine box_event ?hg (N := 2) ?hd (cs := #[.slice A0_0 l0_0.length c0_0, .slice A0_1 l0_1.length c0_1, .slice A0_2 l0_2.length c0_2, .slice A0_3 l0_3.length c0_3, .int .i64 a0_4, .int .i64 a0_5, .int .i64 a0_6]) (t := 29) ?hr ?_; (case hd => rfl); (case hg => rfl); (case hr => exact tG); intro gb312 hg w11 hbox hb; have BK312 := Sd.mk (hbox); have GW312 := Sd.mk (bSz hg (bBl HB.out)); have GE312 := Sd.mk (bSz hg (bBl HB.out)); replace HB := Sd.mk (below_step (bBl HB.out) hb); clear hb hbox hg; obtain ⟨u12_0, u12_1, u12_2, u12_3, u12_4, u12_5, u12_6, o12_0, o12_1, o12_2, o12_3, o12_4, o12_5, o12_6⟩ := bc7 (w := w11) BK312.out) | ((with_reducible refine gate_callee (f := 50) rfl ?_); refine goesL_ (some 9) rfl rfl Tryz.func50 (by kernel_rfl) rfl #[.agg #[.slice A0_0 l0_0.length c0_0, .slice A0_1 l0_1.length c0_1, .slice A0_2 l0_2.length c0_2, .slice A0_3 l0_3.length c0_3, .int .i64 a0_4, .int .i64 a0_5, .int .i64 a0_6], .slice A1 l1.length c1] rfl tM ?_; (with_reducible refine (b_asked.calls k _ _ l0_0 _ _ l0_1 _ _ l0_2 _ _ l0_3 a0_4 a0_5 a0_6 _ _ l1 t313 _ (cS (Kd.C_below HR0_0.out HB.out)) HC0_0.out (cS (Kd.C_below HR0_1.out HB.out)) HC0_1.out (cS (Kd.C_below HR0_2.out HB.out)) HC0_2.out (cS (Kd.C_below HR0_3.out HB.out)) HC0_3.out (cS (Kd.C_below HR1.out HB.out)) HC1.out A3.out).mono ?_); rintro e w13 ⟨rfl, hb⟩; refine ⟨_, rfl, ?_⟩; replace BK312 := Sd.mk (blk_below (bkA BK312.out) hb); replace HB := Sd.mk (below_step (bBl HB.out) hb); (try clear hb); (try clear hb2); (try clear hk); (try clear hi)))
  go_ret2
  exact ⟨tE, bBl HB.out⟩
end
section
end
section
end
section
end
section
end
section
section
variable (o : List ByteArray) (mt : List S70) (s : List S27) (p : List S89) (a4 a5 a6 : Int) (r : List Int)
def may (m : S70) (n : Int) : Bool := decide (m.f3 ≤ n) && decide (n ≤ m.f4) && (Int.tmod (wrap64 (n - m.f3)) m.f5 == 0)
def mayL (mt : List S70) (r : List Int) : Nat → Nat → Bool
  | 0, _ => true
  | m + 1, i => may (rd_T70 mt (i : Int)) (rd r (i : Int)) && mayL mt r m (i + 1)
theorem bmay_l0 (H : BatchOk o mt s p a4 a5 a6) (hr : RecOk mt r) : ∀ (m i : Nat), i + m = mt.length → Ev (fun k => b_Allowed.l0 k r mt (mt.length : Int) (i : Int)) (mayL mt r m i, 0)
  | 0, i, hi => by
    apply Ev.step
    simp only [b_Allowed.l0, if_neg (show ¬ (i : Int) < (mt.length : Int) by omega), mayL]
    exact Ev.const _
  | m + 1, i, hi => by
    have ih := bmay_l0 H hr m (i + 1) (by omega)
    have M := H.mats i (by omega)
    have hm := H.m12
    have hrl := hr.len
    have hs : ¬ (rd_T70 mt (i : Int)).f5 = 0 := by have := M.step; omega
    apply Ev.step
    simp only [b_Allowed.l0, if_pos (show (i : Int) < (mt.length : Int) by omega), if_pos (i_pos i), if_pos (show (i : Int) < (r.length : Int) by omega), if_neg hs, wrap_succ (i_pos i) (show (i : Int) ≤ 1000000000 by omega), b_within.f, mayL, may]
    by_cases h1 : rd r (i : Int) ≥ (rd_T70 mt (i : Int)).f3
    · by_cases h2 : rd r (i : Int) ≤ (rd_T70 mt (i : Int)).f4
      · simp only [if_pos h1, decide_eq_true h1, decide_eq_true h2, Option.bind_some, if_true, Bool.true_and]
        by_cases h3 : Int.tmod (wrap64 (rd r (i : Int) - (rd_T70 mt (i : Int)).f3)) (rd_T70 mt (i : Int)).f5 = 0
        · simp only [if_pos h3, beq_iff_eq.2 h3, Bool.true_and]; exact ih
        · simp only [if_neg h3, beq_eq_false_iff_ne.2 h3, Bool.false_and]; exact Ev.const _
      · simp only [if_pos h1, decide_eq_true h1, decide_eq_false h2, Option.bind_some, Bool.false_eq_true, if_false, Bool.true_and, Bool.false_and]; exact Ev.const _
    · simp only [if_neg h1, decide_eq_false h1, Option.bind_some, Bool.false_eq_true, if_false, Bool.false_and]; exact Ev.const _
def MayV : Bool × Int := if askV o mt s p a4 a5 a6 r = 0 then (mayL mt r mt.length 0, 0) else (false, askV o mt s p a4 a5 a6 r)
theorem bAllowed : Ev (fun k => b_Allowed.f k o mt s p a4 a5 a6 r) (MayV o mt s p a4 a5 a6 r) := by
  unfold b_Allowed.f MayV
  refine Ev.bind (basked o mt s p a4 a5 a6 r) ?_
  by_cases h : askV o mt s p a4 a5 a6 r = 0
  · obtain ⟨H, hr⟩ := ask_ok h
    simp only [if_pos h]
    exact bmay_l0 o mt s p a4 a5 a6 r H hr mt.length 0 (by omega)
  · simp only [if_neg h]; exact Ev.const _
def cW (mt : List S70) (r : List Int) : Nat → Int
  | 0 => 0
  | i + 1 => wrap64 (cW mt r i + wrap64 (rd r (i : Int) * (rd_T70 mt (i : Int)).f1))
theorem bcost_l0 (hm : mt.length ≤ 12) (hrl : r.length = mt.length) : ∀ (m i : Nat), i + m = mt.length → Ev (fun k => b_cost.l0 k r (cW mt r i) mt (mt.length : Int) (i : Int)) (cW mt r mt.length)
  | 0, i, hi => by
    apply Ev.step
    simp only [b_cost.l0, if_neg (show ¬ (i : Int) < (mt.length : Int) by omega)]
    rw [show i = mt.length by omega]
    exact Ev.const _
  | m + 1, i, hi => by
    have ih := bcost_l0 hm hrl m (i + 1) (by omega)
    apply Ev.step
    simp only [b_cost.l0, if_pos (show (i : Int) < (mt.length : Int) by omega), if_pos (i_pos i), if_pos (show (i : Int) < (r.length : Int) by omega), wrap_succ (i_pos i) (show (i : Int) ≤ 1000000000 by omega)]
    exact ih
def CostV : Int × Int := if askV o mt s p a4 a5 a6 r = 0 then (cW mt r mt.length, 0) else (0, askV o mt s p a4 a5 a6 r)
theorem bCost : Ev (fun k => b_Cost.f k o mt s p a4 a5 a6 r) (CostV o mt s p a4 a5 a6 r) := by
  unfold b_Cost.f CostV
  refine Ev.bind (basked o mt s p a4 a5 a6 r) ?_
  by_cases h : askV o mt s p a4 a5 a6 r = 0
  · obtain ⟨H, hr⟩ := ask_ok h
    simp only [if_pos h]
    exact Ev.bind (bcost_l0 mt r H.m12 hr.len mt.length 0 (by omega)) (Ev.const _)
  · simp only [if_neg h]; exact Ev.const _
end
section
variable (o : List ByteArray) (mt : List S70) (s : List S27) (p : List S89) (a4 a5 a6 : Int) (r q : List Int) (n b3 b4 : Int) (l5 : List Int)
end
end
section
def b_few.l0 : Nat → Int → List (S70) → Int → Int → Option (Bool)
 | 0, _, _, _, _ => none
 | k + 1, x3, x7, x8, x9 => if x9 < x8 then (if 0 ≤ x9 then (if x9 < (x7.length : Int) then (if ((rd_T70 x7 x9).f5) = 0 then (none) else (if (wrap64 (x3 * (wrap64 ((wrap64 (Int.tdiv (wrap64 (((rd_T70 x7 x9).f4) - ((rd_T70 x7 x9).f3))) ((rd_T70 x7 x9).f5))) + 1)))) > 100000 then (some false) else (b_few.l0 k (wrap64 (x3 * (wrap64 ((wrap64 (Int.tdiv (wrap64 (((rd_T70 x7 x9).f4) - ((rd_T70 x7 x9).f3))) ((rd_T70 x7 x9).f5))) + 1)))) x7 x8 (wrap64 (x9 + 1))))) else (none)) else (none)) else (some true)
def b_few.f (k : Nat) (l0_0 : List ByteArray) (l0_1 : List (S70)) (l0_2 : List (S27)) (l0_3 : List (S89)) (a0_4 : Int) (a0_5 : Int) (a0_6 : Int) : Option (Bool) := b_few.l0 k 1 l0_1 (l0_1.length : Int) 0
theorem b_few.calls (k : Nat) (A0_0 : Option Addr) (c0_0 : Nat) (l0_0 : List ByteArray) (A0_1 : Option Addr) (c0_1 : Nat) (l0_1 : List (S70)) (A0_2 : Option Addr) (c0_2 : Nat) (l0_2 : List (S27)) (A0_3 : Option Addr) (c0_3 : Nat) (l0_3 : List (S89)) (a0_4 : Int) (a0_5 : Int) (a0_6 : Int) (r : Bool) (w : World) (hr0_0 : Kd.C Kd.string w A0_0 l0_0.length l0_0) (hc0_0 : l0_0.length ≤ c0_0) (hr0_1 : Kd.C k70 w A0_1 l0_1.length l0_1) (hc0_1 : l0_1.length ≤ c0_1) (hr0_2 : Kd.C k27 w A0_2 l0_2.length l0_2) (hc0_2 : l0_2.length ≤ c0_2) (hr0_3 : Kd.C k89 w A0_3 l0_3.length l0_3) (hc0_3 : l0_3.length ≤ c0_3) (h : b_few.f k l0_0 l0_1 l0_2 l0_3 a0_4 a0_5 a0_6 = some r) :
  Calls Tryz.prog 88 #[.agg #[.slice A0_0 l0_0.length c0_0, .slice A0_1 l0_1.length c0_1, .slice A0_2 l0_2.length c0_2, .slice A0_3 l0_3.length c0_3, .int .i64 a0_4, .int .i64 a0_5, .int .i64 a0_6]] w fun e w' => e = .returned (.bool r) ∧ Below w.heap.size w w' := by
 have hu29 := Tryz.underlying29; have hu70 := Tryz.underlying70; have HR0_0 := Sd.mk hr0_0; have HC0_0 := Sd.mk hc0_0; clear hr0_0 hc0_0; have HR0_1 := Sd.mk hr0_1; have HC0_1 := Sd.mk hc0_1; clear hr0_1 hc0_1; have HR0_2 := Sd.mk hr0_2; have HC0_2 := Sd.mk hc0_2; clear hr0_2 hc0_2; have HR0_3 := Sd.mk hr0_3; have HC0_3 := Sd.mk hc0_3; clear hr0_3 hc0_3; have HB := Sd.mk (Below.refl w.heap.size w)
 have H : (b_few.l0 k 1 l0_1 (l0_1.length : Int) 0) = some r := h
 clear h; have H' := Sd.mk H; clear H
 go_enter Tryz.func88, Tryz.ntmps88
 go_wp2_with (first | ((with_reducible refine gate_dst (N := 1) rfl ?_); refine box_event ?hg (N := 1) ?hd (cs := #[.slice A0_0 l0_0.length c0_0, .slice A0_1 l0_1.length c0_1, .slice A0_2 l0_2.length c0_2, .slice A0_3 l0_3.length c0_3, .int .i64 a0_4, .int .i64 a0_5, .int .i64 a0_6]) (t := 29) ?hr ?_; (case hd => rfl); (case hg => rfl); (case hr => exact tG); intro gb484 hg w2 hbox hb; have BK484 := Sd.mk (hbox); have GW484 := Sd.mk (bSz hg (bBl HB.out)); have GE484 := Sd.mk (bSz hg (bBl HB.out)); replace HB := Sd.mk (below_step (bBl HB.out) hb); clear hb hbox hg; obtain ⟨u3_0, u3_1, u3_2, u3_3, u3_4, u3_5, u3_6, o3_0, o3_1, o3_2, o3_3, o3_4, o3_5, o3_6⟩ := bc7 (w := w2) BK484.out))
 go_loopg [3, 9] k (fun kq v3 v9 w' => ∃ (x3_1 : Int) (x9_1 : Int), v3 = .int .i64 x3_1 ∧ v9 = .int .i64 x9_1 ∧ Sd (b_few.l0 kq x3_1 l0_1 (l0_1.length : Int) x9_1 = some r) ∧ Sd (kq ≤ k) ∧ Sd (w'.heap[gb484]? = some (.cells #[(.slice A0_0 l0_0.length c0_0), (.slice A0_1 l0_1.length c0_1), (.slice A0_2 l0_2.length c0_2), (.slice A0_3 l0_3.length c0_3), .int .i64 a0_4, .int .i64 a0_5, .int .i64 a0_6] 29 (0, 0))) ∧ Sd (Below w.heap.size w w'))
 case atStart => exact ⟨(1), (0), tS, tS, H', ⟨Nat.le_refl _⟩, ⟨bkA BK484.out⟩, ⟨bBl HB.out⟩⟩
 case round =>
  clear H'; (try clear p2); (try clear u3_0 u3_1 u3_2 u3_3 u3_4 u3_5 u3_6); (try clear o3_0 o3_1 o3_2 o3_3 o3_4 o3_5 o3_6); obtain ⟨x3_1, x9_1, rfl, rfl, HA, HK1, BK484, HB⟩ := hrel
  cases gk with
  | zero => exact absurd HA.out (by simp [b_few.l0])
  | succ k1 =>
   have H := HA.out; clear HA
   simp only [b_few.l0] at H
   by_cases c4 : x9_1 < (l0_1.length : Int)
   ·rw [if_pos c4] at H
    have c4b0 : decide (x9_1 < (l0_1.length : Int)) = true := decide_eq_true c4
    clear c4
    by_cases c5 : 0 ≤ x9_1
    ·rw [if_pos c5] at H
     have c5b0 : decide (0 ≤ x9_1) = true := decide_eq_true c5
     clear c5
     by_cases c6 : x9_1 < (l0_1.length : Int)
     ·rw [if_pos c6] at H
      have c6b0 : decide (x9_1 < (l0_1.length : Int)) = true := decide_eq_true c6
      clear c6
      by_cases c7 : ((rd_T70 l0_1 x9_1).f5) = 0
      ·rw [if_pos c7] at H
       exact absurd H (by simp)
      ·rw [if_neg c7] at H
       have c7b0 : (((rd_T70 l0_1 x9_1).f5) == 0) = false := beq_eq_false_iff_ne.mpr c7
       have c7b1 : (((rd_T70 l0_1 x9_1).f5) != 0) = true := bne_iff_ne.mpr c7
       by_cases c8 : (wrap64 (x3_1 * (wrap64 ((wrap64 (Int.tdiv (wrap64 (((rd_T70 l0_1 x9_1).f4) - ((rd_T70 l0_1 x9_1).f3))) ((rd_T70 l0_1 x9_1).f5))) + 1)))) > 100000
       ·rw [if_pos c8] at H
        have c8b0 : decide (100000 < (wrap64 (x3_1 * (wrap64 ((wrap64 (Int.tdiv (wrap64 (((rd_T70 l0_1 x9_1).f4) - ((rd_T70 l0_1 x9_1).f3))) ((rd_T70 l0_1 x9_1).f5))) + 1))))) = true := decide_eq_true c8
        clear c8; obtain rfl := Option.some.inj H
        have p485 : 0 ≤ (x9_1 : Int) := tB
        have q485 : x9_1 < (l0_1.length : Int) := tB
        obtain ⟨ad485, A485_6, c485_6, e485, hx485_0, hx485_1, hx485_2, hx485_3, hx485_4, hx485_5, hx485_6, hl485_6, hi485_6⟩ := at_T70 HR0_1.out x9_1 p485 q485; cases e485; replace hx485_0 := cU HB hx485_0; replace hx485_1 := cU HB hx485_1; replace hx485_2 := cU HB hx485_2; replace hx485_3 := cU HB hx485_3; replace hx485_4 := cU HB hx485_4; replace hx485_5 := cU HB hx485_5; replace hx485_6 := cU HB hx485_6; have HR485_6 := Sd.mk hi485_6; have HC485_6 := Sd.mk hl485_6; clear hi485_6 hl485_6; replace p485 := eq_true p485; replace q485 := eq_true q485
        go_wp2_with (first | ((with_reducible refine gate_dst (N := 5) rfl ?_); refine box_event ?hg (N := 5) ?hd (cs := #[.string (⟨#[]⟩ : ByteArray), .int .i64 0, .int .i64 0, .int .i64 0, .int .i64 0, .int .i64 0, .slice none 0 0]) (t := 70) ?hr ?_; (case hd => rfl); (case hg => rfl); (case hr => exact tG); intro gb486 hg w9 hbox hb; have BK486 := Sd.mk (hbox); have GW486 := Sd.mk (bSz hg (bBl HB.out)); have GE486 := Sd.mk (bSz hg (bBl HB.out)); replace HB := Sd.mk (below_step (bBl HB.out) hb); have NB484_486 := Sd.mk (bNl hg (bkA BK484.out)); have NB486_484 := Sd.mk (bNg hg (bkA BK484.out)); replace BK484 := Sd.mk (blk_below (bkA BK484.out) hb); clear hb hbox hg; have hnb10 := NB486_484.out; have hnc10 := NB484_486.out; obtain ⟨u11_0, u11_1, u11_2, u11_3, u11_4, u11_5, u11_6, o11_0, o11_1, o11_2, o11_3, o11_4, o11_5, o11_6⟩ := bc7 (w := w9) BK486.out))
        go_ret
        exact ⟨tE, bBl HB.out⟩
       ·rw [if_neg c8] at H
        have c8b0 : decide (100000 < (wrap64 (x3_1 * (wrap64 ((wrap64 (Int.tdiv (wrap64 (((rd_T70 l0_1 x9_1).f4) - ((rd_T70 l0_1 x9_1).f3))) ((rd_T70 l0_1 x9_1).f5))) + 1))))) = false := decide_eq_false c8
        clear c8; have H' := Sd.mk H; clear H
        have p485 : 0 ≤ (x9_1 : Int) := tB
        have q485 : x9_1 < (l0_1.length : Int) := tB
        obtain ⟨ad485, A485_6, c485_6, e485, hx485_0, hx485_1, hx485_2, hx485_3, hx485_4, hx485_5, hx485_6, hl485_6, hi485_6⟩ := at_T70 HR0_1.out x9_1 p485 q485; cases e485; replace hx485_0 := cU HB hx485_0; replace hx485_1 := cU HB hx485_1; replace hx485_2 := cU HB hx485_2; replace hx485_3 := cU HB hx485_3; replace hx485_4 := cU HB hx485_4; replace hx485_5 := cU HB hx485_5; replace hx485_6 := cU HB hx485_6; have HR485_6 := Sd.mk hi485_6; have HC485_6 := Sd.mk hl485_6; clear hi485_6 hl485_6; replace p485 := eq_true p485; replace q485 := eq_true q485
        go_wp2_with (first | ((with_reducible refine gate_dst (N := 5) rfl ?_); refine box_event ?hg (N := 5) ?hd (cs := #[.string (⟨#[]⟩ : ByteArray), .int .i64 0, .int .i64 0, .int .i64 0, .int .i64 0, .int .i64 0, .slice none 0 0]) (t := 70) ?hr ?_; (case hd => rfl); (case hg => rfl); (case hr => exact tG); intro gb486 hg w12 hbox hb; have BK486 := Sd.mk (hbox); have GW486 := Sd.mk (bSz hg (bBl HB.out)); have GE486 := Sd.mk (bSz hg (bBl HB.out)); replace HB := Sd.mk (below_step (bBl HB.out) hb); have NB484_486 := Sd.mk (bNl hg (bkA BK484.out)); have NB486_484 := Sd.mk (bNg hg (bkA BK484.out)); replace BK484 := Sd.mk (blk_below (bkA BK484.out) hb); clear hb hbox hg; have hnb13 := NB486_484.out; have hnc13 := NB484_486.out; obtain ⟨u14_0, u14_1, u14_2, u14_3, u14_4, u14_5, u14_6, o14_0, o14_1, o14_2, o14_3, o14_4, o14_5, o14_6⟩ := bc7 (w := w12) BK486.out))
        go_roundg k1
        case measure => have := HK1.out; omega
        case rel => exact ⟨(wrap64 (x3_1 * (wrap64 ((wrap64 (Int.tdiv (wrap64 (((rd_T70 l0_1 x9_1).f4) - ((rd_T70 l0_1 x9_1).f3))) ((rd_T70 l0_1 x9_1).f5))) + 1)))), (wrap64 (x9_1 + 1)), tS, tS, H', ⟨by have := HK1.out; omega⟩, ⟨by refine bkZ ?_; refine blk_far ?_ NB484_486.out _; refine bkZ ?_; refine blk_far ?_ NB484_486.out _; refine bkZ ?_; refine blk_far ?_ NB484_486.out _; refine bkZ ?_; refine blk_far ?_ NB484_486.out _; refine bkZ ?_; refine blk_far ?_ NB484_486.out _; refine bkZ ?_; refine blk_far ?_ NB484_486.out _; refine bkZ ?_; refine blk_far ?_ NB484_486.out _; refine bkZ ?_; exact BK484.out⟩, ⟨bBl HB.out⟩⟩
     ·rw [if_neg c6] at H
      exact absurd H (by simp)
    ·rw [if_neg c5] at H
     exact absurd H (by simp)
   ·rw [if_neg c4] at H
    have c4b0 : decide (x9_1 < (l0_1.length : Int)) = false := decide_eq_false c4
    clear c4; obtain rfl := Option.some.inj H
    go_wp2
    go_ret
    exact ⟨tE, bBl HB.out⟩
end
section
theorem MatOk.b {n : Nat} {x : S70} (h : MatOk n x) : MatB x := ⟨h.least.1, h.most.1, h.most.2, h.step.1, h.step.2⟩
theorem mats_b {o : List ByteArray} {mt : List S70} {s : List S27} {p : List S89} {a4 a5 a6 : Int} (H : BatchOk o mt s p a4 a5 a6) : ∀ m ∈ mt, MatB m := by
  intro m hm
  obtain ⟨i, hi, rfl⟩ := List.getElem_of_mem hm
  have := (H.mats i hi).b
  simpa [rd_T70, hi] using this
theorem kilosF_mem (s : Int) (hs : 0 ≤ s) : ∀ (c : Nat) (k x : Int), x ∈ kilosF s c k → ∃ j : Nat, j < c ∧ x = k + (j : Int) * s
  | 0, _, _, h => by simp [kilosF] at h
  | c + 1, k, x, h => by
    rw [kilosF, List.mem_cons] at h
    rcases h with rfl | h
    · exact ⟨0, by omega, by simp⟩
    · obtain ⟨j, hj, rfl⟩ := kilosF_mem s hs c (k + s) x h
      exact ⟨j + 1, by omega, by push_cast; rw [Int.add_mul, Int.one_mul]; omega⟩
theorem kilosF_bd {m : S70} (M : MatB m) {x : Int} (h : x ∈ kilosF m.f5 (cntM m) m.f3) : m.f3 ≤ x ∧ x ≤ m.f4 ∧ Int.tmod (x - m.f3) m.f5 = 0 := by
  obtain ⟨j, hj, rfl⟩ := kilosF_mem m.f5 (by have := M.s1; omega) _ _ _ h
  have h1 := (cntM_last M).1
  have h2 : (j : Int) * m.f5 ≤ ((cntM m : Int) - 1) * m.f5 := Int.mul_le_mul_of_nonneg_right (by omega) (by have := M.s1; omega)
  have h3 : 0 ≤ (j : Int) * m.f5 := Int.mul_nonneg (by omega) (by have := M.s1; omega)
  refine ⟨by omega, by omega, ?_⟩
  rw [show m.f3 + (j : Int) * m.f5 - m.f3 = (j : Int) * m.f5 by omega]
  exact Int.mul_tmod_left _ _
theorem allR_rec : ∀ (mt : List S70), (∀ m ∈ mt, MatB m) → ∀ r ∈ allR mt, RecOk mt r
  | [], _, r, h => ⟨allR_len _ _ h, fun j hj => by simp at hj⟩
  | m :: ms, H, r, h => by
    have h' := h
    simp only [allR, List.mem_flatMap, List.mem_map] at h
    obtain ⟨k, hk, q, hq, rfl⟩ := h
    have ih := allR_rec ms (fun x hx => H x (List.mem_cons_of_mem _ hx)) q hq
    have M := H m List.mem_cons_self
    have hb := kilosF_bd M hk
    refine ⟨allR_len _ _ h', fun j hj => ?_⟩
    cases j with
    | zero => exact ⟨by have := M.lo; simp [rd]; omega, by have := M.hi; simp [rd]; omega⟩
    | succ j =>
      have := ih.kilos j (by simpa using hj)
      simpa [rd] using this
theorem rsAt_rec {mt : List S70} (H : ∀ m ∈ mt, MatB m) (k : Nat) (hk : k < (allR mt).length) : RecOk mt (rsAt mt k) := by
  unfold rsAt
  rw [getD_lt _ _ _ hk]
  exact allR_rec mt H _ (List.getElem_mem hk)
def bestV (mt : List S70) (s : List S27) (p : List S89) (a4 a5 a6 : Int) : List Int × Int × Bool :=
  (allR mt).foldl (chStep (passB mt s p a4 a5 a6) (fun r => cW mt r mt.length)) ([], 0, false)
theorem chF_best (mt : List S70) (s : List S27) (p : List S89) (a4 a5 a6 : Int) : chF (passB mt s p a4 a5 a6) (fun r => cW mt r mt.length) (rsAt mt) (allR mt).length = bestV mt s p a4 a5 a6 := by
  unfold chF bestV
  rw [rs_map]
def b_Best.f (k : Nat) (o : List ByteArray) (mt : List S70) (s : List S27) (p : List S89) (a4 a5 a6 : Int) : Option (List Int × Int × Bool × Int) :=
  (b_Check.f k o mt s p a4 a5 a6).bind fun e => if e = 0 then (b_few.f k o mt s p a4 a5 a6).bind fun b => if b = true then (if checkV o mt s p a4 a5 a6 = 0 then some ((bestV mt s p a4 a5 a6).1, (bestV mt s p a4 a5 a6).2.1, (bestV mt s p a4 a5 a6).2.2, 0) else none) else some ([], 0, false, 9) else some ([], 0, false, e)
theorem best1_calls (Bl : Nat) (Al : Option Addr) (cl : Nat) (ls : List S168) (A : Addr) (r : List Int) (b : Bool) (W : World) (hl : W.heap[Bl]? = some (.cells #[.slice Al ls.length cl] 100 (0, 0))) (hr : Kd.C k168 W Al ls.length ls) (hc : ls.length ≤ cl)
    (hri : Kd.C (Kd.int .i64) W (some A) r.length r) (h : x_keeps.f ls r 1 = some b) :
    Calls Tryz.prog 90 #[.slice (some A) r.length r.length, .pointer (some ⟨Bl, 0, none⟩)] W fun e W' => e = .returned (.bool b) ∧ Below W.heap.size W W' := by
  have hx : W.cell? ⟨Bl, 0, none⟩ = some (.slice Al ls.length cl) := (blk_cell hl 0).trans rfl
  have HC := x_keeps.calls Al cl ls (some A) r.length r 1 b W hr hc hri (Nat.le_refl _) h
  go_enter Tryz.func90, Tryz.ntmps90
  go_wp2_with (go_at_call 51; (with_reducible refine HC.mono ?_); rintro e w' ⟨rfl, hb⟩)
  go_ret
  exact ⟨rfl, hb⟩
theorem b_Best.calls (k : Nat) (A0_0 : Option Addr) (c0_0 : Nat) (l0_0 : List ByteArray) (A0_1 : Option Addr) (c0_1 : Nat) (l0_1 : List (S70)) (A0_2 : Option Addr) (c0_2 : Nat) (l0_2 : List (S27)) (A0_3 : Option Addr) (c0_3 : Nat) (l0_3 : List (S89)) (a0_4 : Int) (a0_5 : Int) (a0_6 : Int) (r1 : List Int) (r2 : Int) (r3 : Bool) (r4 : Int) (w : World) (hr0_0 : Kd.C Kd.string w A0_0 l0_0.length l0_0) (hc0_0 : l0_0.length ≤ c0_0) (hr0_1 : Kd.C k70 w A0_1 l0_1.length l0_1) (hc0_1 : l0_1.length ≤ c0_1) (hr0_2 : Kd.C k27 w A0_2 l0_2.length l0_2) (hc0_2 : l0_2.length ≤ c0_2) (hr0_3 : Kd.C k89 w A0_3 l0_3.length l0_3) (hc0_3 : l0_3.length ≤ c0_3) (h : b_Best.f k l0_0 l0_1 l0_2 l0_3 a0_4 a0_5 a0_6 = some (r1, r2, r3, r4)) :
    Calls Tryz.prog 28 #[.agg #[.slice A0_0 l0_0.length c0_0, .slice A0_1 l0_1.length c0_1, .slice A0_2 l0_2.length c0_2, .slice A0_3 l0_3.length c0_3, .int .i64 a0_4, .int .i64 a0_5, .int .i64 a0_6]] w fun e w' => ∃ v0_ : Value, e = .returned (.tuple #[v0_, .int .i64 r2, .bool r3, .int .i64 r4]) ∧ Kd.R (Kd.int .i64) 3 w' w.heap.size (fun _ => True) v0_ r1 ∧ Below w.heap.size w w' := by
  unfold b_Best.f at h
  obtain ⟨e0, he0, H⟩ := Option.bind_eq_some_iff.mp h
  clear h
  have BX := Sd.mk (blk_new w (.cells #[.slice A0_0 l0_0.length c0_0, .slice A0_1 l0_1.length c0_1, .slice A0_2 l0_2.length c0_2, .slice A0_3 l0_3.length c0_3, .int .i64 a0_4, .int .i64 a0_5, .int .i64 a0_6] 29))
  have HB := Sd.mk (below_alloc (Below.refl w.heap.size w) (.cells #[.slice A0_0 l0_0.length c0_0, .slice A0_1 l0_1.length c0_1, .slice A0_2 l0_2.length c0_2, .slice A0_3 l0_3.length c0_3, .int .i64 a0_4, .int .i64 a0_5, .int .i64 a0_6] 29))
  have HR := Sd.mk (And.intro hr0_0 (And.intro hr0_1 (And.intro hr0_2 hr0_3)))
  clear hr0_0 hr0_1 hr0_2 hr0_3
  have HE := Sd.mk he0
  have HH := Sd.mk H
  clear he0 H
  go_enter Tryz.func28, Tryz.ntmps28
  go_upto_region 1 with (fail)
  generalize w.alloc (.cells #[.slice A0_0 l0_0.length c0_0, .slice A0_1 l0_1.length c0_1, .slice A0_2 l0_2.length c0_2, .slice A0_3 l0_3.length c0_3, .int .i64 a0_4, .int .i64 a0_5, .int .i64 a0_6] 29) = W0 at BX HB ⊢
  have g0 : W0.cell? ⟨w.heap.size, 0, none⟩ = some (.slice A0_0 l0_0.length c0_0) := (blk_cell BX.out 0).trans rfl; have g1 : W0.cell? ⟨w.heap.size, 0 + 1, none⟩ = some (.slice A0_1 l0_1.length c0_1) := (blk_cell BX.out 1).trans rfl; have g2 : W0.cell? ⟨w.heap.size, 0 + 2, none⟩ = some (.slice A0_2 l0_2.length c0_2) := (blk_cell BX.out 2).trans rfl; have g3 : W0.cell? ⟨w.heap.size, 0 + 3, none⟩ = some (.slice A0_3 l0_3.length c0_3) := (blk_cell BX.out 3).trans rfl; have g4 : W0.cell? ⟨w.heap.size, 0 + 4, none⟩ = some (.int .i64 a0_4) := (blk_cell BX.out 4).trans rfl; have g5 : W0.cell? ⟨w.heap.size, 0 + 5, none⟩ = some (.int .i64 a0_5) := (blk_cell BX.out 5).trans rfl; have g6 : W0.cell? ⟨w.heap.size, 0 + 6, none⟩ = some (.int .i64 a0_6) := (blk_cell BX.out 6).trans rfl
  by_cases hz : e0 = 0
  · have H := HH.out
    rw [if_pos hz] at H
    obtain ⟨b0, hb0, H⟩ := Option.bind_eq_some_iff.mp H
    have HF := Sd.mk hb0
    replace HH := Sd.mk H
    clear H hb0
    cases b0 with
    | false =>
      have H := HH.out
      simp only [Bool.false_eq_true, if_false, Option.some.injEq, Prod.mk.injEq] at H
      obtain ⟨rfl, rfl, rfl, rfl⟩ := H
      clear HH
      go_wp2_with (first | (go_at_call 34; (refine (b_Check.calls k A0_0 c0_0 l0_0 A0_1 c0_1 l0_1 A0_2 c0_2 l0_2 A0_3 c0_3 l0_3 a0_4 a0_5 a0_6 e0 _ (Kd.C_below HR.out.1 HB.out) hc0_0 (Kd.C_below HR.out.2.1 HB.out) hc0_1 (Kd.C_below HR.out.2.2.1 HB.out) hc0_2 (Kd.C_below HR.out.2.2.2 HB.out) hc0_3 HE.out).mono ?_); rintro e W1 ⟨rfl, hb⟩; clear g0 g1 g2 g3 g4 g5 g6; replace BX := Sd.mk (blk_below BX.out hb); replace HB := Sd.mk (below_then HB.out HB.out.size hb); clear hb; have g0 : W1.cell? ⟨w.heap.size, 0, none⟩ = some (.slice A0_0 l0_0.length c0_0) := (blk_cell BX.out 0).trans rfl; have g1 : W1.cell? ⟨w.heap.size, 0 + 1, none⟩ = some (.slice A0_1 l0_1.length c0_1) := (blk_cell BX.out 1).trans rfl; have g2 : W1.cell? ⟨w.heap.size, 0 + 2, none⟩ = some (.slice A0_2 l0_2.length c0_2) := (blk_cell BX.out 2).trans rfl; have g3 : W1.cell? ⟨w.heap.size, 0 + 3, none⟩ = some (.slice A0_3 l0_3.length c0_3) := (blk_cell BX.out 3).trans rfl; have g4 : W1.cell? ⟨w.heap.size, 0 + 4, none⟩ = some (.int .i64 a0_4) := (blk_cell BX.out 4).trans rfl; have g5 : W1.cell? ⟨w.heap.size, 0 + 5, none⟩ = some (.int .i64 a0_5) := (blk_cell BX.out 5).trans rfl; have g6 : W1.cell? ⟨w.heap.size, 0 + 6, none⟩ = some (.int .i64 a0_6) := (blk_cell BX.out 6).trans rfl) | (go_at_call 88; (refine (b_few.calls k A0_0 c0_0 l0_0 A0_1 c0_1 l0_1 A0_2 c0_2 l0_2 A0_3 c0_3 l0_3 a0_4 a0_5 a0_6 _ _ (Kd.C_below HR.out.1 HB.out) hc0_0 (Kd.C_below HR.out.2.1 HB.out) hc0_1 (Kd.C_below HR.out.2.2.1 HB.out) hc0_2 (Kd.C_below HR.out.2.2.2 HB.out) hc0_3 HF.out).mono ?_); rintro e W2 ⟨rfl, hb⟩; clear g0 g1 g2 g3 g4 g5 g6; replace BX := Sd.mk (blk_below BX.out hb); replace HB := Sd.mk (below_then HB.out HB.out.size hb); clear hb; have g0 : W2.cell? ⟨w.heap.size, 0, none⟩ = some (.slice A0_0 l0_0.length c0_0) := (blk_cell BX.out 0).trans rfl; have g1 : W2.cell? ⟨w.heap.size, 0 + 1, none⟩ = some (.slice A0_1 l0_1.length c0_1) := (blk_cell BX.out 1).trans rfl; have g2 : W2.cell? ⟨w.heap.size, 0 + 2, none⟩ = some (.slice A0_2 l0_2.length c0_2) := (blk_cell BX.out 2).trans rfl; have g3 : W2.cell? ⟨w.heap.size, 0 + 3, none⟩ = some (.slice A0_3 l0_3.length c0_3) := (blk_cell BX.out 3).trans rfl; have g4 : W2.cell? ⟨w.heap.size, 0 + 4, none⟩ = some (.int .i64 a0_4) := (blk_cell BX.out 4).trans rfl; have g5 : W2.cell? ⟨w.heap.size, 0 + 5, none⟩ = some (.int .i64 a0_5) := (blk_cell BX.out 5).trans rfl; have g6 : W2.cell? ⟨w.heap.size, 0 + 6, none⟩ = some (.int .i64 a0_6) := (blk_cell BX.out 6).trans rfl))
      refine bodyPost_ret (v := .tuple #[.slice none 0 0, .int .i64 0, .bool false, .int .i64 9]) (by simp [results, Tryz.results28]) rfl ?_
      exact ⟨_, rfl, Kd.R_nil _ _ _ _ _, HB.out⟩
    | true =>
      have H := HH.out
      rw [if_pos rfl] at H
      by_cases hck : checkV l0_0 l0_1 l0_2 l0_3 a0_4 a0_5 a0_6 = 0
      rotate_left
      · rw [if_neg hck] at H; cases H
      rw [if_pos hck] at H
      simp only [Option.some.injEq, Prod.mk.injEq] at H
      obtain ⟨rfl, rfl, rfl, rfl⟩ := H
      have CKV := Sd.mk hck
      clear HH hck
      go_upto_region 7 with (first | (go_at_call 34; (refine (b_Check.calls k A0_0 c0_0 l0_0 A0_1 c0_1 l0_1 A0_2 c0_2 l0_2 A0_3 c0_3 l0_3 a0_4 a0_5 a0_6 e0 _ (Kd.C_below HR.out.1 HB.out) hc0_0 (Kd.C_below HR.out.2.1 HB.out) hc0_1 (Kd.C_below HR.out.2.2.1 HB.out) hc0_2 (Kd.C_below HR.out.2.2.2 HB.out) hc0_3 HE.out).mono ?_); rintro e W1 ⟨rfl, hb⟩; clear g0 g1 g2 g3 g4 g5 g6; replace BX := Sd.mk (blk_below BX.out hb); replace HB := Sd.mk (below_then HB.out HB.out.size hb); clear hb; have g0 : W1.cell? ⟨w.heap.size, 0, none⟩ = some (.slice A0_0 l0_0.length c0_0) := (blk_cell BX.out 0).trans rfl; have g1 : W1.cell? ⟨w.heap.size, 0 + 1, none⟩ = some (.slice A0_1 l0_1.length c0_1) := (blk_cell BX.out 1).trans rfl; have g2 : W1.cell? ⟨w.heap.size, 0 + 2, none⟩ = some (.slice A0_2 l0_2.length c0_2) := (blk_cell BX.out 2).trans rfl; have g3 : W1.cell? ⟨w.heap.size, 0 + 3, none⟩ = some (.slice A0_3 l0_3.length c0_3) := (blk_cell BX.out 3).trans rfl; have g4 : W1.cell? ⟨w.heap.size, 0 + 4, none⟩ = some (.int .i64 a0_4) := (blk_cell BX.out 4).trans rfl; have g5 : W1.cell? ⟨w.heap.size, 0 + 5, none⟩ = some (.int .i64 a0_5) := (blk_cell BX.out 5).trans rfl; have g6 : W1.cell? ⟨w.heap.size, 0 + 6, none⟩ = some (.int .i64 a0_6) := (blk_cell BX.out 6).trans rfl) | (go_at_call 88; (refine (b_few.calls k A0_0 c0_0 l0_0 A0_1 c0_1 l0_1 A0_2 c0_2 l0_2 A0_3 c0_3 l0_3 a0_4 a0_5 a0_6 _ _ (Kd.C_below HR.out.1 HB.out) hc0_0 (Kd.C_below HR.out.2.1 HB.out) hc0_1 (Kd.C_below HR.out.2.2.1 HB.out) hc0_2 (Kd.C_below HR.out.2.2.2 HB.out) hc0_3 HF.out).mono ?_); rintro e W2 ⟨rfl, hb⟩; clear g0 g1 g2 g3 g4 g5 g6; replace BX := Sd.mk (blk_below BX.out hb); replace HB := Sd.mk (below_then HB.out HB.out.size hb); clear hb; have g0 : W2.cell? ⟨w.heap.size, 0, none⟩ = some (.slice A0_0 l0_0.length c0_0) := (blk_cell BX.out 0).trans rfl; have g1 : W2.cell? ⟨w.heap.size, 0 + 1, none⟩ = some (.slice A0_1 l0_1.length c0_1) := (blk_cell BX.out 1).trans rfl; have g2 : W2.cell? ⟨w.heap.size, 0 + 2, none⟩ = some (.slice A0_2 l0_2.length c0_2) := (blk_cell BX.out 2).trans rfl; have g3 : W2.cell? ⟨w.heap.size, 0 + 3, none⟩ = some (.slice A0_3 l0_3.length c0_3) := (blk_cell BX.out 3).trans rfl; have g4 : W2.cell? ⟨w.heap.size, 0 + 4, none⟩ = some (.int .i64 a0_4) := (blk_cell BX.out 4).trans rfl; have g5 : W2.cell? ⟨w.heap.size, 0 + 5, none⟩ = some (.int .i64 a0_5) := (blk_cell BX.out 5).trans rfl; have g6 : W2.cell? ⟨w.heap.size, 0 + 6, none⟩ = some (.int .i64 a0_6) := (blk_cell BX.out 6).trans rfl) | (go_at_call 52; (refine (x_lines.calls A0_0 c0_0 l0_0 A0_1 c0_1 l0_1 A0_2 c0_2 l0_2 A0_3 c0_3 l0_3 a0_4 a0_5 a0_6 (linesV l0_1 l0_2 l0_3 a0_4 a0_5 a0_6) _ (Kd.C_below HR.out.1 HB.out) hc0_0 (Kd.C_below HR.out.2.1 HB.out) hc0_1 (Kd.C_below HR.out.2.2.1 HB.out) hc0_2 (Kd.C_below HR.out.2.2.2 HB.out) hc0_3 (by unfold x_lines.f; rw [if_pos CKV.out])).mono ?_); rintro e W3 ⟨v3, rfl, hl3, hb⟩; obtain ⟨A9, c9, rfl, hlc, hl9⟩ := Kd.R_reads hl3; have LN := Sd.mk (And.intro hlc hl9); clear hlc hl9 hl3; clear g0 g1 g2 g3 g4 g5 g6; replace BX := Sd.mk (blk_below BX.out hb); replace HB := Sd.mk (below_then HB.out HB.out.size hb); clear hb; have g0 : W3.cell? ⟨w.heap.size, 0, none⟩ = some (.slice A0_0 l0_0.length c0_0) := (blk_cell BX.out 0).trans rfl; have g1 : W3.cell? ⟨w.heap.size, 0 + 1, none⟩ = some (.slice A0_1 l0_1.length c0_1) := (blk_cell BX.out 1).trans rfl; have g2 : W3.cell? ⟨w.heap.size, 0 + 2, none⟩ = some (.slice A0_2 l0_2.length c0_2) := (blk_cell BX.out 2).trans rfl; have g3 : W3.cell? ⟨w.heap.size, 0 + 3, none⟩ = some (.slice A0_3 l0_3.length c0_3) := (blk_cell BX.out 3).trans rfl; have g4 : W3.cell? ⟨w.heap.size, 0 + 4, none⟩ = some (.int .i64 a0_4) := (blk_cell BX.out 4).trans rfl; have g5 : W3.cell? ⟨w.heap.size, 0 + 5, none⟩ = some (.int .i64 a0_5) := (blk_cell BX.out 5).trans rfl; have g6 : W3.cell? ⟨w.heap.size, 0 + 6, none⟩ = some (.int .i64 a0_6) := (blk_cell BX.out 6).trans rfl))
      have BL := Sd.mk (blk_new W3 (.cells #[.slice A9 (linesV l0_1 l0_2 l0_3 a0_4 a0_5 a0_6).length c9] 100))
      have hb := below_alloc (Below.refl W3.heap.size W3) (.cells #[.slice A9 (linesV l0_1 l0_2 l0_3 a0_4 a0_5 a0_6).length c9] 100)
      replace LN := Sd.mk (And.intro LN.out.1 (Kd.C_below LN.out.2 hb))
      clear g0 g1 g2 g3 g4 g5 g6; replace BX := Sd.mk (blk_below BX.out hb); replace HB := Sd.mk (below_then HB.out HB.out.size hb); clear hb
      generalize W3.alloc (.cells #[.slice A9 (linesV l0_1 l0_2 l0_3 a0_4 a0_5 a0_6).length c9] 100) = W4 at BX HB BL LN ⊢
      generalize W3.heap.size = Bl at BL ⊢
      have g0 : W4.cell? ⟨w.heap.size, 0, none⟩ = some (.slice A0_0 l0_0.length c0_0) := (blk_cell BX.out 0).trans rfl; have g1 : W4.cell? ⟨w.heap.size, 0 + 1, none⟩ = some (.slice A0_1 l0_1.length c0_1) := (blk_cell BX.out 1).trans rfl; have g2 : W4.cell? ⟨w.heap.size, 0 + 2, none⟩ = some (.slice A0_2 l0_2.length c0_2) := (blk_cell BX.out 2).trans rfl; have g3 : W4.cell? ⟨w.heap.size, 0 + 3, none⟩ = some (.slice A0_3 l0_3.length c0_3) := (blk_cell BX.out 3).trans rfl; have g4 : W4.cell? ⟨w.heap.size, 0 + 4, none⟩ = some (.int .i64 a0_4) := (blk_cell BX.out 4).trans rfl; have g5 : W4.cell? ⟨w.heap.size, 0 + 5, none⟩ = some (.int .i64 a0_5) := (blk_cell BX.out 5).trans rfl; have g6 : W4.cell? ⟨w.heap.size, 0 + 6, none⟩ = some (.int .i64 a0_6) := (blk_cell BX.out 6).trans rfl
      have HK := check_ok CKV.out
      have hBl := blk_lt BL.out
      have HC := cheapest_calls 90 #[.pointer (some ⟨Bl, 0, none⟩)] A0_0 A0_1 A0_2 A0_3 c0_0 c0_1 c0_2 c0_3 l0_0 l0_1 l0_2 l0_3 a0_4 a0_5 a0_6 (enters_of Tryz.func90 (by kernel_rfl) rfl) (passB l0_1 l0_2 l0_3 a0_4 a0_5 a0_6) (fun r => cW l0_1 r l0_1.length) (allR l0_1).length (rsAt l0_1) (fun W => Below W4.heap.size W4 W) W4 (by have := HK.m1; omega) HK.m12 hc0_0 hc0_1 hc0_2 hc0_3 (allR_pos l0_1) (rsAt_zero l0_1) (rsAt_len l0_1) (rsAt_next l0_1 (mats_b HK))
        (fun i hi => by
          obtain ⟨K, hK⟩ := bcost_l0 l0_1 (rsAt l0_1 i) HK.m12 (rsAt_len l0_1 i) l0_1.length 0 (by omega)
          exact ⟨K, hK K (Nat.le_refl _)⟩)
        (fun W W' hb h => h.trans hb)
        (fun W h => ⟨Kd.C_below (Kd.C_below HR.out.1 HB.out) h, Kd.C_below (Kd.C_below HR.out.2.1 HB.out) h, Kd.C_below (Kd.C_below HR.out.2.2.1 HB.out) h, Kd.C_below (Kd.C_below HR.out.2.2.2 HB.out) h⟩)
        (fun i hi W A h hs hri => by
          have hq := best1_calls Bl A9 c9 (linesV l0_1 l0_2 l0_3 a0_4 a0_5 a0_6) A (rsAt l0_1 i) (passB l0_1 l0_2 l0_3 a0_4 a0_5 a0_6 (rsAt l0_1 i)) W (blk_below BL.out h) (Kd.C_below LN.out.2 h) LN.out.1 hri (keeps_f l0_0 l0_1 l0_2 l0_3 a0_4 a0_5 a0_6 (rsAt l0_1 i) HK (rsAt_rec (mats_b HK) i hi))
          exact Calls.mono hq (fun e W' he => ⟨he.1, h.trans (he.2.mono hs), KeepHi.of_below he.2⟩))
        (Below.refl _ _)
      rw [chF_best] at HC
      go_wp2_with (go_at_call 89; (refine HC.mono ?_); rintro e W5 ⟨v5, rfl, hv5, hb5, hs5⟩)
      refine bodyPost_ret (v := .tuple #[v5, .int .i64 (bestV l0_1 l0_2 l0_3 a0_4 a0_5 a0_6).2.1, .bool (bestV l0_1 l0_2 l0_3 a0_4 a0_5 a0_6).2.2, .int .i64 0]) (by simp [results, Tryz.results28]) rfl ?_
      exact ⟨_, rfl, Kd.R_lower (Kd.R_mono hv5 (fun _ _ => trivial)) HB.out.size, below_then HB.out HB.out.size hb5⟩
  · have H := HH.out
    rw [if_neg hz] at H
    simp only [Option.some.injEq, Prod.mk.injEq] at H
    obtain ⟨rfl, rfl, rfl, rfl⟩ := H
    clear HH
    go_wp2_with (go_at_call 34; (refine (b_Check.calls k A0_0 c0_0 l0_0 A0_1 c0_1 l0_1 A0_2 c0_2 l0_2 A0_3 c0_3 l0_3 a0_4 a0_5 a0_6 e0 _ (Kd.C_below HR.out.1 HB.out) hc0_0 (Kd.C_below HR.out.2.1 HB.out) hc0_1 (Kd.C_below HR.out.2.2.1 HB.out) hc0_2 (Kd.C_below HR.out.2.2.2 HB.out) hc0_3 HE.out).mono ?_); rintro e W1 ⟨rfl, hb⟩; clear g0 g1 g2 g3 g4 g5 g6; replace BX := Sd.mk (blk_below BX.out hb); replace HB := Sd.mk (below_then HB.out HB.out.size hb); clear hb; have g0 : W1.cell? ⟨w.heap.size, 0, none⟩ = some (.slice A0_0 l0_0.length c0_0) := (blk_cell BX.out 0).trans rfl; have g1 : W1.cell? ⟨w.heap.size, 0 + 1, none⟩ = some (.slice A0_1 l0_1.length c0_1) := (blk_cell BX.out 1).trans rfl; have g2 : W1.cell? ⟨w.heap.size, 0 + 2, none⟩ = some (.slice A0_2 l0_2.length c0_2) := (blk_cell BX.out 2).trans rfl; have g3 : W1.cell? ⟨w.heap.size, 0 + 3, none⟩ = some (.slice A0_3 l0_3.length c0_3) := (blk_cell BX.out 3).trans rfl; have g4 : W1.cell? ⟨w.heap.size, 0 + 4, none⟩ = some (.int .i64 a0_4) := (blk_cell BX.out 4).trans rfl; have g5 : W1.cell? ⟨w.heap.size, 0 + 5, none⟩ = some (.int .i64 a0_5) := (blk_cell BX.out 5).trans rfl; have g6 : W1.cell? ⟨w.heap.size, 0 + 6, none⟩ = some (.int .i64 a0_6) := (blk_cell BX.out 6).trans rfl)
    refine bodyPost_ret (v := .tuple #[.slice none 0 0, .int .i64 0, .bool false, .int .i64 e0]) (by simp [results, Tryz.results28]) rfl ?_
    exact ⟨_, rfl, Kd.R_nil _ _ _ _ _, HB.out⟩
end
section
def rf_Choices.l0 : Nat → Int → Int → List ByteArray → List (S70) → List (S27) → List (S89) → Int → Int → Int → Option (Int)
 | 0, _, _, _, _, _, _, _, _, _ => none
 | k + 1, x3, x4, x887q0, x887q1, x887q2, x887q3, x887q4, x887q5, x887q6 => if x4 < (x887q1.length : Int) then (if x3 ≤ 100000 then (if 0 ≤ x4 then (if ((rd_T70 x887q1 x4).f5) = 0 then (none) else (rf_Choices.l0 k (wrap64 (x3 * (wrap64 ((wrap64 (Int.tdiv (wrap64 (((rd_T70 x887q1 x4).f4) - ((rd_T70 x887q1 x4).f3))) ((rd_T70 x887q1 x4).f5))) + 1)))) (wrap64 (x4 + 1)) x887q0 x887q1 x887q2 x887q3 x887q4 x887q5 x887q6)) else (none)) else (some x3)) else (some x3)
def rf_Choices.f (k : Nat) (l0_0 : List ByteArray) (l0_1 : List (S70)) (l0_2 : List (S27)) (l0_3 : List (S89)) (a0_4 : Int) (a0_5 : Int) (a0_6 : Int) : Option (Int) := rf_Choices.l0 k 1 0 l0_0 l0_1 l0_2 l0_3 a0_4 a0_5 a0_6
theorem rf_Choices.calls (k : Nat) (A0_0 : Option Addr) (c0_0 : Nat) (l0_0 : List ByteArray) (A0_1 : Option Addr) (c0_1 : Nat) (l0_1 : List (S70)) (A0_2 : Option Addr) (c0_2 : Nat) (l0_2 : List (S27)) (A0_3 : Option Addr) (c0_3 : Nat) (l0_3 : List (S89)) (a0_4 : Int) (a0_5 : Int) (a0_6 : Int) (r : Int) (w : World) (hr0_0 : Kd.C Kd.string w A0_0 l0_0.length l0_0) (hc0_0 : l0_0.length ≤ c0_0) (hr0_1 : Kd.C k70 w A0_1 l0_1.length l0_1) (hc0_1 : l0_1.length ≤ c0_1) (hr0_2 : Kd.C k27 w A0_2 l0_2.length l0_2) (hc0_2 : l0_2.length ≤ c0_2) (hr0_3 : Kd.C k89 w A0_3 l0_3.length l0_3) (hc0_3 : l0_3.length ≤ c0_3) (h : rf_Choices.f k l0_0 l0_1 l0_2 l0_3 a0_4 a0_5 a0_6 = some r) :
  Calls Tryz.prog 87 #[.agg #[.slice A0_0 l0_0.length c0_0, .slice A0_1 l0_1.length c0_1, .slice A0_2 l0_2.length c0_2, .slice A0_3 l0_3.length c0_3, .int .i64 a0_4, .int .i64 a0_5, .int .i64 a0_6]] w fun e w' => e = .returned (.int .i64 r) ∧ Below w.heap.size w w' := by
 have hu29 := Tryz.underlying29; have hu70 := Tryz.underlying70; have HR0_0 := Sd.mk hr0_0; have HC0_0 := Sd.mk hc0_0; clear hr0_0 hc0_0; have HR0_1 := Sd.mk hr0_1; have HC0_1 := Sd.mk hc0_1; clear hr0_1 hc0_1; have HR0_2 := Sd.mk hr0_2; have HC0_2 := Sd.mk hc0_2; clear hr0_2 hc0_2; have HR0_3 := Sd.mk hr0_3; have HC0_3 := Sd.mk hc0_3; clear hr0_3 hc0_3; have HB := Sd.mk (Below.refl w.heap.size w)
 have H : (rf_Choices.l0 k 1 0 l0_0 l0_1 l0_2 l0_3 a0_4 a0_5 a0_6) = some r := h
 clear h; have H' := Sd.mk H; clear H
 go_enter Tryz.func87, Tryz.ntmps87
 go_wp2_with (first | ((with_reducible refine gate_dst (N := 1) rfl ?_); refine box_event ?hg (N := 1) ?hd (cs := #[.slice A0_0 l0_0.length c0_0, .slice A0_1 l0_1.length c0_1, .slice A0_2 l0_2.length c0_2, .slice A0_3 l0_3.length c0_3, .int .i64 a0_4, .int .i64 a0_5, .int .i64 a0_6]) (t := 29) ?hr ?_; (case hd => rfl); (case hg => rfl); (case hr => exact tG); intro gb886 hg w2 hbox hb; have BK886 := Sd.mk (hbox); have GW886 := Sd.mk (bSz hg (bBl HB.out)); have GE886 := Sd.mk (bSz hg (bBl HB.out)); replace HB := Sd.mk (below_step (bBl HB.out) hb); clear hb hbox hg))
 go_loopg [3, 4] k (fun kq v3 v4 w' => ∃ (x3_1 : Int) (x4_1 : Int), v3 = .int .i64 x3_1 ∧ v4 = .int .i64 x4_1 ∧ Sd (rf_Choices.l0 kq x3_1 x4_1 l0_0 l0_1 l0_2 l0_3 a0_4 a0_5 a0_6 = some r) ∧ Sd (kq ≤ k) ∧ Sd (w'.heap[gb886]? = some (.cells #[(.slice A0_0 l0_0.length c0_0), (.slice A0_1 l0_1.length c0_1), (.slice A0_2 l0_2.length c0_2), (.slice A0_3 l0_3.length c0_3), .int .i64 a0_4, .int .i64 a0_5, .int .i64 a0_6] 29 (0, 0))) ∧ Sd (Below w.heap.size w w'))
 case atStart => exact ⟨(1), (0), tS, tS, H', ⟨Nat.le_refl _⟩, ⟨bkA BK886.out⟩, ⟨bBl HB.out⟩⟩
 case round =>
  clear H'; (try clear p2); obtain ⟨x3_1, x4_1, rfl, rfl, HA, HK1, BK886, HB⟩ := hrel
  cases gk with
  | zero => exact absurd HA.out (by simp [rf_Choices.l0])
  | succ k1 =>
   have H := HA.out; clear HA
   simp only [rf_Choices.l0] at H
   by_cases c3 : x4_1 < (l0_1.length : Int)
   ·rw [if_pos c3] at H
    have c3b0 : decide (x4_1 < (l0_1.length : Int)) = true := decide_eq_true c3
    clear c3
    by_cases c4 : x3_1 ≤ 100000
    ·rw [if_pos c4] at H
     have c4b0 : decide (x3_1 ≤ 100000) = true := decide_eq_true c4
     clear c4
     by_cases c5 : 0 ≤ x4_1
     ·rw [if_pos c5] at H
      have c5b0 : decide (0 ≤ x4_1) = true := decide_eq_true c5
      clear c5
      by_cases c6 : ((rd_T70 l0_1 x4_1).f5) = 0
      ·rw [if_pos c6] at H
       exact absurd H (by simp)
      ·rw [if_neg c6] at H
       have c6b0 : (((rd_T70 l0_1 x4_1).f5) == 0) = false := beq_eq_false_iff_ne.mpr c6
       have c6b1 : (((rd_T70 l0_1 x4_1).f5) != 0) = true := bne_iff_ne.mpr c6
       have H' := Sd.mk H; clear H; obtain ⟨u7_0, u7_1, u7_2, u7_3, u7_4, u7_5, u7_6, o7_0, o7_1, o7_2, o7_3, o7_4, o7_5, o7_6⟩ := bc7 (w := wr) BK886.out
       have p887 : 0 ≤ (x4_1 : Int) := tB
       have q887 : x4_1 < (l0_1.length : Int) := tB
       obtain ⟨ad887, A887_6, c887_6, e887, hx887_0, hx887_1, hx887_2, hx887_3, hx887_4, hx887_5, hx887_6, hl887_6, hi887_6⟩ := at_T70 HR0_1.out x4_1 p887 q887; cases e887; replace hx887_0 := cU HB hx887_0; replace hx887_1 := cU HB hx887_1; replace hx887_2 := cU HB hx887_2; replace hx887_3 := cU HB hx887_3; replace hx887_4 := cU HB hx887_4; replace hx887_5 := cU HB hx887_5; replace hx887_6 := cU HB hx887_6; have HR887_6 := Sd.mk hi887_6; have HC887_6 := Sd.mk hl887_6; clear hi887_6 hl887_6; replace p887 := eq_true p887; replace q887 := eq_true q887
       go_wp2_with (first | ((with_reducible refine gate_dst (N := 5) rfl ?_); refine box_event ?hg (N := 5) ?hd (cs := #[.string (⟨#[]⟩ : ByteArray), .int .i64 0, .int .i64 0, .int .i64 0, .int .i64 0, .int .i64 0, .slice none 0 0]) (t := 70) ?hr ?_; (case hd => rfl); (case hg => rfl); (case hr => exact tG); intro gb888 hg w8 hbox hb; have BK888 := Sd.mk (hbox); have GW888 := Sd.mk (bSz hg (bBl HB.out)); have GE888 := Sd.mk (bSz hg (bBl HB.out)); replace HB := Sd.mk (below_step (bBl HB.out) hb); have NB886_888 := Sd.mk (bNl hg (bkA BK886.out)); have NB888_886 := Sd.mk (bNg hg (bkA BK886.out)); replace BK886 := Sd.mk (blk_below (bkA BK886.out) hb); clear hb hbox hg; have hnb9 := NB888_886.out; have hnc9 := NB886_888.out; obtain ⟨u10_0, u10_1, u10_2, u10_3, u10_4, u10_5, u10_6, o10_0, o10_1, o10_2, o10_3, o10_4, o10_5, o10_6⟩ := bc7 (w := w8) BK888.out))
       go_roundg k1
       case measure => have := HK1.out; omega
       case rel => exact ⟨(wrap64 (x3_1 * (wrap64 ((wrap64 (Int.tdiv (wrap64 (((rd_T70 l0_1 x4_1).f4) - ((rd_T70 l0_1 x4_1).f3))) ((rd_T70 l0_1 x4_1).f5))) + 1)))), (wrap64 (x4_1 + 1)), tS, tS, H', ⟨by have := HK1.out; omega⟩, ⟨by refine bkZ ?_; refine blk_far ?_ NB886_888.out _; refine bkZ ?_; refine blk_far ?_ NB886_888.out _; refine bkZ ?_; refine blk_far ?_ NB886_888.out _; refine bkZ ?_; refine blk_far ?_ NB886_888.out _; refine bkZ ?_; refine blk_far ?_ NB886_888.out _; refine bkZ ?_; refine blk_far ?_ NB886_888.out _; refine bkZ ?_; refine blk_far ?_ NB886_888.out _; refine bkZ ?_; exact BK886.out⟩, ⟨bBl HB.out⟩⟩
     ·rw [if_neg c5] at H
      exact absurd H (by simp)
    ·rw [if_neg c4] at H
     have c4b0 : decide (x3_1 ≤ 100000) = false := decide_eq_false c4
     clear c4; obtain rfl := Option.some.inj H; obtain ⟨u11_0, u11_1, u11_2, u11_3, u11_4, u11_5, u11_6, o11_0, o11_1, o11_2, o11_3, o11_4, o11_5, o11_6⟩ := bc7 (w := wr) BK886.out
     go_wp2
     go_ret
     exact ⟨tE, bBl HB.out⟩
   ·rw [if_neg c3] at H
    have c3b0 : decide (x4_1 < (l0_1.length : Int)) = false := decide_eq_false c3
    clear c3; obtain rfl := Option.some.inj H; obtain ⟨u12_0, u12_1, u12_2, u12_3, u12_4, u12_5, u12_6, o12_0, o12_1, o12_2, o12_3, o12_4, o12_5, o12_6⟩ := bc7 (w := wr) BK886.out
    go_wp2
    go_ret
    exact ⟨tE, bBl HB.out⟩
end
section
def lw_many.f (k : Nat) (l0_0 : List ByteArray) (l0_1 : List (S70)) (l0_2 : List (S27)) (l0_3 : List (S89)) (a0_4 : Int) (a0_5 : Int) (a0_6 : Int) : Option (Bool) := (rf_Check.f k l0_0 l0_1 l0_2 l0_3 a0_4 a0_5 a0_6).bind fun t890 => (if t890 = 0 then ((rf_Choices.f k l0_0 l0_1 l0_2 l0_3 a0_4 a0_5 a0_6).bind fun t891 => (if t891 > 3000 then (some (decide (t891 ≤ 100000))) else (some false))) else (some false))
theorem lw_many.calls (k : Nat) (A0_0 : Option Addr) (c0_0 : Nat) (l0_0 : List ByteArray) (A0_1 : Option Addr) (c0_1 : Nat) (l0_1 : List (S70)) (A0_2 : Option Addr) (c0_2 : Nat) (l0_2 : List (S27)) (A0_3 : Option Addr) (c0_3 : Nat) (l0_3 : List (S89)) (a0_4 : Int) (a0_5 : Int) (a0_6 : Int) (r : Bool) (w : World) (hr0_0 : Kd.C Kd.string w A0_0 l0_0.length l0_0) (hc0_0 : l0_0.length ≤ c0_0) (hr0_1 : Kd.C k70 w A0_1 l0_1.length l0_1) (hc0_1 : l0_1.length ≤ c0_1) (hr0_2 : Kd.C k27 w A0_2 l0_2.length l0_2) (hc0_2 : l0_2.length ≤ c0_2) (hr0_3 : Kd.C k89 w A0_3 l0_3.length l0_3) (hc0_3 : l0_3.length ≤ c0_3) (h : lw_many.f k l0_0 l0_1 l0_2 l0_3 a0_4 a0_5 a0_6 = some r) :
  Calls Tryz.prog 27 #[.agg #[.slice A0_0 l0_0.length c0_0, .slice A0_1 l0_1.length c0_1, .slice A0_2 l0_2.length c0_2, .slice A0_3 l0_3.length c0_3, .int .i64 a0_4, .int .i64 a0_5, .int .i64 a0_6]] w fun e w' => e = .returned (.bool r) ∧ Below w.heap.size w w' := by
 have hu29 := Tryz.underlying29; have HR0_0 := Sd.mk hr0_0; have HC0_0 := Sd.mk hc0_0; clear hr0_0 hc0_0; have HR0_1 := Sd.mk hr0_1; have HC0_1 := Sd.mk hc0_1; clear hr0_1 hc0_1; have HR0_2 := Sd.mk hr0_2; have HC0_2 := Sd.mk hc0_2; clear hr0_2 hc0_2; have HR0_3 := Sd.mk hr0_3; have HC0_3 := Sd.mk hc0_3; clear hr0_3 hc0_3; have HB := Sd.mk (Below.refl w.heap.size w)
 have H : ((rf_Check.f k l0_0 l0_1 l0_2 l0_3 a0_4 a0_5 a0_6).bind fun t890 => (if t890 = 0 then ((rf_Choices.f k l0_0 l0_1 l0_2 l0_3 a0_4 a0_5 a0_6).bind fun t891 => (if t891 > 3000 then (some (decide (t891 ≤ 100000))) else (some false))) else (some false))) = some r := h
 clear h; replace H := Option.bind_eq_some_iff.mp H; obtain ⟨t890, A20, H⟩ := H
 try dsimp only at H
 have A2 := Sd.mk A20; clear A20
 by_cases c3 : t890 = 0
 ·rw [if_pos c3] at H
  have c3b0 : (t890 == 0) = true := beq_iff_eq.mpr c3
  have c3b1 : (t890 != 0) = false := bne_eq_false_iff_eq.mpr c3
  clear c3; replace H := Option.bind_eq_some_iff.mp H; obtain ⟨t891, A40, H⟩ := H
  try dsimp only at H
  have A4 := Sd.mk A40; clear A40
  by_cases c5 : t891 > 3000
  ·rw [if_pos c5] at H
   have c5b0 : decide (3000 < t891) = true := decide_eq_true c5
   clear c5; obtain rfl := Option.some.inj H
   go_enter Tryz.func27, Tryz.ntmps27
   go_wp2_with (first | ((with_reducible refine gate_dst (N := 1) rfl ?_); refine box_event ?hg (N := 1) ?hd (cs := #[.slice A0_0 l0_0.length c0_0, .slice A0_1 l0_1.length c0_1, .slice A0_2 l0_2.length c0_2, .slice A0_3 l0_3.length c0_3, .int .i64 a0_4, .int .i64 a0_5, .int .i64 a0_6]) (t := 29) ?hr ?_; (case hd => rfl); (case hg => rfl); (case hr => exact tG); intro gb889 hg w6 hbox hb; have BK889 := Sd.mk (hbox); have GW889 := Sd.mk (bSz hg (bBl HB.out)); have GE889 := Sd.mk (bSz hg (bBl HB.out)); replace HB := Sd.mk (below_step (bBl HB.out) hb); clear hb hbox hg; obtain ⟨u7_0, u7_1, u7_2, u7_3, u7_4, u7_5, u7_6, o7_0, o7_1, o7_2, o7_3, o7_4, o7_5, o7_6⟩ := bc7 (w := w6) BK889.out) | ((with_reducible refine gate_callee (f := 86) rfl ?_); refine goesL_ (some 5) rfl rfl Tryz.func86 (by kernel_rfl) rfl #[.agg #[.slice A0_0 l0_0.length c0_0, .slice A0_1 l0_1.length c0_1, .slice A0_2 l0_2.length c0_2, .slice A0_3 l0_3.length c0_3, .int .i64 a0_4, .int .i64 a0_5, .int .i64 a0_6]] rfl tM ?_; (with_reducible refine (rf_Check.calls k _ _ l0_0 _ _ l0_1 _ _ l0_2 _ _ l0_3 a0_4 a0_5 a0_6 t890 _ (cS (Kd.C_below HR0_0.out HB.out)) HC0_0.out (cS (Kd.C_below HR0_1.out HB.out)) HC0_1.out (cS (Kd.C_below HR0_2.out HB.out)) HC0_2.out (cS (Kd.C_below HR0_3.out HB.out)) HC0_3.out A2.out).mono ?_); rintro e w8 ⟨rfl, hb⟩; refine ⟨_, rfl, ?_⟩; replace BK889 := Sd.mk (blk_below (bkA BK889.out) hb); replace HB := Sd.mk (below_step (bBl HB.out) hb); (try clear hb); (try clear hb2); (try clear hk); (try clear hi); obtain ⟨u9_0, u9_1, u9_2, u9_3, u9_4, u9_5, u9_6, o9_0, o9_1, o9_2, o9_3, o9_4, o9_5, o9_6⟩ := bc7 (w := w8) BK889.out) | ((with_reducible refine gate_callee (f := 87) rfl ?_); refine goesL_ (some 8) rfl rfl Tryz.func87 (by kernel_rfl) rfl #[.agg #[.slice A0_0 l0_0.length c0_0, .slice A0_1 l0_1.length c0_1, .slice A0_2 l0_2.length c0_2, .slice A0_3 l0_3.length c0_3, .int .i64 a0_4, .int .i64 a0_5, .int .i64 a0_6]] rfl tM ?_; (with_reducible refine (rf_Choices.calls k _ _ l0_0 _ _ l0_1 _ _ l0_2 _ _ l0_3 a0_4 a0_5 a0_6 t891 _ (cS (Kd.C_below HR0_0.out HB.out)) HC0_0.out (cS (Kd.C_below HR0_1.out HB.out)) HC0_1.out (cS (Kd.C_below HR0_2.out HB.out)) HC0_2.out (cS (Kd.C_below HR0_3.out HB.out)) HC0_3.out A4.out).mono ?_); rintro e w10 ⟨rfl, hb⟩; refine ⟨_, rfl, ?_⟩; replace BK889 := Sd.mk (blk_below (bkA BK889.out) hb); replace HB := Sd.mk (below_step (bBl HB.out) hb); (try clear hb); (try clear hb2); (try clear hk); (try clear hi)))
   go_ret
   exact ⟨tE, bBl HB.out⟩
  ·rw [if_neg c5] at H
   have c5b0 : decide (3000 < t891) = false := decide_eq_false c5
   clear c5; obtain rfl := Option.some.inj H
   go_enter Tryz.func27, Tryz.ntmps27
   go_wp2_with (first | ((with_reducible refine gate_dst (N := 1) rfl ?_); refine box_event ?hg (N := 1) ?hd (cs := #[.slice A0_0 l0_0.length c0_0, .slice A0_1 l0_1.length c0_1, .slice A0_2 l0_2.length c0_2, .slice A0_3 l0_3.length c0_3, .int .i64 a0_4, .int .i64 a0_5, .int .i64 a0_6]) (t := 29) ?hr ?_; (case hd => rfl); (case hg => rfl); (case hr => exact tG); intro gb889 hg w11 hbox hb; have BK889 := Sd.mk (hbox); have GW889 := Sd.mk (bSz hg (bBl HB.out)); have GE889 := Sd.mk (bSz hg (bBl HB.out)); replace HB := Sd.mk (below_step (bBl HB.out) hb); clear hb hbox hg; obtain ⟨u12_0, u12_1, u12_2, u12_3, u12_4, u12_5, u12_6, o12_0, o12_1, o12_2, o12_3, o12_4, o12_5, o12_6⟩ := bc7 (w := w11) BK889.out) | ((with_reducible refine gate_callee (f := 86) rfl ?_); refine goesL_ (some 5) rfl rfl Tryz.func86 (by kernel_rfl) rfl #[.agg #[.slice A0_0 l0_0.length c0_0, .slice A0_1 l0_1.length c0_1, .slice A0_2 l0_2.length c0_2, .slice A0_3 l0_3.length c0_3, .int .i64 a0_4, .int .i64 a0_5, .int .i64 a0_6]] rfl tM ?_; (with_reducible refine (rf_Check.calls k _ _ l0_0 _ _ l0_1 _ _ l0_2 _ _ l0_3 a0_4 a0_5 a0_6 t890 _ (cS (Kd.C_below HR0_0.out HB.out)) HC0_0.out (cS (Kd.C_below HR0_1.out HB.out)) HC0_1.out (cS (Kd.C_below HR0_2.out HB.out)) HC0_2.out (cS (Kd.C_below HR0_3.out HB.out)) HC0_3.out A2.out).mono ?_); rintro e w13 ⟨rfl, hb⟩; refine ⟨_, rfl, ?_⟩; replace BK889 := Sd.mk (blk_below (bkA BK889.out) hb); replace HB := Sd.mk (below_step (bBl HB.out) hb); (try clear hb); (try clear hb2); (try clear hk); (try clear hi); obtain ⟨u14_0, u14_1, u14_2, u14_3, u14_4, u14_5, u14_6, o14_0, o14_1, o14_2, o14_3, o14_4, o14_5, o14_6⟩ := bc7 (w := w13) BK889.out) | ((with_reducible refine gate_callee (f := 87) rfl ?_); refine goesL_ (some 8) rfl rfl Tryz.func87 (by kernel_rfl) rfl #[.agg #[.slice A0_0 l0_0.length c0_0, .slice A0_1 l0_1.length c0_1, .slice A0_2 l0_2.length c0_2, .slice A0_3 l0_3.length c0_3, .int .i64 a0_4, .int .i64 a0_5, .int .i64 a0_6]] rfl tM ?_; (with_reducible refine (rf_Choices.calls k _ _ l0_0 _ _ l0_1 _ _ l0_2 _ _ l0_3 a0_4 a0_5 a0_6 t891 _ (cS (Kd.C_below HR0_0.out HB.out)) HC0_0.out (cS (Kd.C_below HR0_1.out HB.out)) HC0_1.out (cS (Kd.C_below HR0_2.out HB.out)) HC0_2.out (cS (Kd.C_below HR0_3.out HB.out)) HC0_3.out A4.out).mono ?_); rintro e w15 ⟨rfl, hb⟩; refine ⟨_, rfl, ?_⟩; replace BK889 := Sd.mk (blk_below (bkA BK889.out) hb); replace HB := Sd.mk (below_step (bBl HB.out) hb); (try clear hb); (try clear hb2); (try clear hk); (try clear hi)))
   go_ret
   exact ⟨tE, bBl HB.out⟩
 ·rw [if_neg c3] at H
  have c3b0 : (t890 == 0) = false := beq_eq_false_iff_ne.mpr c3
  have c3b1 : (t890 != 0) = true := bne_iff_ne.mpr c3
  obtain rfl := Option.some.inj H
  go_enter Tryz.func27, Tryz.ntmps27
  go_wp2_with (first | ((with_reducible refine gate_dst (N := 1) rfl ?_); refine box_event ?hg (N := 1) ?hd (cs := #[.slice A0_0 l0_0.length c0_0, .slice A0_1 l0_1.length c0_1, .slice A0_2 l0_2.length c0_2, .slice A0_3 l0_3.length c0_3, .int .i64 a0_4, .int .i64 a0_5, .int .i64 a0_6]) (t := 29) ?hr ?_; (case hd => rfl); (case hg => rfl); (case hr => exact tG); intro gb889 hg w16 hbox hb; have BK889 := Sd.mk (hbox); have GW889 := Sd.mk (bSz hg (bBl HB.out)); have GE889 := Sd.mk (bSz hg (bBl HB.out)); replace HB := Sd.mk (below_step (bBl HB.out) hb); clear hb hbox hg; obtain ⟨u17_0, u17_1, u17_2, u17_3, u17_4, u17_5, u17_6, o17_0, o17_1, o17_2, o17_3, o17_4, o17_5, o17_6⟩ := bc7 (w := w16) BK889.out) | ((with_reducible refine gate_callee (f := 86) rfl ?_); refine goesL_ (some 5) rfl rfl Tryz.func86 (by kernel_rfl) rfl #[.agg #[.slice A0_0 l0_0.length c0_0, .slice A0_1 l0_1.length c0_1, .slice A0_2 l0_2.length c0_2, .slice A0_3 l0_3.length c0_3, .int .i64 a0_4, .int .i64 a0_5, .int .i64 a0_6]] rfl tM ?_; (with_reducible refine (rf_Check.calls k _ _ l0_0 _ _ l0_1 _ _ l0_2 _ _ l0_3 a0_4 a0_5 a0_6 t890 _ (cS (Kd.C_below HR0_0.out HB.out)) HC0_0.out (cS (Kd.C_below HR0_1.out HB.out)) HC0_1.out (cS (Kd.C_below HR0_2.out HB.out)) HC0_2.out (cS (Kd.C_below HR0_3.out HB.out)) HC0_3.out A2.out).mono ?_); rintro e w18 ⟨rfl, hb⟩; refine ⟨_, rfl, ?_⟩; replace BK889 := Sd.mk (blk_below (bkA BK889.out) hb); replace HB := Sd.mk (below_step (bBl HB.out) hb); (try clear hb); (try clear hb2); (try clear hk); (try clear hi)))
  go_ret
  exact ⟨tE, bBl HB.out⟩
end
section
def stepP (mt : List S70) (x : Int) (i : Nat) : Int := wrap64 (x * wrap64 (wrap64 (Int.tdiv (wrap64 ((rd_T70 mt (i : Int)).f4 - (rd_T70 mt (i : Int)).f3)) (rd_T70 mt (i : Int)).f5) + 1))
def fewW (mt : List S70) : Nat → Nat → Int → Bool
  | 0, _, _ => true
  | m + 1, i, x => if stepP mt x i > 100000 then false else fewW mt m (i + 1) (stepP mt x i)
def choW (mt : List S70) : Nat → Nat → Int → Int
  | 0, _, x => x
  | m + 1, i, x => if x ≤ 100000 then choW mt m (i + 1) (stepP mt x i) else x
section
variable (o : List ByteArray) (mt : List S70) (s : List S27) (p : List S89) (a4 a5 a6 : Int) (r : List Int)
theorem few_l0 (H : BatchOk o mt s p a4 a5 a6) : ∀ (m i : Nat) (x : Int), i + m = mt.length → Ev (fun k => b_few.l0 k x mt (mt.length : Int) (i : Int)) (fewW mt m i x)
  | 0, i, x, hi => by
    apply Ev.step
    simp only [b_few.l0, if_neg (show ¬ (i : Int) < (mt.length : Int) by omega), fewW]
    exact Ev.const _
  | m + 1, i, x, hi => by
    have ih := few_l0 H m (i + 1) (stepP mt x i) (by omega)
    have M := H.mats i (by omega)
    have hm := H.m12
    apply Ev.step
    simp only [b_few.l0, if_pos (show (i : Int) < (mt.length : Int) by omega), if_pos (i_pos i), if_neg (show ¬ (rd_T70 mt (i : Int)).f5 = 0 by have := M.step; omega), wrap_succ (i_pos i) (show (i : Int) ≤ 1000000000 by omega), fewW]
    show Ev (fun k => if stepP mt x i > 100000 then some false else b_few.l0 k (stepP mt x i) mt (mt.length : Int) ((i + 1 : Nat) : Int)) _
    by_cases h : stepP mt x i > 100000
    · simp only [if_pos h]; exact Ev.const _
    · simp only [if_neg h]; exact ih
theorem few_ev (H : BatchOk o mt s p a4 a5 a6) : Ev (fun k => b_few.f k o mt s p a4 a5 a6) (fewW mt mt.length 0 1) := by
  have := few_l0 o mt s p a4 a5 a6 H mt.length 0 1 (by omega)
  exact this
theorem cho_l0 (H : BatchOk o mt s p a4 a5 a6) : ∀ (m i : Nat) (x : Int), i + m = mt.length → Ev (fun k => rf_Choices.l0 k x (i : Int) o mt s p a4 a5 a6) (choW mt m i x)
  | 0, i, x, hi => by
    apply Ev.step
    simp only [rf_Choices.l0, if_neg (show ¬ (i : Int) < (mt.length : Int) by omega), choW]
    exact Ev.const _
  | m + 1, i, x, hi => by
    have ih := cho_l0 H m (i + 1) (stepP mt x i) (by omega)
    have M := H.mats i (by omega)
    have hm := H.m12
    apply Ev.step
    simp only [rf_Choices.l0, if_pos (show (i : Int) < (mt.length : Int) by omega), if_pos (i_pos i), if_neg (show ¬ (rd_T70 mt (i : Int)).f5 = 0 by have := M.step; omega), wrap_succ (i_pos i) (show (i : Int) ≤ 1000000000 by omega), choW]
    by_cases h : x ≤ 100000
    · simp only [if_pos h]; exact ih
    · simp only [if_neg h]; exact Ev.const _
theorem cho_ev (H : BatchOk o mt s p a4 a5 a6) : Ev (fun k => rf_Choices.f k o mt s p a4 a5 a6) (choW mt mt.length 0 1) := cho_l0 o mt s p a4 a5 a6 H mt.length 0 1 (by omega)
theorem many_ev : ∃ b, Ev (fun k => lw_many.f k o mt s p a4 a5 a6) b := by
  by_cases h : checkV o mt s p a4 a5 a6 = 0
  · by_cases h2 : choW mt mt.length 0 1 > 3000
    · refine ⟨decide (choW mt mt.length 0 1 ≤ 100000), ?_⟩
      unfold lw_many.f
      refine Ev.bind (rcheck o mt s p a4 a5 a6) ?_
      simp only [if_pos h]
      refine Ev.bind (cho_ev o mt s p a4 a5 a6 (check_ok h)) ?_
      simp only [if_pos h2]
      exact Ev.const _
    · refine ⟨false, ?_⟩
      unfold lw_many.f
      refine Ev.bind (rcheck o mt s p a4 a5 a6) ?_
      simp only [if_pos h]
      refine Ev.bind (cho_ev o mt s p a4 a5 a6 (check_ok h)) ?_
      simp only [if_neg h2]
      exact Ev.const _
  · refine ⟨false, ?_⟩
    unfold lw_many.f
    refine Ev.bind (rcheck o mt s p a4 a5 a6) ?_
    simp only [if_neg h]
    exact Ev.const _
def BestV : List Int × Int × Bool × Int :=
  if checkV o mt s p a4 a5 a6 = 0 then (if fewW mt mt.length 0 1 = true then ((bestV mt s p a4 a5 a6).1, (bestV mt s p a4 a5 a6).2.1, (bestV mt s p a4 a5 a6).2.2, 0) else ([], 0, false, 9)) else ([], 0, false, checkV o mt s p a4 a5 a6)
theorem best_ev : Ev (fun k => b_Best.f k o mt s p a4 a5 a6) (BestV o mt s p a4 a5 a6) := by
  unfold b_Best.f BestV
  refine Ev.bind (bcheck o mt s p a4 a5 a6) ?_
  by_cases h : checkV o mt s p a4 a5 a6 = 0
  · simp only [if_pos h]
    refine Ev.bind (few_ev o mt s p a4 a5 a6 (check_ok h)) ?_
    by_cases h2 : fewW mt mt.length 0 1 = true
    · simp only [if_pos h2]; exact Ev.const _
    · simp only [if_neg h2]; exact Ev.const _
  · simp only [if_neg h]; exact Ev.const _
end
structure ChQ (rt : List Int → Bool) (cst : List Int → Int) (L : List (List Int)) (st : List Int × Int × Bool) : Prop where
  no : st.2.2 = false → st = ([], 0, false) ∧ ∀ r ∈ L, rt r = false
  yes : st.2.2 = true → rt st.1 = true ∧ st.2.1 = cst st.1 ∧ ∃ L1 L2, L = L1 ++ st.1 :: L2 ∧ (∀ r ∈ L1, rt r = true → cst st.1 < cst r) ∧ (∀ r ∈ L2, rt r = true → cst st.1 ≤ cst r)
theorem ChQ.step {rt : List Int → Bool} {cst : List Int → Int} {L : List (List Int)} {st : List Int × Int × Bool} (h : ChQ rt cst L st) (r : List Int) : ChQ rt cst (L ++ [r]) (chStep rt cst st r) := by
  obtain ⟨b, n, f⟩ := st
  unfold chStep
  cases hr : rt r with
  | false =>
    simp only [Bool.and_false, Bool.false_eq_true, if_false]
    refine ⟨fun hf => ⟨(h.no hf).1, fun x hx => ?_⟩, fun hf => ?_⟩
    · rcases List.mem_append.1 hx with hx | hx
      · exact (h.no hf).2 x hx
      · rw [List.mem_singleton.1 hx]; exact hr
    · obtain ⟨h1, h2, L1, L2, h3, h4, h5⟩ := h.yes hf
      refine ⟨h1, h2, L1, L2 ++ [r], by rw [h3]; simp, h4, fun x hx hx2 => ?_⟩
      rcases List.mem_append.1 hx with hx | hx
      · exact h5 x hx hx2
      · rw [List.mem_singleton.1 hx, hr] at hx2; cases hx2
  | true =>
    simp only [Bool.and_true]
    by_cases hc : (!f || decide (cst r < n)) = true
    · rw [if_pos hc]
      refine ⟨fun hf => (by cases hf), fun _ => ⟨hr, rfl, L, [], rfl, fun x hx hx2 => ?_, fun x hx => by cases hx⟩⟩
      cases f with
      | false => rw [(h.no rfl).2 x hx] at hx2; cases hx2
      | true =>
        simp at hc
        obtain ⟨h1, h2, L1, L2, h3, h4, h5⟩ := h.yes rfl
        simp only at h1 h2 h3 h4 h5
        rw [h3] at hx
        rcases List.mem_append.1 hx with hx | hx
        · have := h4 x hx hx2; show cst r < cst x; omega
        · rcases List.mem_cons.1 hx with rfl | hx
          · show cst r < cst x; omega
          · have := h5 x hx hx2; show cst r < cst x; omega
    · rw [if_neg hc]
      cases f with
      | false => simp at hc
      | true =>
        simp at hc
        refine ⟨fun hf => (by cases hf), fun hf => ?_⟩
        obtain ⟨h1, h2, L1, L2, h3, h4, h5⟩ := h.yes hf
        simp only at h1 h2 h3 h4 h5
        refine ⟨h1, h2, L1, L2 ++ [r], by rw [h3]; simp, h4, fun x hx hx2 => ?_⟩
        rcases List.mem_append.1 hx with hx | hx
        · exact h5 x hx hx2
        · rw [List.mem_singleton.1 hx]; show cst b ≤ cst r; omega
theorem ChQ.fold {rt : List Int → Bool} {cst : List Int → Int} : ∀ (L pre : List (List Int)) (st : List Int × Int × Bool), ChQ rt cst pre st → ChQ rt cst (pre ++ L) (L.foldl (chStep rt cst) st)
  | [], pre, st, h => by simpa using h
  | r :: L, pre, st, h => by
    have := ChQ.fold L (pre ++ [r]) _ (h.step r)
    simpa using this
theorem best_q (mt : List S70) (s : List S27) (p : List S89) (a4 a5 a6 : Int) : ChQ (passB mt s p a4 a5 a6) (fun r => cW mt r mt.length) (allR mt) (bestV mt s p a4 a5 a6) := by
  have h : ChQ (passB mt s p a4 a5 a6) (fun r => cW mt r mt.length) [] ([], 0, false) := ⟨fun _ => ⟨rfl, fun r hr => by cases hr⟩, fun hf => by cases hf⟩
  exact ChQ.fold (allR mt) [] _ h
theorem kilosF_in (s : Int) : ∀ (c : Nat) (k : Int) (j : Nat), j < c → k + (j : Int) * s ∈ kilosF s c k
  | c + 1, k, 0, _ => by simp [kilosF]
  | c + 1, k, j + 1, h => by
    rw [kilosF, List.mem_cons]
    right
    have := kilosF_in s c (k + s) j (by omega)
    rwa [show k + ((j + 1 : Nat) : Int) * s = k + s + (j : Int) * s by push_cast; rw [Int.add_mul, Int.one_mul]; omega]
theorem kilosF_iff {m : S70} (M : MatB m) (x : Int) : x ∈ kilosF m.f5 (cntM m) m.f3 ↔ may m x = true := by
  have hw : ∀ x, m.f3 ≤ x → x ≤ m.f4 → wrap64 (x - m.f3) = x - m.f3 := fun x h1 h2 => wrap_id (by omega) (by have := M.hi; have := M.lo; omega)
  constructor
  · intro h
    obtain ⟨h1, h2, h3⟩ := kilosF_bd M h
    simp only [may, hw x h1 h2, h3, decide_eq_true h1, decide_eq_true h2, Bool.and_true, beq_self_eq_true]
  · intro h
    simp only [may, Bool.and_eq_true, decide_eq_true_eq, beq_iff_eq] at h
    obtain ⟨⟨h1, h2⟩, h3⟩ := h
    rw [hw x h1 h2] at h3
    have hd : m.f5 ∣ x - m.f3 := Int.dvd_of_tmod_eq_zero h3
    obtain ⟨q, hq⟩ := hd
    have hs := M.s1
    have hq0 : 0 ≤ q := by
      rcases Int.lt_or_le q 0 with hn | hn
      · have := Int.mul_le_mul_of_nonneg_left (show q ≤ -1 by omega) (show 0 ≤ m.f5 by omega)
        rw [← hq, Int.mul_neg, Int.mul_one] at this; omega
      · exact hn
    have hl := cntM_last M
    have hlt : q < (cntM m : Int) := by
      rcases Int.lt_or_le q (cntM m : Int) with hn | hn
      · exact hn
      · have := Int.mul_le_mul_of_nonneg_left hn (show 0 ≤ m.f5 by omega)
        rw [← hq, Int.mul_comm m.f5] at this; omega
    have := kilosF_in m.f5 (cntM m) m.f3 q.toNat (by omega)
    rwa [show m.f3 + ((q.toNat : Nat) : Int) * m.f5 = x by rw [Int.toNat_of_nonneg hq0, Int.mul_comm]; omega] at this
theorem mem_allR : ∀ (mt : List S70), (∀ m ∈ mt, MatB m) → ∀ r, r ∈ allR mt ↔ (r.length = mt.length ∧ ∀ j : Nat, j < mt.length → may (rd_T70 mt (j : Int)) (rd r (j : Int)) = true)
  | [], _, r => by
    simp only [allR, List.mem_singleton]
    constructor
    · rintro rfl; exact ⟨rfl, fun j hj => by simp at hj⟩
    · rintro ⟨h, _⟩; exact List.length_eq_zero_iff.1 (by simpa using h)
  | m :: ms, H, r => by
    have M := H m List.mem_cons_self
    have ih := mem_allR ms (fun x hx => H x (List.mem_cons_of_mem _ hx))
    simp only [allR, List.mem_flatMap, List.mem_map]
    constructor
    · rintro ⟨k, hk, q, hq, rfl⟩
      have h := (ih q).1 hq
      refine ⟨by simp [h.1], fun j hj => ?_⟩
      cases j with
      | zero => simpa [rd, rd_T70] using (kilosF_iff M k).1 hk
      | succ j =>
        have := h.2 j (by simpa using hj)
        simpa [rd, rd_T70] using this
    · rintro ⟨h1, h2⟩
      cases r with
      | nil => simp at h1
      | cons k q =>
        refine ⟨k, (kilosF_iff M k).2 (by simpa [rd, rd_T70] using h2 0 (by simp)), q, (ih q).2 ⟨by simpa using h1, fun j hj => ?_⟩, rfl⟩
        have := h2 (j + 1) (by simpa using hj)
        simpa [rd, rd_T70] using this
theorem mayL_iff (mt : List S70) (r : List Int) : ∀ (m i : Nat), mayL mt r m i = true ↔ ∀ j : Nat, i ≤ j → j < i + m → may (rd_T70 mt (j : Int)) (rd r (j : Int)) = true
  | 0, i => ⟨fun _ j h1 h2 => by omega, fun _ => rfl⟩
  | m + 1, i => by
    rw [mayL, Bool.and_eq_true, mayL_iff mt r m (i + 1)]
    constructor
    · rintro ⟨h1, h2⟩ j h3 h4
      by_cases hj : j = i
      · rw [hj]; exact h1
      · exact h2 j (by omega) (by omega)
    · intro h
      exact ⟨h i (Nat.le_refl _) (by omega), fun j h1 h2 => h j (by omega) (by omega)⟩
theorem allowed_iff {mt : List S70} (H : ∀ m ∈ mt, MatB m) (r : List Int) : r ∈ allR mt ↔ (r.length = mt.length ∧ mayL mt r mt.length 0 = true) := by
  rw [mem_allR mt H, mayL_iff]
  constructor
  · rintro ⟨h1, h2⟩; exact ⟨h1, fun j _ hj => h2 j (by omega)⟩
  · rintro ⟨h1, h2⟩; exact ⟨h1, fun j hj => h2 j (by omega) (by omega)⟩
def LexLt : List Int → List Int → Prop
  | a :: u, b :: v => a < b ∨ (a = b ∧ LexLt u v)
  | _, _ => False
theorem lex_le : ∀ (b x : List Int), LexLt b x → ∀ j : Nat, j < b.length → (∀ i : Nat, i < j → rd b (i : Int) = rd x (i : Int)) → rd b (j : Int) ≤ rd x (j : Int)
  | a :: u, c :: v, h, 0, _, _ => by
    have : a ≤ c := by
      rcases h with h | h
      · omega
      · exact Int.le_of_eq h.1
    simpa [rd] using this
  | a :: u, c :: v, h, j + 1, hj, he => by
    have h0 : a = c := by simpa [rd] using he 0 (by omega)
    have h1 : LexLt u v := by
      rcases h with h | h
      · omega
      · exact h.2
    have := lex_le u v h1 j (by simpa using hj) (fun i hi => by simpa [rd] using he (i + 1) (by omega))
    simpa [rd] using this
  | [], _, h, _, _, _ => h.elim
  | _ :: _, [], h, _, _, _ => h.elim
theorem kilosF_gt (s : Int) (hs : 1 ≤ s) (c : Nat) (k : Int) : ∀ x ∈ kilosF s c k, k ≤ x := by
  intro x hx
  obtain ⟨j, _, rfl⟩ := kilosF_mem s (by omega) c k x hx
  have := Int.mul_nonneg (show 0 ≤ (j : Int) by omega) (show 0 ≤ s by omega)
  omega
theorem lex_block (ms : List S70) (s : Int) (hs : 1 ≤ s) (hp : (allR ms).Pairwise LexLt) : ∀ (c : Nat) (k : Int), ((kilosF s c k).flatMap fun k => (allR ms).map (k :: ·)).Pairwise LexLt
  | 0, k => by simp [kilosF]
  | c + 1, k => by
    rw [kilosF, List.flatMap_cons, List.pairwise_append]
    refine ⟨?_, lex_block ms s hs hp c (k + s), ?_⟩
    · rw [List.pairwise_map]
      exact hp.imp (fun {a b} h => show k < k ∨ (k = k ∧ LexLt a b) from Or.inr ⟨rfl, h⟩)
    · intro a ha b hb
      obtain ⟨q, _, rfl⟩ := List.mem_map.1 ha
      obtain ⟨k2, hk2, hb2⟩ := List.mem_flatMap.1 hb
      obtain ⟨q2, _, rfl⟩ := List.mem_map.1 hb2
      have := kilosF_gt s hs c (k + s) k2 hk2
      exact show k < k2 ∨ _ from Or.inl (by omega)
theorem lex_all : ∀ (mt : List S70), (∀ m ∈ mt, MatB m) → (allR mt).Pairwise LexLt
  | [], _ => by simp [allR]
  | m :: ms, H => lex_block ms m.f5 (H m List.mem_cons_self).s1 (lex_all ms (fun x hx => H x (List.mem_cons_of_mem _ hx))) _ _
end
section
mutual
def lw_BatchCheapest.j0 : Nat → Bool → List ByteArray → List (S70) → List (S27) → List (S89) → Int → Int → Int → List Int → List Int → Int → Int → Int → List Int → Option (Bool)
 | 0, _, _, _, _, _, _, _, _, _, _, _, _, _, _ => none
 | k + 1, x28, x280q0, x280q1, x280q2, x280q3, x280q4, x280q5, x280q6, x281q0, x281q1, x281q2, x281q3, x281q4, x281q5 => if x28 = true then ((lw_lives.f k).bind fun t284 => (some t284)) else ((b_Best.f k x280q0 x280q1 x280q2 x280q3 x280q4 x280q5 x280q6).bind fun bt285 => (if bt285.2.2.2 = 0 then ((b_Passes.f k x280q0 x280q1 x280q2 x280q3 x280q4 x280q5 x280q6 x281q0).bind fun bt292 => ((b_Allowed.f k x280q0 x280q1 x280q2 x280q3 x280q4 x280q5 x280q6 x281q0).bind fun bt294 => ((b_Cost.f k x280q0 x280q1 x280q2 x280q3 x280q4 x280q5 x280q6 x281q0).bind fun bt296 => (if bt292.2 = 0 then (if bt294.2 = 0 then (if bt296.2 = 0 then (if bt292.1 = true then (lw_BatchCheapest.j1 k bt285.1 bt285.2.1 bt285.2.2.1 bt296.1 bt294.1 x280q0 x280q1 x280q2 x280q3 x280q4 x280q5 x280q6 x281q0 x281q1 x281q2 x281q3 x281q4 x281q5) else (lw_BatchCheapest.j1 k bt285.1 bt285.2.1 bt285.2.2.1 bt296.1 false x280q0 x280q1 x280q2 x280q3 x280q4 x280q5 x280q6 x281q0 x281q1 x281q2 x281q3 x281q4 x281q5)) else (lw_BatchCheapest.j1 k bt285.1 bt285.2.1 bt285.2.2.1 bt296.1 false x280q0 x280q1 x280q2 x280q3 x280q4 x280q5 x280q6 x281q0 x281q1 x281q2 x281q3 x281q4 x281q5)) else (lw_BatchCheapest.j1 k bt285.1 bt285.2.1 bt285.2.2.1 bt296.1 false x280q0 x280q1 x280q2 x280q3 x280q4 x280q5 x280q6 x281q0 x281q1 x281q2 x281q3 x281q4 x281q5)) else (lw_BatchCheapest.j1 k bt285.1 bt285.2.1 bt285.2.2.1 bt296.1 false x280q0 x280q1 x280q2 x280q3 x280q4 x280q5 x280q6 x281q0 x281q1 x281q2 x281q3 x281q4 x281q5))))) else (if (bt285.1.length : Int) = 0 then (if bt285.2.2.1 = true then (some false) else ((lw_lives.f k).bind fun t291 => (some t291))) else (some false))))
def lw_BatchCheapest.j1 : Nat → List Int → Int → Bool → Int → Bool → List ByteArray → List (S70) → List (S27) → List (S89) → Int → Int → Int → List Int → List Int → Int → Int → Int → List Int → Option (Bool)
 | 0, _, _, _, _, _, _, _, _, _, _, _, _, _, _, _, _, _, _ => none
 | k + 1, x5, x6, x7, x13, x15, x280q0, x280q1, x280q2, x280q3, x280q4, x280q5, x280q6, x281q0, x281q1, x281q2, x281q3, x281q4, x281q5 => if x7 = true then ((b_Passes.f k x280q0 x280q1 x280q2 x280q3 x280q4 x280q5 x280q6 x5).bind fun bt299 => ((b_Allowed.f k x280q0 x280q1 x280q2 x280q3 x280q4 x280q5 x280q6 x5).bind fun bt301 => ((b_Cost.f k x280q0 x280q1 x280q2 x280q3 x280q4 x280q5 x280q6 x5).bind fun bt303 => (if bt299.2 = 0 then (if bt301.2 = 0 then (if bt303.2 = 0 then (if bt299.1 = true then (if bt301.1 = true then (lw_BatchCheapest.j2 k x5 x6 x13 x15 (bt303.1 != x6) x281q0 x281q1 x281q2 x281q3 x281q4 x281q5) else (lw_BatchCheapest.j2 k x5 x6 x13 x15 true x281q0 x281q1 x281q2 x281q3 x281q4 x281q5)) else (lw_BatchCheapest.j2 k x5 x6 x13 x15 true x281q0 x281q1 x281q2 x281q3 x281q4 x281q5)) else (lw_BatchCheapest.j2 k x5 x6 x13 x15 true x281q0 x281q1 x281q2 x281q3 x281q4 x281q5)) else (lw_BatchCheapest.j2 k x5 x6 x13 x15 true x281q0 x281q1 x281q2 x281q3 x281q4 x281q5)) else (lw_BatchCheapest.j2 k x5 x6 x13 x15 true x281q0 x281q1 x281q2 x281q3 x281q4 x281q5))))) else (if (x5.length : Int) = 0 then (if x6 = 0 then (if x15 = true then (some false) else ((lw_lives.f k).bind fun t298 => (some t298))) else (some false)) else (some false))
def lw_BatchCheapest.j2 : Nat → List Int → Int → Int → Bool → Bool → List Int → List Int → Int → Int → Int → List Int → Option (Bool)
 | 0, _, _, _, _, _, _, _, _, _, _, _ => none
 | k + 1, x5, x6, x13, x15, x142, x281q0, x281q1, x281q2, x281q3, x281q4, x281q5 => if x142 = true then (some false) else (if x15 = true then (if x13 < x6 then (some false) else (if x13 = x6 then (lw_BatchCheapest.l0 k x5 0 x281q0 x281q1 x281q2 x281q3 x281q4 x281q5) else ((lw_lives.f k).bind fun t312 => (some t312)))) else ((lw_lives.f k).bind fun t305 => (some t305)))
def lw_BatchCheapest.l0 : Nat → List Int → Int → List Int → List Int → Int → Int → Int → List Int → Option (Bool)
 | 0, _, _, _, _, _, _, _, _ => none
 | k + 1, x5, x18, x281q0, x281q1, x281q2, x281q3, x281q4, x281q5 => if x18 < (x5.length : Int) then (if 0 ≤ x18 then (if x18 < (x281q0.length : Int) then (if (rd x281q0 x18) = (rd x5 x18) then (lw_BatchCheapest.l0 k x5 (wrap64 (x18 + 1)) x281q0 x281q1 x281q2 x281q3 x281q4 x281q5) else (if (rd x5 x18) < (rd x281q0 x18) then ((lw_lives.f k).bind fun t310 => (some t310)) else (some false))) else (none)) else (none)) else ((lw_lives.f k).bind fun t311 => (some t311))
end
def lw_BatchCheapest.f (k : Nat) (l0_0 : List ByteArray) (l0_1 : List (S70)) (l0_2 : List (S27)) (l0_3 : List (S89)) (a0_4 : Int) (a0_5 : Int) (a0_6 : Int) (l1_0 : List Int) (l1_1 : List Int) (a1_2 : Int) (a1_3 : Int) (a1_4 : Int) (l1_5 : List Int) : Option (Bool) := (lw_Great.f k l0_0 l0_1 l0_2 l0_3 a0_4 a0_5 a0_6).bind fun t281 => (if t281 = true then (lw_BatchCheapest.j0 k true l0_0 l0_1 l0_2 l0_3 a0_4 a0_5 a0_6 l1_0 l1_1 a1_2 a1_3 a1_4 l1_5) else ((lw_wide.f l1_0 l1_1 a1_2 a1_3 a1_4 l1_5).bind fun t282 => (if t282 = true then (lw_BatchCheapest.j0 k true l0_0 l0_1 l0_2 l0_3 a0_4 a0_5 a0_6 l1_0 l1_1 a1_2 a1_3 a1_4 l1_5) else ((lw_many.f k l0_0 l0_1 l0_2 l0_3 a0_4 a0_5 a0_6).bind fun t283 => (lw_BatchCheapest.j0 k t283 l0_0 l0_1 l0_2 l0_3 a0_4 a0_5 a0_6 l1_0 l1_1 a1_2 a1_3 a1_4 l1_5)))))
def lw_BatchCheapest.T25 : Bool × List (List Nat × List Nat) := (true, [([], []), ([0], [0]), ([], []), ([1, 2], [1, 2]), ([3], [3]), ([], []), ([], []), ([5, 6], [5, 6]), ([7], [7]), ([4, 8], [4, 8])])
def lw_BatchCheapest.B25 : List Nat := [0, 1, 0, 7, 15, 0, 0, 96, 224, 511]
theorem lw_BatchCheapest.tab25 : rtab .any (opsOf Tryz.f7 25) = lw_BatchCheapest.T25 := by kernel_rfl
theorem lw_BatchCheapest.bits25 : waitsOk lw_BatchCheapest.T25.2 lw_BatchCheapest.B25 = true := by kernel_rfl
def lw_BatchCheapest.T26 : Bool × List (List Nat × List Nat) := (true, [([], []), ([], []), ([0, 1], [0, 1]), ([2], [2]), ([], []), ([4], [4]), ([], []), ([5, 6], [5, 6]), ([7], [7]), ([3, 8], [3, 8]), ([9], [9]), ([10, 10], [10]), ([10, 11], [10, 11]), ([12, 11, 0, 1, 2, 3, 4, 5, 6, 7, 8, 9, 10, 11, 12], [12])])
def lw_BatchCheapest.B26 : List Nat := [0, 0, 3, 7, 0, 16, 0, 112, 240, 511, 1023, 2047, 4095, 8191]
theorem lw_BatchCheapest.tab26 : rtab .any (opsOf Tryz.f7 26) = lw_BatchCheapest.T26 := by kernel_rfl
theorem lw_BatchCheapest.bits26 : waitsOk lw_BatchCheapest.T26.2 lw_BatchCheapest.B26 = true := by kernel_rfl
theorem lw_BatchCheapest.calls (k : Nat) (A0_0 : Option Addr) (c0_0 : Nat) (l0_0 : List ByteArray) (A0_1 : Option Addr) (c0_1 : Nat) (l0_1 : List (S70)) (A0_2 : Option Addr) (c0_2 : Nat) (l0_2 : List (S27)) (A0_3 : Option Addr) (c0_3 : Nat) (l0_3 : List (S89)) (a0_4 : Int) (a0_5 : Int) (a0_6 : Int) (A1_0 : Option Addr) (c1_0 : Nat) (l1_0 : List Int) (A1_1 : Option Addr) (c1_1 : Nat) (l1_1 : List Int) (a1_2 : Int) (a1_3 : Int) (a1_4 : Int) (A1_5 : Option Addr) (c1_5 : Nat) (l1_5 : List Int) (r : Bool) (w : World) (hr0_0 : Kd.C Kd.string w A0_0 l0_0.length l0_0) (hc0_0 : l0_0.length ≤ c0_0) (hr0_1 : Kd.C k70 w A0_1 l0_1.length l0_1) (hc0_1 : l0_1.length ≤ c0_1) (hr0_2 : Kd.C k27 w A0_2 l0_2.length l0_2) (hc0_2 : l0_2.length ≤ c0_2) (hr0_3 : Kd.C k89 w A0_3 l0_3.length l0_3) (hc0_3 : l0_3.length ≤ c0_3) (hr1_0 : Kd.C (Kd.int .i64) w A1_0 l1_0.length l1_0) (hc1_0 : l1_0.length ≤ c1_0) (hr1_1 : Kd.C (Kd.int .i64) w A1_1 l1_1.length l1_1) (hc1_1 : l1_1.length ≤ c1_1) (hr1_5 : Kd.C (Kd.int .i64) w A1_5 l1_5.length l1_5) (hc1_5 : l1_5.length ≤ c1_5) (h : lw_BatchCheapest.f k l0_0 l0_1 l0_2 l0_3 a0_4 a0_5 a0_6 l1_0 l1_1 a1_2 a1_3 a1_4 l1_5 = some r) :
  Calls Tryz.prog 7 #[.agg #[.slice A0_0 l0_0.length c0_0, .slice A0_1 l0_1.length c0_1, .slice A0_2 l0_2.length c0_2, .slice A0_3 l0_3.length c0_3, .int .i64 a0_4, .int .i64 a0_5, .int .i64 a0_6], .agg #[.slice A1_0 l1_0.length c1_0, .slice A1_1 l1_1.length c1_1, .int .i64 a1_2, .int .i64 a1_3, .int .i64 a1_4, .slice A1_5 l1_5.length c1_5]] w fun e w' => e = .returned (.bool r) ∧ Below w.heap.size w w' := by
 have hu29 := Tryz.underlying29; have hu34 := Tryz.underlying34; have HR0_0 := Sd.mk hr0_0; have HC0_0 := Sd.mk hc0_0; clear hr0_0 hc0_0; have HR0_1 := Sd.mk hr0_1; have HC0_1 := Sd.mk hc0_1; clear hr0_1 hc0_1; have HR0_2 := Sd.mk hr0_2; have HC0_2 := Sd.mk hc0_2; clear hr0_2 hc0_2; have HR0_3 := Sd.mk hr0_3; have HC0_3 := Sd.mk hc0_3; clear hr0_3 hc0_3; have HR1_0 := Sd.mk hr1_0; have HC1_0 := Sd.mk hc1_0; clear hr1_0 hc1_0; have HR1_1 := Sd.mk hr1_1; have HC1_1 := Sd.mk hc1_1; clear hr1_1 hc1_1; have HR1_5 := Sd.mk hr1_5; have HC1_5 := Sd.mk hc1_5; clear hr1_5 hc1_5; have HB := Sd.mk (Below.refl w.heap.size w)
 have H : ((lw_Great.f k l0_0 l0_1 l0_2 l0_3 a0_4 a0_5 a0_6).bind fun t281 => (if t281 = true then (lw_BatchCheapest.j0 k true l0_0 l0_1 l0_2 l0_3 a0_4 a0_5 a0_6 l1_0 l1_1 a1_2 a1_3 a1_4 l1_5) else ((lw_wide.f l1_0 l1_1 a1_2 a1_3 a1_4 l1_5).bind fun t282 => (if t282 = true then (lw_BatchCheapest.j0 k true l0_0 l0_1 l0_2 l0_3 a0_4 a0_5 a0_6 l1_0 l1_1 a1_2 a1_3 a1_4 l1_5) else ((lw_many.f k l0_0 l0_1 l0_2 l0_3 a0_4 a0_5 a0_6).bind fun t283 => (lw_BatchCheapest.j0 k t283 l0_0 l0_1 l0_2 l0_3 a0_4 a0_5 a0_6 l1_0 l1_1 a1_2 a1_3 a1_4 l1_5)))))) = some r := h
 clear h; have HC3 := Sd.mk H; clear H
 go_enter Tryz.func7, Tryz.ntmps7
 go_upto_region 1 with (first | ((with_reducible refine gate_dst (N := 2) rfl ?_); refine box_event ?hg (N := 2) ?hd (cs := #[.slice A0_0 l0_0.length c0_0, .slice A0_1 l0_1.length c0_1, .slice A0_2 l0_2.length c0_2, .slice A0_3 l0_3.length c0_3, .int .i64 a0_4, .int .i64 a0_5, .int .i64 a0_6]) (t := 29) ?hr ?_; (case hd => rfl); (case hg => rfl); (case hr => exact tG); intro gb279 hg w4 hbox hb; have BK279 := Sd.mk (hbox); have GW279 := Sd.mk (bSz hg (bBl HB.out)); have GE279 := Sd.mk (bSz hg (bBl HB.out)); replace HB := Sd.mk (below_step (bBl HB.out) hb); clear hb hbox hg) | ((with_reducible refine gate_dst (N := 3) rfl ?_); refine box_event ?hg (N := 3) ?hd (cs := #[.slice A1_0 l1_0.length c1_0, .slice A1_1 l1_1.length c1_1, .int .i64 a1_2, .int .i64 a1_3, .int .i64 a1_4, .slice A1_5 l1_5.length c1_5]) (t := 34) ?hr ?_; (case hd => rfl); (case hg => rfl); (case hr => exact tG); intro gb280 hg w5 hbox hb; have BK280 := Sd.mk (hbox); have GW280 := Sd.mk (bSz hg (bBl HB.out)); have GE280 := Sd.mk (bSz hg (bBl HB.out)); replace HB := Sd.mk (below_step (bBl HB.out) hb); have NB279_280 := Sd.mk (bNl hg (bkA BK279.out)); have NB280_279 := Sd.mk (bNg hg (bkA BK279.out)); replace BK279 := Sd.mk (blk_below (bkA BK279.out) hb); clear hb hbox hg))
 (try simp only [Act.put, List.setIfInBounds_toArray, List.set_cons_zero, List.set_cons_succ])
 go_cut [28] (fun v28 wc => ∃ (kq : Nat) (x28_2 : Bool), v28 = .bool x28_2 ∧ Sd (lw_BatchCheapest.j0 kq x28_2 l0_0 l0_1 l0_2 l0_3 a0_4 a0_5 a0_6 l1_0 l1_1 a1_2 a1_3 a1_4 l1_5 = some r) ∧ Sd (kq ≤ k) ∧ Sd (wc.heap[gb279]? = some (.cells #[(.slice A0_0 l0_0.length c0_0), (.slice A0_1 l0_1.length c0_1), (.slice A0_2 l0_2.length c0_2), (.slice A0_3 l0_3.length c0_3), .int .i64 a0_4, .int .i64 a0_5, .int .i64 a0_6] 29 (0, 0))) ∧ Sd (wc.heap[gb280]? = some (.cells #[(.slice A1_0 l1_0.length c1_0), (.slice A1_1 l1_1.length c1_1), .int .i64 a1_2, .int .i64 a1_3, .int .i64 a1_4, (.slice A1_5 l1_5.length c1_5)] 34 (0, 0))) ∧ Sd (Below w.heap.size w wc))
 case first =>
  have H := HC3.out; clear HC3; replace H := Option.bind_eq_some_iff.mp H; obtain ⟨t281, A60, H⟩ := H
  try dsimp only at H
  have A6 := Sd.mk A60; clear A60
  by_cases c7 : t281 = true
  ·subst c7
   have H1 : (lw_BatchCheapest.j0 k true l0_0 l0_1 l0_2 l0_3 a0_4 a0_5 a0_6 l1_0 l1_1 a1_2 a1_3 a1_4 l1_5) = some r := by rw [if_pos rfl] at H; exact H
   clear H; have H := H1; clear H1; have H' := Sd.mk H; clear H; have hnb8 := NB279_280.out; have hnc8 := NB280_279.out; obtain ⟨u9_0, u9_1, u9_2, u9_3, u9_4, u9_5, u9_6, o9_0, o9_1, o9_2, o9_3, o9_4, o9_5, o9_6⟩ := bc7 (w := w5) BK279.out
   go_wp2_with (first | ((with_reducible refine gate_callee (f := 10) rfl ?_); refine goesL_ (some 20) rfl rfl Tryz.func10 (by kernel_rfl) rfl #[.agg #[.slice A0_0 l0_0.length c0_0, .slice A0_1 l0_1.length c0_1, .slice A0_2 l0_2.length c0_2, .slice A0_3 l0_3.length c0_3, .int .i64 a0_4, .int .i64 a0_5, .int .i64 a0_6]] rfl tM ?_; (with_reducible refine (lw_Great.calls k _ _ l0_0 _ _ l0_1 _ _ l0_2 _ _ l0_3 a0_4 a0_5 a0_6 true _ (cS (Kd.C_below HR0_0.out HB.out)) HC0_0.out (cS (Kd.C_below HR0_1.out HB.out)) HC0_1.out (cS (Kd.C_below HR0_2.out HB.out)) HC0_2.out (cS (Kd.C_below HR0_3.out HB.out)) HC0_3.out A6.out).mono ?_); rintro e w10 ⟨rfl, hb⟩; refine ⟨_, rfl, ?_⟩; replace BK279 := Sd.mk (blk_below (bkA BK279.out) hb); replace BK280 := Sd.mk (blk_below (bkA BK280.out) hb); replace HB := Sd.mk (below_step (bBl HB.out) hb); (try clear hb); (try clear hb2); (try clear hk); (try clear hi)))
   go_meet
   case rel => exact ⟨_, (true), tS, H', ⟨by first | omega | exact Nat.le_refl _⟩, ⟨bkA BK279.out⟩, ⟨bkA BK280.out⟩, ⟨bBl HB.out⟩⟩
  ·replace c7 := Bool.eq_false_iff.mpr c7
   subst c7
   have H1 : ((lw_wide.f l1_0 l1_1 a1_2 a1_3 a1_4 l1_5).bind fun t282 => (if t282 = true then (lw_BatchCheapest.j0 k true l0_0 l0_1 l0_2 l0_3 a0_4 a0_5 a0_6 l1_0 l1_1 a1_2 a1_3 a1_4 l1_5) else ((lw_many.f k l0_0 l0_1 l0_2 l0_3 a0_4 a0_5 a0_6).bind fun t283 => (lw_BatchCheapest.j0 k t283 l0_0 l0_1 l0_2 l0_3 a0_4 a0_5 a0_6 l1_0 l1_1 a1_2 a1_3 a1_4 l1_5)))) = some r := by rw [if_neg (show ¬ (false = true) by decide)] at H; exact H
   clear H; have H := H1; clear H1; replace H := Option.bind_eq_some_iff.mp H; obtain ⟨t282, A110, H⟩ := H
   try dsimp only at H
   have A11 := Sd.mk A110; clear A110
   by_cases c12 : t282 = true
   ·subst c12
    have H1 : (lw_BatchCheapest.j0 k true l0_0 l0_1 l0_2 l0_3 a0_4 a0_5 a0_6 l1_0 l1_1 a1_2 a1_3 a1_4 l1_5) = some r := by rw [if_pos rfl] at H; exact H
    clear H; have H := H1; clear H1; have H' := Sd.mk H; clear H; have hnb13 := NB279_280.out; have hnc13 := NB280_279.out; obtain ⟨u14_0, u14_1, u14_2, u14_3, u14_4, u14_5, u14_6, o14_0, o14_1, o14_2, o14_3, o14_4, o14_5, o14_6⟩ := bc7 (w := w5) BK279.out
    go_wp2_with (first | ((with_reducible refine gate_callee (f := 10) rfl ?_); refine goesL_ (some 20) rfl rfl Tryz.func10 (by kernel_rfl) rfl #[.agg #[.slice A0_0 l0_0.length c0_0, .slice A0_1 l0_1.length c0_1, .slice A0_2 l0_2.length c0_2, .slice A0_3 l0_3.length c0_3, .int .i64 a0_4, .int .i64 a0_5, .int .i64 a0_6]] rfl tM ?_; (with_reducible refine (lw_Great.calls k _ _ l0_0 _ _ l0_1 _ _ l0_2 _ _ l0_3 a0_4 a0_5 a0_6 false _ (cS (Kd.C_below HR0_0.out HB.out)) HC0_0.out (cS (Kd.C_below HR0_1.out HB.out)) HC0_1.out (cS (Kd.C_below HR0_2.out HB.out)) HC0_2.out (cS (Kd.C_below HR0_3.out HB.out)) HC0_3.out A6.out).mono ?_); rintro e w15 ⟨rfl, hb⟩; refine ⟨_, rfl, ?_⟩; replace BK279 := Sd.mk (blk_below (bkA BK279.out) hb); replace BK280 := Sd.mk (blk_below (bkA BK280.out) hb); replace HB := Sd.mk (below_step (bBl HB.out) hb); (try clear hb); (try clear hb2); (try clear hk); (try clear hi); obtain ⟨u16_0, u16_1, u16_2, u16_3, u16_4, u16_5, o16_0, o16_1, o16_2, o16_3, o16_4, o16_5⟩ := bc6 (w := w15) BK280.out) | (go_at_call 11; (with_reducible refine (lw_wide.calls _ _ l1_0 _ _ l1_1 a1_2 a1_3 a1_4 _ _ l1_5 true _ (cS (Kd.C_below HR1_0.out HB.out)) HC1_0.out (cS (Kd.C_below HR1_1.out HB.out)) HC1_1.out (cS (Kd.C_below HR1_5.out HB.out)) HC1_5.out A11.out).mono ?_); rintro e w17 ⟨rfl, hb⟩; replace BK279 := Sd.mk (blk_below (bkA BK279.out) hb); replace BK280 := Sd.mk (blk_below (bkA BK280.out) hb); replace HB := Sd.mk (below_step (bBl HB.out) hb); (try clear hb); (try clear hb2); (try clear hk); (try clear hi)))
    go_meet
    case rel => exact ⟨_, (true), tS, H', ⟨by first | omega | exact Nat.le_refl _⟩, ⟨bkA BK279.out⟩, ⟨bkA BK280.out⟩, ⟨bBl HB.out⟩⟩
   ·replace c12 := Bool.eq_false_iff.mpr c12
    subst c12
    have H1 : ((lw_many.f k l0_0 l0_1 l0_2 l0_3 a0_4 a0_5 a0_6).bind fun t283 => (lw_BatchCheapest.j0 k t283 l0_0 l0_1 l0_2 l0_3 a0_4 a0_5 a0_6 l1_0 l1_1 a1_2 a1_3 a1_4 l1_5)) = some r := by rw [if_neg (show ¬ (false = true) by decide)] at H; exact H
    clear H; have H := H1; clear H1; replace H := Option.bind_eq_some_iff.mp H; obtain ⟨t283, A180, H⟩ := H
    try dsimp only at H
    have A18 := Sd.mk A180; clear A180; have H' := Sd.mk H; clear H; have hnb19 := NB279_280.out; have hnc19 := NB280_279.out; obtain ⟨u20_0, u20_1, u20_2, u20_3, u20_4, u20_5, u20_6, o20_0, o20_1, o20_2, o20_3, o20_4, o20_5, o20_6⟩ := bc7 (w := w5) BK279.out
    go_wp2_with (first | ((with_reducible refine gate_callee (f := 10) rfl ?_); refine goesL_ (some 20) rfl rfl Tryz.func10 (by kernel_rfl) rfl #[.agg #[.slice A0_0 l0_0.length c0_0, .slice A0_1 l0_1.length c0_1, .slice A0_2 l0_2.length c0_2, .slice A0_3 l0_3.length c0_3, .int .i64 a0_4, .int .i64 a0_5, .int .i64 a0_6]] rfl tM ?_; (with_reducible refine (lw_Great.calls k _ _ l0_0 _ _ l0_1 _ _ l0_2 _ _ l0_3 a0_4 a0_5 a0_6 false _ (cS (Kd.C_below HR0_0.out HB.out)) HC0_0.out (cS (Kd.C_below HR0_1.out HB.out)) HC0_1.out (cS (Kd.C_below HR0_2.out HB.out)) HC0_2.out (cS (Kd.C_below HR0_3.out HB.out)) HC0_3.out A6.out).mono ?_); rintro e w21 ⟨rfl, hb⟩; refine ⟨_, rfl, ?_⟩; replace BK279 := Sd.mk (blk_below (bkA BK279.out) hb); replace BK280 := Sd.mk (blk_below (bkA BK280.out) hb); replace HB := Sd.mk (below_step (bBl HB.out) hb); (try clear hb); (try clear hb2); (try clear hk); (try clear hi); obtain ⟨u22_0, u22_1, u22_2, u22_3, u22_4, u22_5, o22_0, o22_1, o22_2, o22_3, o22_4, o22_5⟩ := bc6 (w := w21) BK280.out) | (go_at_call 11; (with_reducible refine (lw_wide.calls _ _ l1_0 _ _ l1_1 a1_2 a1_3 a1_4 _ _ l1_5 false _ (cS (Kd.C_below HR1_0.out HB.out)) HC1_0.out (cS (Kd.C_below HR1_1.out HB.out)) HC1_1.out (cS (Kd.C_below HR1_5.out HB.out)) HC1_5.out A11.out).mono ?_); rintro e w23 ⟨rfl, hb⟩; replace BK279 := Sd.mk (blk_below (bkA BK279.out) hb); replace BK280 := Sd.mk (blk_below (bkA BK280.out) hb); replace HB := Sd.mk (below_step (bBl HB.out) hb); (try clear hb); (try clear hb2); (try clear hk); (try clear hi); obtain ⟨u24_0, u24_1, u24_2, u24_3, u24_4, u24_5, u24_6, o24_0, o24_1, o24_2, o24_3, o24_4, o24_5, o24_6⟩ := bc7 (w := w23) BK279.out) | (go_at_call 27; (with_reducible refine (lw_many.calls k _ _ l0_0 _ _ l0_1 _ _ l0_2 _ _ l0_3 a0_4 a0_5 a0_6 t283 _ (cS (Kd.C_below HR0_0.out HB.out)) HC0_0.out (cS (Kd.C_below HR0_1.out HB.out)) HC0_1.out (cS (Kd.C_below HR0_2.out HB.out)) HC0_2.out (cS (Kd.C_below HR0_3.out HB.out)) HC0_3.out A18.out).mono ?_); rintro e w25 ⟨rfl, hb⟩; replace BK279 := Sd.mk (blk_below (bkA BK279.out) hb); replace BK280 := Sd.mk (blk_below (bkA BK280.out) hb); replace HB := Sd.mk (below_step (bBl HB.out) hb); (try clear hb); (try clear hb2); (try clear hk); (try clear hi)))
    go_meet
    case rel => exact ⟨_, (t283), tS, H', ⟨by first | omega | exact Nat.le_refl _⟩, ⟨bkA BK279.out⟩, ⟨bkA BK280.out⟩, ⟨bBl HB.out⟩⟩
 case rest =>
  as_aux_lemma =>
  clear HC3; (try clear c1); (try clear p2); (try clear c7); (try clear c8); (try clear c10); (try clear c12); (try clear c13); (try clear c19); (try clear u14_0 u14_1 u14_2 u14_3 u14_4 u14_5 u14_6); (try clear u16_0 u16_1 u16_2 u16_3 u16_4 u16_5); (try clear u20_0 u20_1 u20_2 u20_3 u20_4 u20_5 u20_6); (try clear u22_0 u22_1 u22_2 u22_3 u22_4 u22_5); (try clear u24_0 u24_1 u24_2 u24_3 u24_4 u24_5 u24_6); (try clear u9_0 u9_1 u9_2 u9_3 u9_4 u9_5 u9_6); (try clear o14_0 o14_1 o14_2 o14_3 o14_4 o14_5 o14_6); (try clear o16_0 o16_1 o16_2 o16_3 o16_4 o16_5); (try clear o20_0 o20_1 o20_2 o20_3 o20_4 o20_5 o20_6); (try clear o22_0 o22_1 o22_2 o22_3 o22_4 o22_5); (try clear o24_0 o24_1 o24_2 o24_3 o24_4 o24_5 o24_6); (try clear o9_0 o9_1 o9_2 o9_3 o9_4 o9_5 o9_6); obtain ⟨kq, x28_2, rfl, HA, HJ2, BK279, BK280, HB⟩ := hcut
  cases kq with
  | zero => exact absurd HA.out (by simp [lw_BatchCheapest.j0])
  | succ kj2 =>
   have H := HA.out; clear HA
   simp only [lw_BatchCheapest.j0] at H
   by_cases c26 : x28_2 = true
   ·subst c26
    have H1 : ((lw_lives.f kj2).bind fun t284 => (some t284)) = some r := by rw [if_pos rfl] at H; exact H
    clear H; have H := H1; clear H1; replace H := Option.bind_eq_some_iff.mp H; obtain ⟨t284, A270, H⟩ := H
    try dsimp only at H
    have A27 := Sd.mk A270; clear A270; obtain rfl := Option.some.inj H
    go_wp2_with (first | ((with_reducible refine gate_callee (f := 12) rfl ?_); refine goesL_ (some 29) rfl rfl Tryz.func12 (by kernel_rfl) rfl #[] rfl tM ?_; (with_reducible refine (lw_lives.calls kj2  t284 _ A27.out).mono ?_); rintro e w28 ⟨rfl, hb⟩; refine ⟨_, rfl, ?_⟩; replace BK279 := Sd.mk (blk_below (bkA BK279.out) hb); replace BK280 := Sd.mk (blk_below (bkA BK280.out) hb); replace HB := Sd.mk (below_step (bBl HB.out) hb); (try clear hb); (try clear hb2); (try clear hk); (try clear hi)))
    go_ret
    exact ⟨tE, bBl HB.out⟩
   ·replace c26 := Bool.eq_false_iff.mpr c26
    subst c26
    have H1 : ((b_Best.f kj2 l0_0 l0_1 l0_2 l0_3 a0_4 a0_5 a0_6).bind fun bt285 => (if bt285.2.2.2 = 0 then ((b_Passes.f kj2 l0_0 l0_1 l0_2 l0_3 a0_4 a0_5 a0_6 l1_0).bind fun bt292 => ((b_Allowed.f kj2 l0_0 l0_1 l0_2 l0_3 a0_4 a0_5 a0_6 l1_0).bind fun bt294 => ((b_Cost.f kj2 l0_0 l0_1 l0_2 l0_3 a0_4 a0_5 a0_6 l1_0).bind fun bt296 => (if bt292.2 = 0 then (if bt294.2 = 0 then (if bt296.2 = 0 then (if bt292.1 = true then (lw_BatchCheapest.j1 kj2 bt285.1 bt285.2.1 bt285.2.2.1 bt296.1 bt294.1 l0_0 l0_1 l0_2 l0_3 a0_4 a0_5 a0_6 l1_0 l1_1 a1_2 a1_3 a1_4 l1_5) else (lw_BatchCheapest.j1 kj2 bt285.1 bt285.2.1 bt285.2.2.1 bt296.1 false l0_0 l0_1 l0_2 l0_3 a0_4 a0_5 a0_6 l1_0 l1_1 a1_2 a1_3 a1_4 l1_5)) else (lw_BatchCheapest.j1 kj2 bt285.1 bt285.2.1 bt285.2.2.1 bt296.1 false l0_0 l0_1 l0_2 l0_3 a0_4 a0_5 a0_6 l1_0 l1_1 a1_2 a1_3 a1_4 l1_5)) else (lw_BatchCheapest.j1 kj2 bt285.1 bt285.2.1 bt285.2.2.1 bt296.1 false l0_0 l0_1 l0_2 l0_3 a0_4 a0_5 a0_6 l1_0 l1_1 a1_2 a1_3 a1_4 l1_5)) else (lw_BatchCheapest.j1 kj2 bt285.1 bt285.2.1 bt285.2.2.1 bt296.1 false l0_0 l0_1 l0_2 l0_3 a0_4 a0_5 a0_6 l1_0 l1_1 a1_2 a1_3 a1_4 l1_5))))) else (if (bt285.1.length : Int) = 0 then (if bt285.2.2.1 = true then (some false) else ((lw_lives.f kj2).bind fun t291 => (some t291))) else (some false)))) = some r := by rw [if_neg (show ¬ (false = true) by decide)] at H; exact H
    clear H; have H := H1; clear H1; replace H := Option.bind_eq_some_iff.mp H
    obtain ⟨⟨t285, t288, t289, t290⟩, A290, H⟩ := H
    try dsimp only at H
    have A29 := Sd.mk A290; clear A290
    by_cases c30 : t290 = 0
    ·rw [if_pos c30] at H
     have c30b0 : (t290 == 0) = true := beq_iff_eq.mpr c30
     have c30b1 : (t290 != 0) = false := bne_eq_false_iff_eq.mpr c30
     clear c30; replace H := Option.bind_eq_some_iff.mp H
     obtain ⟨⟨t292, t293⟩, A310, H⟩ := H
     try dsimp only at H
     have A31 := Sd.mk A310; clear A310; replace H := Option.bind_eq_some_iff.mp H
     obtain ⟨⟨t294, t295⟩, A320, H⟩ := H
     try dsimp only at H
     have A32 := Sd.mk A320; clear A320; replace H := Option.bind_eq_some_iff.mp H
     obtain ⟨⟨t296, t297⟩, A330, H⟩ := H
     try dsimp only at H
     have A33 := Sd.mk A330; clear A330; have HC34 := Sd.mk H; clear H; have hnb35 := NB279_280.out; have hnc35 := NB280_279.out; obtain ⟨u36_0, u36_1, u36_2, u36_3, u36_4, u36_5, u36_6, o36_0, o36_1, o36_2, o36_3, o36_4, o36_5, o36_6⟩ := bc7 (w := wc) BK279.out
     go_upto_region 9 with (first | ((with_reducible refine gate_callee (f := 28) rfl ?_); refine goesL_ (some 32) rfl rfl Tryz.func28 (by kernel_rfl) rfl #[.agg #[.slice A0_0 l0_0.length c0_0, .slice A0_1 l0_1.length c0_1, .slice A0_2 l0_2.length c0_2, .slice A0_3 l0_3.length c0_3, .int .i64 a0_4, .int .i64 a0_5, .int .i64 a0_6]] rfl tM ?_; (with_reducible refine (b_Best.calls kj2 _ _ l0_0 _ _ l0_1 _ _ l0_2 _ _ l0_3 a0_4 a0_5 a0_6 t285 t288 t289 t290 _ (cS (Kd.C_below HR0_0.out HB.out)) HC0_0.out (cS (Kd.C_below HR0_1.out HB.out)) HC0_1.out (cS (Kd.C_below HR0_2.out HB.out)) HC0_2.out (cS (Kd.C_below HR0_3.out HB.out)) HC0_3.out A29.out).mono ?_); rintro e w37 ⟨v286, rfl, ho0, hb⟩; refine ⟨_, rfl, ?_⟩; have HO287 := Sd.mk (Kd.R_lower ho0 (below_size (bBl HB.out))); replace BK279 := Sd.mk (blk_below (bkA BK279.out) hb); replace BK280 := Sd.mk (blk_below (bkA BK280.out) hb); replace HB := Sd.mk (below_step (bBl HB.out) hb); (try clear hb); (try clear hb2); (try clear hk); (try clear hi); (try clear ho0); obtain ⟨u38_0, u38_1, u38_2, u38_3, u38_4, u38_5, u38_6, o38_0, o38_1, o38_2, o38_3, o38_4, o38_5, o38_6⟩ := bc7 (w := w37) BK279.out; obtain ⟨u39_0, u39_1, u39_2, u39_3, u39_4, u39_5, o39_0, o39_1, o39_2, o39_3, o39_4, o39_5⟩ := bc6 (w := w37) BK280.out) | ((with_reducible refine gate_callee (f := 13) rfl ?_); refine goesL_ (some 53) rfl rfl Tryz.func13 (by kernel_rfl) rfl #[.agg #[.slice A0_0 l0_0.length c0_0, .slice A0_1 l0_1.length c0_1, .slice A0_2 l0_2.length c0_2, .slice A0_3 l0_3.length c0_3, .int .i64 a0_4, .int .i64 a0_5, .int .i64 a0_6], .slice A1_0 l1_0.length c1_0] rfl tM ?_; (with_reducible refine (b_Passes.calls kj2 _ _ l0_0 _ _ l0_1 _ _ l0_2 _ _ l0_3 a0_4 a0_5 a0_6 _ _ l1_0 t292 t293 _ (cS (Kd.C_below HR0_0.out HB.out)) HC0_0.out (cS (Kd.C_below HR0_1.out HB.out)) HC0_1.out (cS (Kd.C_below HR0_2.out HB.out)) HC0_2.out (cS (Kd.C_below HR0_3.out HB.out)) HC0_3.out (cS (Kd.C_below HR1_0.out HB.out)) HC1_0.out A31.out).mono ?_); rintro e w40 ⟨rfl, hb⟩; refine ⟨_, rfl, ?_⟩; replace HO287 := Sd.mk (Kd.R_below (by (with_reducible repeat (first | apply Kd.R_alloc | apply Kd.R_drewN | apply Kd.R_drew)); exact HO287.out) hb); replace BK279 := Sd.mk (blk_below (bkA BK279.out) hb); replace BK280 := Sd.mk (blk_below (bkA BK280.out) hb); replace HB := Sd.mk (below_step (bBl HB.out) hb); (try clear hb); (try clear hb2); (try clear hk); (try clear hi); obtain ⟨u41_0, u41_1, u41_2, u41_3, u41_4, u41_5, u41_6, o41_0, o41_1, o41_2, o41_3, o41_4, o41_5, o41_6⟩ := bc7 (w := w40) BK279.out; obtain ⟨u42_0, u42_1, u42_2, u42_3, u42_4, u42_5, o42_0, o42_1, o42_2, o42_3, o42_4, o42_5⟩ := bc6 (w := w40) BK280.out) | ((with_reducible refine gate_callee (f := 15) rfl ?_); refine goesL_ (some 60) rfl rfl Tryz.func15 (by kernel_rfl) rfl #[.agg #[.slice A0_0 l0_0.length c0_0, .slice A0_1 l0_1.length c0_1, .slice A0_2 l0_2.length c0_2, .slice A0_3 l0_3.length c0_3, .int .i64 a0_4, .int .i64 a0_5, .int .i64 a0_6], .slice A1_0 l1_0.length c1_0] rfl tM ?_; (with_reducible refine (b_Allowed.calls kj2 _ _ l0_0 _ _ l0_1 _ _ l0_2 _ _ l0_3 a0_4 a0_5 a0_6 _ _ l1_0 t294 t295 _ (cS (Kd.C_below HR0_0.out HB.out)) HC0_0.out (cS (Kd.C_below HR0_1.out HB.out)) HC0_1.out (cS (Kd.C_below HR0_2.out HB.out)) HC0_2.out (cS (Kd.C_below HR0_3.out HB.out)) HC0_3.out (cS (Kd.C_below HR1_0.out HB.out)) HC1_0.out A32.out).mono ?_); rintro e w43 ⟨rfl, hb⟩; refine ⟨_, rfl, ?_⟩; replace HO287 := Sd.mk (Kd.R_below (by (with_reducible repeat (first | apply Kd.R_alloc | apply Kd.R_drewN | apply Kd.R_drew)); exact HO287.out) hb); replace BK279 := Sd.mk (blk_below (bkA BK279.out) hb); replace BK280 := Sd.mk (blk_below (bkA BK280.out) hb); replace HB := Sd.mk (below_step (bBl HB.out) hb); (try clear hb); (try clear hb2); (try clear hk); (try clear hi); obtain ⟨u44_0, u44_1, u44_2, u44_3, u44_4, u44_5, u44_6, o44_0, o44_1, o44_2, o44_3, o44_4, o44_5, o44_6⟩ := bc7 (w := w43) BK279.out; obtain ⟨u45_0, u45_1, u45_2, u45_3, u45_4, u45_5, o45_0, o45_1, o45_2, o45_3, o45_4, o45_5⟩ := bc6 (w := w43) BK280.out) | ((with_reducible refine gate_callee (f := 17) rfl ?_); refine goesL_ (some 67) rfl rfl Tryz.func17 (by kernel_rfl) rfl #[.agg #[.slice A0_0 l0_0.length c0_0, .slice A0_1 l0_1.length c0_1, .slice A0_2 l0_2.length c0_2, .slice A0_3 l0_3.length c0_3, .int .i64 a0_4, .int .i64 a0_5, .int .i64 a0_6], .slice A1_0 l1_0.length c1_0] rfl tM ?_; (with_reducible refine (b_Cost.calls kj2 _ _ l0_0 _ _ l0_1 _ _ l0_2 _ _ l0_3 a0_4 a0_5 a0_6 _ _ l1_0 t296 t297 _ (cS (Kd.C_below HR0_0.out HB.out)) HC0_0.out (cS (Kd.C_below HR0_1.out HB.out)) HC0_1.out (cS (Kd.C_below HR0_2.out HB.out)) HC0_2.out (cS (Kd.C_below HR0_3.out HB.out)) HC0_3.out (cS (Kd.C_below HR1_0.out HB.out)) HC1_0.out A33.out).mono ?_); rintro e w46 ⟨rfl, hb⟩; refine ⟨_, rfl, ?_⟩; replace HO287 := Sd.mk (Kd.R_below (by (with_reducible repeat (first | apply Kd.R_alloc | apply Kd.R_drewN | apply Kd.R_drew)); exact HO287.out) hb); replace BK279 := Sd.mk (blk_below (bkA BK279.out) hb); replace BK280 := Sd.mk (blk_below (bkA BK280.out) hb); replace HB := Sd.mk (below_step (bBl HB.out) hb); (try clear hb); (try clear hb2); (try clear hk); (try clear hi)))
     (try simp only [Act.put, List.setIfInBounds_toArray, List.set_cons_zero, List.set_cons_succ])
     go_cut [15] (fun v15 wc => ∃ (kq : Nat) (x15_33 : Bool), v15 = .bool x15_33 ∧ Sd (lw_BatchCheapest.j1 kq t285 t288 t289 t296 x15_33 l0_0 l0_1 l0_2 l0_3 a0_4 a0_5 a0_6 l1_0 l1_1 a1_2 a1_3 a1_4 l1_5 = some r) ∧ Sd (kq ≤ kj2) ∧ Sd (Kd.R (Kd.int .i64) 3 wc w.heap.size (fun _ => True) v286 t285) ∧ Sd (wc.heap[gb279]? = some (.cells #[(.slice A0_0 l0_0.length c0_0), (.slice A0_1 l0_1.length c0_1), (.slice A0_2 l0_2.length c0_2), (.slice A0_3 l0_3.length c0_3), .int .i64 a0_4, .int .i64 a0_5, .int .i64 a0_6] 29 (0, 0))) ∧ Sd (wc.heap[gb280]? = some (.cells #[(.slice A1_0 l1_0.length c1_0), (.slice A1_1 l1_1.length c1_1), .int .i64 a1_2, .int .i64 a1_3, .int .i64 a1_4, (.slice A1_5 l1_5.length c1_5)] 34 (0, 0))) ∧ Sd (Below w.heap.size w wc))
     case first =>
      have H := HC34.out; clear HC34
      by_cases c47 : t293 = 0
      ·rw [if_pos c47] at H
       have c47b0 : (t293 == 0) = true := beq_iff_eq.mpr c47
       have c47b1 : (t293 != 0) = false := bne_eq_false_iff_eq.mpr c47
       clear c47
       (first | rw [c47b0] | (simp only [i64_w, i32_w]; rw [c47b0]) | skip)
       by_cases c48 : t295 = 0
       ·rw [if_pos c48] at H
        have c48b0 : (t295 == 0) = true := beq_iff_eq.mpr c48
        have c48b1 : (t295 != 0) = false := bne_eq_false_iff_eq.mpr c48
        clear c48
        by_cases c49 : t297 = 0
        ·rw [if_pos c49] at H
         have c49b0 : (t297 == 0) = true := beq_iff_eq.mpr c49
         have c49b1 : (t297 != 0) = false := bne_eq_false_iff_eq.mpr c49
         clear c49
         by_cases c50 : t292 = true
         ·subst c50
          have H1 : (lw_BatchCheapest.j1 kj2 t285 t288 t289 t296 t294 l0_0 l0_1 l0_2 l0_3 a0_4 a0_5 a0_6 l1_0 l1_1 a1_2 a1_3 a1_4 l1_5) = some r := by rw [if_pos rfl] at H; exact H
          clear H; have H := H1; clear H1; have H' := Sd.mk H; clear H
          go_wp2
          go_meet
          case rel => exact ⟨_, (t294), tS, H', ⟨by have := HJ2.out; first | omega | exact Nat.le_refl _⟩, ⟨by (with_reducible repeat (first | apply Kd.R_alloc | apply Kd.R_drewN | apply Kd.R_drew)); exact HO287.out⟩, ⟨bkA BK279.out⟩, ⟨bkA BK280.out⟩, ⟨bBl HB.out⟩⟩
         ·replace c50 := Bool.eq_false_iff.mpr c50
          subst c50
          have H1 : (lw_BatchCheapest.j1 kj2 t285 t288 t289 t296 false l0_0 l0_1 l0_2 l0_3 a0_4 a0_5 a0_6 l1_0 l1_1 a1_2 a1_3 a1_4 l1_5) = some r := by rw [if_neg (show ¬ (false = true) by decide)] at H; exact H
          clear H; have H := H1; clear H1; have H' := Sd.mk H; clear H
          go_wp2
          go_meet
          case rel => exact ⟨_, (false), tS, H', ⟨by have := HJ2.out; first | omega | exact Nat.le_refl _⟩, ⟨by (with_reducible repeat (first | apply Kd.R_alloc | apply Kd.R_drewN | apply Kd.R_drew)); exact HO287.out⟩, ⟨bkA BK279.out⟩, ⟨bkA BK280.out⟩, ⟨bBl HB.out⟩⟩
        ·rw [if_neg c49] at H
         have c49b0 : (t297 == 0) = false := beq_eq_false_iff_ne.mpr c49
         have c49b1 : (t297 != 0) = true := bne_iff_ne.mpr c49
         have H' := Sd.mk H; clear H
         go_wp2
         go_meet
         case rel => exact ⟨_, (false), tS, H', ⟨by have := HJ2.out; first | omega | exact Nat.le_refl _⟩, ⟨by (with_reducible repeat (first | apply Kd.R_alloc | apply Kd.R_drewN | apply Kd.R_drew)); exact HO287.out⟩, ⟨bkA BK279.out⟩, ⟨bkA BK280.out⟩, ⟨bBl HB.out⟩⟩
       ·rw [if_neg c48] at H
        have c48b0 : (t295 == 0) = false := beq_eq_false_iff_ne.mpr c48
        have c48b1 : (t295 != 0) = true := bne_iff_ne.mpr c48
        have H' := Sd.mk H; clear H
        go_wp2
        go_meet
        case rel => exact ⟨_, (false), tS, H', ⟨by have := HJ2.out; first | omega | exact Nat.le_refl _⟩, ⟨by (with_reducible repeat (first | apply Kd.R_alloc | apply Kd.R_drewN | apply Kd.R_drew)); exact HO287.out⟩, ⟨bkA BK279.out⟩, ⟨bkA BK280.out⟩, ⟨bBl HB.out⟩⟩
      ·rw [if_neg c47] at H
       have c47b0 : (t293 == 0) = false := beq_eq_false_iff_ne.mpr c47
       have c47b1 : (t293 != 0) = true := bne_iff_ne.mpr c47
       (first | rw [c47b0] | (simp only [i64_w, i32_w]; rw [c47b0]) | skip)
       have H' := Sd.mk H; clear H
       go_wp2
       go_meet
       case rel => exact ⟨_, (false), tS, H', ⟨by have := HJ2.out; first | omega | exact Nat.le_refl _⟩, ⟨by (with_reducible repeat (first | apply Kd.R_alloc | apply Kd.R_drewN | apply Kd.R_drew)); exact HO287.out⟩, ⟨bkA BK279.out⟩, ⟨bkA BK280.out⟩, ⟨bBl HB.out⟩⟩
     case rest =>
      as_aux_lemma =>
      clear HC34; (try clear c1); (try clear c2); (try clear p2 p2); (try clear c3); (try clear c4); (try clear c5); (try clear c7); (try clear c8); (try clear c10); (try clear c12); (try clear c13); (try clear c15); (try clear c17); (try clear c19); (try clear c26); (try clear c28); (try clear c30); (try clear c30b0); (try clear c30b1); (try clear c35); (try clear c47); (try clear c47b0); (try clear c47b1); (try clear c48); (try clear c48b0); (try clear c48b1); (try clear c49); (try clear c49b0); (try clear c49b1); (try clear c50); (try clear u14_0 u14_1 u14_2 u14_3 u14_4 u14_5 u14_6); (try clear u16_0 u16_1 u16_2 u16_3 u16_4 u16_5); (try clear u20_0 u20_1 u20_2 u20_3 u20_4 u20_5 u20_6); (try clear u22_0 u22_1 u22_2 u22_3 u22_4 u22_5); (try clear u24_0 u24_1 u24_2 u24_3 u24_4 u24_5 u24_6); (try clear u36_0 u36_1 u36_2 u36_3 u36_4 u36_5 u36_6); (try clear u38_0 u38_1 u38_2 u38_3 u38_4 u38_5 u38_6); (try clear u39_0 u39_1 u39_2 u39_3 u39_4 u39_5); (try clear u41_0 u41_1 u41_2 u41_3 u41_4 u41_5 u41_6); (try clear u42_0 u42_1 u42_2 u42_3 u42_4 u42_5); (try clear u44_0 u44_1 u44_2 u44_3 u44_4 u44_5 u44_6); (try clear u45_0 u45_1 u45_2 u45_3 u45_4 u45_5); (try clear u9_0 u9_1 u9_2 u9_3 u9_4 u9_5 u9_6); (try clear o14_0 o14_1 o14_2 o14_3 o14_4 o14_5 o14_6); (try clear o16_0 o16_1 o16_2 o16_3 o16_4 o16_5); (try clear o20_0 o20_1 o20_2 o20_3 o20_4 o20_5 o20_6); (try clear o22_0 o22_1 o22_2 o22_3 o22_4 o22_5); (try clear o24_0 o24_1 o24_2 o24_3 o24_4 o24_5 o24_6); (try clear o36_0 o36_1 o36_2 o36_3 o36_4 o36_5 o36_6); (try clear o38_0 o38_1 o38_2 o38_3 o38_4 o38_5 o38_6); (try clear o39_0 o39_1 o39_2 o39_3 o39_4 o39_5); (try clear o41_0 o41_1 o41_2 o41_3 o41_4 o41_5 o41_6); (try clear o42_0 o42_1 o42_2 o42_3 o42_4 o42_5); (try clear o44_0 o44_1 o44_2 o44_3 o44_4 o44_5 o44_6); (try clear o45_0 o45_1 o45_2 o45_3 o45_4 o45_5); (try clear o9_0 o9_1 o9_2 o9_3 o9_4 o9_5 o9_6); obtain ⟨kq, x15_33, rfl, HA, HJ33, HO_5, BK279, BK280, HB⟩ := hcut
      cases kq with
      | zero => exact absurd HA.out (by simp [lw_BatchCheapest.j1])
      | succ kj33 =>
       have H := HA.out; clear HA
       simp only [lw_BatchCheapest.j1] at H
       by_cases c51 : t289 = true
       ·subst c51
        have H1 : ((b_Passes.f kj33 l0_0 l0_1 l0_2 l0_3 a0_4 a0_5 a0_6 t285).bind fun bt299 => ((b_Allowed.f kj33 l0_0 l0_1 l0_2 l0_3 a0_4 a0_5 a0_6 t285).bind fun bt301 => ((b_Cost.f kj33 l0_0 l0_1 l0_2 l0_3 a0_4 a0_5 a0_6 t285).bind fun bt303 => (if bt299.2 = 0 then (if bt301.2 = 0 then (if bt303.2 = 0 then (if bt299.1 = true then (if bt301.1 = true then (lw_BatchCheapest.j2 kj33 t285 t288 t296 x15_33 (bt303.1 != t288) l1_0 l1_1 a1_2 a1_3 a1_4 l1_5) else (lw_BatchCheapest.j2 kj33 t285 t288 t296 x15_33 true l1_0 l1_1 a1_2 a1_3 a1_4 l1_5)) else (lw_BatchCheapest.j2 kj33 t285 t288 t296 x15_33 true l1_0 l1_1 a1_2 a1_3 a1_4 l1_5)) else (lw_BatchCheapest.j2 kj33 t285 t288 t296 x15_33 true l1_0 l1_1 a1_2 a1_3 a1_4 l1_5)) else (lw_BatchCheapest.j2 kj33 t285 t288 t296 x15_33 true l1_0 l1_1 a1_2 a1_3 a1_4 l1_5)) else (lw_BatchCheapest.j2 kj33 t285 t288 t296 x15_33 true l1_0 l1_1 a1_2 a1_3 a1_4 l1_5))))) = some r := by rw [if_pos rfl] at H; exact H
        clear H; have H := H1; clear H1; replace H := Option.bind_eq_some_iff.mp H
        obtain ⟨⟨t299, t300⟩, A520, H⟩ := H
        try dsimp only at H
        have A52 := Sd.mk A520; clear A520; replace H := Option.bind_eq_some_iff.mp H
        obtain ⟨⟨t301, t302⟩, A530, H⟩ := H
        try dsimp only at H
        have A53 := Sd.mk A530; clear A530; replace H := Option.bind_eq_some_iff.mp H
        obtain ⟨⟨t303, t304⟩, A540, H⟩ := H
        try dsimp only at H
        have A54 := Sd.mk A540; clear A540; have HC55 := Sd.mk H; clear H; have hnb56 := NB279_280.out; have hnc56 := NB280_279.out; obtain ⟨u57_0, u57_1, u57_2, u57_3, u57_4, u57_5, u57_6, o57_0, o57_1, o57_2, o57_3, o57_4, o57_5, o57_6⟩ := bc7 (w := wc) BK279.out; obtain ⟨Ao58, co58, eo58⟩ := Kd.R_slice HO_5.out; subst eo58
        go_upto_region 15 with (first | ((with_reducible refine gate_callee (f := 13) rfl ?_); refine goesL_ (some 105) rfl rfl Tryz.func13 (by kernel_rfl) rfl #[.agg #[.slice A0_0 l0_0.length c0_0, .slice A0_1 l0_1.length c0_1, .slice A0_2 l0_2.length c0_2, .slice A0_3 l0_3.length c0_3, .int .i64 a0_4, .int .i64 a0_5, .int .i64 a0_6], .slice Ao58 t285.length co58] rfl tM ?_; (with_reducible refine (b_Passes.calls kj33 _ _ l0_0 _ _ l0_1 _ _ l0_2 _ _ l0_3 a0_4 a0_5 a0_6 _ _ t285 t299 t300 _ (cS (Kd.C_below HR0_0.out HB.out)) HC0_0.out (cS (Kd.C_below HR0_1.out HB.out)) HC0_1.out (cS (Kd.C_below HR0_2.out HB.out)) HC0_2.out (cS (Kd.C_below HR0_3.out HB.out)) HC0_3.out (cS ((Kd.R_reads' HO_5.out).2.2)) ((Kd.R_reads' HO_5.out).2.1) A52.out).mono ?_); rintro e w59 ⟨rfl, hb⟩; refine ⟨_, rfl, ?_⟩; replace HO_5 := Sd.mk (Kd.R_below (by (with_reducible repeat (first | apply Kd.R_alloc | apply Kd.R_drewN | apply Kd.R_drew)); exact HO_5.out) hb); replace BK279 := Sd.mk (blk_below (bkA BK279.out) hb); replace BK280 := Sd.mk (blk_below (bkA BK280.out) hb); replace HB := Sd.mk (below_step (bBl HB.out) hb); (try clear hb); (try clear hb2); (try clear hk); (try clear hi); obtain ⟨u60_0, u60_1, u60_2, u60_3, u60_4, u60_5, u60_6, o60_0, o60_1, o60_2, o60_3, o60_4, o60_5, o60_6⟩ := bc7 (w := w59) BK279.out) | ((with_reducible refine gate_callee (f := 15) rfl ?_); refine goesL_ (some 111) rfl rfl Tryz.func15 (by kernel_rfl) rfl #[.agg #[.slice A0_0 l0_0.length c0_0, .slice A0_1 l0_1.length c0_1, .slice A0_2 l0_2.length c0_2, .slice A0_3 l0_3.length c0_3, .int .i64 a0_4, .int .i64 a0_5, .int .i64 a0_6], .slice Ao58 t285.length co58] rfl tM ?_; (with_reducible refine (b_Allowed.calls kj33 _ _ l0_0 _ _ l0_1 _ _ l0_2 _ _ l0_3 a0_4 a0_5 a0_6 _ _ t285 t301 t302 _ (cS (Kd.C_below HR0_0.out HB.out)) HC0_0.out (cS (Kd.C_below HR0_1.out HB.out)) HC0_1.out (cS (Kd.C_below HR0_2.out HB.out)) HC0_2.out (cS (Kd.C_below HR0_3.out HB.out)) HC0_3.out (cS ((Kd.R_reads' HO_5.out).2.2)) ((Kd.R_reads' HO_5.out).2.1) A53.out).mono ?_); rintro e w61 ⟨rfl, hb⟩; refine ⟨_, rfl, ?_⟩; replace HO_5 := Sd.mk (Kd.R_below (by (with_reducible repeat (first | apply Kd.R_alloc | apply Kd.R_drewN | apply Kd.R_drew)); exact HO_5.out) hb); replace BK279 := Sd.mk (blk_below (bkA BK279.out) hb); replace BK280 := Sd.mk (blk_below (bkA BK280.out) hb); replace HB := Sd.mk (below_step (bBl HB.out) hb); (try clear hb); (try clear hb2); (try clear hk); (try clear hi); obtain ⟨u62_0, u62_1, u62_2, u62_3, u62_4, u62_5, u62_6, o62_0, o62_1, o62_2, o62_3, o62_4, o62_5, o62_6⟩ := bc7 (w := w61) BK279.out) | ((with_reducible refine gate_callee (f := 17) rfl ?_); refine goesL_ (some 117) rfl rfl Tryz.func17 (by kernel_rfl) rfl #[.agg #[.slice A0_0 l0_0.length c0_0, .slice A0_1 l0_1.length c0_1, .slice A0_2 l0_2.length c0_2, .slice A0_3 l0_3.length c0_3, .int .i64 a0_4, .int .i64 a0_5, .int .i64 a0_6], .slice Ao58 t285.length co58] rfl tM ?_; (with_reducible refine (b_Cost.calls kj33 _ _ l0_0 _ _ l0_1 _ _ l0_2 _ _ l0_3 a0_4 a0_5 a0_6 _ _ t285 t303 t304 _ (cS (Kd.C_below HR0_0.out HB.out)) HC0_0.out (cS (Kd.C_below HR0_1.out HB.out)) HC0_1.out (cS (Kd.C_below HR0_2.out HB.out)) HC0_2.out (cS (Kd.C_below HR0_3.out HB.out)) HC0_3.out (cS ((Kd.R_reads' HO_5.out).2.2)) ((Kd.R_reads' HO_5.out).2.1) A54.out).mono ?_); rintro e w63 ⟨rfl, hb⟩; refine ⟨_, rfl, ?_⟩; replace HO_5 := Sd.mk (Kd.R_below (by (with_reducible repeat (first | apply Kd.R_alloc | apply Kd.R_drewN | apply Kd.R_drew)); exact HO_5.out) hb); replace BK279 := Sd.mk (blk_below (bkA BK279.out) hb); replace BK280 := Sd.mk (blk_below (bkA BK280.out) hb); replace HB := Sd.mk (below_step (bBl HB.out) hb); (try clear hb); (try clear hb2); (try clear hk); (try clear hi)))
        (try simp only [Act.put, List.setIfInBounds_toArray, List.set_cons_zero, List.set_cons_succ])
        go_cut [142] (fun v142 wc => ∃ (kq : Nat) (x142_54 : Bool), v142 = .bool x142_54 ∧ Sd (lw_BatchCheapest.j2 kq t285 t288 t296 x15_33 x142_54 l1_0 l1_1 a1_2 a1_3 a1_4 l1_5 = some r) ∧ Sd (kq ≤ kj33) ∧ Sd (Kd.R (Kd.int .i64) 3 wc w.heap.size (fun _ => True) (.slice Ao58 t285.length co58) t285) ∧ Sd (wc.heap[gb279]? = some (.cells #[(.slice A0_0 l0_0.length c0_0), (.slice A0_1 l0_1.length c0_1), (.slice A0_2 l0_2.length c0_2), (.slice A0_3 l0_3.length c0_3), .int .i64 a0_4, .int .i64 a0_5, .int .i64 a0_6] 29 (0, 0))) ∧ Sd (wc.heap[gb280]? = some (.cells #[(.slice A1_0 l1_0.length c1_0), (.slice A1_1 l1_1.length c1_1), .int .i64 a1_2, .int .i64 a1_3, .int .i64 a1_4, (.slice A1_5 l1_5.length c1_5)] 34 (0, 0))) ∧ Sd (Below w.heap.size w wc))
        case first =>
         have H := HC55.out; clear HC55
         by_cases c64 : t300 = 0
         ·rw [if_pos c64] at H
          have c64b0 : (t300 == 0) = true := beq_iff_eq.mpr c64
          have c64b1 : (t300 != 0) = false := bne_eq_false_iff_eq.mpr c64
          clear c64
          (first | rw [c64b0] | (simp only [i64_w, i32_w]; rw [c64b0]) | skip)
          by_cases c65 : t302 = 0
          ·rw [if_pos c65] at H
           have c65b0 : (t302 == 0) = true := beq_iff_eq.mpr c65
           have c65b1 : (t302 != 0) = false := bne_eq_false_iff_eq.mpr c65
           clear c65
           by_cases c66 : t304 = 0
           ·rw [if_pos c66] at H
            have c66b0 : (t304 == 0) = true := beq_iff_eq.mpr c66
            have c66b1 : (t304 != 0) = false := bne_eq_false_iff_eq.mpr c66
            clear c66
            by_cases c67 : t299 = true
            ·subst c67
             have H1 : (if t301 = true then (lw_BatchCheapest.j2 kj33 t285 t288 t296 x15_33 (t303 != t288) l1_0 l1_1 a1_2 a1_3 a1_4 l1_5) else (lw_BatchCheapest.j2 kj33 t285 t288 t296 x15_33 true l1_0 l1_1 a1_2 a1_3 a1_4 l1_5)) = some r := by rw [if_pos rfl] at H; exact H
             clear H; have H := H1; clear H1
             by_cases c68 : t301 = true
             ·subst c68
              have H1 : (lw_BatchCheapest.j2 kj33 t285 t288 t296 x15_33 (t303 != t288) l1_0 l1_1 a1_2 a1_3 a1_4 l1_5) = some r := by rw [if_pos rfl] at H; exact H
              clear H; have H := H1; clear H1; have H' := Sd.mk H; clear H
              go_wp2
              go_meet
              case rel => exact ⟨_, ((t303 != t288)), tS, H', ⟨by have := HJ2.out; have := HJ33.out; first | omega | exact Nat.le_refl _⟩, ⟨by (with_reducible repeat (first | apply Kd.R_alloc | apply Kd.R_drewN | apply Kd.R_drew)); exact HO_5.out⟩, ⟨bkA BK279.out⟩, ⟨bkA BK280.out⟩, ⟨bBl HB.out⟩⟩
             ·replace c68 := Bool.eq_false_iff.mpr c68
              subst c68
              have H1 : (lw_BatchCheapest.j2 kj33 t285 t288 t296 x15_33 true l1_0 l1_1 a1_2 a1_3 a1_4 l1_5) = some r := by rw [if_neg (show ¬ (false = true) by decide)] at H; exact H
              clear H; have H := H1; clear H1; have H' := Sd.mk H; clear H
              go_wp2
              go_meet
              case rel => exact ⟨_, (true), tS, H', ⟨by have := HJ2.out; have := HJ33.out; first | omega | exact Nat.le_refl _⟩, ⟨by (with_reducible repeat (first | apply Kd.R_alloc | apply Kd.R_drewN | apply Kd.R_drew)); exact HO_5.out⟩, ⟨bkA BK279.out⟩, ⟨bkA BK280.out⟩, ⟨bBl HB.out⟩⟩
            ·replace c67 := Bool.eq_false_iff.mpr c67
             subst c67
             have H1 : (lw_BatchCheapest.j2 kj33 t285 t288 t296 x15_33 true l1_0 l1_1 a1_2 a1_3 a1_4 l1_5) = some r := by rw [if_neg (show ¬ (false = true) by decide)] at H; exact H
             clear H; have H := H1; clear H1; have H' := Sd.mk H; clear H
             go_wp2
             go_meet
             case rel => exact ⟨_, (true), tS, H', ⟨by have := HJ2.out; have := HJ33.out; first | omega | exact Nat.le_refl _⟩, ⟨by (with_reducible repeat (first | apply Kd.R_alloc | apply Kd.R_drewN | apply Kd.R_drew)); exact HO_5.out⟩, ⟨bkA BK279.out⟩, ⟨bkA BK280.out⟩, ⟨bBl HB.out⟩⟩
           ·rw [if_neg c66] at H
            have c66b0 : (t304 == 0) = false := beq_eq_false_iff_ne.mpr c66
            have c66b1 : (t304 != 0) = true := bne_iff_ne.mpr c66
            have H' := Sd.mk H; clear H
            go_wp2
            go_meet
            case rel => exact ⟨_, (true), tS, H', ⟨by have := HJ2.out; have := HJ33.out; first | omega | exact Nat.le_refl _⟩, ⟨by (with_reducible repeat (first | apply Kd.R_alloc | apply Kd.R_drewN | apply Kd.R_drew)); exact HO_5.out⟩, ⟨bkA BK279.out⟩, ⟨bkA BK280.out⟩, ⟨bBl HB.out⟩⟩
          ·rw [if_neg c65] at H
           have c65b0 : (t302 == 0) = false := beq_eq_false_iff_ne.mpr c65
           have c65b1 : (t302 != 0) = true := bne_iff_ne.mpr c65
           have H' := Sd.mk H; clear H
           go_wp2
           go_meet
           case rel => exact ⟨_, (true), tS, H', ⟨by have := HJ2.out; have := HJ33.out; first | omega | exact Nat.le_refl _⟩, ⟨by (with_reducible repeat (first | apply Kd.R_alloc | apply Kd.R_drewN | apply Kd.R_drew)); exact HO_5.out⟩, ⟨bkA BK279.out⟩, ⟨bkA BK280.out⟩, ⟨bBl HB.out⟩⟩
         ·rw [if_neg c64] at H
          have c64b0 : (t300 == 0) = false := beq_eq_false_iff_ne.mpr c64
          have c64b1 : (t300 != 0) = true := bne_iff_ne.mpr c64
          (first | rw [c64b0] | (simp only [i64_w, i32_w]; rw [c64b0]) | skip)
          have H' := Sd.mk H; clear H
          go_wp2
          go_meet
          case rel => exact ⟨_, (true), tS, H', ⟨by have := HJ2.out; have := HJ33.out; first | omega | exact Nat.le_refl _⟩, ⟨by (with_reducible repeat (first | apply Kd.R_alloc | apply Kd.R_drewN | apply Kd.R_drew)); exact HO_5.out⟩, ⟨bkA BK279.out⟩, ⟨bkA BK280.out⟩, ⟨bBl HB.out⟩⟩
        case rest =>
         as_aux_lemma =>
         clear HC55; (try clear c1); (try clear c2); (try clear p2 p2); (try clear c3); (try clear c4); (try clear c5); (try clear c6); (try clear c7); (try clear c8); (try clear c10); (try clear c12); (try clear c13); (try clear c15); (try clear c17); (try clear c19); (try clear c26); (try clear c28); (try clear c30); (try clear c30b0); (try clear c30b1); (try clear c35); (try clear c47); (try clear c47b0); (try clear c47b1); (try clear c48); (try clear c48b0); (try clear c48b1); (try clear c49); (try clear c49b0); (try clear c49b1); (try clear c50); (try clear c51); (try clear c56); (try clear c64); (try clear c64b0); (try clear c64b1); (try clear c65); (try clear c65b0); (try clear c65b1); (try clear c66); (try clear c66b0); (try clear c66b1); (try clear c67); (try clear c68); (try clear u14_0 u14_1 u14_2 u14_3 u14_4 u14_5 u14_6); (try clear u16_0 u16_1 u16_2 u16_3 u16_4 u16_5); (try clear u20_0 u20_1 u20_2 u20_3 u20_4 u20_5 u20_6); (try clear u22_0 u22_1 u22_2 u22_3 u22_4 u22_5); (try clear u24_0 u24_1 u24_2 u24_3 u24_4 u24_5 u24_6); (try clear u36_0 u36_1 u36_2 u36_3 u36_4 u36_5 u36_6); (try clear u38_0 u38_1 u38_2 u38_3 u38_4 u38_5 u38_6); (try clear u39_0 u39_1 u39_2 u39_3 u39_4 u39_5); (try clear u41_0 u41_1 u41_2 u41_3 u41_4 u41_5 u41_6); (try clear u42_0 u42_1 u42_2 u42_3 u42_4 u42_5); (try clear u44_0 u44_1 u44_2 u44_3 u44_4 u44_5 u44_6); (try clear u45_0 u45_1 u45_2 u45_3 u45_4 u45_5); (try clear u57_0 u57_1 u57_2 u57_3 u57_4 u57_5 u57_6); (try clear u60_0 u60_1 u60_2 u60_3 u60_4 u60_5 u60_6); (try clear u62_0 u62_1 u62_2 u62_3 u62_4 u62_5 u62_6); (try clear u9_0 u9_1 u9_2 u9_3 u9_4 u9_5 u9_6); (try clear o14_0 o14_1 o14_2 o14_3 o14_4 o14_5 o14_6); (try clear o16_0 o16_1 o16_2 o16_3 o16_4 o16_5); (try clear o20_0 o20_1 o20_2 o20_3 o20_4 o20_5 o20_6); (try clear o22_0 o22_1 o22_2 o22_3 o22_4 o22_5); (try clear o24_0 o24_1 o24_2 o24_3 o24_4 o24_5 o24_6); (try clear o36_0 o36_1 o36_2 o36_3 o36_4 o36_5 o36_6); (try clear o38_0 o38_1 o38_2 o38_3 o38_4 o38_5 o38_6); (try clear o39_0 o39_1 o39_2 o39_3 o39_4 o39_5); (try clear o41_0 o41_1 o41_2 o41_3 o41_4 o41_5 o41_6); (try clear o42_0 o42_1 o42_2 o42_3 o42_4 o42_5); (try clear o44_0 o44_1 o44_2 o44_3 o44_4 o44_5 o44_6); (try clear o45_0 o45_1 o45_2 o45_3 o45_4 o45_5); (try clear o57_0 o57_1 o57_2 o57_3 o57_4 o57_5 o57_6); (try clear o60_0 o60_1 o60_2 o60_3 o60_4 o60_5 o60_6); (try clear o62_0 o62_1 o62_2 o62_3 o62_4 o62_5 o62_6); (try clear o9_0 o9_1 o9_2 o9_3 o9_4 o9_5 o9_6); obtain ⟨kq, x142_54, rfl, HA, HJ54, HO_5, BK279, BK280, HB⟩ := hcut
         cases kq with
         | zero => exact absurd HA.out (by simp [lw_BatchCheapest.j2])
         | succ kj54 =>
          have H := HA.out; clear HA
          simp only [lw_BatchCheapest.j2] at H
          by_cases c69 : x142_54 = true
          ·subst c69
           have H1 : (some false) = some r := by rw [if_pos rfl] at H; exact H
           clear H; have H := H1; clear H1; obtain rfl := Option.some.inj H
           go_wp2
           go_ret
           exact ⟨tE, bBl HB.out⟩
          ·replace c69 := Bool.eq_false_iff.mpr c69
           subst c69
           have H1 : (if x15_33 = true then (if t296 < t288 then (some false) else (if t296 = t288 then (lw_BatchCheapest.l0 kj54 t285 0 l1_0 l1_1 a1_2 a1_3 a1_4 l1_5) else ((lw_lives.f kj54).bind fun t312 => (some t312)))) else ((lw_lives.f kj54).bind fun t305 => (some t305))) = some r := by rw [if_neg (show ¬ (false = true) by decide)] at H; exact H
           clear H; have H := H1; clear H1
           by_cases c70 : x15_33 = true
           ·subst c70
            have H1 : (if t296 < t288 then (some false) else (if t296 = t288 then (lw_BatchCheapest.l0 kj54 t285 0 l1_0 l1_1 a1_2 a1_3 a1_4 l1_5) else ((lw_lives.f kj54).bind fun t312 => (some t312)))) = some r := by rw [if_pos rfl] at H; exact H
            clear H; have H := H1; clear H1
            by_cases c71 : t296 < t288
            ·rw [if_pos c71] at H
             have c71b0 : decide (t296 < t288) = true := decide_eq_true c71
             clear c71; obtain rfl := Option.some.inj H
             go_wp2
             go_ret
             exact ⟨tE, bBl HB.out⟩
            ·rw [if_neg c71] at H
             have c71b0 : decide (t296 < t288) = false := decide_eq_false c71
             clear c71
             by_cases c72 : t296 = t288
             ·rw [if_pos c72] at H
              have c72b0 : (t296 == t288) = true := beq_iff_eq.mpr c72
              have c72b1 : (t296 != t288) = false := bne_eq_false_iff_eq.mpr c72
              clear c72; have H' := Sd.mk H; clear H
              go_wp2
              go_loopg [18] kj54 (fun kq v18 w' => ∃ (x18_4 : Int), v18 = .int .i64 x18_4 ∧ Sd (lw_BatchCheapest.l0 kq t285 x18_4 l1_0 l1_1 a1_2 a1_3 a1_4 l1_5 = some r) ∧ Sd (kq ≤ kj54) ∧ Sd (Kd.R (Kd.int .i64) 3 w' w.heap.size (fun _ => True) (.slice Ao58 t285.length co58) t285) ∧ Sd (w'.heap[gb279]? = some (.cells #[(.slice A0_0 l0_0.length c0_0), (.slice A0_1 l0_1.length c0_1), (.slice A0_2 l0_2.length c0_2), (.slice A0_3 l0_3.length c0_3), .int .i64 a0_4, .int .i64 a0_5, .int .i64 a0_6] 29 (0, 0))) ∧ Sd (w'.heap[gb280]? = some (.cells #[(.slice A1_0 l1_0.length c1_0), (.slice A1_1 l1_1.length c1_1), .int .i64 a1_2, .int .i64 a1_3, .int .i64 a1_4, (.slice A1_5 l1_5.length c1_5)] 34 (0, 0))) ∧ Sd (Below w.heap.size w w'))
              case atStart => exact ⟨(0), tS, H', ⟨Nat.le_refl _⟩, ⟨by (with_reducible repeat (first | apply Kd.R_alloc | apply Kd.R_drewN | apply Kd.R_drew)); exact HO_5.out⟩, ⟨bkA BK279.out⟩, ⟨bkA BK280.out⟩, ⟨bBl HB.out⟩⟩
              case round =>
               clear H'; (try clear c1); (try clear c2); (try clear p2 p2); (try clear c3); (try clear c4); (try clear c5); (try clear c6); (try clear c7); (try clear c8); (try clear c10); (try clear c12); (try clear c13); (try clear c15); (try clear c17); (try clear c19); (try clear c26); (try clear c28); (try clear c30); (try clear c30b0); (try clear c30b1); (try clear c35); (try clear c47); (try clear c47b0); (try clear c47b1); (try clear c48); (try clear c48b0); (try clear c48b1); (try clear c49); (try clear c49b0); (try clear c49b1); (try clear c50); (try clear c51); (try clear c56); (try clear c64); (try clear c64b0); (try clear c64b1); (try clear c65); (try clear c65b0); (try clear c65b1); (try clear c66); (try clear c66b0); (try clear c66b1); (try clear c67); (try clear c68); (try clear c69); (try clear c70); (try clear c71); (try clear c71b0); (try clear c72); (try clear c72b0); (try clear c72b1); (try clear u14_0 u14_1 u14_2 u14_3 u14_4 u14_5 u14_6); (try clear u16_0 u16_1 u16_2 u16_3 u16_4 u16_5); (try clear u20_0 u20_1 u20_2 u20_3 u20_4 u20_5 u20_6); (try clear u22_0 u22_1 u22_2 u22_3 u22_4 u22_5); (try clear u24_0 u24_1 u24_2 u24_3 u24_4 u24_5 u24_6); (try clear u36_0 u36_1 u36_2 u36_3 u36_4 u36_5 u36_6); (try clear u38_0 u38_1 u38_2 u38_3 u38_4 u38_5 u38_6); (try clear u39_0 u39_1 u39_2 u39_3 u39_4 u39_5); (try clear u41_0 u41_1 u41_2 u41_3 u41_4 u41_5 u41_6); (try clear u42_0 u42_1 u42_2 u42_3 u42_4 u42_5); (try clear u44_0 u44_1 u44_2 u44_3 u44_4 u44_5 u44_6); (try clear u45_0 u45_1 u45_2 u45_3 u45_4 u45_5); (try clear u57_0 u57_1 u57_2 u57_3 u57_4 u57_5 u57_6); (try clear u60_0 u60_1 u60_2 u60_3 u60_4 u60_5 u60_6); (try clear u62_0 u62_1 u62_2 u62_3 u62_4 u62_5 u62_6); (try clear u9_0 u9_1 u9_2 u9_3 u9_4 u9_5 u9_6); (try clear o14_0 o14_1 o14_2 o14_3 o14_4 o14_5 o14_6); (try clear o16_0 o16_1 o16_2 o16_3 o16_4 o16_5); (try clear o20_0 o20_1 o20_2 o20_3 o20_4 o20_5 o20_6); (try clear o22_0 o22_1 o22_2 o22_3 o22_4 o22_5); (try clear o24_0 o24_1 o24_2 o24_3 o24_4 o24_5 o24_6); (try clear o36_0 o36_1 o36_2 o36_3 o36_4 o36_5 o36_6); (try clear o38_0 o38_1 o38_2 o38_3 o38_4 o38_5 o38_6); (try clear o39_0 o39_1 o39_2 o39_3 o39_4 o39_5); (try clear o41_0 o41_1 o41_2 o41_3 o41_4 o41_5 o41_6); (try clear o42_0 o42_1 o42_2 o42_3 o42_4 o42_5); (try clear o44_0 o44_1 o44_2 o44_3 o44_4 o44_5 o44_6); (try clear o45_0 o45_1 o45_2 o45_3 o45_4 o45_5); (try clear o57_0 o57_1 o57_2 o57_3 o57_4 o57_5 o57_6); (try clear o60_0 o60_1 o60_2 o60_3 o60_4 o60_5 o60_6); (try clear o62_0 o62_1 o62_2 o62_3 o62_4 o62_5 o62_6); (try clear o9_0 o9_1 o9_2 o9_3 o9_4 o9_5 o9_6); obtain ⟨x18_4, rfl, HA, HK4, HO_5, BK279, BK280, HB⟩ := hrel
               cases gk with
               | zero => exact absurd HA.out (by simp [lw_BatchCheapest.l0])
               | succ k4 =>
                have H := HA.out; clear HA
                simp only [lw_BatchCheapest.l0] at H
                by_cases c73 : x18_4 < (t285.length : Int)
                ·rw [if_pos c73] at H
                 have c73b0 : decide (x18_4 < (t285.length : Int)) = true := decide_eq_true c73
                 clear c73
                 by_cases c74 : 0 ≤ x18_4
                 ·rw [if_pos c74] at H
                  have c74b0 : decide (0 ≤ x18_4) = true := decide_eq_true c74
                  clear c74
                  by_cases c75 : x18_4 < (l1_0.length : Int)
                  ·rw [if_pos c75] at H
                   have c75b0 : decide (x18_4 < (l1_0.length : Int)) = true := decide_eq_true c75
                   clear c75
                   by_cases c76 : (rd l1_0 x18_4) = (rd t285 x18_4)
                   ·rw [if_pos c76] at H
                    have c76b0 : ((rd l1_0 x18_4) == (rd t285 x18_4)) = true := beq_iff_eq.mpr c76
                    have c76b1 : ((rd l1_0 x18_4) != (rd t285 x18_4)) = false := bne_eq_false_iff_eq.mpr c76
                    clear c76; have H' := Sd.mk H; clear H
                    try go_wp2
                    replace HO_5 := Sd.mk (Kd.R_drew HO_5.out); replace BK279 := Sd.mk (blk_drew BK279.out); replace BK280 := Sd.mk (blk_drew BK280.out); replace HB := Sd.mk (below_drew1 HB.out)
                    have p306 : 0 ≤ (x18_4 : Int) := tB
                    have q306 : x18_4 < (l1_0.length : Int) := tB
                    obtain ⟨ad306, e306, hx306_0⟩ := Kd.at_int HR1_0.out x18_4 p306 q306; have hw306_0 := hx306_0; cases e306; replace hx306_0 := cU HB hx306_0; replace p306 := eq_true p306; replace q306 := eq_true q306
                    have p307 : 0 ≤ (x18_4 : Int) := tB
                    have q307 : x18_4 < (t285.length : Int) := tB
                    obtain ⟨ad307, e307, hx307_0⟩ := Kd.at_int (Kd.R_reads' HO_5.out).2.2 x18_4 p307 q307; cases e307; replace p307 := eq_true p307; replace q307 := eq_true q307
                    refine start_ (n := 10) (S := fun w' => w'.cell? ⟨gb280, 0, none⟩ = some (.slice (some ad306) l1_0.length c1_0) ∧ w'.cell? ⟨gb280, 1, none⟩ = some (.slice A1_1 l1_1.length c1_1) ∧ w'.cell? ⟨gb280, 2, none⟩ = some (.int .i64 a1_2) ∧ w'.cell? ⟨gb280, 3, none⟩ = some (.int .i64 a1_3) ∧ w'.cell? ⟨gb280, 4, none⟩ = some (.int .i64 a1_4) ∧ w'.cell? ⟨gb280, 5, none⟩ = some (.slice A1_5 l1_5.length c1_5) ∧ w'.cell? (ad306.add (x18_4).toNat) = some (.int .i64 (rd l1_0 x18_4)) ∧ w'.cell? (ad307.add (x18_4).toNat) = some (.int .i64 (rd t285 x18_4))) (ds := []) (bA 10 0) (by kernel_rfl) rfl rfl ⟨(blk_cell BK280.out 0).trans rfl, (blk_cell BK280.out 1).trans rfl, (blk_cell BK280.out 2).trans rfl, (blk_cell BK280.out 3).trans rfl, (blk_cell BK280.out 4).trans rfl, (blk_cell BK280.out 5).trans rfl, (cU HB hw306_0 :), hx307_0⟩ (fun hHeld => ?_); refine with_tabW lw_BatchCheapest.tab25 lw_BatchCheapest.bits25 (fun HT_ HW_ => ?_)
                    generalize wr.drew = w77 at HO_5 BK279 BK280 HB hx306_0 hx307_0 hHeld ⊢
                    refine pQ 0 (some 158) (bA 10 1) ?_
                    refine pQ 2 (some 160) (bA 10 5) ?_
                    refine pQ 5 (some 163) (bA 10 37) ?_
                    refine pQ 6 (some 164) (bA 10 101) ?_
                    refine pQ 7 (some 165) (bA 10 229) ?_
                    refine tQ 1 (some 159) (bA 10 231) ?_
                    refine pQ 3 (some 161) (bA 10 239) ?_
                    refine tQ 4 (some 162) (bA 10 255) ?_
                    refine tQ 8 (some 166) (bA 10 511) ?_
                    refine pQ 9 (some 167) (bA 10 1023) ?_
                    refine done_ (done_of HT_.out (by kernel_rfl)) ?_
                    try go_wp2
                    go_roundg k4
                    case measure => have := HJ2.out; have := HJ33.out; have := HJ54.out; have := HK4.out; omega
                    case rel => exact ⟨(wrap64 (x18_4 + 1)), tS, H', ⟨by have := HJ2.out; have := HJ33.out; have := HJ54.out; have := HK4.out; omega⟩, ⟨by (with_reducible repeat (first | apply Kd.R_alloc | apply Kd.R_drewN | apply Kd.R_drew)); exact HO_5.out⟩, ⟨bkA BK279.out⟩, ⟨bkA BK280.out⟩, ⟨bBl HB.out⟩⟩
                   ·rw [if_neg c76] at H
                    have c76b0 : ((rd l1_0 x18_4) == (rd t285 x18_4)) = false := beq_eq_false_iff_ne.mpr c76
                    have c76b1 : ((rd l1_0 x18_4) != (rd t285 x18_4)) = true := bne_iff_ne.mpr c76
                    by_cases c78 : (rd t285 x18_4) < (rd l1_0 x18_4)
                    ·rw [if_pos c78] at H
                     have c78b0 : decide ((rd t285 x18_4) < (rd l1_0 x18_4)) = true := decide_eq_true c78
                     clear c78; replace H := Option.bind_eq_some_iff.mp H; obtain ⟨t310, A790, H⟩ := H
                     try dsimp only at H
                     have A79 := Sd.mk A790; clear A790; obtain rfl := Option.some.inj H
                     try go_wp2
                     replace HO_5 := Sd.mk (Kd.R_drew HO_5.out); replace BK279 := Sd.mk (blk_drew BK279.out); replace BK280 := Sd.mk (blk_drew BK280.out); replace HB := Sd.mk (below_drew1 HB.out)
                     have p306 : 0 ≤ (x18_4 : Int) := tB
                     have q306 : x18_4 < (l1_0.length : Int) := tB
                     obtain ⟨ad306, e306, hx306_0⟩ := Kd.at_int HR1_0.out x18_4 p306 q306; have hw306_0 := hx306_0; cases e306; replace hx306_0 := cU HB hx306_0; replace p306 := eq_true p306; replace q306 := eq_true q306
                     have p307 : 0 ≤ (x18_4 : Int) := tB
                     have q307 : x18_4 < (t285.length : Int) := tB
                     obtain ⟨ad307, e307, hx307_0⟩ := Kd.at_int (Kd.R_reads' HO_5.out).2.2 x18_4 p307 q307; cases e307; replace p307 := eq_true p307; replace q307 := eq_true q307
                     refine start_ (n := 10) (S := fun w' => w'.cell? ⟨gb280, 0, none⟩ = some (.slice (some ad306) l1_0.length c1_0) ∧ w'.cell? ⟨gb280, 1, none⟩ = some (.slice A1_1 l1_1.length c1_1) ∧ w'.cell? ⟨gb280, 2, none⟩ = some (.int .i64 a1_2) ∧ w'.cell? ⟨gb280, 3, none⟩ = some (.int .i64 a1_3) ∧ w'.cell? ⟨gb280, 4, none⟩ = some (.int .i64 a1_4) ∧ w'.cell? ⟨gb280, 5, none⟩ = some (.slice A1_5 l1_5.length c1_5) ∧ w'.cell? (ad306.add (x18_4).toNat) = some (.int .i64 (rd l1_0 x18_4)) ∧ w'.cell? (ad307.add (x18_4).toNat) = some (.int .i64 (rd t285 x18_4))) (ds := []) (bA 10 0) (by kernel_rfl) rfl rfl ⟨(blk_cell BK280.out 0).trans rfl, (blk_cell BK280.out 1).trans rfl, (blk_cell BK280.out 2).trans rfl, (blk_cell BK280.out 3).trans rfl, (blk_cell BK280.out 4).trans rfl, (blk_cell BK280.out 5).trans rfl, (cU HB hw306_0 :), hx307_0⟩ (fun hHeld => ?_); refine with_tabW lw_BatchCheapest.tab25 lw_BatchCheapest.bits25 (fun HT_ HW_ => ?_)
                     generalize wr.drew = w80 at HO_5 BK279 BK280 HB hx306_0 hx307_0 hHeld ⊢
                     refine pQ 0 (some 158) (bA 10 1) ?_
                     refine pQ 2 (some 160) (bA 10 5) ?_
                     refine pQ 5 (some 163) (bA 10 37) ?_
                     refine pQ 6 (some 164) (bA 10 101) ?_
                     refine pQ 7 (some 165) (bA 10 229) ?_
                     refine tQ 1 (some 159) (bA 10 231) ?_
                     refine pQ 3 (some 161) (bA 10 239) ?_
                     refine tQ 4 (some 162) (bA 10 255) ?_
                     refine tQ 8 (some 166) (bA 10 511) ?_
                     refine pQ 9 (some 167) (bA 10 1023) ?_
                     refine done_ (done_of HT_.out (by kernel_rfl)) ?_
                     try go_wp2
                     replace HO_5 := Sd.mk (Kd.R_drew HO_5.out); replace BK279 := Sd.mk (blk_drew BK279.out); replace BK280 := Sd.mk (blk_drew BK280.out); replace HB := Sd.mk (below_drew1 HB.out)
                     have p308 : 0 ≤ (x18_4 : Int) := tB
                     have q308 : x18_4 < (t285.length : Int) := tB
                     obtain ⟨ad308, e308, hx308_0⟩ := Kd.at_int (Kd.R_reads' HO_5.out).2.2 x18_4 p308 q308
                     obtain rfl : ad307 = ad308 := (by injection e308)
                     replace p308 := eq_true p308; replace q308 := eq_true q308
                     have p309 : 0 ≤ (x18_4 : Int) := tB
                     have q309 : x18_4 < (l1_0.length : Int) := tB
                     obtain ⟨ad309, e309, hx309_0⟩ := Kd.at_int HR1_0.out x18_4 p309 q309; have hw309_0 := hx309_0
                     obtain rfl : ad306 = ad309 := (by injection e309)
                     replace hx309_0 := cU HB hx309_0; replace p309 := eq_true p309; replace q309 := eq_true q309
                     refine start_ (n := 14) (S := fun w' => w'.cell? ⟨gb280, 0, none⟩ = some (.slice (some ad306) l1_0.length c1_0) ∧ w'.cell? ⟨gb280, 1, none⟩ = some (.slice A1_1 l1_1.length c1_1) ∧ w'.cell? ⟨gb280, 2, none⟩ = some (.int .i64 a1_2) ∧ w'.cell? ⟨gb280, 3, none⟩ = some (.int .i64 a1_3) ∧ w'.cell? ⟨gb280, 4, none⟩ = some (.int .i64 a1_4) ∧ w'.cell? ⟨gb280, 5, none⟩ = some (.slice A1_5 l1_5.length c1_5) ∧ w'.cell? (ad307.add (x18_4).toNat) = some (.int .i64 (rd t285 x18_4)) ∧ w'.cell? (ad306.add (x18_4).toNat) = some (.int .i64 (rd l1_0 x18_4))) (ds := []) (bA 14 0) (by kernel_rfl) rfl rfl ⟨(blk_cell BK280.out 0).trans rfl, (blk_cell BK280.out 1).trans rfl, (blk_cell BK280.out 2).trans rfl, (blk_cell BK280.out 3).trans rfl, (blk_cell BK280.out 4).trans rfl, (blk_cell BK280.out 5).trans rfl, hx308_0, (cU HB hw309_0 :)⟩ (fun hHeld => ?_); refine with_tabW lw_BatchCheapest.tab26 lw_BatchCheapest.bits26 (fun HT_ HW_ => ?_)
                     generalize w80.drew = w81 at HO_5 BK279 BK280 HB hx308_0 hx309_0 hHeld ⊢
                     refine pQ 0 (some 168) (bA 14 1) ?_
                     refine pQ 1 (some 169) (bA 14 3) ?_
                     refine pQ 2 (some 170) (bA 14 7) ?_
                     refine pQ 4 (some 172) (bA 14 23) ?_
                     refine pQ 6 (some 174) (bA 14 87) ?_
                     refine tQ 3 (some 171) (bA 14 95) ?_
                     refine tQ 5 (some 173) (bA 14 127) ?_
                     refine pQ 7 (some 175) (bA 14 255) ?_
                     refine tQ 8 (some 176) (bA 14 511) ?_
                     refine pQ 9 (some 177) (bA 14 1023) ?_
                     refine pQ 10 (some 178) (bA 14 2047) ?_
                     refine one_ (i := 11) (N := some 179) (bA 14 4095) rfl rfl (one_of HT_.out (by kernel_rfl)) (by decide) (fun K hK => ?_)
                     refine goes_ Tryz.func12 (by kernel_rfl) rfl #[] (by rfl) rfl rfl tM ?_
                     with_reducible refine (lw_lives.calls k4  t310 _ A79.out).mono ?_
                     rintro e w82 ⟨rfl, hb⟩
                     have HS6_ := (hb.cell (World.block_lt_of_cell? _ _ (hHeld.2.2.2.2.2.2.1))).trans (hHeld.2.2.2.2.2.2.1)
                     refine ⟨_, rfl, ?_⟩
                     replace HO_5 := Sd.mk (Kd.R_below (by (with_reducible repeat (first | apply Kd.R_alloc | apply Kd.R_drewN | apply Kd.R_drew)); exact HO_5.out) hb)
                     replace BK279 := Sd.mk (blk_below (bkA BK279.out) hb); replace BK280 := Sd.mk (blk_below (bkA BK280.out) hb); replace HB := Sd.mk (below_step (bBl HB.out) hb)
                     (try clear hb)
                     (try clear hb2)
                     (try clear hk)
                     (try clear hi)
                     refine hK.out _ _ ⟨(blk_cell BK280.out 0).trans rfl, (blk_cell BK280.out 1).trans rfl, (blk_cell BK280.out 2).trans rfl, (blk_cell BK280.out 3).trans rfl, (blk_cell BK280.out 4).trans rfl, (blk_cell BK280.out 5).trans rfl, HS6_, (cU HB hw309_0 :)⟩ (fun hHeld => ?_)
                     clear hK K
                     refine norm_ (a' := ?_) ?_ ?_
                     rotate_left
                     ·show Act.put _ (some 179) _ = _
                      exact tP
                     refine pQ 12 (some 180) (bA 14 8191) ?_
                     refine pQ 13 (some 4) (bA 14 16383) ?_
                     refine done_ (done_of HT_.out (by kernel_rfl)) ?_
                     try go_wp2
                     go_ret
                     exact ⟨tE, bBl HB.out⟩
                    ·rw [if_neg c78] at H
                     have c78b0 : decide ((rd t285 x18_4) < (rd l1_0 x18_4)) = false := decide_eq_false c78
                     clear c78; obtain rfl := Option.some.inj H
                     try go_wp2
                     replace HO_5 := Sd.mk (Kd.R_drew HO_5.out); replace BK279 := Sd.mk (blk_drew BK279.out); replace BK280 := Sd.mk (blk_drew BK280.out); replace HB := Sd.mk (below_drew1 HB.out)
                     have p306 : 0 ≤ (x18_4 : Int) := tB
                     have q306 : x18_4 < (l1_0.length : Int) := tB
                     obtain ⟨ad306, e306, hx306_0⟩ := Kd.at_int HR1_0.out x18_4 p306 q306; have hw306_0 := hx306_0; cases e306; replace hx306_0 := cU HB hx306_0; replace p306 := eq_true p306; replace q306 := eq_true q306
                     have p307 : 0 ≤ (x18_4 : Int) := tB
                     have q307 : x18_4 < (t285.length : Int) := tB
                     obtain ⟨ad307, e307, hx307_0⟩ := Kd.at_int (Kd.R_reads' HO_5.out).2.2 x18_4 p307 q307; cases e307; replace p307 := eq_true p307; replace q307 := eq_true q307
                     refine start_ (n := 10) (S := fun w' => w'.cell? ⟨gb280, 0, none⟩ = some (.slice (some ad306) l1_0.length c1_0) ∧ w'.cell? ⟨gb280, 1, none⟩ = some (.slice A1_1 l1_1.length c1_1) ∧ w'.cell? ⟨gb280, 2, none⟩ = some (.int .i64 a1_2) ∧ w'.cell? ⟨gb280, 3, none⟩ = some (.int .i64 a1_3) ∧ w'.cell? ⟨gb280, 4, none⟩ = some (.int .i64 a1_4) ∧ w'.cell? ⟨gb280, 5, none⟩ = some (.slice A1_5 l1_5.length c1_5) ∧ w'.cell? (ad306.add (x18_4).toNat) = some (.int .i64 (rd l1_0 x18_4)) ∧ w'.cell? (ad307.add (x18_4).toNat) = some (.int .i64 (rd t285 x18_4))) (ds := []) (bA 10 0) (by kernel_rfl) rfl rfl ⟨(blk_cell BK280.out 0).trans rfl, (blk_cell BK280.out 1).trans rfl, (blk_cell BK280.out 2).trans rfl, (blk_cell BK280.out 3).trans rfl, (blk_cell BK280.out 4).trans rfl, (blk_cell BK280.out 5).trans rfl, (cU HB hw306_0 :), hx307_0⟩ (fun hHeld => ?_); refine with_tabW lw_BatchCheapest.tab25 lw_BatchCheapest.bits25 (fun HT_ HW_ => ?_)
                     generalize wr.drew = w83 at HO_5 BK279 BK280 HB hx306_0 hx307_0 hHeld ⊢
                     refine pQ 0 (some 158) (bA 10 1) ?_
                     refine pQ 2 (some 160) (bA 10 5) ?_
                     refine pQ 5 (some 163) (bA 10 37) ?_
                     refine pQ 6 (some 164) (bA 10 101) ?_
                     refine pQ 7 (some 165) (bA 10 229) ?_
                     refine tQ 1 (some 159) (bA 10 231) ?_
                     refine pQ 3 (some 161) (bA 10 239) ?_
                     refine tQ 4 (some 162) (bA 10 255) ?_
                     refine tQ 8 (some 166) (bA 10 511) ?_
                     refine pQ 9 (some 167) (bA 10 1023) ?_
                     refine done_ (done_of HT_.out (by kernel_rfl)) ?_
                     try go_wp2
                     replace HO_5 := Sd.mk (Kd.R_drew HO_5.out); replace BK279 := Sd.mk (blk_drew BK279.out); replace BK280 := Sd.mk (blk_drew BK280.out); replace HB := Sd.mk (below_drew1 HB.out)
                     have p308 : 0 ≤ (x18_4 : Int) := tB
                     have q308 : x18_4 < (t285.length : Int) := tB
                     obtain ⟨ad308, e308, hx308_0⟩ := Kd.at_int (Kd.R_reads' HO_5.out).2.2 x18_4 p308 q308
                     obtain rfl : ad307 = ad308 := (by injection e308)
                     replace p308 := eq_true p308; replace q308 := eq_true q308
                     have p309 : 0 ≤ (x18_4 : Int) := tB
                     have q309 : x18_4 < (l1_0.length : Int) := tB
                     obtain ⟨ad309, e309, hx309_0⟩ := Kd.at_int HR1_0.out x18_4 p309 q309; have hw309_0 := hx309_0
                     obtain rfl : ad306 = ad309 := (by injection e309)
                     replace hx309_0 := cU HB hx309_0; replace p309 := eq_true p309; replace q309 := eq_true q309
                     refine start_ (n := 14) (S := fun w' => w'.cell? ⟨gb280, 0, none⟩ = some (.slice (some ad306) l1_0.length c1_0) ∧ w'.cell? ⟨gb280, 1, none⟩ = some (.slice A1_1 l1_1.length c1_1) ∧ w'.cell? ⟨gb280, 2, none⟩ = some (.int .i64 a1_2) ∧ w'.cell? ⟨gb280, 3, none⟩ = some (.int .i64 a1_3) ∧ w'.cell? ⟨gb280, 4, none⟩ = some (.int .i64 a1_4) ∧ w'.cell? ⟨gb280, 5, none⟩ = some (.slice A1_5 l1_5.length c1_5) ∧ w'.cell? (ad307.add (x18_4).toNat) = some (.int .i64 (rd t285 x18_4)) ∧ w'.cell? (ad306.add (x18_4).toNat) = some (.int .i64 (rd l1_0 x18_4))) (ds := []) (bA 14 0) (by kernel_rfl) rfl rfl ⟨(blk_cell BK280.out 0).trans rfl, (blk_cell BK280.out 1).trans rfl, (blk_cell BK280.out 2).trans rfl, (blk_cell BK280.out 3).trans rfl, (blk_cell BK280.out 4).trans rfl, (blk_cell BK280.out 5).trans rfl, hx308_0, (cU HB hw309_0 :)⟩ (fun hHeld => ?_); refine with_tabW lw_BatchCheapest.tab26 lw_BatchCheapest.bits26 (fun HT_ HW_ => ?_)
                     generalize w83.drew = w84 at HO_5 BK279 BK280 HB hx308_0 hx309_0 hHeld ⊢
                     refine pQ 0 (some 168) (bA 14 1) ?_
                     refine pQ 1 (some 169) (bA 14 3) ?_
                     refine pQ 2 (some 170) (bA 14 7) ?_
                     refine pQ 4 (some 172) (bA 14 23) ?_
                     refine pQ 6 (some 174) (bA 14 87) ?_
                     refine tQ 3 (some 171) (bA 14 95) ?_
                     refine tQ 5 (some 173) (bA 14 127) ?_
                     refine pQ 7 (some 175) (bA 14 255) ?_
                     refine tQ 8 (some 176) (bA 14 511) ?_
                     refine pQ 9 (some 177) (bA 14 1023) ?_
                     refine pQ 10 (some 178) (bA 14 2047) ?_
                     refine pure_ (i := 11) (N := some 179) (v := undef) (a' := ?_) (bA 14 4095) rfl rfl (any_of HT_.out (by kernel_rfl)) (fun _ _ _ h => h) (Or.inr ⟨by rfl, rfl⟩) ?_ ?_
                     rotate_left
                     ·exact tP
                     refine pQ 12 (some 180) (bA 14 8191) ?_
                     refine pQ 13 (some 4) (bA 14 16383) ?_
                     refine done_ (done_of HT_.out (by kernel_rfl)) ?_
                     try go_wp2
                     go_ret
                     exact ⟨tE, bBl HB.out⟩
                  ·rw [if_neg c75] at H
                   exact absurd H (by simp)
                 ·rw [if_neg c74] at H
                  exact absurd H (by simp)
                ·rw [if_neg c73] at H
                 have c73b0 : decide (x18_4 < (t285.length : Int)) = false := decide_eq_false c73
                 clear c73; replace H := Option.bind_eq_some_iff.mp H; obtain ⟨t311, A850, H⟩ := H
                 try dsimp only at H
                 have A85 := Sd.mk A850; clear A850; obtain rfl := Option.some.inj H
                 go_wp2_with (first | ((with_reducible refine gate_callee (f := 12) rfl ?_); refine goesL_ (some 181) rfl rfl Tryz.func12 (by kernel_rfl) rfl #[] rfl tM ?_; (with_reducible refine (lw_lives.calls k4  t311 _ A85.out).mono ?_); rintro e w86 ⟨rfl, hb⟩; refine ⟨_, rfl, ?_⟩; replace HO_5 := Sd.mk (Kd.R_below (by (with_reducible repeat (first | apply Kd.R_alloc | apply Kd.R_drewN | apply Kd.R_drew)); exact HO_5.out) hb); replace BK279 := Sd.mk (blk_below (bkA BK279.out) hb); replace BK280 := Sd.mk (blk_below (bkA BK280.out) hb); replace HB := Sd.mk (below_step (bBl HB.out) hb); (try clear hb); (try clear hb2); (try clear hk); (try clear hi)))
                 go_ret
                 exact ⟨tE, bBl HB.out⟩
             ·rw [if_neg c72] at H
              have c72b0 : (t296 == t288) = false := beq_eq_false_iff_ne.mpr c72
              have c72b1 : (t296 != t288) = true := bne_iff_ne.mpr c72
              replace H := Option.bind_eq_some_iff.mp H; obtain ⟨t312, A870, H⟩ := H
              try dsimp only at H
              have A87 := Sd.mk A870; clear A870; obtain rfl := Option.some.inj H
              go_wp2_with (first | ((with_reducible refine gate_callee (f := 12) rfl ?_); refine goesL_ (some 181) rfl rfl Tryz.func12 (by kernel_rfl) rfl #[] rfl tM ?_; (with_reducible refine (lw_lives.calls kj54  t312 _ A87.out).mono ?_); rintro e w88 ⟨rfl, hb⟩; refine ⟨_, rfl, ?_⟩; replace HO_5 := Sd.mk (Kd.R_below (by (with_reducible repeat (first | apply Kd.R_alloc | apply Kd.R_drewN | apply Kd.R_drew)); exact HO_5.out) hb); replace BK279 := Sd.mk (blk_below (bkA BK279.out) hb); replace BK280 := Sd.mk (blk_below (bkA BK280.out) hb); replace HB := Sd.mk (below_step (bBl HB.out) hb); (try clear hb); (try clear hb2); (try clear hk); (try clear hi)))
              go_ret
              exact ⟨tE, bBl HB.out⟩
           ·replace c70 := Bool.eq_false_iff.mpr c70
            subst c70
            have H1 : ((lw_lives.f kj54).bind fun t305 => (some t305)) = some r := by rw [if_neg (show ¬ (false = true) by decide)] at H; exact H
            clear H; have H := H1; clear H1; replace H := Option.bind_eq_some_iff.mp H; obtain ⟨t305, A890, H⟩ := H
            try dsimp only at H
            have A89 := Sd.mk A890; clear A890; obtain rfl := Option.some.inj H
            go_wp2_with (first | ((with_reducible refine gate_callee (f := 12) rfl ?_); refine goesL_ (some 145) rfl rfl Tryz.func12 (by kernel_rfl) rfl #[] rfl tM ?_; (with_reducible refine (lw_lives.calls kj54  t305 _ A89.out).mono ?_); rintro e w90 ⟨rfl, hb⟩; refine ⟨_, rfl, ?_⟩; replace HO_5 := Sd.mk (Kd.R_below (by (with_reducible repeat (first | apply Kd.R_alloc | apply Kd.R_drewN | apply Kd.R_drew)); exact HO_5.out) hb); replace BK279 := Sd.mk (blk_below (bkA BK279.out) hb); replace BK280 := Sd.mk (blk_below (bkA BK280.out) hb); replace HB := Sd.mk (below_step (bBl HB.out) hb); (try clear hb); (try clear hb2); (try clear hk); (try clear hi)))
            go_ret
            exact ⟨tE, bBl HB.out⟩
       ·replace c51 := Bool.eq_false_iff.mpr c51
        subst c51
        have H1 : (if (t285.length : Int) = 0 then (if t288 = 0 then (if x15_33 = true then (some false) else ((lw_lives.f kj33).bind fun t298 => (some t298))) else (some false)) else (some false)) = some r := by rw [if_neg (show ¬ (false = true) by decide)] at H; exact H
        clear H; have H := H1; clear H1
        by_cases c91 : (t285.length : Int) = 0
        ·rw [if_pos c91] at H
         have c91b0 : ((t285.length : Int) == 0) = true := beq_iff_eq.mpr c91
         have c91b1 : ((t285.length : Int) != 0) = false := bne_eq_false_iff_eq.mpr c91
         clear c91
         by_cases c92 : t288 = 0
         ·rw [if_pos c92] at H
          have c92b0 : (t288 == 0) = true := beq_iff_eq.mpr c92
          have c92b1 : (t288 != 0) = false := bne_eq_false_iff_eq.mpr c92
          clear c92
          by_cases c93 : x15_33 = true
          ·subst c93
           have H1 : (some false) = some r := by rw [if_pos rfl] at H; exact H
           clear H; have H := H1; clear H1; obtain rfl := Option.some.inj H; obtain ⟨Ao94, co94, eo94⟩ := Kd.R_slice HO_5.out; subst eo94
           go_wp2
           go_ret
           exact ⟨tE, bBl HB.out⟩
          ·replace c93 := Bool.eq_false_iff.mpr c93
           subst c93
           have H1 : ((lw_lives.f kj33).bind fun t298 => (some t298)) = some r := by rw [if_neg (show ¬ (false = true) by decide)] at H; exact H
           clear H; have H := H1; clear H1; replace H := Option.bind_eq_some_iff.mp H; obtain ⟨t298, A950, H⟩ := H
           try dsimp only at H
           have A95 := Sd.mk A950; clear A950; obtain rfl := Option.some.inj H; obtain ⟨Ao96, co96, eo96⟩ := Kd.R_slice HO_5.out; subst eo96
           go_wp2_with (first | (go_at_call 12; (with_reducible refine (lw_lives.calls kj33  t298 _ A95.out).mono ?_); rintro e w97 ⟨rfl, hb⟩; replace HO_5 := Sd.mk (Kd.R_below (by (with_reducible repeat (first | apply Kd.R_alloc | apply Kd.R_drewN | apply Kd.R_drew)); exact HO_5.out) hb); replace BK279 := Sd.mk (blk_below (bkA BK279.out) hb); replace BK280 := Sd.mk (blk_below (bkA BK280.out) hb); replace HB := Sd.mk (below_step (bBl HB.out) hb); (try clear hb); (try clear hb2); (try clear hk); (try clear hi)))
           go_ret
           exact ⟨tE, bBl HB.out⟩
         ·rw [if_neg c92] at H
          have c92b0 : (t288 == 0) = false := beq_eq_false_iff_ne.mpr c92
          have c92b1 : (t288 != 0) = true := bne_iff_ne.mpr c92
          obtain rfl := Option.some.inj H; obtain ⟨Ao98, co98, eo98⟩ := Kd.R_slice HO_5.out; subst eo98
          go_wp2
          go_ret
          exact ⟨tE, bBl HB.out⟩
        ·rw [if_neg c91] at H
         have c91b0 : ((t285.length : Int) == 0) = false := beq_eq_false_iff_ne.mpr c91
         have c91b1 : ((t285.length : Int) != 0) = true := bne_iff_ne.mpr c91
         have c91b2 : ¬ (t285 = []) := fun h_ => c91 (by rw [h_]; rfl)
         obtain rfl := Option.some.inj H; obtain ⟨Ao99, co99, eo99⟩ := Kd.R_slice HO_5.out; subst eo99
         go_wp2
         go_ret
         exact ⟨tE, bBl HB.out⟩
    ·rw [if_neg c30] at H
     have c30b0 : (t290 == 0) = false := beq_eq_false_iff_ne.mpr c30
     have c30b1 : (t290 != 0) = true := bne_iff_ne.mpr c30
     by_cases c100 : (t285.length : Int) = 0
     ·rw [if_pos c100] at H
      have c100b0 : ((t285.length : Int) == 0) = true := beq_iff_eq.mpr c100
      have c100b1 : ((t285.length : Int) != 0) = false := bne_eq_false_iff_eq.mpr c100
      clear c100
      by_cases c101 : t289 = true
      ·subst c101
       have H1 : (some false) = some r := by rw [if_pos rfl] at H; exact H
       clear H; have H := H1; clear H1; obtain rfl := Option.some.inj H; have hnb102 := NB279_280.out; have hnc102 := NB280_279.out; obtain ⟨u103_0, u103_1, u103_2, u103_3, u103_4, u103_5, u103_6, o103_0, o103_1, o103_2, o103_3, o103_4, o103_5, o103_6⟩ := bc7 (w := wc) BK279.out
       go_wp2_with (first | ((with_reducible refine gate_callee (f := 28) rfl ?_); refine goesL_ (some 32) rfl rfl Tryz.func28 (by kernel_rfl) rfl #[.agg #[.slice A0_0 l0_0.length c0_0, .slice A0_1 l0_1.length c0_1, .slice A0_2 l0_2.length c0_2, .slice A0_3 l0_3.length c0_3, .int .i64 a0_4, .int .i64 a0_5, .int .i64 a0_6]] rfl tM ?_; (with_reducible refine (b_Best.calls kj2 _ _ l0_0 _ _ l0_1 _ _ l0_2 _ _ l0_3 a0_4 a0_5 a0_6 t285 t288 true t290 _ (cS (Kd.C_below HR0_0.out HB.out)) HC0_0.out (cS (Kd.C_below HR0_1.out HB.out)) HC0_1.out (cS (Kd.C_below HR0_2.out HB.out)) HC0_2.out (cS (Kd.C_below HR0_3.out HB.out)) HC0_3.out A29.out).mono ?_); rintro e w104 ⟨v286, rfl, ho0, hb⟩; refine ⟨_, rfl, ?_⟩; have HO287 := Sd.mk (Kd.R_lower ho0 (below_size (bBl HB.out))); replace BK279 := Sd.mk (blk_below (bkA BK279.out) hb); replace BK280 := Sd.mk (blk_below (bkA BK280.out) hb); replace HB := Sd.mk (below_step (bBl HB.out) hb); (try clear hb); (try clear hb2); (try clear hk); (try clear hi); (try clear ho0); obtain ⟨Ao105, co105, eo105⟩ := Kd.R_slice HO287.out; subst eo105))
       go_ret
       exact ⟨tE, bBl HB.out⟩
      ·replace c101 := Bool.eq_false_iff.mpr c101
       subst c101
       have H1 : ((lw_lives.f kj2).bind fun t291 => (some t291)) = some r := by rw [if_neg (show ¬ (false = true) by decide)] at H; exact H
       clear H; have H := H1; clear H1; replace H := Option.bind_eq_some_iff.mp H; obtain ⟨t291, A1060, H⟩ := H
       try dsimp only at H
       have A106 := Sd.mk A1060; clear A1060; obtain rfl := Option.some.inj H; have hnb107 := NB279_280.out; have hnc107 := NB280_279.out; obtain ⟨u108_0, u108_1, u108_2, u108_3, u108_4, u108_5, u108_6, o108_0, o108_1, o108_2, o108_3, o108_4, o108_5, o108_6⟩ := bc7 (w := wc) BK279.out
       go_wp2_with (first | ((with_reducible refine gate_callee (f := 28) rfl ?_); refine goesL_ (some 32) rfl rfl Tryz.func28 (by kernel_rfl) rfl #[.agg #[.slice A0_0 l0_0.length c0_0, .slice A0_1 l0_1.length c0_1, .slice A0_2 l0_2.length c0_2, .slice A0_3 l0_3.length c0_3, .int .i64 a0_4, .int .i64 a0_5, .int .i64 a0_6]] rfl tM ?_; (with_reducible refine (b_Best.calls kj2 _ _ l0_0 _ _ l0_1 _ _ l0_2 _ _ l0_3 a0_4 a0_5 a0_6 t285 t288 false t290 _ (cS (Kd.C_below HR0_0.out HB.out)) HC0_0.out (cS (Kd.C_below HR0_1.out HB.out)) HC0_1.out (cS (Kd.C_below HR0_2.out HB.out)) HC0_2.out (cS (Kd.C_below HR0_3.out HB.out)) HC0_3.out A29.out).mono ?_); rintro e w109 ⟨v286, rfl, ho0, hb⟩; refine ⟨_, rfl, ?_⟩; have HO287 := Sd.mk (Kd.R_lower ho0 (below_size (bBl HB.out))); replace BK279 := Sd.mk (blk_below (bkA BK279.out) hb); replace BK280 := Sd.mk (blk_below (bkA BK280.out) hb); replace HB := Sd.mk (below_step (bBl HB.out) hb); (try clear hb); (try clear hb2); (try clear hk); (try clear hi); (try clear ho0); obtain ⟨Ao110, co110, eo110⟩ := Kd.R_slice HO287.out; subst eo110) | (go_at_call 12; (with_reducible refine (lw_lives.calls kj2  t291 _ A106.out).mono ?_); rintro e w111 ⟨rfl, hb⟩; replace HO287 := Sd.mk (Kd.R_below (by (with_reducible repeat (first | apply Kd.R_alloc | apply Kd.R_drewN | apply Kd.R_drew)); exact HO287.out) hb); replace BK279 := Sd.mk (blk_below (bkA BK279.out) hb); replace BK280 := Sd.mk (blk_below (bkA BK280.out) hb); replace HB := Sd.mk (below_step (bBl HB.out) hb); (try clear hb); (try clear hb2); (try clear hk); (try clear hi)))
       go_ret
       exact ⟨tE, bBl HB.out⟩
     ·rw [if_neg c100] at H
      have c100b0 : ((t285.length : Int) == 0) = false := beq_eq_false_iff_ne.mpr c100
      have c100b1 : ((t285.length : Int) != 0) = true := bne_iff_ne.mpr c100
      have c100b2 : ¬ (t285 = []) := fun h_ => c100 (by rw [h_]; rfl)
      obtain rfl := Option.some.inj H; have hnb112 := NB279_280.out; have hnc112 := NB280_279.out; obtain ⟨u113_0, u113_1, u113_2, u113_3, u113_4, u113_5, u113_6, o113_0, o113_1, o113_2, o113_3, o113_4, o113_5, o113_6⟩ := bc7 (w := wc) BK279.out
      go_wp2_with (first | ((with_reducible refine gate_callee (f := 28) rfl ?_); refine goesL_ (some 32) rfl rfl Tryz.func28 (by kernel_rfl) rfl #[.agg #[.slice A0_0 l0_0.length c0_0, .slice A0_1 l0_1.length c0_1, .slice A0_2 l0_2.length c0_2, .slice A0_3 l0_3.length c0_3, .int .i64 a0_4, .int .i64 a0_5, .int .i64 a0_6]] rfl tM ?_; (with_reducible refine (b_Best.calls kj2 _ _ l0_0 _ _ l0_1 _ _ l0_2 _ _ l0_3 a0_4 a0_5 a0_6 t285 t288 t289 t290 _ (cS (Kd.C_below HR0_0.out HB.out)) HC0_0.out (cS (Kd.C_below HR0_1.out HB.out)) HC0_1.out (cS (Kd.C_below HR0_2.out HB.out)) HC0_2.out (cS (Kd.C_below HR0_3.out HB.out)) HC0_3.out A29.out).mono ?_); rintro e w114 ⟨v286, rfl, ho0, hb⟩; refine ⟨_, rfl, ?_⟩; have HO287 := Sd.mk (Kd.R_lower ho0 (below_size (bBl HB.out))); replace BK279 := Sd.mk (blk_below (bkA BK279.out) hb); replace BK280 := Sd.mk (blk_below (bkA BK280.out) hb); replace HB := Sd.mk (below_step (bBl HB.out) hb); (try clear hb); (try clear hb2); (try clear hk); (try clear hi); (try clear ho0); obtain ⟨Ao115, co115, eo115⟩ := Kd.R_slice HO287.out; subst eo115))
      go_ret
      exact ⟨tE, bBl HB.out⟩
end
section
section
variable (o : List ByteArray) (mt : List S70) (s : List S27) (p : List S89) (a4 a5 a6 : Int) (r q : List Int) (n b3 b4 : Int) (l5 : List Int)
theorem ask_of {o : List ByteArray} {mt : List S70} {s : List S27} {p : List S89} {a4 a5 a6 : Int} {r : List Int} (h : checkV o mt s p a4 a5 a6 = 0) (hr : RecOk mt r) : askV o mt s p a4 a5 a6 r = 0 := by
  unfold askV recV
  rw [if_pos h, if_pos hr.len, if_neg]
  intro ha
  obtain ⟨x, hx, ho⟩ := List.any_eq_true.1 ha
  obtain ⟨i, hi, rfl⟩ := List.getElem_of_mem hx
  have hk := hr.kilos i (by rw [← hr.len]; exact hi)
  have e : rd r (i : Int) = r[i] := by simp [rd, hi]
  rw [e] at hk
  simp [outside] at ho
  omega
theorem cheap_l0 (b : List Int) (hb : b.length = r.length) (hl : b.length ≤ 12) (hx : ∀ j : Nat, j < b.length → (∀ i : Nat, i < j → rd b (i : Int) = rd r (i : Int)) → rd b (j : Int) ≤ rd r (j : Int)) :
    ∀ (m i : Nat), i + m = b.length → (∀ j : Nat, j < i → rd b (j : Int) = rd r (j : Int)) → Ev (fun k => lw_BatchCheapest.l0 k b (i : Int) r q n b3 b4 l5) true
  | 0, i, hi, he => by
    apply Ev.step
    simp only [lw_BatchCheapest.l0, if_neg (show ¬ (i : Int) < (b.length : Int) by omega)]
    exact Ev.bind lives_ev (Ev.const _)
  | m + 1, i, hi, he => by
    have h1 := hx i (by omega) he
    apply Ev.step
    simp only [lw_BatchCheapest.l0, if_pos (show (i : Int) < (b.length : Int) by omega), if_pos (i_pos i), if_pos (show (i : Int) < (r.length : Int) by omega), wrap_succ (i_pos i) (show (i : Int) ≤ 1000000000 by omega)]
    by_cases h : rd r (i : Int) = rd b (i : Int)
    · simp only [if_pos h]
      refine cheap_l0 b hb hl hx m (i + 1) (by omega) (fun j hj => ?_)
      by_cases hji : j = i
      · rw [hji]; exact h.symm
      · exact he j (by omega)
    · simp only [if_neg h, if_pos (show rd b (i : Int) < rd r (i : Int) by omega)]
      exact Ev.bind lives_ev (Ev.const _)
theorem cheap_j1 (hc : checkV o mt s p a4 a5 a6 = 0) (own : Int) (better : Bool) (hbt : better = true → RecOk mt r ∧ own = cW mt r mt.length ∧ passB mt s p a4 a5 a6 r = true ∧ mayL mt r mt.length 0 = true) :
    Ev (fun k => lw_BatchCheapest.j1 k (bestV mt s p a4 a5 a6).1 (bestV mt s p a4 a5 a6).2.1 (bestV mt s p a4 a5 a6).2.2 own better o mt s p a4 a5 a6 r q n b3 b4 l5) true := by
  have H := check_ok hc
  have HM := mats_b H
  have Q := best_q mt s p a4 a5 a6
  have hin : better = true → r ∈ allR mt := fun h => (allowed_iff HM r).2 ⟨(hbt h).1.len, (hbt h).2.2.2⟩
  generalize bestV mt s p a4 a5 a6 = st at *
  obtain ⟨b, c, f⟩ := st
  apply Ev.step
  cases f with
  | false =>
    obtain ⟨h1, h2⟩ := Q.no rfl
    simp only [Prod.mk.injEq] at h1
    obtain ⟨rfl, rfl, _⟩ := h1
    have hb : better = false := by
      cases better with
      | false => rfl
      | true =>
        have := h2 r (hin rfl)
        rw [(hbt rfl).2.2.1] at this; cases this
    subst hb
    simp only [lw_BatchCheapest.j1, Bool.false_eq_true, if_false, List.length_nil, Int.natCast_zero, if_true]
    exact Ev.bind lives_ev (Ev.const _)
  | true =>
    obtain ⟨h1, h2, L1, L2, h3, h4, h5⟩ := Q.yes rfl
    simp only at h1 h2 h3 h4 h5
    have hbm : b ∈ allR mt := by rw [h3]; simp
    have hbr := allR_rec mt HM b hbm
    have hba := ask_of hc hbr
    simp only [lw_BatchCheapest.j1, if_true]
    refine Ev.bind (bPasses o mt s p a4 a5 a6 b) (Ev.bind (bAllowed o mt s p a4 a5 a6 b) (Ev.bind (bCost o mt s p a4 a5 a6 b) ?_))
    simp only [PassV, MayV, CostV, if_pos hba, h1, ((allowed_iff HM b).1 hbm).2, if_true, ← h2, bne_self_eq_false]
    apply Ev.step
    simp only [lw_BatchCheapest.j2, Bool.false_eq_true, if_false]
    cases better with
    | false =>
      simp only [Bool.false_eq_true, if_false]
      exact Ev.bind lives_ev (Ev.const _)
    | true =>
      obtain ⟨hr, rfl, hp, hm⟩ := hbt rfl
      have hrm := hin rfl
      simp only [if_true]
      have hle : c ≤ cW mt r mt.length := by
        rw [h3] at hrm
        rcases List.mem_append.1 hrm with hx | hx
        · have := h4 r hx hp; omega
        · rcases List.mem_cons.1 hx with hx | hx
          · rw [h2, hx]; exact Int.le_refl _
          · have := h5 r hx hp; omega
      simp only [if_neg (show ¬ cW mt r mt.length < c by omega)]
      by_cases he : cW mt r mt.length = c
      · simp only [if_pos he]
        have hlx : r = b ∨ LexLt b r := by
          have hpw := lex_all mt HM
          rw [h3] at hrm hpw
          rcases List.mem_append.1 hrm with hx | hx
          · have := h4 r hx hp; omega
          · rcases List.mem_cons.1 hx with hx | hx
            · exact Or.inl hx
            · rw [List.pairwise_append] at hpw
              exact Or.inr ((List.pairwise_cons.1 hpw.2.1).1 r hx)
        refine cheap_l0 r q n b3 b4 l5 b (by rw [hbr.len, hr.len]) (by rw [hbr.len]; exact H.m12) (fun j hj hj2 => ?_) b.length 0 (by omega) (fun j hj => by omega)
        rcases hlx with rfl | hlx
        · exact Int.le_refl _
        · exact lex_le b r hlx j hj hj2
      · simp only [if_neg he]
        exact Ev.bind lives_ev (Ev.const _)
theorem cheap_j0 (b : Bool) : Ev (fun k => lw_BatchCheapest.j0 k b o mt s p a4 a5 a6 r q n b3 b4 l5) true := by
  apply Ev.step
  cases b with
  | true => simp only [lw_BatchCheapest.j0, if_true]; exact Ev.bind lives_ev (Ev.const _)
  | false =>
    simp only [lw_BatchCheapest.j0, Bool.false_eq_true, if_false]
    refine Ev.bind (best_ev o mt s p a4 a5 a6) ?_
    unfold BestV
    by_cases hc : checkV o mt s p a4 a5 a6 = 0
    · by_cases hf : fewW mt mt.length 0 1 = true
      · simp only [if_pos hc, if_pos hf, if_true]
        refine Ev.bind (bPasses o mt s p a4 a5 a6 r) (Ev.bind (bAllowed o mt s p a4 a5 a6 r) (Ev.bind (bCost o mt s p a4 a5 a6 r) ?_))
        by_cases ha : askV o mt s p a4 a5 a6 r = 0
        · simp only [PassV, MayV, CostV, if_pos ha, if_true]
          cases hp : passB mt s p a4 a5 a6 r with
          | true =>
            simp only [if_true]
            refine cheap_j1 o mt s p a4 a5 a6 r q n b3 b4 l5 hc _ _ (fun h => ⟨(ask_ok ha).2, rfl, hp, h⟩)
          | false =>
            simp only [Bool.false_eq_true, if_false]
            exact cheap_j1 o mt s p a4 a5 a6 r q n b3 b4 l5 hc _ _ (fun h => by cases h)
        · simp only [PassV, MayV, CostV, if_neg ha]
          exact cheap_j1 o mt s p a4 a5 a6 r q n b3 b4 l5 hc _ _ (fun h => by cases h)
      · simp only [if_pos hc, if_neg hf, List.length_nil, Int.natCast_zero, Bool.false_eq_true, if_false, if_true, if_neg (show ¬ (9 : Int) = 0 by decide)]
        exact Ev.bind lives_ev (Ev.const _)
    · simp only [if_neg hc, List.length_nil, Int.natCast_zero, Bool.false_eq_true, if_false, if_true]
      exact Ev.bind lives_ev (Ev.const _)
theorem BatchCheapest_true : ∃ k, lw_BatchCheapest.f k o mt s p a4 a5 a6 r q n b3 b4 l5 = some true := by
  obtain ⟨b, hb⟩ := great o mt s p a4 a5 a6
  obtain ⟨w, hw⟩ := wide_ev r q n b3 b4 l5
  obtain ⟨d, hd⟩ := many_ev o mt s p a4 a5 a6
  have h : Ev (fun k => lw_BatchCheapest.f k o mt s p a4 a5 a6 r q n b3 b4 l5) true := by
    unfold lw_BatchCheapest.f
    refine Ev.bind hb ?_
    cases b with
    | true => simp only [if_true]; exact cheap_j0 o mt s p a4 a5 a6 r q n b3 b4 l5 true
    | false =>
      simp only [Bool.false_eq_true, if_false, hw, Option.bind_some]
      cases w with
      | true => simp only [if_true]; exact cheap_j0 o mt s p a4 a5 a6 r q n b3 b4 l5 true
      | false =>
        simp only [Bool.false_eq_true, if_false]
        exact Ev.bind hd (cheap_j0 o mt s p a4 a5 a6 r q n b3 b4 l5 d)
  obtain ⟨K, hK⟩ := h
  exact ⟨K, hK K (Nat.le_refl _)⟩
end
end
end Go.Proofs.YtljfljekcpdpiaaGreat.PB
