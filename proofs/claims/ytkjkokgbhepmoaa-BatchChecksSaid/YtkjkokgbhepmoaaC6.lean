import Derived.Test.YtkjkokgbhepmoaaC5
set_option linter.unusedVariables false
set_option linter.unusedSimpArgs false
namespace Go.Proofs.Ytkjkokgbhepmoaa.PB
open Go.RowKit Go.Proofs.YtkjkokgbhepmoaaW.PrintWords Go.Proofs.YtkjkokgbhepmoaaW.PrintLast Go.Proofs.YtkjkokgbhepmoaaW.PrintMore
attribute [local go_sem] max2_int min2_int max_two min_two max_three min_three max_four min_four
mutual
def lw_BatchChecks.j0 : Nat → List (S51) → List (S51) → Bool → Option (Bool)
 | 0, _, _, _ => none
 | k + 1, x3, x5, x37 => if x37 = true then (some false) else (lw_BatchChecks.l0 k x3 x5 0)
def lw_BatchChecks.l0 : Nat → List (S51) → List (S51) → Int → Option (Bool)
 | 0, _, _, _ => none
 | k + 1, x3, x5, x7 => if x7 < (x5.length : Int) then (if 0 ≤ x7 then (if x7 < (x3.length : Int) then (if ((rd_T51 x3 x7).f1) = ((rd_T51 x5 x7).f1) then ((lw_SameInts.f k ((rd_T51 x3 x7).f0) ((rd_T51 x5 x7).f0)).bind fun t441 => (if t441 = true then (lw_BatchChecks.l0 k x3 x5 (wrap64 (x7 + 1))) else (some false))) else (some false)) else (none)) else (none)) else ((lw_lives.f k).bind fun t442 => (some t442))
end
def lw_BatchChecks.f (k : Nat) (l0_0 : List ByteArray) (l0_1 : List (S63)) (l0_2 : List (S27)) (l0_3 : List (S65)) (a0_4 : Int) (a0_5 : Int) (a0_6 : Int) : Option (Bool) := (lw_Great.f k l0_0 l0_1 l0_2 l0_3 a0_4 a0_5 a0_6).bind fun t425 => (if t425 = true then ((lw_lives.f k).bind fun t426 => (some t426)) else ((batch_Lines.f k l0_0 l0_1 l0_2 l0_3 a0_4 a0_5 a0_6).bind fun bt427 => ((rf_Lines.f k l0_0 l0_1 l0_2 l0_3 a0_4 a0_5 a0_6).bind fun bt431 => ((batch_Check.f k l0_0 l0_1 l0_2 l0_3 a0_4 a0_5 a0_6).bind fun t435 => ((rf_Check.f k l0_0 l0_1 l0_2 l0_3 a0_4 a0_5 a0_6).bind fun t436 => (if t435 = t436 then (if bt427.2 = bt431.2 then (lw_BatchChecks.j0 k bt427.1 bt431.1 ((bt427.1.length : Int) != (bt431.1.length : Int))) else (lw_BatchChecks.j0 k bt427.1 bt431.1 true)) else (lw_BatchChecks.j0 k bt427.1 bt431.1 true)))))))
def lw_BatchChecks.T5 : Bool × List (List Nat × List Nat) := (true, [([], []), ([0], [0]), ([], []), ([2, 1], [2]), ([1, 3], [1, 3]), ([4, 3], [4]), ([5], [5]), ([5], [5]), ([6, 7, 5], [5, 6, 7]), ([5, 8], [5, 8]), ([9, 5], [9]), ([10], [10]), ([11, 10], [10, 11]), ([10], [10]), ([13, 10], [10, 13]), ([12, 14, 10], [10, 12, 14]), ([10, 15], [10, 15])])
def lw_BatchChecks.B5 : List Nat := [0, 1, 0, 7, 15, 31, 63, 63, 255, 511, 1023, 2047, 4095, 2047, 10239, 32767, 65535]
theorem lw_BatchChecks.tab5 : rtab .any (opsOf Try.f4 5) = lw_BatchChecks.T5 := by kernel_rfl
theorem lw_BatchChecks.bits5 : waitsOk lw_BatchChecks.T5.2 lw_BatchChecks.B5 = true := by kernel_rfl
def lw_BatchChecks.T10 : Bool × List (List Nat × List Nat) := (true, [([], []), ([], []), ([0, 1], [0, 1]), ([2], [2]), ([3], [3]), ([], []), ([], []), ([5, 6], [5, 6]), ([7], [7]), ([8], [8]), ([4, 9], [4, 9]), ([10], [10]), ([11], [11]), ([11], [11]), ([12, 13, 11], [11, 12, 13]), ([14, 11], [11, 14]), ([15, 11], [11, 15]), ([11], [11]), ([11], [11]), ([17, 18, 11], [11, 17, 18]), ([19, 11], [11, 19]), ([20, 11], [11, 20]), ([16, 21, 11, 11], [11, 16, 21]), ([22, 11], [11, 22]), ([11, 23], [11, 23])])
def lw_BatchChecks.B10 : List Nat := [0, 0, 3, 7, 15, 0, 0, 96, 224, 480, 1023, 2047, 4095, 4095, 16383, 32767, 65535, 4095, 4095, 397311, 921599, 1970175, 4194303, 8388607, 16777215]
theorem lw_BatchChecks.tab10 : rtab .any (opsOf Try.f4 10) = lw_BatchChecks.T10 := by kernel_rfl
theorem lw_BatchChecks.bits10 : waitsOk lw_BatchChecks.T10.2 lw_BatchChecks.B10 = true := by kernel_rfl
set_option maxHeartbeats 8000000 in
set_option maxRecDepth 100000 in
theorem lw_BatchChecks.calls (k : Nat) (A0_0 : Option Addr) (c0_0 : Nat) (l0_0 : List ByteArray) (A0_1 : Option Addr) (c0_1 : Nat) (l0_1 : List (S63)) (A0_2 : Option Addr) (c0_2 : Nat) (l0_2 : List (S27)) (A0_3 : Option Addr) (c0_3 : Nat) (l0_3 : List (S65)) (a0_4 : Int) (a0_5 : Int) (a0_6 : Int) (r : Bool) (w : World) (hr0_0 : Kd.C Kd.string w A0_0 l0_0.length l0_0) (hc0_0 : l0_0.length ≤ c0_0) (hr0_1 : Kd.C k63 w A0_1 l0_1.length l0_1) (hc0_1 : l0_1.length ≤ c0_1) (hr0_2 : Kd.C k27 w A0_2 l0_2.length l0_2) (hc0_2 : l0_2.length ≤ c0_2) (hr0_3 : Kd.C k65 w A0_3 l0_3.length l0_3) (hc0_3 : l0_3.length ≤ c0_3) (h : lw_BatchChecks.f k l0_0 l0_1 l0_2 l0_3 a0_4 a0_5 a0_6 = some r) :
  Calls Try.prog 4 #[.agg #[.slice A0_0 l0_0.length c0_0, .slice A0_1 l0_1.length c0_1, .slice A0_2 l0_2.length c0_2, .slice A0_3 l0_3.length c0_3, .int .i64 a0_4, .int .i64 a0_5, .int .i64 a0_6]] w fun e w' => e = .returned (.bool r) ∧ Below w.heap.size w w' := by
 have hu29 := Try.underlying29; have HR0_0 := Sd.mk hr0_0; have HC0_0 := Sd.mk hc0_0; clear hr0_0 hc0_0; have HR0_1 := Sd.mk hr0_1; have HC0_1 := Sd.mk hc0_1; clear hr0_1 hc0_1; have HR0_2 := Sd.mk hr0_2; have HC0_2 := Sd.mk hc0_2; clear hr0_2 hc0_2; have HR0_3 := Sd.mk hr0_3; have HC0_3 := Sd.mk hc0_3; clear hr0_3 hc0_3; have HB := Sd.mk (Below.refl w.heap.size w)
 have H : ((lw_Great.f k l0_0 l0_1 l0_2 l0_3 a0_4 a0_5 a0_6).bind fun t425 => (if t425 = true then ((lw_lives.f k).bind fun t426 => (some t426)) else ((batch_Lines.f k l0_0 l0_1 l0_2 l0_3 a0_4 a0_5 a0_6).bind fun bt427 => ((rf_Lines.f k l0_0 l0_1 l0_2 l0_3 a0_4 a0_5 a0_6).bind fun bt431 => ((batch_Check.f k l0_0 l0_1 l0_2 l0_3 a0_4 a0_5 a0_6).bind fun t435 => ((rf_Check.f k l0_0 l0_1 l0_2 l0_3 a0_4 a0_5 a0_6).bind fun t436 => (if t435 = t436 then (if bt427.2 = bt431.2 then (lw_BatchChecks.j0 k bt427.1 bt431.1 ((bt427.1.length : Int) != (bt431.1.length : Int))) else (lw_BatchChecks.j0 k bt427.1 bt431.1 true)) else (lw_BatchChecks.j0 k bt427.1 bt431.1 true)))))))) = some r := h
 clear h; replace H := Option.bind_eq_some_iff.mp H; obtain ⟨t425, A20, H⟩ := H
 try dsimp only at H
 have A2 := Sd.mk A20; clear A20
 by_cases c3 : t425 = true
 ·subst c3
  have H1 : ((lw_lives.f k).bind fun t426 => (some t426)) = some r := by rw [if_pos rfl] at H; exact H
  clear H; have H := H1; clear H1; replace H := Option.bind_eq_some_iff.mp H; obtain ⟨t426, A40, H⟩ := H
  try dsimp only at H
  have A4 := Sd.mk A40; clear A40; obtain rfl := Option.some.inj H
  go_enter Try.func4, Try.ntmps4
  go_wp2_with (first | ((with_reducible refine gate_dst (N := 1) rfl ?_); (try (refine gate_guard (by rfl) ?_; dsimp only)); refine box_event ?hg (N := 1) ?hd (cs := #[.slice A0_0 l0_0.length c0_0, .slice A0_1 l0_1.length c0_1, .slice A0_2 l0_2.length c0_2, .slice A0_3 l0_3.length c0_3, .int .i64 a0_4, .int .i64 a0_5, .int .i64 a0_6]) (t := 29) ?hr ?_; (case hd => rfl); (case hg => rfl); (case hr => exact tG); intro gb424 hg w5 hbox hb; have BK424 := Sd.mk (hbox); have GW424 := Sd.mk (bSz hg (bBl HB.out)); have GE424 := Sd.mk (bSz hg (bBl HB.out)); replace HB := Sd.mk (below_step (bBl HB.out) hb); clear hb hbox hg; obtain ⟨u6_0, u6_1, u6_2, u6_3, u6_4, u6_5, u6_6, o6_0, o6_1, o6_2, o6_3, o6_4, o6_5, o6_6⟩ := bc7 (w := w5) BK424.out) | ((with_reducible refine gate_callee (f := 12) rfl ?_); refine goesL_ (some 9) rfl rfl Try.func12 (by kernel_rfl) rfl #[.agg #[.slice A0_0 l0_0.length c0_0, .slice A0_1 l0_1.length c0_1, .slice A0_2 l0_2.length c0_2, .slice A0_3 l0_3.length c0_3, .int .i64 a0_4, .int .i64 a0_5, .int .i64 a0_6]] rfl tM ?_; (with_reducible refine (lw_Great.calls k _ _ l0_0 _ _ l0_1 _ _ l0_2 _ _ l0_3 a0_4 a0_5 a0_6 true _ (cS (Kd.C_below HR0_0.out HB.out)) HC0_0.out (cS (Kd.C_below HR0_1.out HB.out)) HC0_1.out (cS (Kd.C_below HR0_2.out HB.out)) HC0_2.out (cS (Kd.C_below HR0_3.out HB.out)) HC0_3.out A2.out).mono ?_); rintro e w7 ⟨rfl, hb⟩; refine ⟨_, rfl, ?_⟩; replace BK424 := Sd.mk (blk_below (bkA BK424.out) hb); replace HB := Sd.mk (below_step (bBl HB.out) hb); (try clear hb); (try clear hb2); (try clear hk); (try clear hi)) | ((with_reducible refine gate_callee (f := 14) rfl ?_); refine goesL_ (some 10) rfl rfl Try.func14 (by kernel_rfl) rfl #[] rfl tM ?_; (with_reducible refine (lw_lives.calls k  t426 _ A4.out).mono ?_); rintro e w8 ⟨rfl, hb⟩; refine ⟨_, rfl, ?_⟩; replace BK424 := Sd.mk (blk_below (bkA BK424.out) hb); replace HB := Sd.mk (below_step (bBl HB.out) hb); (try clear hb); (try clear hb2); (try clear hk); (try clear hi)))
  go_ret
  exact ⟨tE, bBl HB.out⟩
 ·replace c3 := Bool.eq_false_iff.mpr c3
  subst c3
  have H1 : ((batch_Lines.f k l0_0 l0_1 l0_2 l0_3 a0_4 a0_5 a0_6).bind fun bt427 => ((rf_Lines.f k l0_0 l0_1 l0_2 l0_3 a0_4 a0_5 a0_6).bind fun bt431 => ((batch_Check.f k l0_0 l0_1 l0_2 l0_3 a0_4 a0_5 a0_6).bind fun t435 => ((rf_Check.f k l0_0 l0_1 l0_2 l0_3 a0_4 a0_5 a0_6).bind fun t436 => (if t435 = t436 then (if bt427.2 = bt431.2 then (lw_BatchChecks.j0 k bt427.1 bt431.1 ((bt427.1.length : Int) != (bt431.1.length : Int))) else (lw_BatchChecks.j0 k bt427.1 bt431.1 true)) else (lw_BatchChecks.j0 k bt427.1 bt431.1 true)))))) = some r := by rw [if_neg (show ¬ (false = true) by decide)] at H; exact H
  clear H; have H := H1; clear H1; replace H := Option.bind_eq_some_iff.mp H
  obtain ⟨⟨t427, t430⟩, A90, H⟩ := H
  try dsimp only at H
  have A9 := Sd.mk A90; clear A90; replace H := Option.bind_eq_some_iff.mp H
  obtain ⟨⟨t431, t434⟩, A100, H⟩ := H
  try dsimp only at H
  have A10 := Sd.mk A100; clear A100; have HC11 := Sd.mk H; clear H
  go_enter Try.func4, Try.ntmps4
  go_upto_region 5 with (first | ((with_reducible refine gate_dst (N := 1) rfl ?_); (try (refine gate_guard (by rfl) ?_; dsimp only)); refine box_event ?hg (N := 1) ?hd (cs := #[.slice A0_0 l0_0.length c0_0, .slice A0_1 l0_1.length c0_1, .slice A0_2 l0_2.length c0_2, .slice A0_3 l0_3.length c0_3, .int .i64 a0_4, .int .i64 a0_5, .int .i64 a0_6]) (t := 29) ?hr ?_; (case hd => rfl); (case hg => rfl); (case hr => exact tG); intro gb424 hg w12 hbox hb; have BK424 := Sd.mk (hbox); have GW424 := Sd.mk (bSz hg (bBl HB.out)); have GE424 := Sd.mk (bSz hg (bBl HB.out)); replace HB := Sd.mk (below_step (bBl HB.out) hb); clear hb hbox hg; obtain ⟨u13_0, u13_1, u13_2, u13_3, u13_4, u13_5, u13_6, o13_0, o13_1, o13_2, o13_3, o13_4, o13_5, o13_6⟩ := bc7 (w := w12) BK424.out) | ((with_reducible refine gate_callee (f := 12) rfl ?_); refine goesL_ (some 9) rfl rfl Try.func12 (by kernel_rfl) rfl #[.agg #[.slice A0_0 l0_0.length c0_0, .slice A0_1 l0_1.length c0_1, .slice A0_2 l0_2.length c0_2, .slice A0_3 l0_3.length c0_3, .int .i64 a0_4, .int .i64 a0_5, .int .i64 a0_6]] rfl tM ?_; (with_reducible refine (lw_Great.calls k _ _ l0_0 _ _ l0_1 _ _ l0_2 _ _ l0_3 a0_4 a0_5 a0_6 false _ (cS (Kd.C_below HR0_0.out HB.out)) HC0_0.out (cS (Kd.C_below HR0_1.out HB.out)) HC0_1.out (cS (Kd.C_below HR0_2.out HB.out)) HC0_2.out (cS (Kd.C_below HR0_3.out HB.out)) HC0_3.out A2.out).mono ?_); rintro e w14 ⟨rfl, hb⟩; refine ⟨_, rfl, ?_⟩; replace BK424 := Sd.mk (blk_below (bkA BK424.out) hb); replace HB := Sd.mk (below_step (bBl HB.out) hb); (try clear hb); (try clear hb2); (try clear hk); (try clear hi); obtain ⟨u15_0, u15_1, u15_2, u15_3, u15_4, u15_5, u15_6, o15_0, o15_1, o15_2, o15_3, o15_4, o15_5, o15_6⟩ := bc7 (w := w14) BK424.out) | ((with_reducible refine gate_callee (f := 24) rfl ?_); refine goesL_ (some 13) rfl rfl Try.func24 (by kernel_rfl) rfl #[.agg #[.slice A0_0 l0_0.length c0_0, .slice A0_1 l0_1.length c0_1, .slice A0_2 l0_2.length c0_2, .slice A0_3 l0_3.length c0_3, .int .i64 a0_4, .int .i64 a0_5, .int .i64 a0_6]] rfl tM ?_; (with_reducible refine (batch_Lines.calls k _ _ l0_0 _ _ l0_1 _ _ l0_2 _ _ l0_3 a0_4 a0_5 a0_6 t427 t430 _ (cS (Kd.C_below HR0_0.out HB.out)) HC0_0.out (cS (Kd.C_below HR0_1.out HB.out)) HC0_1.out (cS (Kd.C_below HR0_2.out HB.out)) HC0_2.out (cS (Kd.C_below HR0_3.out HB.out)) HC0_3.out A9.out).mono ?_); rintro e w16 ⟨v428, rfl, ho0, hb⟩; refine ⟨_, rfl, ?_⟩; have HO429 := Sd.mk (Kd.R_lower ho0 (below_size (bBl HB.out))); replace BK424 := Sd.mk (blk_below (bkA BK424.out) hb); replace HB := Sd.mk (below_step (bBl HB.out) hb); (try clear hb); (try clear hb2); (try clear hk); (try clear hi); (try clear ho0); obtain ⟨u17_0, u17_1, u17_2, u17_3, u17_4, u17_5, u17_6, o17_0, o17_1, o17_2, o17_3, o17_4, o17_5, o17_6⟩ := bc7 (w := w16) BK424.out) | ((with_reducible refine gate_callee (f := 25) rfl ?_); refine goesL_ (some 18) rfl rfl Try.func25 (by kernel_rfl) rfl #[.agg #[.slice A0_0 l0_0.length c0_0, .slice A0_1 l0_1.length c0_1, .slice A0_2 l0_2.length c0_2, .slice A0_3 l0_3.length c0_3, .int .i64 a0_4, .int .i64 a0_5, .int .i64 a0_6]] rfl tM ?_; (with_reducible refine (rf_Lines.calls k _ _ l0_0 _ _ l0_1 _ _ l0_2 _ _ l0_3 a0_4 a0_5 a0_6 t431 t434 _ (cS (Kd.C_below HR0_0.out HB.out)) HC0_0.out (cS (Kd.C_below HR0_1.out HB.out)) HC0_1.out (cS (Kd.C_below HR0_2.out HB.out)) HC0_2.out (cS (Kd.C_below HR0_3.out HB.out)) HC0_3.out A10.out).mono ?_); rintro e w18 ⟨v432, rfl, ho0, hb⟩; refine ⟨_, rfl, ?_⟩; have HO433 := Sd.mk (Kd.R_lower (Kd.R_new' ho0 (Kd.R_lt (by (with_reducible repeat (first | apply Kd.R_alloc | apply Kd.R_drewN | apply Kd.R_drew)); exact HO429.out))) (below_size (bBl HB.out))); replace HO429 := Sd.mk (Kd.R_elder' (by (with_reducible repeat (first | apply Kd.R_alloc | apply Kd.R_drewN | apply Kd.R_drew)); exact HO429.out) (Kd.R_base ho0) hb); replace BK424 := Sd.mk (blk_below (bkA BK424.out) hb); replace HB := Sd.mk (below_step (bBl HB.out) hb); (try clear hb); (try clear hb2); (try clear hk); (try clear hi); (try clear ho0)))
  (try simp only [Act.put, List.setIfInBounds_toArray, List.set_cons_zero, List.set_cons_succ])
  go_cut [37] (fun v37 wc => ∃ (kq : Nat) (x37_10 : Bool), v37 = .bool x37_10 ∧ Sd (lw_BatchChecks.j0 kq t427 t431 x37_10 = some r) ∧ Sd (kq ≤ k) ∧ Sd (Kd.R k51 51 wc w.heap.size (fun k_ => some k_ ≠ (v432 : Value).ownBlock) v428 t427) ∧ Sd (Kd.R k51 51 wc w.heap.size (fun k_ => some k_ ≠ (v428 : Value).ownBlock) v432 t431) ∧ Sd (wc.heap[gb424]? = some (.cells #[(.slice A0_0 l0_0.length c0_0), (.slice A0_1 l0_1.length c0_1), (.slice A0_2 l0_2.length c0_2), (.slice A0_3 l0_3.length c0_3), .int .i64 a0_4, .int .i64 a0_5, .int .i64 a0_6] 29 (0, 0))) ∧ Sd (Below w.heap.size w wc))
  case first =>
   have H := HC11.out; clear HC11; replace H := Option.bind_eq_some_iff.mp H; obtain ⟨t435, A190, H⟩ := H
   try dsimp only at H
   have A19 := Sd.mk A190; clear A190; replace H := Option.bind_eq_some_iff.mp H; obtain ⟨t436, A200, H⟩ := H
   try dsimp only at H
   have A20 := Sd.mk A200; clear A200
   by_cases c21 : t435 = t436
   ·rw [if_pos c21] at H
    have c21b0 : (t435 == t436) = true := beq_iff_eq.mpr c21
    have c21b1 : (t435 != t436) = false := bne_eq_false_iff_eq.mpr c21
    clear c21
    (first | rw [c21b0] | (simp only [i64_w, i32_w]; rw [c21b0]) | skip)
    by_cases c22 : t430 = t434
    ·rw [if_pos c22] at H
     have c22b0 : (t430 == t434) = true := beq_iff_eq.mpr c22
     have c22b1 : (t430 != t434) = false := bne_eq_false_iff_eq.mpr c22
     clear c22; have H' := Sd.mk H; clear H
     try go_wp2
     replace HO429 := Sd.mk (Kd.R_drew HO429.out); replace HO433 := Sd.mk (Kd.R_drew HO433.out); replace BK424 := Sd.mk (blk_drew BK424.out); replace HB := Sd.mk (below_drew1 HB.out)
     refine start_ (n := 17) (S := fun w' => w'.cell? ⟨gb424, 0, none⟩ = some (.slice A0_0 l0_0.length c0_0) ∧ w'.cell? ⟨gb424, 1, none⟩ = some (.slice A0_1 l0_1.length c0_1) ∧ w'.cell? ⟨gb424, 2, none⟩ = some (.slice A0_2 l0_2.length c0_2) ∧ w'.cell? ⟨gb424, 3, none⟩ = some (.slice A0_3 l0_3.length c0_3) ∧ w'.cell? ⟨gb424, 4, none⟩ = some (.int .i64 a0_4) ∧ w'.cell? ⟨gb424, 5, none⟩ = some (.int .i64 a0_5) ∧ w'.cell? ⟨gb424, 6, none⟩ = some (.int .i64 a0_6)) (ds := []) #[false, false, false, false, false, false, false, false, false, false, false, false, false, false, false, false, false] (by kernel_rfl) rfl rfl ⟨(blk_cell BK424.out 0).trans rfl, (blk_cell BK424.out 1).trans rfl, (blk_cell BK424.out 2).trans rfl, (blk_cell BK424.out 3).trans rfl, (blk_cell BK424.out 4).trans rfl, (blk_cell BK424.out 5).trans rfl, (blk_cell BK424.out 6).trans rfl⟩ (fun hHeld => ?_); refine with_tabW lw_BatchChecks.tab5 lw_BatchChecks.bits5 (fun HT_ HW_ => ?_)
     generalize w18.drew = w23 at HO429 HO433 BK424 HB hHeld ⊢
     refine take_ (i := 0) (N := some 21) (v := ?_) (a' := ?_) #[true, false, false, false, false, false, false, false, false, false, false, false, false, false, false, false, false] rfl rfl (take_ofW HT_.out HW_.out (by kernel_rfl)) (fun _ _ _ h => h) (Or.inl ⟨by rfl, ?_⟩) hHeld ?_ ?_
     rotate_left
     ·rintro w' ⟨s0, s1, s2, s3, s4, s5, s6⟩
      go_simp
      with_reducible rfl
     rotate_left
     ·exact tP
     refine take_ (i := 2) (N := some 23) (v := ?_) (a' := ?_) #[true, false, true, false, false, false, false, false, false, false, false, false, false, false, false, false, false] rfl rfl (take_ofW HT_.out HW_.out (by kernel_rfl)) (fun _ _ _ h => h) (Or.inl ⟨by rfl, ?_⟩) hHeld ?_ ?_
     rotate_left
     ·rintro w' ⟨s0, s1, s2, s3, s4, s5, s6⟩
      go_simp
      with_reducible rfl
     rotate_left
     ·exact tP
     refine one_ (i := 1) (N := some 22) #[true, true, true, false, false, false, false, false, false, false, false, false, false, false, false, false, false] rfl rfl (one_of HT_.out (by kernel_rfl)) (by decide) (fun K hK => ?_)
     refine goes_ Try.func26 (by kernel_rfl) rfl #[.agg #[.slice A0_0 l0_0.length c0_0, .slice A0_1 l0_1.length c0_1, .slice A0_2 l0_2.length c0_2, .slice A0_3 l0_3.length c0_3, .int .i64 a0_4, .int .i64 a0_5, .int .i64 a0_6]] (by rfl) rfl rfl tM ?_
     with_reducible refine (batch_Check.calls k _ _ l0_0 _ _ l0_1 _ _ l0_2 _ _ l0_3 a0_4 a0_5 a0_6 t435 _ ?side1 ?side2 ?side3 ?side4 ?side5 ?side6 ?side7 ?side8 A19.out).mono ?_
     (case side1 => exact cS (Kd.C_below HR0_0.out HB.out))
     (case side2 => exact HC0_0.out)
     (case side3 => exact cS (Kd.C_below HR0_1.out HB.out))
     (case side4 => exact HC0_1.out)
     (case side5 => exact cS (Kd.C_below HR0_2.out HB.out))
     (case side6 => exact HC0_2.out)
     (case side7 => exact cS (Kd.C_below HR0_3.out HB.out))
     (case side8 => exact HC0_3.out)
     rintro e w24 ⟨rfl, hb⟩
     refine ⟨_, rfl, ?_⟩
     replace HO429 := Sd.mk (Kd.R_below (by (with_reducible repeat (first | apply Kd.R_alloc | apply Kd.R_drewN | apply Kd.R_drew)); exact HO429.out) hb)
     replace HO433 := Sd.mk (Kd.R_below (by (with_reducible repeat (first | apply Kd.R_alloc | apply Kd.R_drewN | apply Kd.R_drew)); exact HO433.out) hb)
     replace BK424 := Sd.mk (blk_below (bkA BK424.out) hb); replace HB := Sd.mk (below_step (bBl HB.out) hb)
     (try clear hb)
     (try clear hb2)
     (try clear hk)
     (try clear hi)
     refine hK.out _ _ ⟨(blk_cell BK424.out 0).trans rfl, (blk_cell BK424.out 1).trans rfl, (blk_cell BK424.out 2).trans rfl, (blk_cell BK424.out 3).trans rfl, (blk_cell BK424.out 4).trans rfl, (blk_cell BK424.out 5).trans rfl, (blk_cell BK424.out 6).trans rfl⟩ (fun hHeld => ?_)
     clear hK K
     refine norm_ (a' := ?_) ?_ ?_
     rotate_left
     ·show Act.put _ (some 22) _ = _
      exact tP
     refine one_ (i := 3) (N := some 24) #[true, true, true, true, false, false, false, false, false, false, false, false, false, false, false, false, false] rfl rfl (one_of HT_.out (by kernel_rfl)) (by decide) (fun K hK => ?_)
     refine goes_ Try.func27 (by kernel_rfl) rfl #[.agg #[.slice A0_0 l0_0.length c0_0, .slice A0_1 l0_1.length c0_1, .slice A0_2 l0_2.length c0_2, .slice A0_3 l0_3.length c0_3, .int .i64 a0_4, .int .i64 a0_5, .int .i64 a0_6]] (by rfl) rfl rfl tM ?_
     with_reducible refine (rf_Check.calls k _ _ l0_0 _ _ l0_1 _ _ l0_2 _ _ l0_3 a0_4 a0_5 a0_6 t436 _ ?side1 ?side2 ?side3 ?side4 ?side5 ?side6 ?side7 ?side8 A20.out).mono ?_
     (case side1 => exact cS (Kd.C_below HR0_0.out HB.out))
     (case side2 => exact HC0_0.out)
     (case side3 => exact cS (Kd.C_below HR0_1.out HB.out))
     (case side4 => exact HC0_1.out)
     (case side5 => exact cS (Kd.C_below HR0_2.out HB.out))
     (case side6 => exact HC0_2.out)
     (case side7 => exact cS (Kd.C_below HR0_3.out HB.out))
     (case side8 => exact HC0_3.out)
     rintro e w25 ⟨rfl, hb⟩
     refine ⟨_, rfl, ?_⟩
     replace HO429 := Sd.mk (Kd.R_below (by (with_reducible repeat (first | apply Kd.R_alloc | apply Kd.R_drewN | apply Kd.R_drew)); exact HO429.out) hb)
     replace HO433 := Sd.mk (Kd.R_below (by (with_reducible repeat (first | apply Kd.R_alloc | apply Kd.R_drewN | apply Kd.R_drew)); exact HO433.out) hb)
     replace BK424 := Sd.mk (blk_below (bkA BK424.out) hb); replace HB := Sd.mk (below_step (bBl HB.out) hb)
     (try clear hb)
     (try clear hb2)
     (try clear hk)
     (try clear hi)
     obtain ⟨Ao26, co26, eo26⟩ := Kd.R_slice HO429.out
     (first | subst eo26 | (injection eo26 with f1_ f2_ f3_; have f4_ := f1_.symm; have f5_ := f3_.symm; clear f1_ f2_ f3_; subst f4_; subst f5_))
     obtain ⟨Ao27, co27, eo27⟩ := Kd.R_slice HO433.out
     (first | subst eo27 | (injection eo27 with f1_ f2_ f3_; have f4_ := f1_.symm; have f5_ := f3_.symm; clear f1_ f2_ f3_; subst f4_; subst f5_))
     refine hK.out _ _ ⟨(blk_cell BK424.out 0).trans rfl, (blk_cell BK424.out 1).trans rfl, (blk_cell BK424.out 2).trans rfl, (blk_cell BK424.out 3).trans rfl, (blk_cell BK424.out 4).trans rfl, (blk_cell BK424.out 5).trans rfl, (blk_cell BK424.out 6).trans rfl⟩ (fun hHeld => ?_)
     clear hK K
     refine norm_ (a' := ?_) ?_ ?_
     rotate_left
     ·show Act.put _ (some 24) _ = _
      exact tP
     refine pure_ (i := 4) (N := some 25) (v := ?_) (a' := ?_) #[true, true, true, true, true, false, false, false, false, false, false, false, false, false, false, false, false] rfl rfl (any_of HT_.out (by kernel_rfl)) (fun _ _ _ h => h) (Or.inl ⟨by rfl, ?_⟩) ?_ ?_
     rotate_left
     ·exact tW
     rotate_left
     ·exact tP
     refine pure_ (i := 5) (N := some 26) (v := ?_) (a' := ?_) #[true, true, true, true, true, true, false, false, false, false, false, false, false, false, false, false, false] rfl rfl (any_of HT_.out (by kernel_rfl)) (fun _ _ _ h => h) (Or.inl ⟨by rfl, ?_⟩) ?_ ?_
     rotate_left
     ·exact tW
     rotate_left
     ·exact tP
     refine pure_ (i := 6) (N := some 27) (v := ?_) (a' := ?_) #[true, true, true, true, true, true, true, false, false, false, false, false, false, false, false, false, false] rfl rfl (any_of HT_.out (by kernel_rfl)) (fun _ _ _ h => h) (Or.inl ⟨by rfl, ?_⟩) ?_ ?_
     rotate_left
     ·exact tW
     rotate_left
     ·exact tP
     refine pure_ (i := 7) (N := some 28) (v := ?_) (a' := ?_) #[true, true, true, true, true, true, true, true, false, false, false, false, false, false, false, false, false] rfl rfl (any_of HT_.out (by kernel_rfl)) (fun _ _ _ h => h) (Or.inl ⟨by rfl, ?_⟩) ?_ ?_
     rotate_left
     ·exact tW
     rotate_left
     ·exact tP
     refine pure_ (i := 8) (N := some 29) (v := ?_) (a' := ?_) #[true, true, true, true, true, true, true, true, true, false, false, false, false, false, false, false, false] rfl rfl (any_of HT_.out (by kernel_rfl)) (fun _ _ _ h => h) (Or.inl ⟨by rfl, ?_⟩) ?_ ?_
     rotate_left
     ·exact tW
     rotate_left
     ·exact tP
     refine pure_ (i := 9) (N := some 30) (v := ?_) (a' := ?_) #[true, true, true, true, true, true, true, true, true, true, false, false, false, false, false, false, false] rfl rfl (any_of HT_.out (by kernel_rfl)) (fun _ _ _ h => h) (Or.inl ⟨by rfl, ?_⟩) ?_ ?_
     rotate_left
     ·exact tW
     rotate_left
     ·exact tP
     refine pure_ (i := 10) (N := some 31) (v := ?_) (a' := ?_) #[true, true, true, true, true, true, true, true, true, true, true, false, false, false, false, false, false] rfl rfl (any_of HT_.out (by kernel_rfl)) (fun _ _ _ h => h) (Or.inl ⟨by rfl, ?_⟩) ?_ ?_
     rotate_left
     ·exact tW
     rotate_left
     ·exact tP
     refine pure_ (i := 11) (N := some 32) (v := ?_) (a' := ?_) #[true, true, true, true, true, true, true, true, true, true, true, true, false, false, false, false, false] rfl rfl (any_of HT_.out (by kernel_rfl)) (fun _ _ _ h => h) (Or.inl ⟨by rfl, ?_⟩) ?_ ?_
     rotate_left
     ·exact tW
     rotate_left
     ·exact tP
     refine pure_ (i := 12) (N := some 33) (v := ?_) (a' := ?_) #[true, true, true, true, true, true, true, true, true, true, true, true, true, false, false, false, false] rfl rfl (any_of HT_.out (by kernel_rfl)) (fun _ _ _ h => h) (Or.inl ⟨by rfl, ?_⟩) ?_ ?_
     rotate_left
     ·exact tW
     rotate_left
     ·exact tP
     refine pure_ (i := 13) (N := some 34) (v := ?_) (a' := ?_) #[true, true, true, true, true, true, true, true, true, true, true, true, true, true, false, false, false] rfl rfl (any_of HT_.out (by kernel_rfl)) (fun _ _ _ h => h) (Or.inl ⟨by rfl, ?_⟩) ?_ ?_
     rotate_left
     ·exact tW
     rotate_left
     ·exact tP
     refine pure_ (i := 14) (N := some 35) (v := ?_) (a' := ?_) #[true, true, true, true, true, true, true, true, true, true, true, true, true, true, true, false, false] rfl rfl (any_of HT_.out (by kernel_rfl)) (fun _ _ _ h => h) (Or.inl ⟨by rfl, ?_⟩) ?_ ?_
     rotate_left
     ·exact tW
     rotate_left
     ·exact tP
     refine pure_ (i := 15) (N := some 36) (v := ?_) (a' := ?_) #[true, true, true, true, true, true, true, true, true, true, true, true, true, true, true, true, false] rfl rfl (any_of HT_.out (by kernel_rfl)) (fun _ _ _ h => h) (Or.inl ⟨by rfl, ?_⟩) ?_ ?_
     rotate_left
     ·exact tW
     rotate_left
     ·exact tP
     refine pure_ (i := 16) (N := some 37) (v := ?_) (a' := ?_) #[true, true, true, true, true, true, true, true, true, true, true, true, true, true, true, true, true] rfl rfl (any_of HT_.out (by kernel_rfl)) (fun _ _ _ h => h) (Or.inl ⟨by rfl, ?_⟩) ?_ ?_
     rotate_left
     ·exact tW
     rotate_left
     ·exact tP
     refine done_ (done_of HT_.out (by kernel_rfl)) ?_
     try go_wp2
     go_meet
     case rel => exact ⟨_, (((t427.length : Int) != (t431.length : Int))), tS, H', ⟨by first | omega | exact Nat.le_refl _⟩, ⟨by (with_reducible repeat (first | apply Kd.R_alloc | apply Kd.R_drewN | apply Kd.R_drew)); exact Kd.R_mono HO429.out (fun _ hk => hk.2)⟩, ⟨by (with_reducible repeat (first | apply Kd.R_alloc | apply Kd.R_drewN | apply Kd.R_drew)); exact Kd.R_mono HO433.out (fun _ hk => hk.2)⟩, ⟨bkA BK424.out⟩, ⟨bBl HB.out⟩⟩
    ·rw [if_neg c22] at H
     have c22b0 : (t430 == t434) = false := beq_eq_false_iff_ne.mpr c22
     have c22b1 : (t430 != t434) = true := bne_iff_ne.mpr c22
     have H' := Sd.mk H; clear H
     try go_wp2
     replace HO429 := Sd.mk (Kd.R_drew HO429.out); replace HO433 := Sd.mk (Kd.R_drew HO433.out); replace BK424 := Sd.mk (blk_drew BK424.out); replace HB := Sd.mk (below_drew1 HB.out)
     refine start_ (n := 17) (S := fun w' => w'.cell? ⟨gb424, 0, none⟩ = some (.slice A0_0 l0_0.length c0_0) ∧ w'.cell? ⟨gb424, 1, none⟩ = some (.slice A0_1 l0_1.length c0_1) ∧ w'.cell? ⟨gb424, 2, none⟩ = some (.slice A0_2 l0_2.length c0_2) ∧ w'.cell? ⟨gb424, 3, none⟩ = some (.slice A0_3 l0_3.length c0_3) ∧ w'.cell? ⟨gb424, 4, none⟩ = some (.int .i64 a0_4) ∧ w'.cell? ⟨gb424, 5, none⟩ = some (.int .i64 a0_5) ∧ w'.cell? ⟨gb424, 6, none⟩ = some (.int .i64 a0_6)) (ds := []) #[false, false, false, false, false, false, false, false, false, false, false, false, false, false, false, false, false] (by kernel_rfl) rfl rfl ⟨(blk_cell BK424.out 0).trans rfl, (blk_cell BK424.out 1).trans rfl, (blk_cell BK424.out 2).trans rfl, (blk_cell BK424.out 3).trans rfl, (blk_cell BK424.out 4).trans rfl, (blk_cell BK424.out 5).trans rfl, (blk_cell BK424.out 6).trans rfl⟩ (fun hHeld => ?_); refine with_tabW lw_BatchChecks.tab5 lw_BatchChecks.bits5 (fun HT_ HW_ => ?_)
     generalize w18.drew = w28 at HO429 HO433 BK424 HB hHeld ⊢
     refine take_ (i := 0) (N := some 21) (v := ?_) (a' := ?_) #[true, false, false, false, false, false, false, false, false, false, false, false, false, false, false, false, false] rfl rfl (take_ofW HT_.out HW_.out (by kernel_rfl)) (fun _ _ _ h => h) (Or.inl ⟨by rfl, ?_⟩) hHeld ?_ ?_
     rotate_left
     ·rintro w' ⟨s0, s1, s2, s3, s4, s5, s6⟩
      go_simp
      with_reducible rfl
     rotate_left
     ·exact tP
     refine take_ (i := 2) (N := some 23) (v := ?_) (a' := ?_) #[true, false, true, false, false, false, false, false, false, false, false, false, false, false, false, false, false] rfl rfl (take_ofW HT_.out HW_.out (by kernel_rfl)) (fun _ _ _ h => h) (Or.inl ⟨by rfl, ?_⟩) hHeld ?_ ?_
     rotate_left
     ·rintro w' ⟨s0, s1, s2, s3, s4, s5, s6⟩
      go_simp
      with_reducible rfl
     rotate_left
     ·exact tP
     refine one_ (i := 1) (N := some 22) #[true, true, true, false, false, false, false, false, false, false, false, false, false, false, false, false, false] rfl rfl (one_of HT_.out (by kernel_rfl)) (by decide) (fun K hK => ?_)
     refine goes_ Try.func26 (by kernel_rfl) rfl #[.agg #[.slice A0_0 l0_0.length c0_0, .slice A0_1 l0_1.length c0_1, .slice A0_2 l0_2.length c0_2, .slice A0_3 l0_3.length c0_3, .int .i64 a0_4, .int .i64 a0_5, .int .i64 a0_6]] (by rfl) rfl rfl tM ?_
     with_reducible refine (batch_Check.calls k _ _ l0_0 _ _ l0_1 _ _ l0_2 _ _ l0_3 a0_4 a0_5 a0_6 t435 _ ?side1 ?side2 ?side3 ?side4 ?side5 ?side6 ?side7 ?side8 A19.out).mono ?_
     (case side1 => exact cS (Kd.C_below HR0_0.out HB.out))
     (case side2 => exact HC0_0.out)
     (case side3 => exact cS (Kd.C_below HR0_1.out HB.out))
     (case side4 => exact HC0_1.out)
     (case side5 => exact cS (Kd.C_below HR0_2.out HB.out))
     (case side6 => exact HC0_2.out)
     (case side7 => exact cS (Kd.C_below HR0_3.out HB.out))
     (case side8 => exact HC0_3.out)
     rintro e w29 ⟨rfl, hb⟩
     refine ⟨_, rfl, ?_⟩
     replace HO429 := Sd.mk (Kd.R_below (by (with_reducible repeat (first | apply Kd.R_alloc | apply Kd.R_drewN | apply Kd.R_drew)); exact HO429.out) hb)
     replace HO433 := Sd.mk (Kd.R_below (by (with_reducible repeat (first | apply Kd.R_alloc | apply Kd.R_drewN | apply Kd.R_drew)); exact HO433.out) hb)
     replace BK424 := Sd.mk (blk_below (bkA BK424.out) hb); replace HB := Sd.mk (below_step (bBl HB.out) hb)
     (try clear hb)
     (try clear hb2)
     (try clear hk)
     (try clear hi)
     refine hK.out _ _ ⟨(blk_cell BK424.out 0).trans rfl, (blk_cell BK424.out 1).trans rfl, (blk_cell BK424.out 2).trans rfl, (blk_cell BK424.out 3).trans rfl, (blk_cell BK424.out 4).trans rfl, (blk_cell BK424.out 5).trans rfl, (blk_cell BK424.out 6).trans rfl⟩ (fun hHeld => ?_)
     clear hK K
     refine norm_ (a' := ?_) ?_ ?_
     rotate_left
     ·show Act.put _ (some 22) _ = _
      exact tP
     refine one_ (i := 3) (N := some 24) #[true, true, true, true, false, false, false, false, false, false, false, false, false, false, false, false, false] rfl rfl (one_of HT_.out (by kernel_rfl)) (by decide) (fun K hK => ?_)
     refine goes_ Try.func27 (by kernel_rfl) rfl #[.agg #[.slice A0_0 l0_0.length c0_0, .slice A0_1 l0_1.length c0_1, .slice A0_2 l0_2.length c0_2, .slice A0_3 l0_3.length c0_3, .int .i64 a0_4, .int .i64 a0_5, .int .i64 a0_6]] (by rfl) rfl rfl tM ?_
     with_reducible refine (rf_Check.calls k _ _ l0_0 _ _ l0_1 _ _ l0_2 _ _ l0_3 a0_4 a0_5 a0_6 t436 _ ?side1 ?side2 ?side3 ?side4 ?side5 ?side6 ?side7 ?side8 A20.out).mono ?_
     (case side1 => exact cS (Kd.C_below HR0_0.out HB.out))
     (case side2 => exact HC0_0.out)
     (case side3 => exact cS (Kd.C_below HR0_1.out HB.out))
     (case side4 => exact HC0_1.out)
     (case side5 => exact cS (Kd.C_below HR0_2.out HB.out))
     (case side6 => exact HC0_2.out)
     (case side7 => exact cS (Kd.C_below HR0_3.out HB.out))
     (case side8 => exact HC0_3.out)
     rintro e w30 ⟨rfl, hb⟩
     refine ⟨_, rfl, ?_⟩
     replace HO429 := Sd.mk (Kd.R_below (by (with_reducible repeat (first | apply Kd.R_alloc | apply Kd.R_drewN | apply Kd.R_drew)); exact HO429.out) hb)
     replace HO433 := Sd.mk (Kd.R_below (by (with_reducible repeat (first | apply Kd.R_alloc | apply Kd.R_drewN | apply Kd.R_drew)); exact HO433.out) hb)
     replace BK424 := Sd.mk (blk_below (bkA BK424.out) hb); replace HB := Sd.mk (below_step (bBl HB.out) hb)
     (try clear hb)
     (try clear hb2)
     (try clear hk)
     (try clear hi)
     refine hK.out _ _ ⟨(blk_cell BK424.out 0).trans rfl, (blk_cell BK424.out 1).trans rfl, (blk_cell BK424.out 2).trans rfl, (blk_cell BK424.out 3).trans rfl, (blk_cell BK424.out 4).trans rfl, (blk_cell BK424.out 5).trans rfl, (blk_cell BK424.out 6).trans rfl⟩ (fun hHeld => ?_)
     clear hK K
     refine norm_ (a' := ?_) ?_ ?_
     rotate_left
     ·show Act.put _ (some 24) _ = _
      exact tP
     refine pure_ (i := 4) (N := some 25) (v := ?_) (a' := ?_) #[true, true, true, true, true, false, false, false, false, false, false, false, false, false, false, false, false] rfl rfl (any_of HT_.out (by kernel_rfl)) (fun _ _ _ h => h) (Or.inl ⟨by rfl, ?_⟩) ?_ ?_
     rotate_left
     ·exact tW
     rotate_left
     ·exact tP
     refine pure_ (i := 5) (N := some 26) (v := ?_) (a' := ?_) #[true, true, true, true, true, true, false, false, false, false, false, false, false, false, false, false, false] rfl rfl (any_of HT_.out (by kernel_rfl)) (fun _ _ _ h => h) (Or.inl ⟨by rfl, ?_⟩) ?_ ?_
     rotate_left
     ·exact tW
     rotate_left
     ·exact tP
     refine pure_ (i := 6) (N := some 27) (v := ?_) (a' := ?_) #[true, true, true, true, true, true, true, false, false, false, false, false, false, false, false, false, false] rfl rfl (any_of HT_.out (by kernel_rfl)) (fun _ _ _ h => h) (Or.inl ⟨by rfl, ?_⟩) ?_ ?_
     rotate_left
     ·exact tW
     rotate_left
     ·exact tP
     refine pure_ (i := 7) (N := some 28) (v := ?_) (a' := ?_) #[true, true, true, true, true, true, true, true, false, false, false, false, false, false, false, false, false] rfl rfl (any_of HT_.out (by kernel_rfl)) (fun _ _ _ h => h) (Or.inl ⟨by rfl, ?_⟩) ?_ ?_
     rotate_left
     ·exact tW
     rotate_left
     ·exact tP
     refine pure_ (i := 8) (N := some 29) (v := ?_) (a' := ?_) #[true, true, true, true, true, true, true, true, true, false, false, false, false, false, false, false, false] rfl rfl (any_of HT_.out (by kernel_rfl)) (fun _ _ _ h => h) (Or.inl ⟨by rfl, ?_⟩) ?_ ?_
     rotate_left
     ·exact tW
     rotate_left
     ·exact tP
     refine pure_ (i := 9) (N := some 30) (v := ?_) (a' := ?_) #[true, true, true, true, true, true, true, true, true, true, false, false, false, false, false, false, false] rfl rfl (any_of HT_.out (by kernel_rfl)) (fun _ _ _ h => h) (Or.inl ⟨by rfl, ?_⟩) ?_ ?_
     rotate_left
     ·exact tW
     rotate_left
     ·exact tP
     refine pure_ (i := 10) (N := some 31) (v := ?_) (a' := ?_) #[true, true, true, true, true, true, true, true, true, true, true, false, false, false, false, false, false] rfl rfl (any_of HT_.out (by kernel_rfl)) (fun _ _ _ h => h) (Or.inl ⟨by rfl, ?_⟩) ?_ ?_
     rotate_left
     ·exact tW
     rotate_left
     ·exact tP
     refine pure_ (i := 11) (N := some 32) (v := undef) (a' := ?_) #[true, true, true, true, true, true, true, true, true, true, true, true, false, false, false, false, false] rfl rfl (any_of HT_.out (by kernel_rfl)) (fun _ _ _ h => h) (Or.inr ⟨by rfl, rfl⟩) ?_ ?_
     rotate_left
     ·exact tP
     refine pure_ (i := 12) (N := some 33) (v := undef) (a' := ?_) #[true, true, true, true, true, true, true, true, true, true, true, true, true, false, false, false, false] rfl rfl (any_of HT_.out (by kernel_rfl)) (fun _ _ _ h => h) (Or.inr ⟨by rfl, rfl⟩) ?_ ?_
     rotate_left
     ·exact tP
     refine pure_ (i := 13) (N := some 34) (v := undef) (a' := ?_) #[true, true, true, true, true, true, true, true, true, true, true, true, true, true, false, false, false] rfl rfl (any_of HT_.out (by kernel_rfl)) (fun _ _ _ h => h) (Or.inr ⟨by rfl, rfl⟩) ?_ ?_
     rotate_left
     ·exact tP
     refine pure_ (i := 14) (N := some 35) (v := undef) (a' := ?_) #[true, true, true, true, true, true, true, true, true, true, true, true, true, true, true, false, false] rfl rfl (any_of HT_.out (by kernel_rfl)) (fun _ _ _ h => h) (Or.inr ⟨by rfl, rfl⟩) ?_ ?_
     rotate_left
     ·exact tP
     refine pure_ (i := 15) (N := some 36) (v := undef) (a' := ?_) #[true, true, true, true, true, true, true, true, true, true, true, true, true, true, true, true, false] rfl rfl (any_of HT_.out (by kernel_rfl)) (fun _ _ _ h => h) (Or.inr ⟨by rfl, rfl⟩) ?_ ?_
     rotate_left
     ·exact tP
     refine pure_ (i := 16) (N := some 37) (v := ?_) (a' := ?_) #[true, true, true, true, true, true, true, true, true, true, true, true, true, true, true, true, true] rfl rfl (any_of HT_.out (by kernel_rfl)) (fun _ _ _ h => h) (Or.inl ⟨by rfl, ?_⟩) ?_ ?_
     rotate_left
     ·exact tW
     rotate_left
     ·exact tP
     refine done_ (done_of HT_.out (by kernel_rfl)) ?_
     try go_wp2
     go_meet
     case rel => exact ⟨_, (true), tS, H', ⟨by first | omega | exact Nat.le_refl _⟩, ⟨by (with_reducible repeat (first | apply Kd.R_alloc | apply Kd.R_drewN | apply Kd.R_drew)); exact Kd.R_mono HO429.out (fun _ hk => hk.2)⟩, ⟨by (with_reducible repeat (first | apply Kd.R_alloc | apply Kd.R_drewN | apply Kd.R_drew)); exact Kd.R_mono HO433.out (fun _ hk => hk.2)⟩, ⟨bkA BK424.out⟩, ⟨bBl HB.out⟩⟩
   ·rw [if_neg c21] at H
    have c21b0 : (t435 == t436) = false := beq_eq_false_iff_ne.mpr c21
    have c21b1 : (t435 != t436) = true := bne_iff_ne.mpr c21
    (first | rw [c21b0] | (simp only [i64_w, i32_w]; rw [c21b0]) | skip)
    have H' := Sd.mk H; clear H
    try go_wp2
    replace HO429 := Sd.mk (Kd.R_drew HO429.out); replace HO433 := Sd.mk (Kd.R_drew HO433.out); replace BK424 := Sd.mk (blk_drew BK424.out); replace HB := Sd.mk (below_drew1 HB.out)
    refine start_ (n := 17) (S := fun w' => w'.cell? ⟨gb424, 0, none⟩ = some (.slice A0_0 l0_0.length c0_0) ∧ w'.cell? ⟨gb424, 1, none⟩ = some (.slice A0_1 l0_1.length c0_1) ∧ w'.cell? ⟨gb424, 2, none⟩ = some (.slice A0_2 l0_2.length c0_2) ∧ w'.cell? ⟨gb424, 3, none⟩ = some (.slice A0_3 l0_3.length c0_3) ∧ w'.cell? ⟨gb424, 4, none⟩ = some (.int .i64 a0_4) ∧ w'.cell? ⟨gb424, 5, none⟩ = some (.int .i64 a0_5) ∧ w'.cell? ⟨gb424, 6, none⟩ = some (.int .i64 a0_6)) (ds := []) #[false, false, false, false, false, false, false, false, false, false, false, false, false, false, false, false, false] (by kernel_rfl) rfl rfl ⟨(blk_cell BK424.out 0).trans rfl, (blk_cell BK424.out 1).trans rfl, (blk_cell BK424.out 2).trans rfl, (blk_cell BK424.out 3).trans rfl, (blk_cell BK424.out 4).trans rfl, (blk_cell BK424.out 5).trans rfl, (blk_cell BK424.out 6).trans rfl⟩ (fun hHeld => ?_); refine with_tabW lw_BatchChecks.tab5 lw_BatchChecks.bits5 (fun HT_ HW_ => ?_)
    generalize w18.drew = w31 at HO429 HO433 BK424 HB hHeld ⊢
    refine take_ (i := 0) (N := some 21) (v := ?_) (a' := ?_) #[true, false, false, false, false, false, false, false, false, false, false, false, false, false, false, false, false] rfl rfl (take_ofW HT_.out HW_.out (by kernel_rfl)) (fun _ _ _ h => h) (Or.inl ⟨by rfl, ?_⟩) hHeld ?_ ?_
    rotate_left
    ·rintro w' ⟨s0, s1, s2, s3, s4, s5, s6⟩
     go_simp
     with_reducible rfl
    rotate_left
    ·exact tP
    refine take_ (i := 2) (N := some 23) (v := ?_) (a' := ?_) #[true, false, true, false, false, false, false, false, false, false, false, false, false, false, false, false, false] rfl rfl (take_ofW HT_.out HW_.out (by kernel_rfl)) (fun _ _ _ h => h) (Or.inl ⟨by rfl, ?_⟩) hHeld ?_ ?_
    rotate_left
    ·rintro w' ⟨s0, s1, s2, s3, s4, s5, s6⟩
     go_simp
     with_reducible rfl
    rotate_left
    ·exact tP
    refine one_ (i := 1) (N := some 22) #[true, true, true, false, false, false, false, false, false, false, false, false, false, false, false, false, false] rfl rfl (one_of HT_.out (by kernel_rfl)) (by decide) (fun K hK => ?_)
    refine goes_ Try.func26 (by kernel_rfl) rfl #[.agg #[.slice A0_0 l0_0.length c0_0, .slice A0_1 l0_1.length c0_1, .slice A0_2 l0_2.length c0_2, .slice A0_3 l0_3.length c0_3, .int .i64 a0_4, .int .i64 a0_5, .int .i64 a0_6]] (by rfl) rfl rfl tM ?_
    with_reducible refine (batch_Check.calls k _ _ l0_0 _ _ l0_1 _ _ l0_2 _ _ l0_3 a0_4 a0_5 a0_6 t435 _ ?side1 ?side2 ?side3 ?side4 ?side5 ?side6 ?side7 ?side8 A19.out).mono ?_
    (case side1 => exact cS (Kd.C_below HR0_0.out HB.out))
    (case side2 => exact HC0_0.out)
    (case side3 => exact cS (Kd.C_below HR0_1.out HB.out))
    (case side4 => exact HC0_1.out)
    (case side5 => exact cS (Kd.C_below HR0_2.out HB.out))
    (case side6 => exact HC0_2.out)
    (case side7 => exact cS (Kd.C_below HR0_3.out HB.out))
    (case side8 => exact HC0_3.out)
    rintro e w32 ⟨rfl, hb⟩
    refine ⟨_, rfl, ?_⟩
    replace HO429 := Sd.mk (Kd.R_below (by (with_reducible repeat (first | apply Kd.R_alloc | apply Kd.R_drewN | apply Kd.R_drew)); exact HO429.out) hb)
    replace HO433 := Sd.mk (Kd.R_below (by (with_reducible repeat (first | apply Kd.R_alloc | apply Kd.R_drewN | apply Kd.R_drew)); exact HO433.out) hb)
    replace BK424 := Sd.mk (blk_below (bkA BK424.out) hb); replace HB := Sd.mk (below_step (bBl HB.out) hb)
    (try clear hb)
    (try clear hb2)
    (try clear hk)
    (try clear hi)
    refine hK.out _ _ ⟨(blk_cell BK424.out 0).trans rfl, (blk_cell BK424.out 1).trans rfl, (blk_cell BK424.out 2).trans rfl, (blk_cell BK424.out 3).trans rfl, (blk_cell BK424.out 4).trans rfl, (blk_cell BK424.out 5).trans rfl, (blk_cell BK424.out 6).trans rfl⟩ (fun hHeld => ?_)
    clear hK K
    refine norm_ (a' := ?_) ?_ ?_
    rotate_left
    ·show Act.put _ (some 22) _ = _
     exact tP
    refine one_ (i := 3) (N := some 24) #[true, true, true, true, false, false, false, false, false, false, false, false, false, false, false, false, false] rfl rfl (one_of HT_.out (by kernel_rfl)) (by decide) (fun K hK => ?_)
    refine goes_ Try.func27 (by kernel_rfl) rfl #[.agg #[.slice A0_0 l0_0.length c0_0, .slice A0_1 l0_1.length c0_1, .slice A0_2 l0_2.length c0_2, .slice A0_3 l0_3.length c0_3, .int .i64 a0_4, .int .i64 a0_5, .int .i64 a0_6]] (by rfl) rfl rfl tM ?_
    with_reducible refine (rf_Check.calls k _ _ l0_0 _ _ l0_1 _ _ l0_2 _ _ l0_3 a0_4 a0_5 a0_6 t436 _ ?side1 ?side2 ?side3 ?side4 ?side5 ?side6 ?side7 ?side8 A20.out).mono ?_
    (case side1 => exact cS (Kd.C_below HR0_0.out HB.out))
    (case side2 => exact HC0_0.out)
    (case side3 => exact cS (Kd.C_below HR0_1.out HB.out))
    (case side4 => exact HC0_1.out)
    (case side5 => exact cS (Kd.C_below HR0_2.out HB.out))
    (case side6 => exact HC0_2.out)
    (case side7 => exact cS (Kd.C_below HR0_3.out HB.out))
    (case side8 => exact HC0_3.out)
    rintro e w33 ⟨rfl, hb⟩
    refine ⟨_, rfl, ?_⟩
    replace HO429 := Sd.mk (Kd.R_below (by (with_reducible repeat (first | apply Kd.R_alloc | apply Kd.R_drewN | apply Kd.R_drew)); exact HO429.out) hb)
    replace HO433 := Sd.mk (Kd.R_below (by (with_reducible repeat (first | apply Kd.R_alloc | apply Kd.R_drewN | apply Kd.R_drew)); exact HO433.out) hb)
    replace BK424 := Sd.mk (blk_below (bkA BK424.out) hb); replace HB := Sd.mk (below_step (bBl HB.out) hb)
    (try clear hb)
    (try clear hb2)
    (try clear hk)
    (try clear hi)
    refine hK.out _ _ ⟨(blk_cell BK424.out 0).trans rfl, (blk_cell BK424.out 1).trans rfl, (blk_cell BK424.out 2).trans rfl, (blk_cell BK424.out 3).trans rfl, (blk_cell BK424.out 4).trans rfl, (blk_cell BK424.out 5).trans rfl, (blk_cell BK424.out 6).trans rfl⟩ (fun hHeld => ?_)
    clear hK K
    refine norm_ (a' := ?_) ?_ ?_
    rotate_left
    ·show Act.put _ (some 24) _ = _
     exact tP
    refine pure_ (i := 4) (N := some 25) (v := ?_) (a' := ?_) #[true, true, true, true, true, false, false, false, false, false, false, false, false, false, false, false, false] rfl rfl (any_of HT_.out (by kernel_rfl)) (fun _ _ _ h => h) (Or.inl ⟨by rfl, ?_⟩) ?_ ?_
    rotate_left
    ·exact tW
    rotate_left
    ·exact tP
    refine pure_ (i := 5) (N := some 26) (v := ?_) (a' := ?_) #[true, true, true, true, true, true, false, false, false, false, false, false, false, false, false, false, false] rfl rfl (any_of HT_.out (by kernel_rfl)) (fun _ _ _ h => h) (Or.inl ⟨by rfl, ?_⟩) ?_ ?_
    rotate_left
    ·exact tW
    rotate_left
    ·exact tP
    refine pure_ (i := 6) (N := some 27) (v := undef) (a' := ?_) #[true, true, true, true, true, true, true, false, false, false, false, false, false, false, false, false, false] rfl rfl (any_of HT_.out (by kernel_rfl)) (fun _ _ _ h => h) (Or.inr ⟨by rfl, rfl⟩) ?_ ?_
    rotate_left
    ·exact tP
    refine pure_ (i := 7) (N := some 28) (v := undef) (a' := ?_) #[true, true, true, true, true, true, true, true, false, false, false, false, false, false, false, false, false] rfl rfl (any_of HT_.out (by kernel_rfl)) (fun _ _ _ h => h) (Or.inr ⟨by rfl, rfl⟩) ?_ ?_
    rotate_left
    ·exact tP
    refine pure_ (i := 8) (N := some 29) (v := undef) (a' := ?_) #[true, true, true, true, true, true, true, true, true, false, false, false, false, false, false, false, false] rfl rfl (any_of HT_.out (by kernel_rfl)) (fun _ _ _ h => h) (Or.inr ⟨by rfl, rfl⟩) ?_ ?_
    rotate_left
    ·exact tP
    refine pure_ (i := 9) (N := some 30) (v := ?_) (a' := ?_) #[true, true, true, true, true, true, true, true, true, true, false, false, false, false, false, false, false] rfl rfl (any_of HT_.out (by kernel_rfl)) (fun _ _ _ h => h) (Or.inl ⟨by rfl, ?_⟩) ?_ ?_
    rotate_left
    ·exact tW
    rotate_left
    ·exact tP
    refine pure_ (i := 10) (N := some 31) (v := ?_) (a' := ?_) #[true, true, true, true, true, true, true, true, true, true, true, false, false, false, false, false, false] rfl rfl (any_of HT_.out (by kernel_rfl)) (fun _ _ _ h => h) (Or.inl ⟨by rfl, ?_⟩) ?_ ?_
    rotate_left
    ·exact tW
    rotate_left
    ·exact tP
    refine pure_ (i := 11) (N := some 32) (v := undef) (a' := ?_) #[true, true, true, true, true, true, true, true, true, true, true, true, false, false, false, false, false] rfl rfl (any_of HT_.out (by kernel_rfl)) (fun _ _ _ h => h) (Or.inr ⟨by rfl, rfl⟩) ?_ ?_
    rotate_left
    ·exact tP
    refine pure_ (i := 12) (N := some 33) (v := undef) (a' := ?_) #[true, true, true, true, true, true, true, true, true, true, true, true, true, false, false, false, false] rfl rfl (any_of HT_.out (by kernel_rfl)) (fun _ _ _ h => h) (Or.inr ⟨by rfl, rfl⟩) ?_ ?_
    rotate_left
    ·exact tP
    refine pure_ (i := 13) (N := some 34) (v := undef) (a' := ?_) #[true, true, true, true, true, true, true, true, true, true, true, true, true, true, false, false, false] rfl rfl (any_of HT_.out (by kernel_rfl)) (fun _ _ _ h => h) (Or.inr ⟨by rfl, rfl⟩) ?_ ?_
    rotate_left
    ·exact tP
    refine pure_ (i := 14) (N := some 35) (v := undef) (a' := ?_) #[true, true, true, true, true, true, true, true, true, true, true, true, true, true, true, false, false] rfl rfl (any_of HT_.out (by kernel_rfl)) (fun _ _ _ h => h) (Or.inr ⟨by rfl, rfl⟩) ?_ ?_
    rotate_left
    ·exact tP
    refine pure_ (i := 15) (N := some 36) (v := undef) (a' := ?_) #[true, true, true, true, true, true, true, true, true, true, true, true, true, true, true, true, false] rfl rfl (any_of HT_.out (by kernel_rfl)) (fun _ _ _ h => h) (Or.inr ⟨by rfl, rfl⟩) ?_ ?_
    rotate_left
    ·exact tP
    refine pure_ (i := 16) (N := some 37) (v := ?_) (a' := ?_) #[true, true, true, true, true, true, true, true, true, true, true, true, true, true, true, true, true] rfl rfl (any_of HT_.out (by kernel_rfl)) (fun _ _ _ h => h) (Or.inl ⟨by rfl, ?_⟩) ?_ ?_
    rotate_left
    ·exact tW
    rotate_left
    ·exact tP
    refine done_ (done_of HT_.out (by kernel_rfl)) ?_
    try go_wp2
    go_meet
    case rel => exact ⟨_, (true), tS, H', ⟨by first | omega | exact Nat.le_refl _⟩, ⟨by (with_reducible repeat (first | apply Kd.R_alloc | apply Kd.R_drewN | apply Kd.R_drew)); exact Kd.R_mono HO429.out (fun _ hk => hk.2)⟩, ⟨by (with_reducible repeat (first | apply Kd.R_alloc | apply Kd.R_drewN | apply Kd.R_drew)); exact Kd.R_mono HO433.out (fun _ hk => hk.2)⟩, ⟨bkA BK424.out⟩, ⟨bBl HB.out⟩⟩
  case rest =>
   clear HC11; (try clear c2); (try clear p2); (try clear c21); (try clear c21b0); (try clear c21b1); (try clear c22); (try clear c22b0); (try clear c22b1); (try clear c26); (try clear c27); obtain ⟨kq, x37_10, rfl, HA, HJ10, HO_3, HO_5, BK424, HB⟩ := hcut
   cases kq with
   | zero => exact absurd HA.out (by simp [lw_BatchChecks.j0])
   | succ kj10 =>
    have H := HA.out; clear HA
    simp only [lw_BatchChecks.j0] at H
    by_cases c34 : x37_10 = true
    ·subst c34
     have H1 : (some false) = some r := by rw [if_pos rfl] at H; exact H
     clear H; have H := H1; clear H1; obtain rfl := Option.some.inj H
     go_wp2
     go_ret
     exact ⟨tE, bBl HB.out⟩
    ·replace c34 := Bool.eq_false_iff.mpr c34
     subst c34
     have H1 : (lw_BatchChecks.l0 kj10 t427 t431 0) = some r := by rw [if_neg (show ¬ (false = true) by decide)] at H; exact H
     clear H; have H := H1; clear H1; have H' := Sd.mk H; clear H
     go_wp2
     go_loopg [7] kj10 (fun kq v7 w' => ∃ (x7_2 : Int), v7 = .int .i64 x7_2 ∧ Sd (lw_BatchChecks.l0 kq t427 t431 x7_2 = some r) ∧ Sd (kq ≤ kj10) ∧ Sd (Kd.R k51 51 w' w.heap.size (fun k_ => some k_ ≠ (v432 : Value).ownBlock) v428 t427) ∧ Sd (Kd.R k51 51 w' w.heap.size (fun k_ => some k_ ≠ (v428 : Value).ownBlock) v432 t431) ∧ Sd (w'.heap[gb424]? = some (.cells #[(.slice A0_0 l0_0.length c0_0), (.slice A0_1 l0_1.length c0_1), (.slice A0_2 l0_2.length c0_2), (.slice A0_3 l0_3.length c0_3), .int .i64 a0_4, .int .i64 a0_5, .int .i64 a0_6] 29 (0, 0))) ∧ Sd (Below w.heap.size w w'))
     case atStart => exact ⟨(0), tS, H', ⟨Nat.le_refl _⟩, ⟨by (with_reducible repeat (first | apply Kd.R_alloc | apply Kd.R_drewN | apply Kd.R_drew)); exact HO_3.out⟩, ⟨by (with_reducible repeat (first | apply Kd.R_alloc | apply Kd.R_drewN | apply Kd.R_drew)); exact HO_5.out⟩, ⟨bkA BK424.out⟩, ⟨bBl HB.out⟩⟩
     case round =>
      clear H'; (try clear c2); (try clear p2 p2); (try clear c3); (try clear c21); (try clear c21b0); (try clear c21b1); (try clear c22); (try clear c22b0); (try clear c22b1); (try clear c26); (try clear c27); (try clear c34); obtain ⟨x7_2, rfl, HA, HK2, HO_3, HO_5, BK424, HB⟩ := hrel
      cases gk with
      | zero => exact absurd HA.out (by simp [lw_BatchChecks.l0])
      | succ k2 =>
       have H := HA.out; clear HA
       simp only [lw_BatchChecks.l0] at H
       by_cases c35 : x7_2 < (t431.length : Int)
       ·rw [if_pos c35] at H
        have c35b0 : decide (x7_2 < (t431.length : Int)) = true := decide_eq_true c35
        clear c35
        by_cases c36 : 0 ≤ x7_2
        ·rw [if_pos c36] at H
         have c36b0 : decide (0 ≤ x7_2) = true := decide_eq_true c36
         clear c36
         by_cases c37 : x7_2 < (t427.length : Int)
         ·rw [if_pos c37] at H
          have c37b0 : decide (x7_2 < (t427.length : Int)) = true := decide_eq_true c37
          clear c37
          by_cases c38 : ((rd_T51 t427 x7_2).f1) = ((rd_T51 t431 x7_2).f1)
          ·rw [if_pos c38] at H
           have c38b0 : (((rd_T51 t427 x7_2).f1) == ((rd_T51 t431 x7_2).f1)) = true := beq_iff_eq.mpr c38
           have c38b1 : (((rd_T51 t427 x7_2).f1) != ((rd_T51 t431 x7_2).f1)) = false := bne_eq_false_iff_eq.mpr c38
           clear c38; replace H := Option.bind_eq_some_iff.mp H; obtain ⟨t441, A390, H⟩ := H
           try dsimp only at H
           have A39 := Sd.mk A390; clear A390
           by_cases c40 : t441 = true
           ·subst c40
            have H1 : (lw_BatchChecks.l0 k2 t427 t431 (wrap64 (x7_2 + 1))) = some r := by rw [if_pos rfl] at H; exact H
            clear H; have H := H1; clear H1; have H' := Sd.mk H; clear H; obtain ⟨Ao41, co41, eo41⟩ := Kd.R_slice HO_5.out; subst eo41
            try go_wp2
            replace HO_3 := Sd.mk (Kd.R_drew HO_3.out); replace HO_5 := Sd.mk (Kd.R_drew HO_5.out); replace BK424 := Sd.mk (blk_drew BK424.out); replace HB := Sd.mk (below_drew1 HB.out); obtain ⟨Ao43, co43, eo43⟩ := Kd.R_slice HO_3.out
            (first | subst eo43 | (injection eo43 with f1_ f2_ f3_; have f4_ := f1_.symm; have f5_ := f3_.symm; clear f1_ f2_ f3_; subst f4_; subst f5_))
            have p437 : 0 ≤ (x7_2 : Int) := tB
            have q437 : x7_2 < (t427.length : Int) := tB
            obtain ⟨ad437, A437_0, c437_0, e437, hx437_0, hx437_1, hl437_0, hi437_0⟩ := at_T51 (Kd.R_reads' HO_3.out).2.2 x7_2 p437 q437; cases e437
            obtain ⟨ce437, hce437, hMe437, hcc437⟩ := Kd.R_get HO_3.out z51 x7_2 p437 (by first | exact q437 | exact tB | (have e_ := (Kd.R_reads' HO_3.out).1; omega))
            obtain ⟨ve437_0, rfl, ge437_0⟩ := k51_openM hMe437; have hv437_0 := hcc437 0 _ rfl
            rw [Nat.add_zero] at hv437_0
            replace hv437_0 := Option.some.inj (hv437_0.symm.trans hx437_0)
            rw [hv437_0] at ge437_0
            have HL437_0 := Sd.mk (show Kd.R (Kd.int .i64) 3 _ _ _ _ ((rd_T51 t427 x7_2).f0) from ge437_0)
            clear hv437_0 ge437_0; clear hcc437 hce437; have HR437_0 := Sd.mk hi437_0; have HC437_0 := Sd.mk hl437_0; clear hi437_0 hl437_0; replace p437 := eq_true p437; replace q437 := eq_true q437
            have p438 : 0 ≤ (x7_2 : Int) := tB
            have q438 : x7_2 < (t431.length : Int) := tB
            obtain ⟨ad438, A438_0, c438_0, e438, hx438_0, hx438_1, hl438_0, hi438_0⟩ := at_T51 (Kd.R_reads' HO_5.out).2.2 x7_2 p438 q438; cases e438
            obtain ⟨ce438, hce438, hMe438, hcc438⟩ := Kd.R_get HO_5.out z51 x7_2 p438 (by first | exact q438 | exact tB | (have e_ := (Kd.R_reads' HO_5.out).1; omega))
            obtain ⟨ve438_0, rfl, ge438_0⟩ := k51_openM hMe438; have hv438_0 := hcc438 0 _ rfl
            rw [Nat.add_zero] at hv438_0
            replace hv438_0 := Option.some.inj (hv438_0.symm.trans hx438_0)
            rw [hv438_0] at ge438_0
            have HL438_0 := Sd.mk (show Kd.R (Kd.int .i64) 3 _ _ _ _ ((rd_T51 t431 x7_2).f0) from ge438_0)
            clear hv438_0 ge438_0; clear hcc438 hce438; have HR438_0 := Sd.mk hi438_0; have HC438_0 := Sd.mk hl438_0; clear hi438_0 hl438_0; replace p438 := eq_true p438; replace q438 := eq_true q438
            have p439 : 0 ≤ (x7_2 : Int) := tB
            have q439 : x7_2 < (t427.length : Int) := tB
            obtain ⟨ad439, A439_0, c439_0, e439, hx439_0, hx439_1, hl439_0, hi439_0⟩ := at_T51 (Kd.R_reads' HO_3.out).2.2 x7_2 p439 q439
            obtain rfl : ad437 = ad439 := (by injection e439)
            obtain ⟨ce439, hce439, hMe439, hcc439⟩ := Kd.R_get HO_3.out z51 x7_2 p439 (by first | exact q439 | exact tB | (have e_ := (Kd.R_reads' HO_3.out).1; omega))
            obtain ⟨ve439_0, rfl, ge439_0⟩ := k51_openM hMe439; have hv439_0 := hcc439 0 _ rfl
            rw [Nat.add_zero] at hv439_0
            replace hv439_0 := Option.some.inj (hv439_0.symm.trans hx439_0)
            rw [hv439_0] at ge439_0
            have HL439_0 := Sd.mk (show Kd.R (Kd.int .i64) 3 _ _ _ _ ((rd_T51 t427 x7_2).f0) from ge439_0)
            clear hv439_0 ge439_0; clear hcc439 hce439; have HR439_0 := Sd.mk hi439_0; have HC439_0 := Sd.mk hl439_0; clear hi439_0 hl439_0; replace p439 := eq_true p439; replace q439 := eq_true q439; have ea_ := Option.some.inj (hx437_0.symm.trans hx439_0)
            injection ea_ with ea_ en_ ec_
            subst ea_; subst ec_; clear en_
            have p440 : 0 ≤ (x7_2 : Int) := tB
            have q440 : x7_2 < (t431.length : Int) := tB
            obtain ⟨ad440, A440_0, c440_0, e440, hx440_0, hx440_1, hl440_0, hi440_0⟩ := at_T51 (Kd.R_reads' HO_5.out).2.2 x7_2 p440 q440
            obtain rfl : ad438 = ad440 := (by injection e440)
            obtain ⟨ce440, hce440, hMe440, hcc440⟩ := Kd.R_get HO_5.out z51 x7_2 p440 (by first | exact q440 | exact tB | (have e_ := (Kd.R_reads' HO_5.out).1; omega))
            obtain ⟨ve440_0, rfl, ge440_0⟩ := k51_openM hMe440; have hv440_0 := hcc440 0 _ rfl
            rw [Nat.add_zero] at hv440_0
            replace hv440_0 := Option.some.inj (hv440_0.symm.trans hx440_0)
            rw [hv440_0] at ge440_0
            have HL440_0 := Sd.mk (show Kd.R (Kd.int .i64) 3 _ _ _ _ ((rd_T51 t431 x7_2).f0) from ge440_0)
            clear hv440_0 ge440_0; clear hcc440 hce440; have HR440_0 := Sd.mk hi440_0; have HC440_0 := Sd.mk hl440_0; clear hi440_0 hl440_0; replace p440 := eq_true p440; replace q440 := eq_true q440; have ea_ := Option.some.inj (hx438_0.symm.trans hx440_0)
            injection ea_ with ea_ en_ ec_
            subst ea_; subst ec_; clear en_
            refine start_ (n := 25) (S := fun w' => w'.cell? (ad437.add ((x7_2).toNat * 2)) = some (.slice A437_0 ((rd_T51 t427 x7_2).f0).length c437_0) ∧ w'.cell? ⟨(ad437.add ((x7_2).toNat * 2)).block, (ad437.add ((x7_2).toNat * 2)).off + 1, none⟩ = some (.int .i64 ((rd_T51 t427 x7_2).f1)) ∧ w'.cell? (ad438.add ((x7_2).toNat * 2)) = some (.slice A438_0 ((rd_T51 t431 x7_2).f0).length c438_0) ∧ w'.cell? ⟨(ad438.add ((x7_2).toNat * 2)).block, (ad438.add ((x7_2).toNat * 2)).off + 1, none⟩ = some (.int .i64 ((rd_T51 t431 x7_2).f1)) ∧ w'.cell? (ad437.add ((x7_2).toNat * 2)) = some (.slice A437_0 ((rd_T51 t427 x7_2).f0).length c437_0) ∧ w'.cell? ⟨(ad437.add ((x7_2).toNat * 2)).block, (ad437.add ((x7_2).toNat * 2)).off + 1, none⟩ = some (.int .i64 ((rd_T51 t427 x7_2).f1)) ∧ w'.cell? (ad438.add ((x7_2).toNat * 2)) = some (.slice A438_0 ((rd_T51 t431 x7_2).f0).length c438_0) ∧ w'.cell? ⟨(ad438.add ((x7_2).toNat * 2)).block, (ad438.add ((x7_2).toNat * 2)).off + 1, none⟩ = some (.int .i64 ((rd_T51 t431 x7_2).f1))) (ds := []) #[false, false, false, false, false, false, false, false, false, false, false, false, false, false, false, false, false, false, false, false, false, false, false, false, false] (by kernel_rfl) rfl rfl ⟨hx437_0, hx437_1, hx438_0, hx438_1, hx439_0, hx439_1, hx440_0, hx440_1⟩ (fun hHeld => ?_); refine with_tabW lw_BatchChecks.tab10 lw_BatchChecks.bits10 (fun HT_ HW_ => ?_)
            generalize wr.drew = w42 at HO_3 HO_5 BK424 HB HL437_0 HL438_0 HL439_0 HL440_0 HR437_0 HR438_0 HR439_0 HR440_0 hx437_0 hx437_1 hx438_0 hx438_1 hx439_0 hx439_1 hx440_0 hx440_1 hHeld ⊢
            refine pure_ (i := 0) (N := some 44) (v := ?_) (a' := ?_) #[true, false, false, false, false, false, false, false, false, false, false, false, false, false, false, false, false, false, false, false, false, false, false, false, false] rfl rfl (any_of HT_.out (by kernel_rfl)) (fun _ _ _ h => h) (Or.inl ⟨by rfl, ?_⟩) ?_ ?_
            rotate_left
            ·exact tW
            rotate_left
            ·exact tP
            refine pure_ (i := 1) (N := some 45) (v := ?_) (a' := ?_) #[true, true, false, false, false, false, false, false, false, false, false, false, false, false, false, false, false, false, false, false, false, false, false, false, false] rfl rfl (any_of HT_.out (by kernel_rfl)) (fun _ _ _ h => h) (Or.inl ⟨by rfl, ?_⟩) ?_ ?_
            rotate_left
            ·exact tW
            rotate_left
            ·exact tP
            refine pure_ (i := 2) (N := some 46) (v := ?_) (a' := ?_) #[true, true, true, false, false, false, false, false, false, false, false, false, false, false, false, false, false, false, false, false, false, false, false, false, false] rfl rfl (any_of HT_.out (by kernel_rfl)) (fun _ _ _ h => h) (Or.inl ⟨by rfl, ?_⟩) ?_ ?_
            rotate_left
            ·exact tW
            rotate_left
            ·exact tP
            refine pure_ (i := 3) (N := some 47) (v := ?_) (a' := ?_) #[true, true, true, true, false, false, false, false, false, false, false, false, false, false, false, false, false, false, false, false, false, false, false, false, false] rfl rfl (any_of HT_.out (by kernel_rfl)) (fun _ _ _ h => h) (Or.inl ⟨by rfl, ?_⟩) ?_ ?_
            rotate_left
            ·exact tW
            rotate_left
            ·exact tP
            refine pure_ (i := 5) (N := some 49) (v := ?_) (a' := ?_) #[true, true, true, true, false, true, false, false, false, false, false, false, false, false, false, false, false, false, false, false, false, false, false, false, false] rfl rfl (any_of HT_.out (by kernel_rfl)) (fun _ _ _ h => h) (Or.inl ⟨by rfl, ?_⟩) ?_ ?_
            rotate_left
            ·exact tW
            rotate_left
            ·exact tP
            refine pure_ (i := 6) (N := some 50) (v := ?_) (a' := ?_) #[true, true, true, true, false, true, true, false, false, false, false, false, false, false, false, false, false, false, false, false, false, false, false, false, false] rfl rfl (any_of HT_.out (by kernel_rfl)) (fun _ _ _ h => h) (Or.inl ⟨by rfl, ?_⟩) ?_ ?_
            rotate_left
            ·exact tW
            rotate_left
            ·exact tP
            refine pure_ (i := 7) (N := some 51) (v := ?_) (a' := ?_) #[true, true, true, true, false, true, true, true, false, false, false, false, false, false, false, false, false, false, false, false, false, false, false, false, false] rfl rfl (any_of HT_.out (by kernel_rfl)) (fun _ _ _ h => h) (Or.inl ⟨by rfl, ?_⟩) ?_ ?_
            rotate_left
            ·exact tW
            rotate_left
            ·exact tP
            refine pure_ (i := 8) (N := some 52) (v := ?_) (a' := ?_) #[true, true, true, true, false, true, true, true, true, false, false, false, false, false, false, false, false, false, false, false, false, false, false, false, false] rfl rfl (any_of HT_.out (by kernel_rfl)) (fun _ _ _ h => h) (Or.inl ⟨by rfl, ?_⟩) ?_ ?_
            rotate_left
            ·exact tW
            rotate_left
            ·exact tP
            refine take_ (i := 4) (N := some 48) (v := ?_) (a' := ?_) #[true, true, true, true, true, true, true, true, true, false, false, false, false, false, false, false, false, false, false, false, false, false, false, false, false] rfl rfl (take_ofW HT_.out HW_.out (by kernel_rfl)) (fun _ _ _ h => h) (Or.inl ⟨by rfl, ?_⟩) hHeld ?_ ?_
            rotate_left
            ·rintro w' ⟨s0, s1, s2, s3, s4, s5, s6, s7⟩
             go_simp
             with_reducible rfl
            rotate_left
            ·exact tP
            refine take_ (i := 9) (N := some 53) (v := ?_) (a' := ?_) #[true, true, true, true, true, true, true, true, true, true, false, false, false, false, false, false, false, false, false, false, false, false, false, false, false] rfl rfl (take_ofW HT_.out HW_.out (by kernel_rfl)) (fun _ _ _ h => h) (Or.inl ⟨by rfl, ?_⟩) hHeld ?_ ?_
            rotate_left
            ·rintro w' ⟨s0, s1, s2, s3, s4, s5, s6, s7⟩
             go_simp
             with_reducible rfl
            rotate_left
            ·exact tP
            refine pure_ (i := 10) (N := some 54) (v := ?_) (a' := ?_) #[true, true, true, true, true, true, true, true, true, true, true, false, false, false, false, false, false, false, false, false, false, false, false, false, false] rfl rfl (any_of HT_.out (by kernel_rfl)) (fun _ _ _ h => h) (Or.inl ⟨by rfl, ?_⟩) ?_ ?_
            rotate_left
            ·exact tW
            rotate_left
            ·exact tP
            refine pure_ (i := 11) (N := some 55) (v := ?_) (a' := ?_) #[true, true, true, true, true, true, true, true, true, true, true, true, false, false, false, false, false, false, false, false, false, false, false, false, false] rfl rfl (any_of HT_.out (by kernel_rfl)) (fun _ _ _ h => h) (Or.inl ⟨by rfl, ?_⟩) ?_ ?_
            rotate_left
            ·exact tW
            rotate_left
            ·exact tP
            refine pure_ (i := 12) (N := some 56) (v := ?_) (a' := ?_) #[true, true, true, true, true, true, true, true, true, true, true, true, true, false, false, false, false, false, false, false, false, false, false, false, false] rfl rfl (any_of HT_.out (by kernel_rfl)) (fun _ _ _ h => h) (Or.inl ⟨by rfl, ?_⟩) ?_ ?_
            rotate_left
            ·exact tW
            rotate_left
            ·exact tP
            refine pure_ (i := 13) (N := some 57) (v := ?_) (a' := ?_) #[true, true, true, true, true, true, true, true, true, true, true, true, true, true, false, false, false, false, false, false, false, false, false, false, false] rfl rfl (any_of HT_.out (by kernel_rfl)) (fun _ _ _ h => h) (Or.inl ⟨by rfl, ?_⟩) ?_ ?_
            rotate_left
            ·exact tW
            rotate_left
            ·exact tP
            refine pure_ (i := 14) (N := some 58) (v := ?_) (a' := ?_) #[true, true, true, true, true, true, true, true, true, true, true, true, true, true, true, false, false, false, false, false, false, false, false, false, false] rfl rfl (any_of HT_.out (by kernel_rfl)) (fun _ _ _ h => h) (Or.inl ⟨by rfl, ?_⟩) ?_ ?_
            rotate_left
            ·exact tW
            rotate_left
            ·exact tP
            refine pure_ (i := 15) (N := some 59) (v := ?_) (a' := ?_) #[true, true, true, true, true, true, true, true, true, true, true, true, true, true, true, true, false, false, false, false, false, false, false, false, false] rfl rfl (any_of HT_.out (by kernel_rfl)) (fun _ _ _ h => h) (Or.inl ⟨by rfl, ?_⟩) ?_ ?_
            rotate_left
            ·exact tW
            rotate_left
            ·exact tP
            refine pure_ (i := 17) (N := some 61) (v := ?_) (a' := ?_) #[true, true, true, true, true, true, true, true, true, true, true, true, true, true, true, true, false, true, false, false, false, false, false, false, false] rfl rfl (any_of HT_.out (by kernel_rfl)) (fun _ _ _ h => h) (Or.inl ⟨by rfl, ?_⟩) ?_ ?_
            rotate_left
            ·exact tW
            rotate_left
            ·exact tP
            refine pure_ (i := 18) (N := some 62) (v := ?_) (a' := ?_) #[true, true, true, true, true, true, true, true, true, true, true, true, true, true, true, true, false, true, true, false, false, false, false, false, false] rfl rfl (any_of HT_.out (by kernel_rfl)) (fun _ _ _ h => h) (Or.inl ⟨by rfl, ?_⟩) ?_ ?_
            rotate_left
            ·exact tW
            rotate_left
            ·exact tP
            refine pure_ (i := 19) (N := some 63) (v := ?_) (a' := ?_) #[true, true, true, true, true, true, true, true, true, true, true, true, true, true, true, true, false, true, true, true, false, false, false, false, false] rfl rfl (any_of HT_.out (by kernel_rfl)) (fun _ _ _ h => h) (Or.inl ⟨by rfl, ?_⟩) ?_ ?_
            rotate_left
            ·exact tW
            rotate_left
            ·exact tP
            refine pure_ (i := 20) (N := some 64) (v := ?_) (a' := ?_) #[true, true, true, true, true, true, true, true, true, true, true, true, true, true, true, true, false, true, true, true, true, false, false, false, false] rfl rfl (any_of HT_.out (by kernel_rfl)) (fun _ _ _ h => h) (Or.inl ⟨by rfl, ?_⟩) ?_ ?_
            rotate_left
            ·exact tW
            rotate_left
            ·exact tP
            refine take_ (i := 16) (N := some 60) (v := ?_) (a' := ?_) #[true, true, true, true, true, true, true, true, true, true, true, true, true, true, true, true, true, true, true, true, true, false, false, false, false] rfl rfl (take_ofW HT_.out HW_.out (by kernel_rfl)) (fun _ _ _ h => h) (Or.inl ⟨by rfl, ?_⟩) hHeld ?_ ?_
            rotate_left
            ·rintro w' ⟨s0, s1, s2, s3, s4, s5, s6, s7⟩
             go_simp
             with_reducible rfl
            rotate_left
            ·exact tP
            refine take_ (i := 21) (N := some 65) (v := ?_) (a' := ?_) #[true, true, true, true, true, true, true, true, true, true, true, true, true, true, true, true, true, true, true, true, true, true, false, false, false] rfl rfl (take_ofW HT_.out HW_.out (by kernel_rfl)) (fun _ _ _ h => h) (Or.inl ⟨by rfl, ?_⟩) hHeld ?_ ?_
            rotate_left
            ·rintro w' ⟨s0, s1, s2, s3, s4, s5, s6, s7⟩
             go_simp
             with_reducible rfl
            rotate_left
            ·exact tP
            refine one_ (i := 22) (N := some 66) #[true, true, true, true, true, true, true, true, true, true, true, true, true, true, true, true, true, true, true, true, true, true, true, false, false] rfl rfl (one_of HT_.out (by kernel_rfl)) (by decide) (fun K hK => ?_)
            refine goes_ Try.func28 (by kernel_rfl) rfl #[.slice A437_0 ((rd_T51 t427 x7_2).f0).length c437_0, .slice A438_0 ((rd_T51 t431 x7_2).f0).length c438_0] (by rfl) rfl rfl tM ?_
            with_reducible refine (lw_SameInts.calls k2 _ _ ((rd_T51 t427 x7_2).f0) _ _ ((rd_T51 t431 x7_2).f0) true _ ?side1 ?side2 ?side3 ?side4 A39.out).mono ?_
            (case side1 => exact cS (by repeat (first | (with_reducible exact HR439_0.out) | (with_reducible refine Kd.C_alloc ?_ _) | (with_reducible refine Kd.C_drewN ?_ _) | (with_reducible refine Kd.C_drew ?_) | exact HR439_0.out)))
            (case side2 => exact HC439_0.out)
            (case side3 => exact cS (by repeat (first | (with_reducible exact HR440_0.out) | (with_reducible refine Kd.C_alloc ?_ _) | (with_reducible refine Kd.C_drewN ?_ _) | (with_reducible refine Kd.C_drew ?_) | exact HR440_0.out)))
            (case side4 => exact HC440_0.out)
            rintro e w' ⟨rfl, ⟨nd, rfl⟩⟩
            refine ⟨_, rfl, ?_⟩
            refine hK.out _ _ ⟨hHeld.1, hHeld.2.1, hHeld.2.2.1, hHeld.2.2.2.1, hHeld.2.2.2.2.1, hHeld.2.2.2.2.2.1, hHeld.2.2.2.2.2.2.1, hHeld.2.2.2.2.2.2.2⟩ (fun hHeld => ?_)
            clear hK K
            refine norm_ (a' := ?_) ?_ ?_
            rotate_left
            ·show Act.put _ (some 66) _ = _
             exact tP
            refine pure_ (i := 23) (N := some 67) (v := ?_) (a' := ?_) #[true, true, true, true, true, true, true, true, true, true, true, true, true, true, true, true, true, true, true, true, true, true, true, true, false] rfl rfl (any_of HT_.out (by kernel_rfl)) (fun _ _ _ h => h) (Or.inl ⟨by rfl, ?_⟩) ?_ ?_
            rotate_left
            ·exact tW
            rotate_left
            ·exact tP
            refine pure_ (i := 24) (N := some 68) (v := ?_) (a' := ?_) #[true, true, true, true, true, true, true, true, true, true, true, true, true, true, true, true, true, true, true, true, true, true, true, true, true] rfl rfl (any_of HT_.out (by kernel_rfl)) (fun _ _ _ h => h) (Or.inl ⟨by rfl, ?_⟩) ?_ ?_
            rotate_left
            ·exact tW
            rotate_left
            ·exact tP
            refine done_ (done_of HT_.out (by kernel_rfl)) ?_
            try go_wp2
            go_roundg k2
            case measure => have := HJ10.out; have := HK2.out; omega
            case rel => exact ⟨(wrap64 (x7_2 + 1)), tS, H', ⟨by have := HJ10.out; have := HK2.out; omega⟩, ⟨by (with_reducible repeat (first | apply Kd.R_alloc | apply Kd.R_drewN | apply Kd.R_drew)); exact HO_3.out⟩, ⟨by (with_reducible repeat (first | apply Kd.R_alloc | apply Kd.R_drewN | apply Kd.R_drew)); exact HO_5.out⟩, ⟨bkA BK424.out⟩, ⟨bBl HB.out⟩⟩
           ·replace c40 := Bool.eq_false_iff.mpr c40
            subst c40
            have H1 : (some false) = some r := by rw [if_neg (show ¬ (false = true) by decide)] at H; exact H
            clear H; have H := H1; clear H1; obtain rfl := Option.some.inj H; obtain ⟨Ao44, co44, eo44⟩ := Kd.R_slice HO_5.out; subst eo44
            try go_wp2
            replace HO_3 := Sd.mk (Kd.R_drew HO_3.out); replace HO_5 := Sd.mk (Kd.R_drew HO_5.out); replace BK424 := Sd.mk (blk_drew BK424.out); replace HB := Sd.mk (below_drew1 HB.out); obtain ⟨Ao46, co46, eo46⟩ := Kd.R_slice HO_3.out
            (first | subst eo46 | (injection eo46 with f1_ f2_ f3_; have f4_ := f1_.symm; have f5_ := f3_.symm; clear f1_ f2_ f3_; subst f4_; subst f5_))
            have p437 : 0 ≤ (x7_2 : Int) := tB
            have q437 : x7_2 < (t427.length : Int) := tB
            obtain ⟨ad437, A437_0, c437_0, e437, hx437_0, hx437_1, hl437_0, hi437_0⟩ := at_T51 (Kd.R_reads' HO_3.out).2.2 x7_2 p437 q437; cases e437
            obtain ⟨ce437, hce437, hMe437, hcc437⟩ := Kd.R_get HO_3.out z51 x7_2 p437 (by first | exact q437 | exact tB | (have e_ := (Kd.R_reads' HO_3.out).1; omega))
            obtain ⟨ve437_0, rfl, ge437_0⟩ := k51_openM hMe437; have hv437_0 := hcc437 0 _ rfl
            rw [Nat.add_zero] at hv437_0
            replace hv437_0 := Option.some.inj (hv437_0.symm.trans hx437_0)
            rw [hv437_0] at ge437_0
            have HL437_0 := Sd.mk (show Kd.R (Kd.int .i64) 3 _ _ _ _ ((rd_T51 t427 x7_2).f0) from ge437_0)
            clear hv437_0 ge437_0; clear hcc437 hce437; have HR437_0 := Sd.mk hi437_0; have HC437_0 := Sd.mk hl437_0; clear hi437_0 hl437_0; replace p437 := eq_true p437; replace q437 := eq_true q437
            have p438 : 0 ≤ (x7_2 : Int) := tB
            have q438 : x7_2 < (t431.length : Int) := tB
            obtain ⟨ad438, A438_0, c438_0, e438, hx438_0, hx438_1, hl438_0, hi438_0⟩ := at_T51 (Kd.R_reads' HO_5.out).2.2 x7_2 p438 q438; cases e438
            obtain ⟨ce438, hce438, hMe438, hcc438⟩ := Kd.R_get HO_5.out z51 x7_2 p438 (by first | exact q438 | exact tB | (have e_ := (Kd.R_reads' HO_5.out).1; omega))
            obtain ⟨ve438_0, rfl, ge438_0⟩ := k51_openM hMe438; have hv438_0 := hcc438 0 _ rfl
            rw [Nat.add_zero] at hv438_0
            replace hv438_0 := Option.some.inj (hv438_0.symm.trans hx438_0)
            rw [hv438_0] at ge438_0
            have HL438_0 := Sd.mk (show Kd.R (Kd.int .i64) 3 _ _ _ _ ((rd_T51 t431 x7_2).f0) from ge438_0)
            clear hv438_0 ge438_0; clear hcc438 hce438; have HR438_0 := Sd.mk hi438_0; have HC438_0 := Sd.mk hl438_0; clear hi438_0 hl438_0; replace p438 := eq_true p438; replace q438 := eq_true q438
            have p439 : 0 ≤ (x7_2 : Int) := tB
            have q439 : x7_2 < (t427.length : Int) := tB
            obtain ⟨ad439, A439_0, c439_0, e439, hx439_0, hx439_1, hl439_0, hi439_0⟩ := at_T51 (Kd.R_reads' HO_3.out).2.2 x7_2 p439 q439
            obtain rfl : ad437 = ad439 := (by injection e439)
            obtain ⟨ce439, hce439, hMe439, hcc439⟩ := Kd.R_get HO_3.out z51 x7_2 p439 (by first | exact q439 | exact tB | (have e_ := (Kd.R_reads' HO_3.out).1; omega))
            obtain ⟨ve439_0, rfl, ge439_0⟩ := k51_openM hMe439; have hv439_0 := hcc439 0 _ rfl
            rw [Nat.add_zero] at hv439_0
            replace hv439_0 := Option.some.inj (hv439_0.symm.trans hx439_0)
            rw [hv439_0] at ge439_0
            have HL439_0 := Sd.mk (show Kd.R (Kd.int .i64) 3 _ _ _ _ ((rd_T51 t427 x7_2).f0) from ge439_0)
            clear hv439_0 ge439_0; clear hcc439 hce439; have HR439_0 := Sd.mk hi439_0; have HC439_0 := Sd.mk hl439_0; clear hi439_0 hl439_0; replace p439 := eq_true p439; replace q439 := eq_true q439; have ea_ := Option.some.inj (hx437_0.symm.trans hx439_0)
            injection ea_ with ea_ en_ ec_
            subst ea_; subst ec_; clear en_
            have p440 : 0 ≤ (x7_2 : Int) := tB
            have q440 : x7_2 < (t431.length : Int) := tB
            obtain ⟨ad440, A440_0, c440_0, e440, hx440_0, hx440_1, hl440_0, hi440_0⟩ := at_T51 (Kd.R_reads' HO_5.out).2.2 x7_2 p440 q440
            obtain rfl : ad438 = ad440 := (by injection e440)
            obtain ⟨ce440, hce440, hMe440, hcc440⟩ := Kd.R_get HO_5.out z51 x7_2 p440 (by first | exact q440 | exact tB | (have e_ := (Kd.R_reads' HO_5.out).1; omega))
            obtain ⟨ve440_0, rfl, ge440_0⟩ := k51_openM hMe440; have hv440_0 := hcc440 0 _ rfl
            rw [Nat.add_zero] at hv440_0
            replace hv440_0 := Option.some.inj (hv440_0.symm.trans hx440_0)
            rw [hv440_0] at ge440_0
            have HL440_0 := Sd.mk (show Kd.R (Kd.int .i64) 3 _ _ _ _ ((rd_T51 t431 x7_2).f0) from ge440_0)
            clear hv440_0 ge440_0; clear hcc440 hce440; have HR440_0 := Sd.mk hi440_0; have HC440_0 := Sd.mk hl440_0; clear hi440_0 hl440_0; replace p440 := eq_true p440; replace q440 := eq_true q440; have ea_ := Option.some.inj (hx438_0.symm.trans hx440_0)
            injection ea_ with ea_ en_ ec_
            subst ea_; subst ec_; clear en_
            refine start_ (n := 25) (S := fun w' => w'.cell? (ad437.add ((x7_2).toNat * 2)) = some (.slice A437_0 ((rd_T51 t427 x7_2).f0).length c437_0) ∧ w'.cell? ⟨(ad437.add ((x7_2).toNat * 2)).block, (ad437.add ((x7_2).toNat * 2)).off + 1, none⟩ = some (.int .i64 ((rd_T51 t427 x7_2).f1)) ∧ w'.cell? (ad438.add ((x7_2).toNat * 2)) = some (.slice A438_0 ((rd_T51 t431 x7_2).f0).length c438_0) ∧ w'.cell? ⟨(ad438.add ((x7_2).toNat * 2)).block, (ad438.add ((x7_2).toNat * 2)).off + 1, none⟩ = some (.int .i64 ((rd_T51 t431 x7_2).f1)) ∧ w'.cell? (ad437.add ((x7_2).toNat * 2)) = some (.slice A437_0 ((rd_T51 t427 x7_2).f0).length c437_0) ∧ w'.cell? ⟨(ad437.add ((x7_2).toNat * 2)).block, (ad437.add ((x7_2).toNat * 2)).off + 1, none⟩ = some (.int .i64 ((rd_T51 t427 x7_2).f1)) ∧ w'.cell? (ad438.add ((x7_2).toNat * 2)) = some (.slice A438_0 ((rd_T51 t431 x7_2).f0).length c438_0) ∧ w'.cell? ⟨(ad438.add ((x7_2).toNat * 2)).block, (ad438.add ((x7_2).toNat * 2)).off + 1, none⟩ = some (.int .i64 ((rd_T51 t431 x7_2).f1))) (ds := []) #[false, false, false, false, false, false, false, false, false, false, false, false, false, false, false, false, false, false, false, false, false, false, false, false, false] (by kernel_rfl) rfl rfl ⟨hx437_0, hx437_1, hx438_0, hx438_1, hx439_0, hx439_1, hx440_0, hx440_1⟩ (fun hHeld => ?_); refine with_tabW lw_BatchChecks.tab10 lw_BatchChecks.bits10 (fun HT_ HW_ => ?_)
            generalize wr.drew = w45 at HO_3 HO_5 BK424 HB HL437_0 HL438_0 HL439_0 HL440_0 HR437_0 HR438_0 HR439_0 HR440_0 hx437_0 hx437_1 hx438_0 hx438_1 hx439_0 hx439_1 hx440_0 hx440_1 hHeld ⊢
            refine pure_ (i := 0) (N := some 44) (v := ?_) (a' := ?_) #[true, false, false, false, false, false, false, false, false, false, false, false, false, false, false, false, false, false, false, false, false, false, false, false, false] rfl rfl (any_of HT_.out (by kernel_rfl)) (fun _ _ _ h => h) (Or.inl ⟨by rfl, ?_⟩) ?_ ?_
            rotate_left
            ·exact tW
            rotate_left
            ·exact tP
            refine pure_ (i := 1) (N := some 45) (v := ?_) (a' := ?_) #[true, true, false, false, false, false, false, false, false, false, false, false, false, false, false, false, false, false, false, false, false, false, false, false, false] rfl rfl (any_of HT_.out (by kernel_rfl)) (fun _ _ _ h => h) (Or.inl ⟨by rfl, ?_⟩) ?_ ?_
            rotate_left
            ·exact tW
            rotate_left
            ·exact tP
            refine pure_ (i := 2) (N := some 46) (v := ?_) (a' := ?_) #[true, true, true, false, false, false, false, false, false, false, false, false, false, false, false, false, false, false, false, false, false, false, false, false, false] rfl rfl (any_of HT_.out (by kernel_rfl)) (fun _ _ _ h => h) (Or.inl ⟨by rfl, ?_⟩) ?_ ?_
            rotate_left
            ·exact tW
            rotate_left
            ·exact tP
            refine pure_ (i := 3) (N := some 47) (v := ?_) (a' := ?_) #[true, true, true, true, false, false, false, false, false, false, false, false, false, false, false, false, false, false, false, false, false, false, false, false, false] rfl rfl (any_of HT_.out (by kernel_rfl)) (fun _ _ _ h => h) (Or.inl ⟨by rfl, ?_⟩) ?_ ?_
            rotate_left
            ·exact tW
            rotate_left
            ·exact tP
            refine pure_ (i := 5) (N := some 49) (v := ?_) (a' := ?_) #[true, true, true, true, false, true, false, false, false, false, false, false, false, false, false, false, false, false, false, false, false, false, false, false, false] rfl rfl (any_of HT_.out (by kernel_rfl)) (fun _ _ _ h => h) (Or.inl ⟨by rfl, ?_⟩) ?_ ?_
            rotate_left
            ·exact tW
            rotate_left
            ·exact tP
            refine pure_ (i := 6) (N := some 50) (v := ?_) (a' := ?_) #[true, true, true, true, false, true, true, false, false, false, false, false, false, false, false, false, false, false, false, false, false, false, false, false, false] rfl rfl (any_of HT_.out (by kernel_rfl)) (fun _ _ _ h => h) (Or.inl ⟨by rfl, ?_⟩) ?_ ?_
            rotate_left
            ·exact tW
            rotate_left
            ·exact tP
            refine pure_ (i := 7) (N := some 51) (v := ?_) (a' := ?_) #[true, true, true, true, false, true, true, true, false, false, false, false, false, false, false, false, false, false, false, false, false, false, false, false, false] rfl rfl (any_of HT_.out (by kernel_rfl)) (fun _ _ _ h => h) (Or.inl ⟨by rfl, ?_⟩) ?_ ?_
            rotate_left
            ·exact tW
            rotate_left
            ·exact tP
            refine pure_ (i := 8) (N := some 52) (v := ?_) (a' := ?_) #[true, true, true, true, false, true, true, true, true, false, false, false, false, false, false, false, false, false, false, false, false, false, false, false, false] rfl rfl (any_of HT_.out (by kernel_rfl)) (fun _ _ _ h => h) (Or.inl ⟨by rfl, ?_⟩) ?_ ?_
            rotate_left
            ·exact tW
            rotate_left
            ·exact tP
            refine take_ (i := 4) (N := some 48) (v := ?_) (a' := ?_) #[true, true, true, true, true, true, true, true, true, false, false, false, false, false, false, false, false, false, false, false, false, false, false, false, false] rfl rfl (take_ofW HT_.out HW_.out (by kernel_rfl)) (fun _ _ _ h => h) (Or.inl ⟨by rfl, ?_⟩) hHeld ?_ ?_
            rotate_left
            ·rintro w' ⟨s0, s1, s2, s3, s4, s5, s6, s7⟩
             go_simp
             with_reducible rfl
            rotate_left
            ·exact tP
            refine take_ (i := 9) (N := some 53) (v := ?_) (a' := ?_) #[true, true, true, true, true, true, true, true, true, true, false, false, false, false, false, false, false, false, false, false, false, false, false, false, false] rfl rfl (take_ofW HT_.out HW_.out (by kernel_rfl)) (fun _ _ _ h => h) (Or.inl ⟨by rfl, ?_⟩) hHeld ?_ ?_
            rotate_left
            ·rintro w' ⟨s0, s1, s2, s3, s4, s5, s6, s7⟩
             go_simp
             with_reducible rfl
            rotate_left
            ·exact tP
            refine pure_ (i := 10) (N := some 54) (v := ?_) (a' := ?_) #[true, true, true, true, true, true, true, true, true, true, true, false, false, false, false, false, false, false, false, false, false, false, false, false, false] rfl rfl (any_of HT_.out (by kernel_rfl)) (fun _ _ _ h => h) (Or.inl ⟨by rfl, ?_⟩) ?_ ?_
            rotate_left
            ·exact tW
            rotate_left
            ·exact tP
            refine pure_ (i := 11) (N := some 55) (v := ?_) (a' := ?_) #[true, true, true, true, true, true, true, true, true, true, true, true, false, false, false, false, false, false, false, false, false, false, false, false, false] rfl rfl (any_of HT_.out (by kernel_rfl)) (fun _ _ _ h => h) (Or.inl ⟨by rfl, ?_⟩) ?_ ?_
            rotate_left
            ·exact tW
            rotate_left
            ·exact tP
            refine pure_ (i := 12) (N := some 56) (v := ?_) (a' := ?_) #[true, true, true, true, true, true, true, true, true, true, true, true, true, false, false, false, false, false, false, false, false, false, false, false, false] rfl rfl (any_of HT_.out (by kernel_rfl)) (fun _ _ _ h => h) (Or.inl ⟨by rfl, ?_⟩) ?_ ?_
            rotate_left
            ·exact tW
            rotate_left
            ·exact tP
            refine pure_ (i := 13) (N := some 57) (v := ?_) (a' := ?_) #[true, true, true, true, true, true, true, true, true, true, true, true, true, true, false, false, false, false, false, false, false, false, false, false, false] rfl rfl (any_of HT_.out (by kernel_rfl)) (fun _ _ _ h => h) (Or.inl ⟨by rfl, ?_⟩) ?_ ?_
            rotate_left
            ·exact tW
            rotate_left
            ·exact tP
            refine pure_ (i := 14) (N := some 58) (v := ?_) (a' := ?_) #[true, true, true, true, true, true, true, true, true, true, true, true, true, true, true, false, false, false, false, false, false, false, false, false, false] rfl rfl (any_of HT_.out (by kernel_rfl)) (fun _ _ _ h => h) (Or.inl ⟨by rfl, ?_⟩) ?_ ?_
            rotate_left
            ·exact tW
            rotate_left
            ·exact tP
            refine pure_ (i := 15) (N := some 59) (v := ?_) (a' := ?_) #[true, true, true, true, true, true, true, true, true, true, true, true, true, true, true, true, false, false, false, false, false, false, false, false, false] rfl rfl (any_of HT_.out (by kernel_rfl)) (fun _ _ _ h => h) (Or.inl ⟨by rfl, ?_⟩) ?_ ?_
            rotate_left
            ·exact tW
            rotate_left
            ·exact tP
            refine pure_ (i := 17) (N := some 61) (v := ?_) (a' := ?_) #[true, true, true, true, true, true, true, true, true, true, true, true, true, true, true, true, false, true, false, false, false, false, false, false, false] rfl rfl (any_of HT_.out (by kernel_rfl)) (fun _ _ _ h => h) (Or.inl ⟨by rfl, ?_⟩) ?_ ?_
            rotate_left
            ·exact tW
            rotate_left
            ·exact tP
            refine pure_ (i := 18) (N := some 62) (v := ?_) (a' := ?_) #[true, true, true, true, true, true, true, true, true, true, true, true, true, true, true, true, false, true, true, false, false, false, false, false, false] rfl rfl (any_of HT_.out (by kernel_rfl)) (fun _ _ _ h => h) (Or.inl ⟨by rfl, ?_⟩) ?_ ?_
            rotate_left
            ·exact tW
            rotate_left
            ·exact tP
            refine pure_ (i := 19) (N := some 63) (v := ?_) (a' := ?_) #[true, true, true, true, true, true, true, true, true, true, true, true, true, true, true, true, false, true, true, true, false, false, false, false, false] rfl rfl (any_of HT_.out (by kernel_rfl)) (fun _ _ _ h => h) (Or.inl ⟨by rfl, ?_⟩) ?_ ?_
            rotate_left
            ·exact tW
            rotate_left
            ·exact tP
            refine pure_ (i := 20) (N := some 64) (v := ?_) (a' := ?_) #[true, true, true, true, true, true, true, true, true, true, true, true, true, true, true, true, false, true, true, true, true, false, false, false, false] rfl rfl (any_of HT_.out (by kernel_rfl)) (fun _ _ _ h => h) (Or.inl ⟨by rfl, ?_⟩) ?_ ?_
            rotate_left
            ·exact tW
            rotate_left
            ·exact tP
            refine take_ (i := 16) (N := some 60) (v := ?_) (a' := ?_) #[true, true, true, true, true, true, true, true, true, true, true, true, true, true, true, true, true, true, true, true, true, false, false, false, false] rfl rfl (take_ofW HT_.out HW_.out (by kernel_rfl)) (fun _ _ _ h => h) (Or.inl ⟨by rfl, ?_⟩) hHeld ?_ ?_
            rotate_left
            ·rintro w' ⟨s0, s1, s2, s3, s4, s5, s6, s7⟩
             go_simp
             with_reducible rfl
            rotate_left
            ·exact tP
            refine take_ (i := 21) (N := some 65) (v := ?_) (a' := ?_) #[true, true, true, true, true, true, true, true, true, true, true, true, true, true, true, true, true, true, true, true, true, true, false, false, false] rfl rfl (take_ofW HT_.out HW_.out (by kernel_rfl)) (fun _ _ _ h => h) (Or.inl ⟨by rfl, ?_⟩) hHeld ?_ ?_
            rotate_left
            ·rintro w' ⟨s0, s1, s2, s3, s4, s5, s6, s7⟩
             go_simp
             with_reducible rfl
            rotate_left
            ·exact tP
            refine one_ (i := 22) (N := some 66) #[true, true, true, true, true, true, true, true, true, true, true, true, true, true, true, true, true, true, true, true, true, true, true, false, false] rfl rfl (one_of HT_.out (by kernel_rfl)) (by decide) (fun K hK => ?_)
            refine goes_ Try.func28 (by kernel_rfl) rfl #[.slice A437_0 ((rd_T51 t427 x7_2).f0).length c437_0, .slice A438_0 ((rd_T51 t431 x7_2).f0).length c438_0] (by rfl) rfl rfl tM ?_
            with_reducible refine (lw_SameInts.calls k2 _ _ ((rd_T51 t427 x7_2).f0) _ _ ((rd_T51 t431 x7_2).f0) false _ ?side1 ?side2 ?side3 ?side4 A39.out).mono ?_
            (case side1 => exact cS (by repeat (first | (with_reducible exact HR439_0.out) | (with_reducible refine Kd.C_alloc ?_ _) | (with_reducible refine Kd.C_drewN ?_ _) | (with_reducible refine Kd.C_drew ?_) | exact HR439_0.out)))
            (case side2 => exact HC439_0.out)
            (case side3 => exact cS (by repeat (first | (with_reducible exact HR440_0.out) | (with_reducible refine Kd.C_alloc ?_ _) | (with_reducible refine Kd.C_drewN ?_ _) | (with_reducible refine Kd.C_drew ?_) | exact HR440_0.out)))
            (case side4 => exact HC440_0.out)
            rintro e w' ⟨rfl, ⟨nd, rfl⟩⟩
            refine ⟨_, rfl, ?_⟩
            refine hK.out _ _ ⟨hHeld.1, hHeld.2.1, hHeld.2.2.1, hHeld.2.2.2.1, hHeld.2.2.2.2.1, hHeld.2.2.2.2.2.1, hHeld.2.2.2.2.2.2.1, hHeld.2.2.2.2.2.2.2⟩ (fun hHeld => ?_)
            clear hK K
            refine norm_ (a' := ?_) ?_ ?_
            rotate_left
            ·show Act.put _ (some 66) _ = _
             exact tP
            refine pure_ (i := 23) (N := some 67) (v := ?_) (a' := ?_) #[true, true, true, true, true, true, true, true, true, true, true, true, true, true, true, true, true, true, true, true, true, true, true, true, false] rfl rfl (any_of HT_.out (by kernel_rfl)) (fun _ _ _ h => h) (Or.inl ⟨by rfl, ?_⟩) ?_ ?_
            rotate_left
            ·exact tW
            rotate_left
            ·exact tP
            refine pure_ (i := 24) (N := some 68) (v := ?_) (a' := ?_) #[true, true, true, true, true, true, true, true, true, true, true, true, true, true, true, true, true, true, true, true, true, true, true, true, true] rfl rfl (any_of HT_.out (by kernel_rfl)) (fun _ _ _ h => h) (Or.inl ⟨by rfl, ?_⟩) ?_ ?_
            rotate_left
            ·exact tW
            rotate_left
            ·exact tP
            refine done_ (done_of HT_.out (by kernel_rfl)) ?_
            try go_wp2
            go_ret
            exact ⟨tE, bBl HB.out⟩
          ·rw [if_neg c38] at H
           have c38b0 : (((rd_T51 t427 x7_2).f1) == ((rd_T51 t431 x7_2).f1)) = false := beq_eq_false_iff_ne.mpr c38
           have c38b1 : (((rd_T51 t427 x7_2).f1) != ((rd_T51 t431 x7_2).f1)) = true := bne_iff_ne.mpr c38
           obtain rfl := Option.some.inj H; obtain ⟨Ao47, co47, eo47⟩ := Kd.R_slice HO_5.out; subst eo47
           try go_wp2
           replace HO_3 := Sd.mk (Kd.R_drew HO_3.out); replace HO_5 := Sd.mk (Kd.R_drew HO_5.out); replace BK424 := Sd.mk (blk_drew BK424.out); replace HB := Sd.mk (below_drew1 HB.out); obtain ⟨Ao49, co49, eo49⟩ := Kd.R_slice HO_3.out
           (first | subst eo49 | (injection eo49 with f1_ f2_ f3_; have f4_ := f1_.symm; have f5_ := f3_.symm; clear f1_ f2_ f3_; subst f4_; subst f5_))
           have p437 : 0 ≤ (x7_2 : Int) := tB
           have q437 : x7_2 < (t427.length : Int) := tB
           obtain ⟨ad437, A437_0, c437_0, e437, hx437_0, hx437_1, hl437_0, hi437_0⟩ := at_T51 (Kd.R_reads' HO_3.out).2.2 x7_2 p437 q437; cases e437
           obtain ⟨ce437, hce437, hMe437, hcc437⟩ := Kd.R_get HO_3.out z51 x7_2 p437 (by first | exact q437 | exact tB | (have e_ := (Kd.R_reads' HO_3.out).1; omega))
           obtain ⟨ve437_0, rfl, ge437_0⟩ := k51_openM hMe437; have hv437_0 := hcc437 0 _ rfl
           rw [Nat.add_zero] at hv437_0
           replace hv437_0 := Option.some.inj (hv437_0.symm.trans hx437_0)
           rw [hv437_0] at ge437_0
           have HL437_0 := Sd.mk (show Kd.R (Kd.int .i64) 3 _ _ _ _ ((rd_T51 t427 x7_2).f0) from ge437_0)
           clear hv437_0 ge437_0; clear hcc437 hce437; have HR437_0 := Sd.mk hi437_0; have HC437_0 := Sd.mk hl437_0; clear hi437_0 hl437_0; replace p437 := eq_true p437; replace q437 := eq_true q437
           have p438 : 0 ≤ (x7_2 : Int) := tB
           have q438 : x7_2 < (t431.length : Int) := tB
           obtain ⟨ad438, A438_0, c438_0, e438, hx438_0, hx438_1, hl438_0, hi438_0⟩ := at_T51 (Kd.R_reads' HO_5.out).2.2 x7_2 p438 q438; cases e438
           obtain ⟨ce438, hce438, hMe438, hcc438⟩ := Kd.R_get HO_5.out z51 x7_2 p438 (by first | exact q438 | exact tB | (have e_ := (Kd.R_reads' HO_5.out).1; omega))
           obtain ⟨ve438_0, rfl, ge438_0⟩ := k51_openM hMe438; have hv438_0 := hcc438 0 _ rfl
           rw [Nat.add_zero] at hv438_0
           replace hv438_0 := Option.some.inj (hv438_0.symm.trans hx438_0)
           rw [hv438_0] at ge438_0
           have HL438_0 := Sd.mk (show Kd.R (Kd.int .i64) 3 _ _ _ _ ((rd_T51 t431 x7_2).f0) from ge438_0)
           clear hv438_0 ge438_0; clear hcc438 hce438; have HR438_0 := Sd.mk hi438_0; have HC438_0 := Sd.mk hl438_0; clear hi438_0 hl438_0; replace p438 := eq_true p438; replace q438 := eq_true q438
           refine start_ (n := 25) (S := fun w' => w'.cell? (ad437.add ((x7_2).toNat * 2)) = some (.slice A437_0 ((rd_T51 t427 x7_2).f0).length c437_0) ∧ w'.cell? ⟨(ad437.add ((x7_2).toNat * 2)).block, (ad437.add ((x7_2).toNat * 2)).off + 1, none⟩ = some (.int .i64 ((rd_T51 t427 x7_2).f1)) ∧ w'.cell? (ad438.add ((x7_2).toNat * 2)) = some (.slice A438_0 ((rd_T51 t431 x7_2).f0).length c438_0) ∧ w'.cell? ⟨(ad438.add ((x7_2).toNat * 2)).block, (ad438.add ((x7_2).toNat * 2)).off + 1, none⟩ = some (.int .i64 ((rd_T51 t431 x7_2).f1))) (ds := []) #[false, false, false, false, false, false, false, false, false, false, false, false, false, false, false, false, false, false, false, false, false, false, false, false, false] (by kernel_rfl) rfl rfl ⟨hx437_0, hx437_1, hx438_0, hx438_1⟩ (fun hHeld => ?_); refine with_tabW lw_BatchChecks.tab10 lw_BatchChecks.bits10 (fun HT_ HW_ => ?_)
           generalize wr.drew = w48 at HO_3 HO_5 BK424 HB HL437_0 HL438_0 HR437_0 HR438_0 hx437_0 hx437_1 hx438_0 hx438_1 hHeld ⊢
           refine pure_ (i := 0) (N := some 44) (v := ?_) (a' := ?_) #[true, false, false, false, false, false, false, false, false, false, false, false, false, false, false, false, false, false, false, false, false, false, false, false, false] rfl rfl (any_of HT_.out (by kernel_rfl)) (fun _ _ _ h => h) (Or.inl ⟨by rfl, ?_⟩) ?_ ?_
           rotate_left
           ·exact tW
           rotate_left
           ·exact tP
           refine pure_ (i := 1) (N := some 45) (v := ?_) (a' := ?_) #[true, true, false, false, false, false, false, false, false, false, false, false, false, false, false, false, false, false, false, false, false, false, false, false, false] rfl rfl (any_of HT_.out (by kernel_rfl)) (fun _ _ _ h => h) (Or.inl ⟨by rfl, ?_⟩) ?_ ?_
           rotate_left
           ·exact tW
           rotate_left
           ·exact tP
           refine pure_ (i := 2) (N := some 46) (v := ?_) (a' := ?_) #[true, true, true, false, false, false, false, false, false, false, false, false, false, false, false, false, false, false, false, false, false, false, false, false, false] rfl rfl (any_of HT_.out (by kernel_rfl)) (fun _ _ _ h => h) (Or.inl ⟨by rfl, ?_⟩) ?_ ?_
           rotate_left
           ·exact tW
           rotate_left
           ·exact tP
           refine pure_ (i := 3) (N := some 47) (v := ?_) (a' := ?_) #[true, true, true, true, false, false, false, false, false, false, false, false, false, false, false, false, false, false, false, false, false, false, false, false, false] rfl rfl (any_of HT_.out (by kernel_rfl)) (fun _ _ _ h => h) (Or.inl ⟨by rfl, ?_⟩) ?_ ?_
           rotate_left
           ·exact tW
           rotate_left
           ·exact tP
           refine pure_ (i := 5) (N := some 49) (v := ?_) (a' := ?_) #[true, true, true, true, false, true, false, false, false, false, false, false, false, false, false, false, false, false, false, false, false, false, false, false, false] rfl rfl (any_of HT_.out (by kernel_rfl)) (fun _ _ _ h => h) (Or.inl ⟨by rfl, ?_⟩) ?_ ?_
           rotate_left
           ·exact tW
           rotate_left
           ·exact tP
           refine pure_ (i := 6) (N := some 50) (v := ?_) (a' := ?_) #[true, true, true, true, false, true, true, false, false, false, false, false, false, false, false, false, false, false, false, false, false, false, false, false, false] rfl rfl (any_of HT_.out (by kernel_rfl)) (fun _ _ _ h => h) (Or.inl ⟨by rfl, ?_⟩) ?_ ?_
           rotate_left
           ·exact tW
           rotate_left
           ·exact tP
           refine pure_ (i := 7) (N := some 51) (v := ?_) (a' := ?_) #[true, true, true, true, false, true, true, true, false, false, false, false, false, false, false, false, false, false, false, false, false, false, false, false, false] rfl rfl (any_of HT_.out (by kernel_rfl)) (fun _ _ _ h => h) (Or.inl ⟨by rfl, ?_⟩) ?_ ?_
           rotate_left
           ·exact tW
           rotate_left
           ·exact tP
           refine pure_ (i := 8) (N := some 52) (v := ?_) (a' := ?_) #[true, true, true, true, false, true, true, true, true, false, false, false, false, false, false, false, false, false, false, false, false, false, false, false, false] rfl rfl (any_of HT_.out (by kernel_rfl)) (fun _ _ _ h => h) (Or.inl ⟨by rfl, ?_⟩) ?_ ?_
           rotate_left
           ·exact tW
           rotate_left
           ·exact tP
           refine take_ (i := 4) (N := some 48) (v := ?_) (a' := ?_) #[true, true, true, true, true, true, true, true, true, false, false, false, false, false, false, false, false, false, false, false, false, false, false, false, false] rfl rfl (take_ofW HT_.out HW_.out (by kernel_rfl)) (fun _ _ _ h => h) (Or.inl ⟨by rfl, ?_⟩) hHeld ?_ ?_
           rotate_left
           ·rintro w' ⟨s0, s1, s2, s3⟩
            go_simp
            with_reducible rfl
           rotate_left
           ·exact tP
           refine take_ (i := 9) (N := some 53) (v := ?_) (a' := ?_) #[true, true, true, true, true, true, true, true, true, true, false, false, false, false, false, false, false, false, false, false, false, false, false, false, false] rfl rfl (take_ofW HT_.out HW_.out (by kernel_rfl)) (fun _ _ _ h => h) (Or.inl ⟨by rfl, ?_⟩) hHeld ?_ ?_
           rotate_left
           ·rintro w' ⟨s0, s1, s2, s3⟩
            go_simp
            with_reducible rfl
           rotate_left
           ·exact tP
           refine pure_ (i := 10) (N := some 54) (v := ?_) (a' := ?_) #[true, true, true, true, true, true, true, true, true, true, true, false, false, false, false, false, false, false, false, false, false, false, false, false, false] rfl rfl (any_of HT_.out (by kernel_rfl)) (fun _ _ _ h => h) (Or.inl ⟨by rfl, ?_⟩) ?_ ?_
           rotate_left
           ·exact tW
           rotate_left
           ·exact tP
           refine pure_ (i := 11) (N := some 55) (v := ?_) (a' := ?_) #[true, true, true, true, true, true, true, true, true, true, true, true, false, false, false, false, false, false, false, false, false, false, false, false, false] rfl rfl (any_of HT_.out (by kernel_rfl)) (fun _ _ _ h => h) (Or.inl ⟨by rfl, ?_⟩) ?_ ?_
           rotate_left
           ·exact tW
           rotate_left
           ·exact tP
           refine pure_ (i := 12) (N := some 56) (v := undef) (a' := ?_) #[true, true, true, true, true, true, true, true, true, true, true, true, true, false, false, false, false, false, false, false, false, false, false, false, false] rfl rfl (any_of HT_.out (by kernel_rfl)) (fun _ _ _ h => h) (Or.inr ⟨by rfl, rfl⟩) ?_ ?_
           rotate_left
           ·exact tP
           refine pure_ (i := 13) (N := some 57) (v := undef) (a' := ?_) #[true, true, true, true, true, true, true, true, true, true, true, true, true, true, false, false, false, false, false, false, false, false, false, false, false] rfl rfl (any_of HT_.out (by kernel_rfl)) (fun _ _ _ h => h) (Or.inr ⟨by rfl, rfl⟩) ?_ ?_
           rotate_left
           ·exact tP
           refine pure_ (i := 14) (N := some 58) (v := undef) (a' := ?_) #[true, true, true, true, true, true, true, true, true, true, true, true, true, true, true, false, false, false, false, false, false, false, false, false, false] rfl rfl (any_of HT_.out (by kernel_rfl)) (fun _ _ _ h => h) (Or.inr ⟨by rfl, rfl⟩) ?_ ?_
           rotate_left
           ·exact tP
           refine pure_ (i := 15) (N := some 59) (v := undef) (a' := ?_) #[true, true, true, true, true, true, true, true, true, true, true, true, true, true, true, true, false, false, false, false, false, false, false, false, false] rfl rfl (any_of HT_.out (by kernel_rfl)) (fun _ _ _ h => h) (Or.inr ⟨by rfl, rfl⟩) ?_ ?_
           rotate_left
           ·exact tP
           refine pure_ (i := 16) (N := some 60) (v := undef) (a' := ?_) #[true, true, true, true, true, true, true, true, true, true, true, true, true, true, true, true, true, false, false, false, false, false, false, false, false] rfl rfl (any_of HT_.out (by kernel_rfl)) (fun _ _ _ h => h) (Or.inr ⟨by rfl, rfl⟩) ?_ ?_
           rotate_left
           ·exact tP
           refine pure_ (i := 17) (N := some 61) (v := undef) (a' := ?_) #[true, true, true, true, true, true, true, true, true, true, true, true, true, true, true, true, true, true, false, false, false, false, false, false, false] rfl rfl (any_of HT_.out (by kernel_rfl)) (fun _ _ _ h => h) (Or.inr ⟨by rfl, rfl⟩) ?_ ?_
           rotate_left
           ·exact tP
           refine pure_ (i := 18) (N := some 62) (v := undef) (a' := ?_) #[true, true, true, true, true, true, true, true, true, true, true, true, true, true, true, true, true, true, true, false, false, false, false, false, false] rfl rfl (any_of HT_.out (by kernel_rfl)) (fun _ _ _ h => h) (Or.inr ⟨by rfl, rfl⟩) ?_ ?_
           rotate_left
           ·exact tP
           refine pure_ (i := 19) (N := some 63) (v := undef) (a' := ?_) #[true, true, true, true, true, true, true, true, true, true, true, true, true, true, true, true, true, true, true, true, false, false, false, false, false] rfl rfl (any_of HT_.out (by kernel_rfl)) (fun _ _ _ h => h) (Or.inr ⟨by rfl, rfl⟩) ?_ ?_
           rotate_left
           ·exact tP
           refine pure_ (i := 20) (N := some 64) (v := undef) (a' := ?_) #[true, true, true, true, true, true, true, true, true, true, true, true, true, true, true, true, true, true, true, true, true, false, false, false, false] rfl rfl (any_of HT_.out (by kernel_rfl)) (fun _ _ _ h => h) (Or.inr ⟨by rfl, rfl⟩) ?_ ?_
           rotate_left
           ·exact tP
           refine pure_ (i := 21) (N := some 65) (v := undef) (a' := ?_) #[true, true, true, true, true, true, true, true, true, true, true, true, true, true, true, true, true, true, true, true, true, true, false, false, false] rfl rfl (any_of HT_.out (by kernel_rfl)) (fun _ _ _ h => h) (Or.inr ⟨by rfl, rfl⟩) ?_ ?_
           rotate_left
           ·exact tP
           refine pure_ (i := 22) (N := some 66) (v := undef) (a' := ?_) #[true, true, true, true, true, true, true, true, true, true, true, true, true, true, true, true, true, true, true, true, true, true, true, false, false] rfl rfl (any_of HT_.out (by kernel_rfl)) (fun _ _ _ h => h) (Or.inr ⟨by rfl, rfl⟩) ?_ ?_
           rotate_left
           ·exact tP
           refine pure_ (i := 23) (N := some 67) (v := undef) (a' := ?_) #[true, true, true, true, true, true, true, true, true, true, true, true, true, true, true, true, true, true, true, true, true, true, true, true, false] rfl rfl (any_of HT_.out (by kernel_rfl)) (fun _ _ _ h => h) (Or.inr ⟨by rfl, rfl⟩) ?_ ?_
           rotate_left
           ·exact tP
           refine pure_ (i := 24) (N := some 68) (v := ?_) (a' := ?_) #[true, true, true, true, true, true, true, true, true, true, true, true, true, true, true, true, true, true, true, true, true, true, true, true, true] rfl rfl (any_of HT_.out (by kernel_rfl)) (fun _ _ _ h => h) (Or.inl ⟨by rfl, ?_⟩) ?_ ?_
           rotate_left
           ·exact tW
           rotate_left
           ·exact tP
           refine done_ (done_of HT_.out (by kernel_rfl)) ?_
           try go_wp2
           go_ret
           exact ⟨tE, bBl HB.out⟩
         ·rw [if_neg c37] at H
          exact absurd H (by simp)
        ·rw [if_neg c36] at H
         exact absurd H (by simp)
       ·rw [if_neg c35] at H
        have c35b0 : decide (x7_2 < (t431.length : Int)) = false := decide_eq_false c35
        clear c35; replace H := Option.bind_eq_some_iff.mp H; obtain ⟨t442, A500, H⟩ := H
        try dsimp only at H
        have A50 := Sd.mk A500; clear A500; obtain rfl := Option.some.inj H; obtain ⟨Ao51, co51, eo51⟩ := Kd.R_slice HO_5.out; subst eo51
        go_wp2_with (first | ((with_reducible refine gate_callee (f := 14) rfl ?_); refine goesL_ (some 69) rfl rfl Try.func14 (by kernel_rfl) rfl #[] rfl tM ?_; (with_reducible refine (lw_lives.calls k2  t442 _ A50.out).mono ?_); rintro e w52 ⟨rfl, hb⟩; refine ⟨_, rfl, ?_⟩; replace HO_3 := Sd.mk (Kd.R_below (by (with_reducible repeat (first | apply Kd.R_alloc | apply Kd.R_drewN | apply Kd.R_drew)); exact HO_3.out) hb); replace HO_5 := Sd.mk (Kd.R_below (by (with_reducible repeat (first | apply Kd.R_alloc | apply Kd.R_drewN | apply Kd.R_drew)); exact HO_5.out) hb); replace BK424 := Sd.mk (blk_below (bkA BK424.out) hb); replace HB := Sd.mk (below_step (bBl HB.out) hb); (try clear hb); (try clear hb2); (try clear hk); (try clear hi)))
        go_ret
        exact ⟨tE, bBl HB.out⟩
end Go.Proofs.Ytkjkokgbhepmoaa.PB

namespace Go.Proofs.Ytkjkokgbhepmoaa.PB
open Go.RowKit Go.Proofs.YtkjkokgbhepmoaaW.PrintWords Go.Proofs.YtkjkokgbhepmoaaW.PrintLast Go.Proofs.YtkjkokgbhepmoaaW.PrintMore
theorem ints_l0 (l : List Int) (hl : l.length ≤ 1000) : ∀ (m i : Nat), i + m = l.length → Ev (fun k => lw_SameInts.l0 k l l (i : Int)) true
  | 0, i, hi => by
    apply Ev.step
    simp only [lw_SameInts.l0, if_neg (show ¬ (i : Int) < (l.length : Int) by omega)]
    exact Ev.const _
  | m + 1, i, hi => by
    have ih := ints_l0 l hl m (i + 1) (by omega)
    apply Ev.step
    simp only [lw_SameInts.l0, if_pos (show (i : Int) < (l.length : Int) by omega), if_pos (i_pos i), wrap_succ (i_pos i) (show (i : Int) ≤ 1000000000 by omega), if_true]
    exact ih
theorem ints_refl (l : List Int) (hl : l.length ≤ 1000) : Ev (fun k => lw_SameInts.f k l l) true := by
  unfold lw_SameInts.f
  simp only [if_true]
  exact ints_l0 l hl l.length 0 (by omega)
theorem checks_l0 (l : List S51) (hl : l.length ≤ 1000) (hf : ∀ x ∈ l, x.f0.length ≤ 1000) : ∀ (m i : Nat), i + m = l.length → Ev (fun k => lw_BatchChecks.l0 k l l (i : Int)) true
  | 0, i, hi => by
    apply Ev.step
    simp only [lw_BatchChecks.l0, if_neg (show ¬ (i : Int) < (l.length : Int) by omega)]
    exact Ev.bind lives_ev (Ev.const _)
  | m + 1, i, hi => by
    have ih := checks_l0 l hl hf m (i + 1) (by omega)
    have hi' : i < l.length := by omega
    have hx : (rd_T51 l (i : Int)).f0.length ≤ 1000 := by
      have h : rd_T51 l (i : Int) = l[i] := by simp [rd_T51, List.getD, hi']
      rw [h]
      exact hf _ (List.getElem_mem hi')
    apply Ev.step
    simp only [lw_BatchChecks.l0, if_pos (show (i : Int) < (l.length : Int) by omega), if_pos (i_pos i), wrap_succ (i_pos i) (show (i : Int) ≤ 1000000000 by omega), if_true]
    refine Ev.bind (ints_refl _ hx) ?_
    simp only [if_true]
    exact ih
section
variable {o : List ByteArray} {mt : List S63} {s : List S27} {p : List S65} {a4 a5 a6 : Int}
theorem headL_row : ∀ (n : Nat), ∀ x ∈ headL mt s p a6 n, x.f0.length = mt.length
  | 0, x, hx => by
    simp only [headL, List.mem_singleton] at hx
    subst hx; simp
  | n + 1, x, hx => by
    simp only [headL, List.mem_append, pairL, List.mem_cons, List.not_mem_nil, or_false] at hx
    rcases hx with h | h | h
    · exact headL_row n x h
    · subst h; simp
    · subst h; simp
theorem linesV_row (x : S51) (hx : x ∈ linesV mt s p a4 a5 a6) : x.f0.length = mt.length := by
  simp only [linesV, List.mem_append, List.mem_cons, List.not_mem_nil, or_false] at hx
  rcases hx with h | h | h
  · exact headL_row _ x h
  · subst h; simp
  · subst h; simp
theorem linesV_len : (linesV mt s p a4 a5 a6).length = 1 + 2 * (s.length + p.length) + 2 := by
  simp [linesV, headL_len]
end
section
variable (o : List ByteArray) (mt : List S63) (s : List S27) (p : List S65) (a4 a5 a6 : Int)
def LinesR : List S51 × Int := if checkV o mt s p a4 a5 a6 = 0 then (linesV mt s p a4 a5 a6, 0) else ([], checkV o mt s p a4 a5 a6)
theorem bLines : Ev (fun k => batch_Lines.f k o mt s p a4 a5 a6) (LinesR o mt s p a4 a5 a6) := by
  unfold batch_Lines.f LinesR
  refine Ev.bind (bcheck o mt s p a4 a5 a6) ?_
  by_cases h : checkV o mt s p a4 a5 a6 = 0
  · simp only [if_pos h, x_lines.f, Option.bind_some]; exact Ev.const _
  · simp only [if_neg h]; exact Ev.const _
theorem rLines : Ev (fun k => rf_Lines.f k o mt s p a4 a5 a6) (LinesR o mt s p a4 a5 a6) := by
  unfold rf_Lines.f LinesR
  refine Ev.bind (rcheck o mt s p a4 a5 a6) ?_
  by_cases h : checkV o mt s p a4 a5 a6 = 0
  · simp only [if_pos h, x_AllLines.f, Option.bind_some]; exact Ev.const _
  · simp only [if_neg h]; exact Ev.const _
theorem LinesR_ok : (LinesR o mt s p a4 a5 a6).1.length ≤ 1000 ∧ ∀ x ∈ (LinesR o mt s p a4 a5 a6).1, x.f0.length ≤ 1000 := by
  unfold LinesR
  by_cases h : checkV o mt s p a4 a5 a6 = 0
  · have H := check_ok h
    have h1 := H.slen; have h2 := H.o12; have h3 := H.p6; have h4 := H.m12
    simp only [if_pos h]
    exact ⟨by rw [linesV_len]; omega, fun x hx => by rw [linesV_row x hx]; omega⟩
  · simp only [if_neg h]
    exact ⟨by simp, fun x hx => by simp at hx⟩
theorem BatchChecks_true : ∃ k, lw_BatchChecks.f k o mt s p a4 a5 a6 = some true := by
  obtain ⟨b, hb⟩ := great o mt s p a4 a5 a6
  have h : Ev (fun k => lw_BatchChecks.f k o mt s p a4 a5 a6) true := by
    unfold lw_BatchChecks.f
    refine Ev.bind hb ?_
    cases b with
    | true => simp only [if_true]; exact Ev.bind lives_ev (Ev.const _)
    | false =>
      simp only [Bool.false_eq_true, if_false]
      refine Ev.bind (bLines o mt s p a4 a5 a6) (Ev.bind (rLines o mt s p a4 a5 a6) (Ev.bind (bcheck o mt s p a4 a5 a6) (Ev.bind (rcheck o mt s p a4 a5 a6) ?_)))
      simp only [if_true, bne_self_eq_false]
      apply Ev.step
      simp only [lw_BatchChecks.j0, Bool.false_eq_true, if_false]
      exact checks_l0 _ (LinesR_ok o mt s p a4 a5 a6).1 (LinesR_ok o mt s p a4 a5 a6).2 (LinesR o mt s p a4 a5 a6).1.length 0 (by omega)
  obtain ⟨K, hK⟩ := h
  exact ⟨K, hK K (Nat.le_refl _)⟩
end
end Go.Proofs.Ytkjkokgbhepmoaa.PB

