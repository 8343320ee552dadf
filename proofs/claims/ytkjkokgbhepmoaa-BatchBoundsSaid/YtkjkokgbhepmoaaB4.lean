import Derived.Test.YtkjkokgbhepmoaaB3
import Derived.KernelRfl
set_option linter.unusedVariables false
set_option linter.unusedSimpArgs false
namespace Go.Proofs.Ytkjkokgbhepmoaa.PB
open Go.RowKit Go.Proofs.YtkjkokgbhepmoaaW.PrintWords Go.Proofs.YtkjkokgbhepmoaaW.PrintLast Go.Proofs.YtkjkokgbhepmoaaW.PrintMore
attribute [local go_sem] max2_int min2_int max_two min_two max_three min_three max_four min_four
mutual
def rf_Check.l0 : Nat → Int → List ByteArray → List (S63) → List (S27) → List (S65) → Int → Int → Int → Option (Int)
 | 0, _, _, _, _, _, _, _, _ => none
 | k + 1, x3, x247q0, x247q1, x247q2, x247q3, x247q4, x247q5, x247q6 => if x3 < (x247q0.length : Int) then (if 0 ≤ x3 then ((rf_Name.f k (rdOf ByteArray.empty x247q0 x3)).bind fun t248 => (if t248 = true then (if x3 ≤ (x247q0.length : Int) then ((rf_in.f k (x247q0.take (x3 : Int).toNat) (rdOf ByteArray.empty x247q0 x3)).bind fun t251 => (if t251 = true then (some 6) else (rf_Check.l0 k (wrap64 (x3 + 1)) x247q0 x247q1 x247q2 x247q3 x247q4 x247q5 x247q6))) else (none)) else (some 5))) else (none)) else (if (x247q1.length : Int) > 12 then (some 3) else (if (x247q1.length : Int) = 0 then (some 1) else (rf_Check.l1 k ([] : List ByteArray) 0 x247q0 x247q1 x247q2 x247q3 x247q4 x247q5 x247q6)))
def rf_Check.l1 : Nat → List ByteArray → Int → List ByteArray → List (S63) → List (S27) → List (S65) → Int → Int → Int → Option (Int)
 | 0, _, _, _, _, _, _, _, _, _ => none
 | k + 1, x4, x5, x247q0, x247q1, x247q2, x247q3, x247q4, x247q5, x247q6 => if x5 < (x247q1.length : Int) then (if 0 ≤ x5 then ((rf_Name.f k ((rd_T63 x247q1 x5).f0)).bind fun t253 => (if t253 = true then ((rf_in.f k x4 ((rd_T63 x247q1 x5).f0)).bind fun t255 => (if t255 = true then (some 6) else (if x4.length < 8796093022208 then ((rf_material.f k x247q0 x247q1 x247q2 x247q3 x247q4 x247q5 x247q6 ((rd_T63 x247q1 x5).f0) ((rd_T63 x247q1 x5).f1) ((rd_T63 x247q1 x5).f2) ((rd_T63 x247q1 x5).f3) ((rd_T63 x247q1 x5).f4) ((rd_T63 x247q1 x5).f5) ((rd_T63 x247q1 x5).f6)).bind fun t261 => (if t261 = 0 then (rf_Check.l1 k (x4 ++ [(rd_T63 x247q1 x5).f0]) (wrap64 (x5 + 1)) x247q0 x247q1 x247q2 x247q3 x247q4 x247q5 x247q6) else (some t261))) else (none)))) else (some 5))) else (none)) else (if (x247q2.length : Int) = (x247q0.length : Int) then (rf_Check.l2 k 0 x247q0 x247q1 x247q2 x247q3 x247q4 x247q5 x247q6) else (some 1))
def rf_Check.l2 : Nat → Int → List ByteArray → List (S63) → List (S27) → List (S65) → Int → Int → Int → Option (Int)
 | 0, _, _, _, _, _, _, _, _ => none
 | k + 1, x7, x247q0, x247q1, x247q2, x247q3, x247q4, x247q5, x247q6 => if x7 < (x247q2.length : Int) then (if 0 ≤ x7 then ((rf_within.f ((rd_T27 x247q2 x7).f0) ((rd_T27 x247q2 x7).f1) 0 1000).bind fun t263 => (if t263 = true then (rf_Check.l2 k (wrap64 (x7 + 1)) x247q0 x247q1 x247q2 x247q3 x247q4 x247q5 x247q6) else (some 1))) else (none)) else (if (x247q3.length : Int) > 6 then (some 3) else (rf_Check.l3 k ([] : List ByteArray) 0 x247q0 x247q1 x247q2 x247q3 x247q4 x247q5 x247q6))
def rf_Check.l3 : Nat → List ByteArray → Int → List ByteArray → List (S63) → List (S27) → List (S65) → Int → Int → Int → Option (Int)
 | 0, _, _, _, _, _, _, _, _, _ => none
 | k + 1, x4, x8, x247q0, x247q1, x247q2, x247q3, x247q4, x247q5, x247q6 => if x8 < (x247q3.length : Int) then (if 0 ≤ x8 then ((rf_Name.f k ((rd_T65 x247q3 x8).f0)).bind fun t266 => (if t266 = true then ((rf_in.f k x4 ((rd_T65 x247q3 x8).f0)).bind fun t268 => (if t268 = true then (some 6) else (if x4.length < 8796093022208 then ((rf_property.f k x247q0 x247q1 x247q2 x247q3 x247q4 x247q5 x247q6 ((rd_T65 x247q3 x8).f0) ((rd_T65 x247q3 x8).f1) ((rd_T65 x247q3 x8).f2.f0) ((rd_T65 x247q3 x8).f2.f1)).bind fun t274 => (if t274 = 0 then (rf_Check.l3 k (x4 ++ [(rd_T65 x247q3 x8).f0]) (wrap64 (x8 + 1)) x247q0 x247q1 x247q2 x247q3 x247q4 x247q5 x247q6) else (some t274))) else (none)))) else (some 5))) else (none)) else ((rf_within.f x247q4 x247q5 (-10000) 10000).bind fun t264 => (if t264 = true then (if x247q6 < 1 then (some 1) else (if x247q6 > 10000 then (some 1) else (some 0))) else (some 1)))
end
def rf_Check.f (k : Nat) (l0_0 : List ByteArray) (l0_1 : List (S63)) (l0_2 : List (S27)) (l0_3 : List (S65)) (a0_4 : Int) (a0_5 : Int) (a0_6 : Int) : Option (Int) := if (l0_0.length : Int) > 12 then (some 3) else (if (l0_0.length : Int) = 0 then (some 1) else (rf_Check.l0 k 0 l0_0 l0_1 l0_2 l0_3 a0_4 a0_5 a0_6))
def rf_Check.T10 : Bool × List (List Nat × List Nat) := (true, [([], []), ([0], [0]), ([], []), ([1, 2], [1, 2]), ([], []), ([4], [4]), ([], []), ([5, 6], [5, 6]), ([7], [7]), ([3, 8], [3, 8])])
def rf_Check.B10 : List Nat := [0, 1, 0, 7, 0, 16, 0, 112, 240, 511]
theorem rf_Check.tab10 : rtab .any (opsOf Try.f27 10) = rf_Check.T10 := by kernel_rfl
theorem rf_Check.bits10 : waitsOk rf_Check.T10.2 rf_Check.B10 = true := by kernel_rfl
def rf_Check.T25 : Bool × List (List Nat × List Nat) := (true, [([], []), ([], []), ([1], [1]), ([], []), ([2, 3], [2, 3]), ([4], [4]), ([0, 5], [0, 5]), ([6, 6, 0, 1, 2, 3, 4, 5, 6], [6])])
def rf_Check.B25 : List Nat := [0, 0, 2, 0, 14, 30, 63, 127]
theorem rf_Check.tab25 : rtab .any (opsOf Try.f27 25) = rf_Check.T25 := by kernel_rfl
theorem rf_Check.bits25 : waitsOk rf_Check.T25.2 rf_Check.B25 = true := by kernel_rfl
def rf_Check.T46 : Bool × List (List Nat × List Nat) := (true, [([], []), ([], []), ([1], [1]), ([], []), ([2, 3], [2, 3]), ([4], [4]), ([0, 5], [0, 5]), ([6, 6, 0, 1, 2, 3, 4, 5, 6], [6])])
def rf_Check.B46 : List Nat := [0, 0, 2, 0, 14, 30, 63, 127]
theorem rf_Check.tab46 : rtab .any (opsOf Try.f27 46) = rf_Check.T46 := by kernel_rfl
theorem rf_Check.bits46 : waitsOk rf_Check.T46.2 rf_Check.B46 = true := by kernel_rfl
set_option maxHeartbeats 8000000 in
set_option maxRecDepth 100000 in
theorem rf_Check.calls (k : Nat) (A0_0 : Option Addr) (c0_0 : Nat) (l0_0 : List ByteArray) (A0_1 : Option Addr) (c0_1 : Nat) (l0_1 : List (S63)) (A0_2 : Option Addr) (c0_2 : Nat) (l0_2 : List (S27)) (A0_3 : Option Addr) (c0_3 : Nat) (l0_3 : List (S65)) (a0_4 : Int) (a0_5 : Int) (a0_6 : Int) (r : Int) (w : World) (hr0_0 : Kd.C Kd.string w A0_0 l0_0.length l0_0) (hc0_0 : l0_0.length ≤ c0_0) (hr0_1 : Kd.C k63 w A0_1 l0_1.length l0_1) (hc0_1 : l0_1.length ≤ c0_1) (hr0_2 : Kd.C k27 w A0_2 l0_2.length l0_2) (hc0_2 : l0_2.length ≤ c0_2) (hr0_3 : Kd.C k65 w A0_3 l0_3.length l0_3) (hc0_3 : l0_3.length ≤ c0_3) (h : rf_Check.f k l0_0 l0_1 l0_2 l0_3 a0_4 a0_5 a0_6 = some r) :
  Calls Try.prog 27 #[.agg #[.slice A0_0 l0_0.length c0_0, .slice A0_1 l0_1.length c0_1, .slice A0_2 l0_2.length c0_2, .slice A0_3 l0_3.length c0_3, .int .i64 a0_4, .int .i64 a0_5, .int .i64 a0_6]] w fun e w' => e = .returned (.int .i64 r) ∧ Below w.heap.size w w' := by
 have hu29 := Try.underlying29; have hu63 := Try.underlying63; have hu27 := Try.underlying27; have hu65 := Try.underlying65; have HR0_0 := Sd.mk hr0_0; have HC0_0 := Sd.mk hc0_0; clear hr0_0 hc0_0; have HR0_1 := Sd.mk hr0_1; have HC0_1 := Sd.mk hc0_1; clear hr0_1 hc0_1; have HR0_2 := Sd.mk hr0_2; have HC0_2 := Sd.mk hc0_2; clear hr0_2 hc0_2; have HR0_3 := Sd.mk hr0_3; have HC0_3 := Sd.mk hc0_3; clear hr0_3 hc0_3; have HB := Sd.mk (Below.refl w.heap.size w)
 have H : (if (l0_0.length : Int) > 12 then (some 3) else (if (l0_0.length : Int) = 0 then (some 1) else (rf_Check.l0 k 0 l0_0 l0_1 l0_2 l0_3 a0_4 a0_5 a0_6))) = some r := h
 clear h
 by_cases c2 : (l0_0.length : Int) > 12
 ·rw [if_pos c2] at H
  have c2b0 : decide (12 < (l0_0.length : Int)) = true := decide_eq_true c2
  have c2b1 : decide (12 < l0_0.length) = true := decide_eq_true (by omega)
  clear c2; obtain rfl := Option.some.inj H
  go_enter Try.func27, Try.ntmps27
  go_wp2_with (first | ((with_reducible refine gate_dst (N := 1) rfl ?_); refine box_event ?hg (N := 1) ?hd (cs := #[.slice A0_0 l0_0.length c0_0, .slice A0_1 l0_1.length c0_1, .slice A0_2 l0_2.length c0_2, .slice A0_3 l0_3.length c0_3, .int .i64 a0_4, .int .i64 a0_5, .int .i64 a0_6]) (t := 29) ?hr ?_; (case hd => rfl); (case hg => rfl); (case hr => exact tG); intro gb246 hg w3 hbox hb; have BK246 := Sd.mk (hbox); have GW246 := Sd.mk (bSz hg (bBl HB.out)); have GE246 := Sd.mk (bSz hg (bBl HB.out)); replace HB := Sd.mk (below_step (bBl HB.out) hb); clear hb hbox hg; obtain ⟨u4_0, u4_1, u4_2, u4_3, u4_4, u4_5, u4_6, o4_0, o4_1, o4_2, o4_3, o4_4, o4_5, o4_6⟩ := bc7 (w := w3) BK246.out))
  go_ret
  exact ⟨tE, bBl HB.out⟩
 ·rw [if_neg c2] at H
  have c2b0 : decide (12 < (l0_0.length : Int)) = false := decide_eq_false c2
  have c2b1 : decide (12 < l0_0.length) = false := decide_eq_false (by omega)
  clear c2
  by_cases c5 : (l0_0.length : Int) = 0
  ·rw [if_pos c5] at H
   have c5b0 : ((l0_0.length : Int) == 0) = true := beq_iff_eq.mpr c5
   have c5b1 : ((l0_0.length : Int) != 0) = false := bne_eq_false_iff_eq.mpr c5
   clear c5; obtain rfl := Option.some.inj H
   go_enter Try.func27, Try.ntmps27
   go_wp2_with (first | ((with_reducible refine gate_dst (N := 1) rfl ?_); refine box_event ?hg (N := 1) ?hd (cs := #[.slice A0_0 l0_0.length c0_0, .slice A0_1 l0_1.length c0_1, .slice A0_2 l0_2.length c0_2, .slice A0_3 l0_3.length c0_3, .int .i64 a0_4, .int .i64 a0_5, .int .i64 a0_6]) (t := 29) ?hr ?_; (case hd => rfl); (case hg => rfl); (case hr => exact tG); intro gb246 hg w6 hbox hb; have BK246 := Sd.mk (hbox); have GW246 := Sd.mk (bSz hg (bBl HB.out)); have GE246 := Sd.mk (bSz hg (bBl HB.out)); replace HB := Sd.mk (below_step (bBl HB.out) hb); clear hb hbox hg; obtain ⟨u7_0, u7_1, u7_2, u7_3, u7_4, u7_5, u7_6, o7_0, o7_1, o7_2, o7_3, o7_4, o7_5, o7_6⟩ := bc7 (w := w6) BK246.out))
   go_ret
   exact ⟨tE, bBl HB.out⟩
  ·rw [if_neg c5] at H
   have c5b0 : ((l0_0.length : Int) == 0) = false := beq_eq_false_iff_ne.mpr c5
   have c5b1 : ((l0_0.length : Int) != 0) = true := bne_iff_ne.mpr c5
   have c5b2 : ¬ (l0_0 = []) := fun h_ => c5 (by rw [h_]; rfl)
   have H' := Sd.mk H; clear H
   go_enter Try.func27, Try.ntmps27
   go_wp2_with (first | ((with_reducible refine gate_dst (N := 1) rfl ?_); refine box_event ?hg (N := 1) ?hd (cs := #[.slice A0_0 l0_0.length c0_0, .slice A0_1 l0_1.length c0_1, .slice A0_2 l0_2.length c0_2, .slice A0_3 l0_3.length c0_3, .int .i64 a0_4, .int .i64 a0_5, .int .i64 a0_6]) (t := 29) ?hr ?_; (case hd => rfl); (case hg => rfl); (case hr => exact tG); intro gb246 hg w8 hbox hb; have BK246 := Sd.mk (hbox); have GW246 := Sd.mk (bSz hg (bBl HB.out)); have GE246 := Sd.mk (bSz hg (bBl HB.out)); replace HB := Sd.mk (below_step (bBl HB.out) hb); clear hb hbox hg; obtain ⟨u9_0, u9_1, u9_2, u9_3, u9_4, u9_5, u9_6, o9_0, o9_1, o9_2, o9_3, o9_4, o9_5, o9_6⟩ := bc7 (w := w8) BK246.out))
   go_loopg [3] k (fun kq v3 w' => ∃ (x3_1 : Int), v3 = .int .i64 x3_1 ∧ Sd (rf_Check.l0 kq x3_1 l0_0 l0_1 l0_2 l0_3 a0_4 a0_5 a0_6 = some r) ∧ Sd (kq ≤ k) ∧ Sd (w'.heap[gb246]? = some (.cells #[(.slice A0_0 l0_0.length c0_0), (.slice A0_1 l0_1.length c0_1), (.slice A0_2 l0_2.length c0_2), (.slice A0_3 l0_3.length c0_3), .int .i64 a0_4, .int .i64 a0_5, .int .i64 a0_6] 29 (0, 0))) ∧ Sd (Below w.heap.size w w'))
   case atStart => exact ⟨(0), tS, H', ⟨Nat.le_refl _⟩, ⟨bkA BK246.out⟩, ⟨bBl HB.out⟩⟩
   case round =>
    clear H'; (try clear c2); (try clear c2b0); (try clear c2b1); (try clear p2); (try clear c5); (try clear c5b0); (try clear c5b1); (try clear c5b2); (try clear u4_0 u4_1 u4_2 u4_3 u4_4 u4_5 u4_6); (try clear u7_0 u7_1 u7_2 u7_3 u7_4 u7_5 u7_6); (try clear u9_0 u9_1 u9_2 u9_3 u9_4 u9_5 u9_6); (try clear o4_0 o4_1 o4_2 o4_3 o4_4 o4_5 o4_6); (try clear o7_0 o7_1 o7_2 o7_3 o7_4 o7_5 o7_6); (try clear o9_0 o9_1 o9_2 o9_3 o9_4 o9_5 o9_6); obtain ⟨x3_1, rfl, HA, HK1, BK246, HB⟩ := hrel
    cases gk with
    | zero => exact absurd HA.out (by simp [rf_Check.l0])
    | succ k1 =>
     have H := HA.out; clear HA
     simp only [rf_Check.l0] at H
     by_cases c10 : x3_1 < (l0_0.length : Int)
     ·rw [if_pos c10] at H
      have c10b0 : decide (x3_1 < (l0_0.length : Int)) = true := decide_eq_true c10
      clear c10
      by_cases c11 : 0 ≤ x3_1
      ·rw [if_pos c11] at H
       have c11b0 : decide (0 ≤ x3_1) = true := decide_eq_true c11
       clear c11; replace H := Option.bind_eq_some_iff.mp H; obtain ⟨t248, A120, H⟩ := H
       try dsimp only at H
       have A12 := Sd.mk A120; clear A120
       by_cases c13 : t248 = true
       ·subst c13
        have H1 : (if x3_1 ≤ (l0_0.length : Int) then ((rf_in.f k1 (l0_0.take (x3_1 : Int).toNat) (rdOf ByteArray.empty l0_0 x3_1)).bind fun t251 => (if t251 = true then (some 6) else (rf_Check.l0 k1 (wrap64 (x3_1 + 1)) l0_0 l0_1 l0_2 l0_3 a0_4 a0_5 a0_6))) else (none)) = some r := by rw [if_pos rfl] at H; exact H
        clear H; have H := H1; clear H1; have c14b0 := eq_true (tB : 0 ≤ x3_1)
        by_cases c15 : x3_1 ≤ (l0_0.length : Int)
        ·rw [if_pos c15] at H
         have c15b0 := eq_true c15
         have c15b1 : decide (x3_1 ≤ (l0_0.length : Int)) = true := decide_eq_true c15
         clear c15; replace H := Option.bind_eq_some_iff.mp H; obtain ⟨t251, A160, H⟩ := H
         try dsimp only at H
         have A16 := Sd.mk A160; clear A160
         by_cases c17 : t251 = true
         ·subst c17
          have H1 : (some 6) = some r := by rw [if_pos rfl] at H; exact H
          clear H; have H := H1; clear H1; obtain rfl := Option.some.inj H; obtain ⟨u18_0, u18_1, u18_2, u18_3, u18_4, u18_5, u18_6, o18_0, o18_1, o18_2, o18_3, o18_4, o18_5, o18_6⟩ := bc7 (w := wr) BK246.out
          have p247 : 0 ≤ (x3_1 : Int) := tB
          have q247 : x3_1 < (l0_0.length : Int) := tB
          obtain ⟨ad247, e247, hx247_0⟩ := Kd.at_string HR0_0.out x3_1 p247 q247; cases e247; replace hx247_0 := cU HB hx247_0; replace p247 := eq_true p247; replace q247 := eq_true q247
          try go_wp2_with (first | ((with_reducible refine gate_callee (f := 74) rfl ?_); refine goesL_ (some 30) rfl rfl Try.func74 (by kernel_rfl) rfl #[.string (rdOf ByteArray.empty l0_0 x3_1)] rfl tM ?_; (with_reducible refine (rf_Name.calls k1 (rdOf ByteArray.empty l0_0 x3_1) true _ A12.out).mono ?_); rintro e w' ⟨rfl, ⟨nd, rfl⟩⟩; refine ⟨_, rfl, ?_⟩))
          (try (rw [drewN_self wr]; generalize hq_ : World.drewN wr _ = wr; have n0_ : Sd (wr.heap[gb246]? = some (.cells #[.slice (some ad247) l0_0.length c0_0, .slice A0_1 l0_1.length c0_1, .slice A0_2 l0_2.length c0_2, .slice A0_3 l0_3.length c0_3, .int .i64 a0_4, .int .i64 a0_5, .int .i64 a0_6] 29 (0, 0))) := ⟨by rw [← hq_]; exact (bkA BK246.out)⟩; have n1_ : Sd (Below w.heap.size w wr) := ⟨by rw [← hq_]; exact (bBl HB.out)⟩; clear BK246 HB hq_; have BK246 := n0_; have HB := n1_; clear n0_ n1_))
          replace BK246 := Sd.mk (blk_drew BK246.out); replace HB := Sd.mk (below_drew1 HB.out); obtain ⟨i020, hi020, _, hsz20, _⟩ := info_parts info9; obtain ⟨hcut20, hA20, hC20⟩ := print_take_of (P := Try.prog) Value.string (⟨#[]⟩ : ByteArray) 22 9 .i64 Try.underlying22 hi020 hsz20 (some ad247) c0_0 l0_0 x3_1 (tB) (tB) HC0_0.out
          have HR249 := Sd.mk (Kd.C_of_reads (h1 := fun _ => rfl) (hA20 _ (Kd.reads_of_C HR0_0.out)))
          have HC249 := Sd.mk hC20; clear hA20 hC20 hi020 hsz20
          have p250 : 0 ≤ (x3_1 : Int) := tB
          have q250 : x3_1 < (l0_0.length : Int) := tB
          obtain ⟨ad250, e250, hx250_0⟩ := Kd.at_string HR0_0.out x3_1 p250 q250; have hw250_0 := hx250_0
          obtain rfl : ad247 = ad250 := (by injection e250)
          replace hx250_0 := cU HB hx250_0; replace p250 := eq_true p250; replace q250 := eq_true q250
          refine start_ (n := 10) (S := fun w' => w'.cell? ⟨gb246, 0, none⟩ = some (.slice (some ad247) l0_0.length c0_0) ∧ w'.cell? ⟨gb246, 1, none⟩ = some (.slice A0_1 l0_1.length c0_1) ∧ w'.cell? ⟨gb246, 2, none⟩ = some (.slice A0_2 l0_2.length c0_2) ∧ w'.cell? ⟨gb246, 3, none⟩ = some (.slice A0_3 l0_3.length c0_3) ∧ w'.cell? ⟨gb246, 4, none⟩ = some (.int .i64 a0_4) ∧ w'.cell? ⟨gb246, 5, none⟩ = some (.int .i64 a0_5) ∧ w'.cell? ⟨gb246, 6, none⟩ = some (.int .i64 a0_6) ∧ w'.cell? (ad247.add (x3_1).toNat) = some (.string (rdOf ByteArray.empty l0_0 x3_1))) (ds := []) #[false, false, false, false, false, false, false, false, false, false] (by kernel_rfl) rfl rfl ⟨(blk_cell BK246.out 0).trans rfl, (blk_cell BK246.out 1).trans rfl, (blk_cell BK246.out 2).trans rfl, (blk_cell BK246.out 3).trans rfl, (blk_cell BK246.out 4).trans rfl, (blk_cell BK246.out 5).trans rfl, (blk_cell BK246.out 6).trans rfl, ((HB.out.cell (World.block_lt_of_cell? w _ hw250_0)).trans hw250_0)⟩ (fun hHeld => ?_); refine with_tabW rf_Check.tab10 rf_Check.bits10 (fun HT_ HW_ => ?_)
          generalize wr.drew = w19 at BK246 HB HR249 hx250_0 hHeld ⊢
          refine pure_ (i := 0) (N := some 32) (v := ?_) (a' := ?_) #[true, false, false, false, false, false, false, false, false, false] rfl rfl (any_of HT_.out (by kernel_rfl)) (fun _ _ _ h => h) (Or.inl ⟨by rfl, ?_⟩) ?_ ?_
          rotate_left
          ·exact tW
          rotate_left
          ·exact tP
          refine pure_ (i := 2) (N := some 34) (v := ?_) (a' := ?_) #[true, false, true, false, false, false, false, false, false, false] rfl rfl (any_of HT_.out (by kernel_rfl)) (fun _ _ _ h => h) (Or.inl ⟨by rfl, ?_⟩) ?_ ?_
          rotate_left
          ·exact tW
          rotate_left
          ·exact tP
          refine pure_ (i := 4) (N := some 36) (v := ?_) (a' := ?_) #[true, false, true, false, true, false, false, false, false, false] rfl rfl (any_of HT_.out (by kernel_rfl)) (fun _ _ _ h => h) (Or.inl ⟨by rfl, ?_⟩) ?_ ?_
          rotate_left
          ·exact tW
          rotate_left
          ·exact tP
          refine pure_ (i := 6) (N := some 38) (v := ?_) (a' := ?_) #[true, false, true, false, true, false, true, false, false, false] rfl rfl (any_of HT_.out (by kernel_rfl)) (fun _ _ _ h => h) (Or.inl ⟨by rfl, ?_⟩) ?_ ?_
          rotate_left
          ·exact tW
          rotate_left
          ·exact tP
          refine take_ (i := 1) (N := some 33) (v := ?_) (a' := ?_) #[true, true, true, false, true, false, true, false, false, false] rfl rfl (take_ofW HT_.out HW_.out (by kernel_rfl)) (fun _ _ _ h => h) (Or.inl ⟨by rfl, ?_⟩) hHeld ?_ ?_
          rotate_left
          ·rintro w' ⟨s0, s1, s2, s3, s4, s5, s6, s7⟩
           go_simp
           with_reducible rfl
          rotate_left
          ·exact tP
          refine pure_ (i := 3) (N := some 35) (v := ?_) (a' := ?_) #[true, true, true, true, true, false, true, false, false, false] rfl rfl (any_of HT_.out (by kernel_rfl)) (fun _ _ _ h => h) (Or.inl ⟨by rfl, ?_⟩) ?_ ?_
          rotate_left
          ·exact tW
          rotate_left
          ·exact tP
          refine take_ (i := 5) (N := some 37) (v := ?_) (a' := ?_) #[true, true, true, true, true, true, true, false, false, false] rfl rfl (take_ofW HT_.out HW_.out (by kernel_rfl)) (fun _ _ _ h => h) (Or.inl ⟨by rfl, ?_⟩) hHeld ?_ ?_
          rotate_left
          ·rintro w' ⟨s0, s1, s2, s3, s4, s5, s6, s7⟩
           go_simp
           with_reducible rfl
          rotate_left
          ·exact tP
          refine pure_ (i := 7) (N := some 39) (v := ?_) (a' := ?_) #[true, true, true, true, true, true, true, true, false, false] rfl rfl (any_of HT_.out (by kernel_rfl)) (fun _ _ _ h => h) (Or.inl ⟨by rfl, ?_⟩) ?_ ?_
          rotate_left
          ·exact tW
          rotate_left
          ·exact tP
          refine take_ (i := 8) (N := some 40) (v := ?_) (a' := ?_) #[true, true, true, true, true, true, true, true, true, false] rfl rfl (take_ofW HT_.out HW_.out (by kernel_rfl)) (fun _ _ _ h => h) (Or.inl ⟨by rfl, ?_⟩) hHeld ?_ ?_
          rotate_left
          ·rintro w' ⟨s0, s1, s2, s3, s4, s5, s6, s7⟩
           go_simp
           with_reducible rfl
          rotate_left
          ·exact tP
          refine one_ (i := 9) (N := some 41) #[true, true, true, true, true, true, true, true, true, true] rfl rfl (one_of HT_.out (by kernel_rfl)) (by decide) (fun K hK => ?_)
          refine goes_ Try.func75 (by kernel_rfl) rfl #[.slice (some ad247) (l0_0.take (x3_1 : Int).toNat).length c0_0, .string (rdOf ByteArray.empty l0_0 x3_1)] (by rfl) rfl rfl (by (try simp only [List.map_toArray, List.map_cons, List.map_nil]); first | done | (rw [show (l0_0.take (x3_1 : Int).toNat).length = x3_1.toNat from (by rw [List.length_take]; have h_ : (x3_1 : Int) ≤ (l0_0.length : Int) := tB; omega)] <;> rfl) | rfl | (simp only [List.length_drop, List.length_take]; rfl)) ?_
          with_reducible refine (rf_in.calls k1 _ _ (l0_0.take (x3_1 : Int).toNat) (rdOf ByteArray.empty l0_0 x3_1) true _ ?side1 ?side2 A16.out).mono ?_
          (case side1 => exact cS (Kd.C_below HR249.out HB.out))
          (case side2 => exact HC249.out)
          rintro e w' ⟨rfl, ⟨nd, rfl⟩⟩
          refine ⟨_, rfl, ?_⟩
          refine hK.out _ _ ⟨(blk_cell BK246.out 0).trans rfl, (blk_cell BK246.out 1).trans rfl, (blk_cell BK246.out 2).trans rfl, (blk_cell BK246.out 3).trans rfl, (blk_cell BK246.out 4).trans rfl, (blk_cell BK246.out 5).trans rfl, (blk_cell BK246.out 6).trans rfl, ((HB.out.cell (World.block_lt_of_cell? w _ hw250_0)).trans hw250_0)⟩ (fun hHeld => ?_)
          clear hK K
          refine norm_ (a' := ?_) ?_ ?_
          rotate_left
          ·show Act.put _ (some 41) _ = _
           exact tP
          refine done_ (done_of HT_.out (by kernel_rfl)) ?_
          try go_wp2
          go_ret
          exact ⟨tE, bBl HB.out⟩
         ·replace c17 := Bool.eq_false_iff.mpr c17
          subst c17
          have H1 : (rf_Check.l0 k1 (wrap64 (x3_1 + 1)) l0_0 l0_1 l0_2 l0_3 a0_4 a0_5 a0_6) = some r := by rw [if_neg (show ¬ (false = true) by decide)] at H; exact H
          clear H; have H := H1; clear H1; have H' := Sd.mk H; clear H; obtain ⟨u21_0, u21_1, u21_2, u21_3, u21_4, u21_5, u21_6, o21_0, o21_1, o21_2, o21_3, o21_4, o21_5, o21_6⟩ := bc7 (w := wr) BK246.out
          have p247 : 0 ≤ (x3_1 : Int) := tB
          have q247 : x3_1 < (l0_0.length : Int) := tB
          obtain ⟨ad247, e247, hx247_0⟩ := Kd.at_string HR0_0.out x3_1 p247 q247; cases e247; replace hx247_0 := cU HB hx247_0; replace p247 := eq_true p247; replace q247 := eq_true q247
          try go_wp2_with (first | ((with_reducible refine gate_callee (f := 74) rfl ?_); refine goesL_ (some 30) rfl rfl Try.func74 (by kernel_rfl) rfl #[.string (rdOf ByteArray.empty l0_0 x3_1)] rfl tM ?_; (with_reducible refine (rf_Name.calls k1 (rdOf ByteArray.empty l0_0 x3_1) true _ A12.out).mono ?_); rintro e w' ⟨rfl, ⟨nd, rfl⟩⟩; refine ⟨_, rfl, ?_⟩))
          (try (rw [drewN_self wr]; generalize hq_ : World.drewN wr _ = wr; have n0_ : Sd (wr.heap[gb246]? = some (.cells #[.slice (some ad247) l0_0.length c0_0, .slice A0_1 l0_1.length c0_1, .slice A0_2 l0_2.length c0_2, .slice A0_3 l0_3.length c0_3, .int .i64 a0_4, .int .i64 a0_5, .int .i64 a0_6] 29 (0, 0))) := ⟨by rw [← hq_]; exact (bkA BK246.out)⟩; have n1_ : Sd (Below w.heap.size w wr) := ⟨by rw [← hq_]; exact (bBl HB.out)⟩; clear BK246 HB hq_; have BK246 := n0_; have HB := n1_; clear n0_ n1_))
          replace BK246 := Sd.mk (blk_drew BK246.out); replace HB := Sd.mk (below_drew1 HB.out); obtain ⟨i023, hi023, _, hsz23, _⟩ := info_parts info9; obtain ⟨hcut23, hA23, hC23⟩ := print_take_of (P := Try.prog) Value.string (⟨#[]⟩ : ByteArray) 22 9 .i64 Try.underlying22 hi023 hsz23 (some ad247) c0_0 l0_0 x3_1 (tB) (tB) HC0_0.out
          have HR249 := Sd.mk (Kd.C_of_reads (h1 := fun _ => rfl) (hA23 _ (Kd.reads_of_C HR0_0.out)))
          have HC249 := Sd.mk hC23; clear hA23 hC23 hi023 hsz23
          have p250 : 0 ≤ (x3_1 : Int) := tB
          have q250 : x3_1 < (l0_0.length : Int) := tB
          obtain ⟨ad250, e250, hx250_0⟩ := Kd.at_string HR0_0.out x3_1 p250 q250; have hw250_0 := hx250_0
          obtain rfl : ad247 = ad250 := (by injection e250)
          replace hx250_0 := cU HB hx250_0; replace p250 := eq_true p250; replace q250 := eq_true q250
          refine start_ (n := 10) (S := fun w' => w'.cell? ⟨gb246, 0, none⟩ = some (.slice (some ad247) l0_0.length c0_0) ∧ w'.cell? ⟨gb246, 1, none⟩ = some (.slice A0_1 l0_1.length c0_1) ∧ w'.cell? ⟨gb246, 2, none⟩ = some (.slice A0_2 l0_2.length c0_2) ∧ w'.cell? ⟨gb246, 3, none⟩ = some (.slice A0_3 l0_3.length c0_3) ∧ w'.cell? ⟨gb246, 4, none⟩ = some (.int .i64 a0_4) ∧ w'.cell? ⟨gb246, 5, none⟩ = some (.int .i64 a0_5) ∧ w'.cell? ⟨gb246, 6, none⟩ = some (.int .i64 a0_6) ∧ w'.cell? (ad247.add (x3_1).toNat) = some (.string (rdOf ByteArray.empty l0_0 x3_1))) (ds := []) #[false, false, false, false, false, false, false, false, false, false] (by kernel_rfl) rfl rfl ⟨(blk_cell BK246.out 0).trans rfl, (blk_cell BK246.out 1).trans rfl, (blk_cell BK246.out 2).trans rfl, (blk_cell BK246.out 3).trans rfl, (blk_cell BK246.out 4).trans rfl, (blk_cell BK246.out 5).trans rfl, (blk_cell BK246.out 6).trans rfl, ((HB.out.cell (World.block_lt_of_cell? w _ hw250_0)).trans hw250_0)⟩ (fun hHeld => ?_); refine with_tabW rf_Check.tab10 rf_Check.bits10 (fun HT_ HW_ => ?_)
          generalize wr.drew = w22 at BK246 HB HR249 hx250_0 hHeld ⊢
          refine pure_ (i := 0) (N := some 32) (v := ?_) (a' := ?_) #[true, false, false, false, false, false, false, false, false, false] rfl rfl (any_of HT_.out (by kernel_rfl)) (fun _ _ _ h => h) (Or.inl ⟨by rfl, ?_⟩) ?_ ?_
          rotate_left
          ·exact tW
          rotate_left
          ·exact tP
          refine pure_ (i := 2) (N := some 34) (v := ?_) (a' := ?_) #[true, false, true, false, false, false, false, false, false, false] rfl rfl (any_of HT_.out (by kernel_rfl)) (fun _ _ _ h => h) (Or.inl ⟨by rfl, ?_⟩) ?_ ?_
          rotate_left
          ·exact tW
          rotate_left
          ·exact tP
          refine pure_ (i := 4) (N := some 36) (v := ?_) (a' := ?_) #[true, false, true, false, true, false, false, false, false, false] rfl rfl (any_of HT_.out (by kernel_rfl)) (fun _ _ _ h => h) (Or.inl ⟨by rfl, ?_⟩) ?_ ?_
          rotate_left
          ·exact tW
          rotate_left
          ·exact tP
          refine pure_ (i := 6) (N := some 38) (v := ?_) (a' := ?_) #[true, false, true, false, true, false, true, false, false, false] rfl rfl (any_of HT_.out (by kernel_rfl)) (fun _ _ _ h => h) (Or.inl ⟨by rfl, ?_⟩) ?_ ?_
          rotate_left
          ·exact tW
          rotate_left
          ·exact tP
          refine take_ (i := 1) (N := some 33) (v := ?_) (a' := ?_) #[true, true, true, false, true, false, true, false, false, false] rfl rfl (take_ofW HT_.out HW_.out (by kernel_rfl)) (fun _ _ _ h => h) (Or.inl ⟨by rfl, ?_⟩) hHeld ?_ ?_
          rotate_left
          ·rintro w' ⟨s0, s1, s2, s3, s4, s5, s6, s7⟩
           go_simp
           with_reducible rfl
          rotate_left
          ·exact tP
          refine pure_ (i := 3) (N := some 35) (v := ?_) (a' := ?_) #[true, true, true, true, true, false, true, false, false, false] rfl rfl (any_of HT_.out (by kernel_rfl)) (fun _ _ _ h => h) (Or.inl ⟨by rfl, ?_⟩) ?_ ?_
          rotate_left
          ·exact tW
          rotate_left
          ·exact tP
          refine take_ (i := 5) (N := some 37) (v := ?_) (a' := ?_) #[true, true, true, true, true, true, true, false, false, false] rfl rfl (take_ofW HT_.out HW_.out (by kernel_rfl)) (fun _ _ _ h => h) (Or.inl ⟨by rfl, ?_⟩) hHeld ?_ ?_
          rotate_left
          ·rintro w' ⟨s0, s1, s2, s3, s4, s5, s6, s7⟩
           go_simp
           with_reducible rfl
          rotate_left
          ·exact tP
          refine pure_ (i := 7) (N := some 39) (v := ?_) (a' := ?_) #[true, true, true, true, true, true, true, true, false, false] rfl rfl (any_of HT_.out (by kernel_rfl)) (fun _ _ _ h => h) (Or.inl ⟨by rfl, ?_⟩) ?_ ?_
          rotate_left
          ·exact tW
          rotate_left
          ·exact tP
          refine take_ (i := 8) (N := some 40) (v := ?_) (a' := ?_) #[true, true, true, true, true, true, true, true, true, false] rfl rfl (take_ofW HT_.out HW_.out (by kernel_rfl)) (fun _ _ _ h => h) (Or.inl ⟨by rfl, ?_⟩) hHeld ?_ ?_
          rotate_left
          ·rintro w' ⟨s0, s1, s2, s3, s4, s5, s6, s7⟩
           go_simp
           with_reducible rfl
          rotate_left
          ·exact tP
          refine one_ (i := 9) (N := some 41) #[true, true, true, true, true, true, true, true, true, true] rfl rfl (one_of HT_.out (by kernel_rfl)) (by decide) (fun K hK => ?_)
          refine goes_ Try.func75 (by kernel_rfl) rfl #[.slice (some ad247) (l0_0.take (x3_1 : Int).toNat).length c0_0, .string (rdOf ByteArray.empty l0_0 x3_1)] (by rfl) rfl rfl (by (try simp only [List.map_toArray, List.map_cons, List.map_nil]); first | done | (rw [show (l0_0.take (x3_1 : Int).toNat).length = x3_1.toNat from (by rw [List.length_take]; have h_ : (x3_1 : Int) ≤ (l0_0.length : Int) := tB; omega)] <;> rfl) | rfl | (simp only [List.length_drop, List.length_take]; rfl)) ?_
          with_reducible refine (rf_in.calls k1 _ _ (l0_0.take (x3_1 : Int).toNat) (rdOf ByteArray.empty l0_0 x3_1) false _ ?side1 ?side2 A16.out).mono ?_
          (case side1 => exact cS (Kd.C_below HR249.out HB.out))
          (case side2 => exact HC249.out)
          rintro e w' ⟨rfl, ⟨nd, rfl⟩⟩
          refine ⟨_, rfl, ?_⟩
          refine hK.out _ _ ⟨(blk_cell BK246.out 0).trans rfl, (blk_cell BK246.out 1).trans rfl, (blk_cell BK246.out 2).trans rfl, (blk_cell BK246.out 3).trans rfl, (blk_cell BK246.out 4).trans rfl, (blk_cell BK246.out 5).trans rfl, (blk_cell BK246.out 6).trans rfl, ((HB.out.cell (World.block_lt_of_cell? w _ hw250_0)).trans hw250_0)⟩ (fun hHeld => ?_)
          clear hK K
          refine norm_ (a' := ?_) ?_ ?_
          rotate_left
          ·show Act.put _ (some 41) _ = _
           exact tP
          refine done_ (done_of HT_.out (by kernel_rfl)) ?_
          try go_wp2
          go_roundg k1
          case measure => have := HK1.out; omega
          case rel => exact ⟨(wrap64 (x3_1 + 1)), tS, H', ⟨by have := HK1.out; omega⟩, ⟨bkA BK246.out⟩, ⟨bBl HB.out⟩⟩
        ·rw [if_neg c15] at H
         exact absurd H (by simp)
       ·replace c13 := Bool.eq_false_iff.mpr c13
        subst c13
        have H1 : (some 5) = some r := by rw [if_neg (show ¬ (false = true) by decide)] at H; exact H
        clear H; have H := H1; clear H1; obtain rfl := Option.some.inj H; obtain ⟨u24_0, u24_1, u24_2, u24_3, u24_4, u24_5, u24_6, o24_0, o24_1, o24_2, o24_3, o24_4, o24_5, o24_6⟩ := bc7 (w := wr) BK246.out
        have p247 : 0 ≤ (x3_1 : Int) := tB
        have q247 : x3_1 < (l0_0.length : Int) := tB
        obtain ⟨ad247, e247, hx247_0⟩ := Kd.at_string HR0_0.out x3_1 p247 q247; cases e247; replace hx247_0 := cU HB hx247_0; replace p247 := eq_true p247; replace q247 := eq_true q247
        go_wp2_with (first | ((with_reducible refine gate_callee (f := 74) rfl ?_); refine goesL_ (some 30) rfl rfl Try.func74 (by kernel_rfl) rfl #[.string (rdOf ByteArray.empty l0_0 x3_1)] rfl tM ?_; (with_reducible refine (rf_Name.calls k1 (rdOf ByteArray.empty l0_0 x3_1) false _ A12.out).mono ?_); rintro e w' ⟨rfl, ⟨nd, rfl⟩⟩; refine ⟨_, rfl, ?_⟩))
        go_ret
        exact ⟨tE, bBl HB.out⟩
      ·rw [if_neg c11] at H
       exact absurd H (by simp)
     ·rw [if_neg c10] at H
      have c10b0 : decide (x3_1 < (l0_0.length : Int)) = false := decide_eq_false c10
      clear c10
      by_cases c25 : (l0_1.length : Int) > 12
      ·rw [if_pos c25] at H
       have c25b0 : decide (12 < (l0_1.length : Int)) = true := decide_eq_true c25
       have c25b1 : decide (12 < l0_1.length) = true := decide_eq_true (by omega)
       clear c25; obtain rfl := Option.some.inj H; obtain ⟨u26_0, u26_1, u26_2, u26_3, u26_4, u26_5, u26_6, o26_0, o26_1, o26_2, o26_3, o26_4, o26_5, o26_6⟩ := bc7 (w := wr) BK246.out
       go_wp2
       go_ret
       exact ⟨tE, bBl HB.out⟩
      ·rw [if_neg c25] at H
       have c25b0 : decide (12 < (l0_1.length : Int)) = false := decide_eq_false c25
       have c25b1 : decide (12 < l0_1.length) = false := decide_eq_false (by omega)
       clear c25
       by_cases c27 : (l0_1.length : Int) = 0
       ·rw [if_pos c27] at H
        have c27b0 : ((l0_1.length : Int) == 0) = true := beq_iff_eq.mpr c27
        have c27b1 : ((l0_1.length : Int) != 0) = false := bne_eq_false_iff_eq.mpr c27
        clear c27; obtain rfl := Option.some.inj H; obtain ⟨u28_0, u28_1, u28_2, u28_3, u28_4, u28_5, u28_6, o28_0, o28_1, o28_2, o28_3, o28_4, o28_5, o28_6⟩ := bc7 (w := wr) BK246.out
        go_wp2
        go_ret
        exact ⟨tE, bBl HB.out⟩
       ·rw [if_neg c27] at H
        have c27b0 : ((l0_1.length : Int) == 0) = false := beq_eq_false_iff_ne.mpr c27
        have c27b1 : ((l0_1.length : Int) != 0) = true := bne_iff_ne.mpr c27
        have c27b2 : ¬ (l0_1 = []) := fun h_ => c27 (by rw [h_]; rfl)
        have H' := Sd.mk H; clear H; obtain ⟨u29_0, u29_1, u29_2, u29_3, u29_4, u29_5, u29_6, o29_0, o29_1, o29_2, o29_3, o29_4, o29_5, o29_6⟩ := bc7 (w := wr) BK246.out
        go_wp2
        go_loopg [4, 5] k1 (fun kq v4 v5 w' => ∃ (x4_2 : List ByteArray) (x5_2 : Int), v5 = .int .i64 x5_2 ∧ Sd (rf_Check.l1 kq x4_2 x5_2 l0_0 l0_1 l0_2 l0_3 a0_4 a0_5 a0_6 = some r) ∧ Sd (kq ≤ k1) ∧ Sd (Kd.R Kd.string 9 w' w.heap.size (fun _ => True) v4 x4_2) ∧ Sd (w'.heap[gb246]? = some (.cells #[(.slice A0_0 l0_0.length c0_0), (.slice A0_1 l0_1.length c0_1), (.slice A0_2 l0_2.length c0_2), (.slice A0_3 l0_3.length c0_3), .int .i64 a0_4, .int .i64 a0_5, .int .i64 a0_6] 29 (0, 0))) ∧ Sd (Below w.heap.size w w'))
        case atStart => exact ⟨(([] : List ByteArray)), (0), tS, H', ⟨Nat.le_refl _⟩, ⟨by first | exact Kd.R_nil _ _ _ _ _ | exact Kd.N_nil _ _ _ _ _ | exact Kd.V_nil _ _ _ _ _ | exact Kd.Q_nil _ _ _ _ _ | exact Kd.S_nil _ _ _ _ _⟩, ⟨bkA BK246.out⟩, ⟨bBl HB.out⟩⟩
        case round =>
         clear H'; (try clear c1); (try clear c2); (try clear c2b0); (try clear c2b1); (try clear p2 p2); (try clear q2); (try clear hx2); (try clear c5); (try clear c5b0); (try clear c5b1); (try clear c5b2); (try clear p6); (try clear c7); (try clear c10); (try clear c10b0); (try clear c11); (try clear c11b0); (try clear c13); (try clear c14); (try clear c14b0); (try clear c15); (try clear c15b0); (try clear c15b1); (try clear c17); (try clear p24); (try clear q24); (try clear hx24); (try clear c25); (try clear c25b0); (try clear c25b1); (try clear p25); (try clear q25); (try clear hx25); (try clear c27); (try clear c27b0); (try clear c27b1); (try clear c27b2); (try clear u18_0 u18_1 u18_2 u18_3 u18_4 u18_5 u18_6); (try clear u21_0 u21_1 u21_2 u21_3 u21_4 u21_5 u21_6); (try clear u24_0 u24_1 u24_2 u24_3 u24_4 u24_5 u24_6); (try clear u26_0 u26_1 u26_2 u26_3 u26_4 u26_5 u26_6); (try clear u28_0 u28_1 u28_2 u28_3 u28_4 u28_5 u28_6); (try clear u29_0 u29_1 u29_2 u29_3 u29_4 u29_5 u29_6); (try clear u4_0 u4_1 u4_2 u4_3 u4_4 u4_5 u4_6); (try clear u7_0 u7_1 u7_2 u7_3 u7_4 u7_5 u7_6); (try clear u9_0 u9_1 u9_2 u9_3 u9_4 u9_5 u9_6); (try clear o18_0 o18_1 o18_2 o18_3 o18_4 o18_5 o18_6); (try clear o21_0 o21_1 o21_2 o21_3 o21_4 o21_5 o21_6); (try clear o24_0 o24_1 o24_2 o24_3 o24_4 o24_5 o24_6); (try clear o26_0 o26_1 o26_2 o26_3 o26_4 o26_5 o26_6); (try clear o28_0 o28_1 o28_2 o28_3 o28_4 o28_5 o28_6); (try clear o29_0 o29_1 o29_2 o29_3 o29_4 o29_5 o29_6); (try clear o4_0 o4_1 o4_2 o4_3 o4_4 o4_5 o4_6); (try clear o7_0 o7_1 o7_2 o7_3 o7_4 o7_5 o7_6); (try clear o9_0 o9_1 o9_2 o9_3 o9_4 o9_5 o9_6); (try clear hx247_0); (try clear hx250_0); (try clear p247); (try clear p250); (try clear q247); (try clear q250); obtain ⟨x4_2, x5_2, rfl, HA, HK2, HO_4, BK246, HB⟩ := hrel
         cases gk with
         | zero => exact absurd HA.out (by simp [rf_Check.l1])
         | succ k2 =>
          have H := HA.out; clear HA
          simp only [rf_Check.l1] at H
          by_cases c30 : x5_2 < (l0_1.length : Int)
          ·rw [if_pos c30] at H
           have c30b0 : decide (x5_2 < (l0_1.length : Int)) = true := decide_eq_true c30
           clear c30
           by_cases c31 : 0 ≤ x5_2
           ·rw [if_pos c31] at H
            have c31b0 : decide (0 ≤ x5_2) = true := decide_eq_true c31
            clear c31; replace H := Option.bind_eq_some_iff.mp H; obtain ⟨t253, A320, H⟩ := H
            try dsimp only at H
            have A32 := Sd.mk A320; clear A320
            by_cases c33 : t253 = true
            ·subst c33
             have H1 : ((rf_in.f k2 x4_2 ((rd_T63 l0_1 x5_2).f0)).bind fun t255 => (if t255 = true then (some 6) else (if x4_2.length < 8796093022208 then ((rf_material.f k2 l0_0 l0_1 l0_2 l0_3 a0_4 a0_5 a0_6 ((rd_T63 l0_1 x5_2).f0) ((rd_T63 l0_1 x5_2).f1) ((rd_T63 l0_1 x5_2).f2) ((rd_T63 l0_1 x5_2).f3) ((rd_T63 l0_1 x5_2).f4) ((rd_T63 l0_1 x5_2).f5) ((rd_T63 l0_1 x5_2).f6)).bind fun t261 => (if t261 = 0 then (rf_Check.l1 k2 (x4_2 ++ [(rd_T63 l0_1 x5_2).f0]) (wrap64 (x5_2 + 1)) l0_0 l0_1 l0_2 l0_3 a0_4 a0_5 a0_6) else (some t261))) else (none)))) = some r := by rw [if_pos rfl] at H; exact H
             clear H; have H := H1; clear H1; replace H := Option.bind_eq_some_iff.mp H; obtain ⟨t255, A340, H⟩ := H
             try dsimp only at H
             have A34 := Sd.mk A340; clear A340
             by_cases c35 : t255 = true
             ·subst c35
              have H1 : (some 6) = some r := by rw [if_pos rfl] at H; exact H
              clear H; have H := H1; clear H1; obtain rfl := Option.some.inj H; obtain ⟨u36_0, u36_1, u36_2, u36_3, u36_4, u36_5, u36_6, o36_0, o36_1, o36_2, o36_3, o36_4, o36_5, o36_6⟩ := bc7 (w := wr) BK246.out
              have p252 : 0 ≤ (x5_2 : Int) := tB
              have q252 : x5_2 < (l0_1.length : Int) := tB
              obtain ⟨ad252, A252_6, c252_6, e252, hx252_0, hx252_1, hx252_2, hx252_3, hx252_4, hx252_5, hx252_6, hl252_6, hi252_6⟩ := at_T63 HR0_1.out x5_2 p252 q252; cases e252; replace hx252_0 := cU HB hx252_0; replace hx252_1 := cU HB hx252_1; replace hx252_2 := cU HB hx252_2; replace hx252_3 := cU HB hx252_3; replace hx252_4 := cU HB hx252_4; replace hx252_5 := cU HB hx252_5; replace hx252_6 := cU HB hx252_6; have HR252_6 := Sd.mk hi252_6; have HC252_6 := Sd.mk hl252_6; clear hi252_6 hl252_6; replace p252 := eq_true p252; replace q252 := eq_true q252
              go_wp2_with (first | ((with_reducible refine gate_callee (f := 74) rfl ?_); refine goesL_ (some 63) rfl rfl Try.func74 (by kernel_rfl) rfl #[.string ((rd_T63 l0_1 x5_2).f0)] rfl tM ?_; (with_reducible refine (rf_Name.calls k2 ((rd_T63 l0_1 x5_2).f0) true _ A32.out).mono ?_); rintro e w' ⟨rfl, ⟨nd, rfl⟩⟩; refine ⟨_, rfl, ?_⟩; have p254 : 0 ≤ (x5_2 : Int) := tB; have q254 : x5_2 < (l0_1.length : Int) := tB; obtain ⟨ad254, A254_6, c254_6, e254, hx254_0, hx254_1, hx254_2, hx254_3, hx254_4, hx254_5, hx254_6, hl254_6, hi254_6⟩ := at_T63 HR0_1.out x5_2 p254 q254; obtain rfl : ad252 = ad254 := (by injection e254); replace hx254_0 := cU HB hx254_0; replace hx254_1 := cU HB hx254_1; replace hx254_2 := cU HB hx254_2; replace hx254_3 := cU HB hx254_3; replace hx254_4 := cU HB hx254_4; replace hx254_5 := cU HB hx254_5; replace hx254_6 := cU HB hx254_6; have HR254_6 := Sd.mk hi254_6; have HC254_6 := Sd.mk hl254_6; clear hi254_6 hl254_6; replace p254 := eq_true p254; replace q254 := eq_true q254; have ea_ := Option.some.inj (hx252_6.symm.trans hx254_6); injection ea_ with ea_ en_ ec_; subst ea_; subst ec_; clear en_; obtain ⟨Ao37, co37, eo37⟩ := Kd.R_slice HO_4.out; subst eo37) | ((with_reducible refine gate_callee (f := 75) rfl ?_); refine goesL_ (some 72) rfl rfl Try.func75 (by kernel_rfl) rfl #[.slice Ao37 x4_2.length co37, .string ((rd_T63 l0_1 x5_2).f0)] rfl tM ?_; (with_reducible refine (rf_in.calls k2 _ _ x4_2 ((rd_T63 l0_1 x5_2).f0) true _ (cS ((Kd.R_reads' HO_4.out).2.2)) ((Kd.R_reads' HO_4.out).2.1) A34.out).mono ?_); rintro e w' ⟨rfl, ⟨nd, rfl⟩⟩; refine ⟨_, rfl, ?_⟩))
              go_ret
              exact ⟨tE, bBl HB.out⟩
             ·replace c35 := Bool.eq_false_iff.mpr c35
              subst c35
              have H1 : (if x4_2.length < 8796093022208 then ((rf_material.f k2 l0_0 l0_1 l0_2 l0_3 a0_4 a0_5 a0_6 ((rd_T63 l0_1 x5_2).f0) ((rd_T63 l0_1 x5_2).f1) ((rd_T63 l0_1 x5_2).f2) ((rd_T63 l0_1 x5_2).f3) ((rd_T63 l0_1 x5_2).f4) ((rd_T63 l0_1 x5_2).f5) ((rd_T63 l0_1 x5_2).f6)).bind fun t261 => (if t261 = 0 then (rf_Check.l1 k2 (x4_2 ++ [(rd_T63 l0_1 x5_2).f0]) (wrap64 (x5_2 + 1)) l0_0 l0_1 l0_2 l0_3 a0_4 a0_5 a0_6) else (some t261))) else (none)) = some r := by rw [if_neg (show ¬ (false = true) by decide)] at H; exact H
              clear H; have H := H1; clear H1
              by_cases c38 : x4_2.length < 8796093022208
              ·rw [if_pos c38] at H
               have LMc38 := Sd.mk c38; clear c38
               obtain ⟨y257, hy257⟩ : ∃ y_ : List ByteArray, y_ = (x4_2 ++ [(rd_T63 l0_1 x5_2).f0]) := ⟨_, rfl⟩
               replace H : ((rf_material.f k2 l0_0 l0_1 l0_2 l0_3 a0_4 a0_5 a0_6 ((rd_T63 l0_1 x5_2).f0) ((rd_T63 l0_1 x5_2).f1) ((rd_T63 l0_1 x5_2).f2) ((rd_T63 l0_1 x5_2).f3) ((rd_T63 l0_1 x5_2).f4) ((rd_T63 l0_1 x5_2).f5) ((rd_T63 l0_1 x5_2).f6)).bind fun t261 => (if t261 = 0 then (rf_Check.l1 k2 y257 (wrap64 (x5_2 + 1)) l0_0 l0_1 l0_2 l0_3 a0_4 a0_5 a0_6) else (some t261))) = some r := by first | (rw [hy257]; with_reducible exact H) | (have H2_ := (Option.bind_some _ _).symm.trans H; rw [hy257]; with_reducible exact H2_) | (have H2_ := (Option.bind_some _ _).symm.trans H; with_reducible exact H2_) | with_reducible exact H | (rw [hy257]; exact H) | exact H
               have Ny257 := Sd.mk hy257; clear hy257; replace H := Option.bind_eq_some_iff.mp H; obtain ⟨t261, A390, H⟩ := H
               try dsimp only at H
               have A39 := Sd.mk A390; clear A390
               by_cases c40 : t261 = 0
               ·rw [if_pos c40] at H
                have c40b0 : (t261 == 0) = true := beq_iff_eq.mpr c40
                have c40b1 : (t261 != 0) = false := bne_eq_false_iff_eq.mpr c40
                clear c40; have H' := Sd.mk H; clear H; obtain ⟨u41_0, u41_1, u41_2, u41_3, u41_4, u41_5, u41_6, o41_0, o41_1, o41_2, o41_3, o41_4, o41_5, o41_6⟩ := bc7 (w := wr) BK246.out
                have p252 : 0 ≤ (x5_2 : Int) := tB
                have q252 : x5_2 < (l0_1.length : Int) := tB
                obtain ⟨ad252, A252_6, c252_6, e252, hx252_0, hx252_1, hx252_2, hx252_3, hx252_4, hx252_5, hx252_6, hl252_6, hi252_6⟩ := at_T63 HR0_1.out x5_2 p252 q252; cases e252; replace hx252_0 := cU HB hx252_0; replace hx252_1 := cU HB hx252_1; replace hx252_2 := cU HB hx252_2; replace hx252_3 := cU HB hx252_3; replace hx252_4 := cU HB hx252_4; replace hx252_5 := cU HB hx252_5; replace hx252_6 := cU HB hx252_6; have HR252_6 := Sd.mk hi252_6; have HC252_6 := Sd.mk hl252_6; clear hi252_6 hl252_6; replace p252 := eq_true p252; replace q252 := eq_true q252
                try go_wp2_with (first | ((with_reducible refine gate_callee (f := 74) rfl ?_); refine goesL_ (some 63) rfl rfl Try.func74 (by kernel_rfl) rfl #[.string ((rd_T63 l0_1 x5_2).f0)] rfl tM ?_; (with_reducible refine (rf_Name.calls k2 ((rd_T63 l0_1 x5_2).f0) true _ A32.out).mono ?_); rintro e w' ⟨rfl, ⟨nd, rfl⟩⟩; refine ⟨_, rfl, ?_⟩; have p254 : 0 ≤ (x5_2 : Int) := tB; have q254 : x5_2 < (l0_1.length : Int) := tB; obtain ⟨ad254, A254_6, c254_6, e254, hx254_0, hx254_1, hx254_2, hx254_3, hx254_4, hx254_5, hx254_6, hl254_6, hi254_6⟩ := at_T63 HR0_1.out x5_2 p254 q254; obtain rfl : ad252 = ad254 := (by injection e254); replace hx254_0 := cU HB hx254_0; replace hx254_1 := cU HB hx254_1; replace hx254_2 := cU HB hx254_2; replace hx254_3 := cU HB hx254_3; replace hx254_4 := cU HB hx254_4; replace hx254_5 := cU HB hx254_5; replace hx254_6 := cU HB hx254_6; have HR254_6 := Sd.mk hi254_6; have HC254_6 := Sd.mk hl254_6; clear hi254_6 hl254_6; replace p254 := eq_true p254; replace q254 := eq_true q254; have ea_ := Option.some.inj (hx252_6.symm.trans hx254_6); injection ea_ with ea_ en_ ec_; subst ea_; subst ec_; clear en_; obtain ⟨Ao42, co42, eo42⟩ := Kd.R_slice HO_4.out; subst eo42) | ((with_reducible refine gate_callee (f := 75) rfl ?_); refine goesL_ (some 72) rfl rfl Try.func75 (by kernel_rfl) rfl #[.slice Ao42 x4_2.length co42, .string ((rd_T63 l0_1 x5_2).f0)] rfl tM ?_; (with_reducible refine (rf_in.calls k2 _ _ x4_2 ((rd_T63 l0_1 x5_2).f0) false _ (cS ((Kd.R_reads' HO_4.out).2.2)) ((Kd.R_reads' HO_4.out).2.1) A34.out).mono ?_); rintro e w' ⟨rfl, ⟨nd, rfl⟩⟩; refine ⟨_, rfl, ?_⟩; have p256 : 0 ≤ (x5_2 : Int) := tB; have q256 : x5_2 < (l0_1.length : Int) := tB; obtain ⟨ad256, A256_6, c256_6, e256, hx256_0, hx256_1, hx256_2, hx256_3, hx256_4, hx256_5, hx256_6, hl256_6, hi256_6⟩ := at_T63 HR0_1.out x5_2 p256 q256; obtain rfl : ad252 = ad256 := (by injection e256); replace hx256_0 := cU HB hx256_0; replace hx256_1 := cU HB hx256_1; replace hx256_2 := cU HB hx256_2; replace hx256_3 := cU HB hx256_3; replace hx256_4 := cU HB hx256_4; replace hx256_5 := cU HB hx256_5; replace hx256_6 := cU HB hx256_6; have HR256_6 := Sd.mk hi256_6; have HC256_6 := Sd.mk hl256_6; clear hi256_6 hl256_6; replace p256 := eq_true p256; replace q256 := eq_true q256; have ea_ := Option.some.inj (hx252_6.symm.trans hx256_6); injection ea_ with ea_ en_ ec_; subst ea_; subst ec_; clear en_) | ((with_reducible refine gate_builtin (b := .append) (xs := #[.tmp 73, .tmp 80]) rfl ?_); at_builtin; refine Kd.R_append Kd.string (w0 := w) w.heap.size rfl (.tmp 73) (.tmp 80) 22 9 (.string ⟨#[]⟩) 16 rfl Try.underlying22 info9 rfl (by decide) (by omega) (.slice Ao42 x4_2.length co42) x4_2 ((rd_T63 l0_1 x5_2).f0) [.string ((rd_T63 l0_1 x5_2).f0)] (fun _ => True) (fun _ => False) rfl rfl ?aP (fun _ hk => hk.elim) ?aF ?aO ?aB ?aS ?aL ?_; (case aP => exact rfl); (case aB => exact (bBl HB.out)); (case aF => exact (fun _ _ => trivial)); (case aO => exact (by (with_reducible repeat (first | apply Kd.R_alloc | apply Kd.R_drewN | apply Kd.R_drew)); exact HO_4.out)); (case aS => exact (below_size (bBl HB.out))); (case aL => have := LMc38.out; omega); intro v258 w43 ho hb hg hat; rw [← Ny257.out] at ho; replace BK246 := Sd.mk (blk_grown (bkA BK246.out) hg (Kd.R_ne HO_4.out BK246.out (by decide))); replace HB := Sd.mk (hb); have HO259 := Sd.mk (ho); clear HO_4; clear ho hb hg hat))
                replace HO259 := Sd.mk (Kd.R_drew HO259.out); replace BK246 := Sd.mk (blk_drew BK246.out); replace HB := Sd.mk (below_drew1 HB.out)
                have p260 : 0 ≤ (x5_2 : Int) := tB
                have q260 : x5_2 < (l0_1.length : Int) := tB
                obtain ⟨ad260, A260_6, c260_6, e260, hx260_0, hx260_1, hx260_2, hx260_3, hx260_4, hx260_5, hx260_6, hl260_6, hi260_6⟩ := at_T63 HR0_1.out x5_2 p260 q260; have hw260_6 := hx260_6; have hw260_5 := hx260_5; have hw260_4 := hx260_4; have hw260_3 := hx260_3; have hw260_2 := hx260_2; have hw260_1 := hx260_1; have hw260_0 := hx260_0
                obtain rfl : ad252 = ad260 := (by injection e260)
                replace hx260_0 := cU HB hx260_0; replace hx260_1 := cU HB hx260_1; replace hx260_2 := cU HB hx260_2; replace hx260_3 := cU HB hx260_3; replace hx260_4 := cU HB hx260_4; replace hx260_5 := cU HB hx260_5; replace hx260_6 := cU HB hx260_6; have HR260_6 := Sd.mk hi260_6; have HC260_6 := Sd.mk hl260_6; clear hi260_6 hl260_6; replace p260 := eq_true p260; replace q260 := eq_true q260
                refine start_ (n := 8) (S := fun w' => w'.cell? ⟨gb246, 0, none⟩ = some (.slice A0_0 l0_0.length c0_0) ∧ w'.cell? ⟨gb246, 1, none⟩ = some (.slice (some ad252) l0_1.length c0_1) ∧ w'.cell? ⟨gb246, 2, none⟩ = some (.slice A0_2 l0_2.length c0_2) ∧ w'.cell? ⟨gb246, 3, none⟩ = some (.slice A0_3 l0_3.length c0_3) ∧ w'.cell? ⟨gb246, 4, none⟩ = some (.int .i64 a0_4) ∧ w'.cell? ⟨gb246, 5, none⟩ = some (.int .i64 a0_5) ∧ w'.cell? ⟨gb246, 6, none⟩ = some (.int .i64 a0_6) ∧ w'.cell? (ad252.add ((x5_2).toNat * 7)) = some (.string ((rd_T63 l0_1 x5_2).f0)) ∧ w'.cell? ⟨(ad252.add ((x5_2).toNat * 7)).block, (ad252.add ((x5_2).toNat * 7)).off + 1, none⟩ = some (.int .i64 ((rd_T63 l0_1 x5_2).f1)) ∧ w'.cell? ⟨(ad252.add ((x5_2).toNat * 7)).block, (ad252.add ((x5_2).toNat * 7)).off + 2, none⟩ = some (.int .i64 ((rd_T63 l0_1 x5_2).f2)) ∧ w'.cell? ⟨(ad252.add ((x5_2).toNat * 7)).block, (ad252.add ((x5_2).toNat * 7)).off + 3, none⟩ = some (.int .i64 ((rd_T63 l0_1 x5_2).f3)) ∧ w'.cell? ⟨(ad252.add ((x5_2).toNat * 7)).block, (ad252.add ((x5_2).toNat * 7)).off + 4, none⟩ = some (.int .i64 ((rd_T63 l0_1 x5_2).f4)) ∧ w'.cell? ⟨(ad252.add ((x5_2).toNat * 7)).block, (ad252.add ((x5_2).toNat * 7)).off + 5, none⟩ = some (.int .i64 ((rd_T63 l0_1 x5_2).f5)) ∧ w'.cell? ⟨(ad252.add ((x5_2).toNat * 7)).block, (ad252.add ((x5_2).toNat * 7)).off + 6, none⟩ = some (.slice A260_6 ((rd_T63 l0_1 x5_2).f6).length c260_6)) (ds := []) #[false, false, false, false, false, false, false, false] (by kernel_rfl) rfl rfl ⟨(blk_cell BK246.out 0).trans rfl, (blk_cell BK246.out 1).trans rfl, (blk_cell BK246.out 2).trans rfl, (blk_cell BK246.out 3).trans rfl, (blk_cell BK246.out 4).trans rfl, (blk_cell BK246.out 5).trans rfl, (blk_cell BK246.out 6).trans rfl, ((HB.out.cell (World.block_lt_of_cell? w _ hw260_0)).trans hw260_0), ((HB.out.cell (World.block_lt_of_cell? w _ hw260_1)).trans hw260_1), ((HB.out.cell (World.block_lt_of_cell? w _ hw260_2)).trans hw260_2), ((HB.out.cell (World.block_lt_of_cell? w _ hw260_3)).trans hw260_3), ((HB.out.cell (World.block_lt_of_cell? w _ hw260_4)).trans hw260_4), ((HB.out.cell (World.block_lt_of_cell? w _ hw260_5)).trans hw260_5), ((HB.out.cell (World.block_lt_of_cell? w _ hw260_6)).trans hw260_6)⟩ (fun hHeld => ?_); refine with_tabW rf_Check.tab25 rf_Check.bits25 (fun HT_ HW_ => ?_)
                generalize w43.drew = w44 at HO259 BK246 HB HR260_6 hx260_0 hx260_1 hx260_2 hx260_3 hx260_4 hx260_5 hx260_6 hHeld ⊢
                refine pure_ (i := 1) (N := some 83) (v := ?_) (a' := ?_) #[false, true, false, false, false, false, false, false] rfl rfl (any_of HT_.out (by kernel_rfl)) (fun _ _ _ h => h) (Or.inl ⟨by rfl, ?_⟩) ?_ ?_
                rotate_left
                ·exact tW
                rotate_left
                ·exact tP
                refine pure_ (i := 3) (N := some 85) (v := ?_) (a' := ?_) #[false, true, false, true, false, false, false, false] rfl rfl (any_of HT_.out (by kernel_rfl)) (fun _ _ _ h => h) (Or.inl ⟨by rfl, ?_⟩) ?_ ?_
                rotate_left
                ·exact tW
                rotate_left
                ·exact tP
                refine take_ (i := 0) (N := some 82) (v := ?_) (a' := ?_) #[true, true, false, true, false, false, false, false] rfl rfl (take_ofW HT_.out HW_.out (by kernel_rfl)) (fun _ _ _ h => h) (Or.inl ⟨by rfl, ?_⟩) hHeld ?_ ?_
                rotate_left
                ·rintro w' ⟨s0, s1, s2, s3, s4, s5, s6, s7, s8, s9, s10, s11, s12, s13⟩
                 go_simp
                 with_reducible rfl
                rotate_left
                ·exact tP
                refine take_ (i := 2) (N := some 84) (v := ?_) (a' := ?_) #[true, true, true, true, false, false, false, false] rfl rfl (take_ofW HT_.out HW_.out (by kernel_rfl)) (fun _ _ _ h => h) (Or.inl ⟨by rfl, ?_⟩) hHeld ?_ ?_
                rotate_left
                ·rintro w' ⟨s0, s1, s2, s3, s4, s5, s6, s7, s8, s9, s10, s11, s12, s13⟩
                 go_simp
                 with_reducible rfl
                rotate_left
                ·exact tP
                refine pure_ (i := 4) (N := some 86) (v := ?_) (a' := ?_) #[true, true, true, true, true, false, false, false] rfl rfl (any_of HT_.out (by kernel_rfl)) (fun _ _ _ h => h) (Or.inl ⟨by rfl, ?_⟩) ?_ ?_
                rotate_left
                ·exact tW
                rotate_left
                ·exact tP
                refine take_ (i := 5) (N := some 87) (v := ?_) (a' := ?_) #[true, true, true, true, true, true, false, false] rfl rfl (take_ofW HT_.out HW_.out (by kernel_rfl)) (fun _ _ _ h => h) (Or.inl ⟨by rfl, ?_⟩) hHeld ?_ ?_
                rotate_left
                ·rintro w' ⟨s0, s1, s2, s3, s4, s5, s6, s7, s8, s9, s10, s11, s12, s13⟩
                 go_simp
                 with_reducible rfl
                rotate_left
                ·exact tP
                refine one_ (i := 6) (N := some 88) #[true, true, true, true, true, true, true, false] rfl rfl (one_of HT_.out (by kernel_rfl)) (by decide) (fun K hK => ?_)
                refine goes_ Try.func76 (by kernel_rfl) rfl #[.agg #[.slice A0_0 l0_0.length c0_0, .slice (some ad252) l0_1.length c0_1, .slice A0_2 l0_2.length c0_2, .slice A0_3 l0_3.length c0_3, .int .i64 a0_4, .int .i64 a0_5, .int .i64 a0_6], .agg #[.string ((rd_T63 l0_1 x5_2).f0), .int .i64 ((rd_T63 l0_1 x5_2).f1), .int .i64 ((rd_T63 l0_1 x5_2).f2), .int .i64 ((rd_T63 l0_1 x5_2).f3), .int .i64 ((rd_T63 l0_1 x5_2).f4), .int .i64 ((rd_T63 l0_1 x5_2).f5), .slice A260_6 ((rd_T63 l0_1 x5_2).f6).length c260_6]] (by rfl) rfl rfl tM ?_
                with_reducible refine (rf_material.calls k2 _ _ l0_0 _ _ l0_1 _ _ l0_2 _ _ l0_3 a0_4 a0_5 a0_6 ((rd_T63 l0_1 x5_2).f0) ((rd_T63 l0_1 x5_2).f1) ((rd_T63 l0_1 x5_2).f2) ((rd_T63 l0_1 x5_2).f3) ((rd_T63 l0_1 x5_2).f4) ((rd_T63 l0_1 x5_2).f5) _ _ ((rd_T63 l0_1 x5_2).f6) t261 _ ?side1 ?side2 ?side3 ?side4 ?side5 ?side6 ?side7 ?side8 ?side9 ?side10 A39.out).mono ?_
                (case side1 => exact cS (Kd.C_below HR0_0.out HB.out))
                (case side2 => exact HC0_0.out)
                (case side3 => exact cS (Kd.C_below HR0_1.out HB.out))
                (case side4 => exact HC0_1.out)
                (case side5 => exact cS (Kd.C_below HR0_2.out HB.out))
                (case side6 => exact HC0_2.out)
                (case side7 => exact cS (Kd.C_below HR0_3.out HB.out))
                (case side8 => exact HC0_3.out)
                (case side9 => exact cS (Kd.C_below HR260_6.out HB.out))
                (case side10 => exact HC260_6.out)
                rintro e w45 ⟨rfl, hb⟩
                refine ⟨_, rfl, ?_⟩
                replace HO259 := Sd.mk (Kd.R_below (by (with_reducible repeat (first | apply Kd.R_alloc | apply Kd.R_drewN | apply Kd.R_drew)); exact HO259.out) hb)
                replace BK246 := Sd.mk (blk_below (bkA BK246.out) hb); replace HB := Sd.mk (below_step (bBl HB.out) hb)
                (try clear hb)
                (try clear hb2)
                (try clear hk)
                (try clear hi)
                refine hK.out _ _ ⟨(blk_cell BK246.out 0).trans rfl, (blk_cell BK246.out 1).trans rfl, (blk_cell BK246.out 2).trans rfl, (blk_cell BK246.out 3).trans rfl, (blk_cell BK246.out 4).trans rfl, (blk_cell BK246.out 5).trans rfl, (blk_cell BK246.out 6).trans rfl, ((HB.out.cell (World.block_lt_of_cell? w _ hw260_0)).trans hw260_0), ((HB.out.cell (World.block_lt_of_cell? w _ hw260_1)).trans hw260_1), ((HB.out.cell (World.block_lt_of_cell? w _ hw260_2)).trans hw260_2), ((HB.out.cell (World.block_lt_of_cell? w _ hw260_3)).trans hw260_3), ((HB.out.cell (World.block_lt_of_cell? w _ hw260_4)).trans hw260_4), ((HB.out.cell (World.block_lt_of_cell? w _ hw260_5)).trans hw260_5), ((HB.out.cell (World.block_lt_of_cell? w _ hw260_6)).trans hw260_6)⟩ (fun hHeld => ?_)
                clear hK K
                refine norm_ (a' := ?_) ?_ ?_
                rotate_left
                ·show Act.put _ (some 88) _ = _
                 exact tP
                refine pure_ (i := 7) (N := some 6) (v := ?_) (a' := ?_) #[true, true, true, true, true, true, true, true] rfl rfl (any_of HT_.out (by kernel_rfl)) (fun _ _ _ h => h) (Or.inl ⟨by rfl, ?_⟩) ?_ ?_
                rotate_left
                ·exact tW
                rotate_left
                ·exact tP
                refine done_ (done_of HT_.out (by kernel_rfl)) ?_
                try go_wp2
                go_roundg k2
                case measure => have := HK1.out; have := HK2.out; omega
                case rel => exact ⟨(y257), (wrap64 (x5_2 + 1)), tS, H', ⟨by have := HK1.out; have := HK2.out; omega⟩, ⟨by (with_reducible repeat (first | apply Kd.R_alloc | apply Kd.R_drewN | apply Kd.R_drew)); exact HO259.out⟩, ⟨bkA BK246.out⟩, ⟨bBl HB.out⟩⟩
               ·rw [if_neg c40] at H
                have c40b0 : (t261 == 0) = false := beq_eq_false_iff_ne.mpr c40
                have c40b1 : (t261 != 0) = true := bne_iff_ne.mpr c40
                obtain rfl := Option.some.inj H; obtain ⟨u46_0, u46_1, u46_2, u46_3, u46_4, u46_5, u46_6, o46_0, o46_1, o46_2, o46_3, o46_4, o46_5, o46_6⟩ := bc7 (w := wr) BK246.out
                have p252 : 0 ≤ (x5_2 : Int) := tB
                have q252 : x5_2 < (l0_1.length : Int) := tB
                obtain ⟨ad252, A252_6, c252_6, e252, hx252_0, hx252_1, hx252_2, hx252_3, hx252_4, hx252_5, hx252_6, hl252_6, hi252_6⟩ := at_T63 HR0_1.out x5_2 p252 q252; cases e252; replace hx252_0 := cU HB hx252_0; replace hx252_1 := cU HB hx252_1; replace hx252_2 := cU HB hx252_2; replace hx252_3 := cU HB hx252_3; replace hx252_4 := cU HB hx252_4; replace hx252_5 := cU HB hx252_5; replace hx252_6 := cU HB hx252_6; have HR252_6 := Sd.mk hi252_6; have HC252_6 := Sd.mk hl252_6; clear hi252_6 hl252_6; replace p252 := eq_true p252; replace q252 := eq_true q252
                try go_wp2_with (first | ((with_reducible refine gate_callee (f := 74) rfl ?_); refine goesL_ (some 63) rfl rfl Try.func74 (by kernel_rfl) rfl #[.string ((rd_T63 l0_1 x5_2).f0)] rfl tM ?_; (with_reducible refine (rf_Name.calls k2 ((rd_T63 l0_1 x5_2).f0) true _ A32.out).mono ?_); rintro e w' ⟨rfl, ⟨nd, rfl⟩⟩; refine ⟨_, rfl, ?_⟩; have p254 : 0 ≤ (x5_2 : Int) := tB; have q254 : x5_2 < (l0_1.length : Int) := tB; obtain ⟨ad254, A254_6, c254_6, e254, hx254_0, hx254_1, hx254_2, hx254_3, hx254_4, hx254_5, hx254_6, hl254_6, hi254_6⟩ := at_T63 HR0_1.out x5_2 p254 q254; obtain rfl : ad252 = ad254 := (by injection e254); replace hx254_0 := cU HB hx254_0; replace hx254_1 := cU HB hx254_1; replace hx254_2 := cU HB hx254_2; replace hx254_3 := cU HB hx254_3; replace hx254_4 := cU HB hx254_4; replace hx254_5 := cU HB hx254_5; replace hx254_6 := cU HB hx254_6; have HR254_6 := Sd.mk hi254_6; have HC254_6 := Sd.mk hl254_6; clear hi254_6 hl254_6; replace p254 := eq_true p254; replace q254 := eq_true q254; have ea_ := Option.some.inj (hx252_6.symm.trans hx254_6); injection ea_ with ea_ en_ ec_; subst ea_; subst ec_; clear en_; obtain ⟨Ao47, co47, eo47⟩ := Kd.R_slice HO_4.out; subst eo47) | ((with_reducible refine gate_callee (f := 75) rfl ?_); refine goesL_ (some 72) rfl rfl Try.func75 (by kernel_rfl) rfl #[.slice Ao47 x4_2.length co47, .string ((rd_T63 l0_1 x5_2).f0)] rfl tM ?_; (with_reducible refine (rf_in.calls k2 _ _ x4_2 ((rd_T63 l0_1 x5_2).f0) false _ (cS ((Kd.R_reads' HO_4.out).2.2)) ((Kd.R_reads' HO_4.out).2.1) A34.out).mono ?_); rintro e w' ⟨rfl, ⟨nd, rfl⟩⟩; refine ⟨_, rfl, ?_⟩; have p256 : 0 ≤ (x5_2 : Int) := tB; have q256 : x5_2 < (l0_1.length : Int) := tB; obtain ⟨ad256, A256_6, c256_6, e256, hx256_0, hx256_1, hx256_2, hx256_3, hx256_4, hx256_5, hx256_6, hl256_6, hi256_6⟩ := at_T63 HR0_1.out x5_2 p256 q256; obtain rfl : ad252 = ad256 := (by injection e256); replace hx256_0 := cU HB hx256_0; replace hx256_1 := cU HB hx256_1; replace hx256_2 := cU HB hx256_2; replace hx256_3 := cU HB hx256_3; replace hx256_4 := cU HB hx256_4; replace hx256_5 := cU HB hx256_5; replace hx256_6 := cU HB hx256_6; have HR256_6 := Sd.mk hi256_6; have HC256_6 := Sd.mk hl256_6; clear hi256_6 hl256_6; replace p256 := eq_true p256; replace q256 := eq_true q256; have ea_ := Option.some.inj (hx252_6.symm.trans hx256_6); injection ea_ with ea_ en_ ec_; subst ea_; subst ec_; clear en_) | ((with_reducible refine gate_builtin (b := .append) (xs := #[.tmp 73, .tmp 80]) rfl ?_); at_builtin; refine Kd.R_append Kd.string (w0 := w) w.heap.size rfl (.tmp 73) (.tmp 80) 22 9 (.string ⟨#[]⟩) 16 rfl Try.underlying22 info9 rfl (by decide) (by omega) (.slice Ao47 x4_2.length co47) x4_2 ((rd_T63 l0_1 x5_2).f0) [.string ((rd_T63 l0_1 x5_2).f0)] (fun _ => True) (fun _ => False) rfl rfl ?aP (fun _ hk => hk.elim) ?aF ?aO ?aB ?aS ?aL ?_; (case aP => exact rfl); (case aB => exact (bBl HB.out)); (case aF => exact (fun _ _ => trivial)); (case aO => exact (by (with_reducible repeat (first | apply Kd.R_alloc | apply Kd.R_drewN | apply Kd.R_drew)); exact HO_4.out)); (case aS => exact (below_size (bBl HB.out))); (case aL => have := LMc38.out; omega); intro v258 w48 ho hb hg hat; rw [← Ny257.out] at ho; replace BK246 := Sd.mk (blk_grown (bkA BK246.out) hg (Kd.R_ne HO_4.out BK246.out (by decide))); replace HB := Sd.mk (hb); have HO259 := Sd.mk (ho); clear HO_4; clear ho hb hg hat))
                replace HO259 := Sd.mk (Kd.R_drew HO259.out); replace BK246 := Sd.mk (blk_drew BK246.out); replace HB := Sd.mk (below_drew1 HB.out)
                have p260 : 0 ≤ (x5_2 : Int) := tB
                have q260 : x5_2 < (l0_1.length : Int) := tB
                obtain ⟨ad260, A260_6, c260_6, e260, hx260_0, hx260_1, hx260_2, hx260_3, hx260_4, hx260_5, hx260_6, hl260_6, hi260_6⟩ := at_T63 HR0_1.out x5_2 p260 q260; have hw260_6 := hx260_6; have hw260_5 := hx260_5; have hw260_4 := hx260_4; have hw260_3 := hx260_3; have hw260_2 := hx260_2; have hw260_1 := hx260_1; have hw260_0 := hx260_0
                obtain rfl : ad252 = ad260 := (by injection e260)
                replace hx260_0 := cU HB hx260_0; replace hx260_1 := cU HB hx260_1; replace hx260_2 := cU HB hx260_2; replace hx260_3 := cU HB hx260_3; replace hx260_4 := cU HB hx260_4; replace hx260_5 := cU HB hx260_5; replace hx260_6 := cU HB hx260_6; have HR260_6 := Sd.mk hi260_6; have HC260_6 := Sd.mk hl260_6; clear hi260_6 hl260_6; replace p260 := eq_true p260; replace q260 := eq_true q260
                refine start_ (n := 8) (S := fun w' => w'.cell? ⟨gb246, 0, none⟩ = some (.slice A0_0 l0_0.length c0_0) ∧ w'.cell? ⟨gb246, 1, none⟩ = some (.slice (some ad252) l0_1.length c0_1) ∧ w'.cell? ⟨gb246, 2, none⟩ = some (.slice A0_2 l0_2.length c0_2) ∧ w'.cell? ⟨gb246, 3, none⟩ = some (.slice A0_3 l0_3.length c0_3) ∧ w'.cell? ⟨gb246, 4, none⟩ = some (.int .i64 a0_4) ∧ w'.cell? ⟨gb246, 5, none⟩ = some (.int .i64 a0_5) ∧ w'.cell? ⟨gb246, 6, none⟩ = some (.int .i64 a0_6) ∧ w'.cell? (ad252.add ((x5_2).toNat * 7)) = some (.string ((rd_T63 l0_1 x5_2).f0)) ∧ w'.cell? ⟨(ad252.add ((x5_2).toNat * 7)).block, (ad252.add ((x5_2).toNat * 7)).off + 1, none⟩ = some (.int .i64 ((rd_T63 l0_1 x5_2).f1)) ∧ w'.cell? ⟨(ad252.add ((x5_2).toNat * 7)).block, (ad252.add ((x5_2).toNat * 7)).off + 2, none⟩ = some (.int .i64 ((rd_T63 l0_1 x5_2).f2)) ∧ w'.cell? ⟨(ad252.add ((x5_2).toNat * 7)).block, (ad252.add ((x5_2).toNat * 7)).off + 3, none⟩ = some (.int .i64 ((rd_T63 l0_1 x5_2).f3)) ∧ w'.cell? ⟨(ad252.add ((x5_2).toNat * 7)).block, (ad252.add ((x5_2).toNat * 7)).off + 4, none⟩ = some (.int .i64 ((rd_T63 l0_1 x5_2).f4)) ∧ w'.cell? ⟨(ad252.add ((x5_2).toNat * 7)).block, (ad252.add ((x5_2).toNat * 7)).off + 5, none⟩ = some (.int .i64 ((rd_T63 l0_1 x5_2).f5)) ∧ w'.cell? ⟨(ad252.add ((x5_2).toNat * 7)).block, (ad252.add ((x5_2).toNat * 7)).off + 6, none⟩ = some (.slice A260_6 ((rd_T63 l0_1 x5_2).f6).length c260_6)) (ds := []) #[false, false, false, false, false, false, false, false] (by kernel_rfl) rfl rfl ⟨(blk_cell BK246.out 0).trans rfl, (blk_cell BK246.out 1).trans rfl, (blk_cell BK246.out 2).trans rfl, (blk_cell BK246.out 3).trans rfl, (blk_cell BK246.out 4).trans rfl, (blk_cell BK246.out 5).trans rfl, (blk_cell BK246.out 6).trans rfl, ((HB.out.cell (World.block_lt_of_cell? w _ hw260_0)).trans hw260_0), ((HB.out.cell (World.block_lt_of_cell? w _ hw260_1)).trans hw260_1), ((HB.out.cell (World.block_lt_of_cell? w _ hw260_2)).trans hw260_2), ((HB.out.cell (World.block_lt_of_cell? w _ hw260_3)).trans hw260_3), ((HB.out.cell (World.block_lt_of_cell? w _ hw260_4)).trans hw260_4), ((HB.out.cell (World.block_lt_of_cell? w _ hw260_5)).trans hw260_5), ((HB.out.cell (World.block_lt_of_cell? w _ hw260_6)).trans hw260_6)⟩ (fun hHeld => ?_); refine with_tabW rf_Check.tab25 rf_Check.bits25 (fun HT_ HW_ => ?_)
                generalize w48.drew = w49 at HO259 BK246 HB HR260_6 hx260_0 hx260_1 hx260_2 hx260_3 hx260_4 hx260_5 hx260_6 hHeld ⊢
                refine pure_ (i := 1) (N := some 83) (v := ?_) (a' := ?_) #[false, true, false, false, false, false, false, false] rfl rfl (any_of HT_.out (by kernel_rfl)) (fun _ _ _ h => h) (Or.inl ⟨by rfl, ?_⟩) ?_ ?_
                rotate_left
                ·exact tW
                rotate_left
                ·exact tP
                refine pure_ (i := 3) (N := some 85) (v := ?_) (a' := ?_) #[false, true, false, true, false, false, false, false] rfl rfl (any_of HT_.out (by kernel_rfl)) (fun _ _ _ h => h) (Or.inl ⟨by rfl, ?_⟩) ?_ ?_
                rotate_left
                ·exact tW
                rotate_left
                ·exact tP
                refine take_ (i := 0) (N := some 82) (v := ?_) (a' := ?_) #[true, true, false, true, false, false, false, false] rfl rfl (take_ofW HT_.out HW_.out (by kernel_rfl)) (fun _ _ _ h => h) (Or.inl ⟨by rfl, ?_⟩) hHeld ?_ ?_
                rotate_left
                ·rintro w' ⟨s0, s1, s2, s3, s4, s5, s6, s7, s8, s9, s10, s11, s12, s13⟩
                 go_simp
                 with_reducible rfl
                rotate_left
                ·exact tP
                refine take_ (i := 2) (N := some 84) (v := ?_) (a' := ?_) #[true, true, true, true, false, false, false, false] rfl rfl (take_ofW HT_.out HW_.out (by kernel_rfl)) (fun _ _ _ h => h) (Or.inl ⟨by rfl, ?_⟩) hHeld ?_ ?_
                rotate_left
                ·rintro w' ⟨s0, s1, s2, s3, s4, s5, s6, s7, s8, s9, s10, s11, s12, s13⟩
                 go_simp
                 with_reducible rfl
                rotate_left
                ·exact tP
                refine pure_ (i := 4) (N := some 86) (v := ?_) (a' := ?_) #[true, true, true, true, true, false, false, false] rfl rfl (any_of HT_.out (by kernel_rfl)) (fun _ _ _ h => h) (Or.inl ⟨by rfl, ?_⟩) ?_ ?_
                rotate_left
                ·exact tW
                rotate_left
                ·exact tP
                refine take_ (i := 5) (N := some 87) (v := ?_) (a' := ?_) #[true, true, true, true, true, true, false, false] rfl rfl (take_ofW HT_.out HW_.out (by kernel_rfl)) (fun _ _ _ h => h) (Or.inl ⟨by rfl, ?_⟩) hHeld ?_ ?_
                rotate_left
                ·rintro w' ⟨s0, s1, s2, s3, s4, s5, s6, s7, s8, s9, s10, s11, s12, s13⟩
                 go_simp
                 with_reducible rfl
                rotate_left
                ·exact tP
                refine one_ (i := 6) (N := some 88) #[true, true, true, true, true, true, true, false] rfl rfl (one_of HT_.out (by kernel_rfl)) (by decide) (fun K hK => ?_)
                refine goes_ Try.func76 (by kernel_rfl) rfl #[.agg #[.slice A0_0 l0_0.length c0_0, .slice (some ad252) l0_1.length c0_1, .slice A0_2 l0_2.length c0_2, .slice A0_3 l0_3.length c0_3, .int .i64 a0_4, .int .i64 a0_5, .int .i64 a0_6], .agg #[.string ((rd_T63 l0_1 x5_2).f0), .int .i64 ((rd_T63 l0_1 x5_2).f1), .int .i64 ((rd_T63 l0_1 x5_2).f2), .int .i64 ((rd_T63 l0_1 x5_2).f3), .int .i64 ((rd_T63 l0_1 x5_2).f4), .int .i64 ((rd_T63 l0_1 x5_2).f5), .slice A260_6 ((rd_T63 l0_1 x5_2).f6).length c260_6]] (by rfl) rfl rfl tM ?_
                with_reducible refine (rf_material.calls k2 _ _ l0_0 _ _ l0_1 _ _ l0_2 _ _ l0_3 a0_4 a0_5 a0_6 ((rd_T63 l0_1 x5_2).f0) ((rd_T63 l0_1 x5_2).f1) ((rd_T63 l0_1 x5_2).f2) ((rd_T63 l0_1 x5_2).f3) ((rd_T63 l0_1 x5_2).f4) ((rd_T63 l0_1 x5_2).f5) _ _ ((rd_T63 l0_1 x5_2).f6) t261 _ ?side1 ?side2 ?side3 ?side4 ?side5 ?side6 ?side7 ?side8 ?side9 ?side10 A39.out).mono ?_
                (case side1 => exact cS (Kd.C_below HR0_0.out HB.out))
                (case side2 => exact HC0_0.out)
                (case side3 => exact cS (Kd.C_below HR0_1.out HB.out))
                (case side4 => exact HC0_1.out)
                (case side5 => exact cS (Kd.C_below HR0_2.out HB.out))
                (case side6 => exact HC0_2.out)
                (case side7 => exact cS (Kd.C_below HR0_3.out HB.out))
                (case side8 => exact HC0_3.out)
                (case side9 => exact cS (Kd.C_below HR260_6.out HB.out))
                (case side10 => exact HC260_6.out)
                rintro e w50 ⟨rfl, hb⟩
                refine ⟨_, rfl, ?_⟩
                replace HO259 := Sd.mk (Kd.R_below (by (with_reducible repeat (first | apply Kd.R_alloc | apply Kd.R_drewN | apply Kd.R_drew)); exact HO259.out) hb)
                replace BK246 := Sd.mk (blk_below (bkA BK246.out) hb); replace HB := Sd.mk (below_step (bBl HB.out) hb)
                (try clear hb)
                (try clear hb2)
                (try clear hk)
                (try clear hi)
                refine hK.out _ _ ⟨(blk_cell BK246.out 0).trans rfl, (blk_cell BK246.out 1).trans rfl, (blk_cell BK246.out 2).trans rfl, (blk_cell BK246.out 3).trans rfl, (blk_cell BK246.out 4).trans rfl, (blk_cell BK246.out 5).trans rfl, (blk_cell BK246.out 6).trans rfl, ((HB.out.cell (World.block_lt_of_cell? w _ hw260_0)).trans hw260_0), ((HB.out.cell (World.block_lt_of_cell? w _ hw260_1)).trans hw260_1), ((HB.out.cell (World.block_lt_of_cell? w _ hw260_2)).trans hw260_2), ((HB.out.cell (World.block_lt_of_cell? w _ hw260_3)).trans hw260_3), ((HB.out.cell (World.block_lt_of_cell? w _ hw260_4)).trans hw260_4), ((HB.out.cell (World.block_lt_of_cell? w _ hw260_5)).trans hw260_5), ((HB.out.cell (World.block_lt_of_cell? w _ hw260_6)).trans hw260_6)⟩ (fun hHeld => ?_)
                clear hK K
                refine norm_ (a' := ?_) ?_ ?_
                rotate_left
                ·show Act.put _ (some 88) _ = _
                 exact tP
                refine pure_ (i := 7) (N := some 6) (v := ?_) (a' := ?_) #[true, true, true, true, true, true, true, true] rfl rfl (any_of HT_.out (by kernel_rfl)) (fun _ _ _ h => h) (Or.inl ⟨by rfl, ?_⟩) ?_ ?_
                rotate_left
                ·exact tW
                rotate_left
                ·exact tP
                refine done_ (done_of HT_.out (by kernel_rfl)) ?_
                try go_wp2
                go_ret
                exact ⟨tE, bBl HB.out⟩
              ·rw [if_neg c38] at H
               exact absurd H (by simp)
            ·replace c33 := Bool.eq_false_iff.mpr c33
             subst c33
             have H1 : (some 5) = some r := by rw [if_neg (show ¬ (false = true) by decide)] at H; exact H
             clear H; have H := H1; clear H1; obtain rfl := Option.some.inj H; obtain ⟨u51_0, u51_1, u51_2, u51_3, u51_4, u51_5, u51_6, o51_0, o51_1, o51_2, o51_3, o51_4, o51_5, o51_6⟩ := bc7 (w := wr) BK246.out
             have p252 : 0 ≤ (x5_2 : Int) := tB
             have q252 : x5_2 < (l0_1.length : Int) := tB
             obtain ⟨ad252, A252_6, c252_6, e252, hx252_0, hx252_1, hx252_2, hx252_3, hx252_4, hx252_5, hx252_6, hl252_6, hi252_6⟩ := at_T63 HR0_1.out x5_2 p252 q252; cases e252; replace hx252_0 := cU HB hx252_0; replace hx252_1 := cU HB hx252_1; replace hx252_2 := cU HB hx252_2; replace hx252_3 := cU HB hx252_3; replace hx252_4 := cU HB hx252_4; replace hx252_5 := cU HB hx252_5; replace hx252_6 := cU HB hx252_6; have HR252_6 := Sd.mk hi252_6; have HC252_6 := Sd.mk hl252_6; clear hi252_6 hl252_6; replace p252 := eq_true p252; replace q252 := eq_true q252
             go_wp2_with (first | ((with_reducible refine gate_callee (f := 74) rfl ?_); refine goesL_ (some 63) rfl rfl Try.func74 (by kernel_rfl) rfl #[.string ((rd_T63 l0_1 x5_2).f0)] rfl tM ?_; (with_reducible refine (rf_Name.calls k2 ((rd_T63 l0_1 x5_2).f0) false _ A32.out).mono ?_); rintro e w' ⟨rfl, ⟨nd, rfl⟩⟩; refine ⟨_, rfl, ?_⟩))
             go_ret
             exact ⟨tE, bBl HB.out⟩
           ·rw [if_neg c31] at H
            exact absurd H (by simp)
          ·rw [if_neg c30] at H
           have c30b0 : decide (x5_2 < (l0_1.length : Int)) = false := decide_eq_false c30
           clear c30
           by_cases c52 : (l0_2.length : Int) = (l0_0.length : Int)
           ·rw [if_pos c52] at H
            have c52b0 : ((l0_2.length : Int) == (l0_0.length : Int)) = true := beq_iff_eq.mpr c52
            have c52b1 : ((l0_2.length : Int) != (l0_0.length : Int)) = false := bne_eq_false_iff_eq.mpr c52
            have c52b2 : (l0_2.length == l0_0.length) = true := by first | simpa using c52 | (simp at c52 ⊢; omega)
            clear c52; have H' := Sd.mk H; clear H; obtain ⟨u53_0, u53_1, u53_2, u53_3, u53_4, u53_5, u53_6, o53_0, o53_1, o53_2, o53_3, o53_4, o53_5, o53_6⟩ := bc7 (w := wr) BK246.out
            go_wp2
            go_loopg [7] k2 (fun kq v7 w' => ∃ (x7_3 : Int), v7 = .int .i64 x7_3 ∧ Sd (rf_Check.l2 kq x7_3 l0_0 l0_1 l0_2 l0_3 a0_4 a0_5 a0_6 = some r) ∧ Sd (kq ≤ k2) ∧ Sd (w'.heap[gb246]? = some (.cells #[(.slice A0_0 l0_0.length c0_0), (.slice A0_1 l0_1.length c0_1), (.slice A0_2 l0_2.length c0_2), (.slice A0_3 l0_3.length c0_3), .int .i64 a0_4, .int .i64 a0_5, .int .i64 a0_6] 29 (0, 0))) ∧ Sd (Below w.heap.size w w'))
            case atStart => exact ⟨(0), tS, H', ⟨Nat.le_refl _⟩, ⟨bkA BK246.out⟩, ⟨bBl HB.out⟩⟩
            case round =>
             clear H'; (try clear c2); (try clear p2 p2); (try clear q2); (try clear hx2); (try clear c3); (try clear c4); (try clear c5); (try clear p6); (try clear c7); (try clear p24); (try clear q24); (try clear hx24); (try clear c25); (try clear p25); (try clear q25); (try clear hx25); (try clear c26); (try clear p26); (try clear q26); (try clear hx26); (try clear c30); (try clear c30b0); (try clear c31); (try clear c31b0); (try clear c33); (try clear c35); (try clear c38); (try clear c40); (try clear c40b0); (try clear c40b1); (try clear c52); (try clear c52b0); (try clear c52b1); (try clear c52b2); (try clear u28_5 u28_6); (try clear u29_0 u29_1 u29_2 u29_3 u29_4 u29_5 u29_6); (try clear u36_0 u36_1 u36_2 u36_3 u36_4 u36_5 u36_6); (try clear u41_0 u41_1 u41_2 u41_3 u41_4 u41_5 u41_6); (try clear u46_0 u46_1 u46_2 u46_3 u46_4 u46_5 u46_6); (try clear u4_0 u4_1 u4_2 u4_3 u4_4 u4_5 u4_6); (try clear u51_0 u51_1 u51_2 u51_3 u51_4 u51_5 u51_6); (try clear u53_0 u53_1 u53_2 u53_3 u53_4 u53_5 u53_6); (try clear u7_0 u7_1 u7_2 u7_3 u7_4 u7_5 u7_6); (try clear u9_0 u9_1 u9_2 u9_3 u9_4 u9_5 u9_6); (try clear o18_0 o18_1 o18_2 o18_3 o18_4 o18_5 o18_6); (try clear o21_0 o21_1 o21_2 o21_3 o21_4 o21_5 o21_6); (try clear o24_0 o24_1 o24_2 o24_3 o24_4 o24_5 o24_6); (try clear o26_0 o26_1 o26_2 o26_3 o26_4 o26_5 o26_6); (try clear o28_0 o28_1 o28_2 o28_3 o28_4 o28_5 o28_6); (try clear o29_0 o29_1 o29_2 o29_3 o29_4 o29_5 o29_6); (try clear o36_0 o36_1 o36_2 o36_3 o36_4 o36_5 o36_6); (try clear o41_0 o41_1 o41_2 o41_3 o41_4 o41_5 o41_6); (try clear o46_0 o46_1 o46_2 o46_3 o46_4 o46_5 o46_6); (try clear o4_0 o4_1 o4_2 o4_3 o4_4 o4_5 o4_6); (try clear o51_0 o51_1 o51_2 o51_3 o51_4 o51_5 o51_6); (try clear o53_0 o53_1 o53_2 o53_3 o53_4 o53_5 o53_6); (try clear o7_0 o7_1 o7_2 o7_3 o7_4 o7_5 o7_6); (try clear o9_0 o9_1 o9_2 o9_3 o9_4 o9_5 o9_6); (try clear hx247_0); (try clear hx250_0); (try clear hx252_0); (try clear hx252_1); (try clear hx252_2); (try clear hx252_3); (try clear hx252_4); (try clear hx252_5); (try clear hx252_6); (try clear hx254_0); (try clear hx254_1); (try clear hx254_2); (try clear hx254_3); (try clear hx254_4); (try clear hx254_5); (try clear hx254_6); (try clear hx256_0); (try clear hx256_1); (try clear hx256_2); (try clear hx256_3); (try clear hx256_4); (try clear hx256_5); (try clear hx256_6); (try clear hx260_0); (try clear hx260_1); (try clear hx260_2); (try clear hx260_3); (try clear hx260_4); (try clear hx260_5); (try clear hx260_6); (try clear p247); (try clear p250); (try clear p252); (try clear p254); (try clear p256); (try clear p260); (try clear q247); (try clear q250); (try clear q252); (try clear q254); (try clear q256); (try clear q260); obtain ⟨x7_3, rfl, HA, HK3, BK246, HB⟩ := hrel
             cases gk with
             | zero => exact absurd HA.out (by simp [rf_Check.l2])
             | succ k3 =>
              have H := HA.out; clear HA
              simp only [rf_Check.l2] at H
              by_cases c54 : x7_3 < (l0_2.length : Int)
              ·rw [if_pos c54] at H
               have c54b0 : decide (x7_3 < (l0_2.length : Int)) = true := decide_eq_true c54
               clear c54
               by_cases c55 : 0 ≤ x7_3
               ·rw [if_pos c55] at H
                have c55b0 : decide (0 ≤ x7_3) = true := decide_eq_true c55
                clear c55; replace H := Option.bind_eq_some_iff.mp H; obtain ⟨t263, A560, H⟩ := H
                try dsimp only at H
                have A56 := Sd.mk A560; clear A560
                by_cases c57 : t263 = true
                ·subst c57
                 have H1 : (rf_Check.l2 k3 (wrap64 (x7_3 + 1)) l0_0 l0_1 l0_2 l0_3 a0_4 a0_5 a0_6) = some r := by rw [if_pos rfl] at H; exact H
                 clear H; have H := H1; clear H1; have H' := Sd.mk H; clear H; obtain ⟨u58_0, u58_1, u58_2, u58_3, u58_4, u58_5, u58_6, o58_0, o58_1, o58_2, o58_3, o58_4, o58_5, o58_6⟩ := bc7 (w := wr) BK246.out
                 have p262 : 0 ≤ (x7_3 : Int) := tB
                 have q262 : x7_3 < (l0_2.length : Int) := tB
                 obtain ⟨ad262, e262, hx262_0, hx262_1⟩ := at_T27 HR0_2.out x7_3 p262 q262; cases e262; replace hx262_0 := cU HB hx262_0; replace hx262_1 := cU HB hx262_1; replace p262 := eq_true p262; replace q262 := eq_true q262
                 go_wp2_with (first | ((with_reducible refine gate_callee (f := 77) rfl ?_); refine goesL_ (some 111) rfl rfl Try.func77 (by kernel_rfl) rfl #[.agg #[.int .i64 ((rd_T27 l0_2 x7_3).f0), .int .i64 ((rd_T27 l0_2 x7_3).f1)], .int .i64 0, .int .i64 1000] rfl tM ?_; (with_reducible refine (rf_within.calls ((rd_T27 l0_2 x7_3).f0) ((rd_T27 l0_2 x7_3).f1) 0 1000 true _ A56.out).mono ?_); rintro e w59 ⟨rfl, hb⟩; refine ⟨_, rfl, ?_⟩; replace BK246 := Sd.mk (blk_below (bkA BK246.out) hb); replace HB := Sd.mk (below_step (bBl HB.out) hb); (try clear hb); (try clear hb2); (try clear hk); (try clear hi)))
                 go_roundg k3
                 case measure => have := HK1.out; have := HK2.out; have := HK3.out; omega
                 case rel => exact ⟨(wrap64 (x7_3 + 1)), tS, H', ⟨by have := HK1.out; have := HK2.out; have := HK3.out; omega⟩, ⟨bkA BK246.out⟩, ⟨bBl HB.out⟩⟩
                ·replace c57 := Bool.eq_false_iff.mpr c57
                 subst c57
                 have H1 : (some 1) = some r := by rw [if_neg (show ¬ (false = true) by decide)] at H; exact H
                 clear H; have H := H1; clear H1; obtain rfl := Option.some.inj H; obtain ⟨u60_0, u60_1, u60_2, u60_3, u60_4, u60_5, u60_6, o60_0, o60_1, o60_2, o60_3, o60_4, o60_5, o60_6⟩ := bc7 (w := wr) BK246.out
                 have p262 : 0 ≤ (x7_3 : Int) := tB
                 have q262 : x7_3 < (l0_2.length : Int) := tB
                 obtain ⟨ad262, e262, hx262_0, hx262_1⟩ := at_T27 HR0_2.out x7_3 p262 q262; cases e262; replace hx262_0 := cU HB hx262_0; replace hx262_1 := cU HB hx262_1; replace p262 := eq_true p262; replace q262 := eq_true q262
                 go_wp2_with (first | ((with_reducible refine gate_callee (f := 77) rfl ?_); refine goesL_ (some 111) rfl rfl Try.func77 (by kernel_rfl) rfl #[.agg #[.int .i64 ((rd_T27 l0_2 x7_3).f0), .int .i64 ((rd_T27 l0_2 x7_3).f1)], .int .i64 0, .int .i64 1000] rfl tM ?_; (with_reducible refine (rf_within.calls ((rd_T27 l0_2 x7_3).f0) ((rd_T27 l0_2 x7_3).f1) 0 1000 false _ A56.out).mono ?_); rintro e w61 ⟨rfl, hb⟩; refine ⟨_, rfl, ?_⟩; replace BK246 := Sd.mk (blk_below (bkA BK246.out) hb); replace HB := Sd.mk (below_step (bBl HB.out) hb); (try clear hb); (try clear hb2); (try clear hk); (try clear hi)))
                 go_ret
                 exact ⟨tE, bBl HB.out⟩
               ·rw [if_neg c55] at H
                exact absurd H (by simp)
              ·rw [if_neg c54] at H
               have c54b0 : decide (x7_3 < (l0_2.length : Int)) = false := decide_eq_false c54
               clear c54
               by_cases c62 : (l0_3.length : Int) > 6
               ·rw [if_pos c62] at H
                have c62b0 : decide (6 < (l0_3.length : Int)) = true := decide_eq_true c62
                have c62b1 : decide (6 < l0_3.length) = true := decide_eq_true (by omega)
                clear c62; obtain rfl := Option.some.inj H; obtain ⟨u63_0, u63_1, u63_2, u63_3, u63_4, u63_5, u63_6, o63_0, o63_1, o63_2, o63_3, o63_4, o63_5, o63_6⟩ := bc7 (w := wr) BK246.out
                go_wp2
                go_ret
                exact ⟨tE, bBl HB.out⟩
               ·rw [if_neg c62] at H
                have c62b0 : decide (6 < (l0_3.length : Int)) = false := decide_eq_false c62
                have c62b1 : decide (6 < l0_3.length) = false := decide_eq_false (by omega)
                clear c62; have H' := Sd.mk H; clear H; obtain ⟨u64_0, u64_1, u64_2, u64_3, u64_4, u64_5, u64_6, o64_0, o64_1, o64_2, o64_3, o64_4, o64_5, o64_6⟩ := bc7 (w := wr) BK246.out
                go_wp2
                go_loopg [4, 8] k3 (fun kq v4 v8 w' => ∃ (x4_4 : List ByteArray) (x8_4 : Int), v8 = .int .i64 x8_4 ∧ Sd (rf_Check.l3 kq x4_4 x8_4 l0_0 l0_1 l0_2 l0_3 a0_4 a0_5 a0_6 = some r) ∧ Sd (kq ≤ k3) ∧ Sd (Kd.R Kd.string 9 w' w.heap.size (fun _ => True) v4 x4_4) ∧ Sd (w'.heap[gb246]? = some (.cells #[(.slice A0_0 l0_0.length c0_0), (.slice A0_1 l0_1.length c0_1), (.slice A0_2 l0_2.length c0_2), (.slice A0_3 l0_3.length c0_3), .int .i64 a0_4, .int .i64 a0_5, .int .i64 a0_6] 29 (0, 0))) ∧ Sd (Below w.heap.size w w'))
                case atStart => exact ⟨(([] : List ByteArray)), (0), tS, H', ⟨Nat.le_refl _⟩, ⟨by first | exact Kd.R_nil _ _ _ _ _ | exact Kd.N_nil _ _ _ _ _ | exact Kd.V_nil _ _ _ _ _ | exact Kd.Q_nil _ _ _ _ _ | exact Kd.S_nil _ _ _ _ _⟩, ⟨bkA BK246.out⟩, ⟨bBl HB.out⟩⟩
                case round =>
                 clear H'; (try clear c2); (try clear p2 p2); (try clear q2 q2); (try clear hx2); (try clear c3); (try clear c4); (try clear c5); (try clear c6); (try clear p6 p6); (try clear c7); (try clear p24 p24); (try clear q24 q24); (try clear hx24); (try clear c25); (try clear p25 p25); (try clear q25 q25); (try clear hx25); (try clear c26); (try clear p26 p26); (try clear q26 q26); (try clear hx26); (try clear c30); (try clear c30b0); (try clear c31); (try clear c31b0); (try clear c33); (try clear c35); (try clear c38); (try clear c40); (try clear c40b0); (try clear c40b1); (try clear c52); (try clear c52b0); (try clear c52b1); (try clear c52b2); (try clear c54); (try clear c54b0); (try clear c55); (try clear c55b0); (try clear c57); (try clear c62); (try clear c62b0); (try clear c62b1); (try clear p64); (try clear u28_5 u28_6); (try clear u29_0 u29_1 u29_2 u29_3 u29_4 u29_5 u29_6); (try clear u36_0 u36_1 u36_2 u36_3 u36_4 u36_5 u36_6); (try clear u41_0 u41_1 u41_2 u41_3 u41_4 u41_5 u41_6); (try clear u46_0 u46_1 u46_2 u46_3 u46_4 u46_5 u46_6); (try clear u4_0 u4_1 u4_2 u4_3 u4_4 u4_5 u4_6); (try clear u51_0 u51_1 u51_2 u51_3 u51_4 u51_5 u51_6); (try clear u53_0 u53_1 u53_2 u53_3 u53_4 u53_5 u53_6); (try clear u58_0 u58_1 u58_2 u58_3 u58_4 u58_5 u58_6); (try clear u60_0 u60_1 u60_2 u60_3 u60_4 u60_5 u60_6); (try clear u63_0 u63_1 u63_2 u63_3 u63_4 u63_5 u63_6); (try clear u64_0 u64_1 u64_2 u64_3 u64_4 u64_5 u64_6); (try clear u7_0 u7_1 u7_2 u7_3 u7_4 u7_5 u7_6); (try clear u9_0 u9_1 u9_2 u9_3 u9_4 u9_5 u9_6); (try clear o18_0 o18_1 o18_2 o18_3 o18_4 o18_5 o18_6); (try clear o21_0 o21_1 o21_2 o21_3 o21_4 o21_5 o21_6); (try clear o24_0 o24_1 o24_2 o24_3 o24_4 o24_5 o24_6); (try clear o26_0 o26_1 o26_2 o26_3 o26_4 o26_5 o26_6); (try clear o28_0 o28_1 o28_2 o28_3 o28_4 o28_5 o28_6); (try clear o29_0 o29_1 o29_2 o29_3 o29_4 o29_5 o29_6); (try clear o36_0 o36_1 o36_2 o36_3 o36_4 o36_5 o36_6); (try clear o41_0 o41_1 o41_2 o41_3 o41_4 o41_5 o41_6); (try clear o46_0 o46_1 o46_2 o46_3 o46_4 o46_5 o46_6); (try clear o4_0 o4_1 o4_2 o4_3 o4_4 o4_5 o4_6); (try clear o51_0 o51_1 o51_2 o51_3 o51_4 o51_5 o51_6); (try clear o53_0 o53_1 o53_2 o53_3 o53_4 o53_5 o53_6); (try clear o58_0 o58_1 o58_2 o58_3 o58_4 o58_5 o58_6); (try clear o60_0 o60_1 o60_2 o60_3 o60_4 o60_5 o60_6); (try clear o63_0 o63_1 o63_2 o63_3 o63_4 o63_5 o63_6); (try clear o64_0 o64_1 o64_2 o64_3 o64_4 o64_5 o64_6); (try clear o7_0 o7_1 o7_2 o7_3 o7_4 o7_5 o7_6); (try clear o9_0 o9_1 o9_2 o9_3 o9_4 o9_5 o9_6); (try clear hx247_0); (try clear hx250_0); (try clear hx252_0); (try clear hx252_1); (try clear hx252_2); (try clear hx252_3); (try clear hx252_4); (try clear hx252_5); (try clear hx252_6); (try clear hx254_0); (try clear hx254_1); (try clear hx254_2); (try clear hx254_3); (try clear hx254_4); (try clear hx254_5); (try clear hx254_6); (try clear hx256_0); (try clear hx256_1); (try clear hx256_2); (try clear hx256_3); (try clear hx256_4); (try clear hx256_5); (try clear hx256_6); (try clear hx260_0); (try clear hx260_1); (try clear hx260_2); (try clear hx260_3); (try clear hx260_4); (try clear hx260_5); (try clear hx260_6); (try clear hx262_0); (try clear hx262_1); (try clear p247); (try clear p250); (try clear p252); (try clear p254); (try clear p256); (try clear p260); (try clear p262); (try clear q247); (try clear q250); (try clear q252); (try clear q254); (try clear q256); (try clear q260); (try clear q262); obtain ⟨x4_4, x8_4, rfl, HA, HK4, HO_4, BK246, HB⟩ := hrel
                 cases gk with
                 | zero => exact absurd HA.out (by simp [rf_Check.l3])
                 | succ k4 =>
                  have H := HA.out; clear HA
                  simp only [rf_Check.l3] at H
                  by_cases c65 : x8_4 < (l0_3.length : Int)
                  ·rw [if_pos c65] at H
                   have c65b0 : decide (x8_4 < (l0_3.length : Int)) = true := decide_eq_true c65
                   clear c65
                   by_cases c66 : 0 ≤ x8_4
                   ·rw [if_pos c66] at H
                    have c66b0 : decide (0 ≤ x8_4) = true := decide_eq_true c66
                    clear c66; replace H := Option.bind_eq_some_iff.mp H; obtain ⟨t266, A670, H⟩ := H
                    try dsimp only at H
                    have A67 := Sd.mk A670; clear A670
                    by_cases c68 : t266 = true
                    ·subst c68
                     have H1 : ((rf_in.f k4 x4_4 ((rd_T65 l0_3 x8_4).f0)).bind fun t268 => (if t268 = true then (some 6) else (if x4_4.length < 8796093022208 then ((rf_property.f k4 l0_0 l0_1 l0_2 l0_3 a0_4 a0_5 a0_6 ((rd_T65 l0_3 x8_4).f0) ((rd_T65 l0_3 x8_4).f1) ((rd_T65 l0_3 x8_4).f2.f0) ((rd_T65 l0_3 x8_4).f2.f1)).bind fun t274 => (if t274 = 0 then (rf_Check.l3 k4 (x4_4 ++ [(rd_T65 l0_3 x8_4).f0]) (wrap64 (x8_4 + 1)) l0_0 l0_1 l0_2 l0_3 a0_4 a0_5 a0_6) else (some t274))) else (none)))) = some r := by rw [if_pos rfl] at H; exact H
                     clear H; have H := H1; clear H1; replace H := Option.bind_eq_some_iff.mp H; obtain ⟨t268, A690, H⟩ := H
                     try dsimp only at H
                     have A69 := Sd.mk A690; clear A690
                     by_cases c70 : t268 = true
                     ·subst c70
                      have H1 : (some 6) = some r := by rw [if_pos rfl] at H; exact H
                      clear H; have H := H1; clear H1; obtain rfl := Option.some.inj H; obtain ⟨u71_0, u71_1, u71_2, u71_3, u71_4, u71_5, u71_6, o71_0, o71_1, o71_2, o71_3, o71_4, o71_5, o71_6⟩ := bc7 (w := wr) BK246.out
                      have p265 : 0 ≤ (x8_4 : Int) := tB
                      have q265 : x8_4 < (l0_3.length : Int) := tB
                      obtain ⟨ad265, A265_1, c265_1, e265, hx265_0, hx265_1, hx265_2, hx265_3, hl265_1, hi265_1⟩ := at_T65 HR0_3.out x8_4 p265 q265; cases e265; replace hx265_0 := cU HB hx265_0; replace hx265_1 := cU HB hx265_1; replace hx265_2 := cU HB hx265_2; replace hx265_3 := cU HB hx265_3; have HR265_1 := Sd.mk hi265_1; have HC265_1 := Sd.mk hl265_1; clear hi265_1 hl265_1; replace p265 := eq_true p265; replace q265 := eq_true q265
                      go_wp2_with (first | ((with_reducible refine gate_callee (f := 74) rfl ?_); refine goesL_ (some 130) rfl rfl Try.func74 (by kernel_rfl) rfl #[.string ((rd_T65 l0_3 x8_4).f0)] rfl tM ?_; (with_reducible refine (rf_Name.calls k4 ((rd_T65 l0_3 x8_4).f0) true _ A67.out).mono ?_); rintro e w' ⟨rfl, ⟨nd, rfl⟩⟩; refine ⟨_, rfl, ?_⟩; have p267 : 0 ≤ (x8_4 : Int) := tB; have q267 : x8_4 < (l0_3.length : Int) := tB; obtain ⟨ad267, A267_1, c267_1, e267, hx267_0, hx267_1, hx267_2, hx267_3, hl267_1, hi267_1⟩ := at_T65 HR0_3.out x8_4 p267 q267; obtain rfl : ad265 = ad267 := (by injection e267); replace hx267_0 := cU HB hx267_0; replace hx267_1 := cU HB hx267_1; replace hx267_2 := cU HB hx267_2; replace hx267_3 := cU HB hx267_3; have HR267_1 := Sd.mk hi267_1; have HC267_1 := Sd.mk hl267_1; clear hi267_1 hl267_1; replace p267 := eq_true p267; replace q267 := eq_true q267; have ea_ := Option.some.inj (hx265_1.symm.trans hx267_1); injection ea_ with ea_ en_ ec_; subst ea_; subst ec_; clear en_; obtain ⟨Ao72, co72, eo72⟩ := Kd.R_slice HO_4.out; subst eo72) | ((with_reducible refine gate_callee (f := 75) rfl ?_); refine goesL_ (some 139) rfl rfl Try.func75 (by kernel_rfl) rfl #[.slice Ao72 x4_4.length co72, .string ((rd_T65 l0_3 x8_4).f0)] rfl tM ?_; (with_reducible refine (rf_in.calls k4 _ _ x4_4 ((rd_T65 l0_3 x8_4).f0) true _ (cS ((Kd.R_reads' HO_4.out).2.2)) ((Kd.R_reads' HO_4.out).2.1) A69.out).mono ?_); rintro e w' ⟨rfl, ⟨nd, rfl⟩⟩; refine ⟨_, rfl, ?_⟩))
                      go_ret
                      exact ⟨tE, bBl HB.out⟩
                     ·replace c70 := Bool.eq_false_iff.mpr c70
                      subst c70
                      have H1 : (if x4_4.length < 8796093022208 then ((rf_property.f k4 l0_0 l0_1 l0_2 l0_3 a0_4 a0_5 a0_6 ((rd_T65 l0_3 x8_4).f0) ((rd_T65 l0_3 x8_4).f1) ((rd_T65 l0_3 x8_4).f2.f0) ((rd_T65 l0_3 x8_4).f2.f1)).bind fun t274 => (if t274 = 0 then (rf_Check.l3 k4 (x4_4 ++ [(rd_T65 l0_3 x8_4).f0]) (wrap64 (x8_4 + 1)) l0_0 l0_1 l0_2 l0_3 a0_4 a0_5 a0_6) else (some t274))) else (none)) = some r := by rw [if_neg (show ¬ (false = true) by decide)] at H; exact H
                      clear H; have H := H1; clear H1
                      by_cases c73 : x4_4.length < 8796093022208
                      ·rw [if_pos c73] at H
                       have LMc73 := Sd.mk c73; clear c73
                       obtain ⟨y270, hy270⟩ : ∃ y_ : List ByteArray, y_ = (x4_4 ++ [(rd_T65 l0_3 x8_4).f0]) := ⟨_, rfl⟩
                       replace H : ((rf_property.f k4 l0_0 l0_1 l0_2 l0_3 a0_4 a0_5 a0_6 ((rd_T65 l0_3 x8_4).f0) ((rd_T65 l0_3 x8_4).f1) ((rd_T65 l0_3 x8_4).f2.f0) ((rd_T65 l0_3 x8_4).f2.f1)).bind fun t274 => (if t274 = 0 then (rf_Check.l3 k4 y270 (wrap64 (x8_4 + 1)) l0_0 l0_1 l0_2 l0_3 a0_4 a0_5 a0_6) else (some t274))) = some r := by first | (rw [hy270]; with_reducible exact H) | (have H2_ := (Option.bind_some _ _).symm.trans H; rw [hy270]; with_reducible exact H2_) | (have H2_ := (Option.bind_some _ _).symm.trans H; with_reducible exact H2_) | with_reducible exact H | (rw [hy270]; exact H) | exact H
                       have Ny270 := Sd.mk hy270; clear hy270; replace H := Option.bind_eq_some_iff.mp H; obtain ⟨t274, A740, H⟩ := H
                       try dsimp only at H
                       have A74 := Sd.mk A740; clear A740
                       by_cases c75 : t274 = 0
                       ·rw [if_pos c75] at H
                        have c75b0 : (t274 == 0) = true := beq_iff_eq.mpr c75
                        have c75b1 : (t274 != 0) = false := bne_eq_false_iff_eq.mpr c75
                        clear c75; have H' := Sd.mk H; clear H; obtain ⟨u76_0, u76_1, u76_2, u76_3, u76_4, u76_5, u76_6, o76_0, o76_1, o76_2, o76_3, o76_4, o76_5, o76_6⟩ := bc7 (w := wr) BK246.out
                        have p265 : 0 ≤ (x8_4 : Int) := tB
                        have q265 : x8_4 < (l0_3.length : Int) := tB
                        obtain ⟨ad265, A265_1, c265_1, e265, hx265_0, hx265_1, hx265_2, hx265_3, hl265_1, hi265_1⟩ := at_T65 HR0_3.out x8_4 p265 q265; cases e265; replace hx265_0 := cU HB hx265_0; replace hx265_1 := cU HB hx265_1; replace hx265_2 := cU HB hx265_2; replace hx265_3 := cU HB hx265_3; have HR265_1 := Sd.mk hi265_1; have HC265_1 := Sd.mk hl265_1; clear hi265_1 hl265_1; replace p265 := eq_true p265; replace q265 := eq_true q265
                        try go_wp2_with (first | ((with_reducible refine gate_callee (f := 74) rfl ?_); refine goesL_ (some 130) rfl rfl Try.func74 (by kernel_rfl) rfl #[.string ((rd_T65 l0_3 x8_4).f0)] rfl tM ?_; (with_reducible refine (rf_Name.calls k4 ((rd_T65 l0_3 x8_4).f0) true _ A67.out).mono ?_); rintro e w' ⟨rfl, ⟨nd, rfl⟩⟩; refine ⟨_, rfl, ?_⟩; have p267 : 0 ≤ (x8_4 : Int) := tB; have q267 : x8_4 < (l0_3.length : Int) := tB; obtain ⟨ad267, A267_1, c267_1, e267, hx267_0, hx267_1, hx267_2, hx267_3, hl267_1, hi267_1⟩ := at_T65 HR0_3.out x8_4 p267 q267; obtain rfl : ad265 = ad267 := (by injection e267); replace hx267_0 := cU HB hx267_0; replace hx267_1 := cU HB hx267_1; replace hx267_2 := cU HB hx267_2; replace hx267_3 := cU HB hx267_3; have HR267_1 := Sd.mk hi267_1; have HC267_1 := Sd.mk hl267_1; clear hi267_1 hl267_1; replace p267 := eq_true p267; replace q267 := eq_true q267; have ea_ := Option.some.inj (hx265_1.symm.trans hx267_1); injection ea_ with ea_ en_ ec_; subst ea_; subst ec_; clear en_; obtain ⟨Ao77, co77, eo77⟩ := Kd.R_slice HO_4.out; subst eo77) | ((with_reducible refine gate_callee (f := 75) rfl ?_); refine goesL_ (some 139) rfl rfl Try.func75 (by kernel_rfl) rfl #[.slice Ao77 x4_4.length co77, .string ((rd_T65 l0_3 x8_4).f0)] rfl tM ?_; (with_reducible refine (rf_in.calls k4 _ _ x4_4 ((rd_T65 l0_3 x8_4).f0) false _ (cS ((Kd.R_reads' HO_4.out).2.2)) ((Kd.R_reads' HO_4.out).2.1) A69.out).mono ?_); rintro e w' ⟨rfl, ⟨nd, rfl⟩⟩; refine ⟨_, rfl, ?_⟩; have p269 : 0 ≤ (x8_4 : Int) := tB; have q269 : x8_4 < (l0_3.length : Int) := tB; obtain ⟨ad269, A269_1, c269_1, e269, hx269_0, hx269_1, hx269_2, hx269_3, hl269_1, hi269_1⟩ := at_T65 HR0_3.out x8_4 p269 q269; obtain rfl : ad265 = ad269 := (by injection e269); replace hx269_0 := cU HB hx269_0; replace hx269_1 := cU HB hx269_1; replace hx269_2 := cU HB hx269_2; replace hx269_3 := cU HB hx269_3; have HR269_1 := Sd.mk hi269_1; have HC269_1 := Sd.mk hl269_1; clear hi269_1 hl269_1; replace p269 := eq_true p269; replace q269 := eq_true q269; have ea_ := Option.some.inj (hx265_1.symm.trans hx269_1); injection ea_ with ea_ en_ ec_; subst ea_; subst ec_; clear en_) | ((with_reducible refine gate_builtin (b := .append) (xs := #[.tmp 140, .tmp 147]) rfl ?_); at_builtin; refine Kd.R_append Kd.string (w0 := w) w.heap.size rfl (.tmp 140) (.tmp 147) 22 9 (.string ⟨#[]⟩) 16 rfl Try.underlying22 info9 rfl (by decide) (by omega) (.slice Ao77 x4_4.length co77) x4_4 ((rd_T65 l0_3 x8_4).f0) [.string ((rd_T65 l0_3 x8_4).f0)] (fun _ => True) (fun _ => False) rfl rfl ?aP (fun _ hk => hk.elim) ?aF ?aO ?aB ?aS ?aL ?_; (case aP => exact rfl); (case aB => exact (bBl HB.out)); (case aF => exact (fun _ _ => trivial)); (case aO => exact (by (with_reducible repeat (first | apply Kd.R_alloc | apply Kd.R_drewN | apply Kd.R_drew)); exact HO_4.out)); (case aS => exact (below_size (bBl HB.out))); (case aL => have := LMc73.out; omega); intro v271 w78 ho hb hg hat; rw [← Ny270.out] at ho; replace BK246 := Sd.mk (blk_grown (bkA BK246.out) hg (Kd.R_ne HO_4.out BK246.out (by decide))); replace HB := Sd.mk (hb); have HO272 := Sd.mk (ho); clear HO_4; clear ho hb hg hat))
                        replace HO272 := Sd.mk (Kd.R_drew HO272.out); replace BK246 := Sd.mk (blk_drew BK246.out); replace HB := Sd.mk (below_drew1 HB.out)
                        have p273 : 0 ≤ (x8_4 : Int) := tB
                        have q273 : x8_4 < (l0_3.length : Int) := tB
                        obtain ⟨ad273, A273_1, c273_1, e273, hx273_0, hx273_1, hx273_2, hx273_3, hl273_1, hi273_1⟩ := at_T65 HR0_3.out x8_4 p273 q273; have hw273_3 := hx273_3; have hw273_2 := hx273_2; have hw273_1 := hx273_1; have hw273_0 := hx273_0
                        obtain rfl : ad265 = ad273 := (by injection e273)
                        replace hx273_0 := cU HB hx273_0; replace hx273_1 := cU HB hx273_1; replace hx273_2 := cU HB hx273_2; replace hx273_3 := cU HB hx273_3; have HR273_1 := Sd.mk hi273_1; have HC273_1 := Sd.mk hl273_1; clear hi273_1 hl273_1; replace p273 := eq_true p273; replace q273 := eq_true q273
                        refine start_ (n := 8) (S := fun w' => w'.cell? ⟨gb246, 0, none⟩ = some (.slice A0_0 l0_0.length c0_0) ∧ w'.cell? ⟨gb246, 1, none⟩ = some (.slice A0_1 l0_1.length c0_1) ∧ w'.cell? ⟨gb246, 2, none⟩ = some (.slice A0_2 l0_2.length c0_2) ∧ w'.cell? ⟨gb246, 3, none⟩ = some (.slice (some ad265) l0_3.length c0_3) ∧ w'.cell? ⟨gb246, 4, none⟩ = some (.int .i64 a0_4) ∧ w'.cell? ⟨gb246, 5, none⟩ = some (.int .i64 a0_5) ∧ w'.cell? ⟨gb246, 6, none⟩ = some (.int .i64 a0_6) ∧ w'.cell? (ad265.add ((x8_4).toNat * 4)) = some (.string ((rd_T65 l0_3 x8_4).f0)) ∧ w'.cell? ⟨(ad265.add ((x8_4).toNat * 4)).block, (ad265.add ((x8_4).toNat * 4)).off + 1, none⟩ = some (.slice A273_1 ((rd_T65 l0_3 x8_4).f1).length c273_1) ∧ w'.cell? ⟨(ad265.add ((x8_4).toNat * 4)).block, (ad265.add ((x8_4).toNat * 4)).off + 2, none⟩ = some (.int .i64 ((rd_T65 l0_3 x8_4).f2.f0)) ∧ w'.cell? ⟨(ad265.add ((x8_4).toNat * 4)).block, (ad265.add ((x8_4).toNat * 4)).off + 3, none⟩ = some (.int .i64 ((rd_T65 l0_3 x8_4).f2.f1))) (ds := []) #[false, false, false, false, false, false, false, false] (by kernel_rfl) rfl rfl ⟨(blk_cell BK246.out 0).trans rfl, (blk_cell BK246.out 1).trans rfl, (blk_cell BK246.out 2).trans rfl, (blk_cell BK246.out 3).trans rfl, (blk_cell BK246.out 4).trans rfl, (blk_cell BK246.out 5).trans rfl, (blk_cell BK246.out 6).trans rfl, ((HB.out.cell (World.block_lt_of_cell? w _ hw273_0)).trans hw273_0), ((HB.out.cell (World.block_lt_of_cell? w _ hw273_1)).trans hw273_1), ((HB.out.cell (World.block_lt_of_cell? w _ hw273_2)).trans hw273_2), ((HB.out.cell (World.block_lt_of_cell? w _ hw273_3)).trans hw273_3)⟩ (fun hHeld => ?_); refine with_tabW rf_Check.tab46 rf_Check.bits46 (fun HT_ HW_ => ?_)
                        generalize w78.drew = w79 at HO272 BK246 HB HR273_1 hx273_0 hx273_1 hx273_2 hx273_3 hHeld ⊢
                        refine pure_ (i := 1) (N := some 150) (v := ?_) (a' := ?_) #[false, true, false, false, false, false, false, false] rfl rfl (any_of HT_.out (by kernel_rfl)) (fun _ _ _ h => h) (Or.inl ⟨by rfl, ?_⟩) ?_ ?_
                        rotate_left
                        ·exact tW
                        rotate_left
                        ·exact tP
                        refine pure_ (i := 3) (N := some 152) (v := ?_) (a' := ?_) #[false, true, false, true, false, false, false, false] rfl rfl (any_of HT_.out (by kernel_rfl)) (fun _ _ _ h => h) (Or.inl ⟨by rfl, ?_⟩) ?_ ?_
                        rotate_left
                        ·exact tW
                        rotate_left
                        ·exact tP
                        refine take_ (i := 0) (N := some 149) (v := ?_) (a' := ?_) #[true, true, false, true, false, false, false, false] rfl rfl (take_ofW HT_.out HW_.out (by kernel_rfl)) (fun _ _ _ h => h) (Or.inl ⟨by rfl, ?_⟩) hHeld ?_ ?_
                        rotate_left
                        ·rintro w' ⟨s0, s1, s2, s3, s4, s5, s6, s7, s8, s9, s10⟩
                         go_simp
                         with_reducible rfl
                        rotate_left
                        ·exact tP
                        refine take_ (i := 2) (N := some 151) (v := ?_) (a' := ?_) #[true, true, true, true, false, false, false, false] rfl rfl (take_ofW HT_.out HW_.out (by kernel_rfl)) (fun _ _ _ h => h) (Or.inl ⟨by rfl, ?_⟩) hHeld ?_ ?_
                        rotate_left
                        ·rintro w' ⟨s0, s1, s2, s3, s4, s5, s6, s7, s8, s9, s10⟩
                         go_simp
                         with_reducible rfl
                        rotate_left
                        ·exact tP
                        refine pure_ (i := 4) (N := some 153) (v := ?_) (a' := ?_) #[true, true, true, true, true, false, false, false] rfl rfl (any_of HT_.out (by kernel_rfl)) (fun _ _ _ h => h) (Or.inl ⟨by rfl, ?_⟩) ?_ ?_
                        rotate_left
                        ·exact tW
                        rotate_left
                        ·exact tP
                        refine take_ (i := 5) (N := some 154) (v := ?_) (a' := ?_) #[true, true, true, true, true, true, false, false] rfl rfl (take_ofW HT_.out HW_.out (by kernel_rfl)) (fun _ _ _ h => h) (Or.inl ⟨by rfl, ?_⟩) hHeld ?_ ?_
                        rotate_left
                        ·rintro w' ⟨s0, s1, s2, s3, s4, s5, s6, s7, s8, s9, s10⟩
                         go_simp
                         with_reducible rfl
                        rotate_left
                        ·exact tP
                        refine one_ (i := 6) (N := some 155) #[true, true, true, true, true, true, true, false] rfl rfl (one_of HT_.out (by kernel_rfl)) (by decide) (fun K hK => ?_)
                        refine goes_ Try.func78 (by kernel_rfl) rfl #[.agg #[.slice A0_0 l0_0.length c0_0, .slice A0_1 l0_1.length c0_1, .slice A0_2 l0_2.length c0_2, .slice (some ad265) l0_3.length c0_3, .int .i64 a0_4, .int .i64 a0_5, .int .i64 a0_6], .agg #[.string ((rd_T65 l0_3 x8_4).f0), .slice A273_1 ((rd_T65 l0_3 x8_4).f1).length c273_1, .int .i64 ((rd_T65 l0_3 x8_4).f2.f0), .int .i64 ((rd_T65 l0_3 x8_4).f2.f1)]] (by rfl) rfl rfl tM ?_
                        with_reducible refine (rf_property.calls k4 _ _ l0_0 _ _ l0_1 _ _ l0_2 _ _ l0_3 a0_4 a0_5 a0_6 ((rd_T65 l0_3 x8_4).f0) _ _ ((rd_T65 l0_3 x8_4).f1) ((rd_T65 l0_3 x8_4).f2.f0) ((rd_T65 l0_3 x8_4).f2.f1) t274 _ ?side1 ?side2 ?side3 ?side4 ?side5 ?side6 ?side7 ?side8 ?side9 ?side10 A74.out).mono ?_
                        (case side1 => exact cS (Kd.C_below HR0_0.out HB.out))
                        (case side2 => exact HC0_0.out)
                        (case side3 => exact cS (Kd.C_below HR0_1.out HB.out))
                        (case side4 => exact HC0_1.out)
                        (case side5 => exact cS (Kd.C_below HR0_2.out HB.out))
                        (case side6 => exact HC0_2.out)
                        (case side7 => exact cS (Kd.C_below HR0_3.out HB.out))
                        (case side8 => exact HC0_3.out)
                        (case side9 => exact cS (Kd.C_below HR273_1.out HB.out))
                        (case side10 => exact HC273_1.out)
                        rintro e w80 ⟨rfl, hb⟩
                        refine ⟨_, rfl, ?_⟩
                        replace HO272 := Sd.mk (Kd.R_below (by (with_reducible repeat (first | apply Kd.R_alloc | apply Kd.R_drewN | apply Kd.R_drew)); exact HO272.out) hb)
                        replace BK246 := Sd.mk (blk_below (bkA BK246.out) hb); replace HB := Sd.mk (below_step (bBl HB.out) hb)
                        (try clear hb)
                        (try clear hb2)
                        (try clear hk)
                        (try clear hi)
                        refine hK.out _ _ ⟨(blk_cell BK246.out 0).trans rfl, (blk_cell BK246.out 1).trans rfl, (blk_cell BK246.out 2).trans rfl, (blk_cell BK246.out 3).trans rfl, (blk_cell BK246.out 4).trans rfl, (blk_cell BK246.out 5).trans rfl, (blk_cell BK246.out 6).trans rfl, ((HB.out.cell (World.block_lt_of_cell? w _ hw273_0)).trans hw273_0), ((HB.out.cell (World.block_lt_of_cell? w _ hw273_1)).trans hw273_1), ((HB.out.cell (World.block_lt_of_cell? w _ hw273_2)).trans hw273_2), ((HB.out.cell (World.block_lt_of_cell? w _ hw273_3)).trans hw273_3)⟩ (fun hHeld => ?_)
                        clear hK K
                        refine norm_ (a' := ?_) ?_ ?_
                        rotate_left
                        ·show Act.put _ (some 155) _ = _
                         exact tP
                        refine pure_ (i := 7) (N := some 9) (v := ?_) (a' := ?_) #[true, true, true, true, true, true, true, true] rfl rfl (any_of HT_.out (by kernel_rfl)) (fun _ _ _ h => h) (Or.inl ⟨by rfl, ?_⟩) ?_ ?_
                        rotate_left
                        ·exact tW
                        rotate_left
                        ·exact tP
                        refine done_ (done_of HT_.out (by kernel_rfl)) ?_
                        try go_wp2
                        go_roundg k4
                        case measure => have := HK1.out; have := HK2.out; have := HK3.out; have := HK4.out; omega
                        case rel => exact ⟨(y270), (wrap64 (x8_4 + 1)), tS, H', ⟨by have := HK1.out; have := HK2.out; have := HK3.out; have := HK4.out; omega⟩, ⟨by (with_reducible repeat (first | apply Kd.R_alloc | apply Kd.R_drewN | apply Kd.R_drew)); exact HO272.out⟩, ⟨bkA BK246.out⟩, ⟨bBl HB.out⟩⟩
                       ·rw [if_neg c75] at H
                        have c75b0 : (t274 == 0) = false := beq_eq_false_iff_ne.mpr c75
                        have c75b1 : (t274 != 0) = true := bne_iff_ne.mpr c75
                        obtain rfl := Option.some.inj H; obtain ⟨u81_0, u81_1, u81_2, u81_3, u81_4, u81_5, u81_6, o81_0, o81_1, o81_2, o81_3, o81_4, o81_5, o81_6⟩ := bc7 (w := wr) BK246.out
                        have p265 : 0 ≤ (x8_4 : Int) := tB
                        have q265 : x8_4 < (l0_3.length : Int) := tB
                        obtain ⟨ad265, A265_1, c265_1, e265, hx265_0, hx265_1, hx265_2, hx265_3, hl265_1, hi265_1⟩ := at_T65 HR0_3.out x8_4 p265 q265; cases e265; replace hx265_0 := cU HB hx265_0; replace hx265_1 := cU HB hx265_1; replace hx265_2 := cU HB hx265_2; replace hx265_3 := cU HB hx265_3; have HR265_1 := Sd.mk hi265_1; have HC265_1 := Sd.mk hl265_1; clear hi265_1 hl265_1; replace p265 := eq_true p265; replace q265 := eq_true q265
                        try go_wp2_with (first | ((with_reducible refine gate_callee (f := 74) rfl ?_); refine goesL_ (some 130) rfl rfl Try.func74 (by kernel_rfl) rfl #[.string ((rd_T65 l0_3 x8_4).f0)] rfl tM ?_; (with_reducible refine (rf_Name.calls k4 ((rd_T65 l0_3 x8_4).f0) true _ A67.out).mono ?_); rintro e w' ⟨rfl, ⟨nd, rfl⟩⟩; refine ⟨_, rfl, ?_⟩; have p267 : 0 ≤ (x8_4 : Int) := tB; have q267 : x8_4 < (l0_3.length : Int) := tB; obtain ⟨ad267, A267_1, c267_1, e267, hx267_0, hx267_1, hx267_2, hx267_3, hl267_1, hi267_1⟩ := at_T65 HR0_3.out x8_4 p267 q267; obtain rfl : ad265 = ad267 := (by injection e267); replace hx267_0 := cU HB hx267_0; replace hx267_1 := cU HB hx267_1; replace hx267_2 := cU HB hx267_2; replace hx267_3 := cU HB hx267_3; have HR267_1 := Sd.mk hi267_1; have HC267_1 := Sd.mk hl267_1; clear hi267_1 hl267_1; replace p267 := eq_true p267; replace q267 := eq_true q267; have ea_ := Option.some.inj (hx265_1.symm.trans hx267_1); injection ea_ with ea_ en_ ec_; subst ea_; subst ec_; clear en_; obtain ⟨Ao82, co82, eo82⟩ := Kd.R_slice HO_4.out; subst eo82) | ((with_reducible refine gate_callee (f := 75) rfl ?_); refine goesL_ (some 139) rfl rfl Try.func75 (by kernel_rfl) rfl #[.slice Ao82 x4_4.length co82, .string ((rd_T65 l0_3 x8_4).f0)] rfl tM ?_; (with_reducible refine (rf_in.calls k4 _ _ x4_4 ((rd_T65 l0_3 x8_4).f0) false _ (cS ((Kd.R_reads' HO_4.out).2.2)) ((Kd.R_reads' HO_4.out).2.1) A69.out).mono ?_); rintro e w' ⟨rfl, ⟨nd, rfl⟩⟩; refine ⟨_, rfl, ?_⟩; have p269 : 0 ≤ (x8_4 : Int) := tB; have q269 : x8_4 < (l0_3.length : Int) := tB; obtain ⟨ad269, A269_1, c269_1, e269, hx269_0, hx269_1, hx269_2, hx269_3, hl269_1, hi269_1⟩ := at_T65 HR0_3.out x8_4 p269 q269; obtain rfl : ad265 = ad269 := (by injection e269); replace hx269_0 := cU HB hx269_0; replace hx269_1 := cU HB hx269_1; replace hx269_2 := cU HB hx269_2; replace hx269_3 := cU HB hx269_3; have HR269_1 := Sd.mk hi269_1; have HC269_1 := Sd.mk hl269_1; clear hi269_1 hl269_1; replace p269 := eq_true p269; replace q269 := eq_true q269; have ea_ := Option.some.inj (hx265_1.symm.trans hx269_1); injection ea_ with ea_ en_ ec_; subst ea_; subst ec_; clear en_) | ((with_reducible refine gate_builtin (b := .append) (xs := #[.tmp 140, .tmp 147]) rfl ?_); at_builtin; refine Kd.R_append Kd.string (w0 := w) w.heap.size rfl (.tmp 140) (.tmp 147) 22 9 (.string ⟨#[]⟩) 16 rfl Try.underlying22 info9 rfl (by decide) (by omega) (.slice Ao82 x4_4.length co82) x4_4 ((rd_T65 l0_3 x8_4).f0) [.string ((rd_T65 l0_3 x8_4).f0)] (fun _ => True) (fun _ => False) rfl rfl ?aP (fun _ hk => hk.elim) ?aF ?aO ?aB ?aS ?aL ?_; (case aP => exact rfl); (case aB => exact (bBl HB.out)); (case aF => exact (fun _ _ => trivial)); (case aO => exact (by (with_reducible repeat (first | apply Kd.R_alloc | apply Kd.R_drewN | apply Kd.R_drew)); exact HO_4.out)); (case aS => exact (below_size (bBl HB.out))); (case aL => have := LMc73.out; omega); intro v271 w83 ho hb hg hat; rw [← Ny270.out] at ho; replace BK246 := Sd.mk (blk_grown (bkA BK246.out) hg (Kd.R_ne HO_4.out BK246.out (by decide))); replace HB := Sd.mk (hb); have HO272 := Sd.mk (ho); clear HO_4; clear ho hb hg hat))
                        replace HO272 := Sd.mk (Kd.R_drew HO272.out); replace BK246 := Sd.mk (blk_drew BK246.out); replace HB := Sd.mk (below_drew1 HB.out)
                        have p273 : 0 ≤ (x8_4 : Int) := tB
                        have q273 : x8_4 < (l0_3.length : Int) := tB
                        obtain ⟨ad273, A273_1, c273_1, e273, hx273_0, hx273_1, hx273_2, hx273_3, hl273_1, hi273_1⟩ := at_T65 HR0_3.out x8_4 p273 q273; have hw273_3 := hx273_3; have hw273_2 := hx273_2; have hw273_1 := hx273_1; have hw273_0 := hx273_0
                        obtain rfl : ad265 = ad273 := (by injection e273)
                        replace hx273_0 := cU HB hx273_0; replace hx273_1 := cU HB hx273_1; replace hx273_2 := cU HB hx273_2; replace hx273_3 := cU HB hx273_3; have HR273_1 := Sd.mk hi273_1; have HC273_1 := Sd.mk hl273_1; clear hi273_1 hl273_1; replace p273 := eq_true p273; replace q273 := eq_true q273
                        refine start_ (n := 8) (S := fun w' => w'.cell? ⟨gb246, 0, none⟩ = some (.slice A0_0 l0_0.length c0_0) ∧ w'.cell? ⟨gb246, 1, none⟩ = some (.slice A0_1 l0_1.length c0_1) ∧ w'.cell? ⟨gb246, 2, none⟩ = some (.slice A0_2 l0_2.length c0_2) ∧ w'.cell? ⟨gb246, 3, none⟩ = some (.slice (some ad265) l0_3.length c0_3) ∧ w'.cell? ⟨gb246, 4, none⟩ = some (.int .i64 a0_4) ∧ w'.cell? ⟨gb246, 5, none⟩ = some (.int .i64 a0_5) ∧ w'.cell? ⟨gb246, 6, none⟩ = some (.int .i64 a0_6) ∧ w'.cell? (ad265.add ((x8_4).toNat * 4)) = some (.string ((rd_T65 l0_3 x8_4).f0)) ∧ w'.cell? ⟨(ad265.add ((x8_4).toNat * 4)).block, (ad265.add ((x8_4).toNat * 4)).off + 1, none⟩ = some (.slice A273_1 ((rd_T65 l0_3 x8_4).f1).length c273_1) ∧ w'.cell? ⟨(ad265.add ((x8_4).toNat * 4)).block, (ad265.add ((x8_4).toNat * 4)).off + 2, none⟩ = some (.int .i64 ((rd_T65 l0_3 x8_4).f2.f0)) ∧ w'.cell? ⟨(ad265.add ((x8_4).toNat * 4)).block, (ad265.add ((x8_4).toNat * 4)).off + 3, none⟩ = some (.int .i64 ((rd_T65 l0_3 x8_4).f2.f1))) (ds := []) #[false, false, false, false, false, false, false, false] (by kernel_rfl) rfl rfl ⟨(blk_cell BK246.out 0).trans rfl, (blk_cell BK246.out 1).trans rfl, (blk_cell BK246.out 2).trans rfl, (blk_cell BK246.out 3).trans rfl, (blk_cell BK246.out 4).trans rfl, (blk_cell BK246.out 5).trans rfl, (blk_cell BK246.out 6).trans rfl, ((HB.out.cell (World.block_lt_of_cell? w _ hw273_0)).trans hw273_0), ((HB.out.cell (World.block_lt_of_cell? w _ hw273_1)).trans hw273_1), ((HB.out.cell (World.block_lt_of_cell? w _ hw273_2)).trans hw273_2), ((HB.out.cell (World.block_lt_of_cell? w _ hw273_3)).trans hw273_3)⟩ (fun hHeld => ?_); refine with_tabW rf_Check.tab46 rf_Check.bits46 (fun HT_ HW_ => ?_)
                        generalize w83.drew = w84 at HO272 BK246 HB HR273_1 hx273_0 hx273_1 hx273_2 hx273_3 hHeld ⊢
                        refine pure_ (i := 1) (N := some 150) (v := ?_) (a' := ?_) #[false, true, false, false, false, false, false, false] rfl rfl (any_of HT_.out (by kernel_rfl)) (fun _ _ _ h => h) (Or.inl ⟨by rfl, ?_⟩) ?_ ?_
                        rotate_left
                        ·exact tW
                        rotate_left
                        ·exact tP
                        refine pure_ (i := 3) (N := some 152) (v := ?_) (a' := ?_) #[false, true, false, true, false, false, false, false] rfl rfl (any_of HT_.out (by kernel_rfl)) (fun _ _ _ h => h) (Or.inl ⟨by rfl, ?_⟩) ?_ ?_
                        rotate_left
                        ·exact tW
                        rotate_left
                        ·exact tP
                        refine take_ (i := 0) (N := some 149) (v := ?_) (a' := ?_) #[true, true, false, true, false, false, false, false] rfl rfl (take_ofW HT_.out HW_.out (by kernel_rfl)) (fun _ _ _ h => h) (Or.inl ⟨by rfl, ?_⟩) hHeld ?_ ?_
                        rotate_left
                        ·rintro w' ⟨s0, s1, s2, s3, s4, s5, s6, s7, s8, s9, s10⟩
                         go_simp
                         with_reducible rfl
                        rotate_left
                        ·exact tP
                        refine take_ (i := 2) (N := some 151) (v := ?_) (a' := ?_) #[true, true, true, true, false, false, false, false] rfl rfl (take_ofW HT_.out HW_.out (by kernel_rfl)) (fun _ _ _ h => h) (Or.inl ⟨by rfl, ?_⟩) hHeld ?_ ?_
                        rotate_left
                        ·rintro w' ⟨s0, s1, s2, s3, s4, s5, s6, s7, s8, s9, s10⟩
                         go_simp
                         with_reducible rfl
                        rotate_left
                        ·exact tP
                        refine pure_ (i := 4) (N := some 153) (v := ?_) (a' := ?_) #[true, true, true, true, true, false, false, false] rfl rfl (any_of HT_.out (by kernel_rfl)) (fun _ _ _ h => h) (Or.inl ⟨by rfl, ?_⟩) ?_ ?_
                        rotate_left
                        ·exact tW
                        rotate_left
                        ·exact tP
                        refine take_ (i := 5) (N := some 154) (v := ?_) (a' := ?_) #[true, true, true, true, true, true, false, false] rfl rfl (take_ofW HT_.out HW_.out (by kernel_rfl)) (fun _ _ _ h => h) (Or.inl ⟨by rfl, ?_⟩) hHeld ?_ ?_
                        rotate_left
                        ·rintro w' ⟨s0, s1, s2, s3, s4, s5, s6, s7, s8, s9, s10⟩
                         go_simp
                         with_reducible rfl
                        rotate_left
                        ·exact tP
                        refine one_ (i := 6) (N := some 155) #[true, true, true, true, true, true, true, false] rfl rfl (one_of HT_.out (by kernel_rfl)) (by decide) (fun K hK => ?_)
                        refine goes_ Try.func78 (by kernel_rfl) rfl #[.agg #[.slice A0_0 l0_0.length c0_0, .slice A0_1 l0_1.length c0_1, .slice A0_2 l0_2.length c0_2, .slice (some ad265) l0_3.length c0_3, .int .i64 a0_4, .int .i64 a0_5, .int .i64 a0_6], .agg #[.string ((rd_T65 l0_3 x8_4).f0), .slice A273_1 ((rd_T65 l0_3 x8_4).f1).length c273_1, .int .i64 ((rd_T65 l0_3 x8_4).f2.f0), .int .i64 ((rd_T65 l0_3 x8_4).f2.f1)]] (by rfl) rfl rfl tM ?_
                        with_reducible refine (rf_property.calls k4 _ _ l0_0 _ _ l0_1 _ _ l0_2 _ _ l0_3 a0_4 a0_5 a0_6 ((rd_T65 l0_3 x8_4).f0) _ _ ((rd_T65 l0_3 x8_4).f1) ((rd_T65 l0_3 x8_4).f2.f0) ((rd_T65 l0_3 x8_4).f2.f1) t274 _ ?side1 ?side2 ?side3 ?side4 ?side5 ?side6 ?side7 ?side8 ?side9 ?side10 A74.out).mono ?_
                        (case side1 => exact cS (Kd.C_below HR0_0.out HB.out))
                        (case side2 => exact HC0_0.out)
                        (case side3 => exact cS (Kd.C_below HR0_1.out HB.out))
                        (case side4 => exact HC0_1.out)
                        (case side5 => exact cS (Kd.C_below HR0_2.out HB.out))
                        (case side6 => exact HC0_2.out)
                        (case side7 => exact cS (Kd.C_below HR0_3.out HB.out))
                        (case side8 => exact HC0_3.out)
                        (case side9 => exact cS (Kd.C_below HR273_1.out HB.out))
                        (case side10 => exact HC273_1.out)
                        rintro e w85 ⟨rfl, hb⟩
                        refine ⟨_, rfl, ?_⟩
                        replace HO272 := Sd.mk (Kd.R_below (by (with_reducible repeat (first | apply Kd.R_alloc | apply Kd.R_drewN | apply Kd.R_drew)); exact HO272.out) hb)
                        replace BK246 := Sd.mk (blk_below (bkA BK246.out) hb); replace HB := Sd.mk (below_step (bBl HB.out) hb)
                        (try clear hb)
                        (try clear hb2)
                        (try clear hk)
                        (try clear hi)
                        refine hK.out _ _ ⟨(blk_cell BK246.out 0).trans rfl, (blk_cell BK246.out 1).trans rfl, (blk_cell BK246.out 2).trans rfl, (blk_cell BK246.out 3).trans rfl, (blk_cell BK246.out 4).trans rfl, (blk_cell BK246.out 5).trans rfl, (blk_cell BK246.out 6).trans rfl, ((HB.out.cell (World.block_lt_of_cell? w _ hw273_0)).trans hw273_0), ((HB.out.cell (World.block_lt_of_cell? w _ hw273_1)).trans hw273_1), ((HB.out.cell (World.block_lt_of_cell? w _ hw273_2)).trans hw273_2), ((HB.out.cell (World.block_lt_of_cell? w _ hw273_3)).trans hw273_3)⟩ (fun hHeld => ?_)
                        clear hK K
                        refine norm_ (a' := ?_) ?_ ?_
                        rotate_left
                        ·show Act.put _ (some 155) _ = _
                         exact tP
                        refine pure_ (i := 7) (N := some 9) (v := ?_) (a' := ?_) #[true, true, true, true, true, true, true, true] rfl rfl (any_of HT_.out (by kernel_rfl)) (fun _ _ _ h => h) (Or.inl ⟨by rfl, ?_⟩) ?_ ?_
                        rotate_left
                        ·exact tW
                        rotate_left
                        ·exact tP
                        refine done_ (done_of HT_.out (by kernel_rfl)) ?_
                        try go_wp2
                        go_ret
                        exact ⟨tE, bBl HB.out⟩
                      ·rw [if_neg c73] at H
                       exact absurd H (by simp)
                    ·replace c68 := Bool.eq_false_iff.mpr c68
                     subst c68
                     have H1 : (some 5) = some r := by rw [if_neg (show ¬ (false = true) by decide)] at H; exact H
                     clear H; have H := H1; clear H1; obtain rfl := Option.some.inj H; obtain ⟨u86_0, u86_1, u86_2, u86_3, u86_4, u86_5, u86_6, o86_0, o86_1, o86_2, o86_3, o86_4, o86_5, o86_6⟩ := bc7 (w := wr) BK246.out
                     have p265 : 0 ≤ (x8_4 : Int) := tB
                     have q265 : x8_4 < (l0_3.length : Int) := tB
                     obtain ⟨ad265, A265_1, c265_1, e265, hx265_0, hx265_1, hx265_2, hx265_3, hl265_1, hi265_1⟩ := at_T65 HR0_3.out x8_4 p265 q265; cases e265; replace hx265_0 := cU HB hx265_0; replace hx265_1 := cU HB hx265_1; replace hx265_2 := cU HB hx265_2; replace hx265_3 := cU HB hx265_3; have HR265_1 := Sd.mk hi265_1; have HC265_1 := Sd.mk hl265_1; clear hi265_1 hl265_1; replace p265 := eq_true p265; replace q265 := eq_true q265
                     go_wp2_with (first | ((with_reducible refine gate_callee (f := 74) rfl ?_); refine goesL_ (some 130) rfl rfl Try.func74 (by kernel_rfl) rfl #[.string ((rd_T65 l0_3 x8_4).f0)] rfl tM ?_; (with_reducible refine (rf_Name.calls k4 ((rd_T65 l0_3 x8_4).f0) false _ A67.out).mono ?_); rintro e w' ⟨rfl, ⟨nd, rfl⟩⟩; refine ⟨_, rfl, ?_⟩))
                     go_ret
                     exact ⟨tE, bBl HB.out⟩
                   ·rw [if_neg c66] at H
                    exact absurd H (by simp)
                  ·rw [if_neg c65] at H
                   have c65b0 : decide (x8_4 < (l0_3.length : Int)) = false := decide_eq_false c65
                   clear c65; replace H := Option.bind_eq_some_iff.mp H; obtain ⟨t264, A870, H⟩ := H
                   try dsimp only at H
                   have A87 := Sd.mk A870; clear A870
                   by_cases c88 : t264 = true
                   ·subst c88
                    have H1 : (if a0_6 < 1 then (some 1) else (if a0_6 > 10000 then (some 1) else (some 0))) = some r := by rw [if_pos rfl] at H; exact H
                    clear H; have H := H1; clear H1
                    by_cases c89 : a0_6 < 1
                    ·rw [if_pos c89] at H
                     have c89b0 : decide (a0_6 < 1) = true := decide_eq_true c89
                     clear c89; obtain rfl := Option.some.inj H; obtain ⟨u90_0, u90_1, u90_2, u90_3, u90_4, u90_5, u90_6, o90_0, o90_1, o90_2, o90_3, o90_4, o90_5, o90_6⟩ := bc7 (w := wr) BK246.out
                     go_wp2_with (first | ((with_reducible refine gate_callee (f := 77) rfl ?_); refine goesL_ (some 161) rfl rfl Try.func77 (by kernel_rfl) rfl #[.agg #[.int .i64 a0_4, .int .i64 a0_5], .int .i64 (-10000), .int .i64 10000] rfl tM ?_; (with_reducible refine (rf_within.calls a0_4 a0_5 (-10000) 10000 true _ A87.out).mono ?_); rintro e w91 ⟨rfl, hb⟩; refine ⟨_, rfl, ?_⟩; replace HO_4 := Sd.mk (Kd.R_below (by (with_reducible repeat (first | apply Kd.R_alloc | apply Kd.R_drewN | apply Kd.R_drew)); exact HO_4.out) hb); replace BK246 := Sd.mk (blk_below (bkA BK246.out) hb); replace HB := Sd.mk (below_step (bBl HB.out) hb); (try clear hb); (try clear hb2); (try clear hk); (try clear hi); obtain ⟨u92_0, u92_1, u92_2, u92_3, u92_4, u92_5, u92_6, o92_0, o92_1, o92_2, o92_3, o92_4, o92_5, o92_6⟩ := bc7 (w := w91) BK246.out))
                     go_ret
                     exact ⟨tE, bBl HB.out⟩
                    ·rw [if_neg c89] at H
                     have c89b0 : decide (a0_6 < 1) = false := decide_eq_false c89
                     clear c89
                     by_cases c93 : a0_6 > 10000
                     ·rw [if_pos c93] at H
                      have c93b0 : decide (10000 < a0_6) = true := decide_eq_true c93
                      clear c93; obtain rfl := Option.some.inj H; obtain ⟨u94_0, u94_1, u94_2, u94_3, u94_4, u94_5, u94_6, o94_0, o94_1, o94_2, o94_3, o94_4, o94_5, o94_6⟩ := bc7 (w := wr) BK246.out
                      go_wp2_with (first | ((with_reducible refine gate_callee (f := 77) rfl ?_); refine goesL_ (some 161) rfl rfl Try.func77 (by kernel_rfl) rfl #[.agg #[.int .i64 a0_4, .int .i64 a0_5], .int .i64 (-10000), .int .i64 10000] rfl tM ?_; (with_reducible refine (rf_within.calls a0_4 a0_5 (-10000) 10000 true _ A87.out).mono ?_); rintro e w95 ⟨rfl, hb⟩; refine ⟨_, rfl, ?_⟩; replace HO_4 := Sd.mk (Kd.R_below (by (with_reducible repeat (first | apply Kd.R_alloc | apply Kd.R_drewN | apply Kd.R_drew)); exact HO_4.out) hb); replace BK246 := Sd.mk (blk_below (bkA BK246.out) hb); replace HB := Sd.mk (below_step (bBl HB.out) hb); (try clear hb); (try clear hb2); (try clear hk); (try clear hi); obtain ⟨u96_0, u96_1, u96_2, u96_3, u96_4, u96_5, u96_6, o96_0, o96_1, o96_2, o96_3, o96_4, o96_5, o96_6⟩ := bc7 (w := w95) BK246.out))
                      go_ret
                      exact ⟨tE, bBl HB.out⟩
                     ·rw [if_neg c93] at H
                      have c93b0 : decide (10000 < a0_6) = false := decide_eq_false c93
                      clear c93; obtain rfl := Option.some.inj H; obtain ⟨u97_0, u97_1, u97_2, u97_3, u97_4, u97_5, u97_6, o97_0, o97_1, o97_2, o97_3, o97_4, o97_5, o97_6⟩ := bc7 (w := wr) BK246.out
                      go_wp2_with (first | ((with_reducible refine gate_callee (f := 77) rfl ?_); refine goesL_ (some 161) rfl rfl Try.func77 (by kernel_rfl) rfl #[.agg #[.int .i64 a0_4, .int .i64 a0_5], .int .i64 (-10000), .int .i64 10000] rfl tM ?_; (with_reducible refine (rf_within.calls a0_4 a0_5 (-10000) 10000 true _ A87.out).mono ?_); rintro e w98 ⟨rfl, hb⟩; refine ⟨_, rfl, ?_⟩; replace HO_4 := Sd.mk (Kd.R_below (by (with_reducible repeat (first | apply Kd.R_alloc | apply Kd.R_drewN | apply Kd.R_drew)); exact HO_4.out) hb); replace BK246 := Sd.mk (blk_below (bkA BK246.out) hb); replace HB := Sd.mk (below_step (bBl HB.out) hb); (try clear hb); (try clear hb2); (try clear hk); (try clear hi); obtain ⟨u99_0, u99_1, u99_2, u99_3, u99_4, u99_5, u99_6, o99_0, o99_1, o99_2, o99_3, o99_4, o99_5, o99_6⟩ := bc7 (w := w98) BK246.out))
                      go_ret
                      exact ⟨tE, bBl HB.out⟩
                   ·replace c88 := Bool.eq_false_iff.mpr c88
                    subst c88
                    have H1 : (some 1) = some r := by rw [if_neg (show ¬ (false = true) by decide)] at H; exact H
                    clear H; have H := H1; clear H1; obtain rfl := Option.some.inj H; obtain ⟨u100_0, u100_1, u100_2, u100_3, u100_4, u100_5, u100_6, o100_0, o100_1, o100_2, o100_3, o100_4, o100_5, o100_6⟩ := bc7 (w := wr) BK246.out
                    go_wp2_with (first | ((with_reducible refine gate_callee (f := 77) rfl ?_); refine goesL_ (some 161) rfl rfl Try.func77 (by kernel_rfl) rfl #[.agg #[.int .i64 a0_4, .int .i64 a0_5], .int .i64 (-10000), .int .i64 10000] rfl tM ?_; (with_reducible refine (rf_within.calls a0_4 a0_5 (-10000) 10000 false _ A87.out).mono ?_); rintro e w101 ⟨rfl, hb⟩; refine ⟨_, rfl, ?_⟩; replace HO_4 := Sd.mk (Kd.R_below (by (with_reducible repeat (first | apply Kd.R_alloc | apply Kd.R_drewN | apply Kd.R_drew)); exact HO_4.out) hb); replace BK246 := Sd.mk (blk_below (bkA BK246.out) hb); replace HB := Sd.mk (below_step (bBl HB.out) hb); (try clear hb); (try clear hb2); (try clear hk); (try clear hi)))
                    go_ret
                    exact ⟨tE, bBl HB.out⟩
           ·rw [if_neg c52] at H
            have c52b0 : ((l0_2.length : Int) == (l0_0.length : Int)) = false := beq_eq_false_iff_ne.mpr c52
            have c52b1 : ((l0_2.length : Int) != (l0_0.length : Int)) = true := bne_iff_ne.mpr c52
            have c52b2 : (l0_2.length == l0_0.length) = false := by first | simpa using c52 | (simp at c52 ⊢; omega)
            obtain rfl := Option.some.inj H; obtain ⟨u102_0, u102_1, u102_2, u102_3, u102_4, u102_5, u102_6, o102_0, o102_1, o102_2, o102_3, o102_4, o102_5, o102_6⟩ := bc7 (w := wr) BK246.out
            go_wp2
            go_ret
            exact ⟨tE, bBl HB.out⟩
end Go.Proofs.Ytkjkokgbhepmoaa.PB

namespace Go.Proofs.Ytkjkokgbhepmoaa.PB
open Go.RowKit Go.Proofs.YtkjkokgbhepmoaaW.PrintWords Go.Proofs.YtkjkokgbhepmoaaW.PrintLast Go.Proofs.YtkjkokgbhepmoaaW.PrintMore
attribute [local go_sem] max2_int min2_int max_two min_two max_three min_three max_four min_four
def rf_sums.l0 : Nat → List (S27) → Int → Int → Int → Option (Int × Int)
 | 0, _, _, _, _ => none
 | k + 1, x0, x4, x5, x6 => if x6 < (x0.length : Int) then (if 0 ≤ x6 then (rf_sums.l0 k x0 (wrap64 (x4 + ((rd_T27 x0 x6).f0))) (wrap64 (x5 + ((rd_T27 x0 x6).f1))) (wrap64 (x6 + 1))) else (none)) else (some (x4, x5))
def rf_sums.f (k : Nat) (l0 : List (S27)) : Option (Int × Int) := rf_sums.l0 k l0 0 0 0
set_option maxHeartbeats 8000000 in
set_option maxRecDepth 100000 in
theorem rf_sums.calls (k : Nat) (A0 : Option Addr) (c0 : Nat) (l0 : List (S27)) (r1 : Int) (r2 : Int) (w : World) (hr0 : Kd.C k27 w A0 l0.length l0) (hc0 : l0.length ≤ c0) (h : rf_sums.f k l0 = some (r1, r2)) :
  Calls Try.prog 60 #[.slice A0 l0.length c0] w fun e w' => e = .returned (.tuple #[.int .i64 r1, .int .i64 r2]) ∧ Drawn0 w w' := by
 have HR0 := Sd.mk hr0; have HC0 := Sd.mk hc0; clear hr0 hc0
 have H : (rf_sums.l0 k l0 0 0 0) = some (r1, r2) := h
 clear h; have H' := Sd.mk H; clear H
 go_enter Try.func60, Try.ntmps60
 go_wp2
 go_loopg [4, 5, 6] k (fun kq v4 v5 v6 w' => ∃ (x4_1 : Int) (x5_1 : Int) (x6_1 : Int), v4 = .int .i64 x4_1 ∧ v5 = .int .i64 x5_1 ∧ v6 = .int .i64 x6_1 ∧ Sd (rf_sums.l0 kq l0 x4_1 x5_1 x6_1 = some (r1, r2)) ∧ Sd (kq ≤ k) ∧ Drawn0 w w')
 case atStart => exact ⟨(0), (0), (0), tS, tS, tS, H', ⟨Nat.le_refl _⟩, by repeat (first | exact Drawn0.refl _ | apply Drawn0.step)⟩
 case round =>
  clear H'
  obtain ⟨x4_1, x5_1, x6_1, rfl, rfl, rfl, HA, HK1, ⟨m1, rfl⟩⟩ := hrel
  cases gk with
  | zero => exact absurd HA.out (by simp [rf_sums.l0])
  | succ k1 =>
   have H := HA.out; clear HA
   simp only [rf_sums.l0] at H
   by_cases c2 : x6_1 < (l0.length : Int)
   ·rw [if_pos c2] at H
    have c2b0 : decide (x6_1 < (l0.length : Int)) = true := decide_eq_true c2
    clear c2
    by_cases c3 : 0 ≤ x6_1
    ·rw [if_pos c3] at H
     have c3b0 : decide (0 ≤ x6_1) = true := decide_eq_true c3
     clear c3; have H' := Sd.mk H; clear H
     have p286 : 0 ≤ (x6_1 : Int) := tB
     have q286 : x6_1 < (l0.length : Int) := tB
     obtain ⟨ad286, e286, hx286_0, hx286_1⟩ := at_T27 HR0.out x6_1 p286 q286; cases e286; replace p286 := eq_true p286; replace q286 := eq_true q286
     have p287 : 0 ≤ (x6_1 : Int) := tB
     have q287 : x6_1 < (l0.length : Int) := tB
     obtain ⟨ad287, e287, hx287_0, hx287_1⟩ := at_T27 HR0.out x6_1 p287 q287
     obtain rfl : ad286 = ad287 := (by injection e287)
     replace p287 := eq_true p287; replace q287 := eq_true q287
     go_wp2
     go_roundg k1
     case measure => have := HK1.out; omega
     case rel => exact ⟨(wrap64 (x4_1 + ((rd_T27 l0 x6_1).f0))), (wrap64 (x5_1 + ((rd_T27 l0 x6_1).f1))), (wrap64 (x6_1 + 1)), tS, tS, tS, H', ⟨by have := HK1.out; omega⟩, by repeat (first | exact Drawn0.refl _ | apply Drawn0.step)⟩
    ·rw [if_neg c3] at H
     exact absurd H (by simp)
   ·rw [if_neg c2] at H
    have c2b0 : decide (x6_1 < (l0.length : Int)) = false := decide_eq_false c2
    clear c2
    simp only [Option.some.injEq, Prod.mk.injEq] at H
    obtain ⟨rfl, rfl⟩ := H
    go_wp2
    go_ret2
    exact ⟨by first | rfl | (simp; done) | (simp [*]; done), by repeat (first | exact Drawn0.refl _ | apply Drawn0.step)⟩
end Go.Proofs.Ytkjkokgbhepmoaa.PB

namespace Go.Proofs.Ytkjkokgbhepmoaa.PB
open Go.RowKit Go.Proofs.YtkjkokgbhepmoaaW.PrintWords Go.Proofs.YtkjkokgbhepmoaaW.PrintLast Go.Proofs.YtkjkokgbhepmoaaW.PrintMore
attribute [local go_sem] max2_int min2_int max_two min_two max_three min_three max_four min_four
theorem k65_mkF' (W : World) (ok : Nat → Prop) (x : S65) {A1 : Option Addr} {c1 n : Nat} (hn : n = x.f1.length) (l1 : x.f1.length ≤ c1) (g1 : Kd.F (Kd.int .i64) W ok A1 x.f1.length x.f1) : Kd.FK k65 W ok x [.string x.f0, .slice A1 n c1, .int .i64 x.f2.f0, .int .i64 x.f2.f1] := by
 subst hn
 exact k65_mkF W ok x l1 g1
theorem R_len {α : Type} {d : Kd α} {e : Nat} {w : World} {base : Nat} {ok : Nat → Prop} {A : Option Addr} {n c : Nat} {xs : List α} (hn : n = xs.length) (h : d.R e w base ok (.slice A n c) xs) : d.R e w base ok (.slice A xs.length c) xs := hn ▸ h
def rf_Forms.l0 : Nat → List (S65) → Int → List ByteArray → List (S63) → List (S27) → List (S65) → Int → Int → Int → Option ((List (S65)))
 | 0, _, _, _, _, _, _, _, _, _ => none
 | k + 1, x3, x4, x295q0, x295q1, x295q2, x295q3, x295q4, x295q5, x295q6 => if x4 < (x295q0.length : Int) then (if 0 ≤ (x295q0.length : Int) then (if ((x295q0.length : Int) : Int).toNat ≤ 35184372088832 then ((some (List.replicate ((x295q0.length : Int) : Int).toNat 0 : List Int)).bind fun y295 => (if 0 ≤ x4 then (if x4 < (x295q2.length : Int) then (if x4 < (y295.length : Int) then (if x3.length < 2513169434916 then (rf_Forms.l0 k (x3 ++ [(⟨(⟨#[]⟩ : ByteArray), (y295.set (x4 : Int).toNat 1000), (⟨(rd_T27 x295q2 x4).f0, (rd_T27 x295q2 x4).f1⟩ : S27)⟩ : S65)]) (wrap64 (x4 + 1)) x295q0 x295q1 x295q2 x295q3 x295q4 x295q5 x295q6) else (none)) else (none)) else (none)) else (none))) else (none)) else (none)) else (if x3.length + x295q3.length < 2513169434916 then (some (x3 ++ x295q3)) else (none))
def rf_Forms.f (k : Nat) (l0_0 : List ByteArray) (l0_1 : List (S63)) (l0_2 : List (S27)) (l0_3 : List (S65)) (a0_4 : Int) (a0_5 : Int) (a0_6 : Int) : Option ((List (S65))) := rf_Forms.l0 k ([] : List (S65)) 0 l0_0 l0_1 l0_2 l0_3 a0_4 a0_5 a0_6
def rf_Forms.T5 : Bool × List (List Nat × List Nat) := (true, [([], []), ([0], [0]), ([1], [1]), ([2, 2], [2]), ([], []), ([4], [4]), ([], []), ([5, 6], [5, 6]), ([7], [7]), ([3, 8], [3, 8]), ([], []), ([10, 9, 0, 1, 2, 3, 4, 5, 6, 7, 8, 9, 10], [9, 10])])
def rf_Forms.B5 : List Nat := [0, 1, 3, 7, 0, 16, 0, 112, 240, 511, 0, 2047]
theorem rf_Forms.tab5 : rtab .any (opsOf Try.f53 5) = rf_Forms.T5 := by kernel_rfl
theorem rf_Forms.bits5 : waitsOk rf_Forms.T5.2 rf_Forms.B5 = true := by kernel_rfl
set_option maxHeartbeats 8000000 in
set_option maxRecDepth 100000 in
theorem rf_Forms.calls (k : Nat) (A0_0 : Option Addr) (c0_0 : Nat) (l0_0 : List ByteArray) (A0_1 : Option Addr) (c0_1 : Nat) (l0_1 : List (S63)) (A0_2 : Option Addr) (c0_2 : Nat) (l0_2 : List (S27)) (P0_3_ : Nat → Prop) (A0_3 : Option Addr) (c0_3 : Nat) (l0_3 : List (S65)) (a0_4 : Int) (a0_5 : Int) (a0_6 : Int) (r : List (S65)) (w : World) (hr0_0 : Kd.C Kd.string w A0_0 l0_0.length l0_0) (hc0_0 : l0_0.length ≤ c0_0) (hr0_1 : Kd.C k63 w A0_1 l0_1.length l0_1) (hc0_1 : l0_1.length ≤ c0_1) (hr0_2 : Kd.C k27 w A0_2 l0_2.length l0_2) (hc0_2 : l0_2.length ≤ c0_2) (hs0_3 : Kd.V k65 65 w w.heap.size (fun k_ => P0_3_ k_) (.slice A0_3 l0_3.length c0_3) l0_3) (h : rf_Forms.f k l0_0 l0_1 l0_2 l0_3 a0_4 a0_5 a0_6 = some r) :
  Calls Try.prog 53 #[.agg #[.slice A0_0 l0_0.length c0_0, .slice A0_1 l0_1.length c0_1, .slice A0_2 l0_2.length c0_2, .slice A0_3 l0_3.length c0_3, .int .i64 a0_4, .int .i64 a0_5, .int .i64 a0_6]] w fun e w' => ∃ v0_ : Value, e = .returned (v0_) ∧ Kd.N k65 65 w' w.heap.size (fun k_ => (P0_3_ k_ ∨ w.heap.size ≤ k_)) v0_ r ∧ Below w.heap.size w w' := by
 have hu29 := Try.underlying29; have hu27 := Try.underlying27; have hu65 := Try.underlying65; have HR0_0 := Sd.mk hr0_0; have HC0_0 := Sd.mk hc0_0; clear hr0_0 hc0_0; have HR0_1 := Sd.mk hr0_1; have HC0_1 := Sd.mk hc0_1; clear hr0_1 hc0_1; have HR0_2 := Sd.mk hr0_2; have HC0_2 := Sd.mk hc0_2; clear hr0_2 hc0_2
 have HO0_3 := Sd.mk (show Kd.V k65 65 w w.heap.size (fun k_ => (P0_3_ k_ ∨ w.heap.size ≤ k_)) (.slice A0_3 l0_3.length c0_3) l0_3 from Kd.V_mono hs0_3 (fun k_ hk => .inl hk))
 have HB := Sd.mk (Below.refl w.heap.size w)
 have H : (rf_Forms.l0 k ([] : List (S65)) 0 l0_0 l0_1 l0_2 l0_3 a0_4 a0_5 a0_6) = some r := h
 clear h; have H' := Sd.mk H; clear H
 go_enter Try.func53, Try.ntmps53
 go_wp2_with (first | ((with_reducible refine gate_dst (N := 1) rfl ?_); refine box_event ?hg (N := 1) ?hd (cs := #[.slice A0_0 l0_0.length c0_0, .slice A0_1 l0_1.length c0_1, .slice A0_2 l0_2.length c0_2, .slice A0_3 l0_3.length c0_3, .int .i64 a0_4, .int .i64 a0_5, .int .i64 a0_6]) (t := 29) ?hr ?_; (case hd => rfl); (case hg => rfl); (case hr => exact tG); intro gb294 hg w2 hbox hb; replace HO0_3 := Sd.mk (Kd.V_below (Kd.V_elderB (by (with_reducible repeat (first | apply Kd.V_alloc | apply Kd.V_drewN | apply Kd.V_drew)); exact HO0_3.out) gb294 (Nat.le_of_eq hg.symm)) hb); have BK294 := Sd.mk (hbox); have GW294 := Sd.mk (bSz hg (bBl HB.out)); have GE294 := Sd.mk (bSz hg (bBl HB.out)); replace HB := Sd.mk (below_step (bBl HB.out) hb); clear hb hbox hg))
 go_loopg [3, 4] k (fun kq v3 v4 w' => ∃ (x3_1 : List (S65)) (x4_1 : Int), v4 = .int .i64 x4_1 ∧ Sd (rf_Forms.l0 kq x3_1 x4_1 l0_0 l0_1 l0_2 l0_3 a0_4 a0_5 a0_6 = some r) ∧ Sd (kq ≤ k) ∧ Sd (Kd.N k65 65 w' w.heap.size (fun k_ => (P0_3_ k_ ∨ w.heap.size ≤ k_) ∧ k_ ≠ gb294) v3 x3_1) ∧ Sd (Kd.V k65 65 w' w.heap.size (fun k_ => (P0_3_ k_ ∨ w.heap.size ≤ k_) ∧ some k_ ≠ (v3 : Value).ownBlock ∧ k_ ≠ gb294) (.slice A0_3 l0_3.length c0_3) l0_3) ∧ Sd (w'.heap[gb294]? = some (.cells #[(.slice A0_0 l0_0.length c0_0), (.slice A0_1 l0_1.length c0_1), (.slice A0_2 l0_2.length c0_2), (.slice A0_3 l0_3.length c0_3), .int .i64 a0_4, .int .i64 a0_5, .int .i64 a0_6] 29 (0, 0))) ∧ Sd (Below w.heap.size w w'))
 case atStart => exact ⟨(([] : List (S65))), (0), tS, H', ⟨Nat.le_refl _⟩, ⟨by first | exact Kd.R_nil _ _ _ _ _ | exact Kd.N_nil _ _ _ _ _ | exact Kd.V_nil _ _ _ _ _ | exact Kd.Q_nil _ _ _ _ _ | exact Kd.S_nil _ _ _ _ _⟩, ⟨by (with_reducible repeat (first | apply Kd.V_alloc | apply Kd.V_drewN | apply Kd.V_drew)); exact Kd.V_mono HO0_3.out (fun _ hk => ⟨hk.1, ⟨(by simp [Value.ownBlock]), hk.2⟩⟩)⟩, ⟨bkA BK294.out⟩, ⟨bBl HB.out⟩⟩
 case round =>
  clear H'; (try clear p2); obtain ⟨x3_1, x4_1, rfl, HA, HK1, HO_3, HO_295003, BK294, HB⟩ := hrel
  cases gk with
  | zero => exact absurd HA.out (by simp [rf_Forms.l0])
  | succ k1 =>
   have H := HA.out; clear HA
   simp only [rf_Forms.l0] at H
   by_cases c3 : x4_1 < (l0_0.length : Int)
   ·rw [if_pos c3] at H
    have c3b0 : decide (x4_1 < (l0_0.length : Int)) = true := decide_eq_true c3
    clear c3
    by_cases c4 : 0 ≤ (l0_0.length : Int)
    ·rw [if_pos c4] at H
     have c4b0 := eq_true c4
     have c4b1 : decide (0 ≤ (l0_0.length : Int)) = true := decide_eq_true c4
     clear c4
     by_cases c5 : ((l0_0.length : Int) : Int).toNat ≤ 35184372088832
     ·rw [if_pos c5] at H
      have c5b0 := eq_true c5
      have c5b1 : decide (((l0_0.length : Int) : Int).toNat ≤ 35184372088832) = true := decide_eq_true c5
      clear c5
      obtain ⟨y295, hy295⟩ : ∃ y_ : List Int, y_ = (List.replicate ((l0_0.length : Int) : Int).toNat 0) := ⟨_, rfl⟩
      replace H : (if 0 ≤ x4_1 then (if x4_1 < (l0_2.length : Int) then (if x4_1 < (y295.length : Int) then (if x3_1.length < 2513169434916 then (rf_Forms.l0 k1 (x3_1 ++ [(⟨(⟨#[]⟩ : ByteArray), (y295.set (x4_1 : Int).toNat 1000), (⟨(rd_T27 l0_2 x4_1).f0, (rd_T27 l0_2 x4_1).f1⟩ : S27)⟩ : S65)]) (wrap64 (x4_1 + 1)) l0_0 l0_1 l0_2 l0_3 a0_4 a0_5 a0_6) else (none)) else (none)) else (none)) else (none)) = some r := by first | (rw [hy295]; with_reducible exact H) | (have H2_ := (Option.bind_some _ _).symm.trans H; rw [hy295]; with_reducible exact H2_) | (have H2_ := (Option.bind_some _ _).symm.trans H; with_reducible exact H2_) | with_reducible exact H | (rw [hy295]; exact H) | exact H
      have Ny295 := Sd.mk hy295; clear hy295
      by_cases c6 : 0 ≤ x4_1
      ·rw [if_pos c6] at H
       have c6b0 : decide (0 ≤ x4_1) = true := decide_eq_true c6
       clear c6
       by_cases c7 : x4_1 < (l0_2.length : Int)
       ·rw [if_pos c7] at H
        have c7b0 : decide (x4_1 < (l0_2.length : Int)) = true := decide_eq_true c7
        clear c7
        by_cases c8 : x4_1 < (y295.length : Int)
        ·rw [if_pos c8] at H
         have c8b0 : decide (x4_1 < (y295.length : Int)) = true := decide_eq_true c8
         clear c8
         obtain ⟨y300, hy300⟩ : ∃ y_ : List Int, y_ = (y295.set (x4_1 : Int).toNat 1000) := ⟨_, rfl⟩
         replace H : (if x3_1.length < 2513169434916 then (rf_Forms.l0 k1 (x3_1 ++ [(⟨(⟨#[]⟩ : ByteArray), y300, (⟨(rd_T27 l0_2 x4_1).f0, (rd_T27 l0_2 x4_1).f1⟩ : S27)⟩ : S65)]) (wrap64 (x4_1 + 1)) l0_0 l0_1 l0_2 l0_3 a0_4 a0_5 a0_6) else (none)) = some r := by first | (rw [hy300]; with_reducible exact H) | (have H2_ := (Option.bind_some _ _).symm.trans H; rw [hy300]; with_reducible exact H2_) | (have H2_ := (Option.bind_some _ _).symm.trans H; with_reducible exact H2_) | with_reducible exact H | (rw [hy300]; exact H) | exact H
         have Ny300 := Sd.mk hy300; clear hy300
         by_cases c10 : x3_1.length < 2513169434916
         ·rw [if_pos c10] at H
          have LMc10 := Sd.mk c10; clear c10
          obtain ⟨y301, hy301⟩ : ∃ y_ : List (S65), y_ = (x3_1 ++ [(⟨(⟨#[]⟩ : ByteArray), y300, (⟨(rd_T27 l0_2 x4_1).f0, (rd_T27 l0_2 x4_1).f1⟩ : S27)⟩ : S65)]) := ⟨_, rfl⟩
          replace H : (rf_Forms.l0 k1 y301 (wrap64 (x4_1 + 1)) l0_0 l0_1 l0_2 l0_3 a0_4 a0_5 a0_6) = some r := by first | (rw [hy301]; with_reducible exact H) | (have H2_ := (Option.bind_some _ _).symm.trans H; rw [hy301]; with_reducible exact H2_) | (have H2_ := (Option.bind_some _ _).symm.trans H; with_reducible exact H2_) | with_reducible exact H | (rw [hy301]; exact H) | exact H
          have Ny301 := Sd.mk hy301; clear hy301; have H' := Sd.mk H; clear H; obtain ⟨u11_0, u11_1, u11_2, u11_3, u11_4, u11_5, u11_6, o11_0, o11_1, o11_2, o11_3, o11_4, o11_5, o11_6⟩ := bc7 (w := wr) BK294.out
          try go_wp2
          replace HO_3 := Sd.mk (Kd.N_drew HO_3.out); replace HO_295003 := Sd.mk (Kd.V_drew HO_295003.out); replace BK294 := Sd.mk (blk_drew BK294.out); replace HB := Sd.mk (below_drew1 HB.out)
          have p298 : 0 ≤ (x4_1 : Int) := tB
          have q298 : x4_1 < (l0_2.length : Int) := tB
          obtain ⟨ad298, e298, hx298_0, hx298_1⟩ := at_T27 HR0_2.out x4_1 p298 q298; have hw298_1 := hx298_1; have hw298_0 := hx298_0; cases e298; replace hx298_0 := cU HB hx298_0; replace hx298_1 := cU HB hx298_1; replace p298 := eq_true p298; replace q298 := eq_true q298
          refine start_ (n := 12) (S := fun w' => w'.cell? ⟨gb294, 0, none⟩ = some (.slice A0_0 l0_0.length c0_0) ∧ w'.cell? ⟨gb294, 1, none⟩ = some (.slice A0_1 l0_1.length c0_1) ∧ w'.cell? ⟨gb294, 2, none⟩ = some (.slice (some ad298) l0_2.length c0_2) ∧ w'.cell? ⟨gb294, 3, none⟩ = some (.slice A0_3 l0_3.length c0_3) ∧ w'.cell? ⟨gb294, 4, none⟩ = some (.int .i64 a0_4) ∧ w'.cell? ⟨gb294, 5, none⟩ = some (.int .i64 a0_5) ∧ w'.cell? ⟨gb294, 6, none⟩ = some (.int .i64 a0_6) ∧ w'.cell? (ad298.add ((x4_1).toNat * 2)) = some (.int .i64 ((rd_T27 l0_2 x4_1).f0)) ∧ w'.cell? ⟨(ad298.add ((x4_1).toNat * 2)).block, (ad298.add ((x4_1).toNat * 2)).off + 1, none⟩ = some (.int .i64 ((rd_T27 l0_2 x4_1).f1))) (ds := []) #[false, false, false, false, false, false, false, false, false, false, false, false] (by kernel_rfl) rfl rfl ⟨(blk_cell BK294.out 0).trans rfl, (blk_cell BK294.out 1).trans rfl, (blk_cell BK294.out 2).trans rfl, (blk_cell BK294.out 3).trans rfl, (blk_cell BK294.out 4).trans rfl, (blk_cell BK294.out 5).trans rfl, (blk_cell BK294.out 6).trans rfl, ((HB.out.cell (World.block_lt_of_cell? w _ hw298_0)).trans hw298_0), ((HB.out.cell (World.block_lt_of_cell? w _ hw298_1)).trans hw298_1)⟩ (fun hHeld => ?_); refine with_tabW rf_Forms.tab5 rf_Forms.bits5 (fun HT_ HW_ => ?_)
          generalize wr.drew = w12 at HO_3 HO_295003 BK294 HB hx298_0 hx298_1 hHeld ⊢
          refine pure_ (i := 0) (N := some 13) (v := ?_) (a' := ?_) #[true, false, false, false, false, false, false, false, false, false, false, false] rfl rfl (any_of HT_.out (by kernel_rfl)) (fun _ _ _ h => h) (Or.inl ⟨by rfl, ?_⟩) ?_ ?_
          rotate_left
          ·exact tW
          rotate_left
          ·exact tP
          refine pure_ (i := 4) (N := some 17) (v := ?_) (a' := ?_) #[true, false, false, false, true, false, false, false, false, false, false, false] rfl rfl (any_of HT_.out (by kernel_rfl)) (fun _ _ _ h => h) (Or.inl ⟨by rfl, ?_⟩) ?_ ?_
          rotate_left
          ·exact tW
          rotate_left
          ·exact tP
          refine pure_ (i := 6) (N := some 19) (v := ?_) (a' := ?_) #[true, false, false, false, true, false, true, false, false, false, false, false] rfl rfl (any_of HT_.out (by kernel_rfl)) (fun _ _ _ h => h) (Or.inl ⟨by rfl, ?_⟩) ?_ ?_
          rotate_left
          ·exact tW
          rotate_left
          ·exact tP
          refine take_ (i := 1) (N := some 14) (v := ?_) (a' := ?_) #[true, true, false, false, true, false, true, false, false, false, false, false] rfl rfl (take_ofW HT_.out HW_.out (by kernel_rfl)) (fun _ _ _ h => h) (Or.inl ⟨by rfl, ?_⟩) hHeld ?_ ?_
          rotate_left
          ·rintro w' ⟨s0, s1, s2, s3, s4, s5, s6, s7, s8⟩
           go_simp
           with_reducible rfl
          rotate_left
          ·exact tP
          refine pure_ (i := 2) (N := some 15) (v := ?_) (a' := ?_) #[true, true, true, false, true, false, true, false, false, false, false, false] rfl rfl (any_of HT_.out (by kernel_rfl)) (fun _ _ _ h => h) (Or.inl ⟨by rfl, ?_⟩) ?_ ?_
          rotate_left
          ·exact tW
          rotate_left
          ·exact tP
          refine take_ (i := 5) (N := some 18) (v := ?_) (a' := ?_) #[true, true, true, false, true, true, true, false, false, false, false, false] rfl rfl (take_ofW HT_.out HW_.out (by kernel_rfl)) (fun _ _ _ h => h) (Or.inl ⟨by rfl, ?_⟩) hHeld ?_ ?_
          rotate_left
          ·rintro w' ⟨s0, s1, s2, s3, s4, s5, s6, s7, s8⟩
           go_simp
           with_reducible rfl
          rotate_left
          ·exact tP
          refine pure_ (i := 7) (N := some 20) (v := ?_) (a' := ?_) #[true, true, true, false, true, true, true, true, false, false, false, false] rfl rfl (any_of HT_.out (by kernel_rfl)) (fun _ _ _ h => h) (Or.inl ⟨by rfl, ?_⟩) ?_ ?_
          rotate_left
          ·exact tW
          rotate_left
          ·exact tP
          refine take_ (i := 8) (N := some 21) (v := ?_) (a' := ?_) #[true, true, true, false, true, true, true, true, true, false, false, false] rfl rfl (take_ofW HT_.out HW_.out (by kernel_rfl)) (fun _ _ _ h => h) (Or.inl ⟨by rfl, ?_⟩) hHeld ?_ ?_
          rotate_left
          ·rintro w' ⟨s0, s1, s2, s3, s4, s5, s6, s7, s8⟩
           go_simp
           with_reducible rfl
          rotate_left
          ·exact tP
          refine join_ (σ := Value × Nat) 1 #[true, true, true, true, true, true, true, true, true, true, true, false] (fun s_ => [(16, s_.1), (5, .pointer (some ⟨s_.2, 0, none⟩)), (22, .agg #[.string (⟨#[]⟩ : ByteArray), s_.1, .int .i64 ((rd_T27 l0_2 x4_1).f0), .int .i64 ((rd_T27 l0_2 x4_1).f1)])]) (fun s_ w' => (w'.cell? ⟨gb294, 0, none⟩ = some (.slice A0_0 l0_0.length c0_0) ∧ w'.cell? ⟨gb294, 1, none⟩ = some (.slice A0_1 l0_1.length c0_1) ∧ w'.cell? ⟨gb294, 2, none⟩ = some (.slice (some ad298) l0_2.length c0_2) ∧ w'.cell? ⟨gb294, 3, none⟩ = some (.slice A0_3 l0_3.length c0_3) ∧ w'.cell? ⟨gb294, 4, none⟩ = some (.int .i64 a0_4) ∧ w'.cell? ⟨gb294, 5, none⟩ = some (.int .i64 a0_5) ∧ w'.cell? ⟨gb294, 6, none⟩ = some (.int .i64 a0_6) ∧ w'.cell? (ad298.add ((x4_1).toNat * 2)) = some (.int .i64 ((rd_T27 l0_2 x4_1).f0)) ∧ w'.cell? ⟨(ad298.add ((x4_1).toNat * 2)).block, (ad298.add ((x4_1).toNat * 2)).off + 1, none⟩ = some (.int .i64 ((rd_T27 l0_2 x4_1).f1))) ∧ (Kd.R (Kd.int .i64) 3 w' w.heap.size (fun k_ => (w.heap.size ≤ k_)) s_.1 y295) ∧ (Kd.V k65 65 w' w.heap.size (fun k_ => (P0_3_ k_ ∨ w.heap.size ≤ k_) ∧ some k_ ≠ (s_.1 : Value).ownBlock ∧ some k_ ≠ (u3 : Value).ownBlock ∧ k_ ≠ gb294 ∧ k_ ≠ s_.2) (.slice A0_3 l0_3.length c0_3) l0_3) ∧ (Kd.N k65 65 w' w.heap.size (fun k_ => (P0_3_ k_ ∨ w.heap.size ≤ k_) ∧ some k_ ≠ (s_.1 : Value).ownBlock ∧ k_ ≠ gb294 ∧ k_ ≠ s_.2) u3 x3_1) ∧ (w'.heap[gb294]? = some (.cells #[.slice A0_0 l0_0.length c0_0, .slice A0_1 l0_1.length c0_1, .slice (some ad298) l0_2.length c0_2, .slice A0_3 l0_3.length c0_3, .int .i64 a0_4, .int .i64 a0_5, .int .i64 a0_6] 29 (0, 0))) ∧ (w'.heap[s_.2]? = some (.cells #[.string (⟨#[]⟩ : ByteArray), .slice none 0 0, .int .i64 0, .int .i64 0] 65 (0, 0))) ∧ (w.heap.size ≤ s_.2) ∧ (w.heap.size ≤ s_.2) ∧ (gb294 ≠ s_.2) ∧ (s_.2 ≠ gb294) ∧ (Below w.heap.size w w')) ?_ ?_
          rotate_left
          ·intro hCont
           refine two_ (i := 3) (j := 10) (Ni := some 16) (Nj := some 5) #[true, true, true, true, true, true, true, true, true, false, false, false] #[true, true, true, false, true, true, true, true, true, false, true, false] rfl rfl rfl rfl (two_of HT_.out (by kernel_rfl)) (by decide) (by decide) (fun K hK => ?_) (fun K hK => ?_)
           ·skip
            refine Kd.R_make_step (Kd.int .i64) _ 3 (by rfl) (N := 16) rfl 30 _ _ rfl (l0_0.length : Int) rfl rfl Try.underlying30 (.int .i64 0) 8 info3 rfl (by decide) (by omega) 0 (ok := fun _ => True) (okp := fun _ => True) rfl (fun _ hk => hk) trivial (tB) (Nat.le_trans (Nat.mul_le_mul_right _ (tB : (l0_0.length : Int).toNat ≤ 35184372088832)) (by omega)) (Below.refl _ _) (Nat.le_refl _) ?_
            intro v296 w13 ho14 hb hg_ hnew_
            clear hg_ hnew_
            (first | rw [← Ny295.out] at ho14 | (simp only [Int.reduceToNat] at ho14; rw [← Ny295.out] at ho14))
            replace HO_3 := Sd.mk (Kd.N_elder' (by (with_reducible repeat (first | apply Kd.N_alloc | apply Kd.N_drewN | apply Kd.N_drew)); exact HO_3.out) (Kd.R_base ho14) hb)
            replace HO_295003 := Sd.mk (Kd.V_elder' (by (with_reducible repeat (first | apply Kd.V_alloc | apply Kd.V_drewN | apply Kd.V_drew)); exact HO_295003.out) (Kd.R_base ho14) hb)
            have HO297 := Sd.mk (Kd.R_lower (Kd.R_newM (M := fun k_ => (w.heap.size ≤ k_)) ho14 (below_size (bBl HB.out)) (fun k_ h_ => h_)) (below_size (bBl HB.out)))
            replace BK294 := Sd.mk (blk_below (bkA BK294.out) hb); replace HB := Sd.mk (below_step (bBl HB.out) hb); clear hb ho14; obtain ⟨Ao15, co15, eo15⟩ := Kd.R_slice HO297.out
            (first | subst eo15 | (injection eo15 with f1_ f2_ f3_; have f4_ := f1_.symm; have f5_ := f3_.symm; clear f1_ f2_ f3_; subst f4_; subst f5_))
            refine hK.out _ _ ⟨(blk_cell BK294.out 0).trans rfl, (blk_cell BK294.out 1).trans rfl, (blk_cell BK294.out 2).trans rfl, (blk_cell BK294.out 3).trans rfl, (blk_cell BK294.out 4).trans rfl, (blk_cell BK294.out 5).trans rfl, (blk_cell BK294.out 6).trans rfl, ((HB.out.cell (World.block_lt_of_cell? w _ hw298_0)).trans hw298_0), ((HB.out.cell (World.block_lt_of_cell? w _ hw298_1)).trans hw298_1)⟩ (fun hHeld => ?_)
            clear hK K
            refine norm_ (a' := ?_) ?_ ?_
            rotate_left
            ·show Act.put _ (some 16) _ = _
             exact tP
            refine pure_ (i := 9) (N := some 22) (v := ?_) (a' := ?_) #[true, true, true, true, true, true, true, true, true, true, false, false] rfl rfl (any_of HT_.out (by kernel_rfl)) (fun _ _ _ h => h) (Or.inl ⟨by rfl, ?_⟩) ?_ ?_
            rotate_left
            ·exact tW
            rotate_left
            ·exact tP
            refine one_ (i := 10) (N := some 5) #[true, true, true, true, true, true, true, true, true, true, true, false] rfl rfl (one_of HT_.out (by kernel_rfl)) (by decide) (fun K hK => ?_)
            refine box_step ?hg (N := 5) ?hd (cs := #[.string (⟨#[]⟩ : ByteArray), .slice none 0 0, .int .i64 0, .int .i64 0]) (t := 65) ?hr ?_; (case hd => rfl); (case hg => rfl); (case hr => exact tG)
            intro gb299 hg w16 hbox hb
            replace HO_3 := Sd.mk (Kd.N_below (Kd.N_elderB (by (with_reducible repeat (first | apply Kd.N_alloc | apply Kd.N_drewN | apply Kd.N_drew)); exact HO_3.out) gb299 (Nat.le_of_eq hg.symm)) hb)
            replace HO_295003 := Sd.mk (Kd.V_below (Kd.V_elderB (by (with_reducible repeat (first | apply Kd.V_alloc | apply Kd.V_drewN | apply Kd.V_drew)); exact HO_295003.out) gb299 (Nat.le_of_eq hg.symm)) hb)
            replace HO297 := Sd.mk (Kd.R_below (by (with_reducible repeat (first | apply Kd.R_alloc | apply Kd.R_drewN | apply Kd.R_drew)); exact HO297.out) hb)
            have BK299 := Sd.mk (hbox); have GW299 := Sd.mk (bSz hg (bBl HB.out)); have GE299 := Sd.mk (bSz hg (bBl HB.out)); replace HB := Sd.mk (below_step (bBl HB.out) hb); have NB294_299 := Sd.mk (bNl hg (bkA BK294.out)); have NB299_294 := Sd.mk (bNg hg (bkA BK294.out)); replace BK294 := Sd.mk (blk_below (bkA BK294.out) hb); clear hb hbox hg
            refine hK.out _ _ ⟨(blk_cell BK294.out 0).trans rfl, (blk_cell BK294.out 1).trans rfl, (blk_cell BK294.out 2).trans rfl, (blk_cell BK294.out 3).trans rfl, (blk_cell BK294.out 4).trans rfl, (blk_cell BK294.out 5).trans rfl, (blk_cell BK294.out 6).trans rfl, ((HB.out.cell (World.block_lt_of_cell? w _ hw298_0)).trans hw298_0), ((HB.out.cell (World.block_lt_of_cell? w _ hw298_1)).trans hw298_1)⟩ (fun hHeld => ?_)
            clear hK K
            refine norm_ (a' := ?_) ?_ ?_
            rotate_left
            ·show Act.put _ (some 5) _ = _
             exact tP
            exact norm_ (by simp only [putAll, Act.put, List.setIfInBounds_toArray, List.set_cons_zero, List.set_cons_succ]) (hCont (.slice Ao15 y295.length co15, gb299) _ ⟨hHeld, (by (with_reducible repeat (first | apply Kd.R_alloc | apply Kd.R_drewN | apply Kd.R_drew)); exact Kd.R_mono HO297.out (fun _ hk => hk.1)), (by (with_reducible repeat (first | apply Kd.V_alloc | apply Kd.V_drewN | apply Kd.V_drew)); exact Kd.V_mono HO_295003.out (fun _ hk => ⟨hk.1.1.1, ⟨hk.1.2, ⟨hk.1.1.2.1, ⟨hk.1.1.2.2, hk.2⟩⟩⟩⟩)), (by (with_reducible repeat (first | apply Kd.N_alloc | apply Kd.N_drewN | apply Kd.N_drew)); exact Kd.N_mono HO_3.out (fun _ hk => ⟨hk.1.1.1, ⟨hk.1.2, ⟨hk.1.1.2, hk.2⟩⟩⟩)), (bkA BK294.out), (bkA BK299.out), GW299.out, GE299.out, NB294_299.out, NB299_294.out, (bBl HB.out)⟩)
           ·skip
            refine box_step ?hg (N := 5) ?hd (cs := #[.string (⟨#[]⟩ : ByteArray), .slice none 0 0, .int .i64 0, .int .i64 0]) (t := 65) ?hr ?_; (case hd => rfl); (case hg => rfl); (case hr => exact tG)
            intro gb299 hg w13 hbox hb
            replace HO_3 := Sd.mk (Kd.N_below (Kd.N_elderB (by (with_reducible repeat (first | apply Kd.N_alloc | apply Kd.N_drewN | apply Kd.N_drew)); exact HO_3.out) gb299 (Nat.le_of_eq hg.symm)) hb)
            replace HO_295003 := Sd.mk (Kd.V_below (Kd.V_elderB (by (with_reducible repeat (first | apply Kd.V_alloc | apply Kd.V_drewN | apply Kd.V_drew)); exact HO_295003.out) gb299 (Nat.le_of_eq hg.symm)) hb)
            have BK299 := Sd.mk (hbox); have GW299 := Sd.mk (bSz hg (bBl HB.out)); have GE299 := Sd.mk (bSz hg (bBl HB.out)); replace HB := Sd.mk (below_step (bBl HB.out) hb); have NB294_299 := Sd.mk (bNl hg (bkA BK294.out)); have NB299_294 := Sd.mk (bNg hg (bkA BK294.out)); replace BK294 := Sd.mk (blk_below (bkA BK294.out) hb); clear hb hbox hg
            refine hK.out _ _ ⟨(blk_cell BK294.out 0).trans rfl, (blk_cell BK294.out 1).trans rfl, (blk_cell BK294.out 2).trans rfl, (blk_cell BK294.out 3).trans rfl, (blk_cell BK294.out 4).trans rfl, (blk_cell BK294.out 5).trans rfl, (blk_cell BK294.out 6).trans rfl, ((HB.out.cell (World.block_lt_of_cell? w _ hw298_0)).trans hw298_0), ((HB.out.cell (World.block_lt_of_cell? w _ hw298_1)).trans hw298_1)⟩ (fun hHeld => ?_)
            clear hK K
            refine norm_ (a' := ?_) ?_ ?_
            rotate_left
            ·show Act.put _ (some 5) _ = _
             exact tP
            refine one_ (i := 3) (N := some 16) #[true, true, true, true, true, true, true, true, true, false, true, false] rfl rfl (one_of HT_.out (by kernel_rfl)) (by decide) (fun K hK => ?_)
            refine Kd.R_make_step (Kd.int .i64) _ 3 (by rfl) (N := 16) rfl 30 _ _ rfl (l0_0.length : Int) rfl rfl Try.underlying30 (.int .i64 0) 8 info3 rfl (by decide) (by omega) 0 (ok := fun _ => True) (okp := fun _ => True) rfl (fun _ hk => hk) trivial (tB) (Nat.le_trans (Nat.mul_le_mul_right _ (tB : (l0_0.length : Int).toNat ≤ 35184372088832)) (by omega)) (Below.refl _ _) (Nat.le_refl _) ?_
            intro v296 w14 ho15 hb hg_ hnew_
            clear hg_ hnew_
            (first | rw [← Ny295.out] at ho15 | (simp only [Int.reduceToNat] at ho15; rw [← Ny295.out] at ho15))
            replace HO_3 := Sd.mk (Kd.N_elder' (by (with_reducible repeat (first | apply Kd.N_alloc | apply Kd.N_drewN | apply Kd.N_drew)); exact HO_3.out) (Kd.R_base ho15) hb)
            replace HO_295003 := Sd.mk (Kd.V_elder' (by (with_reducible repeat (first | apply Kd.V_alloc | apply Kd.V_drewN | apply Kd.V_drew)); exact HO_295003.out) (Kd.R_base ho15) hb)
            have HO297 := Sd.mk (Kd.R_lower (Kd.R_newM (M := fun k_ => (w.heap.size ≤ k_)) ho15 (below_size (bBl HB.out)) (fun k_ h_ => h_)) (below_size (bBl HB.out)))
            replace BK294 := Sd.mk (blk_below (bkA BK294.out) hb); replace BK299 := Sd.mk (blk_below (bkA BK299.out) hb); replace HB := Sd.mk (below_step (bBl HB.out) hb); clear hb ho15; obtain ⟨Ao16, co16, eo16⟩ := Kd.R_slice HO297.out
            (first | subst eo16 | (injection eo16 with f1_ f2_ f3_; have f4_ := f1_.symm; have f5_ := f3_.symm; clear f1_ f2_ f3_; subst f4_; subst f5_))
            refine hK.out _ _ ⟨(blk_cell BK294.out 0).trans rfl, (blk_cell BK294.out 1).trans rfl, (blk_cell BK294.out 2).trans rfl, (blk_cell BK294.out 3).trans rfl, (blk_cell BK294.out 4).trans rfl, (blk_cell BK294.out 5).trans rfl, (blk_cell BK294.out 6).trans rfl, ((HB.out.cell (World.block_lt_of_cell? w _ hw298_0)).trans hw298_0), ((HB.out.cell (World.block_lt_of_cell? w _ hw298_1)).trans hw298_1)⟩ (fun hHeld => ?_)
            clear hK K
            refine norm_ (a' := ?_) ?_ ?_
            rotate_left
            ·show Act.put _ (some 16) _ = _
             exact tP
            refine pure_ (i := 9) (N := some 22) (v := ?_) (a' := ?_) #[true, true, true, true, true, true, true, true, true, true, true, false] rfl rfl (any_of HT_.out (by kernel_rfl)) (fun _ _ _ h => h) (Or.inl ⟨by rfl, ?_⟩) ?_ ?_
            rotate_left
            ·exact tW
            rotate_left
            ·exact tP
            exact norm_ (by simp only [putAll, Act.put, List.setIfInBounds_toArray, List.set_cons_zero, List.set_cons_succ]) (hCont (.slice Ao16 y295.length co16, gb299) _ ⟨hHeld, (by (with_reducible repeat (first | apply Kd.R_alloc | apply Kd.R_drewN | apply Kd.R_drew)); exact Kd.R_mono HO297.out (fun _ hk => hk.1)), (by (with_reducible repeat (first | apply Kd.V_alloc | apply Kd.V_drewN | apply Kd.V_drew)); exact Kd.V_mono HO_295003.out (fun _ hk => ⟨hk.1.1.1, ⟨hk.2, ⟨hk.1.1.2.1, ⟨hk.1.1.2.2, hk.1.2⟩⟩⟩⟩)), (by (with_reducible repeat (first | apply Kd.N_alloc | apply Kd.N_drewN | apply Kd.N_drew)); exact Kd.N_mono HO_3.out (fun _ hk => ⟨hk.1.1.1, ⟨hk.2, ⟨hk.1.1.2, hk.1.2⟩⟩⟩)), (bkA BK294.out), (bkA BK299.out), GW299.out, GE299.out, NB294_299.out, NB299_294.out, (bBl HB.out)⟩)
          rintro ⟨v296, gb299⟩ w17 ⟨hS_, h0_, h1_, h2_, h3_, h4_, h5_, h6_, h7_, h8_, h9_⟩
          have n0_ : Sd (Kd.R (Kd.int .i64) 3 w17 w.heap.size (fun k_ => (w.heap.size ≤ k_)) v296 y295) := ⟨h0_⟩
          have n1_ : Sd (Kd.V k65 65 w17 w.heap.size (fun k_ => (P0_3_ k_ ∨ w.heap.size ≤ k_) ∧ some k_ ≠ (v296 : Value).ownBlock ∧ some k_ ≠ (u3 : Value).ownBlock ∧ k_ ≠ gb294 ∧ k_ ≠ gb299) (.slice A0_3 l0_3.length c0_3) l0_3) := ⟨h1_⟩
          have n2_ : Sd (Kd.N k65 65 w17 w.heap.size (fun k_ => (P0_3_ k_ ∨ w.heap.size ≤ k_) ∧ some k_ ≠ (v296 : Value).ownBlock ∧ k_ ≠ gb294 ∧ k_ ≠ gb299) u3 x3_1) := ⟨h2_⟩
          have n3_ : Sd (w17.heap[gb294]? = some (.cells #[.slice A0_0 l0_0.length c0_0, .slice A0_1 l0_1.length c0_1, .slice (some ad298) l0_2.length c0_2, .slice A0_3 l0_3.length c0_3, .int .i64 a0_4, .int .i64 a0_5, .int .i64 a0_6] 29 (0, 0))) := ⟨h3_⟩
          have n4_ : Sd (w17.heap[gb299]? = some (.cells #[.string (⟨#[]⟩ : ByteArray), .slice none 0 0, .int .i64 0, .int .i64 0] 65 (0, 0))) := ⟨h4_⟩
          have n5_ : Sd (w.heap.size ≤ gb299) := ⟨h5_⟩
          have n6_ : Sd (w.heap.size ≤ gb299) := ⟨h6_⟩
          have n7_ : Sd (gb294 ≠ gb299) := ⟨h7_⟩
          have n8_ : Sd (gb299 ≠ gb294) := ⟨h8_⟩
          have n9_ : Sd (Below w.heap.size w w17) := ⟨h9_⟩
          clear HO_3; clear HO_295003; clear BK294; clear HB; clear h0_ h1_ h2_ h3_ h4_ h5_ h6_ h7_ h8_ h9_; have HO297 := n0_; have HO_295003 := n1_; have HO_3 := n2_; have BK294 := n3_; have BK299 := n4_; have GW299 := n5_; have GE299 := n6_; have NB294_299 := n7_; have NB299_294 := n8_; have HB := n9_; clear n0_ n1_ n2_ n3_ n4_ n5_ n6_ n7_ n8_ n9_
          have hHeld : w17.cell? ⟨gb294, 0, none⟩ = some (.slice A0_0 l0_0.length c0_0) ∧ w17.cell? ⟨gb294, 1, none⟩ = some (.slice A0_1 l0_1.length c0_1) ∧ w17.cell? ⟨gb294, 2, none⟩ = some (.slice (some ad298) l0_2.length c0_2) ∧ w17.cell? ⟨gb294, 3, none⟩ = some (.slice A0_3 l0_3.length c0_3) ∧ w17.cell? ⟨gb294, 4, none⟩ = some (.int .i64 a0_4) ∧ w17.cell? ⟨gb294, 5, none⟩ = some (.int .i64 a0_5) ∧ w17.cell? ⟨gb294, 6, none⟩ = some (.int .i64 a0_6) ∧ w17.cell? (ad298.add ((x4_1).toNat * 2)) = some (.int .i64 ((rd_T27 l0_2 x4_1).f0)) ∧ w17.cell? ⟨(ad298.add ((x4_1).toNat * 2)).block, (ad298.add ((x4_1).toNat * 2)).off + 1, none⟩ = some (.int .i64 ((rd_T27 l0_2 x4_1).f1)) := hS_
          obtain ⟨Ao18, co18, eo18⟩ := Kd.R_slice HO297.out
          (first | subst eo18 | (injection eo18 with f1_ f2_ f3_; have f4_ := f1_.symm; have f5_ := f3_.symm; clear f1_ f2_ f3_; subst f4_; subst f5_))
          refine norm_ (a' := ?_) ?_ ?_
          rotate_left
          ·simp only [putAll, Act.put, List.setIfInBounds_toArray, List.set_cons_zero, List.set_cons_succ]
           rfl
          refine one_ (i := 11) (N := none) #[true, true, true, true, true, true, true, true, true, true, true, true] rfl rfl (one_of HT_.out (by kernel_rfl)) (by decide) (fun K hK => ?_)
          have hs19 : w17.cell? ⟨gb299, 0, none⟩ = some (.string (⟨#[]⟩ : ByteArray)) := (blk_cell BK299.out 0).trans rfl
          have hfs19 := blk_frozen BK299.out 0; have hns19_0 := NB294_299.out; have hms19_0 := NB299_294.out
          have hs20 : w17.cell? ⟨gb299, 1, none⟩ = some (.slice none 0 0) := (blk_cell BK299.out 1).trans rfl
          have hfs20 := blk_frozen BK299.out 1; have hns20_0 := NB294_299.out; have hms20_0 := NB299_294.out
          have hs21 : w17.cell? ⟨gb299, 2, none⟩ = some (.int .i64 0) := (blk_cell BK299.out 2).trans rfl
          have hfs21 := blk_frozen BK299.out 2; have hns21_0 := NB294_299.out; have hms21_0 := NB299_294.out
          have hs22 : w17.cell? ⟨gb299, 3, none⟩ = some (.int .i64 0) := (blk_cell BK299.out 3).trans rfl
          have hfs22 := blk_frozen BK299.out 3; have hns22_0 := NB294_299.out; have hms22_0 := NB299_294.out
          refine skip_ (w1 := ?_) (by rfl) rfl ?_ ?_
          rotate_left
          ·go_simp
           rfl
          refine hK.out _ _ ⟨((cell_far (p := ⟨gb299, _, none⟩) NB294_299.out _).trans (((cell_far (p := ⟨gb299, _, none⟩) NB294_299.out _).trans (((cell_far (p := ⟨gb299, _, none⟩) NB294_299.out _).trans (((cell_far (p := ⟨gb299, _, none⟩) NB294_299.out _).trans (hHeld.1)))))))), ((cell_far (p := ⟨gb299, _, none⟩) NB294_299.out _).trans (((cell_far (p := ⟨gb299, _, none⟩) NB294_299.out _).trans (((cell_far (p := ⟨gb299, _, none⟩) NB294_299.out _).trans (((cell_far (p := ⟨gb299, _, none⟩) NB294_299.out _).trans (hHeld.2.1)))))))), ((cell_far (p := ⟨gb299, _, none⟩) NB294_299.out _).trans (((cell_far (p := ⟨gb299, _, none⟩) NB294_299.out _).trans (((cell_far (p := ⟨gb299, _, none⟩) NB294_299.out _).trans (((cell_far (p := ⟨gb299, _, none⟩) NB294_299.out _).trans (hHeld.2.2.1)))))))), ((cell_far (p := ⟨gb299, _, none⟩) NB294_299.out _).trans (((cell_far (p := ⟨gb299, _, none⟩) NB294_299.out _).trans (((cell_far (p := ⟨gb299, _, none⟩) NB294_299.out _).trans (((cell_far (p := ⟨gb299, _, none⟩) NB294_299.out _).trans (hHeld.2.2.2.1)))))))), ((cell_far (p := ⟨gb299, _, none⟩) NB294_299.out _).trans (((cell_far (p := ⟨gb299, _, none⟩) NB294_299.out _).trans (((cell_far (p := ⟨gb299, _, none⟩) NB294_299.out _).trans (((cell_far (p := ⟨gb299, _, none⟩) NB294_299.out _).trans (hHeld.2.2.2.2.1)))))))), ((cell_far (p := ⟨gb299, _, none⟩) NB294_299.out _).trans (((cell_far (p := ⟨gb299, _, none⟩) NB294_299.out _).trans (((cell_far (p := ⟨gb299, _, none⟩) NB294_299.out _).trans (((cell_far (p := ⟨gb299, _, none⟩) NB294_299.out _).trans (hHeld.2.2.2.2.2.1)))))))), ((cell_far (p := ⟨gb299, _, none⟩) NB294_299.out _).trans (((cell_far (p := ⟨gb299, _, none⟩) NB294_299.out _).trans (((cell_far (p := ⟨gb299, _, none⟩) NB294_299.out _).trans (((cell_far (p := ⟨gb299, _, none⟩) NB294_299.out _).trans (hHeld.2.2.2.2.2.2.1)))))))), ((cell_far (p := ⟨gb299, _, none⟩) (by first | exact Nat.ne_of_lt (Nat.lt_of_lt_of_le (by have := World.block_lt_of_cell? _ _ hw298_0; first | rwa [add_block] at this | exact this) GW299.out) | (rw [add_block]; exact Nat.ne_of_lt (Nat.lt_of_lt_of_le (by have := World.block_lt_of_cell? _ _ hw298_0; first | rwa [add_block] at this | exact this) GW299.out)) | (show (Addr.add _ _).block ≠ _; rw [add_block]; exact Nat.ne_of_lt (Nat.lt_of_lt_of_le (by have := World.block_lt_of_cell? _ _ hw298_0; first | rwa [add_block] at this | exact this) GW299.out)) | (dsimp only; exact Nat.ne_of_lt (Nat.lt_of_lt_of_le (by have := World.block_lt_of_cell? _ _ hw298_0; first | rwa [add_block] at this | exact this) GW299.out))) _).trans (((cell_far (p := ⟨gb299, _, none⟩) (by first | exact Nat.ne_of_lt (Nat.lt_of_lt_of_le (by have := World.block_lt_of_cell? _ _ hw298_0; first | rwa [add_block] at this | exact this) GW299.out) | (rw [add_block]; exact Nat.ne_of_lt (Nat.lt_of_lt_of_le (by have := World.block_lt_of_cell? _ _ hw298_0; first | rwa [add_block] at this | exact this) GW299.out)) | (show (Addr.add _ _).block ≠ _; rw [add_block]; exact Nat.ne_of_lt (Nat.lt_of_lt_of_le (by have := World.block_lt_of_cell? _ _ hw298_0; first | rwa [add_block] at this | exact this) GW299.out)) | (dsimp only; exact Nat.ne_of_lt (Nat.lt_of_lt_of_le (by have := World.block_lt_of_cell? _ _ hw298_0; first | rwa [add_block] at this | exact this) GW299.out))) _).trans (((cell_far (p := ⟨gb299, _, none⟩) (by first | exact Nat.ne_of_lt (Nat.lt_of_lt_of_le (by have := World.block_lt_of_cell? _ _ hw298_0; first | rwa [add_block] at this | exact this) GW299.out) | (rw [add_block]; exact Nat.ne_of_lt (Nat.lt_of_lt_of_le (by have := World.block_lt_of_cell? _ _ hw298_0; first | rwa [add_block] at this | exact this) GW299.out)) | (show (Addr.add _ _).block ≠ _; rw [add_block]; exact Nat.ne_of_lt (Nat.lt_of_lt_of_le (by have := World.block_lt_of_cell? _ _ hw298_0; first | rwa [add_block] at this | exact this) GW299.out)) | (dsimp only; exact Nat.ne_of_lt (Nat.lt_of_lt_of_le (by have := World.block_lt_of_cell? _ _ hw298_0; first | rwa [add_block] at this | exact this) GW299.out))) _).trans (((cell_far (p := ⟨gb299, _, none⟩) (by first | exact Nat.ne_of_lt (Nat.lt_of_lt_of_le (by have := World.block_lt_of_cell? _ _ hw298_0; first | rwa [add_block] at this | exact this) GW299.out) | (rw [add_block]; exact Nat.ne_of_lt (Nat.lt_of_lt_of_le (by have := World.block_lt_of_cell? _ _ hw298_0; first | rwa [add_block] at this | exact this) GW299.out)) | (show (Addr.add _ _).block ≠ _; rw [add_block]; exact Nat.ne_of_lt (Nat.lt_of_lt_of_le (by have := World.block_lt_of_cell? _ _ hw298_0; first | rwa [add_block] at this | exact this) GW299.out)) | (dsimp only; exact Nat.ne_of_lt (Nat.lt_of_lt_of_le (by have := World.block_lt_of_cell? _ _ hw298_0; first | rwa [add_block] at this | exact this) GW299.out))) _).trans (hHeld.2.2.2.2.2.2.2.1)))))))), ((cell_far (p := ⟨gb299, _, none⟩) (by first | exact Nat.ne_of_lt (Nat.lt_of_lt_of_le (by have := World.block_lt_of_cell? _ _ hw298_1; first | rwa [add_block] at this | exact this) GW299.out) | (rw [add_block]; exact Nat.ne_of_lt (Nat.lt_of_lt_of_le (by have := World.block_lt_of_cell? _ _ hw298_1; first | rwa [add_block] at this | exact this) GW299.out)) | (show (Addr.add _ _).block ≠ _; rw [add_block]; exact Nat.ne_of_lt (Nat.lt_of_lt_of_le (by have := World.block_lt_of_cell? _ _ hw298_1; first | rwa [add_block] at this | exact this) GW299.out)) | (dsimp only; exact Nat.ne_of_lt (Nat.lt_of_lt_of_le (by have := World.block_lt_of_cell? _ _ hw298_1; first | rwa [add_block] at this | exact this) GW299.out))) _).trans (((cell_far (p := ⟨gb299, _, none⟩) (by first | exact Nat.ne_of_lt (Nat.lt_of_lt_of_le (by have := World.block_lt_of_cell? _ _ hw298_1; first | rwa [add_block] at this | exact this) GW299.out) | (rw [add_block]; exact Nat.ne_of_lt (Nat.lt_of_lt_of_le (by have := World.block_lt_of_cell? _ _ hw298_1; first | rwa [add_block] at this | exact this) GW299.out)) | (show (Addr.add _ _).block ≠ _; rw [add_block]; exact Nat.ne_of_lt (Nat.lt_of_lt_of_le (by have := World.block_lt_of_cell? _ _ hw298_1; first | rwa [add_block] at this | exact this) GW299.out)) | (dsimp only; exact Nat.ne_of_lt (Nat.lt_of_lt_of_le (by have := World.block_lt_of_cell? _ _ hw298_1; first | rwa [add_block] at this | exact this) GW299.out))) _).trans (((cell_far (p := ⟨gb299, _, none⟩) (by first | exact Nat.ne_of_lt (Nat.lt_of_lt_of_le (by have := World.block_lt_of_cell? _ _ hw298_1; first | rwa [add_block] at this | exact this) GW299.out) | (rw [add_block]; exact Nat.ne_of_lt (Nat.lt_of_lt_of_le (by have := World.block_lt_of_cell? _ _ hw298_1; first | rwa [add_block] at this | exact this) GW299.out)) | (show (Addr.add _ _).block ≠ _; rw [add_block]; exact Nat.ne_of_lt (Nat.lt_of_lt_of_le (by have := World.block_lt_of_cell? _ _ hw298_1; first | rwa [add_block] at this | exact this) GW299.out)) | (dsimp only; exact Nat.ne_of_lt (Nat.lt_of_lt_of_le (by have := World.block_lt_of_cell? _ _ hw298_1; first | rwa [add_block] at this | exact this) GW299.out))) _).trans (((cell_far (p := ⟨gb299, _, none⟩) (by first | exact Nat.ne_of_lt (Nat.lt_of_lt_of_le (by have := World.block_lt_of_cell? _ _ hw298_1; first | rwa [add_block] at this | exact this) GW299.out) | (rw [add_block]; exact Nat.ne_of_lt (Nat.lt_of_lt_of_le (by have := World.block_lt_of_cell? _ _ hw298_1; first | rwa [add_block] at this | exact this) GW299.out)) | (show (Addr.add _ _).block ≠ _; rw [add_block]; exact Nat.ne_of_lt (Nat.lt_of_lt_of_le (by have := World.block_lt_of_cell? _ _ hw298_1; first | rwa [add_block] at this | exact this) GW299.out)) | (dsimp only; exact Nat.ne_of_lt (Nat.lt_of_lt_of_le (by have := World.block_lt_of_cell? _ _ hw298_1; first | rwa [add_block] at this | exact this) GW299.out))) _).trans (hHeld.2.2.2.2.2.2.2.2))))))))⟩ (fun hHeld => ?_)
          clear hK K
          refine done_ (done_of HT_.out (by kernel_rfl)) ?_
          have n0_ : Sd (Kd.N k65 65 ((((w17.setCell ⟨gb299, 0, none⟩ (.string (⟨#[]⟩ : ByteArray))).setCell ⟨gb299, 1, none⟩ (.slice Ao18 y295.length co18)).setCell ⟨gb299, 2, none⟩ (.int .i64 ((rd_T27 l0_2 x4_1).f0))).setCell ⟨gb299, 3, none⟩ (.int .i64 ((rd_T27 l0_2 x4_1).f1))) w.heap.size (fun k_ => (P0_3_ k_ ∨ w.heap.size ≤ k_) ∧ some k_ ≠ (.slice Ao18 y295.length co18 : Value).ownBlock ∧ k_ ≠ gb294 ∧ k_ ≠ gb299) u3 x3_1) := ⟨by (with_reducible repeat (first | apply Kd.N_alloc | apply Kd.N_drewN | apply Kd.N_drew)); exact Kd.N_mono (Kd.N_far (p := ⟨gb299, 3, none⟩) (Kd.N_far (p := ⟨gb299, 2, none⟩) (Kd.N_far (p := ⟨gb299, 1, none⟩) (Kd.N_far (p := ⟨gb299, 0, none⟩) (Kd.N_mono HO_3.out (fun k_ hk => (⟨hk, hk.2.2.2⟩ : _ ∧ k_ ≠ gb299))) (fun _ hk => hk.2) (.string (⟨#[]⟩ : ByteArray))) (fun _ hk => hk.2) (.slice Ao18 y295.length co18)) (fun _ hk => hk.2) (.int .i64 ((rd_T27 l0_2 x4_1).f0))) (fun _ hk => hk.2) (.int .i64 ((rd_T27 l0_2 x4_1).f1))) (fun _ hk => ⟨hk.1.1, ⟨hk.1.2.1, ⟨hk.1.2.2.1, hk.1.2.2.2⟩⟩⟩)⟩
          have n1_ : Sd (Kd.V k65 65 ((((w17.setCell ⟨gb299, 0, none⟩ (.string (⟨#[]⟩ : ByteArray))).setCell ⟨gb299, 1, none⟩ (.slice Ao18 y295.length co18)).setCell ⟨gb299, 2, none⟩ (.int .i64 ((rd_T27 l0_2 x4_1).f0))).setCell ⟨gb299, 3, none⟩ (.int .i64 ((rd_T27 l0_2 x4_1).f1))) w.heap.size (fun k_ => (P0_3_ k_ ∨ w.heap.size ≤ k_) ∧ some k_ ≠ (u3 : Value).ownBlock ∧ some k_ ≠ (.slice Ao18 y295.length co18 : Value).ownBlock ∧ k_ ≠ gb294 ∧ k_ ≠ gb299) (.slice A0_3 l0_3.length c0_3) l0_3) := ⟨by (with_reducible repeat (first | apply Kd.V_alloc | apply Kd.V_drewN | apply Kd.V_drew)); exact Kd.V_mono (Kd.V_far (p := ⟨gb299, 3, none⟩) (Kd.V_far (p := ⟨gb299, 2, none⟩) (Kd.V_far (p := ⟨gb299, 1, none⟩) (Kd.V_far (p := ⟨gb299, 0, none⟩) (Kd.V_mono HO_295003.out (fun k_ hk => (⟨hk, hk.2.2.2.2⟩ : _ ∧ k_ ≠ gb299))) (fun _ hk => hk.2) (.string (⟨#[]⟩ : ByteArray))) (fun _ hk => hk.2) (.slice Ao18 y295.length co18)) (fun _ hk => hk.2) (.int .i64 ((rd_T27 l0_2 x4_1).f0))) (fun _ hk => hk.2) (.int .i64 ((rd_T27 l0_2 x4_1).f1))) (fun _ hk => ⟨hk.1.1, ⟨hk.1.2.2.1, ⟨hk.1.2.1, ⟨hk.1.2.2.2.1, hk.1.2.2.2.2⟩⟩⟩⟩)⟩
          have n2_ : Sd (Kd.R (Kd.int .i64) 3 ((((w17.setCell ⟨gb299, 0, none⟩ (.string (⟨#[]⟩ : ByteArray))).setCell ⟨gb299, 1, none⟩ (.slice Ao18 y295.length co18)).setCell ⟨gb299, 2, none⟩ (.int .i64 ((rd_T27 l0_2 x4_1).f0))).setCell ⟨gb299, 3, none⟩ (.int .i64 ((rd_T27 l0_2 x4_1).f1))) w.heap.size (fun k_ => (w.heap.size ≤ k_)) (.slice Ao18 y295.length co18) y295) := ⟨by (with_reducible repeat (first | apply Kd.R_alloc | apply Kd.R_drewN | apply Kd.R_drew)); exact Kd.R_mono (Kd.R_far (p := ⟨gb299, 3, none⟩) (Kd.R_far (p := ⟨gb299, 2, none⟩) (Kd.R_far (p := ⟨gb299, 1, none⟩) (Kd.R_far (p := ⟨gb299, 0, none⟩) (Kd.R_types HO297.out BK299.out (by decide)) (fun _ hk => hk.2) (.string (⟨#[]⟩ : ByteArray))) (fun _ hk => hk.2) (.slice Ao18 y295.length co18)) (fun _ hk => hk.2) (.int .i64 ((rd_T27 l0_2 x4_1).f0))) (fun _ hk => hk.2) (.int .i64 ((rd_T27 l0_2 x4_1).f1))) (fun _ hk => hk.1)⟩
          have n3_ : Sd (((((w17.setCell ⟨gb299, 0, none⟩ (.string (⟨#[]⟩ : ByteArray))).setCell ⟨gb299, 1, none⟩ (.slice Ao18 y295.length co18)).setCell ⟨gb299, 2, none⟩ (.int .i64 ((rd_T27 l0_2 x4_1).f0))).setCell ⟨gb299, 3, none⟩ (.int .i64 ((rd_T27 l0_2 x4_1).f1))).heap[gb294]? = some (.cells #[.slice A0_0 l0_0.length c0_0, .slice A0_1 l0_1.length c0_1, .slice (some ad298) l0_2.length c0_2, .slice A0_3 l0_3.length c0_3, .int .i64 a0_4, .int .i64 a0_5, .int .i64 a0_6] 29 (0, 0))) := ⟨by (with_reducible repeat (first | refine blk_drewN ?_ _ | refine blk_drew ?_ | refine blk_alloc ?_ _)); refine blk_far ?_ NB294_299.out _; (with_reducible repeat (first | refine blk_drewN ?_ _ | refine blk_drew ?_ | refine blk_alloc ?_ _)); refine blk_far ?_ NB294_299.out _; (with_reducible repeat (first | refine blk_drewN ?_ _ | refine blk_drew ?_ | refine blk_alloc ?_ _)); refine blk_far ?_ NB294_299.out _; (with_reducible repeat (first | refine blk_drewN ?_ _ | refine blk_drew ?_ | refine blk_alloc ?_ _)); refine blk_far ?_ NB294_299.out _; (with_reducible repeat (first | refine blk_drewN ?_ _ | refine blk_drew ?_ | refine blk_alloc ?_ _)); exact BK294.out⟩
          have n4_ : Sd (((((w17.setCell ⟨gb299, 0, none⟩ (.string (⟨#[]⟩ : ByteArray))).setCell ⟨gb299, 1, none⟩ (.slice Ao18 y295.length co18)).setCell ⟨gb299, 2, none⟩ (.int .i64 ((rd_T27 l0_2 x4_1).f0))).setCell ⟨gb299, 3, none⟩ (.int .i64 ((rd_T27 l0_2 x4_1).f1))).heap[gb299]? = some (.cells #[.string (⟨#[]⟩ : ByteArray), .slice Ao18 y295.length co18, .int .i64 ((rd_T27 l0_2 x4_1).f0), .int .i64 ((rd_T27 l0_2 x4_1).f1)] 65 (0, 0))) := ⟨by (with_reducible repeat (first | refine blk_drewN ?_ _ | refine blk_drew ?_ | refine blk_alloc ?_ _)); refine blk_put (cs := #[.string (⟨#[]⟩ : ByteArray), .slice Ao18 y295.length co18, .int .i64 ((rd_T27 l0_2 x4_1).f0), .int .i64 0]) ?_ 3 _ rfl; (with_reducible repeat (first | refine blk_drewN ?_ _ | refine blk_drew ?_ | refine blk_alloc ?_ _)); refine blk_put (cs := #[.string (⟨#[]⟩ : ByteArray), .slice Ao18 y295.length co18, .int .i64 0, .int .i64 0]) ?_ 2 _ rfl; (with_reducible repeat (first | refine blk_drewN ?_ _ | refine blk_drew ?_ | refine blk_alloc ?_ _)); refine blk_put (cs := #[.string (⟨#[]⟩ : ByteArray), .slice none 0 0, .int .i64 0, .int .i64 0]) ?_ 1 _ rfl; (with_reducible repeat (first | refine blk_drewN ?_ _ | refine blk_drew ?_ | refine blk_alloc ?_ _)); refine blk_put (cs := #[.string (⟨#[]⟩ : ByteArray), .slice none 0 0, .int .i64 0, .int .i64 0]) ?_ 0 _ rfl; (with_reducible repeat (first | refine blk_drewN ?_ _ | refine blk_drew ?_ | refine blk_alloc ?_ _)); exact BK299.out⟩
          have n5_ : Sd (Below w.heap.size w ((((w17.setCell ⟨gb299, 0, none⟩ (.string (⟨#[]⟩ : ByteArray))).setCell ⟨gb299, 1, none⟩ (.slice Ao18 y295.length co18)).setCell ⟨gb299, 2, none⟩ (.int .i64 ((rd_T27 l0_2 x4_1).f0))).setCell ⟨gb299, 3, none⟩ (.int .i64 ((rd_T27 l0_2 x4_1).f1)))) := ⟨bBl HB.out⟩
          (try clear HO_3)
          (try clear HO_295003)
          (try clear HO297)
          (try clear BK294)
          (try clear BK299)
          (try clear HB)
          generalize ((((w17.setCell ⟨gb299, 0, none⟩ (.string (⟨#[]⟩ : ByteArray))).setCell ⟨gb299, 1, none⟩ (.slice Ao18 y295.length co18)).setCell ⟨gb299, 2, none⟩ (.int .i64 ((rd_T27 l0_2 x4_1).f0))).setCell ⟨gb299, 3, none⟩ (.int .i64 ((rd_T27 l0_2 x4_1).f1))) = w23 at n0_ n1_ n2_ n3_ n4_ n5_ ⊢
          have HO_3 := n0_; have HO_295003 := n1_; have HO297 := n2_; have BK294 := n3_; have BK299 := n4_; have HB := n5_; clear n0_ n1_ n2_ n3_ n4_ n5_; have hnb24 := NB299_294.out; have hnc24 := NB294_299.out; obtain ⟨u25_0, u25_1, u25_2, u25_3, o25_0, o25_1, o25_2, o25_3⟩ := bc4 (w := w23) BK299.out
          have p9 : 0 ≤ (x4_1 : Int) := tB
          have q9 : (x4_1 : Int) < ((y295.length : Int) : Int) := tB
          obtain ⟨go9, co9, eo9, gb9, gl9, cl9, HG9⟩ := Kd.R_form HO297.out (by omega)
          (first | cases eo9 | (injection eo9 with ea_ en_ ec_; (first | subst ea_ | (injection ea_ with ea_; subst ea_)); subst ec_; clear en_))
          have GB9 := Sd.mk gb9; have GG9 := Sd.mk HG9; clear gb9 gl9 HG9; obtain ⟨hx9_0, hf9_0⟩ := Kd.R_celln 0 HO297.out (x4_1 : Int) p9 q9; replace p9 := eq_true p9; replace q9 := eq_true q9; obtain ⟨hy26_, hz26_⟩ := Kd.R_celln 0 HO297.out (x4_1 : Int) (tB) (tB); have HP26 := Kd.R_putg HO297.out (x4_1 : Int) 1000
          try go_wp2_with (first | ((with_reducible refine gate_store (t := 3) (p := 26) rfl ?_); refine store_event (t := 3) (p := 26) (v := ?vo_w27) (w1 := (w23.setCell ⟨go9, (x4_1 : Int).toNat, none⟩ (.int .i64 1000))) ?hg ?ho ?hn ?hr ?_; (case ho => rfl); (case hg => rfl); (case hn => rfl); (case hr => exact tG); intro w27 hw; have hg : w23.grownBy w27 (some go9) := (by rw [hw]; exact HP26.2); have hp_ : Kd.R (Kd.int .i64) 3 w27 w.heap.size (fun k_ => (w.heap.size ≤ k_)) (.slice (some ⟨go9, 0, none⟩) y295.length co18) y300 := (by rw [hw, Ny300.out]; exact HP26.1); clear HP26; replace HO_3 := Sd.mk (Kd.N_afterv (v := (.slice (some ⟨go9, 0, none⟩) y295.length co18)) (v1 := (.slice (some ⟨go9, 0, none⟩) y295.length co18)) (ok := (fun k_ => (P0_3_ k_ ∨ w.heap.size ≤ k_) ∧ k_ ≠ gb294 ∧ k_ ≠ gb299)) (by (with_reducible repeat (first | apply Kd.N_alloc | apply Kd.N_drewN | apply Kd.N_drew)); exact Kd.N_mono HO_3.out (fun _ hk => ⟨⟨hk.1, ⟨hk.2.2.1, hk.2.2.2⟩⟩, hk.2.1⟩)) hg (.inl rfl)); replace HO_295003 := Sd.mk (Kd.V_afterv (v := (.slice (some ⟨go9, 0, none⟩) y295.length co18)) (v1 := (.slice (some ⟨go9, 0, none⟩) y295.length co18)) (ok := (fun k_ => (P0_3_ k_ ∨ w.heap.size ≤ k_) ∧ some k_ ≠ (u3 : Value).ownBlock ∧ k_ ≠ gb294 ∧ k_ ≠ gb299)) (by (with_reducible repeat (first | apply Kd.V_alloc | apply Kd.V_drewN | apply Kd.V_drew)); exact Kd.V_mono HO_295003.out (fun _ hk => ⟨⟨hk.1, ⟨hk.2.1, ⟨hk.2.2.2.1, hk.2.2.2.2⟩⟩⟩, hk.2.2.1⟩)) hg (.inl rfl)); replace BK294 := Sd.mk (blk_grown (bkA BK294.out) hg (Kd.R_ne HO297.out BK294.out (by decide))); replace BK299 := Sd.mk (blk_grown (bkA BK299.out) hg (Kd.R_ne HO297.out BK299.out (by decide))); replace HO297 := Sd.mk (hp_); replace HB := Sd.mk ((by rw [hw]; exact below_set (HB.out) GB9.out : Below w.heap.size w w27)); clear hg hw hp_; obtain ⟨u28_0, u28_1, u28_2, u28_3, o28_0, o28_1, o28_2, o28_3⟩ := bc4 (w := w27) BK299.out) | ((with_reducible refine gate_builtin (b := .append) (xs := #[.tmp 27, .tmp 29]) rfl ?_); at_builtin; refine Kd.N_append k65 (w0 := w) w.heap.size rfl (.tmp 27) (.tmp 29) 25 65 (.agg #[(.string ⟨#[]⟩), (.slice none 0 0), (.int .i64 0), (.int .i64 0)]) 56 rfl Try.underlying25 info65 rfl (by decide) (by omega) u3 x3_1 (⟨(⟨#[]⟩ : ByteArray), y300, (⟨(rd_T27 l0_2 x4_1).f0, (rd_T27 l0_2 x4_1).f1⟩ : S27)⟩ : S65) [.string (⟨#[]⟩ : ByteArray), .slice (some ⟨go9, 0, none⟩) y295.length co18, .int .i64 ((rd_T27 l0_2 x4_1).f0), .int .i64 ((rd_T27 l0_2 x4_1).f1)] (fun k_ => (P0_3_ k_ ∨ w.heap.size ≤ k_) ∧ k_ ≠ gb294 ∧ k_ ≠ gb299) (fun k_ => ((fun k_ => (P0_3_ k_ ∨ w.heap.size ≤ k_) ∧ k_ ≠ gb294 ∧ k_ ≠ gb299)) k_ ∧ some k_ ≠ (u3 : Value).ownBlock) rfl rfl ?aP (fun _ hk => hk) ?aF ?aO ?aB ?aS ?aL ?_; (case aP => exact (k65_mkF' _ _ (⟨(⟨#[]⟩ : ByteArray), y300, (⟨(rd_T27 l0_2 x4_1).f0, (rd_T27 l0_2 x4_1).f1⟩ : S27)⟩ : S65) (by rw [Ny300.out, List.length_set]) (Kd.R_reads' (Kd.R_mono (ok' := (fun k_ => ((fun k_ => (P0_3_ k_ ∨ w.heap.size ≤ k_) ∧ k_ ≠ gb294 ∧ k_ ≠ gb299)) k_ ∧ some k_ ≠ (u3 : Value).ownBlock)) (Kd.R_types (Kd.R_types (Kd.R_apart' (R_len (by rw [Ny300.out, List.length_set]) HO297.out) (Kd.N_typed HO_3.out) (by decide)) BK294.out (by decide)) BK299.out (by decide)) (fun k_ hk => ⟨⟨(.inr (hk.1.1.1)), ⟨hk.1.2, hk.2⟩⟩, hk.1.1.2⟩))).2.1 (Kd.R_F (Kd.R_mono (ok' := (fun k_ => ((fun k_ => (P0_3_ k_ ∨ w.heap.size ≤ k_) ∧ k_ ≠ gb294 ∧ k_ ≠ gb299)) k_ ∧ some k_ ≠ (u3 : Value).ownBlock)) (Kd.R_types (Kd.R_types (Kd.R_apart' (R_len (by rw [Ny300.out, List.length_set]) HO297.out) (Kd.N_typed HO_3.out) (by decide)) BK294.out (by decide)) BK299.out (by decide)) (fun k_ hk => ⟨⟨(.inr (hk.1.1.1)), ⟨hk.1.2, hk.2⟩⟩, hk.1.1.2⟩))))); (case aB => exact (bBl HB.out)); (case aF => exact (fun k_ hk => ⟨(.inr (Nat.le_trans (below_size (bBl HB.out)) hk)), Kd.freshB (bkA BK294.out) k_ hk, Kd.freshB (bkA BK299.out) k_ hk⟩)); (case aO => exact (by (with_reducible repeat (first | apply Kd.N_alloc | apply Kd.N_drewN | apply Kd.N_drew)); exact Kd.N_mono HO_3.out (fun _ hk => ⟨hk.1.1, ⟨hk.1.2.1, hk.1.2.2⟩⟩))); (case aS => exact (below_size (bBl HB.out))); (case aL => have := LMc10.out; omega); intro v302 w29 ho hb hg hat; rw [← Ny301.out] at ho; replace HO_295003 := Sd.mk (Kd.V_afterv (ok := (fun k_ => (P0_3_ k_ ∨ w.heap.size ≤ k_) ∧ some k_ ≠ (.slice (some ⟨go9, 0, none⟩) y295.length co18 : Value).ownBlock ∧ k_ ≠ gb294 ∧ k_ ≠ gb299)) (by (with_reducible repeat (first | apply Kd.V_alloc | apply Kd.V_drewN | apply Kd.V_drew)); exact Kd.V_mono HO_295003.out (fun _ hk => ⟨⟨hk.1.1, ⟨hk.2, ⟨hk.1.2.2.1, hk.1.2.2.2⟩⟩⟩, hk.1.2.1⟩)) hg hat); replace BK294 := Sd.mk (blk_grown (bkA BK294.out) hg (Kd.N_ne HO_3.out BK294.out (by decide))); replace BK299 := Sd.mk (blk_grown (bkA BK299.out) hg (Kd.N_away HO_3.out (fun _ hk => hk.1.2.2))); replace HB := Sd.mk (hb); have HO303 := Sd.mk (ho); clear HO_3 HO297; clear ho hb hg hat))
          go_roundg k1
          case measure => have := HK1.out; omega
          case rel => exact ⟨(y301), (wrap64 (x4_1 + 1)), tS, H', ⟨by have := HK1.out; omega⟩, ⟨by (with_reducible repeat (first | apply Kd.N_alloc | apply Kd.N_drewN | apply Kd.N_drew)); exact Kd.N_mono HO303.out (fun _ hk => ⟨hk.1, hk.2.1⟩)⟩, ⟨by (with_reducible repeat (first | apply Kd.V_alloc | apply Kd.V_drewN | apply Kd.V_drew)); exact Kd.V_mono HO_295003.out (fun _ hk => ⟨hk.1.1, ⟨hk.2, hk.1.2.2.1⟩⟩)⟩, ⟨bkA BK294.out⟩, ⟨bBl HB.out⟩⟩
         ·rw [if_neg c10] at H
          exact absurd H (by simp)
        ·rw [if_neg c8] at H
         exact absurd H (by simp)
       ·rw [if_neg c7] at H
        exact absurd H (by simp)
      ·rw [if_neg c6] at H
       exact absurd H (by simp)
     ·rw [if_neg c5] at H
      exact absurd H (by simp)
    ·rw [if_neg c4] at H
     exact absurd H (by simp)
   ·rw [if_neg c3] at H
    have c3b0 : decide (x4_1 < (l0_0.length : Int)) = false := decide_eq_false c3
    clear c3
    by_cases c30 : x3_1.length + l0_3.length < 2513169434916
    ·rw [if_pos c30] at H
     have LMc30 := Sd.mk c30; clear c30
     obtain ⟨y304, hy304⟩ : ∃ y_ : List (S65), y_ = (x3_1 ++ l0_3) := ⟨_, rfl⟩
     replace H : (some y304) = some r := by first | (rw [hy304]; with_reducible exact H) | (have H2_ := (Option.bind_some _ _).symm.trans H; rw [hy304]; with_reducible exact H2_) | (have H2_ := (Option.bind_some _ _).symm.trans H; with_reducible exact H2_) | with_reducible exact H | (rw [hy304]; exact H) | exact H
     have Ny304 := Sd.mk hy304; clear hy304; obtain rfl := Option.some.inj H; obtain ⟨u31_0, u31_1, u31_2, u31_3, u31_4, u31_5, u31_6, o31_0, o31_1, o31_2, o31_3, o31_4, o31_5, o31_6⟩ := bc7 (w := wr) BK294.out
     go_wp2_with (first | ((with_reducible refine gate_builtin (b := .append) (xs := #[.tmp 31, .tmp 33]) rfl ?_); at_builtin; refine Kd.N_append_rows k65 (w0 := w) w.heap.size rfl (.tmp 31) (.tmp 33) 25 65 (.agg #[(.string ⟨#[]⟩), (.slice none 0 0), (.int .i64 0), (.int .i64 0)]) 56 rfl Try.underlying25 info65 rfl (by decide) (by omega) u3 x3_1 l0_3 _ _ _ (fun k_ => (P0_3_ k_ ∨ w.heap.size ≤ k_) ∧ k_ ≠ gb294) (fun k_ => ((fun k_ => (P0_3_ k_ ∨ w.heap.size ≤ k_) ∧ k_ ≠ gb294)) k_ ∧ some k_ ≠ (u3 : Value).ownBlock) rfl rfl ?aO ?aR (fun _ hk => hk) ?aF ?aB ?aS ?aL ?_; (case aR => exact (by skip; exact Kd.V_F (Kd.V_mono (ok' := (fun k_ => ((fun k_ => (P0_3_ k_ ∨ w.heap.size ≤ k_) ∧ k_ ≠ gb294)) k_ ∧ some k_ ≠ (u3 : Value).ownBlock)) (HO_295003.out) (fun k_ hk => ⟨⟨hk.1, hk.2.2⟩, hk.2.1⟩)))); (case aB => exact (bBl HB.out)); (case aF => exact (fun k_ hk => ⟨(.inr (Nat.le_trans (below_size (bBl HB.out)) hk)), Kd.freshB (bkA BK294.out) k_ hk⟩)); (case aO => exact (by (with_reducible repeat (first | apply Kd.N_alloc | apply Kd.N_drewN | apply Kd.N_drew)); exact HO_3.out)); (case aS => exact (below_size (bBl HB.out))); (case aL => have := LMc30.out; omega); intro v305 w32 ho hb hg hat; rw [← Ny304.out] at ho; replace HO_295003 := Sd.mk (Kd.V_afterv (ok := (fun k_ => (P0_3_ k_ ∨ w.heap.size ≤ k_) ∧ k_ ≠ gb294)) (by (with_reducible repeat (first | apply Kd.V_alloc | apply Kd.V_drewN | apply Kd.V_drew)); exact Kd.V_mono HO_295003.out (fun _ hk => ⟨⟨hk.1, hk.2.2⟩, hk.2.1⟩)) hg hat); replace BK294 := Sd.mk (blk_grown (bkA BK294.out) hg (Kd.N_ne HO_3.out BK294.out (by decide))); replace HB := Sd.mk (hb); have HO306 := Sd.mk (ho); clear HO_3; clear ho hb hg hat))
     go_ret
     exact ⟨_, tE, by (with_reducible repeat (first | apply Kd.N_alloc | apply Kd.N_drewN | apply Kd.N_drew)); exact Kd.N_mono HO306.out (fun _ hk => hk.1), bBl HB.out⟩
    ·rw [if_neg c30] at H
     exact absurd H (by simp)
def rf_below.l0 : Nat → List Int → List (S27) → Int → Int → Int → Option (Int)
 | 0, _, _, _, _, _ => none
 | k + 1, x0, x1, x2, x7, x8 => if x8 < (x1.length : Int) then (if 0 ≤ x8 then (if x8 < (x0.length : Int) then (rf_below.l0 k x0 x1 x2 (wrap64 (x7 + (mx (wrap64 ((wrap64 (x2 - (rd x0 x8))) * ((rd_T27 x1 x8).f0))) (wrap64 ((wrap64 (x2 - (rd x0 x8))) * ((rd_T27 x1 x8).f1)))))) (wrap64 (x8 + 1))) else (none)) else (none)) else (some x7)
def rf_below.f (k : Nat) (l0 : List Int) (l1 : List (S27)) (a2 : Int) : Option (Int) := rf_below.l0 k l0 l1 a2 0 0
set_option maxHeartbeats 8000000 in
set_option maxRecDepth 100000 in
theorem rf_below.calls (k : Nat) (A0 : Option Addr) (c0 : Nat) (l0 : List Int) (A1 : Option Addr) (c1 : Nat) (l1 : List (S27)) (a2 : Int) (r : Int) (w : World) (hr0 : Kd.C (Kd.int .i64) w A0 l0.length l0) (hc0 : l0.length ≤ c0) (hr1 : Kd.C k27 w A1 l1.length l1) (hc1 : l1.length ≤ c1) (h : rf_below.f k l0 l1 a2 = some r) :
  Calls Try.prog 115 #[.slice A0 l0.length c0, .slice A1 l1.length c1, .int .i64 a2] w fun e w' => e = .returned (.int .i64 r) ∧ Below w.heap.size w w' := by
 have HR0 := Sd.mk hr0; have HC0 := Sd.mk hc0; clear hr0 hc0; have HR1 := Sd.mk hr1; have HC1 := Sd.mk hc1; clear hr1 hc1; have HB := Sd.mk (Below.refl w.heap.size w)
 have H : (rf_below.l0 k l0 l1 a2 0 0) = some r := h
 clear h; have H' := Sd.mk H; clear H
 go_enter Try.func115, Try.ntmps115
 go_wp2
 repeat (go_quiet (fail); try go_wp2)
 go_loopg [7, 8] k (fun kq v7 v8 w' => ∃ (x7_1 : Int) (x8_1 : Int), v7 = .int .i64 x7_1 ∧ v8 = .int .i64 x8_1 ∧ Sd (rf_below.l0 kq l0 l1 a2 x7_1 x8_1 = some r) ∧ Sd (kq ≤ k) ∧ Sd (Below w.heap.size w w'))
 case atStart => exact ⟨(0), (0), tS, tS, H', ⟨Nat.le_refl _⟩, ⟨bBl HB.out⟩⟩
 case round =>
  clear H'; (try clear c1); (try clear p2); obtain ⟨x7_1, x8_1, rfl, rfl, HA, HK1, HB⟩ := hrel
  cases gk with
  | zero => exact absurd HA.out (by simp [rf_below.l0])
  | succ k1 =>
   have H := HA.out; clear HA
   simp only [rf_below.l0] at H
   by_cases c4 : x8_1 < (l1.length : Int)
   ·rw [if_pos c4] at H
    have c4b0 : decide (x8_1 < (l1.length : Int)) = true := decide_eq_true c4
    clear c4
    by_cases c5 : 0 ≤ x8_1
    ·rw [if_pos c5] at H
     have c5b0 : decide (0 ≤ x8_1) = true := decide_eq_true c5
     clear c5
     by_cases c6 : x8_1 < (l0.length : Int)
     ·rw [if_pos c6] at H
      have c6b0 : decide (x8_1 < (l0.length : Int)) = true := decide_eq_true c6
      clear c6
      obtain ⟨ji7, hji7⟩ : ∃ j_ : Int, (mx (wrap64 ((wrap64 (a2 - (rd l0 x8_1))) * ((rd_T27 l1 x8_1).f0))) (wrap64 ((wrap64 (a2 - (rd l0 x8_1))) * ((rd_T27 l1 x8_1).f1)))) = j_ := ⟨_, rfl⟩
      replace H : (rf_below.l0 k1 l0 l1 a2 (wrap64 (x7_1 + (ji7))) (wrap64 (x8_1 + 1))) = some r := by first | (rw [hji7] at H; exact H) | (simp only [hji7] at H ⊢; exact H)
      have hji7_ : (if (wrap64 ((wrap64 (a2 - (rd l0 x8_1))) * ((rd_T27 l1 x8_1).f0))) < (wrap64 ((wrap64 (a2 - (rd l0 x8_1))) * ((rd_T27 l1 x8_1).f1))) then (wrap64 ((wrap64 (a2 - (rd l0 x8_1))) * ((rd_T27 l1 x8_1).f1))) else (wrap64 ((wrap64 (a2 - (rd l0 x8_1))) * ((rd_T27 l1 x8_1).f0)))) = ji7 := hji7
      have H' := Sd.mk H; clear H
      have p307 : 0 ≤ (x8_1 : Int) := tB
      have q307 : x8_1 < (l0.length : Int) := tB
      obtain ⟨ad307, e307, hx307_0⟩ := Kd.at_int HR0.out x8_1 p307 q307; cases e307; replace hx307_0 := cU HB hx307_0; replace p307 := eq_true p307; replace q307 := eq_true q307
      have p308 : 0 ≤ (x8_1 : Int) := tB
      have q308 : x8_1 < (l1.length : Int) := tB
      obtain ⟨ad308, e308, hx308_0, hx308_1⟩ := at_T27 HR1.out x8_1 p308 q308; cases e308; replace hx308_0 := cU HB hx308_0; replace hx308_1 := cU HB hx308_1; replace p308 := eq_true p308; replace q308 := eq_true q308
      have p309 : 0 ≤ (x8_1 : Int) := tB
      have q309 : x8_1 < (l1.length : Int) := tB
      obtain ⟨ad309, e309, hx309_0, hx309_1⟩ := at_T27 HR1.out x8_1 p309 q309
      obtain rfl : ad308 = ad309 := (by injection e309)
      replace hx309_0 := cU HB hx309_0; replace hx309_1 := cU HB hx309_1; replace p309 := eq_true p309; replace q309 := eq_true q309
      go_wp2
      repeat (go_quiet (fail); try go_wp2)
      go_roundg k1
      case measure => have := HK1.out; omega
      case rel => exact ⟨(wrap64 (x7_1 + (ji7))), (wrap64 (x8_1 + 1)), (by first | rfl | (simp; done) | (simp only [← hji7] <;> (first | rfl | simp)) | (simp [*]; done)), tS, H', ⟨by have := HK1.out; omega⟩, ⟨bBl HB.out⟩⟩
     ·rw [if_neg c6] at H
      exact absurd H (by simp)
    ·rw [if_neg c5] at H
     exact absurd H (by simp)
   ·rw [if_neg c4] at H
    have c4b0 : decide (x8_1 < (l1.length : Int)) = false := decide_eq_false c4
    clear c4; obtain rfl := Option.some.inj H
    go_wp2
    repeat (go_quiet (fail); try go_wp2)
    go_ret
    exact ⟨tE, bBl HB.out⟩
def rf_above.l0 : Nat → List Int → List (S27) → Int → Int → Int → Option (Int)
 | 0, _, _, _, _, _ => none
 | k + 1, x0, x1, x2, x7, x8 => if x8 < (x1.length : Int) then (if 0 ≤ x8 then (if x8 < (x0.length : Int) then (rf_above.l0 k x0 x1 x2 (wrap64 (x7 + (mx (wrap64 ((wrap64 ((rd x0 x8) - x2)) * ((rd_T27 x1 x8).f0))) (wrap64 ((wrap64 ((rd x0 x8) - x2)) * ((rd_T27 x1 x8).f1)))))) (wrap64 (x8 + 1))) else (none)) else (none)) else (some x7)
def rf_above.f (k : Nat) (l0 : List Int) (l1 : List (S27)) (a2 : Int) : Option (Int) := rf_above.l0 k l0 l1 a2 0 0
set_option maxHeartbeats 8000000 in
set_option maxRecDepth 100000 in
theorem rf_above.calls (k : Nat) (A0 : Option Addr) (c0 : Nat) (l0 : List Int) (A1 : Option Addr) (c1 : Nat) (l1 : List (S27)) (a2 : Int) (r : Int) (w : World) (hr0 : Kd.C (Kd.int .i64) w A0 l0.length l0) (hc0 : l0.length ≤ c0) (hr1 : Kd.C k27 w A1 l1.length l1) (hc1 : l1.length ≤ c1) (h : rf_above.f k l0 l1 a2 = some r) :
  Calls Try.prog 116 #[.slice A0 l0.length c0, .slice A1 l1.length c1, .int .i64 a2] w fun e w' => e = .returned (.int .i64 r) ∧ Below w.heap.size w w' := by
 have HR0 := Sd.mk hr0; have HC0 := Sd.mk hc0; clear hr0 hc0; have HR1 := Sd.mk hr1; have HC1 := Sd.mk hc1; clear hr1 hc1; have HB := Sd.mk (Below.refl w.heap.size w)
 have H : (rf_above.l0 k l0 l1 a2 0 0) = some r := h
 clear h; have H' := Sd.mk H; clear H
 go_enter Try.func116, Try.ntmps116
 go_wp2
 repeat (go_quiet (fail); try go_wp2)
 go_loopg [7, 8] k (fun kq v7 v8 w' => ∃ (x7_1 : Int) (x8_1 : Int), v7 = .int .i64 x7_1 ∧ v8 = .int .i64 x8_1 ∧ Sd (rf_above.l0 kq l0 l1 a2 x7_1 x8_1 = some r) ∧ Sd (kq ≤ k) ∧ Sd (Below w.heap.size w w'))
 case atStart => exact ⟨(0), (0), tS, tS, H', ⟨Nat.le_refl _⟩, ⟨bBl HB.out⟩⟩
 case round =>
  clear H'; (try clear c1); (try clear p2); obtain ⟨x7_1, x8_1, rfl, rfl, HA, HK1, HB⟩ := hrel
  cases gk with
  | zero => exact absurd HA.out (by simp [rf_above.l0])
  | succ k1 =>
   have H := HA.out; clear HA
   simp only [rf_above.l0] at H
   by_cases c4 : x8_1 < (l1.length : Int)
   ·rw [if_pos c4] at H
    have c4b0 : decide (x8_1 < (l1.length : Int)) = true := decide_eq_true c4
    clear c4
    by_cases c5 : 0 ≤ x8_1
    ·rw [if_pos c5] at H
     have c5b0 : decide (0 ≤ x8_1) = true := decide_eq_true c5
     clear c5
     by_cases c6 : x8_1 < (l0.length : Int)
     ·rw [if_pos c6] at H
      have c6b0 : decide (x8_1 < (l0.length : Int)) = true := decide_eq_true c6
      clear c6
      obtain ⟨ji7, hji7⟩ : ∃ j_ : Int, (mx (wrap64 ((wrap64 ((rd l0 x8_1) - a2)) * ((rd_T27 l1 x8_1).f0))) (wrap64 ((wrap64 ((rd l0 x8_1) - a2)) * ((rd_T27 l1 x8_1).f1)))) = j_ := ⟨_, rfl⟩
      replace H : (rf_above.l0 k1 l0 l1 a2 (wrap64 (x7_1 + (ji7))) (wrap64 (x8_1 + 1))) = some r := by first | (rw [hji7] at H; exact H) | (simp only [hji7] at H ⊢; exact H)
      have hji7_ : (if (wrap64 ((wrap64 ((rd l0 x8_1) - a2)) * ((rd_T27 l1 x8_1).f0))) < (wrap64 ((wrap64 ((rd l0 x8_1) - a2)) * ((rd_T27 l1 x8_1).f1))) then (wrap64 ((wrap64 ((rd l0 x8_1) - a2)) * ((rd_T27 l1 x8_1).f1))) else (wrap64 ((wrap64 ((rd l0 x8_1) - a2)) * ((rd_T27 l1 x8_1).f0)))) = ji7 := hji7
      have H' := Sd.mk H; clear H
      have p310 : 0 ≤ (x8_1 : Int) := tB
      have q310 : x8_1 < (l0.length : Int) := tB
      obtain ⟨ad310, e310, hx310_0⟩ := Kd.at_int HR0.out x8_1 p310 q310; cases e310; replace hx310_0 := cU HB hx310_0; replace p310 := eq_true p310; replace q310 := eq_true q310
      have p311 : 0 ≤ (x8_1 : Int) := tB
      have q311 : x8_1 < (l1.length : Int) := tB
      obtain ⟨ad311, e311, hx311_0, hx311_1⟩ := at_T27 HR1.out x8_1 p311 q311; cases e311; replace hx311_0 := cU HB hx311_0; replace hx311_1 := cU HB hx311_1; replace p311 := eq_true p311; replace q311 := eq_true q311
      have p312 : 0 ≤ (x8_1 : Int) := tB
      have q312 : x8_1 < (l1.length : Int) := tB
      obtain ⟨ad312, e312, hx312_0, hx312_1⟩ := at_T27 HR1.out x8_1 p312 q312
      obtain rfl : ad311 = ad312 := (by injection e312)
      replace hx312_0 := cU HB hx312_0; replace hx312_1 := cU HB hx312_1; replace p312 := eq_true p312; replace q312 := eq_true q312
      go_wp2
      repeat (go_quiet (fail); try go_wp2)
      go_roundg k1
      case measure => have := HK1.out; omega
      case rel => exact ⟨(wrap64 (x7_1 + (ji7))), (wrap64 (x8_1 + 1)), (by first | rfl | (simp; done) | (simp only [← hji7] <;> (first | rfl | simp)) | (simp [*]; done)), tS, H', ⟨by have := HK1.out; omega⟩, ⟨bBl HB.out⟩⟩
     ·rw [if_neg c6] at H
      exact absurd H (by simp)
    ·rw [if_neg c5] at H
     exact absurd H (by simp)
   ·rw [if_neg c4] at H
    have c4b0 : decide (x8_1 < (l1.length : Int)) = false := decide_eq_false c4
    clear c4; obtain rfl := Option.some.inj H
    go_wp2
    repeat (go_quiet (fail); try go_wp2)
    go_ret
    exact ⟨tE, bBl HB.out⟩
end Go.Proofs.Ytkjkokgbhepmoaa.PB

namespace Go.Proofs.Ytkjkokgbhepmoaa.PB
open Go.RowKit Go.Proofs.YtkjkokgbhepmoaaW.PrintWords Go.Proofs.YtkjkokgbhepmoaaW.PrintLast Go.Proofs.YtkjkokgbhepmoaaW.PrintMore
attribute [local go_sem] max2_int min2_int max_two min_two max_three min_three max_four min_four
end Go.Proofs.Ytkjkokgbhepmoaa.PB

namespace Go.Proofs.Ytkjkokgbhepmoaa.PB
open Go.RowKit Go.Proofs.YtkjkokgbhepmoaaW.PrintWords Go.Proofs.YtkjkokgbhepmoaaW.PrintLast Go.Proofs.YtkjkokgbhepmoaaW.PrintMore
attribute [local go_sem] max2_int min2_int max_two min_two max_three min_three max_four min_four
end Go.Proofs.Ytkjkokgbhepmoaa.PB

namespace Go.Proofs.Ytkjkokgbhepmoaa.PB
open Go.RowKit Go.Proofs.YtkjkokgbhepmoaaW.PrintWords Go.Proofs.YtkjkokgbhepmoaaW.PrintLast Go.Proofs.YtkjkokgbhepmoaaW.PrintMore
attribute [local go_sem] max2_int min2_int max_two min_two max_three min_three max_four min_four
def rf_floor.f (a0 : Int) (a1 : Int) : Option (Int) := if a1 = 0 then (none) else (if (wrap64 ((wrap64 (Int.tdiv a0 a1)) * a1)) > a0 then (some (wrap64 ((wrap64 (Int.tdiv a0 a1)) - 1))) else (some (wrap64 (Int.tdiv a0 a1))))
set_option maxHeartbeats 8000000 in
set_option maxRecDepth 100000 in
theorem rf_floor.calls (a0 : Int) (a1 : Int) (r : Int) (w : World) (h : rf_floor.f a0 a1 = some r) :
  Calls Try.prog 61 #[.int .i64 a0, .int .i64 a1] w fun e w' => e = .returned (.int .i64 r) ∧ Drawn0 w w' := by
 have H : (if a1 = 0 then (none) else (if (wrap64 ((wrap64 (Int.tdiv a0 a1)) * a1)) > a0 then (some (wrap64 ((wrap64 (Int.tdiv a0 a1)) - 1))) else (some (wrap64 (Int.tdiv a0 a1))))) = some r := h
 clear h
 by_cases c3 : a1 = 0
 ·rw [if_pos c3] at H
  exact absurd H (by simp)
 ·rw [if_neg c3] at H
  have c3b0 : (a1 == 0) = false := beq_eq_false_iff_ne.mpr c3
  have c3b1 : (a1 != 0) = true := bne_iff_ne.mpr c3
  by_cases c4 : (wrap64 ((wrap64 (Int.tdiv a0 a1)) * a1)) > a0
  ·rw [if_pos c4] at H
   have c4b0 : decide (a0 < (wrap64 ((wrap64 (Int.tdiv a0 a1)) * a1))) = true := decide_eq_true c4
   clear c4; obtain rfl := Option.some.inj H
   go_enter Try.func61, Try.ntmps61
   go_wp2
   go_ret
   exact ⟨by first | rfl | (simp; done) | (simp [*]; done), by repeat (first | exact Drawn0.refl _ | apply Drawn0.step)⟩
  ·rw [if_neg c4] at H
   have c4b0 : decide (a0 < (wrap64 ((wrap64 (Int.tdiv a0 a1)) * a1))) = false := decide_eq_false c4
   clear c4; obtain rfl := Option.some.inj H
   go_enter Try.func61, Try.ntmps61
   go_wp2
   go_ret
   exact ⟨by first | rfl | (simp; done) | (simp [*]; done), by repeat (first | exact Drawn0.refl _ | apply Drawn0.step)⟩
def rf_ceiling.f (a0 : Int) (a1 : Int) : Option (Int) := (rf_floor.f (wrap64 (-a0)) a1).bind fun t358 => (some (wrap64 (-t358)))
set_option maxHeartbeats 8000000 in
set_option maxRecDepth 100000 in
theorem rf_ceiling.calls (a0 : Int) (a1 : Int) (r : Int) (w : World) (h : rf_ceiling.f a0 a1 = some r) :
  Calls Try.prog 62 #[.int .i64 a0, .int .i64 a1] w fun e w' => e = .returned (.int .i64 r) ∧ Drawn0 w w' := by
 have H : ((rf_floor.f (wrap64 (-a0)) a1).bind fun t358 => (some (wrap64 (-t358)))) = some r := h
 clear h; replace H := Option.bind_eq_some_iff.mp H; obtain ⟨t358, A30, H⟩ := H
 try dsimp only at H
 have A3 := Sd.mk A30; clear A30; obtain rfl := Option.some.inj H
 go_enter Try.func62, Try.ntmps62
 go_wp2_with (first | ((with_reducible refine gate_callee (f := 61) rfl ?_); refine goesL_ (some 8) rfl rfl Try.func61 (by kernel_rfl) rfl #[.int .i64 (wrap64 (-a0)), .int .i64 a1] rfl tM ?_; (with_reducible refine (rf_floor.calls (wrap64 (-a0)) a1 t358 _ A3.out).mono ?_); rintro e w' ⟨rfl, ⟨nd, rfl⟩⟩; refine ⟨_, rfl, ?_⟩))
 go_ret
 exact ⟨by first | rfl | (simp; done) | (simp [*]; done), by repeat (first | exact Drawn0.refl _ | apply Drawn0.step)⟩
end Go.Proofs.Ytkjkokgbhepmoaa.PB

namespace Go.Proofs.Ytkjkokgbhepmoaa.PB
open Go.RowKit Go.Proofs.YtkjkokgbhepmoaaW.PrintWords Go.Proofs.YtkjkokgbhepmoaaW.PrintLast Go.Proofs.YtkjkokgbhepmoaaW.PrintMore
attribute [local go_sem] max2_int min2_int max_two min_two max_three min_three max_four min_four
attribute [local go_sem high] eqA27
end Go.Proofs.Ytkjkokgbhepmoaa.PB

namespace Go.Proofs.Ytkjkokgbhepmoaa.PB
open Go.RowKit Go.Proofs.YtkjkokgbhepmoaaW.PrintWords Go.Proofs.YtkjkokgbhepmoaaW.PrintLast Go.Proofs.YtkjkokgbhepmoaaW.PrintMore
def Ev {α : Type} (f : Nat → Option α) (v : α) : Prop := ∃ K, ∀ k, K ≤ k → f k = some v
namespace Ev
variable {α β : Type} {v u : α} {b : β}
theorem const (v : α) : Ev (fun _ => some v) v := ⟨0, fun _ _ => rfl⟩
theorem bind {f : Nat → Option α} {g : Nat → α → Option β} (h : Ev f v) (h' : Ev (fun k => g k v) b) : Ev (fun k => (f k).bind (g k)) b := by
  obtain ⟨K, h⟩ := h
  obtain ⟨K', h'⟩ := h'
  exact ⟨max K K', fun k hk => by show (f k).bind (g k) = some b; rw [h k (by omega)]; exact h' k (by omega)⟩
theorem step {f : Nat → Option α} (h : Ev (fun k => f (k + 1)) v) : Ev f v := by
  obtain ⟨K, h⟩ := h
  exact ⟨K + 1, fun k hk => by cases k with | zero => omega | succ k => exact h k (by omega)⟩
theorem cast {f : Nat → Option α} (h : Ev f v) (e : v = u) : Ev f u := e ▸ h
end Ev
theorem wrap_succ {i : Int} (h0 : 0 ≤ i) (h : i ≤ 1000000000) : wrap64 (i + 1) = i + 1 := wrap_id (by omega) (by omega)
def charB (c : Int) : Bool := decide (97 ≤ c ∧ c ≤ 122) || decide (48 ≤ c ∧ c ≤ 57) || decide (c = 45)
def nameFrom (x : ByteArray) : Nat → Int → Bool
  | 0, _ => true
  | m + 1, i => charB (bt x i) && nameFrom x m (i + 1)
def nameOk (x : ByteArray) : Bool := decide (1 ≤ x.size) && decide (x.size ≤ 16) && decide (97 ≤ bt x 0) && decide (bt x 0 ≤ 122) && nameFrom x x.size 0
theorem bname_l0 (x : ByteArray) (hx : x.size ≤ 16) : ∀ (m : Nat) (i : Int), 0 ≤ i → i + m = x.size → Ev (fun k => batch_name.l0 k x x.size i) (nameFrom x m i)
  | 0, i, h0, hi => by
    apply Ev.step
    simp only [batch_name.l0, if_neg (show ¬ i < (x.size : Int) by omega)]
    exact Ev.const _
  | m + 1, i, h0, hi => by
    have ih := bname_l0 x hx m (i + 1) (by omega) (by omega)
    apply Ev.step
    simp only [batch_name.l0, if_pos (show i < (x.size : Int) by omega), if_pos h0, wrap_succ h0 (show i ≤ 1000000000 by omega)]
    by_cases h1 : bt x i ≥ 97 <;> by_cases h2 : bt x i ≤ 122 <;> by_cases h3 : bt x i ≥ 48 <;> by_cases h4 : bt x i ≤ 57 <;> by_cases h5 : bt x i = 45 <;> first
      | omega
      | (simp only [h1, h2, h3, h4, h5, if_true, if_false, ite_true, ite_false]
         first
           | exact ih.cast (by have hc : charB (bt x i) = true := (by simp only [charB, Bool.or_eq_true, decide_eq_true_eq]; omega); simp [nameFrom, hc])
           | exact (Ev.const false).cast (by have hc : charB (bt x i) = false := (by simp only [charB, Bool.or_eq_false_iff, decide_eq_false_iff_not]; omega); simp [nameFrom, hc]))
theorem bname (x : ByteArray) : Ev (fun k => batch_name.f k x) (nameOk x) := by
  unfold batch_name.f
  have hj : ∀ b : Bool, (b = false → x.size ≤ 16) → Ev (fun k => batch_name.j0 k x b) (!b && nameFrom x x.size 0) := by
    intro b hb
    apply Ev.step
    cases b with
    | true => simp only [batch_name.j0, if_true]; exact Ev.const _
    | false => simp only [batch_name.j0, Bool.false_eq_true, if_false]; exact (bname_l0 x (hb rfl) x.size 0 (by omega) (by omega)).cast (by simp)
  by_cases h1 : (x.size : Int) < 1
  · simp only [if_pos h1]; exact (hj true (by simp)).cast (by simp [nameOk]; omega)
  · simp only [if_neg h1]
    by_cases h2 : (x.size : Int) > 16
    · simp only [if_pos h2]; exact (hj true (by simp)).cast (by simp [nameOk]; omega)
    · simp only [if_neg h2, if_pos (show 0 < (x.size : Int) by omega)]
      by_cases h3 : bt x 0 < 97
      · simp only [if_pos h3]; exact (hj true (by simp)).cast (by simp [nameOk]; omega)
      · simp only [if_neg h3]
        refine (hj _ (fun _ => by omega)).cast ?_
        by_cases h4 : bt x 0 > 122
        · simp [nameOk, h4]; try omega
        · have : 97 ≤ bt x 0 := by omega
          have : bt x 0 ≤ 122 := by omega
          have : x.size ≤ 16 := by omega
          have : 1 ≤ x.size := by omega
          simp [nameOk, *]
end Go.Proofs.Ytkjkokgbhepmoaa.PB

namespace Go.Proofs.Ytkjkokgbhepmoaa.PB
open Go.RowKit Go.Proofs.YtkjkokgbhepmoaaW.PrintWords Go.Proofs.YtkjkokgbhepmoaaW.PrintLast Go.Proofs.YtkjkokgbhepmoaaW.PrintMore
theorem toList_loop (x : ByteArray) : ∀ (m i : Nat) (r : List UInt8), i + m = x.size → (ByteArray.toList.loop x i r).length = r.length + m
  | 0, i, r, h => by
    unfold ByteArray.toList.loop
    rw [if_neg (by omega)]; simp
  | m + 1, i, r, h => by
    unfold ByteArray.toList.loop
    rw [if_pos (by omega), toList_loop x m (i + 1) _ (by omega)]; simp; omega
theorem toList_len (x : ByteArray) : x.toList.length = x.size := by
  have := toList_loop x x.size 0 [] (by omega)
  simpa [ByteArray.toList] using this
theorem toList_nil (x : ByteArray) : x.toList = [] ↔ x.size = 0 := by
  rw [← toList_len]; exact List.length_eq_zero_iff.symm
theorem rname_l0 (x : ByteArray) (hx : x.size ≤ 16) : ∀ (m : Nat) (i : Int), 0 ≤ i → i + m = x.size → Ev (fun k => rf_Name.l0 k x i) (nameFrom x m i)
  | 0, i, h0, hi => by
    apply Ev.step
    simp only [rf_Name.l0, if_neg (show ¬ i < (x.size : Int) by omega)]
    exact Ev.const _
  | m + 1, i, h0, hi => by
    have ih := rname_l0 x hx m (i + 1) (by omega) (by omega)
    apply Ev.step
    simp only [rf_Name.l0, if_pos (show i < (x.size : Int) by omega), if_pos h0, wrap_succ h0 (show i ≤ 1000000000 by omega)]
    by_cases h1 : bt x i ≥ 97 <;> by_cases h2 : bt x i ≤ 122 <;> by_cases h3 : bt x i ≥ 48 <;> by_cases h4 : bt x i ≤ 57 <;> by_cases h5 : bt x i = 45 <;> first
      | omega
      | (simp only [h1, h2, h3, h4, h5, if_true, if_false, ite_true, ite_false]
         first
           | exact ih.cast (by have hc : charB (bt x i) = true := (by simp only [charB, Bool.or_eq_true, decide_eq_true_eq]; omega); simp [nameFrom, hc])
           | exact (Ev.const false).cast (by have hc : charB (bt x i) = false := (by simp only [charB, Bool.or_eq_false_iff, decide_eq_false_iff_not]; omega); simp [nameFrom, hc]))
theorem rname (x : ByteArray) : Ev (fun k => rf_Name.f k x) (nameOk x) := by
  unfold rf_Name.f
  have hj : ∀ b : Bool, (b = false → x.size ≤ 16) → Ev (fun k => rf_Name.j0 k x b) (!b && nameFrom x x.size 0) := by
    intro b hb
    apply Ev.step
    cases b with
    | true => simp only [rf_Name.j0, if_true]; exact Ev.const _
    | false => simp only [rf_Name.j0, Bool.false_eq_true, if_false]; exact (rname_l0 x (hb rfl) x.size 0 (by omega) (by omega)).cast (by simp)
  by_cases h1 : x.toList = []
  · have := (toList_nil x).1 h1
    simp only [if_pos h1]; exact (hj true (by simp)).cast (by simp [nameOk]; omega)
  · have : ¬ x.size = 0 := fun h => h1 ((toList_nil x).2 h)
    simp only [if_neg h1]
    by_cases h2 : (x.size : Int) > 16
    · simp only [if_pos h2]; exact (hj true (by simp)).cast (by simp [nameOk]; omega)
    · simp only [if_neg h2, if_pos (show 0 < (x.size : Int) by omega)]
      by_cases h3 : bt x 0 < 97
      · simp only [if_pos h3]; exact (hj true (by simp)).cast (by simp [nameOk]; omega)
      · simp only [if_neg h3]
        refine (hj _ (fun _ => by omega)).cast ?_
        by_cases h4 : bt x 0 > 122
        · simp [nameOk, h4]; try omega
        · have : 97 ≤ bt x 0 := by omega
          have : bt x 0 ≤ 122 := by omega
          have : x.size ≤ 16 := by omega
          have : 1 ≤ x.size := by omega
          simp [nameOk, *]
theorem rin_l0 (l : List ByteArray) (x : ByteArray) (hl : l.length ≤ 1000) : ∀ (m : Nat) (i : Nat), i + m = l.length → Ev (fun k => rf_in.l0 k l x (i : Int)) ((l.drop i).any fun y => y.toList == x.toList)
  | 0, i, hi => by
    apply Ev.step
    simp only [rf_in.l0, if_neg (show ¬ (i : Int) < (l.length : Int) by omega)]
    exact (Ev.const _).cast (by rw [List.drop_eq_nil_of_le (by omega)]; rfl)
  | m + 1, i, hi => by
    have ih := rin_l0 l x hl m (i + 1) (by omega)
    have hlt : i < l.length := by omega
    apply Ev.step
    simp only [rf_in.l0, if_pos (show (i : Int) < (l.length : Int) by omega), if_pos (show 0 ≤ (i : Int) by omega), wrap_succ (show 0 ≤ (i : Int) by omega) (show (i : Int) ≤ 1000000000 by omega)]
    have hr : rdOf ByteArray.empty l (i : Int) = l[i] := by simp [rdOf, hlt]
    rw [hr, List.drop_eq_getElem_cons hlt]
    by_cases h : l[i].toList = x.toList
    · simp only [if_pos h]
      exact (Ev.const _).cast (by rw [List.any_cons, h, beq_self_eq_true, Bool.true_or])
    · simp only [if_neg h]
      exact ih.cast (by rw [List.any_cons, beq_eq_false_iff_ne.mpr h, Bool.false_or])
theorem rin (l : List ByteArray) (x : ByteArray) (hl : l.length ≤ 1000) : Ev (fun k => rf_in.f k l x) (l.any fun y => y.toList == x.toList) := by
  unfold rf_in.f
  exact (rin_l0 l x hl l.length 0 (by omega)).cast (by simp)
theorem bidx_l0 (l : List ByteArray) (x : ByteArray) (hl : l.length ≤ 1000) : ∀ (m : Nat) (i : Nat), i + m = l.length → ∃ r : Int, Ev (fun k => slices_Index_string_string.l0 k l x (l.length : Int) (i : Int)) r ∧ (decide (r ≥ 0) = (l.drop i).any fun y => y.toList == x.toList)
  | 0, i, hi => by
    refine ⟨-1, ?_, by rw [List.drop_eq_nil_of_le (by omega)]; rfl⟩
    apply Ev.step
    simp only [slices_Index_string_string.l0, if_neg (show ¬ (i : Int) < (l.length : Int) by omega)]
    exact Ev.const _
  | m + 1, i, hi => by
    obtain ⟨r, ih, hr'⟩ := bidx_l0 l x hl m (i + 1) (by omega)
    have hlt : i < l.length := by omega
    have hr : rdOf ByteArray.empty l (i : Int) = l[i] := by simp [rdOf, hlt]
    by_cases h : x.toList = l[i].toList
    · refine ⟨i, ?_, ?_⟩
      · apply Ev.step
        simp only [slices_Index_string_string.l0, if_pos (show (i : Int) < (l.length : Int) by omega), if_pos (show 0 ≤ (i : Int) by omega), hr, if_pos h]
        exact Ev.const _
      · rw [List.drop_eq_getElem_cons hlt, List.any_cons, h, beq_self_eq_true, Bool.true_or]; simp
    · refine ⟨r, ?_, ?_⟩
      · apply Ev.step
        simp only [slices_Index_string_string.l0, if_pos (show (i : Int) < (l.length : Int) by omega), if_pos (show 0 ≤ (i : Int) by omega), hr, if_neg h, wrap_succ (show 0 ≤ (i : Int) by omega) (show (i : Int) ≤ 1000000000 by omega)]
        exact ih
      · rw [List.drop_eq_getElem_cons hlt, hr']
        have h' : ¬ l[i].toList = x.toList := fun e => h e.symm
        rw [List.any_cons, beq_eq_false_iff_ne.mpr h', Bool.false_or]
theorem bcontains (l : List ByteArray) (x : ByteArray) (hl : l.length ≤ 1000) : Ev (fun k => slices_Contains_string_string.f k l x) (l.any fun y => y.toList == x.toList) := by
  unfold slices_Contains_string_string.f slices_Index_string_string.f
  obtain ⟨r, h, e⟩ := bidx_l0 l x hl l.length 0 (by omega)
  refine Ev.bind h ?_
  exact (Ev.const _).cast (by rw [e]; simp)
end Go.Proofs.Ytkjkokgbhepmoaa.PB

namespace Go.Proofs.Ytkjkokgbhepmoaa.PB
open Go.RowKit Go.Proofs.YtkjkokgbhepmoaaW.PrintWords Go.Proofs.YtkjkokgbhepmoaaW.PrintLast Go.Proofs.YtkjkokgbhepmoaaW.PrintMore
def oxE (o : List ByteArray) : Nat → Nat → Int
  | 0, _ => 0
  | m + 1, i => if nameOk (rdOf ByteArray.empty o (i : Int)) = true then (if ((o.take i).any fun y => y.toList == (rdOf ByteArray.empty o (i : Int)).toList) = true then 6 else oxE o m (i + 1)) else 5
theorem i_pos (i : Nat) : 0 ≤ (i : Int) := by omega
section
variable (o : List ByteArray) (mt : List S63) (s : List S27) (p : List S65) (a4 a5 a6 : Int)
theorem box_l0 (ho : o.length ≤ 12) : ∀ (m i : Nat), i + m = o.length → Ev (fun k => batch_checkOxides.l0 k o (o.length : Int) (i : Int) o mt s p a4 a5 a6) (oxE o m i)
  | 0, i, hi => by
    apply Ev.step
    simp only [batch_checkOxides.l0, if_neg (show ¬ (i : Int) < (o.length : Int) by omega)]
    exact Ev.const _
  | m + 1, i, hi => by
    have ih := box_l0 ho m (i + 1) (by omega)
    apply Ev.step
    simp only [batch_checkOxides.l0, if_pos (show (i : Int) < (o.length : Int) by omega), if_pos (i_pos i), if_pos (show (i : Int) ≤ (o.length : Int) by omega), wrap_succ (i_pos i) (show (i : Int) ≤ 1000000000 by omega), Int.toNat_natCast]
    refine Ev.bind (bname _) ?_
    unfold oxE
    by_cases h : nameOk (rdOf ByteArray.empty o (i : Int)) = true
    · simp only [if_pos h]
      refine Ev.bind (bcontains _ _ (by simp; omega)) ?_
      by_cases h' : ((o.take i).any fun y => y.toList == (rdOf ByteArray.empty o (i : Int)).toList) = true
      · simp only [if_pos h']; exact Ev.const _
      · simp only [if_neg h']; exact ih
    · simp only [if_neg h]; exact Ev.const _
theorem box_f : Ev (fun k => batch_checkOxides.f k o mt s p a4 a5 a6) (if o.length > 12 then 3 else if o.length = 0 then 1 else oxE o o.length 0) := by
  unfold batch_checkOxides.f
  by_cases h : o.length > 12
  · simp only [if_pos h, if_pos (show (o.length : Int) > 12 by omega)]; exact Ev.const _
  · by_cases h' : o.length = 0
    · simp only [if_neg h, if_neg (show ¬ (o.length : Int) > 12 by omega), if_pos h', if_pos (show (o.length : Int) = 0 by omega)]; exact Ev.const _
    · simp only [if_neg h, if_neg (show ¬ (o.length : Int) > 12 by omega), if_neg h', if_neg (show ¬ (o.length : Int) = 0 by omega)]
      exact box_l0 o mt s p a4 a5 a6 (by omega) o.length 0 (by omega)
theorem rox_l0 (ho : o.length ≤ 12) (R : Int) (hR : Ev (fun k => if (mt.length : Int) > 12 then some 3 else (if (mt.length : Int) = 0 then some 1 else rf_Check.l1 k [] 0 o mt s p a4 a5 a6)) R) :
    ∀ (m i : Nat), i + m = o.length → Ev (fun k => rf_Check.l0 k (i : Int) o mt s p a4 a5 a6) (if oxE o m i = 0 then R else oxE o m i)
  | 0, i, hi => by
    apply Ev.step
    simp only [rf_Check.l0, if_neg (show ¬ (i : Int) < (o.length : Int) by omega)]
    exact hR.cast (by simp [oxE])
  | m + 1, i, hi => by
    have ih := rox_l0 ho R hR m (i + 1) (by omega)
    apply Ev.step
    simp only [rf_Check.l0, if_pos (show (i : Int) < (o.length : Int) by omega), if_pos (i_pos i), if_pos (show (i : Int) ≤ (o.length : Int) by omega), wrap_succ (i_pos i) (show (i : Int) ≤ 1000000000 by omega), Int.toNat_natCast]
    refine Ev.bind (rname _) ?_
    unfold oxE
    by_cases h : nameOk (rdOf ByteArray.empty o (i : Int)) = true
    · simp only [if_pos h]
      refine Ev.bind (rin _ _ (by simp; omega)) ?_
      by_cases h' : ((o.take i).any fun y => y.toList == (rdOf ByteArray.empty o (i : Int)).toList) = true
      · simp only [if_pos h']; exact (Ev.const _).cast (by simp)
      · simp only [if_neg h']; exact ih
    · simp only [if_neg h]; exact (Ev.const _).cast (by simp)
def conE (l : List S27) : Nat → Nat → Int → Int
  | 0, _, acc => if acc > 1000 then 12 else 0
  | m + 1, i, acc => if badSpan (rd_T27 l (i : Int)) = true then 1 else conE l m (i + 1) (acc + (rd_T27 l (i : Int)).f0)
def matC (n : Nat) (x : S63) : Int :=
  if (0 ≤ x.f1 ∧ x.f1 ≤ 10000) ∧ (-1000 ≤ x.f2 ∧ x.f2 ≤ 1000) ∧ (0 ≤ x.f3 ∧ x.f3 ≤ 10000) ∧ (x.f3 ≤ x.f4 ∧ x.f4 ≤ 10000) ∧ (1 ≤ x.f5 ∧ x.f5 ≤ 10000) ∧ x.f6.length = n then conE x.f6 x.f6.length 0 0 else 1
theorem span_bad (x : S27) : batch_span.f x.f0 x.f1 0 1000 = some (!badSpan x) := by
  rw [span_f]; unfold badSpan; simp
theorem rwithin_bad (x : S27) : rf_within.f x.f0 x.f1 0 1000 = some (!badSpan x) := by
  rw [← span_bad]; rfl
theorem bad_false {x : S27} (h : badSpan x = false) : 0 ≤ x.f0 ∧ x.f0 ≤ x.f1 ∧ x.f1 ≤ 1000 := by
  simp [badSpan] at h; omega
theorem bcon_l0 (l : List S27) (hl : l.length ≤ 12) : ∀ (m i : Nat) (acc : Int), i + m = l.length → 0 ≤ acc → acc ≤ 1000 * i → Ev (fun k => batch_checkMaterial.l0 k acc l (l.length : Int) (i : Int)) (conE l m i acc)
  | 0, i, acc, hi, h0, h1 => by
    apply Ev.step
    simp only [batch_checkMaterial.l0, if_neg (show ¬ (i : Int) < (l.length : Int) by omega)]
    unfold conE
    by_cases h : acc > 1000
    · simp only [if_pos h]; exact Ev.const _
    · simp only [if_neg h]; exact Ev.const _
  | m + 1, i, acc, hi, h0, h1 => by
    apply Ev.step
    simp only [batch_checkMaterial.l0, if_pos (show (i : Int) < (l.length : Int) by omega), if_pos (i_pos i), wrap_succ (i_pos i) (show (i : Int) ≤ 1000000000 by omega), span_bad, Option.bind_some]
    unfold conE
    by_cases h : badSpan (rd_T27 l (i : Int)) = true
    · simp only [h, Bool.not_true, Bool.false_eq_true, if_false, if_true]; exact Ev.const _
    · have hb := bad_false (Bool.not_eq_true _ ▸ h)
      have ih := bcon_l0 l hl m (i + 1) (acc + (rd_T27 l (i : Int)).f0) (by omega) (by omega) (by omega)
      simp only [h, Bool.not_false, Bool.false_eq_true, if_true, if_false, wrap_id (x := acc + (rd_T27 l (i : Int)).f0) (by omega) (by omega)]
      exact ih
theorem rcon_l0 (n : ByteArray) (b1 b2 b3 b4 b5 : Int) (l : List S27) (hl : l.length ≤ 12) : ∀ (m i : Nat) (acc : Int), i + m = l.length → 0 ≤ acc → acc ≤ 1000 * i → Ev (fun k => rf_material.l0 k acc (i : Int) n b1 b2 b3 b4 b5 l) (conE l m i acc)
  | 0, i, acc, hi, h0, h1 => by
    apply Ev.step
    simp only [rf_material.l0, if_neg (show ¬ (i : Int) < (l.length : Int) by omega)]
    unfold conE
    by_cases h : acc > 1000
    · simp only [if_pos h]; exact Ev.const _
    · simp only [if_neg h]; exact Ev.const _
  | m + 1, i, acc, hi, h0, h1 => by
    apply Ev.step
    simp only [rf_material.l0, if_pos (show (i : Int) < (l.length : Int) by omega), if_pos (i_pos i), wrap_succ (i_pos i) (show (i : Int) ≤ 1000000000 by omega), rwithin_bad, Option.bind_some]
    unfold conE
    by_cases h : badSpan (rd_T27 l (i : Int)) = true
    · simp only [h, Bool.not_true, Bool.false_eq_true, if_false, if_true]; exact Ev.const _
    · have hb := bad_false (Bool.not_eq_true _ ▸ h)
      have ih := rcon_l0 n b1 b2 b3 b4 b5 l hl m (i + 1) (acc + (rd_T27 l (i : Int)).f0) (by omega) (by omega) (by omega)
      simp only [h, Bool.not_false, Bool.false_eq_true, if_true, if_false, wrap_id (x := acc + (rd_T27 l (i : Int)).f0) (by omega) (by omega)]
      exact ih
theorem bmat (ho : o.length ≤ 12) (x : S63) : Ev (fun k => batch_checkMaterial.f k o mt s p a4 a5 a6 x.f0 x.f1 x.f2 x.f3 x.f4 x.f5 x.f6) (matC o.length x) := by
  have hj1 : Ev (fun k => batch_checkMaterial.j0 k true x.f0 x.f1 x.f2 x.f3 x.f4 x.f5 x.f6) 1 := by
    apply Ev.step; simp only [batch_checkMaterial.j0, if_true]; exact Ev.const _
  have hj0 : x.f6.length = o.length → Ev (fun k => batch_checkMaterial.j0 k false x.f0 x.f1 x.f2 x.f3 x.f4 x.f5 x.f6) (conE x.f6 x.f6.length 0 0) := by
    intro hh
    apply Ev.step; simp only [batch_checkMaterial.j0, Bool.false_eq_true, if_false]
    exact bcon_l0 x.f6 (by omega) x.f6.length 0 0 (by omega) (by omega) (by omega)
  unfold batch_checkMaterial.f
  simp only [within_f, Option.bind_some, Bool.and_eq_true, decide_eq_true_eq]
  unfold matC
  by_cases h1 : 0 ≤ x.f1 ∧ x.f1 ≤ 10000
  · by_cases h2 : -1000 ≤ x.f2 ∧ x.f2 ≤ 1000
    · by_cases h3 : 0 ≤ x.f3 ∧ x.f3 ≤ 10000
      · by_cases h4 : x.f3 ≤ x.f4 ∧ x.f4 ≤ 10000
        · by_cases h5 : 1 ≤ x.f5 ∧ x.f5 ≤ 10000
          · by_cases h6 : x.f6.length = o.length
            · simp only [if_pos h1, if_pos h2, if_pos h3, if_pos h4, if_pos h5, h1, h2, h3, h4, h5, h6, and_self, if_true, bne_self_eq_false]
              exact (hj0 h6).cast (by rw [h6])
            · have hb : ((x.f6.length : Int) != (o.length : Int)) = true := by simp; omega
              simp only [if_pos h1, if_pos h2, if_pos h3, if_pos h4, if_pos h5, hb]
              exact hj1.cast (by rw [if_neg (fun hh => h6 hh.2.2.2.2.2)])
          · simp only [if_pos h1, if_pos h2, if_pos h3, if_pos h4, if_neg h5]
            exact hj1.cast (by rw [if_neg (fun hh => h5 hh.2.2.2.2.1)])
        · simp only [if_pos h1, if_pos h2, if_pos h3, if_neg h4]
          exact hj1.cast (by rw [if_neg (fun hh => h4 hh.2.2.2.1)])
      · simp only [if_pos h1, if_pos h2, if_neg h3]
        exact hj1.cast (by rw [if_neg (fun hh => h3 hh.2.2.1)])
    · simp only [if_pos h1, if_neg h2]
      exact hj1.cast (by rw [if_neg (fun hh => h2 hh.2.1)])
  · simp only [if_neg h1]
    exact hj1.cast (by rw [if_neg (fun hh => h1 hh.1)])
theorem rmat (ho : o.length ≤ 12) (x : S63) : Ev (fun k => rf_material.f k o mt s p a4 a5 a6 x.f0 x.f1 x.f2 x.f3 x.f4 x.f5 x.f6) (matC o.length x) := by
  have hj1 : Ev (fun k => rf_material.j0 k true o mt s p a4 a5 a6 x.f0 x.f1 x.f2 x.f3 x.f4 x.f5 x.f6) 1 := by
    apply Ev.step; simp only [rf_material.j0, if_true]; exact Ev.const _
  have hj0 : Ev (fun k => rf_material.j0 k false o mt s p a4 a5 a6 x.f0 x.f1 x.f2 x.f3 x.f4 x.f5 x.f6) (if x.f6.length = o.length then conE x.f6 x.f6.length 0 0 else 1) := by
    apply Ev.step; simp only [rf_material.j0, Bool.false_eq_true, if_false]
    by_cases hh : x.f6.length = o.length
    · simp only [if_pos hh, if_pos (show (x.f6.length : Int) = (o.length : Int) by omega)]
      exact rcon_l0 x.f0 x.f1 x.f2 x.f3 x.f4 x.f5 x.f6 (by omega) x.f6.length 0 0 (by omega) (by omega) (by omega)
    · simp only [if_neg hh, if_neg (show ¬ (x.f6.length : Int) = (o.length : Int) by omega)]; exact Ev.const _
  unfold rf_material.f matC
  by_cases h1 : x.f1 < 0
  · simp only [if_pos h1]; exact hj1.cast (by rw [if_neg]; omega)
  · simp only [if_neg h1]
    by_cases h2 : x.f1 > 10000
    · simp only [if_pos h2]; exact hj1.cast (by rw [if_neg]; omega)
    · simp only [if_neg h2]
      by_cases h3 : x.f2 < -1000
      · simp only [if_pos h3]; exact hj1.cast (by rw [if_neg]; omega)
      · simp only [if_neg h3]
        by_cases h4 : x.f2 > 1000
        · simp only [if_pos h4]; exact hj1.cast (by rw [if_neg]; omega)
        · simp only [if_neg h4]
          by_cases h5 : x.f3 < 0
          · simp only [if_pos h5]; exact hj1.cast (by rw [if_neg]; omega)
          · simp only [if_neg h5]
            by_cases h6 : x.f3 > 10000
            · simp only [if_pos h6]; exact hj1.cast (by rw [if_neg]; omega)
            · simp only [if_neg h6]
              by_cases h7 : x.f4 < x.f3
              · simp only [if_pos h7]; exact hj1.cast (by rw [if_neg]; omega)
              · simp only [if_neg h7]
                by_cases h8 : x.f4 > 10000
                · simp only [if_pos h8]; exact hj1.cast (by rw [if_neg]; omega)
                · simp only [if_neg h8]
                  by_cases h9 : x.f5 < 1
                  · simp only [if_pos h9]; exact hj1.cast (by rw [if_neg]; omega)
                  · simp only [if_neg h9]
                    by_cases h10 : x.f5 > 10000
                    · simp only [h10, decide_true]; exact hj1.cast (by rw [if_neg]; omega)
                    · simp only [h10, decide_false]
                      refine hj0.cast ?_
                      by_cases hh : x.f6.length = o.length
                      · rw [if_pos hh, if_pos (by omega)]
                      · rw [if_neg hh, if_neg (by omega)]
end
end Go.Proofs.Ytkjkokgbhepmoaa.PB

namespace Go.Proofs.Ytkjkokgbhepmoaa.PB
open Go.RowKit Go.Proofs.YtkjkokgbhepmoaaW.PrintWords Go.Proofs.YtkjkokgbhepmoaaW.PrintLast Go.Proofs.YtkjkokgbhepmoaaW.PrintMore
def proC (n : Nat) (x : S65) : Int := if x.f1.length = n then (if x.f1.any (outside (-10000) 10000) = true then 1 else if -10000 ≤ x.f2.f0 ∧ x.f2.f0 ≤ x.f2.f1 ∧ x.f2.f1 ≤ 10000 then 0 else 1) else 1
def proE (p : List S65) (n : Nat) : Nat → Nat → Int
  | 0, _ => 0
  | m + 1, i => if nameOk (rd_T65 p (i : Int)).f0 = true then (if ((p.take i).any fun x => x.f0.toList == (rd_T65 p (i : Int)).f0.toList) = true then 6 else (if proC n (rd_T65 p (i : Int)) = 0 then proE p n m (i + 1) else proC n (rd_T65 p (i : Int)))) else 5
def matE (mt : List S63) (n : Nat) : Nat → Nat → Int
  | 0, _ => 0
  | m + 1, i => if nameOk (rd_T63 mt (i : Int)).f0 = true then (if ((mt.take i).any fun x => x.f0.toList == (rd_T63 mt (i : Int)).f0.toList) = true then 6 else (if matC n (rd_T63 mt (i : Int)) = 0 then matE mt n m (i + 1) else matC n (rd_T63 mt (i : Int)))) else 5
theorem rwithin_f (a b lo hi : Int) : rf_within.f a b lo hi = some (decide (lo ≤ a) && decide (a ≤ b) && decide (b ≤ hi)) := by
  rw [← span_f]; rfl
section
variable (o : List ByteArray) (mt : List S63) (s : List S27) (p : List S65) (a4 a5 a6 : Int)
theorem bpro (x : S65) : Ev (fun _ => batch_checkProperty.f o mt s p a4 a5 a6 x.f0 x.f1 x.f2.f0 x.f2.f1) (proC o.length x) := by
  unfold batch_checkProperty.f proC
  by_cases h : x.f1.length = o.length
  · simp only [if_pos h, if_pos (show (x.f1.length : Int) = (o.length : Int) by omega), x_coefs.f, Option.bind_some, span_f, Bool.and_eq_true, decide_eq_true_eq]
    by_cases h' : x.f1.any (outside (-10000) 10000) = true
    · simp only [if_pos h']; exact Ev.const _
    · simp only [if_neg h']
      by_cases h2 : -10000 ≤ x.f2.f0 ∧ x.f2.f0 ≤ x.f2.f1 ∧ x.f2.f1 ≤ 10000
      · rw [if_pos (by omega), if_pos h2]; exact Ev.const _
      · rw [if_neg (by omega), if_neg h2]; exact Ev.const _
  · simp only [if_neg h, if_neg (show ¬ (x.f1.length : Int) = (o.length : Int) by omega)]; exact Ev.const _
theorem rpro_l0 (n : ByteArray) (l : List Int) (t0 t1 : Int) (hl : l.length ≤ 12) : ∀ (m i : Nat), i + m = l.length → Ev (fun k => rf_property.l0 k (i : Int) n l t0 t1) (if (l.drop i).any (outside (-10000) 10000) = true then 1 else if -10000 ≤ t0 ∧ t0 ≤ t1 ∧ t1 ≤ 10000 then 0 else 1)
  | 0, i, hi => by
    apply Ev.step
    simp only [rf_property.l0, if_neg (show ¬ (i : Int) < (l.length : Int) by omega), rwithin_f, Option.bind_some, Bool.and_eq_true, decide_eq_true_eq]
    have h3 : (l.drop i).any (outside (-10000) 10000) = false := by rw [List.drop_eq_nil_of_le (by omega)]; rfl
    rw [h3]
    by_cases h2 : -10000 ≤ t0 ∧ t0 ≤ t1 ∧ t1 ≤ 10000
    · have h2' : (-10000 ≤ t0 ∧ t0 ≤ t1) ∧ t1 ≤ 10000 := by omega
      simp only [if_pos h2', if_pos h2, Bool.false_eq_true, if_false]; exact Ev.const _
    · have h2' : ¬ ((-10000 ≤ t0 ∧ t0 ≤ t1) ∧ t1 ≤ 10000) := by omega
      simp only [if_neg h2', if_neg h2, Bool.false_eq_true, if_false]; exact Ev.const _
  | m + 1, i, hi => by
    have ih := rpro_l0 n l t0 t1 hl m (i + 1) (by omega)
    have hlt : i < l.length := by omega
    have hr : rd l (i : Int) = l[i] := by simp [rd, hlt]
    apply Ev.step
    simp only [rf_property.l0, if_pos (show (i : Int) < (l.length : Int) by omega), if_pos (i_pos i), wrap_succ (i_pos i) (show (i : Int) ≤ 1000000000 by omega), hr]
    rw [List.drop_eq_getElem_cons hlt, List.any_cons]
    by_cases h1 : l[i] < -10000
    · simp only [if_pos h1]
      have hb : outside (-10000) 10000 l[i] = true := by simp [outside]; omega
      exact (Ev.const _).cast (by rw [hb]; rfl)
    · simp only [if_neg h1]
      by_cases h2 : l[i] > 10000
      · simp only [if_pos h2]
        have hb : outside (-10000) 10000 l[i] = true := by simp [outside]; omega
        exact (Ev.const _).cast (by rw [hb]; rfl)
      · simp only [if_neg h2]
        have hb : outside (-10000) 10000 l[i] = false := by simp [outside]; omega
        exact ih.cast (by rw [hb, Bool.false_or])
theorem rpro (ho : o.length ≤ 12) (x : S65) : Ev (fun k => rf_property.f k o mt s p a4 a5 a6 x.f0 x.f1 x.f2.f0 x.f2.f1) (proC o.length x) := by
  unfold rf_property.f proC
  by_cases h : x.f1.length = o.length
  · simp only [if_pos h, if_pos (show (x.f1.length : Int) = (o.length : Int) by omega)]
    exact (rpro_l0 x.f0 x.f1 x.f2.f0 x.f2.f1 (by omega) x.f1.length 0 (by omega)).cast (by rw [List.drop_zero])
  · simp only [if_neg h, if_neg (show ¬ (x.f1.length : Int) = (o.length : Int) by omega)]; exact Ev.const _
theorem bmats_l0 (ho : o.length ≤ 12) (hm : mt.length ≤ 12) : ∀ (m i : Nat), i + m = mt.length → Ev (fun k => batch_checkMaterials.l0 k mt (mt.length : Int) (i : Int) o mt s p a4 a5 a6) (matE mt o.length m i)
  | 0, i, hi => by
    apply Ev.step
    simp only [batch_checkMaterials.l0, if_neg (show ¬ (i : Int) < (mt.length : Int) by omega)]
    exact Ev.const _
  | m + 1, i, hi => by
    have ih := bmats_l0 ho hm m (i + 1) (by omega)
    apply Ev.step
    simp only [batch_checkMaterials.l0, if_pos (show (i : Int) < (mt.length : Int) by omega), if_pos (i_pos i), wrap_succ (i_pos i) (show (i : Int) ≤ 1000000000 by omega), x_twiceM.f, Int.toNat_natCast, Option.bind_some]
    refine Ev.bind (bname _) ?_
    unfold matE
    by_cases h : nameOk (rd_T63 mt (i : Int)).f0 = true
    · simp only [if_pos h]
      by_cases h' : ((mt.take i).any fun x => x.f0.toList == (rd_T63 mt (i : Int)).f0.toList) = true
      · simp only [if_pos h']; exact Ev.const _
      · simp only [if_neg h']
        refine Ev.bind (bmat o mt s p a4 a5 a6 ho _) ?_
        by_cases h2 : matC o.length (rd_T63 mt (i : Int)) = 0
        · simp only [if_pos h2]; exact ih
        · simp only [if_neg h2]; exact Ev.const _
    · simp only [if_neg h]; exact Ev.const _
theorem bmats (ho : o.length ≤ 12) : Ev (fun k => batch_checkMaterials.f k o mt s p a4 a5 a6) (if mt.length > 12 then 3 else if mt.length = 0 then 1 else matE mt o.length mt.length 0) := by
  unfold batch_checkMaterials.f
  by_cases h : mt.length > 12
  · simp only [if_pos h, if_pos (show (mt.length : Int) > 12 by omega)]; exact Ev.const _
  · by_cases h' : mt.length = 0
    · simp only [if_neg h, if_neg (show ¬ (mt.length : Int) > 12 by omega), if_pos h', if_pos (show (mt.length : Int) = 0 by omega)]; exact Ev.const _
    · simp only [if_neg h, if_neg (show ¬ (mt.length : Int) > 12 by omega), if_neg h', if_neg (show ¬ (mt.length : Int) = 0 by omega)]
      exact bmats_l0 o mt s p a4 a5 a6 ho (by omega) mt.length 0 (by omega)
theorem rmats_l1 (ho : o.length ≤ 12) (hm : mt.length ≤ 12) (R : Int) (hR : Ev (fun k => if (s.length : Int) = (o.length : Int) then rf_Check.l2 k 0 o mt s p a4 a5 a6 else some 1) R) :
    ∀ (m i : Nat), i + m = mt.length → Ev (fun k => rf_Check.l1 k ((mt.take i).map (·.f0)) (i : Int) o mt s p a4 a5 a6) (if matE mt o.length m i = 0 then R else matE mt o.length m i)
  | 0, i, hi => by
    apply Ev.step
    simp only [rf_Check.l1, if_neg (show ¬ (i : Int) < (mt.length : Int) by omega)]
    exact hR.cast (by simp [matE])
  | m + 1, i, hi => by
    have ih := rmats_l1 ho hm R hR m (i + 1) (by omega)
    have hlt : i < mt.length := by omega
    have hr : rd_T63 mt (i : Int) = mt[i] := by simp [rd_T63, hlt]
    have htk : (mt.take i).map (·.f0) ++ [(rd_T63 mt (i : Int)).f0] = (mt.take (i + 1)).map (·.f0) := by
      rw [hr, List.take_succ_eq_append_getElem hlt, List.map_append]; rfl
    apply Ev.step
    simp only [rf_Check.l1, if_pos (show (i : Int) < (mt.length : Int) by omega), if_pos (i_pos i), wrap_succ (i_pos i) (show (i : Int) ≤ 1000000000 by omega), htk]
    refine Ev.bind (rname _) ?_
    unfold matE
    by_cases h : nameOk (rd_T63 mt (i : Int)).f0 = true
    · simp only [if_pos h]
      have hany : (((mt.take i).map (·.f0)).any fun y => y.toList == (rd_T63 mt (i : Int)).f0.toList) = ((mt.take i).any fun x => x.f0.toList == (rd_T63 mt (i : Int)).f0.toList) := by rw [List.any_map]; rfl
      refine Ev.bind (rin _ _ (by simp; omega)) ?_
      rw [hany]
      by_cases h' : ((mt.take i).any fun x => x.f0.toList == (rd_T63 mt (i : Int)).f0.toList) = true
      · simp only [if_pos h']; exact (Ev.const _).cast (by simp)
      · simp only [if_neg h']
        have hlt8 : ((mt.take i).map (·.f0)).length < 8796093022208 := by rw [List.length_map, List.length_take]; omega
        simp only [if_pos hlt8]
        refine Ev.bind (rmat o mt s p a4 a5 a6 ho _) ?_
        by_cases h2 : matC o.length (rd_T63 mt (i : Int)) = 0
        · simp only [if_pos h2]; exact ih
        · simp only [if_neg h2]; exact Ev.const _
    · simp only [if_neg h]; exact (Ev.const _).cast (by simp)
theorem bpros_l0 (hp : p.length ≤ 6) (R : Int) (hR : Ev (fun _ => (batch_span.f a4 a5 (-10000) 10000).bind fun t147 => (if t147 = true then ((batch_within.f a6 1 10000).bind fun t148 => (if t148 = true then (some 0) else (some 1))) else (some 1))) R) :
    ∀ (m i : Nat), i + m = p.length → Ev (fun k => batch_Check.l0 k p (p.length : Int) (i : Int) o mt s p a4 a5 a6) (if proE p o.length m i = 0 then R else proE p o.length m i)
  | 0, i, hi => by
    apply Ev.step
    simp only [batch_Check.l0, if_neg (show ¬ (i : Int) < (p.length : Int) by omega)]
    exact hR.cast (by simp [proE])
  | m + 1, i, hi => by
    have ih := bpros_l0 hp R hR m (i + 1) (by omega)
    apply Ev.step
    simp only [batch_Check.l0, if_pos (show (i : Int) < (p.length : Int) by omega), if_pos (i_pos i), wrap_succ (i_pos i) (show (i : Int) ≤ 1000000000 by omega), x_twiceP.f, Int.toNat_natCast, Option.bind_some]
    refine Ev.bind (bname _) ?_
    unfold proE
    by_cases h : nameOk (rd_T65 p (i : Int)).f0 = true
    · simp only [if_pos h]
      by_cases h' : ((p.take i).any fun x => x.f0.toList == (rd_T65 p (i : Int)).f0.toList) = true
      · simp only [if_pos h']; exact (Ev.const _).cast (by simp)
      · simp only [if_neg h']
        refine Ev.bind (bpro o mt s p a4 a5 a6 _) ?_
        by_cases h2 : proC o.length (rd_T65 p (i : Int)) = 0
        · simp only [if_pos h2]; exact ih
        · simp only [if_neg h2]; exact Ev.const _
    · simp only [if_neg h]; exact (Ev.const _).cast (by simp)
theorem rpros_l3 (ho : o.length ≤ 12) (hp : p.length ≤ 6) (R : Int) (hR : Ev (fun _ => (rf_within.f a4 a5 (-10000) 10000).bind fun t264 => (if t264 = true then (if a6 < 1 then (some 1) else (if a6 > 10000 then (some 1) else (some 0))) else (some 1))) R) :
    ∀ (m i : Nat), i + m = p.length → Ev (fun k => rf_Check.l3 k ((p.take i).map (·.f0)) (i : Int) o mt s p a4 a5 a6) (if proE p o.length m i = 0 then R else proE p o.length m i)
  | 0, i, hi => by
    apply Ev.step
    simp only [rf_Check.l3, if_neg (show ¬ (i : Int) < (p.length : Int) by omega)]
    exact hR.cast (by simp [proE])
  | m + 1, i, hi => by
    have ih := rpros_l3 ho hp R hR m (i + 1) (by omega)
    have hlt : i < p.length := by omega
    have hr : rd_T65 p (i : Int) = p[i] := by simp [rd_T65, hlt]
    have htk : (p.take i).map (·.f0) ++ [(rd_T65 p (i : Int)).f0] = (p.take (i + 1)).map (·.f0) := by
      rw [hr, List.take_succ_eq_append_getElem hlt, List.map_append]; rfl
    apply Ev.step
    simp only [rf_Check.l3, if_pos (show (i : Int) < (p.length : Int) by omega), if_pos (i_pos i), wrap_succ (i_pos i) (show (i : Int) ≤ 1000000000 by omega), htk]
    refine Ev.bind (rname _) ?_
    unfold proE
    by_cases h : nameOk (rd_T65 p (i : Int)).f0 = true
    · simp only [if_pos h]
      have hany : (((p.take i).map (·.f0)).any fun y => y.toList == (rd_T65 p (i : Int)).f0.toList) = ((p.take i).any fun x => x.f0.toList == (rd_T65 p (i : Int)).f0.toList) := by rw [List.any_map]; rfl
      refine Ev.bind (rin _ _ (by simp; omega)) ?_
      rw [hany]
      by_cases h' : ((p.take i).any fun x => x.f0.toList == (rd_T65 p (i : Int)).f0.toList) = true
      · simp only [if_pos h']; exact (Ev.const _).cast (by simp)
      · simp only [if_neg h']
        have hlt8 : ((p.take i).map (·.f0)).length < 8796093022208 := by rw [List.length_map, List.length_take]; omega
        simp only [if_pos hlt8]
        refine Ev.bind (rpro o mt s p a4 a5 a6 ho _) ?_
        by_cases h2 : proC o.length (rd_T65 p (i : Int)) = 0
        · simp only [if_pos h2]; exact ih
        · simp only [if_neg h2]; exact Ev.const _
    · simp only [if_neg h]; exact (Ev.const _).cast (by simp)
end
end Go.Proofs.Ytkjkokgbhepmoaa.PB

namespace Go.Proofs.Ytkjkokgbhepmoaa.PB
open Go.RowKit Go.Proofs.YtkjkokgbhepmoaaW.PrintWords Go.Proofs.YtkjkokgbhepmoaaW.PrintLast Go.Proofs.YtkjkokgbhepmoaaW.PrintMore
section
variable (o : List ByteArray) (mt : List S63) (s : List S27) (p : List S65) (a4 a5 a6 : Int)
def endV : Int := if -10000 ≤ a4 ∧ a4 ≤ a5 ∧ a5 ≤ 10000 then (if 1 ≤ a6 ∧ a6 ≤ 10000 then 0 else 1) else 1
def proV : Int := if p.length > 6 then 3 else if proE p o.length p.length 0 = 0 then endV a4 a5 a6 else proE p o.length p.length 0
def shaV : Int := if s.length = o.length then (if s.any badSpan = true then 1 else proV o p a4 a5 a6) else 1
def matV : Int := if mt.length > 12 then 3 else if mt.length = 0 then 1 else if matE mt o.length mt.length 0 = 0 then shaV o s p a4 a5 a6 else matE mt o.length mt.length 0
def checkV : Int := if o.length > 12 then 3 else if o.length = 0 then 1 else if oxE o o.length 0 = 0 then matV o mt s p a4 a5 a6 else oxE o o.length 0
theorem bend : Ev (fun _ => (batch_span.f a4 a5 (-10000) 10000).bind fun t147 => (if t147 = true then ((batch_within.f a6 1 10000).bind fun t148 => (if t148 = true then (some 0) else (some 1))) else (some 1))) (endV a4 a5 a6) := by
  simp only [span_f, within_f, Option.bind_some, Bool.and_eq_true, decide_eq_true_eq]
  unfold endV
  by_cases h2 : -10000 ≤ a4 ∧ a4 ≤ a5 ∧ a5 ≤ 10000
  · have h2' : (-10000 ≤ a4 ∧ a4 ≤ a5) ∧ a5 ≤ 10000 := by omega
    simp only [if_pos h2', if_pos h2]
    by_cases h3 : 1 ≤ a6 ∧ a6 ≤ 10000
    · simp only [if_pos h3]; exact Ev.const _
    · simp only [if_neg h3]; exact Ev.const _
  · have h2' : ¬ ((-10000 ≤ a4 ∧ a4 ≤ a5) ∧ a5 ≤ 10000) := by omega
    simp only [if_neg h2', if_neg h2]; exact Ev.const _
theorem rend : Ev (fun _ => (rf_within.f a4 a5 (-10000) 10000).bind fun t264 => (if t264 = true then (if a6 < 1 then (some 1) else (if a6 > 10000 then (some 1) else (some 0))) else (some 1))) (endV a4 a5 a6) := by
  simp only [rwithin_f, Option.bind_some, Bool.and_eq_true, decide_eq_true_eq]
  unfold endV
  by_cases h2 : -10000 ≤ a4 ∧ a4 ≤ a5 ∧ a5 ≤ 10000
  · have h2' : (-10000 ≤ a4 ∧ a4 ≤ a5) ∧ a5 ≤ 10000 := by omega
    simp only [if_pos h2', if_pos h2]
    by_cases h3 : a6 < 1
    · simp only [if_pos h3]; exact (Ev.const _).cast (by rw [if_neg]; omega)
    · by_cases h4 : a6 > 10000
      · simp only [if_neg h3, if_pos h4]; exact (Ev.const _).cast (by rw [if_neg]; omega)
      · simp only [if_neg h3, if_neg h4]; exact (Ev.const _).cast (by rw [if_pos]; omega)
  · have h2' : ¬ ((-10000 ≤ a4 ∧ a4 ≤ a5) ∧ a5 ≤ 10000) := by omega
    simp only [if_neg h2', if_neg h2]; exact Ev.const _
theorem bj0 (b : Bool) : Ev (fun k => batch_Check.j0 k b o mt s p a4 a5 a6) (if b = true then 1 else proV o p a4 a5 a6) := by
  apply Ev.step
  simp only [batch_Check.j0]
  cases b with
  | true => simp only [if_true]; exact Ev.const _
  | false =>
    simp only [Bool.false_eq_true, if_false]
    unfold proV
    by_cases h : p.length > 6
    · simp only [if_pos h, if_pos (show (p.length : Int) > 6 by omega)]; exact Ev.const _
    · simp only [if_neg h, if_neg (show ¬ (p.length : Int) > 6 by omega)]
      exact bpros_l0 o mt s p a4 a5 a6 (by omega) _ (bend a4 a5 a6) p.length 0 (by omega)
theorem bcheck : Ev (fun k => batch_Check.f k o mt s p a4 a5 a6) (checkV o mt s p a4 a5 a6) := by
  unfold batch_Check.f
  refine Ev.bind (box_f o mt s p a4 a5 a6) ?_
  unfold checkV
  by_cases h : o.length > 12
  · simp only [if_pos h]; exact Ev.const _
  · by_cases h' : o.length = 0
    · simp only [if_neg h, if_pos h']; exact Ev.const _
    · simp only [if_neg h, if_neg h']
      by_cases h2 : oxE o o.length 0 = 0
      · simp only [if_pos h2]
        refine Ev.bind (bmats o mt s p a4 a5 a6 (by omega)) ?_
        unfold matV
        by_cases h3 : mt.length > 12
        · simp only [if_pos h3]; exact Ev.const _
        · by_cases h4 : mt.length = 0
          · simp only [if_neg h3, if_pos h4]; exact Ev.const _
          · simp only [if_neg h3, if_neg h4]
            by_cases h5 : matE mt o.length mt.length 0 = 0
            · simp only [if_pos h5]
              unfold shaV
              by_cases h6 : s.length = o.length
              · simp only [if_pos h6, if_pos (show (s.length : Int) = (o.length : Int) by omega), x_spans.f, Option.bind_some]
                exact bj0 o mt s p a4 a5 a6 _
              · simp only [if_neg h6, if_neg (show ¬ (s.length : Int) = (o.length : Int) by omega)]
                exact (bj0 o mt s p a4 a5 a6 true).cast (by simp)
            · simp only [if_neg h5]; exact Ev.const _
      · simp only [if_neg h2]; exact Ev.const _
theorem rsha_l2 (ho : s.length ≤ 12) (P : Int) (hP : Ev (fun k => if (p.length : Int) > 6 then some 3 else rf_Check.l3 k [] 0 o mt s p a4 a5 a6) P) :
    ∀ (m i : Nat), i + m = s.length → Ev (fun k => rf_Check.l2 k (i : Int) o mt s p a4 a5 a6) (if (s.drop i).any badSpan = true then 1 else P)
  | 0, i, hi => by
    apply Ev.step
    simp only [rf_Check.l2, if_neg (show ¬ (i : Int) < (s.length : Int) by omega)]
    have h3 : (s.drop i).any badSpan = false := by rw [List.drop_eq_nil_of_le (by omega)]; rfl
    exact hP.cast (by rw [h3]; simp)
  | m + 1, i, hi => by
    have ih := rsha_l2 ho P hP m (i + 1) (by omega)
    have hlt : i < s.length := by omega
    have hr : rd_T27 s (i : Int) = s[i] := by simp [rd_T27, hlt]
    apply Ev.step
    simp only [rf_Check.l2, if_pos (show (i : Int) < (s.length : Int) by omega), if_pos (i_pos i), wrap_succ (i_pos i) (show (i : Int) ≤ 1000000000 by omega), rwithin_bad, Option.bind_some, hr]
    rw [List.drop_eq_getElem_cons hlt, List.any_cons]
    cases h : badSpan s[i] with
    | true => simp only [Bool.not_true, Bool.false_eq_true, if_false, Bool.true_or, if_true]; exact Ev.const _
    | false => simp only [Bool.not_false, if_true, Bool.false_or]; exact ih
theorem rcheck : Ev (fun k => rf_Check.f k o mt s p a4 a5 a6) (checkV o mt s p a4 a5 a6) := by
  unfold rf_Check.f checkV
  by_cases h : o.length > 12
  · simp only [if_pos h, if_pos (show (o.length : Int) > 12 by omega)]; exact Ev.const _
  · by_cases h' : o.length = 0
    · simp only [if_neg h, if_neg (show ¬ (o.length : Int) > 12 by omega), if_pos h', if_pos (show (o.length : Int) = 0 by omega)]; exact Ev.const _
    · simp only [if_neg h, if_neg (show ¬ (o.length : Int) > 12 by omega), if_neg h', if_neg (show ¬ (o.length : Int) = 0 by omega)]
      refine rox_l0 o mt s p a4 a5 a6 (by omega) _ ?_ o.length 0 (by omega)
      unfold matV
      by_cases h3 : mt.length > 12
      · simp only [if_pos h3, if_pos (show (mt.length : Int) > 12 by omega)]; exact Ev.const _
      · by_cases h4 : mt.length = 0
        · simp only [if_neg h3, if_neg (show ¬ (mt.length : Int) > 12 by omega), if_pos h4, if_pos (show (mt.length : Int) = 0 by omega)]; exact Ev.const _
        · simp only [if_neg h3, if_neg (show ¬ (mt.length : Int) > 12 by omega), if_neg h4, if_neg (show ¬ (mt.length : Int) = 0 by omega)]
          refine rmats_l1 o mt s p a4 a5 a6 (by omega) (by omega) _ ?_ mt.length 0 (by omega)
          unfold shaV
          by_cases h6 : s.length = o.length
          · simp only [if_pos h6, if_pos (show (s.length : Int) = (o.length : Int) by omega)]
            refine (rsha_l2 o mt s p a4 a5 a6 (by omega) _ ?_ s.length 0 (by omega)).cast (by rw [List.drop_zero])
            unfold proV
            by_cases h7 : p.length > 6
            · simp only [if_pos h7, if_pos (show (p.length : Int) > 6 by omega)]; exact Ev.const _
            · simp only [if_neg h7, if_neg (show ¬ (p.length : Int) > 6 by omega)]
              exact rpros_l3 o mt s p a4 a5 a6 (by omega) (by omega) _ (rend a4 a5 a6) p.length 0 (by omega)
          · simp only [if_neg h6, if_neg (show ¬ (s.length : Int) = (o.length : Int) by omega)]; exact Ev.const _
end
theorem conE_ok (l : List S27) : ∀ (m i : Nat) (acc : Int), i + m = l.length → conE l m i acc = 0 → ∀ j : Nat, i ≤ j → j < l.length → badSpan (rd_T27 l (j : Int)) = false
  | 0, i, acc, hi, h, j, h1, h2 => by omega
  | m + 1, i, acc, hi, h, j, h1, h2 => by
    unfold conE at h
    by_cases hb : badSpan (rd_T27 l (i : Int)) = true
    · rw [if_pos hb] at h; omega
    · rw [if_neg hb] at h
      by_cases hj : j = i
      · subst hj; simpa using hb
      · exact conE_ok l m (i + 1) _ (by omega) h j (by omega) h2
structure MatOk (n : Nat) (x : S63) : Prop where
  price : 0 ≤ x.f1 ∧ x.f1 ≤ 10000
  redox : -1000 ≤ x.f2 ∧ x.f2 ≤ 1000
  least : 0 ≤ x.f3 ∧ x.f3 ≤ 10000
  most : x.f3 ≤ x.f4 ∧ x.f4 ≤ 10000
  step : 1 ≤ x.f5 ∧ x.f5 ≤ 10000
  len : x.f6.length = n
  con : ∀ j : Nat, j < n → 0 ≤ (rd_T27 x.f6 (j : Int)).f0 ∧ (rd_T27 x.f6 (j : Int)).f0 ≤ (rd_T27 x.f6 (j : Int)).f1 ∧ (rd_T27 x.f6 (j : Int)).f1 ≤ 1000
theorem matC_ok {n : Nat} {x : S63} (h : matC n x = 0) : MatOk n x := by
  unfold matC at h
  by_cases hc : (0 ≤ x.f1 ∧ x.f1 ≤ 10000) ∧ (-1000 ≤ x.f2 ∧ x.f2 ≤ 1000) ∧ (0 ≤ x.f3 ∧ x.f3 ≤ 10000) ∧ (x.f3 ≤ x.f4 ∧ x.f4 ≤ 10000) ∧ (1 ≤ x.f5 ∧ x.f5 ≤ 10000) ∧ x.f6.length = n
  · rw [if_pos hc] at h
    obtain ⟨h1, h2, h3, h4, h5, h6⟩ := hc
    exact ⟨h1, h2, h3, h4, h5, h6, fun j hj => bad_false (conE_ok x.f6 _ 0 0 (by omega) h j (by omega) (by omega))⟩
  · rw [if_neg hc] at h; omega
theorem matE_ok (mt : List S63) (n : Nat) : ∀ (m i : Nat), matE mt n m i = 0 → ∀ j : Nat, i ≤ j → j < i + m → MatOk n (rd_T63 mt (j : Int))
  | 0, i, h, j, h1, h2 => by omega
  | m + 1, i, h, j, h1, h2 => by
    unfold matE at h
    by_cases ha : nameOk (rd_T63 mt (i : Int)).f0 = true
    · rw [if_pos ha] at h
      by_cases hb : ((mt.take i).any fun x => x.f0.toList == (rd_T63 mt (i : Int)).f0.toList) = true
      · rw [if_pos hb] at h; omega
      · rw [if_neg hb] at h
        by_cases hc : matC n (rd_T63 mt (i : Int)) = 0
        · rw [if_pos hc] at h
          by_cases hj : j = i
          · subst hj; exact matC_ok hc
          · exact matE_ok mt n m (i + 1) h j (by omega) (by omega)
        · rw [if_neg hc] at h; exact absurd h hc
    · rw [if_neg ha] at h; omega
structure ProOk (n : Nat) (x : S65) : Prop where
  len : x.f1.length = n
  coef : ∀ j : Nat, j < n → -10000 ≤ rd x.f1 (j : Int) ∧ rd x.f1 (j : Int) ≤ 10000
  target : -10000 ≤ x.f2.f0 ∧ x.f2.f0 ≤ x.f2.f1 ∧ x.f2.f1 ≤ 10000
theorem proC_ok {n : Nat} {x : S65} (h : proC n x = 0) : ProOk n x := by
  unfold proC at h
  by_cases h1 : x.f1.length = n
  · rw [if_pos h1] at h
    by_cases h2 : x.f1.any (outside (-10000) 10000) = true
    · rw [if_pos h2] at h; omega
    · rw [if_neg h2] at h
      by_cases h3 : -10000 ≤ x.f2.f0 ∧ x.f2.f0 ≤ x.f2.f1 ∧ x.f2.f1 ≤ 10000
      · refine ⟨h1, fun j hj => ?_, h3⟩
        have hm : rd x.f1 (j : Int) ∈ x.f1 := by
          have hlt : j < x.f1.length := by omega
          have : rd x.f1 (j : Int) = x.f1[j] := by simp [rd, hlt]
          rw [this]; exact List.getElem_mem hlt
        have hn : outside (-10000) 10000 (rd x.f1 (j : Int)) = false := by
          cases ho : outside (-10000) 10000 (rd x.f1 (j : Int)) with
          | false => rfl
          | true => exact absurd (List.any_eq_true.mpr ⟨_, hm, ho⟩) h2
        simp [outside] at hn; omega
      · rw [if_neg h3] at h; omega
  · rw [if_neg h1] at h; omega
theorem proE_ok (p : List S65) (n : Nat) : ∀ (m i : Nat), proE p n m i = 0 → ∀ j : Nat, i ≤ j → j < i + m → ProOk n (rd_T65 p (j : Int))
  | 0, i, h, j, h1, h2 => by omega
  | m + 1, i, h, j, h1, h2 => by
    unfold proE at h
    by_cases ha : nameOk (rd_T65 p (i : Int)).f0 = true
    · rw [if_pos ha] at h
      by_cases hb : ((p.take i).any fun x => x.f0.toList == (rd_T65 p (i : Int)).f0.toList) = true
      · rw [if_pos hb] at h; omega
      · rw [if_neg hb] at h
        by_cases hc : proC n (rd_T65 p (i : Int)) = 0
        · rw [if_pos hc] at h
          by_cases hj : j = i
          · subst hj; exact proC_ok hc
          · exact proE_ok p n m (i + 1) h j (by omega) (by omega)
        · rw [if_neg hc] at h; exact absurd h hc
    · rw [if_neg ha] at h; omega
structure BatchOk (o : List ByteArray) (mt : List S63) (s : List S27) (p : List S65) (a4 a5 a6 : Int) : Prop where
  o12 : o.length ≤ 12
  o1 : o.length ≠ 0
  m12 : mt.length ≤ 12
  m1 : mt.length ≠ 0
  mats : ∀ j : Nat, j < mt.length → MatOk o.length (rd_T63 mt (j : Int))
  slen : s.length = o.length
  shares : ∀ j : Nat, j < s.length → 0 ≤ (rd_T27 s (j : Int)).f0 ∧ (rd_T27 s (j : Int)).f0 ≤ (rd_T27 s (j : Int)).f1 ∧ (rd_T27 s (j : Int)).f1 ≤ 1000
  p6 : p.length ≤ 6
  pros : ∀ j : Nat, j < p.length → ProOk o.length (rd_T65 p (j : Int))
  redox : -10000 ≤ a4 ∧ a4 ≤ a5 ∧ a5 ≤ 10000
  wanted : 1 ≤ a6 ∧ a6 ≤ 10000
theorem check_ok {o : List ByteArray} {mt : List S63} {s : List S27} {p : List S65} {a4 a5 a6 : Int} (h : checkV o mt s p a4 a5 a6 = 0) : BatchOk o mt s p a4 a5 a6 := by
  unfold checkV at h
  by_cases h1 : o.length > 12
  · rw [if_pos h1] at h; omega
  rw [if_neg h1] at h
  by_cases h2 : o.length = 0
  · rw [if_pos h2] at h; omega
  rw [if_neg h2] at h
  by_cases h3 : oxE o o.length 0 = 0
  rotate_left
  · rw [if_neg h3] at h; exact absurd h h3
  rw [if_pos h3] at h
  unfold matV at h
  by_cases h4 : mt.length > 12
  · rw [if_pos h4] at h; omega
  rw [if_neg h4] at h
  by_cases h5 : mt.length = 0
  · rw [if_pos h5] at h; omega
  rw [if_neg h5] at h
  by_cases h6 : matE mt o.length mt.length 0 = 0
  rotate_left
  · rw [if_neg h6] at h; exact absurd h h6
  rw [if_pos h6] at h
  unfold shaV at h
  by_cases h7 : s.length = o.length
  rotate_left
  · rw [if_neg h7] at h; omega
  rw [if_pos h7] at h
  by_cases h8 : s.any badSpan = true
  · rw [if_pos h8] at h; omega
  rw [if_neg h8] at h
  unfold proV at h
  by_cases h9 : p.length > 6
  · rw [if_pos h9] at h; omega
  rw [if_neg h9] at h
  by_cases h10 : proE p o.length p.length 0 = 0
  rotate_left
  · rw [if_neg h10] at h; exact absurd h h10
  rw [if_pos h10] at h
  unfold endV at h
  by_cases h11 : -10000 ≤ a4 ∧ a4 ≤ a5 ∧ a5 ≤ 10000
  rotate_left
  · rw [if_neg h11] at h; omega
  rw [if_pos h11] at h
  by_cases h12 : 1 ≤ a6 ∧ a6 ≤ 10000
  rotate_left
  · rw [if_neg h12] at h; omega
  refine ⟨by omega, h2, by omega, h5, fun j hj => matE_ok mt _ _ 0 h6 j (by omega) (by omega), h7, fun j hj => ?_, by omega, fun j hj => proE_ok p _ _ 0 h10 j (by omega) (by omega), h11, h12⟩
  have hlt : j < s.length := hj
  have hr : rd_T27 s (j : Int) = s[j] := by simp [rd_T27, hlt]
  rw [hr]
  apply bad_false
  cases hb : badSpan s[j] with
  | false => rfl
  | true => exact absurd (List.any_eq_true.mpr ⟨_, List.getElem_mem hlt, hb⟩) h8
end Go.Proofs.Ytkjkokgbhepmoaa.PB

namespace Go.Proofs.Ytkjkokgbhepmoaa.PB
open Go.RowKit Go.Proofs.YtkjkokgbhepmoaaW.PrintWords Go.Proofs.YtkjkokgbhepmoaaW.PrintLast Go.Proofs.YtkjkokgbhepmoaaW.PrintMore
theorem mx_max (a b : Int) : mx a b = max a b := by unfold mx; split <;> omega
theorem sumTo_congr {f g : Nat → Int} : ∀ n, (∀ j, j < n → f j = g j) → sumTo f n = sumTo g n := by
  intro n
  induction n with
  | zero => intro _; rfl
  | succ n ih => intro h; simp only [sumTo]; rw [ih fun j hj => h j (by omega), h n (by omega)]
theorem iotaA_at {n j : Nat} (h : j < n) : (iotaA n)[j]! = (j : Int) := by
  rw [getElem!_pos _ j (by rw [iotaA_size]; exact h)]; simp [iotaA]
theorem lsum_sumTo (f : Int → Int) (n : Nat) : MeanMath.lsum f (iotaA n).toList = sumTo (fun j => f (j : Int)) n := by
  have h := sumTo_lsum f (iotaA n) n (by rw [iotaA_size]; exact Nat.le_refl _)
  rw [List.take_of_length_le (by rw [Array.length_toList, iotaA_size]; exact Nat.le_refl _)] at h
  rw [← h]
  exact sumTo_congr n fun j hj => by rw [iotaA_at hj]
structure GOk (l : List S27) : Prop where
  n12 : l.length ≤ 12
  at_ : ∀ j : Nat, j < l.length → 0 ≤ (rd_T27 l (j : Int)).f0 ∧ (rd_T27 l (j : Int)).f0 ≤ (rd_T27 l (j : Int)).f1 ∧ (rd_T27 l (j : Int)).f1 ≤ 120000000
def wS (F : S27 → Int) (l : List S27) (i : Nat) : Int := sumTo (fun j => F (rd_T27 l (j : Int))) i
theorem wS_bounds {l : List S27} (H : GOk l) : ∀ i, i ≤ l.length → (0 ≤ wS S27.f0 l i ∧ wS S27.f0 l i ≤ 120000000 * i) ∧ (0 ≤ wS S27.f1 l i ∧ wS S27.f1 l i ≤ 120000000 * i) ∧ wS S27.f0 l i ≤ wS S27.f1 l i := by
  intro i
  induction i with
  | zero => intro _; simp [wS, sumTo]
  | succ i ih => intro hi; have h1 := ih (by omega); have h2 := H.at_ i (by omega); simp only [wS, sumTo] at *; omega
theorem rsums_l0 {l : List S27} (H : GOk l) : ∀ (m i : Nat), i + m = l.length → Ev (fun k => rf_sums.l0 k l (wS S27.f0 l i) (wS S27.f1 l i) (i : Int)) (wS S27.f0 l l.length, wS S27.f1 l l.length)
  | 0, i, hi => by
    apply Ev.step
    simp only [rf_sums.l0, if_neg (show ¬ (i : Int) < (l.length : Int) by omega)]
    rw [show i = l.length by omega]
    exact Ev.const _
  | m + 1, i, hi => by
    have ih := rsums_l0 H m (i + 1) (by omega)
    have hn := H.n12
    have hb := wS_bounds H i (by omega)
    have hc := H.at_ i (by omega)
    apply Ev.step
    simp only [rf_sums.l0, if_pos (show (i : Int) < (l.length : Int) by omega), if_pos (i_pos i), wrap_succ (i_pos i) (show (i : Int) ≤ 1000000000 by omega)]
    rw [wrap_id (x := wS S27.f0 l i + (rd_T27 l (i : Int)).f0) (by omega) (by omega), wrap_id (x := wS S27.f1 l i + (rd_T27 l (i : Int)).f1) (by omega) (by omega)]
    exact ih
theorem rsums {l : List S27} (H : GOk l) : Ev (fun k => rf_sums.f k l) (wS S27.f0 l l.length, wS S27.f1 l l.length) := rsums_l0 H l.length 0 (by omega)
structure CfOk (cf : Int → Int) (n : Nat) : Prop where
  at_ : ∀ j : Nat, j < n → -10000 ≤ cf (j : Int) ∧ cf (j : Int) ≤ 10000
def bT (cf : Int → Int) (l : List S27) (m : Int) (j : Nat) : Int := max ((m - cf j) * (rd_T27 l (j : Int)).f0) ((m - cf j) * (rd_T27 l (j : Int)).f1)
theorem belowS_sum (cf : Int → Int) (l : List S27) (m : Int) : belowS cf l m = sumTo (bT cf l m) l.length := lsum_sumTo _ _
def aT (cf : Int → Int) (l : List S27) (m : Int) (j : Nat) : Int := max ((cf j - m) * (rd_T27 l (j : Int)).f0) ((cf j - m) * (rd_T27 l (j : Int)).f1)
theorem aboveS_sum (cf : Int → Int) (l : List S27) (m : Int) : aboveS cf l m = sumTo (aT cf l m) l.length := by
  refine (lsum_sumTo _ _).trans (sumTo_congr _ fun j _ => ?_)
  unfold aT loF hiF
  dsimp only
  rw [show -m - -cf (j : Int) = cf (j : Int) - m by omega]
theorem mulb {c x : Int} (h1 : -30000 ≤ c) (h2 : c ≤ 30000) (h3 : 0 ≤ x) (h4 : x ≤ 120000000) : -3600000000000 ≤ c * x ∧ c * x ≤ 3600000000000 := by
  have e1 := Int.mul_le_mul_of_nonneg_right h1 h3
  have e2 := Int.mul_le_mul_of_nonneg_right h2 h3
  omega
theorem bT_bound {cf : Int → Int} {l : List S27} (H : GOk l) (C : CfOk cf l.length) {m : Int} (h1 : -10001 ≤ m) (h2 : m ≤ 10001) : ∀ j, j < l.length → -3600000000000 ≤ bT cf l m j ∧ bT cf l m j ≤ 3600000000000 := by
  intro j hj
  have a1 := H.at_ j hj
  have a2 := C.at_ j hj
  have b1 := mulb (c := m - cf j) (x := (rd_T27 l (j : Int)).f0) (by omega) (by omega) (by omega) (by omega)
  have b2 := mulb (c := m - cf j) (x := (rd_T27 l (j : Int)).f1) (by omega) (by omega) (by omega) (by omega)
  unfold bT
  omega
theorem aT_bound {cf : Int → Int} {l : List S27} (H : GOk l) (C : CfOk cf l.length) {m : Int} (h1 : -10001 ≤ m) (h2 : m ≤ 10001) : ∀ j, j < l.length → -3600000000000 ≤ aT cf l m j ∧ aT cf l m j ≤ 3600000000000 := by
  intro j hj
  have a1 := H.at_ j hj
  have a2 := C.at_ j hj
  have b1 := mulb (c := cf j - m) (x := (rd_T27 l (j : Int)).f0) (by omega) (by omega) (by omega) (by omega)
  have b2 := mulb (c := cf j - m) (x := (rd_T27 l (j : Int)).f1) (by omega) (by omega) (by omega) (by omega)
  unfold aT
  omega
theorem rbelow_l0 {cf : Int → Int} {l : List S27} {c : List Int} (H : GOk l) (C : CfOk cf l.length) (hl : l.length ≤ c.length) (hc : ∀ j : Nat, j < l.length → rd c (j : Int) = cf (j : Int)) {m : Int} (h1 : -10001 ≤ m) (h2 : m ≤ 10001) :
    ∀ (n i : Nat), i + n = l.length → Ev (fun k => rf_below.l0 k c l m (sumTo (bT cf l m) i) (i : Int)) (belowS cf l m)
  | 0, i, hi => by
    apply Ev.step
    simp only [rf_below.l0, if_neg (show ¬ (i : Int) < (l.length : Int) by omega)]
    rw [show i = l.length by omega, belowS_sum]
    exact Ev.const _
  | n + 1, i, hi => by
    have ih := rbelow_l0 H C hl hc h1 h2 n (i + 1) (by omega)
    have hn := H.n12
    have hlt : i < l.length := by omega
    have a1 := H.at_ i hlt
    have a2 := C.at_ i hlt
    have b1 := mulb (c := m - cf i) (x := (rd_T27 l (i : Int)).f0) (by omega) (by omega) (by omega) (by omega)
    have b2 := mulb (c := m - cf i) (x := (rd_T27 l (i : Int)).f1) (by omega) (by omega) (by omega) (by omega)
    have b3 := bT_bound H C h1 h2 i hlt
    have b4 := sumTo_bound (f := bT cf l m) (M := 3600000000000) (n := l.length) (bT_bound H C h1 h2) i (by omega)
    have e : wrap64 (sumTo (bT cf l m) i + mx (wrap64 (wrap64 (m - rd c (i : Int)) * (rd_T27 l (i : Int)).f0)) (wrap64 (wrap64 (m - rd c (i : Int)) * (rd_T27 l (i : Int)).f1))) = sumTo (bT cf l m) (i + 1) := by
      rw [hc i hlt, wrap_id (x := m - cf i) (by omega) (by omega), wrap_id (x := (m - cf i) * (rd_T27 l (i : Int)).f0) (by omega) (by omega), wrap_id (x := (m - cf i) * (rd_T27 l (i : Int)).f1) (by omega) (by omega), mx_max]
      show wrap64 (sumTo (bT cf l m) i + bT cf l m i) = _
      rw [wrap_id (by omega) (by omega)]
      rfl
    apply Ev.step
    simp only [rf_below.l0, if_pos (show (i : Int) < (l.length : Int) by omega), if_pos (i_pos i), if_pos (show (i : Int) < (c.length : Int) by omega), wrap_succ (i_pos i) (show (i : Int) ≤ 1000000000 by omega), e]
    exact ih
theorem rabove_l0 {cf : Int → Int} {l : List S27} {c : List Int} (H : GOk l) (C : CfOk cf l.length) (hl : l.length ≤ c.length) (hc : ∀ j : Nat, j < l.length → rd c (j : Int) = cf (j : Int)) {m : Int} (h1 : -10001 ≤ m) (h2 : m ≤ 10001) :
    ∀ (n i : Nat), i + n = l.length → Ev (fun k => rf_above.l0 k c l m (sumTo (aT cf l m) i) (i : Int)) (aboveS cf l m)
  | 0, i, hi => by
    apply Ev.step
    simp only [rf_above.l0, if_neg (show ¬ (i : Int) < (l.length : Int) by omega)]
    rw [show i = l.length by omega, aboveS_sum]
    exact Ev.const _
  | n + 1, i, hi => by
    have ih := rabove_l0 H C hl hc h1 h2 n (i + 1) (by omega)
    have hn := H.n12
    have hlt : i < l.length := by omega
    have a1 := H.at_ i hlt
    have a2 := C.at_ i hlt
    have b1 := mulb (c := cf i - m) (x := (rd_T27 l (i : Int)).f0) (by omega) (by omega) (by omega) (by omega)
    have b2 := mulb (c := cf i - m) (x := (rd_T27 l (i : Int)).f1) (by omega) (by omega) (by omega) (by omega)
    have b3 := aT_bound H C h1 h2 i hlt
    have b4 := sumTo_bound (f := aT cf l m) (M := 3600000000000) (n := l.length) (aT_bound H C h1 h2) i (by omega)
    have e : wrap64 (sumTo (aT cf l m) i + mx (wrap64 (wrap64 (rd c (i : Int) - m) * (rd_T27 l (i : Int)).f0)) (wrap64 (wrap64 (rd c (i : Int) - m) * (rd_T27 l (i : Int)).f1))) = sumTo (aT cf l m) (i + 1) := by
      rw [hc i hlt, wrap_id (x := cf i - m) (by omega) (by omega), wrap_id (x := (cf i - m) * (rd_T27 l (i : Int)).f0) (by omega) (by omega), wrap_id (x := (cf i - m) * (rd_T27 l (i : Int)).f1) (by omega) (by omega), mx_max]
      show wrap64 (sumTo (aT cf l m) i + aT cf l m i) = _
      rw [wrap_id (by omega) (by omega)]
      rfl
    apply Ev.step
    simp only [rf_above.l0, if_pos (show (i : Int) < (l.length : Int) by omega), if_pos (i_pos i), if_pos (show (i : Int) < (c.length : Int) by omega), wrap_succ (i_pos i) (show (i : Int) ≤ 1000000000 by omega), e]
    exact ih
section
variable {cf : Int → Int} {l : List S27} {c : List Int} (H : GOk l) (C : CfOk cf l.length) (hp : 0 < wS S27.f0 l l.length) (hl : l.length ≤ c.length) (hc : ∀ j : Nat, j < l.length → rd c (j : Int) = cf (j : Int))
include H C hp hl hc
end
end Go.Proofs.Ytkjkokgbhepmoaa.PB

namespace Go.Proofs.Ytkjkokgbhepmoaa.PB
open Go.RowKit Go.Proofs.YtkjkokgbhepmoaaW.PrintWords Go.Proofs.YtkjkokgbhepmoaaW.PrintLast Go.Proofs.YtkjkokgbhepmoaaW.PrintMore
theorem Ev.of_mono {α : Type} {f : Nat → Option α} {v : α} (hm : ∀ k, LeO (f k) (f (k + 1))) {K : Nat} (h : f K = some v) : Ev f v := by
  refine ⟨K, fun k hk => ?_⟩
  obtain ⟨d, rfl⟩ : ∃ d, k = K + d := ⟨k - K, by omega⟩
  induction d with
  | zero => exact h
  | succ d ih => exact hm (K + d) v (ih (by omega))
section
variable (o : List ByteArray) (mt : List S63) (s : List S27) (p : List S65) (a4 a5 a6 : Int) (r : List Int)
end
section
variable {o : List ByteArray} {mt : List S63} {s : List S27} {p : List S65} {a4 a5 a6 : Int} {r : List Int}
end
section
variable (o : List ByteArray) (mt : List S63) (s : List S27) (p : List S65) (a4 a5 a6 : Int) (r : List Int)
end
def formL (n : Nat) (s : List S27) (i : Nat) : List S65 := (List.range i).map fun j : Nat => ⟨(⟨#[]⟩ : ByteArray), (List.replicate n 0).set j 1000, ⟨(rd_T27 s (j : Int)).f0, (rd_T27 s (j : Int)).f1⟩⟩
theorem formL_succ (n : Nat) (s : List S27) (i : Nat) : formL n s (i + 1) = formL n s i ++ [⟨(⟨#[]⟩ : ByteArray), (List.replicate n 0).set i 1000, ⟨(rd_T27 s (i : Int)).f0, (rd_T27 s (i : Int)).f1⟩⟩] := by simp [formL, List.range_succ]
theorem formL_len (n : Nat) (s : List S27) (i : Nat) : (formL n s i).length = i := by simp [formL]
theorem unit_rd (n i j : Nat) (hj : j < n) : rd ((List.replicate n 0).set i 1000) (j : Int) = unitC i (j : Int) := by
  unfold rd unitC
  by_cases h : i = j
  · subst h; simp [List.getD, hj]
  · have : ¬ ((j : Int) = (i : Int)) := by omega
    simp [List.getD, List.getElem?_set, h, hj, this]
section
variable {o : List ByteArray} {mt : List S63} {s : List S27} {p : List S65} {a4 a5 a6 : Int} {r : List Int}
theorem rforms_l0 (H : BatchOk o mt s p a4 a5 a6) : ∀ (m i : Nat), i + m = o.length → Ev (fun k => rf_Forms.l0 k (formL o.length s i) (i : Int) o mt s p a4 a5 a6) (formL o.length s o.length ++ p)
  | 0, i, hi => by
    have ho := H.o12
    have hp := H.p6
    have hl := formL_len o.length s i
    apply Ev.step
    simp only [rf_Forms.l0, if_neg (show ¬ (i : Int) < (o.length : Int) by omega), if_pos (show (formL o.length s i).length + p.length < 2513169434916 by omega)]
    rw [show i = o.length by omega]
    exact Ev.const _
  | m + 1, i, hi => by
    have ih := rforms_l0 H m (i + 1) (by omega)
    have ho := H.o12
    have hs := H.slen
    have hl := formL_len o.length s i
    apply Ev.step
    simp only [rf_Forms.l0, if_pos (show (i : Int) < (o.length : Int) by omega), if_pos (i_pos o.length), Int.toNat_natCast, if_pos (show o.length ≤ 35184372088832 by omega), Option.bind_some, if_pos (i_pos i), if_pos (show (i : Int) < (s.length : Int) by omega), List.length_replicate,
      if_pos (show (formL o.length s i).length < 2513169434916 by omega), wrap_succ (i_pos i) (show (i : Int) ≤ 1000000000 by omega)]
    rw [formL_succ] at ih
    exact ih
theorem rforms (H : BatchOk o mt s p a4 a5 a6) : Ev (fun k => rf_Forms.f k o mt s p a4 a5 a6) (formL o.length s o.length ++ p) := rforms_l0 H o.length 0 (by omega)
end
section
variable (o : List ByteArray) (mt : List S63) (s : List S27) (p : List S65) (a4 a5 a6 : Int) (r : List Int)
end
end Go.Proofs.Ytkjkokgbhepmoaa.PB

namespace Go.Proofs.Ytkjkokgbhepmoaa.PB
open Go.RowKit Go.Proofs.YtkjkokgbhepmoaaW.PrintWords Go.Proofs.YtkjkokgbhepmoaaW.PrintLast Go.Proofs.YtkjkokgbhepmoaaW.PrintMore
section
variable {o : List ByteArray} {mt : List S63} {s : List S27} {p : List S65} {a4 a5 a6 : Int} {r : List Int}
end
section
variable (o : List ByteArray) (mt : List S63) (s : List S27) (p : List S65) (a4 a5 a6 : Int) (r : List Int)
end
section
variable (o : List ByteArray) (mt : List S63) (s : List S27) (p : List S65) (a4 a5 a6 : Int)
theorem great_l2 (hp : p.length ≤ 20) : ∀ (m i : Nat) (x : Int), i + m = p.length → ∃ b, Ev (fun k => lw_Great.l2 k x (i : Int) o mt s p a4 a5 a6) b
  | 0, i, x, hi => by
    refine ⟨decide (x > 2000), ?_⟩
    apply Ev.step
    simp only [lw_Great.l2, if_neg (show ¬ (i : Int) < (p.length : Int) by omega)]
    exact Ev.const _
  | m + 1, i, x, hi => by
    obtain ⟨b, ih⟩ := great_l2 hp m (i + 1) (wrap64 (x + ((rd_T65 p (i : Int)).f0.size : Int))) (by omega)
    by_cases h : (((rd_T65 p (i : Int)).f1).length : Int) > 20
    · refine ⟨true, ?_⟩
      apply Ev.step
      simp only [lw_Great.l2, if_pos (show (i : Int) < (p.length : Int) by omega), if_pos (i_pos i), if_pos h]
      exact Ev.const _
    · refine ⟨b, ?_⟩
      apply Ev.step
      simp only [lw_Great.l2, if_pos (show (i : Int) < (p.length : Int) by omega), if_pos (i_pos i), if_neg h, wrap_succ (i_pos i) (show (i : Int) ≤ 1000000000 by omega)]
      exact ih
theorem great_l1 (hm : mt.length ≤ 20) (hp : p.length ≤ 20) : ∀ (m i : Nat) (x : Int), i + m = mt.length → ∃ b, Ev (fun k => lw_Great.l1 k x (i : Int) o mt s p a4 a5 a6) b
  | 0, i, x, hi => by
    obtain ⟨b, hb⟩ := great_l2 o mt s p a4 a5 a6 hp p.length 0 x (by omega)
    refine ⟨b, ?_⟩
    apply Ev.step
    simp only [lw_Great.l1, if_neg (show ¬ (i : Int) < (mt.length : Int) by omega)]
    exact hb
  | m + 1, i, x, hi => by
    obtain ⟨b, ih⟩ := great_l1 hm hp m (i + 1) (wrap64 (x + ((rd_T63 mt (i : Int)).f0.size : Int))) (by omega)
    by_cases h : (((rd_T63 mt (i : Int)).f6).length : Int) > 20
    · refine ⟨true, ?_⟩
      apply Ev.step
      simp only [lw_Great.l1, if_pos (show (i : Int) < (mt.length : Int) by omega), if_pos (i_pos i), if_pos h]
      exact Ev.const _
    · refine ⟨b, ?_⟩
      apply Ev.step
      simp only [lw_Great.l1, if_pos (show (i : Int) < (mt.length : Int) by omega), if_pos (i_pos i), if_neg h, wrap_succ (i_pos i) (show (i : Int) ≤ 1000000000 by omega)]
      exact ih
theorem great_l0 (ho : o.length ≤ 20) (hm : mt.length ≤ 20) (hp : p.length ≤ 20) : ∀ (m i : Nat) (x : Int), i + m = o.length → ∃ b, Ev (fun k => lw_Great.l0 k x (i : Int) o mt s p a4 a5 a6) b
  | 0, i, x, hi => by
    obtain ⟨b, hb⟩ := great_l1 o mt s p a4 a5 a6 hm hp mt.length 0 x (by omega)
    refine ⟨b, ?_⟩
    apply Ev.step
    simp only [lw_Great.l0, if_neg (show ¬ (i : Int) < (o.length : Int) by omega)]
    exact hb
  | m + 1, i, x, hi => by
    obtain ⟨b, ih⟩ := great_l0 ho hm hp m (i + 1) (wrap64 (x + ((rdOf ByteArray.empty o (i : Int)).size : Int))) (by omega)
    refine ⟨b, ?_⟩
    apply Ev.step
    simp only [lw_Great.l0, if_pos (show (i : Int) < (o.length : Int) by omega), if_pos (i_pos i), wrap_succ (i_pos i) (show (i : Int) ≤ 1000000000 by omega)]
    exact ih
theorem great : ∃ b, Ev (fun k => lw_Great.f k o mt s p a4 a5 a6) b := by
  have ht : Ev (fun k => lw_Great.j0 k true o mt s p a4 a5 a6) true := by
    apply Ev.step
    simp only [lw_Great.j0, if_true]
    exact Ev.const _
  unfold lw_Great.f
  by_cases h1 : (o.length : Int) > 20
  · simp only [if_pos h1]; exact ⟨_, ht⟩
  by_cases h2 : (mt.length : Int) > 20
  · simp only [if_neg h1, if_pos h2]; exact ⟨_, ht⟩
  by_cases h3 : (s.length : Int) > 20
  · simp only [if_neg h1, if_neg h2, if_pos h3]; exact ⟨_, ht⟩
  simp only [if_neg h1, if_neg h2, if_neg h3]
  by_cases h4 : (p.length : Int) > 20
  · rw [show decide ((p.length : Int) > 20) = true by simpa using h4]; exact ⟨_, ht⟩
  · rw [show decide ((p.length : Int) > 20) = false by simpa using h4]
    obtain ⟨b, hb⟩ := great_l0 o mt s p a4 a5 a6 (by omega) (by omega) (by omega) o.length 0 0 (by omega)
    refine ⟨b, ?_⟩
    apply Ev.step
    simp only [lw_Great.j0, Bool.false_eq_true, if_false]
    exact hb
theorem wide_ev (l0 l1 : List Int) (a2 a3 a4 : Int) (l5 : List Int) : ∃ b, lw_wide.f l0 l1 a2 a3 a4 l5 = some b := by
  unfold lw_wide.f
  split
  · exact ⟨_, rfl⟩
  · split <;> exact ⟨_, rfl⟩
end
theorem lives_ev : Ev (fun k => lw_lives.f k) true := by
  refine Ev.of_mono (f := fun k => lw_lives.f k) (K := 60) (fun k => lw_lives.mono k) ?_
  kernel_rfl
section
variable (o : List ByteArray) (mt : List S63) (s : List S27) (p : List S65) (a4 a5 a6 : Int) (r l1 : List Int) (n b3 b4 : Int) (l5 : List Int)
end
end Go.Proofs.Ytkjkokgbhepmoaa.PB

namespace Go.Proofs.Ytkjkokgbhepmoaa.PB
open Go.RowKit Go.Proofs.YtkjkokgbhepmoaaW.PrintWords Go.Proofs.YtkjkokgbhepmoaaW.PrintLast Go.Proofs.YtkjkokgbhepmoaaW.PrintMore
attribute [local go_sem] max2_int min2_int max_two min_two max_three min_three max_four min_four
def batch_ends.l0 : Nat → Int → Int → List (S27) → Int → Int → Option (Int × Int)
 | 0, _, _, _, _, _ => none
 | k + 1, x2, x3, x7, x8, x9 => if x9 < x8 then (if 0 ≤ x9 then (if x9 < (x7.length : Int) then (batch_ends.l0 k (wrap64 (x2 + ((rd_T27 x7 x9).f0))) (wrap64 (x3 + ((rd_T27 x7 x9).f1))) x7 x8 (wrap64 (x9 + 1))) else (none)) else (none)) else (some (x2, x3))
def batch_ends.f (k : Nat) (a0_0 : ByteArray) (a0_1 : Int) (a0_2 : Int) (a0_3 : Int) (a0_4 : Int) (a0_5 : Int) (l0_6 : List (S27)) : Option (Int × Int) := batch_ends.l0 k 0 0 l0_6 (l0_6.length : Int) 0
set_option maxHeartbeats 8000000 in
set_option maxRecDepth 100000 in
theorem batch_ends.calls (k : Nat) (a0_0 : ByteArray) (a0_1 : Int) (a0_2 : Int) (a0_3 : Int) (a0_4 : Int) (a0_5 : Int) (A0_6 : Option Addr) (c0_6 : Nat) (l0_6 : List (S27)) (r1 : Int) (r2 : Int) (w : World) (hr0_6 : Kd.C k27 w A0_6 l0_6.length l0_6) (hc0_6 : l0_6.length ≤ c0_6) (h : batch_ends.f k a0_0 a0_1 a0_2 a0_3 a0_4 a0_5 l0_6 = some (r1, r2)) :
  Calls Try.prog 119 #[.agg #[.string a0_0, .int .i64 a0_1, .int .i64 a0_2, .int .i64 a0_3, .int .i64 a0_4, .int .i64 a0_5, .slice A0_6 l0_6.length c0_6]] w fun e w' => e = .returned (.tuple #[.int .i64 r1, .int .i64 r2]) ∧ Below w.heap.size w w' := by
 have hu63 := Try.underlying63; have hu27 := Try.underlying27; have HR0_6 := Sd.mk hr0_6; have HC0_6 := Sd.mk hc0_6; clear hr0_6 hc0_6; have HB := Sd.mk (Below.refl w.heap.size w)
 have H : (batch_ends.l0 k 0 0 l0_6 (l0_6.length : Int) 0) = some (r1, r2) := h
 clear h; have H' := Sd.mk H; clear H
 go_enter Try.func119, Try.ntmps119
 go_wp2_with (first | ((with_reducible refine gate_dst (N := 1) rfl ?_); refine box_event ?hg (N := 1) ?hd (cs := #[.string a0_0, .int .i64 a0_1, .int .i64 a0_2, .int .i64 a0_3, .int .i64 a0_4, .int .i64 a0_5, .slice A0_6 l0_6.length c0_6]) (t := 63) ?hr ?_; (case hd => rfl); (case hg => rfl); (case hr => exact tG); intro gb621 hg w2 hbox hb; have BK621 := Sd.mk (hbox); have GW621 := Sd.mk (bSz hg (bBl HB.out)); have GE621 := Sd.mk (bSz hg (bBl HB.out)); replace HB := Sd.mk (below_step (bBl HB.out) hb); clear hb hbox hg; obtain ⟨u3_0, u3_1, u3_2, u3_3, u3_4, u3_5, u3_6, o3_0, o3_1, o3_2, o3_3, o3_4, o3_5, o3_6⟩ := bc7 (w := w2) BK621.out))
 go_loopg [2, 3, 9] k (fun kq v2 v3 v9 w' => ∃ (x2_1 : Int) (x3_1 : Int) (x9_1 : Int), v2 = .int .i64 x2_1 ∧ v3 = .int .i64 x3_1 ∧ v9 = .int .i64 x9_1 ∧ Sd (batch_ends.l0 kq x2_1 x3_1 l0_6 (l0_6.length : Int) x9_1 = some (r1, r2)) ∧ Sd (kq ≤ k) ∧ Sd (w'.heap[gb621]? = some (.cells #[.string a0_0, .int .i64 a0_1, .int .i64 a0_2, .int .i64 a0_3, .int .i64 a0_4, .int .i64 a0_5, (.slice A0_6 l0_6.length c0_6)] 63 (0, 0))) ∧ Sd (Below w.heap.size w w'))
 case atStart => exact ⟨(0), (0), (0), tS, tS, tS, H', ⟨Nat.le_refl _⟩, ⟨bkA BK621.out⟩, ⟨bBl HB.out⟩⟩
 case round =>
  clear H'; (try clear c1); (try clear p2); (try clear u3_0 u3_1 u3_2 u3_3 u3_4 u3_5 u3_6); (try clear o3_0 o3_1 o3_2 o3_3 o3_4 o3_5 o3_6); obtain ⟨x2_1, x3_1, x9_1, rfl, rfl, rfl, HA, HK1, BK621, HB⟩ := hrel
  cases gk with
  | zero => exact absurd HA.out (by simp [batch_ends.l0])
  | succ k1 =>
   have H := HA.out; clear HA
   simp only [batch_ends.l0] at H
   by_cases c4 : x9_1 < (l0_6.length : Int)
   ·rw [if_pos c4] at H
    have c4b0 : decide (x9_1 < (l0_6.length : Int)) = true := decide_eq_true c4
    clear c4
    by_cases c5 : 0 ≤ x9_1
    ·rw [if_pos c5] at H
     have c5b0 : decide (0 ≤ x9_1) = true := decide_eq_true c5
     clear c5
     by_cases c6 : x9_1 < (l0_6.length : Int)
     ·rw [if_pos c6] at H
      have c6b0 : decide (x9_1 < (l0_6.length : Int)) = true := decide_eq_true c6
      clear c6; have H' := Sd.mk H; clear H
      have p622 : 0 ≤ (x9_1 : Int) := tB
      have q622 : x9_1 < (l0_6.length : Int) := tB
      obtain ⟨ad622, e622, hx622_0, hx622_1⟩ := at_T27 HR0_6.out x9_1 p622 q622; cases e622; replace hx622_0 := cU HB hx622_0; replace hx622_1 := cU HB hx622_1; replace p622 := eq_true p622; replace q622 := eq_true q622
      go_wp2_with (first | ((with_reducible refine gate_dst (N := 5) rfl ?_); refine box_event ?hg (N := 5) ?hd (cs := #[.int .i64 0, .int .i64 0]) (t := 27) ?hr ?_; (case hd => rfl); (case hg => rfl); (case hr => exact tG); intro gb623 hg w7 hbox hb; have BK623 := Sd.mk (hbox); have GW623 := Sd.mk (bSz hg (bBl HB.out)); have GE623 := Sd.mk (bSz hg (bBl HB.out)); replace HB := Sd.mk (below_step (bBl HB.out) hb); have NB621_623 := Sd.mk (bNl hg (bkA BK621.out)); have NB623_621 := Sd.mk (bNg hg (bkA BK621.out)); replace BK621 := Sd.mk (blk_below (bkA BK621.out) hb); clear hb hbox hg; have hnb8 := NB623_621.out; have hnc8 := NB621_623.out; obtain ⟨u9_0, u9_1, o9_0, o9_1⟩ := bc2 (w := w7) BK623.out))
      go_roundg k1
      case measure => have := HK1.out; omega
      case rel => exact ⟨(wrap64 (x2_1 + ((rd_T27 l0_6 x9_1).f0))), (wrap64 (x3_1 + ((rd_T27 l0_6 x9_1).f1))), (wrap64 (x9_1 + 1)), tS, tS, tS, H', ⟨by have := HK1.out; omega⟩, ⟨by (with_reducible repeat (first | refine blk_drewN ?_ _ | refine blk_drew ?_ | refine blk_alloc ?_ _)); refine blk_far ?_ NB621_623.out _; (with_reducible repeat (first | refine blk_drewN ?_ _ | refine blk_drew ?_ | refine blk_alloc ?_ _)); refine blk_far ?_ NB621_623.out _; (with_reducible repeat (first | refine blk_drewN ?_ _ | refine blk_drew ?_ | refine blk_alloc ?_ _)); exact BK621.out⟩, ⟨bBl HB.out⟩⟩
     ·rw [if_neg c6] at H
      exact absurd H (by simp)
    ·rw [if_neg c5] at H
     exact absurd H (by simp)
   ·rw [if_neg c4] at H
    have c4b0 : decide (x9_1 < (l0_6.length : Int)) = false := decide_eq_false c4
    clear c4
    simp only [Option.some.injEq, Prod.mk.injEq] at H
    obtain ⟨rfl, rfl⟩ := H
    go_wp2
    go_ret2
    exact ⟨tE, bBl HB.out⟩
end Go.Proofs.Ytkjkokgbhepmoaa.PB

