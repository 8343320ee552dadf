import Derived.Test.YtljfljekcpdpiaaGreatG3
set_option linter.unusedVariables false
set_option linter.unusedSimpArgs false
set_option maxHeartbeats 8000000
set_option maxRecDepth 1000000
namespace Go.Proofs.YtljfljekcpdpiaaGreat.PB
open Go.RowKit Go.Proofs.YtljfljekcpdpiaaGreatW.PrintWords Go.Proofs.YtljfljekcpdpiaaGreatW.PrintLast Go.Proofs.YtljfljekcpdpiaaGreatW.PrintMore
section
mutual
def rf_Check.l0 : Nat → Int → List ByteArray → List (S70) → List (S27) → List (S89) → Int → Int → Int → Option (Int)
 | 0, _, _, _, _, _, _, _, _ => none
 | k + 1, x3, x239q0, x239q1, x239q2, x239q3, x239q4, x239q5, x239q6 => if x3 < (x239q0.length : Int) then (if 0 ≤ x3 then ((rf_Name.f k (rdOf ByteArray.empty x239q0 x3)).bind fun t240 => (if t240 = true then (if x3 ≤ (x239q0.length : Int) then ((rf_in.f k (x239q0.take (x3 : Int).toNat) (rdOf ByteArray.empty x239q0 x3)).bind fun t243 => (if t243 = true then (some 6) else (rf_Check.l0 k (wrap64 (x3 + 1)) x239q0 x239q1 x239q2 x239q3 x239q4 x239q5 x239q6))) else (none)) else (some 5))) else (none)) else (if (x239q1.length : Int) > 12 then (some 3) else (if (x239q1.length : Int) = 0 then (some 1) else (rf_Check.l1 k ([] : List ByteArray) 0 x239q0 x239q1 x239q2 x239q3 x239q4 x239q5 x239q6)))
def rf_Check.l1 : Nat → List ByteArray → Int → List ByteArray → List (S70) → List (S27) → List (S89) → Int → Int → Int → Option (Int)
 | 0, _, _, _, _, _, _, _, _, _ => none
 | k + 1, x4, x5, x239q0, x239q1, x239q2, x239q3, x239q4, x239q5, x239q6 => if x5 < (x239q1.length : Int) then (if 0 ≤ x5 then ((rf_Name.f k ((rd_T70 x239q1 x5).f0)).bind fun t245 => (if t245 = true then ((rf_in.f k x4 ((rd_T70 x239q1 x5).f0)).bind fun t247 => (if t247 = true then (some 6) else (if x4.length < 8796093022208 then ((rf_material.f k x239q0 x239q1 x239q2 x239q3 x239q4 x239q5 x239q6 ((rd_T70 x239q1 x5).f0) ((rd_T70 x239q1 x5).f1) ((rd_T70 x239q1 x5).f2) ((rd_T70 x239q1 x5).f3) ((rd_T70 x239q1 x5).f4) ((rd_T70 x239q1 x5).f5) ((rd_T70 x239q1 x5).f6)).bind fun t253 => (if t253 = 0 then (rf_Check.l1 k (x4 ++ [(rd_T70 x239q1 x5).f0]) (wrap64 (x5 + 1)) x239q0 x239q1 x239q2 x239q3 x239q4 x239q5 x239q6) else (some t253))) else (none)))) else (some 5))) else (none)) else (if (x239q2.length : Int) = (x239q0.length : Int) then (rf_Check.l2 k 0 x239q0 x239q1 x239q2 x239q3 x239q4 x239q5 x239q6) else (some 1))
def rf_Check.l2 : Nat → Int → List ByteArray → List (S70) → List (S27) → List (S89) → Int → Int → Int → Option (Int)
 | 0, _, _, _, _, _, _, _, _ => none
 | k + 1, x7, x239q0, x239q1, x239q2, x239q3, x239q4, x239q5, x239q6 => if x7 < (x239q2.length : Int) then (if 0 ≤ x7 then ((rf_within.f ((rd_T27 x239q2 x7).f0) ((rd_T27 x239q2 x7).f1) 0 1000).bind fun t255 => (if t255 = true then (rf_Check.l2 k (wrap64 (x7 + 1)) x239q0 x239q1 x239q2 x239q3 x239q4 x239q5 x239q6) else (some 1))) else (none)) else (if (x239q3.length : Int) > 6 then (some 3) else (rf_Check.l3 k ([] : List ByteArray) 0 x239q0 x239q1 x239q2 x239q3 x239q4 x239q5 x239q6))
def rf_Check.l3 : Nat → List ByteArray → Int → List ByteArray → List (S70) → List (S27) → List (S89) → Int → Int → Int → Option (Int)
 | 0, _, _, _, _, _, _, _, _, _ => none
 | k + 1, x4, x8, x239q0, x239q1, x239q2, x239q3, x239q4, x239q5, x239q6 => if x8 < (x239q3.length : Int) then (if 0 ≤ x8 then ((rf_Name.f k ((rd_T89 x239q3 x8).f0)).bind fun t258 => (if t258 = true then ((rf_in.f k x4 ((rd_T89 x239q3 x8).f0)).bind fun t260 => (if t260 = true then (some 6) else (if x4.length < 8796093022208 then ((rf_property.f k x239q0 x239q1 x239q2 x239q3 x239q4 x239q5 x239q6 ((rd_T89 x239q3 x8).f0) ((rd_T89 x239q3 x8).f1) ((rd_T89 x239q3 x8).f2.f0) ((rd_T89 x239q3 x8).f2.f1)).bind fun t266 => (if t266 = 0 then (rf_Check.l3 k (x4 ++ [(rd_T89 x239q3 x8).f0]) (wrap64 (x8 + 1)) x239q0 x239q1 x239q2 x239q3 x239q4 x239q5 x239q6) else (some t266))) else (none)))) else (some 5))) else (none)) else ((rf_within.f x239q4 x239q5 (-10000) 10000).bind fun t256 => (if t256 = true then (if x239q6 < 1 then (some 1) else (if x239q6 > 10000 then (some 1) else (some 0))) else (some 1)))
end
def rf_Check.f (k : Nat) (l0_0 : List ByteArray) (l0_1 : List (S70)) (l0_2 : List (S27)) (l0_3 : List (S89)) (a0_4 : Int) (a0_5 : Int) (a0_6 : Int) : Option (Int) := if (l0_0.length : Int) > 12 then (some 3) else (if (l0_0.length : Int) = 0 then (some 1) else (rf_Check.l0 k 0 l0_0 l0_1 l0_2 l0_3 a0_4 a0_5 a0_6))
def rf_Check.T10 : Bool × List (List Nat × List Nat) := (true, [([], []), ([0], [0]), ([], []), ([1, 2], [1, 2]), ([], []), ([4], [4]), ([], []), ([5, 6], [5, 6]), ([7], [7]), ([3, 8], [3, 8])])
def rf_Check.B10 : List Nat := [0, 1, 0, 7, 0, 16, 0, 112, 240, 511]
theorem rf_Check.tab10 : rtab .any (opsOf Tryz.f86 10) = rf_Check.T10 := by kernel_rfl
theorem rf_Check.bits10 : waitsOk rf_Check.T10.2 rf_Check.B10 = true := by kernel_rfl
def rf_Check.T25 : Bool × List (List Nat × List Nat) := (true, [([], []), ([], []), ([1], [1]), ([], []), ([2, 3], [2, 3]), ([4], [4]), ([0, 5], [0, 5]), ([6, 6, 0, 1, 2, 3, 4, 5, 6], [6])])
def rf_Check.B25 : List Nat := [0, 0, 2, 0, 14, 30, 63, 127]
theorem rf_Check.tab25 : rtab .any (opsOf Tryz.f86 25) = rf_Check.T25 := by kernel_rfl
theorem rf_Check.bits25 : waitsOk rf_Check.T25.2 rf_Check.B25 = true := by kernel_rfl
def rf_Check.T46 : Bool × List (List Nat × List Nat) := (true, [([], []), ([], []), ([1], [1]), ([], []), ([2, 3], [2, 3]), ([4], [4]), ([0, 5], [0, 5]), ([6, 6, 0, 1, 2, 3, 4, 5, 6], [6])])
def rf_Check.B46 : List Nat := [0, 0, 2, 0, 14, 30, 63, 127]
theorem rf_Check.tab46 : rtab .any (opsOf Tryz.f86 46) = rf_Check.T46 := by kernel_rfl
theorem rf_Check.bits46 : waitsOk rf_Check.T46.2 rf_Check.B46 = true := by kernel_rfl
theorem rf_Check.calls (k : Nat) (A0_0 : Option Addr) (c0_0 : Nat) (l0_0 : List ByteArray) (A0_1 : Option Addr) (c0_1 : Nat) (l0_1 : List (S70)) (A0_2 : Option Addr) (c0_2 : Nat) (l0_2 : List (S27)) (A0_3 : Option Addr) (c0_3 : Nat) (l0_3 : List (S89)) (a0_4 : Int) (a0_5 : Int) (a0_6 : Int) (r : Int) (w : World) (hr0_0 : Kd.C Kd.string w A0_0 l0_0.length l0_0) (hc0_0 : l0_0.length ≤ c0_0) (hr0_1 : Kd.C k70 w A0_1 l0_1.length l0_1) (hc0_1 : l0_1.length ≤ c0_1) (hr0_2 : Kd.C k27 w A0_2 l0_2.length l0_2) (hc0_2 : l0_2.length ≤ c0_2) (hr0_3 : Kd.C k89 w A0_3 l0_3.length l0_3) (hc0_3 : l0_3.length ≤ c0_3) (h : rf_Check.f k l0_0 l0_1 l0_2 l0_3 a0_4 a0_5 a0_6 = some r) :
  Calls Tryz.prog 86 #[.agg #[.slice A0_0 l0_0.length c0_0, .slice A0_1 l0_1.length c0_1, .slice A0_2 l0_2.length c0_2, .slice A0_3 l0_3.length c0_3, .int .i64 a0_4, .int .i64 a0_5, .int .i64 a0_6]] w fun e w' => e = .returned (.int .i64 r) ∧ Below w.heap.size w w' := by
 have hu29 := Tryz.underlying29; have hu70 := Tryz.underlying70; have hu27 := Tryz.underlying27; have hu89 := Tryz.underlying89; have HR0_0 := Sd.mk hr0_0; have HC0_0 := Sd.mk hc0_0; clear hr0_0 hc0_0; have HR0_1 := Sd.mk hr0_1; have HC0_1 := Sd.mk hc0_1; clear hr0_1 hc0_1; have HR0_2 := Sd.mk hr0_2; have HC0_2 := Sd.mk hc0_2; clear hr0_2 hc0_2; have HR0_3 := Sd.mk hr0_3; have HC0_3 := Sd.mk hc0_3; clear hr0_3 hc0_3; have HB := Sd.mk (Below.refl w.heap.size w)
 have H : (if (l0_0.length : Int) > 12 then (some 3) else (if (l0_0.length : Int) = 0 then (some 1) else (rf_Check.l0 k 0 l0_0 l0_1 l0_2 l0_3 a0_4 a0_5 a0_6))) = some r := h
 clear h
 by_cases c2 : (l0_0.length : Int) > 12
 ·rw [if_pos c2] at H
  have c2b0 : decide (12 < (l0_0.length : Int)) = true := decide_eq_true c2
  have c2b1 : decide (12 < l0_0.length) = true := decide_eq_true (by omega)
  clear c2; obtain rfl := Option.some.inj H
  go_enter Tryz.func86, Tryz.ntmps86
  go_wp2_with (first | ((with_reducible refine gate_dst (N := 1) rfl ?_); refine box_event ?hg (N := 1) ?hd (cs := #[.slice A0_0 l0_0.length c0_0, .slice A0_1 l0_1.length c0_1, .slice A0_2 l0_2.length c0_2, .slice A0_3 l0_3.length c0_3, .int .i64 a0_4, .int .i64 a0_5, .int .i64 a0_6]) (t := 29) ?hr ?_; (case hd => rfl); (case hg => rfl); (case hr => exact tG); intro gb238 hg w3 hbox hb; have BK238 := Sd.mk (hbox); have GW238 := Sd.mk (bSz hg (bBl HB.out)); have GE238 := Sd.mk (bSz hg (bBl HB.out)); replace HB := Sd.mk (below_step (bBl HB.out) hb); clear hb hbox hg; obtain ⟨u4_0, u4_1, u4_2, u4_3, u4_4, u4_5, u4_6, o4_0, o4_1, o4_2, o4_3, o4_4, o4_5, o4_6⟩ := bc7 (w := w3) BK238.out))
  go_ret
  exact ⟨tE, bBl HB.out⟩
 ·rw [if_neg c2] at H
  have c2b0 : decide (12 < (l0_0.length : Int)) = false := decide_eq_false c2
  have c2b1 : decide (12 < l0_0.length) = false := decide_eq_false (by omega)
  clear c2
  by_cases c5 : (l0_0.length : Int) = 0
  ·rw [if_pos c5] at H
   have c5b0 : ((l0_0.length : Int) == 0) = true := beq_iff_eq.mpr c5
   have c5b1 : ((l0_0.length : Int) != 0) = false := bne_eq_false_iff_eq.mpr c5
   clear c5; obtain rfl := Option.some.inj H
   go_enter Tryz.func86, Tryz.ntmps86
   go_wp2_with (first | ((with_reducible refine gate_dst (N := 1) rfl ?_); refine box_event ?hg (N := 1) ?hd (cs := #[.slice A0_0 l0_0.length c0_0, .slice A0_1 l0_1.length c0_1, .slice A0_2 l0_2.length c0_2, .slice A0_3 l0_3.length c0_3, .int .i64 a0_4, .int .i64 a0_5, .int .i64 a0_6]) (t := 29) ?hr ?_; (case hd => rfl); (case hg => rfl); (case hr => exact tG); intro gb238 hg w6 hbox hb; have BK238 := Sd.mk (hbox); have GW238 := Sd.mk (bSz hg (bBl HB.out)); have GE238 := Sd.mk (bSz hg (bBl HB.out)); replace HB := Sd.mk (below_step (bBl HB.out) hb); clear hb hbox hg; obtain ⟨u7_0, u7_1, u7_2, u7_3, u7_4, u7_5, u7_6, o7_0, o7_1, o7_2, o7_3, o7_4, o7_5, o7_6⟩ := bc7 (w := w6) BK238.out))
   go_ret
   exact ⟨tE, bBl HB.out⟩
  ·rw [if_neg c5] at H
   have c5b0 : ((l0_0.length : Int) == 0) = false := beq_eq_false_iff_ne.mpr c5
   have c5b1 : ((l0_0.length : Int) != 0) = true := bne_iff_ne.mpr c5
   have c5b2 : ¬ (l0_0 = []) := fun h_ => c5 (by rw [h_]; rfl)
   have H' := Sd.mk H; clear H
   go_enter Tryz.func86, Tryz.ntmps86
   go_wp2_with (first | ((with_reducible refine gate_dst (N := 1) rfl ?_); refine box_event ?hg (N := 1) ?hd (cs := #[.slice A0_0 l0_0.length c0_0, .slice A0_1 l0_1.length c0_1, .slice A0_2 l0_2.length c0_2, .slice A0_3 l0_3.length c0_3, .int .i64 a0_4, .int .i64 a0_5, .int .i64 a0_6]) (t := 29) ?hr ?_; (case hd => rfl); (case hg => rfl); (case hr => exact tG); intro gb238 hg w8 hbox hb; have BK238 := Sd.mk (hbox); have GW238 := Sd.mk (bSz hg (bBl HB.out)); have GE238 := Sd.mk (bSz hg (bBl HB.out)); replace HB := Sd.mk (below_step (bBl HB.out) hb); clear hb hbox hg; obtain ⟨u9_0, u9_1, u9_2, u9_3, u9_4, u9_5, u9_6, o9_0, o9_1, o9_2, o9_3, o9_4, o9_5, o9_6⟩ := bc7 (w := w8) BK238.out))
   go_loopg [3] k (fun kq v3 w' => ∃ (x3_1 : Int), v3 = .int .i64 x3_1 ∧ Sd (rf_Check.l0 kq x3_1 l0_0 l0_1 l0_2 l0_3 a0_4 a0_5 a0_6 = some r) ∧ Sd (kq ≤ k) ∧ Sd (w'.heap[gb238]? = some (.cells #[(.slice A0_0 l0_0.length c0_0), (.slice A0_1 l0_1.length c0_1), (.slice A0_2 l0_2.length c0_2), (.slice A0_3 l0_3.length c0_3), .int .i64 a0_4, .int .i64 a0_5, .int .i64 a0_6] 29 (0, 0))) ∧ Sd (Below w.heap.size w w'))
   case atStart => exact ⟨(0), tS, H', ⟨Nat.le_refl _⟩, ⟨bkA BK238.out⟩, ⟨bBl HB.out⟩⟩
   case round =>
    clear H'; (try clear c2); (try clear c2b0); (try clear c2b1); (try clear p2); (try clear c5); (try clear c5b0); (try clear c5b1); (try clear c5b2); (try clear c8); (try clear u4_0 u4_1 u4_2 u4_3 u4_4 u4_5 u4_6); (try clear u7_0 u7_1 u7_2 u7_3 u7_4 u7_5 u7_6); (try clear u9_0 u9_1 u9_2 u9_3 u9_4 u9_5 u9_6); (try clear o4_0 o4_1 o4_2 o4_3 o4_4 o4_5 o4_6); (try clear o7_0 o7_1 o7_2 o7_3 o7_4 o7_5 o7_6); (try clear o9_0 o9_1 o9_2 o9_3 o9_4 o9_5 o9_6); obtain ⟨x3_1, rfl, HA, HK1, BK238, HB⟩ := hrel
    cases gk with
    | zero => exact absurd HA.out (by simp [rf_Check.l0])
    | succ k1 =>
     have H := HA.out; clear HA
     simp only [rf_Check.l0] at H
     by_cases c10 : x3_1 < (l0_0.length : Int)
     ·rw [if_pos c10] at H
      have c10b0 : decide (x3_1 < (l0_0.length : Int)) = true := decide_eq_true c10
      clear c10
      by_cases c11 : 0 ≤ x3_1
      ·rw [if_pos c11] at H
       have c11b0 : decide (0 ≤ x3_1) = true := decide_eq_true c11
       clear c11; replace H := Option.bind_eq_some_iff.mp H; obtain ⟨t240, A120, H⟩ := H
       try dsimp only at H
       have A12 := Sd.mk A120; clear A120
       by_cases c13 : t240 = true
       ·subst c13
        have H1 : (if x3_1 ≤ (l0_0.length : Int) then ((rf_in.f k1 (l0_0.take (x3_1 : Int).toNat) (rdOf ByteArray.empty l0_0 x3_1)).bind fun t243 => (if t243 = true then (some 6) else (rf_Check.l0 k1 (wrap64 (x3_1 + 1)) l0_0 l0_1 l0_2 l0_3 a0_4 a0_5 a0_6))) else (none)) = some r := by rw [if_pos rfl] at H; exact H
        clear H; have H := H1; clear H1; have c14b0 := eq_true (tB : 0 ≤ x3_1)
        by_cases c15 : x3_1 ≤ (l0_0.length : Int)
        ·rw [if_pos c15] at H
         have c15b0 := eq_true c15
         have c15b1 : decide (x3_1 ≤ (l0_0.length : Int)) = true := decide_eq_true c15
         clear c15; replace H := Option.bind_eq_some_iff.mp H; obtain ⟨t243, A160, H⟩ := H
         try dsimp only at H
         have A16 := Sd.mk A160; clear A160
         have H' := Sd.mk H; clear H; obtain ⟨u18_0, u18_1, u18_2, u18_3, u18_4, u18_5, u18_6, o18_0, o18_1, o18_2, o18_3, o18_4, o18_5, o18_6⟩ := bc7 (w := wr) BK238.out
         have p239 : 0 ≤ (x3_1 : Int) := tB
         have q239 : x3_1 < (l0_0.length : Int) := tB
         obtain ⟨ad239, e239, hx239_0⟩ := Kd.at_string HR0_0.out x3_1 p239 q239; cases e239; replace hx239_0 := cU HB hx239_0; replace p239 := eq_true p239; replace q239 := eq_true q239
         try go_wp2_with (first | ((with_reducible refine gate_callee (f := 170) rfl ?_); refine goesL_ (some 30) rfl rfl Tryz.func170 (by kernel_rfl) rfl #[.string (rdOf ByteArray.empty l0_0 x3_1)] rfl tM ?_; (with_reducible refine (rf_Name.calls k1 (rdOf ByteArray.empty l0_0 x3_1) true _ A12.out).mono ?_); rintro e w' ⟨rfl, ⟨nd, rfl⟩⟩; refine ⟨_, rfl, ?_⟩))
         (try (rw [drewN_self wr]; generalize hq_ : World.drewN wr _ = wr; have n0_ : Sd (wr.heap[gb238]? = some (.cells #[.slice (some ad239) l0_0.length c0_0, .slice A0_1 l0_1.length c0_1, .slice A0_2 l0_2.length c0_2, .slice A0_3 l0_3.length c0_3, .int .i64 a0_4, .int .i64 a0_5, .int .i64 a0_6] 29 (0, 0))) := ⟨by rw [← hq_]; exact (bkA BK238.out)⟩; have n1_ : Sd (Below w.heap.size w wr) := ⟨by rw [← hq_]; exact (bBl HB.out)⟩; clear BK238 HB hq_; have BK238 := n0_; have HB := n1_; clear n0_ n1_))
         replace BK238 := Sd.mk (blk_drew BK238.out); replace HB := Sd.mk (below_drew1 HB.out); obtain ⟨i020, hi020, _, hsz20, _⟩ := info_parts info9; obtain ⟨hcut20, hA20, hC20⟩ := print_take_of (P := Tryz.prog) Value.string (⟨#[]⟩ : ByteArray) 22 9 .i64 Tryz.underlying22 hi020 hsz20 (some ad239) c0_0 l0_0 x3_1 (tB) (tB) HC0_0.out
         have HR241 := Sd.mk (Kd.C_of_reads (h1 := fun _ => rfl) (hA20 _ (Kd.reads_of_C HR0_0.out)))
         have HC241 := Sd.mk hC20; clear hA20 hC20 hi020 hsz20
         have p242 : 0 ≤ (x3_1 : Int) := tB
         have q242 : x3_1 < (l0_0.length : Int) := tB
         obtain ⟨ad242, e242, hx242_0⟩ := Kd.at_string HR0_0.out x3_1 p242 q242; have hw242_0 := hx242_0
         obtain rfl : ad239 = ad242 := (by injection e242)
         replace hx242_0 := cU HB hx242_0; replace p242 := eq_true p242; replace q242 := eq_true q242
         refine start_ (n := 10) (S := fun w' => w'.cell? ⟨gb238, 0, none⟩ = some (.slice (some ad239) l0_0.length c0_0) ∧ w'.cell? ⟨gb238, 1, none⟩ = some (.slice A0_1 l0_1.length c0_1) ∧ w'.cell? ⟨gb238, 2, none⟩ = some (.slice A0_2 l0_2.length c0_2) ∧ w'.cell? ⟨gb238, 3, none⟩ = some (.slice A0_3 l0_3.length c0_3) ∧ w'.cell? ⟨gb238, 4, none⟩ = some (.int .i64 a0_4) ∧ w'.cell? ⟨gb238, 5, none⟩ = some (.int .i64 a0_5) ∧ w'.cell? ⟨gb238, 6, none⟩ = some (.int .i64 a0_6) ∧ w'.cell? (ad239.add (x3_1).toNat) = some (.string (rdOf ByteArray.empty l0_0 x3_1))) (ds := []) (bA 10 0) (by kernel_rfl) rfl rfl ⟨(blk_cell BK238.out 0).trans rfl, (blk_cell BK238.out 1).trans rfl, (blk_cell BK238.out 2).trans rfl, (blk_cell BK238.out 3).trans rfl, (blk_cell BK238.out 4).trans rfl, (blk_cell BK238.out 5).trans rfl, (blk_cell BK238.out 6).trans rfl, (cU HB hw242_0 :)⟩ (fun hHeld => ?_); refine with_tabW rf_Check.tab10 rf_Check.bits10 (fun HT_ HW_ => ?_)
         generalize wr.drew = w19 at BK238 HB HR241 hx242_0 hHeld ⊢
         refine pQ 0 (some 32) (bA 10 1) ?_
         refine pQ 2 (some 34) (bA 10 5) ?_
         refine pQ 4 (some 36) (bA 10 21) ?_
         refine pQ 6 (some 38) (bA 10 85) ?_
         refine tQ 1 (some 33) (bA 10 87) ?_
         refine pQ 3 (some 35) (bA 10 95) ?_
         refine tQ 5 (some 37) (bA 10 127) ?_
         refine pQ 7 (some 39) (bA 10 255) ?_
         refine tQ 8 (some 40) (bA 10 511) ?_
         refine one_ (i := 9) (N := some 41) (bA 10 1023) rfl rfl (one_of HT_.out (by kernel_rfl)) (by decide) (fun K hK => ?_)
         refine goes_ Tryz.func171 (by kernel_rfl) rfl #[.slice (some ad239) (l0_0.take (x3_1 : Int).toNat).length c0_0, .string (rdOf ByteArray.empty l0_0 x3_1)] (by rfl) rfl rfl (by (try simp only [List.map_toArray, List.map_cons, List.map_nil]); first | done | (rw [show (l0_0.take (x3_1 : Int).toNat).length = x3_1.toNat from (by rw [List.length_take]; have h_ : (x3_1 : Int) ≤ (l0_0.length : Int) := tB; omega)] <;> rfl) | rfl | (simp only [List.length_drop, List.length_take]; rfl)) ?_
         with_reducible refine (rf_in.calls k1 _ _ (l0_0.take (x3_1 : Int).toNat) (rdOf ByteArray.empty l0_0 x3_1) t243 _ ?side1 ?side2 A16.out).mono ?_
         (case side1 => exact cS (Kd.C_below HR241.out HB.out))
         (case side2 => exact HC241.out)
         rintro e w' ⟨rfl, ⟨nd, rfl⟩⟩
         refine ⟨_, rfl, ?_⟩
         refine hK.out _ _ ⟨(blk_cell BK238.out 0).trans rfl, (blk_cell BK238.out 1).trans rfl, (blk_cell BK238.out 2).trans rfl, (blk_cell BK238.out 3).trans rfl, (blk_cell BK238.out 4).trans rfl, (blk_cell BK238.out 5).trans rfl, (blk_cell BK238.out 6).trans rfl, (cU HB hw242_0 :)⟩ (fun hHeld => ?_)
         clear hK K
         refine norm_ (a' := ?_) ?_ ?_
         rotate_left
         ·show Act.put _ (some 41) _ = _
          exact tP
         refine done_ (done_of HT_.out (by kernel_rfl)) ?_
         have H := H'.out; clear H'
         by_cases c17 : t243 = true
         ·subst c17
          have H1 : (some 6) = some r := by rw [if_pos rfl] at H; exact H
          clear H; have H := H1; clear H1; obtain rfl := Option.some.inj H
          try go_wp2
          go_ret
          exact ⟨tE, bBl HB.out⟩
         ·replace c17 := Bool.eq_false_iff.mpr c17
          subst c17
          have H1 : (rf_Check.l0 k1 (wrap64 (x3_1 + 1)) l0_0 l0_1 l0_2 l0_3 a0_4 a0_5 a0_6) = some r := by rw [if_neg (show ¬ (false = true) by decide)] at H; exact H
          clear H; have H := H1; clear H1; have H' := Sd.mk H; clear H
          try go_wp2
          go_roundg k1
          case measure => have := HK1.out; omega
          case rel => exact ⟨(wrap64 (x3_1 + 1)), tS, H', ⟨by have := HK1.out; omega⟩, ⟨bkA BK238.out⟩, ⟨bBl HB.out⟩⟩
        ·rw [if_neg c15] at H
         exact absurd H (by simp)
       ·replace c13 := Bool.eq_false_iff.mpr c13
        subst c13
        have H1 : (some 5) = some r := by rw [if_neg (show ¬ (false = true) by decide)] at H; exact H
        clear H; have H := H1; clear H1; obtain rfl := Option.some.inj H; obtain ⟨u24_0, u24_1, u24_2, u24_3, u24_4, u24_5, u24_6, o24_0, o24_1, o24_2, o24_3, o24_4, o24_5, o24_6⟩ := bc7 (w := wr) BK238.out
        have p239 : 0 ≤ (x3_1 : Int) := tB
        have q239 : x3_1 < (l0_0.length : Int) := tB
        obtain ⟨ad239, e239, hx239_0⟩ := Kd.at_string HR0_0.out x3_1 p239 q239; cases e239; replace hx239_0 := cU HB hx239_0; replace p239 := eq_true p239; replace q239 := eq_true q239
        go_wp2_with (first | ((with_reducible refine gate_callee (f := 170) rfl ?_); refine goesL_ (some 30) rfl rfl Tryz.func170 (by kernel_rfl) rfl #[.string (rdOf ByteArray.empty l0_0 x3_1)] rfl tM ?_; (with_reducible refine (rf_Name.calls k1 (rdOf ByteArray.empty l0_0 x3_1) false _ A12.out).mono ?_); rintro e w' ⟨rfl, ⟨nd, rfl⟩⟩; refine ⟨_, rfl, ?_⟩))
        go_ret
        exact ⟨tE, bBl HB.out⟩
      ·rw [if_neg c11] at H
       exact absurd H (by simp)
     ·rw [if_neg c10] at H
      have c10b0 : decide (x3_1 < (l0_0.length : Int)) = false := decide_eq_false c10
      clear c10
      by_cases c25 : (l0_1.length : Int) > 12
      ·rw [if_pos c25] at H
       have c25b0 : decide (12 < (l0_1.length : Int)) = true := decide_eq_true c25
       have c25b1 : decide (12 < l0_1.length) = true := decide_eq_true (by omega)
       clear c25; obtain rfl := Option.some.inj H; obtain ⟨u26_0, u26_1, u26_2, u26_3, u26_4, u26_5, u26_6, o26_0, o26_1, o26_2, o26_3, o26_4, o26_5, o26_6⟩ := bc7 (w := wr) BK238.out
       go_wp2
       go_ret
       exact ⟨tE, bBl HB.out⟩
      ·rw [if_neg c25] at H
       have c25b0 : decide (12 < (l0_1.length : Int)) = false := decide_eq_false c25
       have c25b1 : decide (12 < l0_1.length) = false := decide_eq_false (by omega)
       clear c25
       by_cases c27 : (l0_1.length : Int) = 0
       ·rw [if_pos c27] at H
        have c27b0 : ((l0_1.length : Int) == 0) = true := beq_iff_eq.mpr c27
        have c27b1 : ((l0_1.length : Int) != 0) = false := bne_eq_false_iff_eq.mpr c27
        clear c27; obtain rfl := Option.some.inj H; obtain ⟨u28_0, u28_1, u28_2, u28_3, u28_4, u28_5, u28_6, o28_0, o28_1, o28_2, o28_3, o28_4, o28_5, o28_6⟩ := bc7 (w := wr) BK238.out
        go_wp2
        go_ret
        exact ⟨tE, bBl HB.out⟩
       ·rw [if_neg c27] at H
        have c27b0 : ((l0_1.length : Int) == 0) = false := beq_eq_false_iff_ne.mpr c27
        have c27b1 : ((l0_1.length : Int) != 0) = true := bne_iff_ne.mpr c27
        have c27b2 : ¬ (l0_1 = []) := fun h_ => c27 (by rw [h_]; rfl)
        have H' := Sd.mk H; clear H; obtain ⟨u29_0, u29_1, u29_2, u29_3, u29_4, u29_5, u29_6, o29_0, o29_1, o29_2, o29_3, o29_4, o29_5, o29_6⟩ := bc7 (w := wr) BK238.out
        go_wp2
        go_loopg [4, 5] k1 (fun kq v4 v5 w' => ∃ (x4_2 : List ByteArray) (x5_2 : Int), v5 = .int .i64 x5_2 ∧ Sd (rf_Check.l1 kq x4_2 x5_2 l0_0 l0_1 l0_2 l0_3 a0_4 a0_5 a0_6 = some r) ∧ Sd (kq ≤ k1) ∧ Sd (Kd.R Kd.string 9 w' w.heap.size (fun _ => True) v4 x4_2) ∧ Sd (w'.heap[gb238]? = some (.cells #[(.slice A0_0 l0_0.length c0_0), (.slice A0_1 l0_1.length c0_1), (.slice A0_2 l0_2.length c0_2), (.slice A0_3 l0_3.length c0_3), .int .i64 a0_4, .int .i64 a0_5, .int .i64 a0_6] 29 (0, 0))) ∧ Sd (Below w.heap.size w w'))
        case atStart => exact ⟨(([] : List ByteArray)), (0), tS, H', ⟨Nat.le_refl _⟩, ⟨by first | exact Kd.R_nil _ _ _ _ _ | exact Kd.N_nil _ _ _ _ _ | exact Kd.V_nil _ _ _ _ _ | exact Kd.Q_nil _ _ _ _ _ | exact Kd.S_nil _ _ _ _ _⟩, ⟨bkA BK238.out⟩, ⟨bBl HB.out⟩⟩
        case round =>
         clear H'; (try clear c1); (try clear c2); (try clear c2b0); (try clear c2b1); (try clear p2 p2); (try clear q2); (try clear hx2); (try clear c5); (try clear c5b0); (try clear c5b1); (try clear c5b2); (try clear p6); (try clear c8); (try clear c10); (try clear c10b0); (try clear c11); (try clear c11b0); (try clear c13); (try clear c14); (try clear c14b0); (try clear c15); (try clear c15b0); (try clear c15b1); (try clear c17); (try clear p23); (try clear q23); (try clear hx23); (try clear p24); (try clear q24); (try clear hx24); (try clear c25); (try clear c25b0); (try clear c25b1); (try clear c27); (try clear c27b0); (try clear c27b1); (try clear c27b2); (try clear u18_0 u18_1 u18_2 u18_3 u18_4 u18_5 u18_6); (try clear u21_0 u21_1 u21_2 u21_3 u21_4 u21_5 u21_6); (try clear u24_0 u24_1 u24_2 u24_3 u24_4 u24_5 u24_6); (try clear u26_0 u26_1 u26_2 u26_3 u26_4 u26_5 u26_6); (try clear u28_0 u28_1 u28_2 u28_3 u28_4 u28_5 u28_6); (try clear u29_0 u29_1 u29_2 u29_3 u29_4 u29_5 u29_6); (try clear u4_0 u4_1 u4_2 u4_3 u4_4 u4_5 u4_6); (try clear u7_0 u7_1 u7_2 u7_3 u7_4 u7_5 u7_6); (try clear u9_0 u9_1 u9_2 u9_3 u9_4 u9_5 u9_6); (try clear o18_0 o18_1 o18_2 o18_3 o18_4 o18_5 o18_6); (try clear o21_0 o21_1 o21_2 o21_3 o21_4 o21_5 o21_6); (try clear o24_0 o24_1 o24_2 o24_3 o24_4 o24_5 o24_6); (try clear o26_0 o26_1 o26_2 o26_3 o26_4 o26_5 o26_6); (try clear o28_0 o28_1 o28_2 o28_3 o28_4 o28_5 o28_6); (try clear o29_0 o29_1 o29_2 o29_3 o29_4 o29_5 o29_6); (try clear o4_0 o4_1 o4_2 o4_3 o4_4 o4_5 o4_6); (try clear o7_0 o7_1 o7_2 o7_3 o7_4 o7_5 o7_6); (try clear o9_0 o9_1 o9_2 o9_3 o9_4 o9_5 o9_6); (try clear hx239_0); (try clear hx242_0); (try clear p239); (try clear p242); (try clear q239); (try clear q242); obtain ⟨x4_2, x5_2, rfl, HA, HK2, HO_4, BK238, HB⟩ := hrel
         cases gk with
         | zero => exact absurd HA.out (by simp [rf_Check.l1])
         | succ k2 =>
          have H := HA.out; clear HA
          simp only [rf_Check.l1] at H
          by_cases c30 : x5_2 < (l0_1.length : Int)
          ·rw [if_pos c30] at H
           have c30b0 : decide (x5_2 < (l0_1.length : Int)) = true := decide_eq_true c30
           clear c30
           by_cases c31 : 0 ≤ x5_2
           ·rw [if_pos c31] at H
            have c31b0 : decide (0 ≤ x5_2) = true := decide_eq_true c31
            clear c31; replace H := Option.bind_eq_some_iff.mp H; obtain ⟨t245, A320, H⟩ := H
            try dsimp only at H
            have A32 := Sd.mk A320; clear A320
            by_cases c33 : t245 = true
            ·subst c33
             have H1 : ((rf_in.f k2 x4_2 ((rd_T70 l0_1 x5_2).f0)).bind fun t247 => (if t247 = true then (some 6) else (if x4_2.length < 8796093022208 then ((rf_material.f k2 l0_0 l0_1 l0_2 l0_3 a0_4 a0_5 a0_6 ((rd_T70 l0_1 x5_2).f0) ((rd_T70 l0_1 x5_2).f1) ((rd_T70 l0_1 x5_2).f2) ((rd_T70 l0_1 x5_2).f3) ((rd_T70 l0_1 x5_2).f4) ((rd_T70 l0_1 x5_2).f5) ((rd_T70 l0_1 x5_2).f6)).bind fun t253 => (if t253 = 0 then (rf_Check.l1 k2 (x4_2 ++ [(rd_T70 l0_1 x5_2).f0]) (wrap64 (x5_2 + 1)) l0_0 l0_1 l0_2 l0_3 a0_4 a0_5 a0_6) else (some t253))) else (none)))) = some r := by rw [if_pos rfl] at H; exact H
             clear H; have H := H1; clear H1; replace H := Option.bind_eq_some_iff.mp H; obtain ⟨t247, A340, H⟩ := H
             try dsimp only at H
             have A34 := Sd.mk A340; clear A340
             by_cases c35 : t247 = true
             ·subst c35
              have H1 : (some 6) = some r := by rw [if_pos rfl] at H; exact H
              clear H; have H := H1; clear H1; obtain rfl := Option.some.inj H; obtain ⟨u36_0, u36_1, u36_2, u36_3, u36_4, u36_5, u36_6, o36_0, o36_1, o36_2, o36_3, o36_4, o36_5, o36_6⟩ := bc7 (w := wr) BK238.out
              have p244 : 0 ≤ (x5_2 : Int) := tB
              have q244 : x5_2 < (l0_1.length : Int) := tB
              obtain ⟨ad244, A244_6, c244_6, e244, hx244_0, hx244_1, hx244_2, hx244_3, hx244_4, hx244_5, hx244_6, hl244_6, hi244_6⟩ := at_T70 HR0_1.out x5_2 p244 q244; cases e244; replace hx244_0 := cU HB hx244_0; replace hx244_1 := cU HB hx244_1; replace hx244_2 := cU HB hx244_2; replace hx244_3 := cU HB hx244_3; replace hx244_4 := cU HB hx244_4; replace hx244_5 := cU HB hx244_5; replace hx244_6 := cU HB hx244_6; have HR244_6 := Sd.mk hi244_6; have HC244_6 := Sd.mk hl244_6; clear hi244_6 hl244_6; replace p244 := eq_true p244; replace q244 := eq_true q244
              go_wp2_with (first | ((with_reducible refine gate_callee (f := 170) rfl ?_); refine goesL_ (some 63) rfl rfl Tryz.func170 (by kernel_rfl) rfl #[.string ((rd_T70 l0_1 x5_2).f0)] rfl tM ?_; (with_reducible refine (rf_Name.calls k2 ((rd_T70 l0_1 x5_2).f0) true _ A32.out).mono ?_); rintro e w' ⟨rfl, ⟨nd, rfl⟩⟩; refine ⟨_, rfl, ?_⟩; have p246 : 0 ≤ (x5_2 : Int) := tB; have q246 : x5_2 < (l0_1.length : Int) := tB; obtain ⟨ad246, A246_6, c246_6, e246, hx246_0, hx246_1, hx246_2, hx246_3, hx246_4, hx246_5, hx246_6, hl246_6, hi246_6⟩ := at_T70 HR0_1.out x5_2 p246 q246; obtain rfl : ad244 = ad246 := (by injection e246); replace hx246_0 := cU HB hx246_0; replace hx246_1 := cU HB hx246_1; replace hx246_2 := cU HB hx246_2; replace hx246_3 := cU HB hx246_3; replace hx246_4 := cU HB hx246_4; replace hx246_5 := cU HB hx246_5; replace hx246_6 := cU HB hx246_6; have HR246_6 := Sd.mk hi246_6; have HC246_6 := Sd.mk hl246_6; clear hi246_6 hl246_6; replace p246 := eq_true p246; replace q246 := eq_true q246; have ea_ := Option.some.inj (hx244_6.symm.trans hx246_6); injection ea_ with ea_ en_ ec_; subst ea_; subst ec_; clear en_; obtain ⟨Ao37, co37, eo37⟩ := Kd.R_slice HO_4.out; subst eo37) | ((with_reducible refine gate_callee (f := 171) rfl ?_); refine goesL_ (some 72) rfl rfl Tryz.func171 (by kernel_rfl) rfl #[.slice Ao37 x4_2.length co37, .string ((rd_T70 l0_1 x5_2).f0)] rfl tM ?_; (with_reducible refine (rf_in.calls k2 _ _ x4_2 ((rd_T70 l0_1 x5_2).f0) true _ (cS ((Kd.R_reads' HO_4.out).2.2)) ((Kd.R_reads' HO_4.out).2.1) A34.out).mono ?_); rintro e w' ⟨rfl, ⟨nd, rfl⟩⟩; refine ⟨_, rfl, ?_⟩))
              go_ret
              exact ⟨tE, bBl HB.out⟩
             ·replace c35 := Bool.eq_false_iff.mpr c35
              subst c35
              have H1 : (if x4_2.length < 8796093022208 then ((rf_material.f k2 l0_0 l0_1 l0_2 l0_3 a0_4 a0_5 a0_6 ((rd_T70 l0_1 x5_2).f0) ((rd_T70 l0_1 x5_2).f1) ((rd_T70 l0_1 x5_2).f2) ((rd_T70 l0_1 x5_2).f3) ((rd_T70 l0_1 x5_2).f4) ((rd_T70 l0_1 x5_2).f5) ((rd_T70 l0_1 x5_2).f6)).bind fun t253 => (if t253 = 0 then (rf_Check.l1 k2 (x4_2 ++ [(rd_T70 l0_1 x5_2).f0]) (wrap64 (x5_2 + 1)) l0_0 l0_1 l0_2 l0_3 a0_4 a0_5 a0_6) else (some t253))) else (none)) = some r := by rw [if_neg (show ¬ (false = true) by decide)] at H; exact H
              clear H; have H := H1; clear H1
              by_cases c38 : x4_2.length < 8796093022208
              ·rw [if_pos c38] at H
               have LMc38 := Sd.mk c38; clear c38
               obtain ⟨y249, hy249⟩ : ∃ y_ : List ByteArray, y_ = (x4_2 ++ [(rd_T70 l0_1 x5_2).f0]) := ⟨_, rfl⟩
               replace H : ((rf_material.f k2 l0_0 l0_1 l0_2 l0_3 a0_4 a0_5 a0_6 ((rd_T70 l0_1 x5_2).f0) ((rd_T70 l0_1 x5_2).f1) ((rd_T70 l0_1 x5_2).f2) ((rd_T70 l0_1 x5_2).f3) ((rd_T70 l0_1 x5_2).f4) ((rd_T70 l0_1 x5_2).f5) ((rd_T70 l0_1 x5_2).f6)).bind fun t253 => (if t253 = 0 then (rf_Check.l1 k2 y249 (wrap64 (x5_2 + 1)) l0_0 l0_1 l0_2 l0_3 a0_4 a0_5 a0_6) else (some t253))) = some r := by first | (rw [hy249]; with_reducible exact H) | (have H2_ := (Option.bind_some _ _).symm.trans H; rw [hy249]; with_reducible exact H2_) | (have H2_ := (Option.bind_some _ _).symm.trans H; with_reducible exact H2_) | with_reducible exact H | (rw [hy249]; exact H) | exact H
               have Ny249 := Sd.mk hy249; clear hy249; replace H := Option.bind_eq_some_iff.mp H; obtain ⟨t253, A390, H⟩ := H
               try dsimp only at H
               have A39 := Sd.mk A390; clear A390
               have H' := Sd.mk H; clear H; obtain ⟨u41_0, u41_1, u41_2, u41_3, u41_4, u41_5, u41_6, o41_0, o41_1, o41_2, o41_3, o41_4, o41_5, o41_6⟩ := bc7 (w := wr) BK238.out
               have p244 : 0 ≤ (x5_2 : Int) := tB
               have q244 : x5_2 < (l0_1.length : Int) := tB
               obtain ⟨ad244, A244_6, c244_6, e244, hx244_0, hx244_1, hx244_2, hx244_3, hx244_4, hx244_5, hx244_6, hl244_6, hi244_6⟩ := at_T70 HR0_1.out x5_2 p244 q244; cases e244; replace hx244_0 := cU HB hx244_0; replace hx244_1 := cU HB hx244_1; replace hx244_2 := cU HB hx244_2; replace hx244_3 := cU HB hx244_3; replace hx244_4 := cU HB hx244_4; replace hx244_5 := cU HB hx244_5; replace hx244_6 := cU HB hx244_6; have HR244_6 := Sd.mk hi244_6; have HC244_6 := Sd.mk hl244_6; clear hi244_6 hl244_6; replace p244 := eq_true p244; replace q244 := eq_true q244
               try go_wp2_with (first | ((with_reducible refine gate_callee (f := 170) rfl ?_); refine goesL_ (some 63) rfl rfl Tryz.func170 (by kernel_rfl) rfl #[.string ((rd_T70 l0_1 x5_2).f0)] rfl tM ?_; (with_reducible refine (rf_Name.calls k2 ((rd_T70 l0_1 x5_2).f0) true _ A32.out).mono ?_); rintro e w' ⟨rfl, ⟨nd, rfl⟩⟩; refine ⟨_, rfl, ?_⟩; have p246 : 0 ≤ (x5_2 : Int) := tB; have q246 : x5_2 < (l0_1.length : Int) := tB; obtain ⟨ad246, A246_6, c246_6, e246, hx246_0, hx246_1, hx246_2, hx246_3, hx246_4, hx246_5, hx246_6, hl246_6, hi246_6⟩ := at_T70 HR0_1.out x5_2 p246 q246; obtain rfl : ad244 = ad246 := (by injection e246); replace hx246_0 := cU HB hx246_0; replace hx246_1 := cU HB hx246_1; replace hx246_2 := cU HB hx246_2; replace hx246_3 := cU HB hx246_3; replace hx246_4 := cU HB hx246_4; replace hx246_5 := cU HB hx246_5; replace hx246_6 := cU HB hx246_6; have HR246_6 := Sd.mk hi246_6; have HC246_6 := Sd.mk hl246_6; clear hi246_6 hl246_6; replace p246 := eq_true p246; replace q246 := eq_true q246; have ea_ := Option.some.inj (hx244_6.symm.trans hx246_6); injection ea_ with ea_ en_ ec_; subst ea_; subst ec_; clear en_; obtain ⟨Ao42, co42, eo42⟩ := Kd.R_slice HO_4.out; subst eo42) | ((with_reducible refine gate_callee (f := 171) rfl ?_); refine goesL_ (some 72) rfl rfl Tryz.func171 (by kernel_rfl) rfl #[.slice Ao42 x4_2.length co42, .string ((rd_T70 l0_1 x5_2).f0)] rfl tM ?_; (with_reducible refine (rf_in.calls k2 _ _ x4_2 ((rd_T70 l0_1 x5_2).f0) false _ (cS ((Kd.R_reads' HO_4.out).2.2)) ((Kd.R_reads' HO_4.out).2.1) A34.out).mono ?_); rintro e w' ⟨rfl, ⟨nd, rfl⟩⟩; refine ⟨_, rfl, ?_⟩; have p248 : 0 ≤ (x5_2 : Int) := tB; have q248 : x5_2 < (l0_1.length : Int) := tB; obtain ⟨ad248, A248_6, c248_6, e248, hx248_0, hx248_1, hx248_2, hx248_3, hx248_4, hx248_5, hx248_6, hl248_6, hi248_6⟩ := at_T70 HR0_1.out x5_2 p248 q248; obtain rfl : ad244 = ad248 := (by injection e248); replace hx248_0 := cU HB hx248_0; replace hx248_1 := cU HB hx248_1; replace hx248_2 := cU HB hx248_2; replace hx248_3 := cU HB hx248_3; replace hx248_4 := cU HB hx248_4; replace hx248_5 := cU HB hx248_5; replace hx248_6 := cU HB hx248_6; have HR248_6 := Sd.mk hi248_6; have HC248_6 := Sd.mk hl248_6; clear hi248_6 hl248_6; replace p248 := eq_true p248; replace q248 := eq_true q248; have ea_ := Option.some.inj (hx244_6.symm.trans hx248_6); injection ea_ with ea_ en_ ec_; subst ea_; subst ec_; clear en_) | ((with_reducible refine gate_builtin (b := .append) (xs := #[.tmp 73, .tmp 80]) rfl ?_); at_builtin; refine Kd.R_append Kd.string (w0 := w) w.heap.size rfl (.tmp 73) (.tmp 80) 22 9 (.string ⟨#[]⟩) 16 rfl Tryz.underlying22 info9 rfl (by decide) (by omega) (.slice Ao42 x4_2.length co42) x4_2 ((rd_T70 l0_1 x5_2).f0) [.string ((rd_T70 l0_1 x5_2).f0)] (fun _ => True) (fun _ => False) rfl rfl ?aP (fun _ hk => hk.elim) ?aF ?aO ?aB ?aS ?aL ?_; (case aP => exact rfl); (case aB => exact (bBl HB.out)); (case aF => exact (fun _ _ => trivial)); (case aO => exact (by (with_reducible repeat (first | apply Kd.R_alloc | apply Kd.R_drewN | apply Kd.R_drew)); exact HO_4.out)); (case aS => exact (below_size (bBl HB.out))); (case aL => have := LMc38.out; omega); intro v250 w43 ho hb hg hat; rw [← Ny249.out] at ho; replace BK238 := Sd.mk (blk_grown (bkA BK238.out) hg (Kd.R_ne HO_4.out BK238.out (by decide))); replace HB := Sd.mk (hb); have HO251 := Sd.mk (ho); clear HO_4; clear ho hb hg hat))
               replace HO251 := Sd.mk (Kd.R_drew HO251.out); replace BK238 := Sd.mk (blk_drew BK238.out); replace HB := Sd.mk (below_drew1 HB.out)
               have p252 : 0 ≤ (x5_2 : Int) := tB
               have q252 : x5_2 < (l0_1.length : Int) := tB
               obtain ⟨ad252, A252_6, c252_6, e252, hx252_0, hx252_1, hx252_2, hx252_3, hx252_4, hx252_5, hx252_6, hl252_6, hi252_6⟩ := at_T70 HR0_1.out x5_2 p252 q252; have hw252_6 := hx252_6; have hw252_5 := hx252_5; have hw252_4 := hx252_4; have hw252_3 := hx252_3; have hw252_2 := hx252_2; have hw252_1 := hx252_1; have hw252_0 := hx252_0
               obtain rfl : ad244 = ad252 := (by injection e252)
               replace hx252_0 := cU HB hx252_0; replace hx252_1 := cU HB hx252_1; replace hx252_2 := cU HB hx252_2; replace hx252_3 := cU HB hx252_3; replace hx252_4 := cU HB hx252_4; replace hx252_5 := cU HB hx252_5; replace hx252_6 := cU HB hx252_6; have HR252_6 := Sd.mk hi252_6; have HC252_6 := Sd.mk hl252_6; clear hi252_6 hl252_6; replace p252 := eq_true p252; replace q252 := eq_true q252
               refine start_ (n := 8) (S := fun w' => w'.cell? ⟨gb238, 0, none⟩ = some (.slice A0_0 l0_0.length c0_0) ∧ w'.cell? ⟨gb238, 1, none⟩ = some (.slice (some ad244) l0_1.length c0_1) ∧ w'.cell? ⟨gb238, 2, none⟩ = some (.slice A0_2 l0_2.length c0_2) ∧ w'.cell? ⟨gb238, 3, none⟩ = some (.slice A0_3 l0_3.length c0_3) ∧ w'.cell? ⟨gb238, 4, none⟩ = some (.int .i64 a0_4) ∧ w'.cell? ⟨gb238, 5, none⟩ = some (.int .i64 a0_5) ∧ w'.cell? ⟨gb238, 6, none⟩ = some (.int .i64 a0_6) ∧ w'.cell? (ad244.add ((x5_2).toNat * 7)) = some (.string ((rd_T70 l0_1 x5_2).f0)) ∧ w'.cell? ⟨(ad244.add ((x5_2).toNat * 7)).block, (ad244.add ((x5_2).toNat * 7)).off + 1, none⟩ = some (.int .i64 ((rd_T70 l0_1 x5_2).f1)) ∧ w'.cell? ⟨(ad244.add ((x5_2).toNat * 7)).block, (ad244.add ((x5_2).toNat * 7)).off + 2, none⟩ = some (.int .i64 ((rd_T70 l0_1 x5_2).f2)) ∧ w'.cell? ⟨(ad244.add ((x5_2).toNat * 7)).block, (ad244.add ((x5_2).toNat * 7)).off + 3, none⟩ = some (.int .i64 ((rd_T70 l0_1 x5_2).f3)) ∧ w'.cell? ⟨(ad244.add ((x5_2).toNat * 7)).block, (ad244.add ((x5_2).toNat * 7)).off + 4, none⟩ = some (.int .i64 ((rd_T70 l0_1 x5_2).f4)) ∧ w'.cell? ⟨(ad244.add ((x5_2).toNat * 7)).block, (ad244.add ((x5_2).toNat * 7)).off + 5, none⟩ = some (.int .i64 ((rd_T70 l0_1 x5_2).f5)) ∧ w'.cell? ⟨(ad244.add ((x5_2).toNat * 7)).block, (ad244.add ((x5_2).toNat * 7)).off + 6, none⟩ = some (.slice A252_6 ((rd_T70 l0_1 x5_2).f6).length c252_6)) (ds := []) (bA 8 0) (by kernel_rfl) rfl rfl ⟨(blk_cell BK238.out 0).trans rfl, (blk_cell BK238.out 1).trans rfl, (blk_cell BK238.out 2).trans rfl, (blk_cell BK238.out 3).trans rfl, (blk_cell BK238.out 4).trans rfl, (blk_cell BK238.out 5).trans rfl, (blk_cell BK238.out 6).trans rfl, (cU HB hw252_0 :), (cU HB hw252_1 :), (cU HB hw252_2 :), (cU HB hw252_3 :), (cU HB hw252_4 :), (cU HB hw252_5 :), (cU HB hw252_6 :)⟩ (fun hHeld => ?_); refine with_tabW rf_Check.tab25 rf_Check.bits25 (fun HT_ HW_ => ?_)
               generalize w43.drew = w44 at HO251 BK238 HB HR252_6 hx252_0 hx252_1 hx252_2 hx252_3 hx252_4 hx252_5 hx252_6 hHeld ⊢
               refine pQ 1 (some 83) (bA 8 2) ?_
               refine pQ 3 (some 85) (bA 8 10) ?_
               refine tQ 0 (some 82) (bA 8 11) ?_
               refine tQ 2 (some 84) (bA 8 15) ?_
               refine pQ 4 (some 86) (bA 8 31) ?_
               refine tQ 5 (some 87) (bA 8 63) ?_
               refine one_ (i := 6) (N := some 88) (bA 8 127) rfl rfl (one_of HT_.out (by kernel_rfl)) (by decide) (fun K hK => ?_)
               refine goes_ Tryz.func172 (by kernel_rfl) rfl #[.agg #[.slice A0_0 l0_0.length c0_0, .slice (some ad244) l0_1.length c0_1, .slice A0_2 l0_2.length c0_2, .slice A0_3 l0_3.length c0_3, .int .i64 a0_4, .int .i64 a0_5, .int .i64 a0_6], .agg #[.string ((rd_T70 l0_1 x5_2).f0), .int .i64 ((rd_T70 l0_1 x5_2).f1), .int .i64 ((rd_T70 l0_1 x5_2).f2), .int .i64 ((rd_T70 l0_1 x5_2).f3), .int .i64 ((rd_T70 l0_1 x5_2).f4), .int .i64 ((rd_T70 l0_1 x5_2).f5), .slice A252_6 ((rd_T70 l0_1 x5_2).f6).length c252_6]] (by rfl) rfl rfl tM ?_
               with_reducible refine (rf_material.calls k2 _ _ l0_0 _ _ l0_1 _ _ l0_2 _ _ l0_3 a0_4 a0_5 a0_6 ((rd_T70 l0_1 x5_2).f0) ((rd_T70 l0_1 x5_2).f1) ((rd_T70 l0_1 x5_2).f2) ((rd_T70 l0_1 x5_2).f3) ((rd_T70 l0_1 x5_2).f4) ((rd_T70 l0_1 x5_2).f5) _ _ ((rd_T70 l0_1 x5_2).f6) t253 _ ?side1 ?side2 ?side3 ?side4 ?side5 ?side6 ?side7 ?side8 ?side9 ?side10 A39.out).mono ?_
               (case side1 => exact cS (Kd.C_below HR0_0.out HB.out))
               (case side2 => exact HC0_0.out)
               (case side3 => exact cS (Kd.C_below HR0_1.out HB.out))
               (case side4 => exact HC0_1.out)
               (case side5 => exact cS (Kd.C_below HR0_2.out HB.out))
               (case side6 => exact HC0_2.out)
               (case side7 => exact cS (Kd.C_below HR0_3.out HB.out))
               (case side8 => exact HC0_3.out)
               (case side9 => exact cS (Kd.C_below HR252_6.out HB.out))
               (case side10 => exact HC252_6.out)
               rintro e w45 ⟨rfl, hb⟩
               refine ⟨_, rfl, ?_⟩
               replace HO251 := Sd.mk (Kd.R_below (by (with_reducible repeat (first | apply Kd.R_alloc | apply Kd.R_drewN | apply Kd.R_drew)); exact HO251.out) hb)
               replace BK238 := Sd.mk (blk_below (bkA BK238.out) hb); replace HB := Sd.mk (below_step (bBl HB.out) hb)
               (try clear hb)
               (try clear hb2)
               (try clear hk)
               (try clear hi)
               refine hK.out _ _ ⟨(blk_cell BK238.out 0).trans rfl, (blk_cell BK238.out 1).trans rfl, (blk_cell BK238.out 2).trans rfl, (blk_cell BK238.out 3).trans rfl, (blk_cell BK238.out 4).trans rfl, (blk_cell BK238.out 5).trans rfl, (blk_cell BK238.out 6).trans rfl, (cU HB hw252_0 :), (cU HB hw252_1 :), (cU HB hw252_2 :), (cU HB hw252_3 :), (cU HB hw252_4 :), (cU HB hw252_5 :), (cU HB hw252_6 :)⟩ (fun hHeld => ?_)
               clear hK K
               refine norm_ (a' := ?_) ?_ ?_
               rotate_left
               ·show Act.put _ (some 88) _ = _
                exact tP
               refine pQ 7 (some 6) (bA 8 255) ?_
               refine done_ (done_of HT_.out (by kernel_rfl)) ?_
               have H := H'.out; clear H'
               by_cases c40 : t253 = 0
               ·rw [if_pos c40] at H
                have c40b0 : (t253 == 0) = true := beq_iff_eq.mpr c40
                have c40b1 : (t253 != 0) = false := bne_eq_false_iff_eq.mpr c40
                clear c40; have H' := Sd.mk H; clear H
                try go_wp2
                go_roundg k2
                case measure => have := HK1.out; have := HK2.out; omega
                case rel => exact ⟨(y249), (wrap64 (x5_2 + 1)), tS, H', ⟨by have := HK1.out; have := HK2.out; omega⟩, ⟨by (with_reducible repeat (first | apply Kd.R_alloc | apply Kd.R_drewN | apply Kd.R_drew)); exact HO251.out⟩, ⟨bkA BK238.out⟩, ⟨bBl HB.out⟩⟩
               ·rw [if_neg c40] at H
                have c40b0 : (t253 == 0) = false := beq_eq_false_iff_ne.mpr c40
                have c40b1 : (t253 != 0) = true := bne_iff_ne.mpr c40
                obtain rfl := Option.some.inj H
                try go_wp2
                go_ret
                exact ⟨tE, bBl HB.out⟩
              ·rw [if_neg c38] at H
               exact absurd H (by simp)
            ·replace c33 := Bool.eq_false_iff.mpr c33
             subst c33
             have H1 : (some 5) = some r := by rw [if_neg (show ¬ (false = true) by decide)] at H; exact H
             clear H; have H := H1; clear H1; obtain rfl := Option.some.inj H; obtain ⟨u51_0, u51_1, u51_2, u51_3, u51_4, u51_5, u51_6, o51_0, o51_1, o51_2, o51_3, o51_4, o51_5, o51_6⟩ := bc7 (w := wr) BK238.out
             have p244 : 0 ≤ (x5_2 : Int) := tB
             have q244 : x5_2 < (l0_1.length : Int) := tB
             obtain ⟨ad244, A244_6, c244_6, e244, hx244_0, hx244_1, hx244_2, hx244_3, hx244_4, hx244_5, hx244_6, hl244_6, hi244_6⟩ := at_T70 HR0_1.out x5_2 p244 q244; cases e244; replace hx244_0 := cU HB hx244_0; replace hx244_1 := cU HB hx244_1; replace hx244_2 := cU HB hx244_2; replace hx244_3 := cU HB hx244_3; replace hx244_4 := cU HB hx244_4; replace hx244_5 := cU HB hx244_5; replace hx244_6 := cU HB hx244_6; have HR244_6 := Sd.mk hi244_6; have HC244_6 := Sd.mk hl244_6; clear hi244_6 hl244_6; replace p244 := eq_true p244; replace q244 := eq_true q244
             go_wp2_with (first | ((with_reducible refine gate_callee (f := 170) rfl ?_); refine goesL_ (some 63) rfl rfl Tryz.func170 (by kernel_rfl) rfl #[.string ((rd_T70 l0_1 x5_2).f0)] rfl tM ?_; (with_reducible refine (rf_Name.calls k2 ((rd_T70 l0_1 x5_2).f0) false _ A32.out).mono ?_); rintro e w' ⟨rfl, ⟨nd, rfl⟩⟩; refine ⟨_, rfl, ?_⟩))
             go_ret
             exact ⟨tE, bBl HB.out⟩
           ·rw [if_neg c31] at H
            exact absurd H (by simp)
          ·rw [if_neg c30] at H
           have c30b0 : decide (x5_2 < (l0_1.length : Int)) = false := decide_eq_false c30
           clear c30
           by_cases c52 : (l0_2.length : Int) = (l0_0.length : Int)
           ·rw [if_pos c52] at H
            have c52b0 : ((l0_2.length : Int) == (l0_0.length : Int)) = true := beq_iff_eq.mpr c52
            have c52b1 : ((l0_2.length : Int) != (l0_0.length : Int)) = false := bne_eq_false_iff_eq.mpr c52
            have c52b2 : (l0_2.length == l0_0.length) = true := by first | simpa using c52 | (simp at c52 ⊢; omega)
            clear c52; have H' := Sd.mk H; clear H; obtain ⟨u53_0, u53_1, u53_2, u53_3, u53_4, u53_5, u53_6, o53_0, o53_1, o53_2, o53_3, o53_4, o53_5, o53_6⟩ := bc7 (w := wr) BK238.out
            go_wp2
            go_loopg [7] k2 (fun kq v7 w' => ∃ (x7_3 : Int), v7 = .int .i64 x7_3 ∧ Sd (rf_Check.l2 kq x7_3 l0_0 l0_1 l0_2 l0_3 a0_4 a0_5 a0_6 = some r) ∧ Sd (kq ≤ k2) ∧ Sd (w'.heap[gb238]? = some (.cells #[(.slice A0_0 l0_0.length c0_0), (.slice A0_1 l0_1.length c0_1), (.slice A0_2 l0_2.length c0_2), (.slice A0_3 l0_3.length c0_3), .int .i64 a0_4, .int .i64 a0_5, .int .i64 a0_6] 29 (0, 0))) ∧ Sd (Below w.heap.size w w'))
            case atStart => exact ⟨(0), tS, H', ⟨Nat.le_refl _⟩, ⟨bkA BK238.out⟩, ⟨bBl HB.out⟩⟩
            case round =>
             clear H'; (try clear c1); (try clear c2); (try clear p2 p2); (try clear q2); (try clear hx2); (try clear c3); (try clear c4); (try clear c5); (try clear p6); (try clear c17); (try clear p23); (try clear q23); (try clear hx23); (try clear c24); (try clear p24); (try clear q24); (try clear hx24); (try clear c25); (try clear p25); (try clear q25); (try clear hx25); (try clear c30); (try clear c30b0); (try clear c31); (try clear c31b0); (try clear c33); (try clear c35); (try clear c38); (try clear c40); (try clear c40b0); (try clear c40b1); (try clear c52); (try clear c52b0); (try clear c52b1); (try clear c52b2); (try clear u28_5 u28_6); (try clear u29_0 u29_1 u29_2 u29_3 u29_4 u29_5 u29_6); (try clear u36_0 u36_1 u36_2 u36_3 u36_4 u36_5 u36_6); (try clear u41_0 u41_1 u41_2 u41_3 u41_4 u41_5 u41_6); (try clear u46_0 u46_1 u46_2 u46_3 u46_4 u46_5 u46_6); (try clear u4_0 u4_1 u4_2 u4_3 u4_4 u4_5 u4_6); (try clear u51_0 u51_1 u51_2 u51_3 u51_4 u51_5 u51_6); (try clear u53_0 u53_1 u53_2 u53_3 u53_4 u53_5 u53_6); (try clear u7_0 u7_1 u7_2 u7_3 u7_4 u7_5 u7_6); (try clear u9_0 u9_1 u9_2 u9_3 u9_4 u9_5 u9_6); (try clear o18_0 o18_1 o18_2 o18_3 o18_4 o18_5 o18_6); (try clear o21_0 o21_1 o21_2 o21_3 o21_4 o21_5 o21_6); (try clear o24_0 o24_1 o24_2 o24_3 o24_4 o24_5 o24_6); (try clear o26_0 o26_1 o26_2 o26_3 o26_4 o26_5 o26_6); (try clear o28_0 o28_1 o28_2 o28_3 o28_4 o28_5 o28_6); (try clear o29_0 o29_1 o29_2 o29_3 o29_4 o29_5 o29_6); (try clear o36_0 o36_1 o36_2 o36_3 o36_4 o36_5 o36_6); (try clear o41_0 o41_1 o41_2 o41_3 o41_4 o41_5 o41_6); (try clear o46_0 o46_1 o46_2 o46_3 o46_4 o46_5 o46_6); (try clear o4_0 o4_1 o4_2 o4_3 o4_4 o4_5 o4_6); (try clear o51_0 o51_1 o51_2 o51_3 o51_4 o51_5 o51_6); (try clear o53_0 o53_1 o53_2 o53_3 o53_4 o53_5 o53_6); (try clear o7_0 o7_1 o7_2 o7_3 o7_4 o7_5 o7_6); (try clear o9_0 o9_1 o9_2 o9_3 o9_4 o9_5 o9_6); (try clear hx239_0); (try clear hx242_0); (try clear hx244_0); (try clear hx244_1); (try clear hx244_2); (try clear hx244_3); (try clear hx244_4); (try clear hx244_5); (try clear hx244_6); (try clear hx246_0); (try clear hx246_1); (try clear hx246_2); (try clear hx246_3); (try clear hx246_4); (try clear hx246_5); (try clear hx246_6); (try clear hx248_0); (try clear hx248_1); (try clear hx248_2); (try clear hx248_3); (try clear hx248_4); (try clear hx248_5); (try clear hx248_6); (try clear hx252_0); (try clear hx252_1); (try clear hx252_2); (try clear hx252_3); (try clear hx252_4); (try clear hx252_5); (try clear hx252_6); (try clear p239); (try clear p242); (try clear p244); (try clear p246); (try clear p248); (try clear p252); (try clear q239); (try clear q242); (try clear q244); (try clear q246); (try clear q248); (try clear q252); obtain ⟨x7_3, rfl, HA, HK3, BK238, HB⟩ := hrel
             cases gk with
             | zero => exact absurd HA.out (by simp [rf_Check.l2])
             | succ k3 =>
              have H := HA.out; clear HA
              simp only [rf_Check.l2] at H
              by_cases c54 : x7_3 < (l0_2.length : Int)
              ·rw [if_pos c54] at H
               have c54b0 : decide (x7_3 < (l0_2.length : Int)) = true := decide_eq_true c54
               clear c54
               by_cases c55 : 0 ≤ x7_3
               ·rw [if_pos c55] at H
                have c55b0 : decide (0 ≤ x7_3) = true := decide_eq_true c55
                clear c55; replace H := Option.bind_eq_some_iff.mp H; obtain ⟨t255, A560, H⟩ := H
                try dsimp only at H
                have A56 := Sd.mk A560; clear A560
                by_cases c57 : t255 = true
                ·subst c57
                 have H1 : (rf_Check.l2 k3 (wrap64 (x7_3 + 1)) l0_0 l0_1 l0_2 l0_3 a0_4 a0_5 a0_6) = some r := by rw [if_pos rfl] at H; exact H
                 clear H; have H := H1; clear H1; have H' := Sd.mk H; clear H; obtain ⟨u58_0, u58_1, u58_2, u58_3, u58_4, u58_5, u58_6, o58_0, o58_1, o58_2, o58_3, o58_4, o58_5, o58_6⟩ := bc7 (w := wr) BK238.out
                 have p254 : 0 ≤ (x7_3 : Int) := tB
                 have q254 : x7_3 < (l0_2.length : Int) := tB
                 obtain ⟨ad254, e254, hx254_0, hx254_1⟩ := at_T27 HR0_2.out x7_3 p254 q254; cases e254; replace hx254_0 := cU HB hx254_0; replace hx254_1 := cU HB hx254_1; replace p254 := eq_true p254; replace q254 := eq_true q254
                 go_wp2_with (first | ((with_reducible refine gate_callee (f := 173) rfl ?_); refine goesL_ (some 111) rfl rfl Tryz.func173 (by kernel_rfl) rfl #[.agg #[.int .i64 ((rd_T27 l0_2 x7_3).f0), .int .i64 ((rd_T27 l0_2 x7_3).f1)], .int .i64 0, .int .i64 1000] rfl tM ?_; (with_reducible refine (rf_within.calls ((rd_T27 l0_2 x7_3).f0) ((rd_T27 l0_2 x7_3).f1) 0 1000 true _ A56.out).mono ?_); rintro e w59 ⟨rfl, hb⟩; refine ⟨_, rfl, ?_⟩; replace BK238 := Sd.mk (blk_below (bkA BK238.out) hb); replace HB := Sd.mk (below_step (bBl HB.out) hb); (try clear hb); (try clear hb2); (try clear hk); (try clear hi)))
                 go_roundg k3
                 case measure => have := HK1.out; have := HK2.out; have := HK3.out; omega
                 case rel => exact ⟨(wrap64 (x7_3 + 1)), tS, H', ⟨by have := HK1.out; have := HK2.out; have := HK3.out; omega⟩, ⟨bkA BK238.out⟩, ⟨bBl HB.out⟩⟩
                ·replace c57 := Bool.eq_false_iff.mpr c57
                 subst c57
                 have H1 : (some 1) = some r := by rw [if_neg (show ¬ (false = true) by decide)] at H; exact H
                 clear H; have H := H1; clear H1; obtain rfl := Option.some.inj H; obtain ⟨u60_0, u60_1, u60_2, u60_3, u60_4, u60_5, u60_6, o60_0, o60_1, o60_2, o60_3, o60_4, o60_5, o60_6⟩ := bc7 (w := wr) BK238.out
                 have p254 : 0 ≤ (x7_3 : Int) := tB
                 have q254 : x7_3 < (l0_2.length : Int) := tB
                 obtain ⟨ad254, e254, hx254_0, hx254_1⟩ := at_T27 HR0_2.out x7_3 p254 q254; cases e254; replace hx254_0 := cU HB hx254_0; replace hx254_1 := cU HB hx254_1; replace p254 := eq_true p254; replace q254 := eq_true q254
                 go_wp2_with (first | ((with_reducible refine gate_callee (f := 173) rfl ?_); refine goesL_ (some 111) rfl rfl Tryz.func173 (by kernel_rfl) rfl #[.agg #[.int .i64 ((rd_T27 l0_2 x7_3).f0), .int .i64 ((rd_T27 l0_2 x7_3).f1)], .int .i64 0, .int .i64 1000] rfl tM ?_; (with_reducible refine (rf_within.calls ((rd_T27 l0_2 x7_3).f0) ((rd_T27 l0_2 x7_3).f1) 0 1000 false _ A56.out).mono ?_); rintro e w61 ⟨rfl, hb⟩; refine ⟨_, rfl, ?_⟩; replace BK238 := Sd.mk (blk_below (bkA BK238.out) hb); replace HB := Sd.mk (below_step (bBl HB.out) hb); (try clear hb); (try clear hb2); (try clear hk); (try clear hi)))
                 go_ret
                 exact ⟨tE, bBl HB.out⟩
               ·rw [if_neg c55] at H
                exact absurd H (by simp)
              ·rw [if_neg c54] at H
               have c54b0 : decide (x7_3 < (l0_2.length : Int)) = false := decide_eq_false c54
               clear c54
               by_cases c62 : (l0_3.length : Int) > 6
               ·rw [if_pos c62] at H
                have c62b0 : decide (6 < (l0_3.length : Int)) = true := decide_eq_true c62
                have c62b1 : decide (6 < l0_3.length) = true := decide_eq_true (by omega)
                clear c62; obtain rfl := Option.some.inj H; obtain ⟨u63_0, u63_1, u63_2, u63_3, u63_4, u63_5, u63_6, o63_0, o63_1, o63_2, o63_3, o63_4, o63_5, o63_6⟩ := bc7 (w := wr) BK238.out
                go_wp2
                go_ret
                exact ⟨tE, bBl HB.out⟩
               ·rw [if_neg c62] at H
                have c62b0 : decide (6 < (l0_3.length : Int)) = false := decide_eq_false c62
                have c62b1 : decide (6 < l0_3.length) = false := decide_eq_false (by omega)
                clear c62; have H' := Sd.mk H; clear H; obtain ⟨u64_0, u64_1, u64_2, u64_3, u64_4, u64_5, u64_6, o64_0, o64_1, o64_2, o64_3, o64_4, o64_5, o64_6⟩ := bc7 (w := wr) BK238.out
                go_wp2
                go_loopg [4, 8] k3 (fun kq v4 v8 w' => ∃ (x4_4 : List ByteArray) (x8_4 : Int), v8 = .int .i64 x8_4 ∧ Sd (rf_Check.l3 kq x4_4 x8_4 l0_0 l0_1 l0_2 l0_3 a0_4 a0_5 a0_6 = some r) ∧ Sd (kq ≤ k3) ∧ Sd (Kd.R Kd.string 9 w' w.heap.size (fun _ => True) v4 x4_4) ∧ Sd (w'.heap[gb238]? = some (.cells #[(.slice A0_0 l0_0.length c0_0), (.slice A0_1 l0_1.length c0_1), (.slice A0_2 l0_2.length c0_2), (.slice A0_3 l0_3.length c0_3), .int .i64 a0_4, .int .i64 a0_5, .int .i64 a0_6] 29 (0, 0))) ∧ Sd (Below w.heap.size w w'))
                case atStart => exact ⟨(([] : List ByteArray)), (0), tS, H', ⟨Nat.le_refl _⟩, ⟨by first | exact Kd.R_nil _ _ _ _ _ | exact Kd.N_nil _ _ _ _ _ | exact Kd.V_nil _ _ _ _ _ | exact Kd.Q_nil _ _ _ _ _ | exact Kd.S_nil _ _ _ _ _⟩, ⟨bkA BK238.out⟩, ⟨bBl HB.out⟩⟩
                case round =>
                 clear H'; (try clear c1); (try clear c2); (try clear p2 p2); (try clear q2 q2); (try clear hx2); (try clear c3); (try clear c4); (try clear c5); (try clear c6); (try clear p6 p6); (try clear c17); (try clear p23 p23); (try clear q23 q23); (try clear hx23); (try clear c24); (try clear p24 p24); (try clear q24 q24); (try clear hx24); (try clear c25); (try clear p25 p25); (try clear q25 q25); (try clear hx25); (try clear c30); (try clear c30b0); (try clear c31); (try clear c31b0); (try clear c33); (try clear c35); (try clear c38); (try clear c40); (try clear c40b0); (try clear c40b1); (try clear c52); (try clear c52b0); (try clear c52b1); (try clear c52b2); (try clear c54); (try clear c54b0); (try clear c55); (try clear c55b0); (try clear c57); (try clear c62); (try clear c62b0); (try clear c62b1); (try clear p64); (try clear u28_5 u28_6); (try clear u29_0 u29_1 u29_2 u29_3 u29_4 u29_5 u29_6); (try clear u36_0 u36_1 u36_2 u36_3 u36_4 u36_5 u36_6); (try clear u41_0 u41_1 u41_2 u41_3 u41_4 u41_5 u41_6); (try clear u46_0 u46_1 u46_2 u46_3 u46_4 u46_5 u46_6); (try clear u4_0 u4_1 u4_2 u4_3 u4_4 u4_5 u4_6); (try clear u51_0 u51_1 u51_2 u51_3 u51_4 u51_5 u51_6); (try clear u53_0 u53_1 u53_2 u53_3 u53_4 u53_5 u53_6); (try clear u58_0 u58_1 u58_2 u58_3 u58_4 u58_5 u58_6); (try clear u60_0 u60_1 u60_2 u60_3 u60_4 u60_5 u60_6); (try clear u63_0 u63_1 u63_2 u63_3 u63_4 u63_5 u63_6); (try clear u64_0 u64_1 u64_2 u64_3 u64_4 u64_5 u64_6); (try clear u7_0 u7_1 u7_2 u7_3 u7_4 u7_5 u7_6); (try clear u9_0 u9_1 u9_2 u9_3 u9_4 u9_5 u9_6); (try clear o18_0 o18_1 o18_2 o18_3 o18_4 o18_5 o18_6); (try clear o21_0 o21_1 o21_2 o21_3 o21_4 o21_5 o21_6); (try clear o24_0 o24_1 o24_2 o24_3 o24_4 o24_5 o24_6); (try clear o26_0 o26_1 o26_2 o26_3 o26_4 o26_5 o26_6); (try clear o28_0 o28_1 o28_2 o28_3 o28_4 o28_5 o28_6); (try clear o29_0 o29_1 o29_2 o29_3 o29_4 o29_5 o29_6); (try clear o36_0 o36_1 o36_2 o36_3 o36_4 o36_5 o36_6); (try clear o41_0 o41_1 o41_2 o41_3 o41_4 o41_5 o41_6); (try clear o46_0 o46_1 o46_2 o46_3 o46_4 o46_5 o46_6); (try clear o4_0 o4_1 o4_2 o4_3 o4_4 o4_5 o4_6); (try clear o51_0 o51_1 o51_2 o51_3 o51_4 o51_5 o51_6); (try clear o53_0 o53_1 o53_2 o53_3 o53_4 o53_5 o53_6); (try clear o58_0 o58_1 o58_2 o58_3 o58_4 o58_5 o58_6); (try clear o60_0 o60_1 o60_2 o60_3 o60_4 o60_5 o60_6); (try clear o63_0 o63_1 o63_2 o63_3 o63_4 o63_5 o63_6); (try clear o64_0 o64_1 o64_2 o64_3 o64_4 o64_5 o64_6); (try clear o7_0 o7_1 o7_2 o7_3 o7_4 o7_5 o7_6); (try clear o9_0 o9_1 o9_2 o9_3 o9_4 o9_5 o9_6); (try clear hx239_0); (try clear hx242_0); (try clear hx244_0); (try clear hx244_1); (try clear hx244_2); (try clear hx244_3); (try clear hx244_4); (try clear hx244_5); (try clear hx244_6); (try clear hx246_0); (try clear hx246_1); (try clear hx246_2); (try clear hx246_3); (try clear hx246_4); (try clear hx246_5); (try clear hx246_6); (try clear hx248_0); (try clear hx248_1); (try clear hx248_2); (try clear hx248_3); (try clear hx248_4); (try clear hx248_5); (try clear hx248_6); (try clear hx252_0); (try clear hx252_1); (try clear hx252_2); (try clear hx252_3); (try clear hx252_4); (try clear hx252_5); (try clear hx252_6); (try clear hx254_0); (try clear hx254_1); (try clear p239); (try clear p242); (try clear p244); (try clear p246); (try clear p248); (try clear p252); (try clear p254); (try clear q239); (try clear q242); (try clear q244); (try clear q246); (try clear q248); (try clear q252); (try clear q254); obtain ⟨x4_4, x8_4, rfl, HA, HK4, HO_4, BK238, HB⟩ := hrel
                 cases gk with
                 | zero => exact absurd HA.out (by simp [rf_Check.l3])
                 | succ k4 =>
                  have H := HA.out; clear HA
                  simp only [rf_Check.l3] at H
                  by_cases c65 : x8_4 < (l0_3.length : Int)
                  ·rw [if_pos c65] at H
                   have c65b0 : decide (x8_4 < (l0_3.length : Int)) = true := decide_eq_true c65
                   clear c65
                   by_cases c66 : 0 ≤ x8_4
                   ·rw [if_pos c66] at H
                    have c66b0 : decide (0 ≤ x8_4) = true := decide_eq_true c66
                    clear c66; replace H := Option.bind_eq_some_iff.mp H; obtain ⟨t258, A670, H⟩ := H
                    try dsimp only at H
                    have A67 := Sd.mk A670; clear A670
                    by_cases c68 : t258 = true
                    ·subst c68
                     have H1 : ((rf_in.f k4 x4_4 ((rd_T89 l0_3 x8_4).f0)).bind fun t260 => (if t260 = true then (some 6) else (if x4_4.length < 8796093022208 then ((rf_property.f k4 l0_0 l0_1 l0_2 l0_3 a0_4 a0_5 a0_6 ((rd_T89 l0_3 x8_4).f0) ((rd_T89 l0_3 x8_4).f1) ((rd_T89 l0_3 x8_4).f2.f0) ((rd_T89 l0_3 x8_4).f2.f1)).bind fun t266 => (if t266 = 0 then (rf_Check.l3 k4 (x4_4 ++ [(rd_T89 l0_3 x8_4).f0]) (wrap64 (x8_4 + 1)) l0_0 l0_1 l0_2 l0_3 a0_4 a0_5 a0_6) else (some t266))) else (none)))) = some r := by rw [if_pos rfl] at H; exact H
                     clear H; have H := H1; clear H1; replace H := Option.bind_eq_some_iff.mp H; obtain ⟨t260, A690, H⟩ := H
                     try dsimp only at H
                     have A69 := Sd.mk A690; clear A690
                     by_cases c70 : t260 = true
                     ·subst c70
                      have H1 : (some 6) = some r := by rw [if_pos rfl] at H; exact H
                      clear H; have H := H1; clear H1; obtain rfl := Option.some.inj H; obtain ⟨u71_0, u71_1, u71_2, u71_3, u71_4, u71_5, u71_6, o71_0, o71_1, o71_2, o71_3, o71_4, o71_5, o71_6⟩ := bc7 (w := wr) BK238.out
                      have p257 : 0 ≤ (x8_4 : Int) := tB
                      have q257 : x8_4 < (l0_3.length : Int) := tB
                      obtain ⟨ad257, A257_1, c257_1, e257, hx257_0, hx257_1, hx257_2, hx257_3, hl257_1, hi257_1⟩ := at_T89 HR0_3.out x8_4 p257 q257; cases e257; replace hx257_0 := cU HB hx257_0; replace hx257_1 := cU HB hx257_1; replace hx257_2 := cU HB hx257_2; replace hx257_3 := cU HB hx257_3; have HR257_1 := Sd.mk hi257_1; have HC257_1 := Sd.mk hl257_1; clear hi257_1 hl257_1; replace p257 := eq_true p257; replace q257 := eq_true q257
                      go_wp2_with (first | ((with_reducible refine gate_callee (f := 170) rfl ?_); refine goesL_ (some 130) rfl rfl Tryz.func170 (by kernel_rfl) rfl #[.string ((rd_T89 l0_3 x8_4).f0)] rfl tM ?_; (with_reducible refine (rf_Name.calls k4 ((rd_T89 l0_3 x8_4).f0) true _ A67.out).mono ?_); rintro e w' ⟨rfl, ⟨nd, rfl⟩⟩; refine ⟨_, rfl, ?_⟩; have p259 : 0 ≤ (x8_4 : Int) := tB; have q259 : x8_4 < (l0_3.length : Int) := tB; obtain ⟨ad259, A259_1, c259_1, e259, hx259_0, hx259_1, hx259_2, hx259_3, hl259_1, hi259_1⟩ := at_T89 HR0_3.out x8_4 p259 q259; obtain rfl : ad257 = ad259 := (by injection e259); replace hx259_0 := cU HB hx259_0; replace hx259_1 := cU HB hx259_1; replace hx259_2 := cU HB hx259_2; replace hx259_3 := cU HB hx259_3; have HR259_1 := Sd.mk hi259_1; have HC259_1 := Sd.mk hl259_1; clear hi259_1 hl259_1; replace p259 := eq_true p259; replace q259 := eq_true q259; have ea_ := Option.some.inj (hx257_1.symm.trans hx259_1); injection ea_ with ea_ en_ ec_; subst ea_; subst ec_; clear en_; obtain ⟨Ao72, co72, eo72⟩ := Kd.R_slice HO_4.out; subst eo72) | ((with_reducible refine gate_callee (f := 171) rfl ?_); refine goesL_ (some 139) rfl rfl Tryz.func171 (by kernel_rfl) rfl #[.slice Ao72 x4_4.length co72, .string ((rd_T89 l0_3 x8_4).f0)] rfl tM ?_; (with_reducible refine (rf_in.calls k4 _ _ x4_4 ((rd_T89 l0_3 x8_4).f0) true _ (cS ((Kd.R_reads' HO_4.out).2.2)) ((Kd.R_reads' HO_4.out).2.1) A69.out).mono ?_); rintro e w' ⟨rfl, ⟨nd, rfl⟩⟩; refine ⟨_, rfl, ?_⟩))
                      go_ret
                      exact ⟨tE, bBl HB.out⟩
                     ·replace c70 := Bool.eq_false_iff.mpr c70
                      subst c70
                      have H1 : (if x4_4.length < 8796093022208 then ((rf_property.f k4 l0_0 l0_1 l0_2 l0_3 a0_4 a0_5 a0_6 ((rd_T89 l0_3 x8_4).f0) ((rd_T89 l0_3 x8_4).f1) ((rd_T89 l0_3 x8_4).f2.f0) ((rd_T89 l0_3 x8_4).f2.f1)).bind fun t266 => (if t266 = 0 then (rf_Check.l3 k4 (x4_4 ++ [(rd_T89 l0_3 x8_4).f0]) (wrap64 (x8_4 + 1)) l0_0 l0_1 l0_2 l0_3 a0_4 a0_5 a0_6) else (some t266))) else (none)) = some r := by rw [if_neg (show ¬ (false = true) by decide)] at H; exact H
                      clear H; have H := H1; clear H1
                      by_cases c73 : x4_4.length < 8796093022208
                      ·rw [if_pos c73] at H
                       have LMc73 := Sd.mk c73; clear c73
                       obtain ⟨y262, hy262⟩ : ∃ y_ : List ByteArray, y_ = (x4_4 ++ [(rd_T89 l0_3 x8_4).f0]) := ⟨_, rfl⟩
                       replace H : ((rf_property.f k4 l0_0 l0_1 l0_2 l0_3 a0_4 a0_5 a0_6 ((rd_T89 l0_3 x8_4).f0) ((rd_T89 l0_3 x8_4).f1) ((rd_T89 l0_3 x8_4).f2.f0) ((rd_T89 l0_3 x8_4).f2.f1)).bind fun t266 => (if t266 = 0 then (rf_Check.l3 k4 y262 (wrap64 (x8_4 + 1)) l0_0 l0_1 l0_2 l0_3 a0_4 a0_5 a0_6) else (some t266))) = some r := by first | (rw [hy262]; with_reducible exact H) | (have H2_ := (Option.bind_some _ _).symm.trans H; rw [hy262]; with_reducible exact H2_) | (have H2_ := (Option.bind_some _ _).symm.trans H; with_reducible exact H2_) | with_reducible exact H | (rw [hy262]; exact H) | exact H
                       have Ny262 := Sd.mk hy262; clear hy262; replace H := Option.bind_eq_some_iff.mp H; obtain ⟨t266, A740, H⟩ := H
                       try dsimp only at H
                       have A74 := Sd.mk A740; clear A740
                       have H' := Sd.mk H; clear H; obtain ⟨u76_0, u76_1, u76_2, u76_3, u76_4, u76_5, u76_6, o76_0, o76_1, o76_2, o76_3, o76_4, o76_5, o76_6⟩ := bc7 (w := wr) BK238.out
                       have p257 : 0 ≤ (x8_4 : Int) := tB
                       have q257 : x8_4 < (l0_3.length : Int) := tB
                       obtain ⟨ad257, A257_1, c257_1, e257, hx257_0, hx257_1, hx257_2, hx257_3, hl257_1, hi257_1⟩ := at_T89 HR0_3.out x8_4 p257 q257; cases e257; replace hx257_0 := cU HB hx257_0; replace hx257_1 := cU HB hx257_1; replace hx257_2 := cU HB hx257_2; replace hx257_3 := cU HB hx257_3; have HR257_1 := Sd.mk hi257_1; have HC257_1 := Sd.mk hl257_1; clear hi257_1 hl257_1; replace p257 := eq_true p257; replace q257 := eq_true q257
                       try go_wp2_with (first | ((with_reducible refine gate_callee (f := 170) rfl ?_); refine goesL_ (some 130) rfl rfl Tryz.func170 (by kernel_rfl) rfl #[.string ((rd_T89 l0_3 x8_4).f0)] rfl tM ?_; (with_reducible refine (rf_Name.calls k4 ((rd_T89 l0_3 x8_4).f0) true _ A67.out).mono ?_); rintro e w' ⟨rfl, ⟨nd, rfl⟩⟩; refine ⟨_, rfl, ?_⟩; have p259 : 0 ≤ (x8_4 : Int) := tB; have q259 : x8_4 < (l0_3.length : Int) := tB; obtain ⟨ad259, A259_1, c259_1, e259, hx259_0, hx259_1, hx259_2, hx259_3, hl259_1, hi259_1⟩ := at_T89 HR0_3.out x8_4 p259 q259; obtain rfl : ad257 = ad259 := (by injection e259); replace hx259_0 := cU HB hx259_0; replace hx259_1 := cU HB hx259_1; replace hx259_2 := cU HB hx259_2; replace hx259_3 := cU HB hx259_3; have HR259_1 := Sd.mk hi259_1; have HC259_1 := Sd.mk hl259_1; clear hi259_1 hl259_1; replace p259 := eq_true p259; replace q259 := eq_true q259; have ea_ := Option.some.inj (hx257_1.symm.trans hx259_1); injection ea_ with ea_ en_ ec_; subst ea_; subst ec_; clear en_; obtain ⟨Ao77, co77, eo77⟩ := Kd.R_slice HO_4.out; subst eo77) | ((with_reducible refine gate_callee (f := 171) rfl ?_); refine goesL_ (some 139) rfl rfl Tryz.func171 (by kernel_rfl) rfl #[.slice Ao77 x4_4.length co77, .string ((rd_T89 l0_3 x8_4).f0)] rfl tM ?_; (with_reducible refine (rf_in.calls k4 _ _ x4_4 ((rd_T89 l0_3 x8_4).f0) false _ (cS ((Kd.R_reads' HO_4.out).2.2)) ((Kd.R_reads' HO_4.out).2.1) A69.out).mono ?_); rintro e w' ⟨rfl, ⟨nd, rfl⟩⟩; refine ⟨_, rfl, ?_⟩; have p261 : 0 ≤ (x8_4 : Int) := tB; have q261 : x8_4 < (l0_3.length : Int) := tB; obtain ⟨ad261, A261_1, c261_1, e261, hx261_0, hx261_1, hx261_2, hx261_3, hl261_1, hi261_1⟩ := at_T89 HR0_3.out x8_4 p261 q261; obtain rfl : ad257 = ad261 := (by injection e261); replace hx261_0 := cU HB hx261_0; replace hx261_1 := cU HB hx261_1; replace hx261_2 := cU HB hx261_2; replace hx261_3 := cU HB hx261_3; have HR261_1 := Sd.mk hi261_1; have HC261_1 := Sd.mk hl261_1; clear hi261_1 hl261_1; replace p261 := eq_true p261; replace q261 := eq_true q261; have ea_ := Option.some.inj (hx257_1.symm.trans hx261_1); injection ea_ with ea_ en_ ec_; subst ea_; subst ec_; clear en_) | ((with_reducible refine gate_builtin (b := .append) (xs := #[.tmp 140, .tmp 147]) rfl ?_); at_builtin; refine Kd.R_append Kd.string (w0 := w) w.heap.size rfl (.tmp 140) (.tmp 147) 22 9 (.string ⟨#[]⟩) 16 rfl Tryz.underlying22 info9 rfl (by decide) (by omega) (.slice Ao77 x4_4.length co77) x4_4 ((rd_T89 l0_3 x8_4).f0) [.string ((rd_T89 l0_3 x8_4).f0)] (fun _ => True) (fun _ => False) rfl rfl ?aP (fun _ hk => hk.elim) ?aF ?aO ?aB ?aS ?aL ?_; (case aP => exact rfl); (case aB => exact (bBl HB.out)); (case aF => exact (fun _ _ => trivial)); (case aO => exact (by (with_reducible repeat (first | apply Kd.R_alloc | apply Kd.R_drewN | apply Kd.R_drew)); exact HO_4.out)); (case aS => exact (below_size (bBl HB.out))); (case aL => have := LMc73.out; omega); intro v263 w78 ho hb hg hat; rw [← Ny262.out] at ho; replace BK238 := Sd.mk (blk_grown (bkA BK238.out) hg (Kd.R_ne HO_4.out BK238.out (by decide))); replace HB := Sd.mk (hb); have HO264 := Sd.mk (ho); clear HO_4; clear ho hb hg hat))
                       replace HO264 := Sd.mk (Kd.R_drew HO264.out); replace BK238 := Sd.mk (blk_drew BK238.out); replace HB := Sd.mk (below_drew1 HB.out)
                       have p265 : 0 ≤ (x8_4 : Int) := tB
                       have q265 : x8_4 < (l0_3.length : Int) := tB
                       obtain ⟨ad265, A265_1, c265_1, e265, hx265_0, hx265_1, hx265_2, hx265_3, hl265_1, hi265_1⟩ := at_T89 HR0_3.out x8_4 p265 q265; have hw265_3 := hx265_3; have hw265_2 := hx265_2; have hw265_1 := hx265_1; have hw265_0 := hx265_0
                       obtain rfl : ad257 = ad265 := (by injection e265)
                       replace hx265_0 := cU HB hx265_0; replace hx265_1 := cU HB hx265_1; replace hx265_2 := cU HB hx265_2; replace hx265_3 := cU HB hx265_3; have HR265_1 := Sd.mk hi265_1; have HC265_1 := Sd.mk hl265_1; clear hi265_1 hl265_1; replace p265 := eq_true p265; replace q265 := eq_true q265
                       refine start_ (n := 8) (S := fun w' => w'.cell? ⟨gb238, 0, none⟩ = some (.slice A0_0 l0_0.length c0_0) ∧ w'.cell? ⟨gb238, 1, none⟩ = some (.slice A0_1 l0_1.length c0_1) ∧ w'.cell? ⟨gb238, 2, none⟩ = some (.slice A0_2 l0_2.length c0_2) ∧ w'.cell? ⟨gb238, 3, none⟩ = some (.slice (some ad257) l0_3.length c0_3) ∧ w'.cell? ⟨gb238, 4, none⟩ = some (.int .i64 a0_4) ∧ w'.cell? ⟨gb238, 5, none⟩ = some (.int .i64 a0_5) ∧ w'.cell? ⟨gb238, 6, none⟩ = some (.int .i64 a0_6) ∧ w'.cell? (ad257.add ((x8_4).toNat * 4)) = some (.string ((rd_T89 l0_3 x8_4).f0)) ∧ w'.cell? ⟨(ad257.add ((x8_4).toNat * 4)).block, (ad257.add ((x8_4).toNat * 4)).off + 1, none⟩ = some (.slice A265_1 ((rd_T89 l0_3 x8_4).f1).length c265_1) ∧ w'.cell? ⟨(ad257.add ((x8_4).toNat * 4)).block, (ad257.add ((x8_4).toNat * 4)).off + 2, none⟩ = some (.int .i64 ((rd_T89 l0_3 x8_4).f2.f0)) ∧ w'.cell? ⟨(ad257.add ((x8_4).toNat * 4)).block, (ad257.add ((x8_4).toNat * 4)).off + 3, none⟩ = some (.int .i64 ((rd_T89 l0_3 x8_4).f2.f1))) (ds := []) (bA 8 0) (by kernel_rfl) rfl rfl ⟨(blk_cell BK238.out 0).trans rfl, (blk_cell BK238.out 1).trans rfl, (blk_cell BK238.out 2).trans rfl, (blk_cell BK238.out 3).trans rfl, (blk_cell BK238.out 4).trans rfl, (blk_cell BK238.out 5).trans rfl, (blk_cell BK238.out 6).trans rfl, (cU HB hw265_0 :), (cU HB hw265_1 :), (cU HB hw265_2 :), (cU HB hw265_3 :)⟩ (fun hHeld => ?_); refine with_tabW rf_Check.tab46 rf_Check.bits46 (fun HT_ HW_ => ?_)
                       generalize w78.drew = w79 at HO264 BK238 HB HR265_1 hx265_0 hx265_1 hx265_2 hx265_3 hHeld ⊢
                       refine pQ 1 (some 150) (bA 8 2) ?_
                       refine pQ 3 (some 152) (bA 8 10) ?_
                       refine tQ 0 (some 149) (bA 8 11) ?_
                       refine tQ 2 (some 151) (bA 8 15) ?_
                       refine pQ 4 (some 153) (bA 8 31) ?_
                       refine tQ 5 (some 154) (bA 8 63) ?_
                       refine one_ (i := 6) (N := some 155) (bA 8 127) rfl rfl (one_of HT_.out (by kernel_rfl)) (by decide) (fun K hK => ?_)
                       refine goes_ Tryz.func174 (by kernel_rfl) rfl #[.agg #[.slice A0_0 l0_0.length c0_0, .slice A0_1 l0_1.length c0_1, .slice A0_2 l0_2.length c0_2, .slice (some ad257) l0_3.length c0_3, .int .i64 a0_4, .int .i64 a0_5, .int .i64 a0_6], .agg #[.string ((rd_T89 l0_3 x8_4).f0), .slice A265_1 ((rd_T89 l0_3 x8_4).f1).length c265_1, .int .i64 ((rd_T89 l0_3 x8_4).f2.f0), .int .i64 ((rd_T89 l0_3 x8_4).f2.f1)]] (by rfl) rfl rfl tM ?_
                       with_reducible refine (rf_property.calls k4 _ _ l0_0 _ _ l0_1 _ _ l0_2 _ _ l0_3 a0_4 a0_5 a0_6 ((rd_T89 l0_3 x8_4).f0) _ _ ((rd_T89 l0_3 x8_4).f1) ((rd_T89 l0_3 x8_4).f2.f0) ((rd_T89 l0_3 x8_4).f2.f1) t266 _ ?side1 ?side2 ?side3 ?side4 ?side5 ?side6 ?side7 ?side8 ?side9 ?side10 A74.out).mono ?_
                       (case side1 => exact cS (Kd.C_below HR0_0.out HB.out))
                       (case side2 => exact HC0_0.out)
                       (case side3 => exact cS (Kd.C_below HR0_1.out HB.out))
                       (case side4 => exact HC0_1.out)
                       (case side5 => exact cS (Kd.C_below HR0_2.out HB.out))
                       (case side6 => exact HC0_2.out)
                       (case side7 => exact cS (Kd.C_below HR0_3.out HB.out))
                       (case side8 => exact HC0_3.out)
                       (case side9 => exact cS (Kd.C_below HR265_1.out HB.out))
                       (case side10 => exact HC265_1.out)
                       rintro e w80 ⟨rfl, hb⟩
                       refine ⟨_, rfl, ?_⟩
                       replace HO264 := Sd.mk (Kd.R_below (by (with_reducible repeat (first | apply Kd.R_alloc | apply Kd.R_drewN | apply Kd.R_drew)); exact HO264.out) hb)
                       replace BK238 := Sd.mk (blk_below (bkA BK238.out) hb); replace HB := Sd.mk (below_step (bBl HB.out) hb)
                       (try clear hb)
                       (try clear hb2)
                       (try clear hk)
                       (try clear hi)
                       refine hK.out _ _ ⟨(blk_cell BK238.out 0).trans rfl, (blk_cell BK238.out 1).trans rfl, (blk_cell BK238.out 2).trans rfl, (blk_cell BK238.out 3).trans rfl, (blk_cell BK238.out 4).trans rfl, (blk_cell BK238.out 5).trans rfl, (blk_cell BK238.out 6).trans rfl, (cU HB hw265_0 :), (cU HB hw265_1 :), (cU HB hw265_2 :), (cU HB hw265_3 :)⟩ (fun hHeld => ?_)
                       clear hK K
                       refine norm_ (a' := ?_) ?_ ?_
                       rotate_left
                       ·show Act.put _ (some 155) _ = _
                        exact tP
                       refine pQ 7 (some 9) (bA 8 255) ?_
                       refine done_ (done_of HT_.out (by kernel_rfl)) ?_
                       have H := H'.out; clear H'
                       by_cases c75 : t266 = 0
                       ·rw [if_pos c75] at H
                        have c75b0 : (t266 == 0) = true := beq_iff_eq.mpr c75
                        have c75b1 : (t266 != 0) = false := bne_eq_false_iff_eq.mpr c75
                        clear c75; have H' := Sd.mk H; clear H
                        try go_wp2
                        go_roundg k4
                        case measure => have := HK1.out; have := HK2.out; have := HK3.out; have := HK4.out; omega
                        case rel => exact ⟨(y262), (wrap64 (x8_4 + 1)), tS, H', ⟨by have := HK1.out; have := HK2.out; have := HK3.out; have := HK4.out; omega⟩, ⟨by (with_reducible repeat (first | apply Kd.R_alloc | apply Kd.R_drewN | apply Kd.R_drew)); exact HO264.out⟩, ⟨bkA BK238.out⟩, ⟨bBl HB.out⟩⟩
                       ·rw [if_neg c75] at H
                        have c75b0 : (t266 == 0) = false := beq_eq_false_iff_ne.mpr c75
                        have c75b1 : (t266 != 0) = true := bne_iff_ne.mpr c75
                        obtain rfl := Option.some.inj H
                        try go_wp2
                        go_ret
                        exact ⟨tE, bBl HB.out⟩
                      ·rw [if_neg c73] at H
                       exact absurd H (by simp)
                    ·replace c68 := Bool.eq_false_iff.mpr c68
                     subst c68
                     have H1 : (some 5) = some r := by rw [if_neg (show ¬ (false = true) by decide)] at H; exact H
                     clear H; have H := H1; clear H1; obtain rfl := Option.some.inj H; obtain ⟨u86_0, u86_1, u86_2, u86_3, u86_4, u86_5, u86_6, o86_0, o86_1, o86_2, o86_3, o86_4, o86_5, o86_6⟩ := bc7 (w := wr) BK238.out
                     have p257 : 0 ≤ (x8_4 : Int) := tB
                     have q257 : x8_4 < (l0_3.length : Int) := tB
                     obtain ⟨ad257, A257_1, c257_1, e257, hx257_0, hx257_1, hx257_2, hx257_3, hl257_1, hi257_1⟩ := at_T89 HR0_3.out x8_4 p257 q257; cases e257; replace hx257_0 := cU HB hx257_0; replace hx257_1 := cU HB hx257_1; replace hx257_2 := cU HB hx257_2; replace hx257_3 := cU HB hx257_3; have HR257_1 := Sd.mk hi257_1; have HC257_1 := Sd.mk hl257_1; clear hi257_1 hl257_1; replace p257 := eq_true p257; replace q257 := eq_true q257
                     go_wp2_with (first | ((with_reducible refine gate_callee (f := 170) rfl ?_); refine goesL_ (some 130) rfl rfl Tryz.func170 (by kernel_rfl) rfl #[.string ((rd_T89 l0_3 x8_4).f0)] rfl tM ?_; (with_reducible refine (rf_Name.calls k4 ((rd_T89 l0_3 x8_4).f0) false _ A67.out).mono ?_); rintro e w' ⟨rfl, ⟨nd, rfl⟩⟩; refine ⟨_, rfl, ?_⟩))
                     go_ret
                     exact ⟨tE, bBl HB.out⟩
                   ·rw [if_neg c66] at H
                    exact absurd H (by simp)
                  ·rw [if_neg c65] at H
                   have c65b0 : decide (x8_4 < (l0_3.length : Int)) = false := decide_eq_false c65
                   clear c65; replace H := Option.bind_eq_some_iff.mp H; obtain ⟨t256, A870, H⟩ := H
                   try dsimp only at H
                   have A87 := Sd.mk A870; clear A870
                   by_cases c88 : t256 = true
                   ·subst c88
                    have H1 : (if a0_6 < 1 then (some 1) else (if a0_6 > 10000 then (some 1) else (some 0))) = some r := by rw [if_pos rfl] at H; exact H
                    clear H; have H := H1; clear H1
                    by_cases c89 : a0_6 < 1
                    ·rw [if_pos c89] at H
                     have c89b0 : decide (a0_6 < 1) = true := decide_eq_true c89
                     clear c89; obtain rfl := Option.some.inj H; obtain ⟨u90_0, u90_1, u90_2, u90_3, u90_4, u90_5, u90_6, o90_0, o90_1, o90_2, o90_3, o90_4, o90_5, o90_6⟩ := bc7 (w := wr) BK238.out
                     go_wp2_with (first | ((with_reducible refine gate_callee (f := 173) rfl ?_); refine goesL_ (some 161) rfl rfl Tryz.func173 (by kernel_rfl) rfl #[.agg #[.int .i64 a0_4, .int .i64 a0_5], .int .i64 (-10000), .int .i64 10000] rfl tM ?_; (with_reducible refine (rf_within.calls a0_4 a0_5 (-10000) 10000 true _ A87.out).mono ?_); rintro e w91 ⟨rfl, hb⟩; refine ⟨_, rfl, ?_⟩; replace HO_4 := Sd.mk (Kd.R_below (by (with_reducible repeat (first | apply Kd.R_alloc | apply Kd.R_drewN | apply Kd.R_drew)); exact HO_4.out) hb); replace BK238 := Sd.mk (blk_below (bkA BK238.out) hb); replace HB := Sd.mk (below_step (bBl HB.out) hb); (try clear hb); (try clear hb2); (try clear hk); (try clear hi); obtain ⟨u92_0, u92_1, u92_2, u92_3, u92_4, u92_5, u92_6, o92_0, o92_1, o92_2, o92_3, o92_4, o92_5, o92_6⟩ := bc7 (w := w91) BK238.out))
                     go_ret
                     exact ⟨tE, bBl HB.out⟩
                    ·rw [if_neg c89] at H
                     have c89b0 : decide (a0_6 < 1) = false := decide_eq_false c89
                     clear c89
                     by_cases c93 : a0_6 > 10000
                     ·rw [if_pos c93] at H
                      have c93b0 : decide (10000 < a0_6) = true := decide_eq_true c93
                      clear c93; obtain rfl := Option.some.inj H; obtain ⟨u94_0, u94_1, u94_2, u94_3, u94_4, u94_5, u94_6, o94_0, o94_1, o94_2, o94_3, o94_4, o94_5, o94_6⟩ := bc7 (w := wr) BK238.out
                      go_wp2_with (first | ((with_reducible refine gate_callee (f := 173) rfl ?_); refine goesL_ (some 161) rfl rfl Tryz.func173 (by kernel_rfl) rfl #[.agg #[.int .i64 a0_4, .int .i64 a0_5], .int .i64 (-10000), .int .i64 10000] rfl tM ?_; (with_reducible refine (rf_within.calls a0_4 a0_5 (-10000) 10000 true _ A87.out).mono ?_); rintro e w95 ⟨rfl, hb⟩; refine ⟨_, rfl, ?_⟩; replace HO_4 := Sd.mk (Kd.R_below (by (with_reducible repeat (first | apply Kd.R_alloc | apply Kd.R_drewN | apply Kd.R_drew)); exact HO_4.out) hb); replace BK238 := Sd.mk (blk_below (bkA BK238.out) hb); replace HB := Sd.mk (below_step (bBl HB.out) hb); (try clear hb); (try clear hb2); (try clear hk); (try clear hi); obtain ⟨u96_0, u96_1, u96_2, u96_3, u96_4, u96_5, u96_6, o96_0, o96_1, o96_2, o96_3, o96_4, o96_5, o96_6⟩ := bc7 (w := w95) BK238.out))
                      go_ret
                      exact ⟨tE, bBl HB.out⟩
                     ·rw [if_neg c93] at H
                      have c93b0 : decide (10000 < a0_6) = false := decide_eq_false c93
                      clear c93; obtain rfl := Option.some.inj H; obtain ⟨u97_0, u97_1, u97_2, u97_3, u97_4, u97_5, u97_6, o97_0, o97_1, o97_2, o97_3, o97_4, o97_5, o97_6⟩ := bc7 (w := wr) BK238.out
                      go_wp2_with (first | ((with_reducible refine gate_callee (f := 173) rfl ?_); refine goesL_ (some 161) rfl rfl Tryz.func173 (by kernel_rfl) rfl #[.agg #[.int .i64 a0_4, .int .i64 a0_5], .int .i64 (-10000), .int .i64 10000] rfl tM ?_; (with_reducible refine (rf_within.calls a0_4 a0_5 (-10000) 10000 true _ A87.out).mono ?_); rintro e w98 ⟨rfl, hb⟩; refine ⟨_, rfl, ?_⟩; replace HO_4 := Sd.mk (Kd.R_below (by (with_reducible repeat (first | apply Kd.R_alloc | apply Kd.R_drewN | apply Kd.R_drew)); exact HO_4.out) hb); replace BK238 := Sd.mk (blk_below (bkA BK238.out) hb); replace HB := Sd.mk (below_step (bBl HB.out) hb); (try clear hb); (try clear hb2); (try clear hk); (try clear hi); obtain ⟨u99_0, u99_1, u99_2, u99_3, u99_4, u99_5, u99_6, o99_0, o99_1, o99_2, o99_3, o99_4, o99_5, o99_6⟩ := bc7 (w := w98) BK238.out))
                      go_ret
                      exact ⟨tE, bBl HB.out⟩
                   ·replace c88 := Bool.eq_false_iff.mpr c88
                    subst c88
                    have H1 : (some 1) = some r := by rw [if_neg (show ¬ (false = true) by decide)] at H; exact H
                    clear H; have H := H1; clear H1; obtain rfl := Option.some.inj H; obtain ⟨u100_0, u100_1, u100_2, u100_3, u100_4, u100_5, u100_6, o100_0, o100_1, o100_2, o100_3, o100_4, o100_5, o100_6⟩ := bc7 (w := wr) BK238.out
                    go_wp2_with (first | ((with_reducible refine gate_callee (f := 173) rfl ?_); refine goesL_ (some 161) rfl rfl Tryz.func173 (by kernel_rfl) rfl #[.agg #[.int .i64 a0_4, .int .i64 a0_5], .int .i64 (-10000), .int .i64 10000] rfl tM ?_; (with_reducible refine (rf_within.calls a0_4 a0_5 (-10000) 10000 false _ A87.out).mono ?_); rintro e w101 ⟨rfl, hb⟩; refine ⟨_, rfl, ?_⟩; replace HO_4 := Sd.mk (Kd.R_below (by (with_reducible repeat (first | apply Kd.R_alloc | apply Kd.R_drewN | apply Kd.R_drew)); exact HO_4.out) hb); replace BK238 := Sd.mk (blk_below (bkA BK238.out) hb); replace HB := Sd.mk (below_step (bBl HB.out) hb); (try clear hb); (try clear hb2); (try clear hk); (try clear hi)))
                    go_ret
                    exact ⟨tE, bBl HB.out⟩
           ·rw [if_neg c52] at H
            have c52b0 : ((l0_2.length : Int) == (l0_0.length : Int)) = false := beq_eq_false_iff_ne.mpr c52
            have c52b1 : ((l0_2.length : Int) != (l0_0.length : Int)) = true := bne_iff_ne.mpr c52
            have c52b2 : (l0_2.length == l0_0.length) = false := by first | simpa using c52 | (simp at c52 ⊢; omega)
            obtain rfl := Option.some.inj H; obtain ⟨u102_0, u102_1, u102_2, u102_3, u102_4, u102_5, u102_6, o102_0, o102_1, o102_2, o102_3, o102_4, o102_5, o102_6⟩ := bc7 (w := wr) BK238.out
            go_wp2
            go_ret
            exact ⟨tE, bBl HB.out⟩
end
section
def oxE (o : List ByteArray) : Nat → Nat → Int
 | 0, _ => 0
 | m + 1, i => if nameOk (rdOf ByteArray.empty o (i : Int)) = true then (if ((o.take i).any fun y => y.toList == (rdOf ByteArray.empty o (i : Int)).toList) = true then 6 else oxE o m (i + 1)) else 5
theorem i_pos (i : Nat) : 0 ≤ (i : Int) := by omega
section
variable (o : List ByteArray) (mt : List S70) (s : List S27) (p : List S89) (a4 a5 a6 : Int)
theorem box_l0 (ho : o.length ≤ 12) : ∀ (m i : Nat), i + m = o.length → Ev (fun k => b_checkOxides.l0 k o (o.length : Int) (i : Int) o mt s p a4 a5 a6) (oxE o m i)
 | 0, i, hi => by
  apply Ev.step
  simp only [b_checkOxides.l0, if_neg (show ¬ (i : Int) < (o.length : Int) by omega)]
  exact Ev.const _
 | m + 1, i, hi => by
  have ih := box_l0 ho m (i + 1) (by omega)
  apply Ev.step
  simp only [b_checkOxides.l0, if_pos (show (i : Int) < (o.length : Int) by omega), if_pos (i_pos i), if_pos (show (i : Int) ≤ (o.length : Int) by omega), wrap_succ (i_pos i) (show (i : Int) ≤ 1000000000 by omega), Int.toNat_natCast]
  refine Ev.bind (bname _) ?_
  unfold oxE
  by_cases h : nameOk (rdOf ByteArray.empty o (i : Int)) = true
  ·simp only [if_pos h]
   refine Ev.bind (bcontains _ _ (by simp; omega)) ?_
   by_cases h' : ((o.take i).any fun y => y.toList == (rdOf ByteArray.empty o (i : Int)).toList) = true
   ·simp only [if_pos h']; exact Ev.const _
   ·simp only [if_neg h']; exact ih
  ·simp only [if_neg h]; exact Ev.const _
theorem box_f : Ev (fun k => b_checkOxides.f k o mt s p a4 a5 a6) (if o.length > 12 then 3 else if o.length = 0 then 1 else oxE o o.length 0) := by
 unfold b_checkOxides.f
 by_cases h : o.length > 12
 ·simp only [if_pos h, if_pos (show (o.length : Int) > 12 by omega)]; exact Ev.const _
 ·by_cases h' : o.length = 0
  ·simp only [if_neg h, if_neg (show ¬ (o.length : Int) > 12 by omega), if_pos h', if_pos (show (o.length : Int) = 0 by omega)]; exact Ev.const _
  ·simp only [if_neg h, if_neg (show ¬ (o.length : Int) > 12 by omega), if_neg h', if_neg (show ¬ (o.length : Int) = 0 by omega)]
   exact box_l0 o mt s p a4 a5 a6 (by omega) o.length 0 (by omega)
theorem rox_l0 (ho : o.length ≤ 12) (R : Int) (hR : Ev (fun k => if (mt.length : Int) > 12 then some 3 else (if (mt.length : Int) = 0 then some 1 else rf_Check.l1 k [] 0 o mt s p a4 a5 a6)) R) :
  ∀ (m i : Nat), i + m = o.length → Ev (fun k => rf_Check.l0 k (i : Int) o mt s p a4 a5 a6) (if oxE o m i = 0 then R else oxE o m i)
 | 0, i, hi => by
  apply Ev.step
  simp only [rf_Check.l0, if_neg (show ¬ (i : Int) < (o.length : Int) by omega)]
  exact hR.cast (by simp [oxE])
 | m + 1, i, hi => by
  have ih := rox_l0 ho R hR m (i + 1) (by omega)
  apply Ev.step
  simp only [rf_Check.l0, if_pos (show (i : Int) < (o.length : Int) by omega), if_pos (i_pos i), if_pos (show (i : Int) ≤ (o.length : Int) by omega), wrap_succ (i_pos i) (show (i : Int) ≤ 1000000000 by omega), Int.toNat_natCast]
  refine Ev.bind (rname _) ?_
  unfold oxE
  by_cases h : nameOk (rdOf ByteArray.empty o (i : Int)) = true
  ·simp only [if_pos h]
   refine Ev.bind (rin _ _ (by simp; omega)) ?_
   by_cases h' : ((o.take i).any fun y => y.toList == (rdOf ByteArray.empty o (i : Int)).toList) = true
   ·simp only [if_pos h']; exact (Ev.const _).cast (by simp)
   ·simp only [if_neg h']; exact ih
  ·simp only [if_neg h]; exact (Ev.const _).cast (by simp)
def conE (l : List S27) : Nat → Nat → Int → Int
 | 0, _, acc => if acc > 1000 then 12 else 0
 | m + 1, i, acc => if badSpan (rd_T27 l (i : Int)) = true then 1 else conE l m (i + 1) (acc + (rd_T27 l (i : Int)).f0)
def matC (n : Nat) (x : S70) : Int :=
 if (0 ≤ x.f1 ∧ x.f1 ≤ 10000) ∧ (-1000 ≤ x.f2 ∧ x.f2 ≤ 1000) ∧ (0 ≤ x.f3 ∧ x.f3 ≤ 10000) ∧ (x.f3 ≤ x.f4 ∧ x.f4 ≤ 10000) ∧ (1 ≤ x.f5 ∧ x.f5 ≤ 10000) ∧ x.f6.length = n then conE x.f6 x.f6.length 0 0 else 1
theorem span_bad (x : S27) : b_span.f x.f0 x.f1 0 1000 = some (!badSpan x) := by
 rw [span_f]; unfold badSpan; simp
theorem rwithin_bad (x : S27) : rf_within.f x.f0 x.f1 0 1000 = some (!badSpan x) := by
 rw [← span_bad]; rfl
theorem bad_false {x : S27} (h : badSpan x = false) : 0 ≤ x.f0 ∧ x.f0 ≤ x.f1 ∧ x.f1 ≤ 1000 := by
 simp [badSpan] at h; omega
theorem bcon_l0 (l : List S27) (hl : l.length ≤ 12) : ∀ (m i : Nat) (acc : Int), i + m = l.length → 0 ≤ acc → acc ≤ 1000 * i → Ev (fun k => b_checkMaterial.l0 k acc l (l.length : Int) (i : Int)) (conE l m i acc)
 | 0, i, acc, hi, h0, h1 => by
  apply Ev.step
  simp only [b_checkMaterial.l0, if_neg (show ¬ (i : Int) < (l.length : Int) by omega)]
  unfold conE
  by_cases h : acc > 1000
  ·simp only [if_pos h]; exact Ev.const _
  ·simp only [if_neg h]; exact Ev.const _
 | m + 1, i, acc, hi, h0, h1 => by
  apply Ev.step
  simp only [b_checkMaterial.l0, if_pos (show (i : Int) < (l.length : Int) by omega), if_pos (i_pos i), wrap_succ (i_pos i) (show (i : Int) ≤ 1000000000 by omega), span_bad, Option.bind_some]
  unfold conE
  by_cases h : badSpan (rd_T27 l (i : Int)) = true
  ·simp only [h, Bool.not_true, Bool.false_eq_true, if_false, if_true]; exact Ev.const _
  ·have hb := bad_false (Bool.not_eq_true _ ▸ h)
   have ih := bcon_l0 l hl m (i + 1) (acc + (rd_T27 l (i : Int)).f0) (by omega) (by omega) (by omega)
   simp only [h, Bool.not_false, Bool.false_eq_true, if_true, if_false, wrap_id (x := acc + (rd_T27 l (i : Int)).f0) (by omega) (by omega)]
   exact ih
theorem rcon_l0 (n : ByteArray) (b1 b2 b3 b4 b5 : Int) (l : List S27) (hl : l.length ≤ 12) : ∀ (m i : Nat) (acc : Int), i + m = l.length → 0 ≤ acc → acc ≤ 1000 * i → Ev (fun k => rf_material.l0 k acc (i : Int) n b1 b2 b3 b4 b5 l) (conE l m i acc)
 | 0, i, acc, hi, h0, h1 => by
  apply Ev.step
  simp only [rf_material.l0, if_neg (show ¬ (i : Int) < (l.length : Int) by omega)]
  unfold conE
  by_cases h : acc > 1000
  ·simp only [if_pos h]; exact Ev.const _
  ·simp only [if_neg h]; exact Ev.const _
 | m + 1, i, acc, hi, h0, h1 => by
  apply Ev.step
  simp only [rf_material.l0, if_pos (show (i : Int) < (l.length : Int) by omega), if_pos (i_pos i), wrap_succ (i_pos i) (show (i : Int) ≤ 1000000000 by omega), rwithin_bad, Option.bind_some]
  unfold conE
  by_cases h : badSpan (rd_T27 l (i : Int)) = true
  ·simp only [h, Bool.not_true, Bool.false_eq_true, if_false, if_true]; exact Ev.const _
  ·have hb := bad_false (Bool.not_eq_true _ ▸ h)
   have ih := rcon_l0 n b1 b2 b3 b4 b5 l hl m (i + 1) (acc + (rd_T27 l (i : Int)).f0) (by omega) (by omega) (by omega)
   simp only [h, Bool.not_false, Bool.false_eq_true, if_true, if_false, wrap_id (x := acc + (rd_T27 l (i : Int)).f0) (by omega) (by omega)]
   exact ih
theorem bmat (ho : o.length ≤ 12) (x : S70) : Ev (fun k => b_checkMaterial.f k o mt s p a4 a5 a6 x.f0 x.f1 x.f2 x.f3 x.f4 x.f5 x.f6) (matC o.length x) := by
 have hj1 : Ev (fun k => b_checkMaterial.j0 k true x.f0 x.f1 x.f2 x.f3 x.f4 x.f5 x.f6) 1 := by
  apply Ev.step; simp only [b_checkMaterial.j0, if_true]; exact Ev.const _
 have hj0 : x.f6.length = o.length → Ev (fun k => b_checkMaterial.j0 k false x.f0 x.f1 x.f2 x.f3 x.f4 x.f5 x.f6) (conE x.f6 x.f6.length 0 0) := by
  intro hh
  apply Ev.step; simp only [b_checkMaterial.j0, Bool.false_eq_true, if_false]
  exact bcon_l0 x.f6 (by omega) x.f6.length 0 0 (by omega) (by omega) (by omega)
 unfold b_checkMaterial.f
 simp only [within_f, Option.bind_some, Bool.and_eq_true, decide_eq_true_eq]
 unfold matC
 by_cases h1 : 0 ≤ x.f1 ∧ x.f1 ≤ 10000
 ·by_cases h2 : -1000 ≤ x.f2 ∧ x.f2 ≤ 1000
  ·by_cases h3 : 0 ≤ x.f3 ∧ x.f3 ≤ 10000
   ·by_cases h4 : x.f3 ≤ x.f4 ∧ x.f4 ≤ 10000
    ·by_cases h5 : 1 ≤ x.f5 ∧ x.f5 ≤ 10000
     ·by_cases h6 : x.f6.length = o.length
      ·simp only [if_pos h1, if_pos h2, if_pos h3, if_pos h4, if_pos h5, h1, h2, h3, h4, h5, h6, and_self, if_true, bne_self_eq_false]
       exact (hj0 h6).cast (by rw [h6])
      ·have hb : ((x.f6.length : Int) != (o.length : Int)) = true := by simp; omega
       simp only [if_pos h1, if_pos h2, if_pos h3, if_pos h4, if_pos h5, hb]
       exact hj1.cast (by rw [if_neg (fun hh => h6 hh.2.2.2.2.2)])
     ·simp only [if_pos h1, if_pos h2, if_pos h3, if_pos h4, if_neg h5]
      exact hj1.cast (by rw [if_neg (fun hh => h5 hh.2.2.2.2.1)])
    ·simp only [if_pos h1, if_pos h2, if_pos h3, if_neg h4]
     exact hj1.cast (by rw [if_neg (fun hh => h4 hh.2.2.2.1)])
   ·simp only [if_pos h1, if_pos h2, if_neg h3]
    exact hj1.cast (by rw [if_neg (fun hh => h3 hh.2.2.1)])
  ·simp only [if_pos h1, if_neg h2]
   exact hj1.cast (by rw [if_neg (fun hh => h2 hh.2.1)])
 ·simp only [if_neg h1]
  exact hj1.cast (by rw [if_neg (fun hh => h1 hh.1)])
theorem rmat (ho : o.length ≤ 12) (x : S70) : Ev (fun k => rf_material.f k o mt s p a4 a5 a6 x.f0 x.f1 x.f2 x.f3 x.f4 x.f5 x.f6) (matC o.length x) := by
 have hj1 : Ev (fun k => rf_material.j0 k true o mt s p a4 a5 a6 x.f0 x.f1 x.f2 x.f3 x.f4 x.f5 x.f6) 1 := by
  apply Ev.step; simp only [rf_material.j0, if_true]; exact Ev.const _
 have hj0 : Ev (fun k => rf_material.j0 k false o mt s p a4 a5 a6 x.f0 x.f1 x.f2 x.f3 x.f4 x.f5 x.f6) (if x.f6.length = o.length then conE x.f6 x.f6.length 0 0 else 1) := by
  apply Ev.step; simp only [rf_material.j0, Bool.false_eq_true, if_false]
  by_cases hh : x.f6.length = o.length
  ·simp only [if_pos hh, if_pos (show (x.f6.length : Int) = (o.length : Int) by omega)]
   exact rcon_l0 x.f0 x.f1 x.f2 x.f3 x.f4 x.f5 x.f6 (by omega) x.f6.length 0 0 (by omega) (by omega) (by omega)
  ·simp only [if_neg hh, if_neg (show ¬ (x.f6.length : Int) = (o.length : Int) by omega)]; exact Ev.const _
 unfold rf_material.f matC
 by_cases h1 : x.f1 < 0
 ·simp only [if_pos h1]; exact hj1.cast (by rw [if_neg]; omega)
 ·simp only [if_neg h1]
  by_cases h2 : x.f1 > 10000
  ·simp only [if_pos h2]; exact hj1.cast (by rw [if_neg]; omega)
  ·simp only [if_neg h2]
   by_cases h3 : x.f2 < -1000
   ·simp only [if_pos h3]; exact hj1.cast (by rw [if_neg]; omega)
   ·simp only [if_neg h3]
    by_cases h4 : x.f2 > 1000
    ·simp only [if_pos h4]; exact hj1.cast (by rw [if_neg]; omega)
    ·simp only [if_neg h4]
     by_cases h5 : x.f3 < 0
     ·simp only [if_pos h5]; exact hj1.cast (by rw [if_neg]; omega)
     ·simp only [if_neg h5]
      by_cases h6 : x.f3 > 10000
      ·simp only [if_pos h6]; exact hj1.cast (by rw [if_neg]; omega)
      ·simp only [if_neg h6]
       by_cases h7 : x.f4 < x.f3
       ·simp only [if_pos h7]; exact hj1.cast (by rw [if_neg]; omega)
       ·simp only [if_neg h7]
        by_cases h8 : x.f4 > 10000
        ·simp only [if_pos h8]; exact hj1.cast (by rw [if_neg]; omega)
        ·simp only [if_neg h8]
         by_cases h9 : x.f5 < 1
         ·simp only [if_pos h9]; exact hj1.cast (by rw [if_neg]; omega)
         ·simp only [if_neg h9]
          by_cases h10 : x.f5 > 10000
          ·simp only [h10, decide_true]; exact hj1.cast (by rw [if_neg]; omega)
          ·simp only [h10, decide_false]
           refine hj0.cast ?_
           by_cases hh : x.f6.length = o.length
           ·rw [if_pos hh, if_pos (by omega)]
           ·rw [if_neg hh, if_neg (by omega)]
end
end
section
def proC (n : Nat) (x : S89) : Int := if x.f1.length = n then (if x.f1.any (outside (-10000) 10000) = true then 1 else if -10000 ≤ x.f2.f0 ∧ x.f2.f0 ≤ x.f2.f1 ∧ x.f2.f1 ≤ 10000 then 0 else 1) else 1
def proE (p : List S89) (n : Nat) : Nat → Nat → Int
 | 0, _ => 0
 | m + 1, i => if nameOk (rd_T89 p (i : Int)).f0 = true then (if ((p.take i).any fun x => x.f0.toList == (rd_T89 p (i : Int)).f0.toList) = true then 6 else (if proC n (rd_T89 p (i : Int)) = 0 then proE p n m (i + 1) else proC n (rd_T89 p (i : Int)))) else 5
def matE (mt : List S70) (n : Nat) : Nat → Nat → Int
 | 0, _ => 0
 | m + 1, i => if nameOk (rd_T70 mt (i : Int)).f0 = true then (if ((mt.take i).any fun x => x.f0.toList == (rd_T70 mt (i : Int)).f0.toList) = true then 6 else (if matC n (rd_T70 mt (i : Int)) = 0 then matE mt n m (i + 1) else matC n (rd_T70 mt (i : Int)))) else 5
theorem rwithin_f (a b lo hi : Int) : rf_within.f a b lo hi = some (decide (lo ≤ a) && decide (a ≤ b) && decide (b ≤ hi)) := by
 rw [← span_f]; rfl
section
variable (o : List ByteArray) (mt : List S70) (s : List S27) (p : List S89) (a4 a5 a6 : Int)
theorem bpro (x : S89) : Ev (fun _ => b_checkProperty.f o mt s p a4 a5 a6 x.f0 x.f1 x.f2.f0 x.f2.f1) (proC o.length x) := by
 unfold b_checkProperty.f proC
 by_cases h : x.f1.length = o.length
 ·simp only [if_pos h, if_pos (show (x.f1.length : Int) = (o.length : Int) by omega), x_coefs.f, Option.bind_some, span_f, Bool.and_eq_true, decide_eq_true_eq]
  by_cases h' : x.f1.any (outside (-10000) 10000) = true
  ·simp only [if_pos h']; exact Ev.const _
  ·simp only [if_neg h']
   by_cases h2 : -10000 ≤ x.f2.f0 ∧ x.f2.f0 ≤ x.f2.f1 ∧ x.f2.f1 ≤ 10000
   ·rw [if_pos (by omega), if_pos h2]; exact Ev.const _
   ·rw [if_neg (by omega), if_neg h2]; exact Ev.const _
 ·simp only [if_neg h, if_neg (show ¬ (x.f1.length : Int) = (o.length : Int) by omega)]; exact Ev.const _
theorem rpro_l0 (n : ByteArray) (l : List Int) (t0 t1 : Int) (hl : l.length ≤ 12) : ∀ (m i : Nat), i + m = l.length → Ev (fun k => rf_property.l0 k (i : Int) n l t0 t1) (if (l.drop i).any (outside (-10000) 10000) = true then 1 else if -10000 ≤ t0 ∧ t0 ≤ t1 ∧ t1 ≤ 10000 then 0 else 1)
 | 0, i, hi => by
  apply Ev.step
  simp only [rf_property.l0, if_neg (show ¬ (i : Int) < (l.length : Int) by omega), rwithin_f, Option.bind_some, Bool.and_eq_true, decide_eq_true_eq]
  have h3 : (l.drop i).any (outside (-10000) 10000) = false := by rw [List.drop_eq_nil_of_le (by omega)]; rfl
  rw [h3]
  by_cases h2 : -10000 ≤ t0 ∧ t0 ≤ t1 ∧ t1 ≤ 10000
  ·have h2' : (-10000 ≤ t0 ∧ t0 ≤ t1) ∧ t1 ≤ 10000 := by omega
   simp only [if_pos h2', if_pos h2, Bool.false_eq_true, if_false]; exact Ev.const _
  ·have h2' : ¬ ((-10000 ≤ t0 ∧ t0 ≤ t1) ∧ t1 ≤ 10000) := by omega
   simp only [if_neg h2', if_neg h2, Bool.false_eq_true, if_false]; exact Ev.const _
 | m + 1, i, hi => by
  have ih := rpro_l0 n l t0 t1 hl m (i + 1) (by omega)
  have hlt : i < l.length := by omega
  have hr : rd l (i : Int) = l[i] := by simp [rd, hlt]
  apply Ev.step
  simp only [rf_property.l0, if_pos (show (i : Int) < (l.length : Int) by omega), if_pos (i_pos i), wrap_succ (i_pos i) (show (i : Int) ≤ 1000000000 by omega), hr]
  rw [List.drop_eq_getElem_cons hlt, List.any_cons]
  by_cases h1 : l[i] < -10000
  ·simp only [if_pos h1]
   have hb : outside (-10000) 10000 l[i] = true := by simp [outside]; omega
   exact (Ev.const _).cast (by rw [hb]; rfl)
  ·simp only [if_neg h1]
   by_cases h2 : l[i] > 10000
   ·simp only [if_pos h2]
    have hb : outside (-10000) 10000 l[i] = true := by simp [outside]; omega
    exact (Ev.const _).cast (by rw [hb]; rfl)
   ·simp only [if_neg h2]
    have hb : outside (-10000) 10000 l[i] = false := by simp [outside]; omega
    exact ih.cast (by rw [hb, Bool.false_or])
theorem rpro (ho : o.length ≤ 12) (x : S89) : Ev (fun k => rf_property.f k o mt s p a4 a5 a6 x.f0 x.f1 x.f2.f0 x.f2.f1) (proC o.length x) := by
 unfold rf_property.f proC
 by_cases h : x.f1.length = o.length
 ·simp only [if_pos h, if_pos (show (x.f1.length : Int) = (o.length : Int) by omega)]
  exact (rpro_l0 x.f0 x.f1 x.f2.f0 x.f2.f1 (by omega) x.f1.length 0 (by omega)).cast (by rw [List.drop_zero])
 ·simp only [if_neg h, if_neg (show ¬ (x.f1.length : Int) = (o.length : Int) by omega)]; exact Ev.const _
theorem bmats_l0 (ho : o.length ≤ 12) (hm : mt.length ≤ 12) : ∀ (m i : Nat), i + m = mt.length → Ev (fun k => b_checkMaterials.l0 k mt (mt.length : Int) (i : Int) o mt s p a4 a5 a6) (matE mt o.length m i)
 | 0, i, hi => by
  apply Ev.step
  simp only [b_checkMaterials.l0, if_neg (show ¬ (i : Int) < (mt.length : Int) by omega)]
  exact Ev.const _
 | m + 1, i, hi => by
  have ih := bmats_l0 ho hm m (i + 1) (by omega)
  apply Ev.step
  simp only [b_checkMaterials.l0, if_pos (show (i : Int) < (mt.length : Int) by omega), if_pos (i_pos i), wrap_succ (i_pos i) (show (i : Int) ≤ 1000000000 by omega), x_twiceM.f, Int.toNat_natCast, Option.bind_some]
  refine Ev.bind (bname _) ?_
  unfold matE
  by_cases h : nameOk (rd_T70 mt (i : Int)).f0 = true
  ·simp only [if_pos h]
   by_cases h' : ((mt.take i).any fun x => x.f0.toList == (rd_T70 mt (i : Int)).f0.toList) = true
   ·simp only [if_pos h']; exact Ev.const _
   ·simp only [if_neg h']
    refine Ev.bind (bmat o mt s p a4 a5 a6 ho _) ?_
    by_cases h2 : matC o.length (rd_T70 mt (i : Int)) = 0
    ·simp only [if_pos h2]; exact ih
    ·simp only [if_neg h2]; exact Ev.const _
  ·simp only [if_neg h]; exact Ev.const _
theorem bmats (ho : o.length ≤ 12) : Ev (fun k => b_checkMaterials.f k o mt s p a4 a5 a6) (if mt.length > 12 then 3 else if mt.length = 0 then 1 else matE mt o.length mt.length 0) := by
 unfold b_checkMaterials.f
 by_cases h : mt.length > 12
 ·simp only [if_pos h, if_pos (show (mt.length : Int) > 12 by omega)]; exact Ev.const _
 ·by_cases h' : mt.length = 0
  ·simp only [if_neg h, if_neg (show ¬ (mt.length : Int) > 12 by omega), if_pos h', if_pos (show (mt.length : Int) = 0 by omega)]; exact Ev.const _
  ·simp only [if_neg h, if_neg (show ¬ (mt.length : Int) > 12 by omega), if_neg h', if_neg (show ¬ (mt.length : Int) = 0 by omega)]
   exact bmats_l0 o mt s p a4 a5 a6 ho (by omega) mt.length 0 (by omega)
theorem rmats_l1 (ho : o.length ≤ 12) (hm : mt.length ≤ 12) (R : Int) (hR : Ev (fun k => if (s.length : Int) = (o.length : Int) then rf_Check.l2 k 0 o mt s p a4 a5 a6 else some 1) R) :
  ∀ (m i : Nat), i + m = mt.length → Ev (fun k => rf_Check.l1 k ((mt.take i).map (·.f0)) (i : Int) o mt s p a4 a5 a6) (if matE mt o.length m i = 0 then R else matE mt o.length m i)
 | 0, i, hi => by
  apply Ev.step
  simp only [rf_Check.l1, if_neg (show ¬ (i : Int) < (mt.length : Int) by omega)]
  exact hR.cast (by simp [matE])
 | m + 1, i, hi => by
  have ih := rmats_l1 ho hm R hR m (i + 1) (by omega)
  have hlt : i < mt.length := by omega
  have hr : rd_T70 mt (i : Int) = mt[i] := by simp [rd_T70, hlt]
  have htk : (mt.take i).map (·.f0) ++ [(rd_T70 mt (i : Int)).f0] = (mt.take (i + 1)).map (·.f0) := by
   rw [hr, List.take_succ_eq_append_getElem hlt, List.map_append]; rfl
  apply Ev.step
  simp only [rf_Check.l1, if_pos (show (i : Int) < (mt.length : Int) by omega), if_pos (i_pos i), wrap_succ (i_pos i) (show (i : Int) ≤ 1000000000 by omega), htk]
  refine Ev.bind (rname _) ?_
  unfold matE
  by_cases h : nameOk (rd_T70 mt (i : Int)).f0 = true
  ·simp only [if_pos h]
   have hany : (((mt.take i).map (·.f0)).any fun y => y.toList == (rd_T70 mt (i : Int)).f0.toList) = ((mt.take i).any fun x => x.f0.toList == (rd_T70 mt (i : Int)).f0.toList) := by rw [List.any_map]; rfl
   refine Ev.bind (rin _ _ (by simp; omega)) ?_
   rw [hany]
   by_cases h' : ((mt.take i).any fun x => x.f0.toList == (rd_T70 mt (i : Int)).f0.toList) = true
   ·simp only [if_pos h']; exact (Ev.const _).cast (by simp)
   ·simp only [if_neg h']
    have hlt8 : ((mt.take i).map (·.f0)).length < 8796093022208 := by rw [List.length_map, List.length_take]; omega
    simp only [if_pos hlt8]
    refine Ev.bind (rmat o mt s p a4 a5 a6 ho _) ?_
    by_cases h2 : matC o.length (rd_T70 mt (i : Int)) = 0
    ·simp only [if_pos h2]; exact ih
    ·simp only [if_neg h2]; exact Ev.const _
  ·simp only [if_neg h]; exact (Ev.const _).cast (by simp)
theorem bpros_l0 (hp : p.length ≤ 6) (R : Int) (hR : Ev (fun _ => (b_span.f a4 a5 (-10000) 10000).bind fun t147 => (if t147 = true then ((b_within.f a6 1 10000).bind fun t148 => (if t148 = true then (some 0) else (some 1))) else (some 1))) R) :
  ∀ (m i : Nat), i + m = p.length → Ev (fun k => b_Check.l0 k p (p.length : Int) (i : Int) o mt s p a4 a5 a6) (if proE p o.length m i = 0 then R else proE p o.length m i)
 | 0, i, hi => by
  apply Ev.step
  simp only [b_Check.l0, if_neg (show ¬ (i : Int) < (p.length : Int) by omega)]
  exact hR.cast (by simp [proE])
 | m + 1, i, hi => by
  have ih := bpros_l0 hp R hR m (i + 1) (by omega)
  apply Ev.step
  simp only [b_Check.l0, if_pos (show (i : Int) < (p.length : Int) by omega), if_pos (i_pos i), wrap_succ (i_pos i) (show (i : Int) ≤ 1000000000 by omega), x_twiceP.f, Int.toNat_natCast, Option.bind_some]
  refine Ev.bind (bname _) ?_
  unfold proE
  by_cases h : nameOk (rd_T89 p (i : Int)).f0 = true
  ·simp only [if_pos h]
   by_cases h' : ((p.take i).any fun x => x.f0.toList == (rd_T89 p (i : Int)).f0.toList) = true
   ·simp only [if_pos h']; exact (Ev.const _).cast (by simp)
   ·simp only [if_neg h']
    refine Ev.bind (bpro o mt s p a4 a5 a6 _) ?_
    by_cases h2 : proC o.length (rd_T89 p (i : Int)) = 0
    ·simp only [if_pos h2]; exact ih
    ·simp only [if_neg h2]; exact Ev.const _
  ·simp only [if_neg h]; exact (Ev.const _).cast (by simp)
theorem rpros_l3 (ho : o.length ≤ 12) (hp : p.length ≤ 6) (R : Int) (hR : Ev (fun _ => (rf_within.f a4 a5 (-10000) 10000).bind fun t264 => (if t264 = true then (if a6 < 1 then (some 1) else (if a6 > 10000 then (some 1) else (some 0))) else (some 1))) R) :
  ∀ (m i : Nat), i + m = p.length → Ev (fun k => rf_Check.l3 k ((p.take i).map (·.f0)) (i : Int) o mt s p a4 a5 a6) (if proE p o.length m i = 0 then R else proE p o.length m i)
 | 0, i, hi => by
  apply Ev.step
  simp only [rf_Check.l3, if_neg (show ¬ (i : Int) < (p.length : Int) by omega)]
  exact hR.cast (by simp [proE])
 | m + 1, i, hi => by
  have ih := rpros_l3 ho hp R hR m (i + 1) (by omega)
  have hlt : i < p.length := by omega
  have hr : rd_T89 p (i : Int) = p[i] := by simp [rd_T89, hlt]
  have htk : (p.take i).map (·.f0) ++ [(rd_T89 p (i : Int)).f0] = (p.take (i + 1)).map (·.f0) := by
   rw [hr, List.take_succ_eq_append_getElem hlt, List.map_append]; rfl
  apply Ev.step
  simp only [rf_Check.l3, if_pos (show (i : Int) < (p.length : Int) by omega), if_pos (i_pos i), wrap_succ (i_pos i) (show (i : Int) ≤ 1000000000 by omega), htk]
  refine Ev.bind (rname _) ?_
  unfold proE
  by_cases h : nameOk (rd_T89 p (i : Int)).f0 = true
  ·simp only [if_pos h]
   have hany : (((p.take i).map (·.f0)).any fun y => y.toList == (rd_T89 p (i : Int)).f0.toList) = ((p.take i).any fun x => x.f0.toList == (rd_T89 p (i : Int)).f0.toList) := by rw [List.any_map]; rfl
   refine Ev.bind (rin _ _ (by simp; omega)) ?_
   rw [hany]
   by_cases h' : ((p.take i).any fun x => x.f0.toList == (rd_T89 p (i : Int)).f0.toList) = true
   ·simp only [if_pos h']; exact (Ev.const _).cast (by simp)
   ·simp only [if_neg h']
    have hlt8 : ((p.take i).map (·.f0)).length < 8796093022208 := by rw [List.length_map, List.length_take]; omega
    simp only [if_pos hlt8]
    refine Ev.bind (rpro o mt s p a4 a5 a6 ho _) ?_
    by_cases h2 : proC o.length (rd_T89 p (i : Int)) = 0
    ·simp only [if_pos h2]; exact ih
    ·simp only [if_neg h2]; exact Ev.const _
  ·simp only [if_neg h]; exact (Ev.const _).cast (by simp)
end
end
section
section
variable (o : List ByteArray) (mt : List S70) (s : List S27) (p : List S89) (a4 a5 a6 : Int)
def endV : Int := if -10000 ≤ a4 ∧ a4 ≤ a5 ∧ a5 ≤ 10000 then (if 1 ≤ a6 ∧ a6 ≤ 10000 then 0 else 1) else 1
def proV : Int := if p.length > 6 then 3 else if proE p o.length p.length 0 = 0 then endV a4 a5 a6 else proE p o.length p.length 0
def shaV : Int := if s.length = o.length then (if s.any badSpan = true then 1 else proV o p a4 a5 a6) else 1
def matV : Int := if mt.length > 12 then 3 else if mt.length = 0 then 1 else if matE mt o.length mt.length 0 = 0 then shaV o s p a4 a5 a6 else matE mt o.length mt.length 0
def checkV : Int := if o.length > 12 then 3 else if o.length = 0 then 1 else if oxE o o.length 0 = 0 then matV o mt s p a4 a5 a6 else oxE o o.length 0
theorem bend : Ev (fun _ => (b_span.f a4 a5 (-10000) 10000).bind fun t147 => (if t147 = true then ((b_within.f a6 1 10000).bind fun t148 => (if t148 = true then (some 0) else (some 1))) else (some 1))) (endV a4 a5 a6) := by
 simp only [span_f, within_f, Option.bind_some, Bool.and_eq_true, decide_eq_true_eq]
 unfold endV
 by_cases h2 : -10000 ≤ a4 ∧ a4 ≤ a5 ∧ a5 ≤ 10000
 ·have h2' : (-10000 ≤ a4 ∧ a4 ≤ a5) ∧ a5 ≤ 10000 := by omega
  simp only [if_pos h2', if_pos h2]
  by_cases h3 : 1 ≤ a6 ∧ a6 ≤ 10000
  ·simp only [if_pos h3]; exact Ev.const _
  ·simp only [if_neg h3]; exact Ev.const _
 ·have h2' : ¬ ((-10000 ≤ a4 ∧ a4 ≤ a5) ∧ a5 ≤ 10000) := by omega
  simp only [if_neg h2', if_neg h2]; exact Ev.const _
theorem rend : Ev (fun _ => (rf_within.f a4 a5 (-10000) 10000).bind fun t264 => (if t264 = true then (if a6 < 1 then (some 1) else (if a6 > 10000 then (some 1) else (some 0))) else (some 1))) (endV a4 a5 a6) := by
 simp only [rwithin_f, Option.bind_some, Bool.and_eq_true, decide_eq_true_eq]
 unfold endV
 by_cases h2 : -10000 ≤ a4 ∧ a4 ≤ a5 ∧ a5 ≤ 10000
 ·have h2' : (-10000 ≤ a4 ∧ a4 ≤ a5) ∧ a5 ≤ 10000 := by omega
  simp only [if_pos h2', if_pos h2]
  by_cases h3 : a6 < 1
  ·simp only [if_pos h3]; exact (Ev.const _).cast (by rw [if_neg]; omega)
  ·by_cases h4 : a6 > 10000
   ·simp only [if_neg h3, if_pos h4]; exact (Ev.const _).cast (by rw [if_neg]; omega)
   ·simp only [if_neg h3, if_neg h4]; exact (Ev.const _).cast (by rw [if_pos]; omega)
 ·have h2' : ¬ ((-10000 ≤ a4 ∧ a4 ≤ a5) ∧ a5 ≤ 10000) := by omega
  simp only [if_neg h2', if_neg h2]; exact Ev.const _
theorem bj0 (b : Bool) : Ev (fun k => b_Check.j0 k b o mt s p a4 a5 a6) (if b = true then 1 else proV o p a4 a5 a6) := by
 apply Ev.step
 simp only [b_Check.j0]
 cases b with
 | true => simp only [if_true]; exact Ev.const _
 | false =>
  simp only [Bool.false_eq_true, if_false]
  unfold proV
  by_cases h : p.length > 6
  ·simp only [if_pos h, if_pos (show (p.length : Int) > 6 by omega)]; exact Ev.const _
  ·simp only [if_neg h, if_neg (show ¬ (p.length : Int) > 6 by omega)]
   exact bpros_l0 o mt s p a4 a5 a6 (by omega) _ (bend a4 a5 a6) p.length 0 (by omega)
theorem bcheck : Ev (fun k => b_Check.f k o mt s p a4 a5 a6) (checkV o mt s p a4 a5 a6) := by
 unfold b_Check.f
 refine Ev.bind (box_f o mt s p a4 a5 a6) ?_
 unfold checkV
 by_cases h : o.length > 12
 ·simp only [if_pos h]; exact Ev.const _
 ·by_cases h' : o.length = 0
  ·simp only [if_neg h, if_pos h']; exact Ev.const _
  ·simp only [if_neg h, if_neg h']
   by_cases h2 : oxE o o.length 0 = 0
   ·simp only [if_pos h2]
    refine Ev.bind (bmats o mt s p a4 a5 a6 (by omega)) ?_
    unfold matV
    by_cases h3 : mt.length > 12
    ·simp only [if_pos h3]; exact Ev.const _
    ·by_cases h4 : mt.length = 0
     ·simp only [if_neg h3, if_pos h4]; exact Ev.const _
     ·simp only [if_neg h3, if_neg h4]
      by_cases h5 : matE mt o.length mt.length 0 = 0
      ·simp only [if_pos h5]
       unfold shaV
       by_cases h6 : s.length = o.length
       ·simp only [if_pos h6, if_pos (show (s.length : Int) = (o.length : Int) by omega), x_spans.f, Option.bind_some]
        exact bj0 o mt s p a4 a5 a6 _
       ·simp only [if_neg h6, if_neg (show ¬ (s.length : Int) = (o.length : Int) by omega)]
        exact (bj0 o mt s p a4 a5 a6 true).cast (by simp)
      ·simp only [if_neg h5]; exact Ev.const _
   ·simp only [if_neg h2]; exact Ev.const _
theorem rsha_l2 (ho : s.length ≤ 12) (P : Int) (hP : Ev (fun k => if (p.length : Int) > 6 then some 3 else rf_Check.l3 k [] 0 o mt s p a4 a5 a6) P) :
  ∀ (m i : Nat), i + m = s.length → Ev (fun k => rf_Check.l2 k (i : Int) o mt s p a4 a5 a6) (if (s.drop i).any badSpan = true then 1 else P)
 | 0, i, hi => by
  apply Ev.step
  simp only [rf_Check.l2, if_neg (show ¬ (i : Int) < (s.length : Int) by omega)]
  have h3 : (s.drop i).any badSpan = false := by rw [List.drop_eq_nil_of_le (by omega)]; rfl
  exact hP.cast (by rw [h3]; simp)
 | m + 1, i, hi => by
  have ih := rsha_l2 ho P hP m (i + 1) (by omega)
  have hlt : i < s.length := by omega
  have hr : rd_T27 s (i : Int) = s[i] := by simp [rd_T27, hlt]
  apply Ev.step
  simp only [rf_Check.l2, if_pos (show (i : Int) < (s.length : Int) by omega), if_pos (i_pos i), wrap_succ (i_pos i) (show (i : Int) ≤ 1000000000 by omega), rwithin_bad, Option.bind_some, hr]
  rw [List.drop_eq_getElem_cons hlt, List.any_cons]
  cases h : badSpan s[i] with
  | true => simp only [Bool.not_true, Bool.false_eq_true, if_false, Bool.true_or, if_true]; exact Ev.const _
  | false => simp only [Bool.not_false, if_true, Bool.false_or]; exact ih
theorem rcheck : Ev (fun k => rf_Check.f k o mt s p a4 a5 a6) (checkV o mt s p a4 a5 a6) := by
 unfold rf_Check.f checkV
 by_cases h : o.length > 12
 ·simp only [if_pos h, if_pos (show (o.length : Int) > 12 by omega)]; exact Ev.const _
 ·by_cases h' : o.length = 0
  ·simp only [if_neg h, if_neg (show ¬ (o.length : Int) > 12 by omega), if_pos h', if_pos (show (o.length : Int) = 0 by omega)]; exact Ev.const _
  ·simp only [if_neg h, if_neg (show ¬ (o.length : Int) > 12 by omega), if_neg h', if_neg (show ¬ (o.length : Int) = 0 by omega)]
   refine rox_l0 o mt s p a4 a5 a6 (by omega) _ ?_ o.length 0 (by omega)
   unfold matV
   by_cases h3 : mt.length > 12
   ·simp only [if_pos h3, if_pos (show (mt.length : Int) > 12 by omega)]; exact Ev.const _
   ·by_cases h4 : mt.length = 0
    ·simp only [if_neg h3, if_neg (show ¬ (mt.length : Int) > 12 by omega), if_pos h4, if_pos (show (mt.length : Int) = 0 by omega)]; exact Ev.const _
    ·simp only [if_neg h3, if_neg (show ¬ (mt.length : Int) > 12 by omega), if_neg h4, if_neg (show ¬ (mt.length : Int) = 0 by omega)]
     refine rmats_l1 o mt s p a4 a5 a6 (by omega) (by omega) _ ?_ mt.length 0 (by omega)
     unfold shaV
     by_cases h6 : s.length = o.length
     ·simp only [if_pos h6, if_pos (show (s.length : Int) = (o.length : Int) by omega)]
      refine (rsha_l2 o mt s p a4 a5 a6 (by omega) _ ?_ s.length 0 (by omega)).cast (by rw [List.drop_zero])
      unfold proV
      by_cases h7 : p.length > 6
      ·simp only [if_pos h7, if_pos (show (p.length : Int) > 6 by omega)]; exact Ev.const _
      ·simp only [if_neg h7, if_neg (show ¬ (p.length : Int) > 6 by omega)]
       exact rpros_l3 o mt s p a4 a5 a6 (by omega) (by omega) _ (rend a4 a5 a6) p.length 0 (by omega)
     ·simp only [if_neg h6, if_neg (show ¬ (s.length : Int) = (o.length : Int) by omega)]; exact Ev.const _
end
theorem conE_ok (l : List S27) : ∀ (m i : Nat) (acc : Int), i + m = l.length → conE l m i acc = 0 → ∀ j : Nat, i ≤ j → j < l.length → badSpan (rd_T27 l (j : Int)) = false
 | 0, i, acc, hi, h, j, h1, h2 => by omega
 | m + 1, i, acc, hi, h, j, h1, h2 => by
  unfold conE at h
  by_cases hb : badSpan (rd_T27 l (i : Int)) = true
  ·rw [if_pos hb] at h; omega
  ·rw [if_neg hb] at h
   by_cases hj : j = i
   ·subst hj; simpa using hb
   ·exact conE_ok l m (i + 1) _ (by omega) h j (by omega) h2
structure MatOk (n : Nat) (x : S70) : Prop where
 price : 0 ≤ x.f1 ∧ x.f1 ≤ 10000
 redox : -1000 ≤ x.f2 ∧ x.f2 ≤ 1000
 least : 0 ≤ x.f3 ∧ x.f3 ≤ 10000
 most : x.f3 ≤ x.f4 ∧ x.f4 ≤ 10000
 step : 1 ≤ x.f5 ∧ x.f5 ≤ 10000
 len : x.f6.length = n
 con : ∀ j : Nat, j < n → 0 ≤ (rd_T27 x.f6 (j : Int)).f0 ∧ (rd_T27 x.f6 (j : Int)).f0 ≤ (rd_T27 x.f6 (j : Int)).f1 ∧ (rd_T27 x.f6 (j : Int)).f1 ≤ 1000
theorem matC_ok {n : Nat} {x : S70} (h : matC n x = 0) : MatOk n x := by
 unfold matC at h
 by_cases hc : (0 ≤ x.f1 ∧ x.f1 ≤ 10000) ∧ (-1000 ≤ x.f2 ∧ x.f2 ≤ 1000) ∧ (0 ≤ x.f3 ∧ x.f3 ≤ 10000) ∧ (x.f3 ≤ x.f4 ∧ x.f4 ≤ 10000) ∧ (1 ≤ x.f5 ∧ x.f5 ≤ 10000) ∧ x.f6.length = n
 ·rw [if_pos hc] at h
  obtain ⟨h1, h2, h3, h4, h5, h6⟩ := hc
  exact ⟨h1, h2, h3, h4, h5, h6, fun j hj => bad_false (conE_ok x.f6 _ 0 0 (by omega) h j (by omega) (by omega))⟩
 ·rw [if_neg hc] at h; omega
theorem matE_ok (mt : List S70) (n : Nat) : ∀ (m i : Nat), matE mt n m i = 0 → ∀ j : Nat, i ≤ j → j < i + m → MatOk n (rd_T70 mt (j : Int))
 | 0, i, h, j, h1, h2 => by omega
 | m + 1, i, h, j, h1, h2 => by
  unfold matE at h
  by_cases ha : nameOk (rd_T70 mt (i : Int)).f0 = true
  ·rw [if_pos ha] at h
   by_cases hb : ((mt.take i).any fun x => x.f0.toList == (rd_T70 mt (i : Int)).f0.toList) = true
   ·rw [if_pos hb] at h; omega
   ·rw [if_neg hb] at h
    by_cases hc : matC n (rd_T70 mt (i : Int)) = 0
    ·rw [if_pos hc] at h
     by_cases hj : j = i
     ·subst hj; exact matC_ok hc
     ·exact matE_ok mt n m (i + 1) h j (by omega) (by omega)
    ·rw [if_neg hc] at h; exact absurd h hc
  ·rw [if_neg ha] at h; omega
structure ProOk (n : Nat) (x : S89) : Prop where
 len : x.f1.length = n
 coef : ∀ j : Nat, j < n → -10000 ≤ rd x.f1 (j : Int) ∧ rd x.f1 (j : Int) ≤ 10000
 target : -10000 ≤ x.f2.f0 ∧ x.f2.f0 ≤ x.f2.f1 ∧ x.f2.f1 ≤ 10000
theorem proC_ok {n : Nat} {x : S89} (h : proC n x = 0) : ProOk n x := by
 unfold proC at h
 by_cases h1 : x.f1.length = n
 ·rw [if_pos h1] at h
  by_cases h2 : x.f1.any (outside (-10000) 10000) = true
  ·rw [if_pos h2] at h; omega
  ·rw [if_neg h2] at h
   by_cases h3 : -10000 ≤ x.f2.f0 ∧ x.f2.f0 ≤ x.f2.f1 ∧ x.f2.f1 ≤ 10000
   ·refine ⟨h1, fun j hj => ?_, h3⟩
    have hm : rd x.f1 (j : Int) ∈ x.f1 := by
     have hlt : j < x.f1.length := by omega
     have : rd x.f1 (j : Int) = x.f1[j] := by simp [rd, hlt]
     rw [this]; exact List.getElem_mem hlt
    have hn : outside (-10000) 10000 (rd x.f1 (j : Int)) = false := by
     cases ho : outside (-10000) 10000 (rd x.f1 (j : Int)) with
     | false => rfl
     | true => exact absurd (List.any_eq_true.mpr ⟨_, hm, ho⟩) h2
    simp [outside] at hn; omega
   ·rw [if_neg h3] at h; omega
 ·rw [if_neg h1] at h; omega
theorem proE_ok (p : List S89) (n : Nat) : ∀ (m i : Nat), proE p n m i = 0 → ∀ j : Nat, i ≤ j → j < i + m → ProOk n (rd_T89 p (j : Int))
 | 0, i, h, j, h1, h2 => by omega
 | m + 1, i, h, j, h1, h2 => by
  unfold proE at h
  by_cases ha : nameOk (rd_T89 p (i : Int)).f0 = true
  ·rw [if_pos ha] at h
   by_cases hb : ((p.take i).any fun x => x.f0.toList == (rd_T89 p (i : Int)).f0.toList) = true
   ·rw [if_pos hb] at h; omega
   ·rw [if_neg hb] at h
    by_cases hc : proC n (rd_T89 p (i : Int)) = 0
    ·rw [if_pos hc] at h
     by_cases hj : j = i
     ·subst hj; exact proC_ok hc
     ·exact proE_ok p n m (i + 1) h j (by omega) (by omega)
    ·rw [if_neg hc] at h; exact absurd h hc
  ·rw [if_neg ha] at h; omega
structure BatchOk (o : List ByteArray) (mt : List S70) (s : List S27) (p : List S89) (a4 a5 a6 : Int) : Prop where
 o12 : o.length ≤ 12
 o1 : o.length ≠ 0
 m12 : mt.length ≤ 12
 m1 : mt.length ≠ 0
 mats : ∀ j : Nat, j < mt.length → MatOk o.length (rd_T70 mt (j : Int))
 slen : s.length = o.length
 shares : ∀ j : Nat, j < s.length → 0 ≤ (rd_T27 s (j : Int)).f0 ∧ (rd_T27 s (j : Int)).f0 ≤ (rd_T27 s (j : Int)).f1 ∧ (rd_T27 s (j : Int)).f1 ≤ 1000
 p6 : p.length ≤ 6
 pros : ∀ j : Nat, j < p.length → ProOk o.length (rd_T89 p (j : Int))
 redox : -10000 ≤ a4 ∧ a4 ≤ a5 ∧ a5 ≤ 10000
 wanted : 1 ≤ a6 ∧ a6 ≤ 10000
theorem check_ok {o : List ByteArray} {mt : List S70} {s : List S27} {p : List S89} {a4 a5 a6 : Int} (h : checkV o mt s p a4 a5 a6 = 0) : BatchOk o mt s p a4 a5 a6 := by
 unfold checkV at h
 by_cases h1 : o.length > 12
 ·rw [if_pos h1] at h; omega
 rw [if_neg h1] at h
 by_cases h2 : o.length = 0
 ·rw [if_pos h2] at h; omega
 rw [if_neg h2] at h
 by_cases h3 : oxE o o.length 0 = 0
 rotate_left
 ·rw [if_neg h3] at h; exact absurd h h3
 rw [if_pos h3] at h
 unfold matV at h
 by_cases h4 : mt.length > 12
 ·rw [if_pos h4] at h; omega
 rw [if_neg h4] at h
 by_cases h5 : mt.length = 0
 ·rw [if_pos h5] at h; omega
 rw [if_neg h5] at h
 by_cases h6 : matE mt o.length mt.length 0 = 0
 rotate_left
 ·rw [if_neg h6] at h; exact absurd h h6
 rw [if_pos h6] at h
 unfold shaV at h
 by_cases h7 : s.length = o.length
 rotate_left
 ·rw [if_neg h7] at h; omega
 rw [if_pos h7] at h
 by_cases h8 : s.any badSpan = true
 ·rw [if_pos h8] at h; omega
 rw [if_neg h8] at h
 unfold proV at h
 by_cases h9 : p.length > 6
 ·rw [if_pos h9] at h; omega
 rw [if_neg h9] at h
 by_cases h10 : proE p o.length p.length 0 = 0
 rotate_left
 ·rw [if_neg h10] at h; exact absurd h h10
 rw [if_pos h10] at h
 unfold endV at h
 by_cases h11 : -10000 ≤ a4 ∧ a4 ≤ a5 ∧ a5 ≤ 10000
 rotate_left
 ·rw [if_neg h11] at h; omega
 rw [if_pos h11] at h
 by_cases h12 : 1 ≤ a6 ∧ a6 ≤ 10000
 rotate_left
 ·rw [if_neg h12] at h; omega
 refine ⟨by omega, h2, by omega, h5, fun j hj => matE_ok mt _ _ 0 h6 j (by omega) (by omega), h7, fun j hj => ?_, by omega, fun j hj => proE_ok p _ _ 0 h10 j (by omega) (by omega), h11, h12⟩
 have hlt : j < s.length := hj
 have hr : rd_T27 s (j : Int) = s[j] := by simp [rd_T27, hlt]
 rw [hr]
 apply bad_false
 cases hb : badSpan s[j] with
 | false => rfl
 | true => exact absurd (List.any_eq_true.mpr ⟨_, List.getElem_mem hlt, hb⟩) h8
end
section
def rf_Recipe.l0 : Nat → List Int → Int → Option (Int)
 | 0, _, _ => none
 | k + 1, x1, x5 => if x5 < (x1.length : Int) then (if 0 ≤ x5 then (if (rd x1 x5) < 0 then (some 1) else (if (rd x1 x5) > 10000 then (some 1) else (rf_Recipe.l0 k x1 (wrap64 (x5 + 1))))) else (none)) else (some 0)
def rf_Recipe.f (k : Nat) (l0_0 : List ByteArray) (l0_1 : List (S70)) (l0_2 : List (S27)) (l0_3 : List (S89)) (a0_4 : Int) (a0_5 : Int) (a0_6 : Int) (l1 : List Int) : Option (Int) := if (l1.length : Int) = (l0_1.length : Int) then (rf_Recipe.l0 k l1 0) else (some 1)
theorem rf_Recipe.calls (k : Nat) (A0_0 : Option Addr) (c0_0 : Nat) (l0_0 : List ByteArray) (A0_1 : Option Addr) (c0_1 : Nat) (l0_1 : List (S70)) (A0_2 : Option Addr) (c0_2 : Nat) (l0_2 : List (S27)) (A0_3 : Option Addr) (c0_3 : Nat) (l0_3 : List (S89)) (a0_4 : Int) (a0_5 : Int) (a0_6 : Int) (A1 : Option Addr) (c1 : Nat) (l1 : List Int) (r : Int) (w : World) (hr0_0 : Kd.C Kd.string w A0_0 l0_0.length l0_0) (hc0_0 : l0_0.length ≤ c0_0) (hr0_1 : Kd.C k70 w A0_1 l0_1.length l0_1) (hc0_1 : l0_1.length ≤ c0_1) (hr0_2 : Kd.C k27 w A0_2 l0_2.length l0_2) (hc0_2 : l0_2.length ≤ c0_2) (hr0_3 : Kd.C k89 w A0_3 l0_3.length l0_3) (hc0_3 : l0_3.length ≤ c0_3) (hr1 : Kd.C (Kd.int .i64) w A1 l1.length l1) (hc1 : l1.length ≤ c1) (h : rf_Recipe.f k l0_0 l0_1 l0_2 l0_3 a0_4 a0_5 a0_6 l1 = some r) :
  Calls Tryz.prog 148 #[.agg #[.slice A0_0 l0_0.length c0_0, .slice A0_1 l0_1.length c0_1, .slice A0_2 l0_2.length c0_2, .slice A0_3 l0_3.length c0_3, .int .i64 a0_4, .int .i64 a0_5, .int .i64 a0_6], .slice A1 l1.length c1] w fun e w' => e = .returned (.int .i64 r) ∧ Below w.heap.size w w' := by
 have hu29 := Tryz.underlying29; have HR0_0 := Sd.mk hr0_0; have HC0_0 := Sd.mk hc0_0; clear hr0_0 hc0_0; have HR0_1 := Sd.mk hr0_1; have HC0_1 := Sd.mk hc0_1; clear hr0_1 hc0_1; have HR0_2 := Sd.mk hr0_2; have HC0_2 := Sd.mk hc0_2; clear hr0_2 hc0_2; have HR0_3 := Sd.mk hr0_3; have HC0_3 := Sd.mk hc0_3; clear hr0_3 hc0_3; have HR1 := Sd.mk hr1; have HC1 := Sd.mk hc1; clear hr1 hc1; have HB := Sd.mk (Below.refl w.heap.size w)
 have H : (if (l1.length : Int) = (l0_1.length : Int) then (rf_Recipe.l0 k l1 0) else (some 1)) = some r := h
 clear h
 by_cases c3 : (l1.length : Int) = (l0_1.length : Int)
 ·rw [if_pos c3] at H
  have c3b0 : ((l1.length : Int) == (l0_1.length : Int)) = true := beq_iff_eq.mpr c3
  have c3b1 : ((l1.length : Int) != (l0_1.length : Int)) = false := bne_eq_false_iff_eq.mpr c3
  have c3b2 : (l1.length == l0_1.length) = true := by first | simpa using c3 | (simp at c3 ⊢; omega)
  clear c3; have H' := Sd.mk H; clear H
  go_enter Tryz.func148, Tryz.ntmps148
  go_wp2_with (first | ((with_reducible refine gate_dst (N := 2) rfl ?_); refine box_event ?hg (N := 2) ?hd (cs := #[.slice A0_0 l0_0.length c0_0, .slice A0_1 l0_1.length c0_1, .slice A0_2 l0_2.length c0_2, .slice A0_3 l0_3.length c0_3, .int .i64 a0_4, .int .i64 a0_5, .int .i64 a0_6]) (t := 29) ?hr ?_; (case hd => rfl); (case hg => rfl); (case hr => exact tG); intro gb267 hg w4 hbox hb; have BK267 := Sd.mk (hbox); have GW267 := Sd.mk (bSz hg (bBl HB.out)); have GE267 := Sd.mk (bSz hg (bBl HB.out)); replace HB := Sd.mk (below_step (bBl HB.out) hb); clear hb hbox hg; obtain ⟨u5_0, u5_1, u5_2, u5_3, u5_4, u5_5, u5_6, o5_0, o5_1, o5_2, o5_3, o5_4, o5_5, o5_6⟩ := bc7 (w := w4) BK267.out))
  go_loopg [5] k (fun kq v5 w' => ∃ (x5_1 : Int), v5 = .int .i64 x5_1 ∧ Sd (rf_Recipe.l0 kq l1 x5_1 = some r) ∧ Sd (kq ≤ k) ∧ Sd (w'.heap[gb267]? = some (.cells #[(.slice A0_0 l0_0.length c0_0), (.slice A0_1 l0_1.length c0_1), (.slice A0_2 l0_2.length c0_2), (.slice A0_3 l0_3.length c0_3), .int .i64 a0_4, .int .i64 a0_5, .int .i64 a0_6] 29 (0, 0))) ∧ Sd (Below w.heap.size w w'))
  case atStart => exact ⟨(0), tS, H', ⟨Nat.le_refl _⟩, ⟨bkA BK267.out⟩, ⟨bBl HB.out⟩⟩
  case round =>
   clear H'; (try clear c1); (try clear p2); (try clear c3); (try clear c3b0); (try clear c3b1); (try clear c3b2); (try clear u5_0 u5_1 u5_2 u5_3 u5_4 u5_5 u5_6); (try clear o5_0 o5_1 o5_2 o5_3 o5_4 o5_5 o5_6); obtain ⟨x5_1, rfl, HA, HK1, BK267, HB⟩ := hrel
   cases gk with
   | zero => exact absurd HA.out (by simp [rf_Recipe.l0])
   | succ k1 =>
    have H := HA.out; clear HA
    simp only [rf_Recipe.l0] at H
    by_cases c6 : x5_1 < (l1.length : Int)
    ·rw [if_pos c6] at H
     have c6b0 : decide (x5_1 < (l1.length : Int)) = true := decide_eq_true c6
     clear c6
     by_cases c7 : 0 ≤ x5_1
     ·rw [if_pos c7] at H
      have c7b0 : decide (0 ≤ x5_1) = true := decide_eq_true c7
      clear c7
      by_cases c8 : (rd l1 x5_1) < 0
      ·rw [if_pos c8] at H
       have c8b0 : decide ((rd l1 x5_1) < 0) = true := decide_eq_true c8
       clear c8; obtain rfl := Option.some.inj H
       have p268 : 0 ≤ (x5_1 : Int) := tB
       have q268 : x5_1 < (l1.length : Int) := tB
       obtain ⟨ad268, e268, hx268_0⟩ := Kd.at_int HR1.out x5_1 p268 q268; cases e268; replace hx268_0 := cU HB hx268_0; replace p268 := eq_true p268; replace q268 := eq_true q268
       go_wp2
       go_ret
       exact ⟨tE, bBl HB.out⟩
      ·rw [if_neg c8] at H
       have c8b0 : decide ((rd l1 x5_1) < 0) = false := decide_eq_false c8
       clear c8
       by_cases c9 : (rd l1 x5_1) > 10000
       ·rw [if_pos c9] at H
        have c9b0 : decide (10000 < (rd l1 x5_1)) = true := decide_eq_true c9
        clear c9; obtain rfl := Option.some.inj H
        have p268 : 0 ≤ (x5_1 : Int) := tB
        have q268 : x5_1 < (l1.length : Int) := tB
        obtain ⟨ad268, e268, hx268_0⟩ := Kd.at_int HR1.out x5_1 p268 q268; cases e268; replace hx268_0 := cU HB hx268_0; replace p268 := eq_true p268; replace q268 := eq_true q268
        have p269 : 0 ≤ (x5_1 : Int) := tB
        have q269 : x5_1 < (l1.length : Int) := tB
        obtain ⟨ad269, e269, hx269_0⟩ := Kd.at_int HR1.out x5_1 p269 q269
        obtain rfl : ad268 = ad269 := (by injection e269)
        replace hx269_0 := cU HB hx269_0; replace p269 := eq_true p269; replace q269 := eq_true q269
        go_wp2
        go_ret
        exact ⟨tE, bBl HB.out⟩
       ·rw [if_neg c9] at H
        have c9b0 : decide (10000 < (rd l1 x5_1)) = false := decide_eq_false c9
        clear c9; have H' := Sd.mk H; clear H
        have p268 : 0 ≤ (x5_1 : Int) := tB
        have q268 : x5_1 < (l1.length : Int) := tB
        obtain ⟨ad268, e268, hx268_0⟩ := Kd.at_int HR1.out x5_1 p268 q268; cases e268; replace hx268_0 := cU HB hx268_0; replace p268 := eq_true p268; replace q268 := eq_true q268
        have p269 : 0 ≤ (x5_1 : Int) := tB
        have q269 : x5_1 < (l1.length : Int) := tB
        obtain ⟨ad269, e269, hx269_0⟩ := Kd.at_int HR1.out x5_1 p269 q269
        obtain rfl : ad268 = ad269 := (by injection e269)
        replace hx269_0 := cU HB hx269_0; replace p269 := eq_true p269; replace q269 := eq_true q269
        go_wp2
        go_roundg k1
        case measure => have := HK1.out; omega
        case rel => exact ⟨(wrap64 (x5_1 + 1)), tS, H', ⟨by have := HK1.out; omega⟩, ⟨bkA BK267.out⟩, ⟨bBl HB.out⟩⟩
     ·rw [if_neg c7] at H
      exact absurd H (by simp)
    ·rw [if_neg c6] at H
     have c6b0 : decide (x5_1 < (l1.length : Int)) = false := decide_eq_false c6
     clear c6; obtain rfl := Option.some.inj H
     go_wp2
     go_ret
     exact ⟨tE, bBl HB.out⟩
 ·rw [if_neg c3] at H
  have c3b0 : ((l1.length : Int) == (l0_1.length : Int)) = false := beq_eq_false_iff_ne.mpr c3
  have c3b1 : ((l1.length : Int) != (l0_1.length : Int)) = true := bne_iff_ne.mpr c3
  have c3b2 : (l1.length == l0_1.length) = false := by first | simpa using c3 | (simp at c3 ⊢; omega)
  obtain rfl := Option.some.inj H
  go_enter Tryz.func148, Tryz.ntmps148
  go_wp2_with (first | ((with_reducible refine gate_dst (N := 2) rfl ?_); refine box_event ?hg (N := 2) ?hd (cs := #[.slice A0_0 l0_0.length c0_0, .slice A0_1 l0_1.length c0_1, .slice A0_2 l0_2.length c0_2, .slice A0_3 l0_3.length c0_3, .int .i64 a0_4, .int .i64 a0_5, .int .i64 a0_6]) (t := 29) ?hr ?_; (case hd => rfl); (case hg => rfl); (case hr => exact tG); intro gb267 hg w10 hbox hb; have BK267 := Sd.mk (hbox); have GW267 := Sd.mk (bSz hg (bBl HB.out)); have GE267 := Sd.mk (bSz hg (bBl HB.out)); replace HB := Sd.mk (below_step (bBl HB.out) hb); clear hb hbox hg; obtain ⟨u11_0, u11_1, u11_2, u11_3, u11_4, u11_5, u11_6, o11_0, o11_1, o11_2, o11_3, o11_4, o11_5, o11_6⟩ := bc7 (w := w10) BK267.out))
  go_ret
  exact ⟨tE, bBl HB.out⟩
end
section
def rf_asked.f (k : Nat) (l0_0 : List ByteArray) (l0_1 : List (S70)) (l0_2 : List (S27)) (l0_3 : List (S89)) (a0_4 : Int) (a0_5 : Int) (a0_6 : Int) (l1 : List Int) : Option (Int) := (rf_Check.f k l0_0 l0_1 l0_2 l0_3 a0_4 a0_5 a0_6).bind fun t271 => (if t271 = 0 then ((rf_Recipe.f k l0_0 l0_1 l0_2 l0_3 a0_4 a0_5 a0_6 l1).bind fun t272 => (some t272)) else (some t271))
theorem rf_asked.calls (k : Nat) (A0_0 : Option Addr) (c0_0 : Nat) (l0_0 : List ByteArray) (A0_1 : Option Addr) (c0_1 : Nat) (l0_1 : List (S70)) (A0_2 : Option Addr) (c0_2 : Nat) (l0_2 : List (S27)) (A0_3 : Option Addr) (c0_3 : Nat) (l0_3 : List (S89)) (a0_4 : Int) (a0_5 : Int) (a0_6 : Int) (A1 : Option Addr) (c1 : Nat) (l1 : List Int) (r : Int) (w : World) (hr0_0 : Kd.C Kd.string w A0_0 l0_0.length l0_0) (hc0_0 : l0_0.length ≤ c0_0) (hr0_1 : Kd.C k70 w A0_1 l0_1.length l0_1) (hc0_1 : l0_1.length ≤ c0_1) (hr0_2 : Kd.C k27 w A0_2 l0_2.length l0_2) (hc0_2 : l0_2.length ≤ c0_2) (hr0_3 : Kd.C k89 w A0_3 l0_3.length l0_3) (hc0_3 : l0_3.length ≤ c0_3) (hr1 : Kd.C (Kd.int .i64) w A1 l1.length l1) (hc1 : l1.length ≤ c1) (h : rf_asked.f k l0_0 l0_1 l0_2 l0_3 a0_4 a0_5 a0_6 l1 = some r) :
  Calls Tryz.prog 53 #[.agg #[.slice A0_0 l0_0.length c0_0, .slice A0_1 l0_1.length c0_1, .slice A0_2 l0_2.length c0_2, .slice A0_3 l0_3.length c0_3, .int .i64 a0_4, .int .i64 a0_5, .int .i64 a0_6], .slice A1 l1.length c1] w fun e w' => e = .returned (.int .i64 r) ∧ Below w.heap.size w w' := by
 have hu29 := Tryz.underlying29; have HR0_0 := Sd.mk hr0_0; have HC0_0 := Sd.mk hc0_0; clear hr0_0 hc0_0; have HR0_1 := Sd.mk hr0_1; have HC0_1 := Sd.mk hc0_1; clear hr0_1 hc0_1; have HR0_2 := Sd.mk hr0_2; have HC0_2 := Sd.mk hc0_2; clear hr0_2 hc0_2; have HR0_3 := Sd.mk hr0_3; have HC0_3 := Sd.mk hc0_3; clear hr0_3 hc0_3; have HR1 := Sd.mk hr1; have HC1 := Sd.mk hc1; clear hr1 hc1; have HB := Sd.mk (Below.refl w.heap.size w)
 have H : ((rf_Check.f k l0_0 l0_1 l0_2 l0_3 a0_4 a0_5 a0_6).bind fun t271 => (if t271 = 0 then ((rf_Recipe.f k l0_0 l0_1 l0_2 l0_3 a0_4 a0_5 a0_6 l1).bind fun t272 => (some t272)) else (some t271))) = some r := h
 clear h; replace H := Option.bind_eq_some_iff.mp H; obtain ⟨t271, A30, H⟩ := H
 try dsimp only at H
 have A3 := Sd.mk A30; clear A30
 by_cases c4 : t271 = 0
 ·rw [if_pos c4] at H
  have c4b0 : (t271 == 0) = true := beq_iff_eq.mpr c4
  have c4b1 : (t271 != 0) = false := bne_eq_false_iff_eq.mpr c4
  clear c4; replace H := Option.bind_eq_some_iff.mp H; obtain ⟨t272, A50, H⟩ := H
  try dsimp only at H
  have A5 := Sd.mk A50; clear A50; obtain rfl := Option.some.inj H
  go_enter Tryz.func53, Tryz.ntmps53
  go_wp2_with (first | ((with_reducible refine gate_dst (N := 2) rfl ?_); refine box_event ?hg (N := 2) ?hd (cs := #[.slice A0_0 l0_0.length c0_0, .slice A0_1 l0_1.length c0_1, .slice A0_2 l0_2.length c0_2, .slice A0_3 l0_3.length c0_3, .int .i64 a0_4, .int .i64 a0_5, .int .i64 a0_6]) (t := 29) ?hr ?_; (case hd => rfl); (case hg => rfl); (case hr => exact tG); intro gb270 hg w6 hbox hb; have BK270 := Sd.mk (hbox); have GW270 := Sd.mk (bSz hg (bBl HB.out)); have GE270 := Sd.mk (bSz hg (bBl HB.out)); replace HB := Sd.mk (below_step (bBl HB.out) hb); clear hb hbox hg; obtain ⟨u7_0, u7_1, u7_2, u7_3, u7_4, u7_5, u7_6, o7_0, o7_1, o7_2, o7_3, o7_4, o7_5, o7_6⟩ := bc7 (w := w6) BK270.out) | ((with_reducible refine gate_callee (f := 86) rfl ?_); refine goesL_ (some 7) rfl rfl Tryz.func86 (by kernel_rfl) rfl #[.agg #[.slice A0_0 l0_0.length c0_0, .slice A0_1 l0_1.length c0_1, .slice A0_2 l0_2.length c0_2, .slice A0_3 l0_3.length c0_3, .int .i64 a0_4, .int .i64 a0_5, .int .i64 a0_6]] rfl tM ?_; (with_reducible refine (rf_Check.calls k _ _ l0_0 _ _ l0_1 _ _ l0_2 _ _ l0_3 a0_4 a0_5 a0_6 t271 _ (cS (Kd.C_below HR0_0.out HB.out)) HC0_0.out (cS (Kd.C_below HR0_1.out HB.out)) HC0_1.out (cS (Kd.C_below HR0_2.out HB.out)) HC0_2.out (cS (Kd.C_below HR0_3.out HB.out)) HC0_3.out A3.out).mono ?_); rintro e w8 ⟨rfl, hb⟩; refine ⟨_, rfl, ?_⟩; replace BK270 := Sd.mk (blk_below (bkA BK270.out) hb); replace HB := Sd.mk (below_step (bBl HB.out) hb); (try clear hb); (try clear hb2); (try clear hk); (try clear hi); obtain ⟨u9_0, u9_1, u9_2, u9_3, u9_4, u9_5, u9_6, o9_0, o9_1, o9_2, o9_3, o9_4, o9_5, o9_6⟩ := bc7 (w := w8) BK270.out) | ((with_reducible refine gate_callee (f := 148) rfl ?_); refine goesL_ (some 13) rfl rfl Tryz.func148 (by kernel_rfl) rfl #[.agg #[.slice A0_0 l0_0.length c0_0, .slice A0_1 l0_1.length c0_1, .slice A0_2 l0_2.length c0_2, .slice A0_3 l0_3.length c0_3, .int .i64 a0_4, .int .i64 a0_5, .int .i64 a0_6], .slice A1 l1.length c1] rfl tM ?_; (with_reducible refine (rf_Recipe.calls k _ _ l0_0 _ _ l0_1 _ _ l0_2 _ _ l0_3 a0_4 a0_5 a0_6 _ _ l1 t272 _ (cS (Kd.C_below HR0_0.out HB.out)) HC0_0.out (cS (Kd.C_below HR0_1.out HB.out)) HC0_1.out (cS (Kd.C_below HR0_2.out HB.out)) HC0_2.out (cS (Kd.C_below HR0_3.out HB.out)) HC0_3.out (cS (Kd.C_below HR1.out HB.out)) HC1.out A5.out).mono ?_); rintro e w10 ⟨rfl, hb⟩; refine ⟨_, rfl, ?_⟩; replace BK270 := Sd.mk (blk_below (bkA BK270.out) hb); replace HB := Sd.mk (below_step (bBl HB.out) hb); (try clear hb); (try clear hb2); (try clear hk); (try clear hi)))
  go_ret
  exact ⟨tE, bBl HB.out⟩
 ·rw [if_neg c4] at H
  have c4b0 : (t271 == 0) = false := beq_eq_false_iff_ne.mpr c4
  have c4b1 : (t271 != 0) = true := bne_iff_ne.mpr c4
  obtain rfl := Option.some.inj H
  go_enter Tryz.func53, Tryz.ntmps53
  go_wp2_with (first | ((with_reducible refine gate_dst (N := 2) rfl ?_); refine box_event ?hg (N := 2) ?hd (cs := #[.slice A0_0 l0_0.length c0_0, .slice A0_1 l0_1.length c0_1, .slice A0_2 l0_2.length c0_2, .slice A0_3 l0_3.length c0_3, .int .i64 a0_4, .int .i64 a0_5, .int .i64 a0_6]) (t := 29) ?hr ?_; (case hd => rfl); (case hg => rfl); (case hr => exact tG); intro gb270 hg w11 hbox hb; have BK270 := Sd.mk (hbox); have GW270 := Sd.mk (bSz hg (bBl HB.out)); have GE270 := Sd.mk (bSz hg (bBl HB.out)); replace HB := Sd.mk (below_step (bBl HB.out) hb); clear hb hbox hg; obtain ⟨u12_0, u12_1, u12_2, u12_3, u12_4, u12_5, u12_6, o12_0, o12_1, o12_2, o12_3, o12_4, o12_5, o12_6⟩ := bc7 (w := w11) BK270.out) | ((with_reducible refine gate_callee (f := 86) rfl ?_); refine goesL_ (some 7) rfl rfl Tryz.func86 (by kernel_rfl) rfl #[.agg #[.slice A0_0 l0_0.length c0_0, .slice A0_1 l0_1.length c0_1, .slice A0_2 l0_2.length c0_2, .slice A0_3 l0_3.length c0_3, .int .i64 a0_4, .int .i64 a0_5, .int .i64 a0_6]] rfl tM ?_; (with_reducible refine (rf_Check.calls k _ _ l0_0 _ _ l0_1 _ _ l0_2 _ _ l0_3 a0_4 a0_5 a0_6 t271 _ (cS (Kd.C_below HR0_0.out HB.out)) HC0_0.out (cS (Kd.C_below HR0_1.out HB.out)) HC0_1.out (cS (Kd.C_below HR0_2.out HB.out)) HC0_2.out (cS (Kd.C_below HR0_3.out HB.out)) HC0_3.out A3.out).mono ?_); rintro e w13 ⟨rfl, hb⟩; refine ⟨_, rfl, ?_⟩; replace BK270 := Sd.mk (blk_below (bkA BK270.out) hb); replace HB := Sd.mk (below_step (bBl HB.out) hb); (try clear hb); (try clear hb2); (try clear hk); (try clear hi)))
  go_ret
  exact ⟨tE, bBl HB.out⟩
end
section
mutual
def rf_Brings.l0 : Nat → List Int → List (S27) → Int → List ByteArray → List (S70) → List (S27) → List (S89) → Int → Int → Int → Option ((List (S27)))
 | 0, _, _, _, _, _, _, _, _, _, _ => none
 | k + 1, x1, x5, x6, x376q0, x376q1, x376q2, x376q3, x376q4, x376q5, x376q6 => if x6 < (x1.length : Int) then (rf_Brings.l1 k x1 x5 x6 0 x376q0 x376q1 x376q2 x376q3 x376q4 x376q5 x376q6) else (some x5)
def rf_Brings.l1 : Nat → List Int → List (S27) → Int → Int → List ByteArray → List (S70) → List (S27) → List (S89) → Int → Int → Int → Option ((List (S27)))
 | 0, _, _, _, _, _, _, _, _, _, _, _ => none
 | k + 1, x1, x5, x6, x7, x376q0, x376q1, x376q2, x376q3, x376q4, x376q5, x376q6 => if x7 < (x5.length : Int) then (if 0 ≤ x7 then (if 0 ≤ x6 then (if x6 < (x1.length : Int) then (if x6 < (x376q1.length : Int) then (if x7 < (((rd_T70 x376q1 x6).f6).length : Int) then ((some (x5.set (x7 : Int).toNat (⟨wrap64 (((rd_T27 x5 x7).f0) + (wrap64 ((rd x1 x6) * ((rd_T27 ((rd_T70 x376q1 x6).f6) x7).f0)))), (rd_T27 x5 x7).f1⟩ : S27) : List (S27))).bind fun y383 => (rf_Brings.l1 k x1 (y383.set (x7 : Int).toNat (⟨(rd_T27 y383 x7).f0, wrap64 (((rd_T27 y383 x7).f1) + (wrap64 ((rd x1 x6) * ((rd_T27 ((rd_T70 x376q1 x6).f6) x7).f1))))⟩ : S27)) x6 (wrap64 (x7 + 1)) x376q0 x376q1 x376q2 x376q3 x376q4 x376q5 x376q6)) else (none)) else (none)) else (none)) else (none)) else (none)) else (rf_Brings.l0 k x1 x5 (wrap64 (x6 + 1)) x376q0 x376q1 x376q2 x376q3 x376q4 x376q5 x376q6)
end
def rf_Brings.f (k : Nat) (l0_0 : List ByteArray) (l0_1 : List (S70)) (l0_2 : List (S27)) (l0_3 : List (S89)) (a0_4 : Int) (a0_5 : Int) (a0_6 : Int) (l1 : List Int) : Option ((List (S27))) := if 0 ≤ (l0_0.length : Int) then (if ((l0_0.length : Int) : Int).toNat ≤ 17592186044416 then (rf_Brings.l0 k l1 (List.replicate ((l0_0.length : Int) : Int).toNat z27) 0 l0_0 l0_1 l0_2 l0_3 a0_4 a0_5 a0_6) else (none)) else (none)
def rf_Brings.T8 : Bool × List (List Nat × List Nat) := (true, [([], []), ([], []), ([0, 1], [0, 1]), ([2], [2]), ([3], [3]), ([], []), ([], []), ([5, 6], [5, 6]), ([7], [7]), ([], []), ([9], [9]), ([], []), ([10, 11], [10, 11]), ([12], [12]), ([13], [13]), ([], []), ([14, 15], [14, 15]), ([16], [16]), ([17], [17]), ([8, 18], [8, 18]), ([4, 19], [4, 19]), ([0, 1, 0, 1, 2, 3, 4, 5, 6, 7, 8, 9, 10, 11, 12, 13, 14, 15, 16, 17, 18, 19, 20], [0, 1]), ([21, 0, 1, 2, 3, 4, 5, 6, 7, 8, 9, 10, 11, 12, 13, 14, 15, 16, 17, 18, 19, 20], [21]), ([22, 20, 0, 1, 2, 3, 4, 5, 6, 7, 8, 9, 10, 11, 12, 13, 14, 15, 16, 17, 18, 19, 20], [20, 22])])
def rf_Brings.B8 : List Nat := [0, 0, 3, 7, 15, 0, 0, 96, 224, 0, 512, 0, 3584, 7680, 15872, 0, 65024, 130560, 261632, 524256, 1048575, 2097151, 4194303, 8388607]
theorem rf_Brings.tab8 : rtab .any (opsOf Tryz.f199 8) = rf_Brings.T8 := by kernel_rfl
theorem rf_Brings.bits8 : waitsOk rf_Brings.T8.2 rf_Brings.B8 = true := by kernel_rfl
def rf_Brings.T9 : Bool × List (List Nat × List Nat) := (true, [([], []), ([], []), ([0, 1], [0, 1]), ([2], [2]), ([3], [3]), ([], []), ([], []), ([5, 6], [5, 6]), ([7], [7]), ([], []), ([9], [9]), ([], []), ([10, 11], [10, 11]), ([12], [12]), ([13], [13]), ([], []), ([14, 15], [14, 15]), ([16], [16]), ([17], [17]), ([8, 18], [8, 18]), ([4, 19], [4, 19]), ([0, 1, 0, 1, 2, 3, 4, 5, 6, 7, 8, 9, 10, 11, 12, 13, 14, 15, 16, 17, 18, 19, 20], [0, 1]), ([21, 0, 1, 2, 3, 4, 5, 6, 7, 8, 9, 10, 11, 12, 13, 14, 15, 16, 17, 18, 19, 20], [21]), ([22, 20, 0, 1, 2, 3, 4, 5, 6, 7, 8, 9, 10, 11, 12, 13, 14, 15, 16, 17, 18, 19, 20], [20, 22])])
def rf_Brings.B9 : List Nat := [0, 0, 3, 7, 15, 0, 0, 96, 224, 0, 512, 0, 3584, 7680, 15872, 0, 65024, 130560, 261632, 524256, 1048575, 2097151, 4194303, 8388607]
theorem rf_Brings.tab9 : rtab .any (opsOf Tryz.f199 9) = rf_Brings.T9 := by kernel_rfl
theorem rf_Brings.bits9 : waitsOk rf_Brings.T9.2 rf_Brings.B9 = true := by kernel_rfl
theorem rf_Brings.calls (k : Nat) (A0_0 : Option Addr) (c0_0 : Nat) (l0_0 : List ByteArray) (A0_1 : Option Addr) (c0_1 : Nat) (l0_1 : List (S70)) (A0_2 : Option Addr) (c0_2 : Nat) (l0_2 : List (S27)) (A0_3 : Option Addr) (c0_3 : Nat) (l0_3 : List (S89)) (a0_4 : Int) (a0_5 : Int) (a0_6 : Int) (A1 : Option Addr) (c1 : Nat) (l1 : List Int) (r : List (S27)) (w : World) (hr0_0 : Kd.C Kd.string w A0_0 l0_0.length l0_0) (hc0_0 : l0_0.length ≤ c0_0) (hr0_1 : Kd.C k70 w A0_1 l0_1.length l0_1) (hc0_1 : l0_1.length ≤ c0_1) (hr0_2 : Kd.C k27 w A0_2 l0_2.length l0_2) (hc0_2 : l0_2.length ≤ c0_2) (hr0_3 : Kd.C k89 w A0_3 l0_3.length l0_3) (hc0_3 : l0_3.length ≤ c0_3) (hr1 : Kd.C (Kd.int .i64) w A1 l1.length l1) (hc1 : l1.length ≤ c1) (h : rf_Brings.f k l0_0 l0_1 l0_2 l0_3 a0_4 a0_5 a0_6 l1 = some r) :
  Calls Tryz.prog 199 #[.agg #[.slice A0_0 l0_0.length c0_0, .slice A0_1 l0_1.length c0_1, .slice A0_2 l0_2.length c0_2, .slice A0_3 l0_3.length c0_3, .int .i64 a0_4, .int .i64 a0_5, .int .i64 a0_6], .slice A1 l1.length c1] w fun e w' => ∃ v0_ : Value, e = .returned (v0_) ∧ Kd.R k27 27 w' w.heap.size (fun _ => True) v0_ r ∧ Below w.heap.size w w' := by
 have hu29 := Tryz.underlying29; have HR0_0 := Sd.mk hr0_0; have HC0_0 := Sd.mk hc0_0; clear hr0_0 hc0_0; have HR0_1 := Sd.mk hr0_1; have HC0_1 := Sd.mk hc0_1; clear hr0_1 hc0_1; have HR0_2 := Sd.mk hr0_2; have HC0_2 := Sd.mk hc0_2; clear hr0_2 hc0_2; have HR0_3 := Sd.mk hr0_3; have HC0_3 := Sd.mk hc0_3; clear hr0_3 hc0_3; have HR1 := Sd.mk hr1; have HC1 := Sd.mk hc1; clear hr1 hc1; have HB := Sd.mk (Below.refl w.heap.size w)
 have H : (if 0 ≤ (l0_0.length : Int) then (if ((l0_0.length : Int) : Int).toNat ≤ 17592186044416 then (rf_Brings.l0 k l1 (List.replicate ((l0_0.length : Int) : Int).toNat z27) 0 l0_0 l0_1 l0_2 l0_3 a0_4 a0_5 a0_6) else (none)) else (none)) = some r := h
 clear h
 by_cases c3 : 0 ≤ (l0_0.length : Int)
 ·rw [if_pos c3] at H
  have c3b0 := eq_true c3
  have c3b1 : decide (0 ≤ (l0_0.length : Int)) = true := decide_eq_true c3
  clear c3
  by_cases c4 : ((l0_0.length : Int) : Int).toNat ≤ 17592186044416
  ·rw [if_pos c4] at H
   have c4b0 := eq_true c4
   have c4b1 : decide (((l0_0.length : Int) : Int).toNat ≤ 17592186044416) = true := decide_eq_true c4
   clear c4
   obtain ⟨y376, hy376⟩ : ∃ y_ : List (S27), y_ = (List.replicate ((l0_0.length : Int) : Int).toNat z27) := ⟨_, rfl⟩
   replace H : (rf_Brings.l0 k l1 y376 0 l0_0 l0_1 l0_2 l0_3 a0_4 a0_5 a0_6) = some r := by first | (rw [hy376]; with_reducible exact H) | (have H2_ := (Option.bind_some _ _).symm.trans H; rw [hy376]; with_reducible exact H2_) | (have H2_ := (Option.bind_some _ _).symm.trans H; with_reducible exact H2_) | with_reducible exact H | (rw [hy376]; exact H) | exact H
   have Ny376 := Sd.mk hy376; clear hy376; have H' := Sd.mk H; clear H
   go_enter Tryz.func199, Tryz.ntmps199
   go_wp2_with (first | ((with_reducible refine gate_dst (N := 2) rfl ?_); refine box_event ?hg (N := 2) ?hd (cs := #[.slice A0_0 l0_0.length c0_0, .slice A0_1 l0_1.length c0_1, .slice A0_2 l0_2.length c0_2, .slice A0_3 l0_3.length c0_3, .int .i64 a0_4, .int .i64 a0_5, .int .i64 a0_6]) (t := 29) ?hr ?_; (case hd => rfl); (case hg => rfl); (case hr => exact tG); intro gb375 hg w5 hbox hb; have BK375 := Sd.mk (hbox); have GW375 := Sd.mk (bSz hg (bBl HB.out)); have GE375 := Sd.mk (bSz hg (bBl HB.out)); replace HB := Sd.mk (below_step (bBl HB.out) hb); clear hb hbox hg; obtain ⟨u6_0, u6_1, u6_2, u6_3, u6_4, u6_5, u6_6, o6_0, o6_1, o6_2, o6_3, o6_4, o6_5, o6_6⟩ := bc7 (w := w5) BK375.out) | ((with_reducible refine gate_dst (N := 11) rfl ?_); refine Kd.R_make k27 _ 27 rfl (N := 11) rfl 24 _ _ rfl (l0_0.length : Int) rfl rfl Tryz.underlying24 (.agg #[(.int .i64 0), (.int .i64 0)]) 16 info27 rfl (by decide) (by omega) z27 (ok := fun _ => True) (okp := fun _ => True) (k27_mkM _ _ _ z27 ) (fun _ hk => hk) trivial (tB) (Nat.le_trans (Nat.mul_le_mul_right _ (tB : (l0_0.length : Int).toNat ≤ 17592186044416)) (by omega)) (Below.refl _ _) (Nat.le_refl _) ?_; intro v377 w7 ho8 hb hg_ hnew_; clear hg_ hnew_; (first | rw [← Ny376.out] at ho8 | (simp only [Int.reduceToNat] at ho8; rw [← Ny376.out] at ho8)); have HO378 := Sd.mk (Kd.R_lower ho8 (below_size (bBl HB.out))); replace BK375 := Sd.mk (blk_below (bkA BK375.out) hb); replace HB := Sd.mk (below_step (bBl HB.out) hb); clear hb ho8))
   go_loopg [6] k (fun kq v6 w' => ∃ (x5_1 : List (S27)) (x6_1 : Int), v6 = .int .i64 x6_1 ∧ Sd (rf_Brings.l0 kq l1 x5_1 x6_1 l0_0 l0_1 l0_2 l0_3 a0_4 a0_5 a0_6 = some r) ∧ Sd (kq ≤ k) ∧ Sd (Kd.R k27 27 w' w.heap.size (fun _ => True) v377 x5_1) ∧ Sd (w'.heap[gb375]? = some (.cells #[(.slice A0_0 l0_0.length c0_0), (.slice A0_1 l0_1.length c0_1), (.slice A0_2 l0_2.length c0_2), (.slice A0_3 l0_3.length c0_3), .int .i64 a0_4, .int .i64 a0_5, .int .i64 a0_6] 29 (0, 0))) ∧ Sd (Below w.heap.size w w'))
   case atStart => exact ⟨(y376), (0), tS, H', ⟨Nat.le_refl _⟩, ⟨by (with_reducible repeat (first | apply Kd.R_alloc | apply Kd.R_drewN | apply Kd.R_drew)); exact HO378.out⟩, ⟨bkA BK375.out⟩, ⟨bBl HB.out⟩⟩
   case round =>
    clear H'; (try clear c1); (try clear p2); (try clear c3); (try clear c3b0); (try clear c3b1); (try clear c4); (try clear c4b0); (try clear c4b1); (try clear u6_0 u6_1 u6_2 u6_3 u6_4 u6_5 u6_6); (try clear o6_0 o6_1 o6_2 o6_3 o6_4 o6_5 o6_6); obtain ⟨x5_1, x6_1, rfl, HA, HK1, HO_5, BK375, HB⟩ := hrel
    cases gk with
    | zero => exact absurd HA.out (by simp [rf_Brings.l0])
    | succ k1 =>
     have H := HA.out; clear HA
     simp only [rf_Brings.l0] at H
     by_cases c9 : x6_1 < (l1.length : Int)
     ·rw [if_pos c9] at H
      have c9b0 : decide (x6_1 < (l1.length : Int)) = true := decide_eq_true c9
      clear c9; have H' := Sd.mk H; clear H
      go_wp2
      go_loopg [7] k1 (fun kq v7 w' => ∃ (x5_2 : List (S27)) (x7_2 : Int), v7 = .int .i64 x7_2 ∧ Sd (rf_Brings.l1 kq l1 x5_2 x6_1 x7_2 l0_0 l0_1 l0_2 l0_3 a0_4 a0_5 a0_6 = some r) ∧ Sd (kq ≤ k1) ∧ Sd (Kd.R k27 27 w' w.heap.size (fun _ => True) v377 x5_2) ∧ Sd (w'.heap[gb375]? = some (.cells #[(.slice A0_0 l0_0.length c0_0), (.slice A0_1 l0_1.length c0_1), (.slice A0_2 l0_2.length c0_2), (.slice A0_3 l0_3.length c0_3), .int .i64 a0_4, .int .i64 a0_5, .int .i64 a0_6] 29 (0, 0))) ∧ Sd (Below w.heap.size w w'))
      case atStart => exact ⟨(x5_1), (0), tS, H', ⟨Nat.le_refl _⟩, ⟨by (with_reducible repeat (first | apply Kd.R_alloc | apply Kd.R_drewN | apply Kd.R_drew)); exact HO_5.out⟩, ⟨bkA BK375.out⟩, ⟨bBl HB.out⟩⟩
      case round =>
       clear H'; (try clear c1); (try clear p2 p2); (try clear c3); (try clear c3b0); (try clear c3b1); (try clear c4); (try clear c4b0); (try clear c4b1); (try clear c9); (try clear c9b0); (try clear u6_0 u6_1 u6_2 u6_3 u6_4 u6_5 u6_6); (try clear o6_0 o6_1 o6_2 o6_3 o6_4 o6_5 o6_6); obtain ⟨x5_2, x7_2, rfl, HA, HK2, HO_5, BK375, HB⟩ := hrel
       cases gk with
       | zero => exact absurd HA.out (by simp [rf_Brings.l1])
       | succ k2 =>
        have H := HA.out; clear HA
        simp only [rf_Brings.l1] at H
        by_cases c10 : x7_2 < (x5_2.length : Int)
        ·rw [if_pos c10] at H
         have c10b0 : decide (x7_2 < (x5_2.length : Int)) = true := decide_eq_true c10
         clear c10
         by_cases c11 : 0 ≤ x7_2
         ·rw [if_pos c11] at H
          have c11b0 : decide (0 ≤ x7_2) = true := decide_eq_true c11
          clear c11
          by_cases c12 : 0 ≤ x6_1
          ·rw [if_pos c12] at H
           have c12b0 : decide (0 ≤ x6_1) = true := decide_eq_true c12
           clear c12
           by_cases c13 : x6_1 < (l1.length : Int)
           ·rw [if_pos c13] at H
            have c13b0 : decide (x6_1 < (l1.length : Int)) = true := decide_eq_true c13
            clear c13
            by_cases c14 : x6_1 < (l0_1.length : Int)
            ·rw [if_pos c14] at H
             have c14b0 : decide (x6_1 < (l0_1.length : Int)) = true := decide_eq_true c14
             clear c14
             by_cases c15 : x7_2 < (((rd_T70 l0_1 x6_1).f6).length : Int)
             ·rw [if_pos c15] at H
              have c15b0 : decide (x7_2 < (((rd_T70 l0_1 x6_1).f6).length : Int)) = true := decide_eq_true c15
              clear c15
              obtain ⟨y383, hy383⟩ : ∃ y_ : List (S27), y_ = (x5_2.set (x7_2 : Int).toNat (⟨wrap64 (((rd_T27 x5_2 x7_2).f0) + (wrap64 ((rd l1 x6_1) * ((rd_T27 ((rd_T70 l0_1 x6_1).f6) x7_2).f0)))), (rd_T27 x5_2 x7_2).f1⟩ : S27)) := ⟨_, rfl⟩
              replace H : (rf_Brings.l1 k2 l1 (y383.set (x7_2 : Int).toNat (⟨(rd_T27 y383 x7_2).f0, wrap64 (((rd_T27 y383 x7_2).f1) + (wrap64 ((rd l1 x6_1) * ((rd_T27 ((rd_T70 l0_1 x6_1).f6) x7_2).f1))))⟩ : S27)) x6_1 (wrap64 (x7_2 + 1)) l0_0 l0_1 l0_2 l0_3 a0_4 a0_5 a0_6) = some r := by first | (rw [hy383]; with_reducible exact H) | (have H2_ := (Option.bind_some _ _).symm.trans H; rw [hy383]; with_reducible exact H2_) | (have H2_ := (Option.bind_some _ _).symm.trans H; with_reducible exact H2_) | with_reducible exact H | (rw [hy383]; exact H) | exact H
              have Ny383 := Sd.mk hy383; clear hy383
              obtain ⟨y388, hy388⟩ : ∃ y_ : List (S27), y_ = (y383.set (x7_2 : Int).toNat (⟨(rd_T27 y383 x7_2).f0, wrap64 (((rd_T27 y383 x7_2).f1) + (wrap64 ((rd l1 x6_1) * ((rd_T27 ((rd_T70 l0_1 x6_1).f6) x7_2).f1))))⟩ : S27)) := ⟨_, rfl⟩
              replace H : (rf_Brings.l1 k2 l1 y388 x6_1 (wrap64 (x7_2 + 1)) l0_0 l0_1 l0_2 l0_3 a0_4 a0_5 a0_6) = some r := by first | (rw [hy388]; with_reducible exact H) | (have H2_ := (Option.bind_some _ _).symm.trans H; rw [hy388]; with_reducible exact H2_) | (have H2_ := (Option.bind_some _ _).symm.trans H; with_reducible exact H2_) | with_reducible exact H | (rw [hy388]; exact H) | exact H
              have Ny388 := Sd.mk hy388; clear hy388; have H' := Sd.mk H; clear H; obtain ⟨Ao18, co18, eo18⟩ := Kd.R_slice HO_5.out; subst eo18
              try go_wp2
              replace HO_5 := Sd.mk (Kd.R_drew HO_5.out); replace BK375 := Sd.mk (blk_drew BK375.out); replace HB := Sd.mk (below_drew1 HB.out)
              have p379 : 0 ≤ (x7_2 : Int) := tB
              have q379 : x7_2 < (x5_2.length : Int) := tB
              obtain ⟨ad379, e379, hx379_0, hx379_1⟩ := at_T27 (Kd.R_reads' HO_5.out).2.2 x7_2 p379 q379; cases e379; replace p379 := eq_true p379; replace q379 := eq_true q379
              have p380 : 0 ≤ (x6_1 : Int) := tB
              have q380 : x6_1 < (l1.length : Int) := tB
              obtain ⟨ad380, e380, hx380_0⟩ := Kd.at_int HR1.out x6_1 p380 q380; have hw380_0 := hx380_0; cases e380; replace hx380_0 := cU HB hx380_0; replace p380 := eq_true p380; replace q380 := eq_true q380
              have p381 : 0 ≤ (x6_1 : Int) := tB
              have q381 : x6_1 < (l0_1.length : Int) := tB
              obtain ⟨ad381, A381_6, c381_6, e381, hx381_0, hx381_1, hx381_2, hx381_3, hx381_4, hx381_5, hx381_6, hl381_6, hi381_6⟩ := at_T70 HR0_1.out x6_1 p381 q381; have hw381_6 := hx381_6; have hw381_5 := hx381_5; have hw381_4 := hx381_4; have hw381_3 := hx381_3; have hw381_2 := hx381_2; have hw381_1 := hx381_1; have hw381_0 := hx381_0; cases e381; replace hx381_0 := cU HB hx381_0; replace hx381_1 := cU HB hx381_1; replace hx381_2 := cU HB hx381_2; replace hx381_3 := cU HB hx381_3; replace hx381_4 := cU HB hx381_4; replace hx381_5 := cU HB hx381_5; replace hx381_6 := cU HB hx381_6; have HR381_6 := Sd.mk hi381_6; have HC381_6 := Sd.mk hl381_6; clear hi381_6 hl381_6; replace p381 := eq_true p381; replace q381 := eq_true q381
              have p382 : 0 ≤ (x7_2 : Int) := tB
              have q382 : x7_2 < (((rd_T70 l0_1 x6_1).f6).length : Int) := tB
              obtain ⟨ad382, e382, hx382_0, hx382_1⟩ := at_T27 HR381_6.out x7_2 p382 q382; have hw382_1 := hx382_1; have hw382_0 := hx382_0; cases e382; replace hx382_0 := cU HB hx382_0; replace hx382_1 := cU HB hx382_1; replace p382 := eq_true p382; replace q382 := eq_true q382
              have p16 : 0 ≤ (x7_2 : Int) := tB
              have q16 : (x7_2 : Int) < ((x5_2.length : Int) : Int) := tB
              obtain ⟨go16, co16, eo16, gb16, gl16, cl16, HG16⟩ := Kd.R_form HO_5.out (by omega)
              (first | cases eo16 | (injection eo16 with ea_ en_ ec_; (first | subst ea_ | (injection ea_ with ea_; subst ea_)); subst ec_; clear en_))
              have GB16 := Sd.mk gb16; have GG16 := Sd.mk HG16; clear gb16 gl16 HG16
              (first | simp only [add_plain] at hx379_0 | skip)
              (first | simp only [add_plain] at hx379_1 | skip)
              obtain ⟨ce16, hcl16, hM16, hcc16, hfr16⟩ := Kd.R_elem HO_5.out z27 (x7_2 : Int) p16 q16; obtain rfl := k27_openM hM16
              have hx16_0 : World.cell? _ ⟨go16, (x7_2 : Int).toNat * 2, none⟩ = some (.int .i64 ((rd_T27 x5_2 x7_2).f0)) := hcc16 0 _ rfl
              have hx16_1 : World.cell? _ ⟨go16, (x7_2 : Int).toNat * 2 + 1, none⟩ = some (.int .i64 ((rd_T27 x5_2 x7_2).f1)) := hcc16 1 _ rfl
              have hf16_0 : World.frozen? _ ⟨go16, (x7_2 : Int).toNat * 2, none⟩ = false := hfr16 0
              have hf16_1 : World.frozen? _ ⟨go16, (x7_2 : Int).toNat * 2 + 1, none⟩ = false := hfr16 1
              clear hcl16 hcc16 hfr16 hM16; replace p16 := eq_true p16; replace q16 := eq_true q16
              obtain ⟨ce20, hcl20, hM20, hcc20, hfr20⟩ := Kd.R_elem HO_5.out z27 (x7_2 : Int) (tB) (by have h_ : (x7_2 : Int) < ((x5_2.length : Int) : Int) := tB; first | exact h_ | (have e_ := (Kd.R_reads' HO_5.out).1; omega) | simpa using h_)
              obtain rfl := k27_openM hM20
              have HP20 := (Kd.R_seg HO_5.out (x7_2 : Int) (tB) (by have h_ : (x7_2 : Int) < ((x5_2.length : Int) : Int) := tB; first | exact h_ | (have e_ := (Kd.R_reads' HO_5.out).1; omega) | simpa using h_) (seg := [.int .i64 (wrap64 (((rd_T27 x5_2 x7_2).f0) + (wrap64 ((rd l1 x6_1) * ((rd_T27 ((rd_T70 l0_1 x6_1).f6) x7_2).f0)))))]) (j := 0) hcl20 hcc20 (show 1 ≤ 2 from by decide) (x' := (⟨wrap64 (((rd_T27 x5_2 x7_2).f0) + (wrap64 ((rd l1 x6_1) * ((rd_T27 ((rd_T70 l0_1 x6_1).f6) x7_2).f0)))), (rd_T27 x5_2 x7_2).f1⟩ : S27)) (k27_mkM _ _ _ (⟨wrap64 (((rd_T27 x5_2 x7_2).f0) + (wrap64 ((rd l1 x6_1) * ((rd_T27 ((rd_T70 l0_1 x6_1).f6) x7_2).f0)))), (rd_T27 x5_2 x7_2).f1⟩ : S27) ) (fun _ hk => hk)).1
              rw [← Ny383.out] at HP20
              have HQ20 := Sd.mk HP20; clear hcl20 hcc20 hfr20 hM20 HP20
              refine start_ (n := 24) (S := fun w' => w'.cell? ⟨gb375, 0, none⟩ = some (.slice A0_0 l0_0.length c0_0) ∧ w'.cell? ⟨gb375, 1, none⟩ = some (.slice (some ad381) l0_1.length c0_1) ∧ w'.cell? ⟨gb375, 2, none⟩ = some (.slice A0_2 l0_2.length c0_2) ∧ w'.cell? ⟨gb375, 3, none⟩ = some (.slice A0_3 l0_3.length c0_3) ∧ w'.cell? ⟨gb375, 4, none⟩ = some (.int .i64 a0_4) ∧ w'.cell? ⟨gb375, 5, none⟩ = some (.int .i64 a0_5) ∧ w'.cell? ⟨gb375, 6, none⟩ = some (.int .i64 a0_6) ∧ w'.cell? ⟨go16, ((x7_2).toNat * 2), none⟩ = some (.int .i64 ((rd_T27 x5_2 x7_2).f0)) ∧ w'.cell? ⟨go16, ((x7_2).toNat * 2) + 1, none⟩ = some (.int .i64 ((rd_T27 x5_2 x7_2).f1)) ∧ w'.cell? (ad380.add (x6_1).toNat) = some (.int .i64 (rd l1 x6_1)) ∧ w'.cell? (ad381.add ((x6_1).toNat * 7)) = some (.string ((rd_T70 l0_1 x6_1).f0)) ∧ w'.cell? ⟨(ad381.add ((x6_1).toNat * 7)).block, (ad381.add ((x6_1).toNat * 7)).off + 1, none⟩ = some (.int .i64 ((rd_T70 l0_1 x6_1).f1)) ∧ w'.cell? ⟨(ad381.add ((x6_1).toNat * 7)).block, (ad381.add ((x6_1).toNat * 7)).off + 2, none⟩ = some (.int .i64 ((rd_T70 l0_1 x6_1).f2)) ∧ w'.cell? ⟨(ad381.add ((x6_1).toNat * 7)).block, (ad381.add ((x6_1).toNat * 7)).off + 3, none⟩ = some (.int .i64 ((rd_T70 l0_1 x6_1).f3)) ∧ w'.cell? ⟨(ad381.add ((x6_1).toNat * 7)).block, (ad381.add ((x6_1).toNat * 7)).off + 4, none⟩ = some (.int .i64 ((rd_T70 l0_1 x6_1).f4)) ∧ w'.cell? ⟨(ad381.add ((x6_1).toNat * 7)).block, (ad381.add ((x6_1).toNat * 7)).off + 5, none⟩ = some (.int .i64 ((rd_T70 l0_1 x6_1).f5)) ∧ w'.cell? ⟨(ad381.add ((x6_1).toNat * 7)).block, (ad381.add ((x6_1).toNat * 7)).off + 6, none⟩ = some (.slice (some ad382) ((rd_T70 l0_1 x6_1).f6).length c381_6) ∧ w'.cell? (ad382.add ((x7_2).toNat * 2)) = some (.int .i64 ((rd_T27 ((rd_T70 l0_1 x6_1).f6) x7_2).f0)) ∧ w'.cell? ⟨(ad382.add ((x7_2).toNat * 2)).block, (ad382.add ((x7_2).toNat * 2)).off + 1, none⟩ = some (.int .i64 ((rd_T27 ((rd_T70 l0_1 x6_1).f6) x7_2).f1))) (ds := [23]) (bA 24 0) (by kernel_rfl) rfl rfl ⟨(blk_cell BK375.out 0).trans rfl, (blk_cell BK375.out 1).trans rfl, (blk_cell BK375.out 2).trans rfl, (blk_cell BK375.out 3).trans rfl, (blk_cell BK375.out 4).trans rfl, (blk_cell BK375.out 5).trans rfl, (blk_cell BK375.out 6).trans rfl, hx379_0, hx379_1, (cU HB hw380_0 :), (cU HB hw381_0 :), (cU HB hw381_1 :), (cU HB hw381_2 :), (cU HB hw381_3 :), (cU HB hw381_4 :), (cU HB hw381_5 :), (cU HB hw381_6 :), (cU HB hw382_0 :), (cU HB hw382_1 :)⟩ (fun hHeld => ?_); refine with_tabW rf_Brings.tab8 rf_Brings.bits8 (fun HT_ HW_ => ?_)
              generalize wr.drew = w19 at HO_5 BK375 HB GG16 HQ20 HR381_6 hf16_0 hf16_1 hx16_0 hx16_1 hx379_0 hx379_1 hx380_0 hx381_0 hx381_1 hx381_2 hx381_3 hx381_4 hx381_5 hx381_6 hx382_0 hx382_1 hHeld ⊢
              refine pQ 0 (some 24) (bA 24 1) ?_
              refine pQ 1 (some 25) (bA 24 3) ?_
              refine pQ 2 (some 26) (bA 24 7) ?_
              refine pQ 3 (some 27) (bA 24 15) ?_
              refine pQ 5 (some 29) (bA 24 47) ?_
              refine pQ 6 (some 30) (bA 24 111) ?_
              refine pQ 7 (some 31) (bA 24 239) ?_
              refine pQ 9 (some 33) (bA 24 751) ?_
              refine pQ 11 (some 35) (bA 24 2799) ?_
              refine pQ 15 (some 39) (bA 24 35567) ?_
              refine tQ 4 (some 28) (bA 24 35583) ?_
              refine tQ 8 (some 32) (bA 24 35839) ?_
              refine tQ 10 (some 34) (bA 24 36863) ?_
              refine pQ 12 (some 36) (bA 24 40959) ?_
              refine pQ 13 (some 37) (bA 24 49151) ?_
              refine tQ 14 (some 38) (bA 24 65535) ?_
              refine pQ 16 (some 40) (bA 24 131071) ?_
              refine pQ 17 (some 41) (bA 24 262143) ?_
              refine tQ 18 (some 42) (bA 24 524287) ?_
              refine pQ 19 (some 43) (bA 24 1048575) ?_
              refine pQ 20 (some 44) (bA 24 2097151) ?_
              refine pQ 21 (some 45) (bA 24 4194303) ?_
              refine pQ 22 (some 46) (bA 24 8388607) ?_
              refine last_ (i := 23) (N := none) (bA 24 16777215) rfl rfl (one_of HT_.out (by kernel_rfl)) (by decide) (fun K hK => ?_)
              refine skip_ (w1 := ?_) (by rfl) rfl ?_ ?_
              rotate_left
              ·go_simp
               rfl
              refine hK.out _ _ ?_
              clear hK K
              refine done_ (done_of HT_.out (by kernel_rfl)) ?_
              try go_wp2
              have n0_ : Sd (Kd.R k27 27 (w19.setCell ⟨go16, (x7_2 : Int).toNat * 2, none⟩ (.int .i64 (wrap64 (((rd_T27 x5_2 x7_2).f0) + (wrap64 ((rd l1 x6_1) * ((rd_T27 ((rd_T70 l0_1 x6_1).f6) x7_2).f0))))))) w.heap.size (fun _ => True) (.slice (some ⟨go16, 0, none⟩) x5_2.length co18) y383) := ⟨by (with_reducible repeat (first | apply Kd.R_alloc | apply Kd.R_drewN | apply Kd.R_drew)); exact HQ20.out⟩
              have n1_ : Sd ((w19.setCell ⟨go16, (x7_2 : Int).toNat * 2, none⟩ (.int .i64 (wrap64 (((rd_T27 x5_2 x7_2).f0) + (wrap64 ((rd l1 x6_1) * ((rd_T27 ((rd_T70 l0_1 x6_1).f6) x7_2).f0))))))).heap[gb375]? = some (.cells #[.slice A0_0 l0_0.length c0_0, .slice (some ad381) l0_1.length c0_1, .slice A0_2 l0_2.length c0_2, .slice A0_3 l0_3.length c0_3, .int .i64 a0_4, .int .i64 a0_5, .int .i64 a0_6] 29 (0, 0))) := ⟨by refine bkZ ?_; refine blk_far ?_ (by have h_ := Kd.R_ne HO_5.out BK375.out (by decide); intro e_; exact h_ (by rw [e_]; rfl)) _; refine bkZ ?_; exact BK375.out⟩
              have n2_ : Sd (Below w.heap.size w (w19.setCell ⟨go16, (x7_2 : Int).toNat * 2, none⟩ (.int .i64 (wrap64 (((rd_T27 x5_2 x7_2).f0) + (wrap64 ((rd l1 x6_1) * ((rd_T27 ((rd_T70 l0_1 x6_1).f6) x7_2).f0)))))))) := ⟨bBl HB.out⟩
              (try clear HO_5)
              (try clear BK375)
              (try clear HB)
              generalize (w19.setCell ⟨go16, (x7_2 : Int).toNat * 2, none⟩ (.int .i64 (wrap64 (((rd_T27 x5_2 x7_2).f0) + (wrap64 ((rd l1 x6_1) * ((rd_T27 ((rd_T70 l0_1 x6_1).f6) x7_2).f0))))))) = w21 at n0_ n1_ n2_ ⊢
              have HO_5 := n0_; have BK375 := n1_; have HB := n2_; clear n0_ n1_ n2_; replace HO_5 := Sd.mk (Kd.R_drew HO_5.out); replace BK375 := Sd.mk (blk_drew BK375.out); replace HB := Sd.mk (below_drew1 HB.out)
              have p384 : 0 ≤ (x7_2 : Int) := tB
              have q384 : x7_2 < (y383.length : Int) := (by have h_ : (x7_2 : Int) < ((x5_2.length : Int) : Int) := tB; first | (have e_ := (Kd.R_reads' HO_5.out).1; omega) | simpa only [Ny383.out, List.length_set] using h_)
              have ql384 : ((x7_2 : Int) < ((x5_2.length : Int) : Int)) = True := eq_true (tB)
              obtain ⟨ad384, e384, hx384_0, hx384_1⟩ := at_T27 (Kd.R_reads' HO_5.out).2.2 x7_2 p384 q384
              obtain rfl : (⟨go16, 0, none⟩ : Addr) = ad384 := (by injection e384)
              (first | simp only [add_plain] at hx384_0 | simp only [add_at] at hx384_0 | simp only [Addr.add, Nat.zero_add] at hx384_0 | skip)
              (first | simp only [add_plain] at hx384_1 | simp only [add_at] at hx384_1 | simp only [Addr.add, Nat.zero_add] at hx384_1 | skip)
              replace p384 := eq_true p384; replace q384 := eq_true q384
              have p385 : 0 ≤ (x6_1 : Int) := tB
              have q385 : x6_1 < (l1.length : Int) := tB
              obtain ⟨ad385, e385, hx385_0⟩ := Kd.at_int HR1.out x6_1 p385 q385; have hw385_0 := hx385_0
              obtain rfl : ad380 = ad385 := (by injection e385)
              replace hx385_0 := cU HB hx385_0; replace p385 := eq_true p385; replace q385 := eq_true q385
              have p386 : 0 ≤ (x6_1 : Int) := tB
              have q386 : x6_1 < (l0_1.length : Int) := tB
              obtain ⟨ad386, A386_6, c386_6, e386, hx386_0, hx386_1, hx386_2, hx386_3, hx386_4, hx386_5, hx386_6, hl386_6, hi386_6⟩ := at_T70 HR0_1.out x6_1 p386 q386; have hw386_6 := hx386_6; have hw386_5 := hx386_5; have hw386_4 := hx386_4; have hw386_3 := hx386_3; have hw386_2 := hx386_2; have hw386_1 := hx386_1; have hw386_0 := hx386_0
              obtain rfl : ad381 = ad386 := (by injection e386)
              replace hx386_0 := cU HB hx386_0; replace hx386_1 := cU HB hx386_1; replace hx386_2 := cU HB hx386_2; replace hx386_3 := cU HB hx386_3; replace hx386_4 := cU HB hx386_4; replace hx386_5 := cU HB hx386_5; replace hx386_6 := cU HB hx386_6; have HR386_6 := Sd.mk hi386_6; have HC386_6 := Sd.mk hl386_6; clear hi386_6 hl386_6; replace p386 := eq_true p386; replace q386 := eq_true q386
              have p387 : 0 ≤ (x7_2 : Int) := tB
              have q387 : x7_2 < (((rd_T70 l0_1 x6_1).f6).length : Int) := tB
              obtain ⟨ad387, e387, hx387_0, hx387_1⟩ := at_T27 HR386_6.out x7_2 p387 q387; have hw387_1 := hx387_1; have hw387_0 := hx387_0; cases e387; replace hx387_0 := cU HB hx387_0; replace hx387_1 := cU HB hx387_1; replace p387 := eq_true p387; replace q387 := eq_true q387
              have p17 : 0 ≤ (x7_2 : Int) := tB
              have q17 : (x7_2 : Int) < ((x5_2.length : Int) : Int) := tB
              obtain ⟨ce17, hcl17, hM17, hcc17, hfr17⟩ := Kd.R_elem HO_5.out z27 (x7_2 : Int) p17 q17; obtain rfl := k27_openM hM17
              have hx17_0 : World.cell? _ ⟨go16, (x7_2 : Int).toNat * 2, none⟩ = some (.int .i64 ((rd_T27 y383 x7_2).f0)) := hcc17 0 _ rfl
              have hx17_1 : World.cell? _ ⟨go16, (x7_2 : Int).toNat * 2 + 1, none⟩ = some (.int .i64 ((rd_T27 y383 x7_2).f1)) := hcc17 1 _ rfl
              have hf17_0 : World.frozen? _ ⟨go16, (x7_2 : Int).toNat * 2, none⟩ = false := hfr17 0
              have hf17_1 : World.frozen? _ ⟨go16, (x7_2 : Int).toNat * 2 + 1, none⟩ = false := hfr17 1
              clear hcl17 hcc17 hfr17 hM17; replace p17 := eq_true p17; replace q17 := eq_true q17
              obtain ⟨ce23, hcl23, hM23, hcc23, hfr23⟩ := Kd.R_elem HO_5.out z27 (x7_2 : Int) (tB) (by have h_ : (x7_2 : Int) < ((x5_2.length : Int) : Int) := tB; first | exact h_ | (have e_ := (Kd.R_reads' HO_5.out).1; omega) | simpa using h_)
              obtain rfl := k27_openM hM23
              have HP23 := (Kd.R_seg HO_5.out (x7_2 : Int) (tB) (by have h_ : (x7_2 : Int) < ((x5_2.length : Int) : Int) := tB; first | exact h_ | (have e_ := (Kd.R_reads' HO_5.out).1; omega) | simpa using h_) (seg := [.int .i64 (wrap64 (((rd_T27 y383 x7_2).f1) + (wrap64 ((rd l1 x6_1) * ((rd_T27 ((rd_T70 l0_1 x6_1).f6) x7_2).f1)))))]) (j := 1) hcl23 hcc23 (show 2 ≤ 2 from by decide) (x' := (⟨(rd_T27 y383 x7_2).f0, wrap64 (((rd_T27 y383 x7_2).f1) + (wrap64 ((rd l1 x6_1) * ((rd_T27 ((rd_T70 l0_1 x6_1).f6) x7_2).f1))))⟩ : S27)) (k27_mkM _ _ _ (⟨(rd_T27 y383 x7_2).f0, wrap64 (((rd_T27 y383 x7_2).f1) + (wrap64 ((rd l1 x6_1) * ((rd_T27 ((rd_T70 l0_1 x6_1).f6) x7_2).f1))))⟩ : S27) ) (fun _ hk => hk)).1
              rw [← Ny388.out] at HP23
              have HQ23 := Sd.mk HP23; clear hcl23 hcc23 hfr23 hM23 HP23
              refine start_ (n := 24) (S := fun w' => w'.cell? ⟨gb375, 0, none⟩ = some (.slice A0_0 l0_0.length c0_0) ∧ w'.cell? ⟨gb375, 1, none⟩ = some (.slice (some ad381) l0_1.length c0_1) ∧ w'.cell? ⟨gb375, 2, none⟩ = some (.slice A0_2 l0_2.length c0_2) ∧ w'.cell? ⟨gb375, 3, none⟩ = some (.slice A0_3 l0_3.length c0_3) ∧ w'.cell? ⟨gb375, 4, none⟩ = some (.int .i64 a0_4) ∧ w'.cell? ⟨gb375, 5, none⟩ = some (.int .i64 a0_5) ∧ w'.cell? ⟨gb375, 6, none⟩ = some (.int .i64 a0_6) ∧ w'.cell? ⟨go16, (x7_2).toNat * 2, none⟩ = some (.int .i64 ((rd_T27 y383 x7_2).f0)) ∧ w'.cell? ⟨go16, (x7_2).toNat * 2 + 1, none⟩ = some (.int .i64 ((rd_T27 y383 x7_2).f1)) ∧ w'.cell? (ad380.add (x6_1).toNat) = some (.int .i64 (rd l1 x6_1)) ∧ w'.cell? (ad381.add ((x6_1).toNat * 7)) = some (.string ((rd_T70 l0_1 x6_1).f0)) ∧ w'.cell? ⟨(ad381.add ((x6_1).toNat * 7)).block, (ad381.add ((x6_1).toNat * 7)).off + 1, none⟩ = some (.int .i64 ((rd_T70 l0_1 x6_1).f1)) ∧ w'.cell? ⟨(ad381.add ((x6_1).toNat * 7)).block, (ad381.add ((x6_1).toNat * 7)).off + 2, none⟩ = some (.int .i64 ((rd_T70 l0_1 x6_1).f2)) ∧ w'.cell? ⟨(ad381.add ((x6_1).toNat * 7)).block, (ad381.add ((x6_1).toNat * 7)).off + 3, none⟩ = some (.int .i64 ((rd_T70 l0_1 x6_1).f3)) ∧ w'.cell? ⟨(ad381.add ((x6_1).toNat * 7)).block, (ad381.add ((x6_1).toNat * 7)).off + 4, none⟩ = some (.int .i64 ((rd_T70 l0_1 x6_1).f4)) ∧ w'.cell? ⟨(ad381.add ((x6_1).toNat * 7)).block, (ad381.add ((x6_1).toNat * 7)).off + 5, none⟩ = some (.int .i64 ((rd_T70 l0_1 x6_1).f5)) ∧ w'.cell? ⟨(ad381.add ((x6_1).toNat * 7)).block, (ad381.add ((x6_1).toNat * 7)).off + 6, none⟩ = some (.slice (some ad387) ((rd_T70 l0_1 x6_1).f6).length c386_6) ∧ w'.cell? (ad387.add ((x7_2).toNat * 2)) = some (.int .i64 ((rd_T27 ((rd_T70 l0_1 x6_1).f6) x7_2).f0)) ∧ w'.cell? ⟨(ad387.add ((x7_2).toNat * 2)).block, (ad387.add ((x7_2).toNat * 2)).off + 1, none⟩ = some (.int .i64 ((rd_T27 ((rd_T70 l0_1 x6_1).f6) x7_2).f1))) (ds := [23]) (bA 24 0) (by kernel_rfl) rfl rfl ⟨(blk_cell BK375.out 0).trans rfl, (blk_cell BK375.out 1).trans rfl, (blk_cell BK375.out 2).trans rfl, (blk_cell BK375.out 3).trans rfl, (blk_cell BK375.out 4).trans rfl, (blk_cell BK375.out 5).trans rfl, (blk_cell BK375.out 6).trans rfl, hx384_0, hx384_1, (cU HB hw385_0 :), (cU HB hw386_0 :), (cU HB hw386_1 :), (cU HB hw386_2 :), (cU HB hw386_3 :), (cU HB hw386_4 :), (cU HB hw386_5 :), (cU HB hw386_6 :), (cU HB hw387_0 :), (cU HB hw387_1 :)⟩ (fun hHeld => ?_); refine with_tabW rf_Brings.tab9 rf_Brings.bits9 (fun HT_ HW_ => ?_)
              generalize w21.drew = w22 at HO_5 BK375 HB HQ20 HQ23 HR386_6 hf17_0 hf17_1 hx17_0 hx17_1 hx384_0 hx384_1 hx385_0 hx386_0 hx386_1 hx386_2 hx386_3 hx386_4 hx386_5 hx386_6 hx387_0 hx387_1 hHeld ⊢
              refine pQ 0 (some 47) (bA 24 1) ?_
              refine pQ 1 (some 48) (bA 24 3) ?_
              refine pQ 2 (some 49) (bA 24 7) ?_
              refine pQ 3 (some 50) (bA 24 15) ?_
              refine pQ 5 (some 52) (bA 24 47) ?_
              refine pQ 6 (some 53) (bA 24 111) ?_
              refine pQ 7 (some 54) (bA 24 239) ?_
              refine pQ 9 (some 56) (bA 24 751) ?_
              refine pQ 11 (some 58) (bA 24 2799) ?_
              refine pQ 15 (some 62) (bA 24 35567) ?_
              refine tQ 4 (some 51) (bA 24 35583) ?_
              refine tQ 8 (some 55) (bA 24 35839) ?_
              refine tQ 10 (some 57) (bA 24 36863) ?_
              refine pQ 12 (some 59) (bA 24 40959) ?_
              refine pQ 13 (some 60) (bA 24 49151) ?_
              refine tQ 14 (some 61) (bA 24 65535) ?_
              refine pQ 16 (some 63) (bA 24 131071) ?_
              refine pQ 17 (some 64) (bA 24 262143) ?_
              refine tQ 18 (some 65) (bA 24 524287) ?_
              refine pQ 19 (some 66) (bA 24 1048575) ?_
              refine pQ 20 (some 67) (bA 24 2097151) ?_
              refine pQ 21 (some 68) (bA 24 4194303) ?_
              refine pQ 22 (some 69) (bA 24 8388607) ?_
              refine last_ (i := 23) (N := none) (bA 24 16777215) rfl rfl (one_of HT_.out (by kernel_rfl)) (by decide) (fun K hK => ?_)
              refine skip_ (w1 := ?_) (by rfl) rfl ?_ ?_
              rotate_left
              ·go_simp
               rfl
              refine hK.out _ _ ?_
              clear hK K
              refine done_ (done_of HT_.out (by kernel_rfl)) ?_
              try go_wp2
              go_roundg k2
              case measure => have := HK1.out; have := HK2.out; omega
              case rel => exact ⟨(y388), (wrap64 (x7_2 + 1)), tS, H', ⟨by have := HK1.out; have := HK2.out; omega⟩, ⟨by (with_reducible repeat (first | apply Kd.R_alloc | apply Kd.R_drewN | apply Kd.R_drew)); exact HQ23.out⟩, ⟨by refine bkZ ?_; refine blk_far ?_ (by have h_ := Kd.R_ne HO_5.out BK375.out (by decide); intro e_; exact h_ (by rw [e_]; rfl)) _; refine bkZ ?_; exact BK375.out⟩, ⟨bBl HB.out⟩⟩
             ·rw [if_neg c15] at H
              exact absurd H (by simp)
            ·rw [if_neg c14] at H
             exact absurd H (by simp)
           ·rw [if_neg c13] at H
            exact absurd H (by simp)
          ·rw [if_neg c12] at H
           exact absurd H (by simp)
         ·rw [if_neg c11] at H
          exact absurd H (by simp)
        ·rw [if_neg c10] at H
         have c10b0 : decide (x7_2 < (x5_2.length : Int)) = false := decide_eq_false c10
         clear c10; have H' := Sd.mk H; clear H; obtain ⟨Ao24, co24, eo24⟩ := Kd.R_slice HO_5.out; subst eo24
         go_wp2
         go_roundg k2
         case measure => have := HK1.out; have := HK2.out; omega
         case rel => exact ⟨(x5_2), (wrap64 (x6_1 + 1)), tS, H', ⟨by have := HK1.out; have := HK2.out; omega⟩, ⟨by (with_reducible repeat (first | apply Kd.R_alloc | apply Kd.R_drewN | apply Kd.R_drew)); exact HO_5.out⟩, ⟨bkA BK375.out⟩, ⟨bBl HB.out⟩⟩
     ·rw [if_neg c9] at H
      have c9b0 : decide (x6_1 < (l1.length : Int)) = false := decide_eq_false c9
      clear c9; obtain rfl := Option.some.inj H
      go_wp2
      go_ret
      exact ⟨_, tE, by (with_reducible repeat (first | apply Kd.R_alloc | apply Kd.R_drewN | apply Kd.R_drew)); exact HO_5.out, bBl HB.out⟩
  ·rw [if_neg c4] at H
   exact absurd H (by simp)
 ·rw [if_neg c3] at H
  exact absurd H (by simp)
end
section
def recV (mt : List S70) (r : List Int) : Int := if r.length = mt.length then (if r.any (outside 0 10000) = true then 1 else 0) else 1
theorem rrec_l0 (l : List Int) (hl : l.length ≤ 12) : ∀ (m i : Nat), i + m = l.length → Ev (fun k => rf_Recipe.l0 k l (i : Int)) (if (l.drop i).any (outside 0 10000) = true then 1 else 0)
 | 0, i, hi => by
  apply Ev.step
  simp only [rf_Recipe.l0, if_neg (show ¬ (i : Int) < (l.length : Int) by omega)]
  have h3 : (l.drop i).any (outside 0 10000) = false := by rw [List.drop_eq_nil_of_le (by omega)]; rfl
  rw [h3]
  exact Ev.const _
 | m + 1, i, hi => by
  have ih := rrec_l0 l hl m (i + 1) (by omega)
  have hlt : i < l.length := by omega
  have hr : rd l (i : Int) = l[i] := by simp [rd, hlt]
  apply Ev.step
  simp only [rf_Recipe.l0, if_pos (show (i : Int) < (l.length : Int) by omega), if_pos (i_pos i), wrap_succ (i_pos i) (show (i : Int) ≤ 1000000000 by omega), hr]
  rw [List.drop_eq_getElem_cons hlt, List.any_cons]
  by_cases h1 : l[i] < 0
  ·simp only [if_pos h1]
   have hb : outside 0 10000 l[i] = true := by simp [outside]; omega
   exact (Ev.const _).cast (by rw [hb]; rfl)
  ·simp only [if_neg h1]
   by_cases h2 : l[i] > 10000
   ·simp only [if_pos h2]
    have hb : outside 0 10000 l[i] = true := by simp [outside]; omega
    exact (Ev.const _).cast (by rw [hb]; rfl)
   ·simp only [if_neg h2]
    have hb : outside 0 10000 l[i] = false := by simp [outside]; omega
    exact ih.cast (by rw [hb, Bool.false_or])
section
variable (o : List ByteArray) (mt : List S70) (s : List S27) (p : List S89) (a4 a5 a6 : Int) (r : List Int)
def askV : Int := if checkV o mt s p a4 a5 a6 = 0 then recV mt r else checkV o mt s p a4 a5 a6
theorem basked : Ev (fun k => b_asked.f k o mt s p a4 a5 a6 r) (askV o mt s p a4 a5 a6 r) := by
 unfold b_asked.f askV
 refine Ev.bind (bcheck o mt s p a4 a5 a6) ?_
 by_cases h : checkV o mt s p a4 a5 a6 = 0
 ·simp only [if_pos h, b_checkRecipe.f, x_kilos.f, Option.bind_some]
  unfold recV
  by_cases h1 : r.length = mt.length
  ·simp only [if_pos h1, if_pos (show (r.length : Int) = (mt.length : Int) by omega)]
   by_cases h2 : r.any (outside 0 10000) = true
   ·simp only [if_pos h2, Option.bind_some]; exact Ev.const _
   ·simp only [if_neg h2, Option.bind_some]; exact Ev.const _
  ·simp only [if_neg h1, if_neg (show ¬ (r.length : Int) = (mt.length : Int) by omega), Option.bind_some]; exact Ev.const _
 ·simp only [if_neg h]; exact Ev.const _
theorem rasked : Ev (fun k => rf_asked.f k o mt s p a4 a5 a6 r) (askV o mt s p a4 a5 a6 r) := by
 unfold rf_asked.f askV
 refine Ev.bind (rcheck o mt s p a4 a5 a6) ?_
 by_cases h : checkV o mt s p a4 a5 a6 = 0
 ·simp only [if_pos h]
  have hb := check_ok h
  refine Ev.bind (v := recV mt r) ?_ (Ev.const _)
  unfold rf_Recipe.f recV
  by_cases h1 : r.length = mt.length
  ·simp only [if_pos h1, if_pos (show (r.length : Int) = (mt.length : Int) by omega)]
   exact (rrec_l0 r (by have := hb.m12; omega) r.length 0 (by omega)).cast (by rw [List.drop_zero])
  ·simp only [if_neg h1, if_neg (show ¬ (r.length : Int) = (mt.length : Int) by omega)]; exact Ev.const _
 ·simp only [if_neg h]; exact Ev.const _
end
structure RecOk (mt : List S70) (r : List Int) : Prop where
 len : r.length = mt.length
 kilos : ∀ j : Nat, j < mt.length → 0 ≤ rd r (j : Int) ∧ rd r (j : Int) ≤ 10000
theorem ask_ok {o : List ByteArray} {mt : List S70} {s : List S27} {p : List S89} {a4 a5 a6 : Int} {r : List Int} (h : askV o mt s p a4 a5 a6 r = 0) : BatchOk o mt s p a4 a5 a6 ∧ RecOk mt r := by
 unfold askV at h
 by_cases h1 : checkV o mt s p a4 a5 a6 = 0
 ·rw [if_pos h1] at h
  refine ⟨check_ok h1, ?_⟩
  unfold recV at h
  by_cases h2 : r.length = mt.length
  ·rw [if_pos h2] at h
   by_cases h3 : r.any (outside 0 10000) = true
   ·rw [if_pos h3] at h; omega
   ·refine ⟨h2, fun j hj => ?_⟩
    have hm : rd r (j : Int) ∈ r := by
     have hlt : j < r.length := by omega
     have : rd r (j : Int) = r[j] := by simp [rd, hlt]
     rw [this]; exact List.getElem_mem hlt
    have hn : outside 0 10000 (rd r (j : Int)) = false := by
     cases ho : outside 0 10000 (rd r (j : Int)) with
     | false => rfl
     | true => exact absurd (List.any_eq_true.mpr ⟨_, hm, ho⟩) h3
    simp [outside] at hn; omega
  ·rw [if_neg h2] at h; omega
 ·rw [if_neg h1] at h; exact absurd h h1
def gS (F : S27 → Int) (mt : List S70) (r : List Int) (j : Nat) : Nat → Int
 | 0 => 0
 | n + 1 => gS F mt r j n + rd r (n : Int) * F (rd_T27 (rd_T70 mt (n : Int)).f6 (j : Int))
def stL (n : Nat) (mt : List S70) (r : List Int) (i jj : Nat) : List S27 := (List.range n).map fun j => if j < jj then ⟨gS S27.f0 mt r j (i + 1), gS S27.f1 mt r j (i + 1)⟩ else ⟨gS S27.f0 mt r j i, gS S27.f1 mt r j i⟩
theorem stL_len (n : Nat) (mt : List S70) (r : List Int) (i jj : Nat) : (stL n mt r i jj).length = n := by simp [stL]
theorem stL_get (n : Nat) (mt : List S70) (r : List Int) (i jj j : Nat) (h : j < n) : rd_T27 (stL n mt r i jj) (j : Int) = if j < jj then ⟨gS S27.f0 mt r j (i + 1), gS S27.f1 mt r j (i + 1)⟩ else ⟨gS S27.f0 mt r j i, gS S27.f1 mt r j i⟩ := by
 simp [rd_T27, stL, List.getD, h]
theorem stL_zero (n : Nat) (mt : List S70) (r : List Int) : List.replicate n z27 = stL n mt r 0 0 := by
 apply List.ext_getElem
 ·simp [stL]
 ·intro i h1 h2; simp [stL, gS, z27]
theorem stL_next (n : Nat) (mt : List S70) (r : List Int) (i : Nat) : stL n mt r i n = stL n mt r (i + 1) 0 := by
 apply List.ext_getElem
 ·simp [stL]
 ·intro j h1 h2
  have hj : j < n := by simpa [stL] using h1
  simp [stL, hj]
theorem stL_set (n : Nat) (mt : List S70) (r : List Int) (i jj : Nat) (h : jj < n) (x : S27) : ((stL n mt r i jj).set jj x).set jj ⟨gS S27.f0 mt r jj (i + 1), gS S27.f1 mt r jj (i + 1)⟩ = stL n mt r i (jj + 1) := by
 rw [List.set_set]
 apply List.ext_getElem
 ·simp [stL]
 ·intro j h1 h2
  have hj : j < n := by simpa [stL] using h1
  rw [List.getElem_set]
  by_cases hc : jj = j
  ·subst hc; simp [stL]
  ·have : j < jj ↔ j < jj + 1 := by omega
   simp [stL, hc, this]
theorem rd_T27_set (l : List S27) (j : Nat) (x : S27) (h : j < l.length) : rd_T27 (l.set j x) (j : Int) = x := by simp [rd_T27, List.getD, h]
theorem mul_bound {a b : Int} (h0 : 0 ≤ a) (h1 : a ≤ 10000) (h2 : 0 ≤ b) (h3 : b ≤ 1000) : 0 ≤ a * b ∧ a * b ≤ 10000000 := by
 have e1 := Int.mul_nonneg h0 h2
 have e2 := Int.mul_le_mul_of_nonneg_right h1 h2
 omega
theorem gS_bound {F : S27 → Int} {mt : List S70} {r : List Int} {n j : Nat} (hr : RecOk mt r) (hF : ∀ i : Nat, i < mt.length → 0 ≤ F (rd_T27 (rd_T70 mt (i : Int)).f6 (j : Int)) ∧ F (rd_T27 (rd_T70 mt (i : Int)).f6 (j : Int)) ≤ 1000) :
  ∀ n, n ≤ mt.length → 0 ≤ gS F mt r j n ∧ gS F mt r j n ≤ 10000000 * n := by
 intro n
 induction n with
 | zero => intro _; simp [gS]
 | succ n ih =>
  intro hn
  have h1 := ih (by omega)
  have h2 := hr.kilos n (by omega)
  have h3 := hF n (by omega)
  have h4 := mul_bound h2.1 h2.2 h3.1 h3.2
  simp only [gS]
  omega
section
variable {o : List ByteArray} {mt : List S70} {s : List S27} {p : List S89} {a4 a5 a6 : Int} {r : List Int}
theorem gram_new {F : S27 → Int} (hb : mt.length ≤ 12) (hr : RecOk mt r) {j : Nat} (hF : ∀ i : Nat, i < mt.length → 0 ≤ F (rd_T27 (rd_T70 mt (i : Int)).f6 (j : Int)) ∧ F (rd_T27 (rd_T70 mt (i : Int)).f6 (j : Int)) ≤ 1000) (i : Nat) (hi : i < mt.length) :
  wrap64 (gS F mt r j i + wrap64 (rd r (i : Int) * F (rd_T27 (rd_T70 mt (i : Int)).f6 (j : Int)))) = gS F mt r j (i + 1) := by
 have h1 := gS_bound (n := 0) hr hF i (by omega)
 have h2 := hr.kilos i hi
 have h3 := hF i hi
 have h4 := mul_bound h2.1 h2.2 h3.1 h3.2
 rw [wrap_id (x := rd r (i : Int) * F (rd_T27 (rd_T70 mt (i : Int)).f6 (j : Int))) (by omega) (by omega), wrap_id (by omega) (by omega)]
 rfl
theorem con0 (H : BatchOk o mt s p a4 a5 a6) {j : Nat} (hj : j < o.length) : ∀ i : Nat, i < mt.length → 0 ≤ S27.f0 (rd_T27 (rd_T70 mt (i : Int)).f6 (j : Int)) ∧ S27.f0 (rd_T27 (rd_T70 mt (i : Int)).f6 (j : Int)) ≤ 1000 := by
 intro i hi
 have := (H.mats i hi).con j hj
 omega
theorem con1 (H : BatchOk o mt s p a4 a5 a6) {j : Nat} (hj : j < o.length) : ∀ i : Nat, i < mt.length → 0 ≤ S27.f1 (rd_T27 (rd_T70 mt (i : Int)).f6 (j : Int)) ∧ S27.f1 (rd_T27 (rd_T70 mt (i : Int)).f6 (j : Int)) ≤ 1000 := by
 intro i hi
 have := (H.mats i hi).con j hj
 omega
def gramL (n : Nat) (mt : List S70) (r : List Int) : List S27 := stL n mt r mt.length 0
theorem bgram_l1 (H : BatchOk o mt s p a4 a5 a6) (hr : RecOk mt r) (i : Nat) (hi : i < mt.length) (ih : Ev (fun k => b_grams.l0 k r (stL o.length mt r (i + 1) 0) mt (mt.length : Int) ((i + 1 : Nat) : Int)) (gramL o.length mt r)) :
  ∀ (m jj : Nat), jj + m = o.length → Ev (fun k => b_grams.l1 k r (stL o.length mt r i jj) (i : Int) mt (mt.length : Int) (i : Int) (rd_T70 mt (i : Int)).f6 ((rd_T70 mt (i : Int)).f6.length : Int) (jj : Int)) (gramL o.length mt r)
 | 0, jj, hj => by
  have hl := (H.mats i hi).len
  have hm := H.m12
  apply Ev.step
  simp only [b_grams.l1, if_neg (show ¬ (jj : Int) < ((rd_T70 mt (i : Int)).f6.length : Int) by omega), wrap_succ (i_pos i) (show (i : Int) ≤ 1000000000 by omega)]
  rw [show jj = o.length by omega, stL_next]
  exact ih
 | m + 1, jj, hj => by
  have hl := (H.mats i hi).len
  have hm := H.m12
  have ho := H.o12
  have hrl := hr.len
  have hlt : jj < o.length := by omega
  have ih' := bgram_l1 H hr i hi ih m (jj + 1) (by omega)
  apply Ev.step
  simp only [b_grams.l1, if_pos (show (jj : Int) < ((rd_T70 mt (i : Int)).f6.length : Int) by omega), if_pos (i_pos jj), stL_len, if_pos (show (jj : Int) < (o.length : Int) by omega), if_pos (i_pos i), if_pos (show (i : Int) < (r.length : Int) by omega), Option.bind_some, Int.toNat_natCast,
   wrap_succ (i_pos jj) (show (jj : Int) ≤ 1000000000 by omega)]
  rw [rd_T27_set _ _ _ (by rw [stL_len]; exact hlt), stL_get _ _ _ _ _ _ hlt, if_neg (Nat.lt_irrefl jj)]
  dsimp only
  rw [gram_new hm hr (con0 H hlt) i hi, gram_new hm hr (con1 H hlt) i hi, stL_set _ _ _ _ _ hlt]
  exact ih'
theorem bgram_l0 (H : BatchOk o mt s p a4 a5 a6) (hr : RecOk mt r) : ∀ (m i : Nat), i + m = mt.length → Ev (fun k => b_grams.l0 k r (stL o.length mt r i 0) mt (mt.length : Int) (i : Int)) (gramL o.length mt r)
 | 0, i, hi => by
  apply Ev.step
  simp only [b_grams.l0, if_neg (show ¬ (i : Int) < (mt.length : Int) by omega)]
  rw [show i = mt.length by omega]
  exact Ev.const _
 | m + 1, i, hi => by
  have ih := bgram_l0 H hr m (i + 1) (by omega)
  apply Ev.step
  simp only [b_grams.l0, if_pos (show (i : Int) < (mt.length : Int) by omega), if_pos (i_pos i)]
  exact bgram_l1 H hr i (by omega) ih o.length 0 (by omega)
theorem bgrams (H : BatchOk o mt s p a4 a5 a6) (hr : RecOk mt r) : Ev (fun k => b_grams.f k o mt s p a4 a5 a6 r) (gramL o.length mt r) := by
 have ho := H.o12
 unfold b_grams.f
 simp only [if_pos (i_pos o.length), Int.toNat_natCast, if_pos (show o.length ≤ 17592186044416 by omega)]
 rw [stL_zero o.length mt r]
 exact bgram_l0 H hr mt.length 0 (by omega)
theorem rgram_l1 (H : BatchOk o mt s p a4 a5 a6) (hr : RecOk mt r) (i : Nat) (hi : i < mt.length) (ih : Ev (fun k => rf_Brings.l0 k r (stL o.length mt r (i + 1) 0) ((i + 1 : Nat) : Int) o mt s p a4 a5 a6) (gramL o.length mt r)) :
  ∀ (m jj : Nat), jj + m = o.length → Ev (fun k => rf_Brings.l1 k r (stL o.length mt r i jj) (i : Int) (jj : Int) o mt s p a4 a5 a6) (gramL o.length mt r)
 | 0, jj, hj => by
  have hl := (H.mats i hi).len
  have hm := H.m12
  apply Ev.step
  simp only [rf_Brings.l1, stL_len, if_neg (show ¬ (jj : Int) < (o.length : Int) by omega), wrap_succ (i_pos i) (show (i : Int) ≤ 1000000000 by omega)]
  rw [show jj = o.length by omega, stL_next]
  exact ih
 | m + 1, jj, hj => by
  have hl := (H.mats i hi).len
  have hm := H.m12
  have ho := H.o12
  have hrl := hr.len
  have hlt : jj < o.length := by omega
  have ih' := rgram_l1 H hr i hi ih m (jj + 1) (by omega)
  apply Ev.step
  simp only [rf_Brings.l1, stL_len, if_pos (show (jj : Int) < ((rd_T70 mt (i : Int)).f6.length : Int) by omega), if_pos (i_pos jj), if_pos (show (jj : Int) < (o.length : Int) by omega), if_pos (i_pos i), if_pos (show (i : Int) < (r.length : Int) by omega), if_pos (show (i : Int) < (mt.length : Int) by omega), Option.bind_some, Int.toNat_natCast,
   wrap_succ (i_pos jj) (show (jj : Int) ≤ 1000000000 by omega)]
  rw [rd_T27_set _ _ _ (by rw [stL_len]; exact hlt), stL_get _ _ _ _ _ _ hlt, if_neg (Nat.lt_irrefl jj)]
  dsimp only
  rw [gram_new hm hr (con0 H hlt) i hi, gram_new hm hr (con1 H hlt) i hi, stL_set _ _ _ _ _ hlt]
  exact ih'
theorem rgram_l0 (H : BatchOk o mt s p a4 a5 a6) (hr : RecOk mt r) : ∀ (m i : Nat), i + m = mt.length → Ev (fun k => rf_Brings.l0 k r (stL o.length mt r i 0) (i : Int) o mt s p a4 a5 a6) (gramL o.length mt r)
 | 0, i, hi => by
  have hrl := hr.len
  apply Ev.step
  simp only [rf_Brings.l0, if_neg (show ¬ (i : Int) < (r.length : Int) by omega)]
  rw [show i = mt.length by omega]
  exact Ev.const _
 | m + 1, i, hi => by
  have hrl := hr.len
  have ih := rgram_l0 H hr m (i + 1) (by omega)
  apply Ev.step
  simp only [rf_Brings.l0, if_pos (show (i : Int) < (r.length : Int) by omega)]
  exact rgram_l1 H hr i (by omega) ih o.length 0 (by omega)
theorem rbrings (H : BatchOk o mt s p a4 a5 a6) (hr : RecOk mt r) : Ev (fun k => rf_Brings.f k o mt s p a4 a5 a6 r) (gramL o.length mt r) := by
 have ho := H.o12
 unfold rf_Brings.f
 simp only [if_pos (i_pos o.length), Int.toNat_natCast, if_pos (show o.length ≤ 17592186044416 by omega)]
 rw [stL_zero o.length mt r]
 exact rgram_l0 H hr mt.length 0 (by omega)
theorem gramL_len (n : Nat) (mt : List S70) (r : List Int) : (gramL n mt r).length = n := stL_len _ _ _ _ _
theorem gramL_get (n : Nat) (mt : List S70) (r : List Int) (j : Nat) (h : j < n) : rd_T27 (gramL n mt r) (j : Int) = ⟨gS S27.f0 mt r j mt.length, gS S27.f1 mt r j mt.length⟩ := by
 unfold gramL; rw [stL_get _ _ _ _ _ _ h, if_neg (Nat.not_lt_zero _)]
theorem gS_le (H : BatchOk o mt s p a4 a5 a6) (hr : RecOk mt r) {j : Nat} (hj : j < o.length) : ∀ n, n ≤ mt.length → gS S27.f0 mt r j n ≤ gS S27.f1 mt r j n := by
 intro n
 induction n with
 | zero => intro _; simp [gS]
 | succ n ih =>
  intro hn
  have h1 := ih (by omega)
  have h2 := hr.kilos n (by omega)
  have h3 := (H.mats n (by omega)).con j hj
  have h4 := Int.mul_le_mul_of_nonneg_left h3.2.1 h2.1
  simp only [gS]
  omega
theorem gram_bounds (H : BatchOk o mt s p a4 a5 a6) (hr : RecOk mt r) {j : Nat} (hj : j < o.length) :
  0 ≤ (rd_T27 (gramL o.length mt r) (j : Int)).f0 ∧ (rd_T27 (gramL o.length mt r) (j : Int)).f0 ≤ (rd_T27 (gramL o.length mt r) (j : Int)).f1 ∧ (rd_T27 (gramL o.length mt r) (j : Int)).f1 ≤ 120000000 := by
 have hm := H.m12
 have h1 := gS_bound (n := 0) hr (con0 H hj) mt.length (Nat.le_refl _)
 have h2 := gS_bound (n := 0) hr (con1 H hj) mt.length (Nat.le_refl _)
 have h3 := gS_le H hr hj mt.length (Nat.le_refl _)
 rw [gramL_get _ _ _ _ hj]
 dsimp only
 omega
end
end
section
def rf_sums.l0 : Nat → List (S27) → Int → Int → Int → Option (Int × Int)
 | 0, _, _, _, _ => none
 | k + 1, x0, x4, x5, x6 => if x6 < (x0.length : Int) then (if 0 ≤ x6 then (rf_sums.l0 k x0 (wrap64 (x4 + ((rd_T27 x0 x6).f0))) (wrap64 (x5 + ((rd_T27 x0 x6).f1))) (wrap64 (x6 + 1))) else (none)) else (some (x4, x5))
def rf_sums.f (k : Nat) (l0 : List (S27)) : Option (Int × Int) := rf_sums.l0 k l0 0 0 0
theorem rf_sums.calls (k : Nat) (A0 : Option Addr) (c0 : Nat) (l0 : List (S27)) (r1 : Int) (r2 : Int) (w : World) (hr0 : Kd.C k27 w A0 l0.length l0) (hc0 : l0.length ≤ c0) (h : rf_sums.f k l0 = some (r1, r2)) :
  Calls Tryz.prog 150 #[.slice A0 l0.length c0] w fun e w' => e = .returned (.tuple #[.int .i64 r1, .int .i64 r2]) ∧ Drawn0 w w' := by
 have HR0 := Sd.mk hr0; have HC0 := Sd.mk hc0; clear hr0 hc0
 have H : (rf_sums.l0 k l0 0 0 0) = some (r1, r2) := h
 clear h; have H' := Sd.mk H; clear H
 go_enter Tryz.func150, Tryz.ntmps150
 go_wp2
 go_loopg [4, 5, 6] k (fun kq v4 v5 v6 w' => ∃ (x4_1 : Int) (x5_1 : Int) (x6_1 : Int), v4 = .int .i64 x4_1 ∧ v5 = .int .i64 x5_1 ∧ v6 = .int .i64 x6_1 ∧ Sd (rf_sums.l0 kq l0 x4_1 x5_1 x6_1 = some (r1, r2)) ∧ Sd (kq ≤ k) ∧ Drawn0 w w')
 case atStart => exact ⟨(0), (0), (0), tS, tS, tS, H', ⟨Nat.le_refl _⟩, by repeat (first | exact Drawn0.refl _ | apply Drawn0.step)⟩
 case round =>
  clear H'; (try clear c1)
  obtain ⟨x4_1, x5_1, x6_1, rfl, rfl, rfl, HA, HK1, ⟨m1, rfl⟩⟩ := hrel
  cases gk with
  | zero => exact absurd HA.out (by simp [rf_sums.l0])
  | succ k1 =>
   have H := HA.out; clear HA
   simp only [rf_sums.l0] at H
   by_cases c2 : x6_1 < (l0.length : Int)
   ·rw [if_pos c2] at H
    have c2b0 : decide (x6_1 < (l0.length : Int)) = true := decide_eq_true c2
    clear c2
    by_cases c3 : 0 ≤ x6_1
    ·rw [if_pos c3] at H
     have c3b0 : decide (0 ≤ x6_1) = true := decide_eq_true c3
     clear c3; have H' := Sd.mk H; clear H
     have p279 : 0 ≤ (x6_1 : Int) := tB
     have q279 : x6_1 < (l0.length : Int) := tB
     obtain ⟨ad279, e279, hx279_0, hx279_1⟩ := at_T27 HR0.out x6_1 p279 q279; cases e279; replace p279 := eq_true p279; replace q279 := eq_true q279
     have p280 : 0 ≤ (x6_1 : Int) := tB
     have q280 : x6_1 < (l0.length : Int) := tB
     obtain ⟨ad280, e280, hx280_0, hx280_1⟩ := at_T27 HR0.out x6_1 p280 q280
     obtain rfl : ad279 = ad280 := (by injection e280)
     replace p280 := eq_true p280; replace q280 := eq_true q280
     go_wp2
     go_roundg k1
     case measure => have := HK1.out; omega
     case rel => exact ⟨(wrap64 (x4_1 + ((rd_T27 l0 x6_1).f0))), (wrap64 (x5_1 + ((rd_T27 l0 x6_1).f1))), (wrap64 (x6_1 + 1)), tS, tS, tS, H', ⟨by have := HK1.out; omega⟩, by repeat (first | exact Drawn0.refl _ | apply Drawn0.step)⟩
    ·rw [if_neg c3] at H
     exact absurd H (by simp)
   ·rw [if_neg c2] at H
    have c2b0 : decide (x6_1 < (l0.length : Int)) = false := decide_eq_false c2
    clear c2
    simp only [Option.some.injEq, Prod.mk.injEq] at H
    obtain ⟨rfl, rfl⟩ := H
    go_wp2
    go_ret2
    exact ⟨by first | rfl | (simp; done) | (simp [*]; done), by repeat (first | exact Drawn0.refl _ | apply Drawn0.step)⟩
end
section
attribute [local go_sem] max2_int min2_int max_two min_two max_three min_three max_four min_four
def rf_above.l0 : Nat → List Int → List (S27) → Int → Int → Int → Option (Int)
 | 0, _, _, _, _, _ => none
 | k + 1, x0, x1, x2, x7, x8 => if x8 < (x1.length : Int) then (if 0 ≤ x8 then (if x8 < (x0.length : Int) then (rf_above.l0 k x0 x1 x2 (wrap64 (x7 + (mx (wrap64 ((wrap64 ((rd x0 x8) - x2)) * ((rd_T27 x1 x8).f0))) (wrap64 ((wrap64 ((rd x0 x8) - x2)) * ((rd_T27 x1 x8).f1)))))) (wrap64 (x8 + 1))) else (none)) else (none)) else (some x7)
def rf_above.f (k : Nat) (l0 : List Int) (l1 : List (S27)) (a2 : Int) : Option (Int) := rf_above.l0 k l0 l1 a2 0 0
theorem rf_above.calls (k : Nat) (A0 : Option Addr) (c0 : Nat) (l0 : List Int) (A1 : Option Addr) (c1 : Nat) (l1 : List (S27)) (a2 : Int) (r : Int) (w : World) (hr0 : Kd.C (Kd.int .i64) w A0 l0.length l0) (hc0 : l0.length ≤ c0) (hr1 : Kd.C k27 w A1 l1.length l1) (hc1 : l1.length ≤ c1) (h : rf_above.f k l0 l1 a2 = some r) :
  Calls Tryz.prog 152 #[.slice A0 l0.length c0, .slice A1 l1.length c1, .int .i64 a2] w fun e w' => e = .returned (.int .i64 r) ∧ Below w.heap.size w w' := by
 have HR0 := Sd.mk hr0; have HC0 := Sd.mk hc0; clear hr0 hc0; have HR1 := Sd.mk hr1; have HC1 := Sd.mk hc1; clear hr1 hc1; have HB := Sd.mk (Below.refl w.heap.size w)
 have H : (rf_above.l0 k l0 l1 a2 0 0) = some r := h
 clear h; have H' := Sd.mk H; clear H
 go_enter Tryz.func152, Tryz.ntmps152
 go_wp2
 repeat (go_quiet (fail); try go_wp2)
 go_loopg [7, 8] k (fun kq v7 v8 w' => ∃ (x7_1 : Int) (x8_1 : Int), v7 = .int .i64 x7_1 ∧ v8 = .int .i64 x8_1 ∧ Sd (rf_above.l0 kq l0 l1 a2 x7_1 x8_1 = some r) ∧ Sd (kq ≤ k) ∧ Sd (Below w.heap.size w w'))
 case atStart => exact ⟨(0), (0), tS, tS, H', ⟨Nat.le_refl _⟩, ⟨bBl HB.out⟩⟩
 case round =>
  clear H'; (try clear c1); (try clear p2); obtain ⟨x7_1, x8_1, rfl, rfl, HA, HK1, HB⟩ := hrel
  cases gk with
  | zero => exact absurd HA.out (by simp [rf_above.l0])
  | succ k1 =>
   have H := HA.out; clear HA
   simp only [rf_above.l0] at H
   by_cases c4 : x8_1 < (l1.length : Int)
   ·rw [if_pos c4] at H
    have c4b0 : decide (x8_1 < (l1.length : Int)) = true := decide_eq_true c4
    clear c4
    by_cases c5 : 0 ≤ x8_1
    ·rw [if_pos c5] at H
     have c5b0 : decide (0 ≤ x8_1) = true := decide_eq_true c5
     clear c5
     by_cases c6 : x8_1 < (l0.length : Int)
     ·rw [if_pos c6] at H
      have c6b0 : decide (x8_1 < (l0.length : Int)) = true := decide_eq_true c6
      clear c6
      obtain ⟨ji7, hji7⟩ : ∃ j_ : Int, (mx (wrap64 ((wrap64 ((rd l0 x8_1) - a2)) * ((rd_T27 l1 x8_1).f0))) (wrap64 ((wrap64 ((rd l0 x8_1) - a2)) * ((rd_T27 l1 x8_1).f1)))) = j_ := ⟨_, rfl⟩
      replace H : (rf_above.l0 k1 l0 l1 a2 (wrap64 (x7_1 + (ji7))) (wrap64 (x8_1 + 1))) = some r := by first | (rw [hji7] at H; exact H) | (simp only [hji7] at H ⊢; exact H)
      have hji7_ : (if (wrap64 ((wrap64 ((rd l0 x8_1) - a2)) * ((rd_T27 l1 x8_1).f0))) < (wrap64 ((wrap64 ((rd l0 x8_1) - a2)) * ((rd_T27 l1 x8_1).f1))) then (wrap64 ((wrap64 ((rd l0 x8_1) - a2)) * ((rd_T27 l1 x8_1).f1))) else (wrap64 ((wrap64 ((rd l0 x8_1) - a2)) * ((rd_T27 l1 x8_1).f0)))) = ji7 := hji7
      have H' := Sd.mk H; clear H
      have p294 : 0 ≤ (x8_1 : Int) := tB
      have q294 : x8_1 < (l0.length : Int) := tB
      obtain ⟨ad294, e294, hx294_0⟩ := Kd.at_int HR0.out x8_1 p294 q294; cases e294; replace hx294_0 := cU HB hx294_0; replace p294 := eq_true p294; replace q294 := eq_true q294
      have p295 : 0 ≤ (x8_1 : Int) := tB
      have q295 : x8_1 < (l1.length : Int) := tB
      obtain ⟨ad295, e295, hx295_0, hx295_1⟩ := at_T27 HR1.out x8_1 p295 q295; cases e295; replace hx295_0 := cU HB hx295_0; replace hx295_1 := cU HB hx295_1; replace p295 := eq_true p295; replace q295 := eq_true q295
      have p296 : 0 ≤ (x8_1 : Int) := tB
      have q296 : x8_1 < (l1.length : Int) := tB
      obtain ⟨ad296, e296, hx296_0, hx296_1⟩ := at_T27 HR1.out x8_1 p296 q296
      obtain rfl : ad295 = ad296 := (by injection e296)
      replace hx296_0 := cU HB hx296_0; replace hx296_1 := cU HB hx296_1; replace p296 := eq_true p296; replace q296 := eq_true q296
      go_wp2
      repeat (go_quiet (fail); try go_wp2)
      go_roundg k1
      case measure => have := HK1.out; omega
      case rel => exact ⟨(wrap64 (x7_1 + (ji7))), (wrap64 (x8_1 + 1)), (by first | rfl | (simp; done) | (simp only [← hji7] <;> (first | rfl | simp)) | (simp [*]; done)), tS, H', ⟨by have := HK1.out; omega⟩, ⟨bBl HB.out⟩⟩
     ·rw [if_neg c6] at H
      exact absurd H (by simp)
    ·rw [if_neg c5] at H
     exact absurd H (by simp)
   ·rw [if_neg c4] at H
    have c4b0 : decide (x8_1 < (l1.length : Int)) = false := decide_eq_false c4
    clear c4; obtain rfl := Option.some.inj H
    go_wp2
    repeat (go_quiet (fail); try go_wp2)
    go_ret
    exact ⟨tE, bBl HB.out⟩
end
section
attribute [local go_sem] max2_int min2_int max_two min_two max_three min_three max_four min_four
def rf_below.l0 : Nat → List Int → List (S27) → Int → Int → Int → Option (Int)
 | 0, _, _, _, _, _ => none
 | k + 1, x0, x1, x2, x7, x8 => if x8 < (x1.length : Int) then (if 0 ≤ x8 then (if x8 < (x0.length : Int) then (rf_below.l0 k x0 x1 x2 (wrap64 (x7 + (mx (wrap64 ((wrap64 (x2 - (rd x0 x8))) * ((rd_T27 x1 x8).f0))) (wrap64 ((wrap64 (x2 - (rd x0 x8))) * ((rd_T27 x1 x8).f1)))))) (wrap64 (x8 + 1))) else (none)) else (none)) else (some x7)
def rf_below.f (k : Nat) (l0 : List Int) (l1 : List (S27)) (a2 : Int) : Option (Int) := rf_below.l0 k l0 l1 a2 0 0
theorem rf_below.calls (k : Nat) (A0 : Option Addr) (c0 : Nat) (l0 : List Int) (A1 : Option Addr) (c1 : Nat) (l1 : List (S27)) (a2 : Int) (r : Int) (w : World) (hr0 : Kd.C (Kd.int .i64) w A0 l0.length l0) (hc0 : l0.length ≤ c0) (hr1 : Kd.C k27 w A1 l1.length l1) (hc1 : l1.length ≤ c1) (h : rf_below.f k l0 l1 a2 = some r) :
  Calls Tryz.prog 153 #[.slice A0 l0.length c0, .slice A1 l1.length c1, .int .i64 a2] w fun e w' => e = .returned (.int .i64 r) ∧ Below w.heap.size w w' := by
 have HR0 := Sd.mk hr0; have HC0 := Sd.mk hc0; clear hr0 hc0; have HR1 := Sd.mk hr1; have HC1 := Sd.mk hc1; clear hr1 hc1; have HB := Sd.mk (Below.refl w.heap.size w)
 have H : (rf_below.l0 k l0 l1 a2 0 0) = some r := h
 clear h; have H' := Sd.mk H; clear H
 go_enter Tryz.func153, Tryz.ntmps153
 go_wp2
 repeat (go_quiet (fail); try go_wp2)
 go_loopg [7, 8] k (fun kq v7 v8 w' => ∃ (x7_1 : Int) (x8_1 : Int), v7 = .int .i64 x7_1 ∧ v8 = .int .i64 x8_1 ∧ Sd (rf_below.l0 kq l0 l1 a2 x7_1 x8_1 = some r) ∧ Sd (kq ≤ k) ∧ Sd (Below w.heap.size w w'))
 case atStart => exact ⟨(0), (0), tS, tS, H', ⟨Nat.le_refl _⟩, ⟨bBl HB.out⟩⟩
 case round =>
  clear H'; (try clear c1); (try clear p2); obtain ⟨x7_1, x8_1, rfl, rfl, HA, HK1, HB⟩ := hrel
  cases gk with
  | zero => exact absurd HA.out (by simp [rf_below.l0])
  | succ k1 =>
   have H := HA.out; clear HA
   simp only [rf_below.l0] at H
   by_cases c4 : x8_1 < (l1.length : Int)
   ·rw [if_pos c4] at H
    have c4b0 : decide (x8_1 < (l1.length : Int)) = true := decide_eq_true c4
    clear c4
    by_cases c5 : 0 ≤ x8_1
    ·rw [if_pos c5] at H
     have c5b0 : decide (0 ≤ x8_1) = true := decide_eq_true c5
     clear c5
     by_cases c6 : x8_1 < (l0.length : Int)
     ·rw [if_pos c6] at H
      have c6b0 : decide (x8_1 < (l0.length : Int)) = true := decide_eq_true c6
      clear c6
      obtain ⟨ji7, hji7⟩ : ∃ j_ : Int, (mx (wrap64 ((wrap64 (a2 - (rd l0 x8_1))) * ((rd_T27 l1 x8_1).f0))) (wrap64 ((wrap64 (a2 - (rd l0 x8_1))) * ((rd_T27 l1 x8_1).f1)))) = j_ := ⟨_, rfl⟩
      replace H : (rf_below.l0 k1 l0 l1 a2 (wrap64 (x7_1 + (ji7))) (wrap64 (x8_1 + 1))) = some r := by first | (rw [hji7] at H; exact H) | (simp only [hji7] at H ⊢; exact H)
      have hji7_ : (if (wrap64 ((wrap64 (a2 - (rd l0 x8_1))) * ((rd_T27 l1 x8_1).f0))) < (wrap64 ((wrap64 (a2 - (rd l0 x8_1))) * ((rd_T27 l1 x8_1).f1))) then (wrap64 ((wrap64 (a2 - (rd l0 x8_1))) * ((rd_T27 l1 x8_1).f1))) else (wrap64 ((wrap64 (a2 - (rd l0 x8_1))) * ((rd_T27 l1 x8_1).f0)))) = ji7 := hji7
      have H' := Sd.mk H; clear H
      have p297 : 0 ≤ (x8_1 : Int) := tB
      have q297 : x8_1 < (l0.length : Int) := tB
      obtain ⟨ad297, e297, hx297_0⟩ := Kd.at_int HR0.out x8_1 p297 q297; cases e297; replace hx297_0 := cU HB hx297_0; replace p297 := eq_true p297; replace q297 := eq_true q297
      have p298 : 0 ≤ (x8_1 : Int) := tB
      have q298 : x8_1 < (l1.length : Int) := tB
      obtain ⟨ad298, e298, hx298_0, hx298_1⟩ := at_T27 HR1.out x8_1 p298 q298; cases e298; replace hx298_0 := cU HB hx298_0; replace hx298_1 := cU HB hx298_1; replace p298 := eq_true p298; replace q298 := eq_true q298
      have p299 : 0 ≤ (x8_1 : Int) := tB
      have q299 : x8_1 < (l1.length : Int) := tB
      obtain ⟨ad299, e299, hx299_0, hx299_1⟩ := at_T27 HR1.out x8_1 p299 q299
      obtain rfl : ad298 = ad299 := (by injection e299)
      replace hx299_0 := cU HB hx299_0; replace hx299_1 := cU HB hx299_1; replace p299 := eq_true p299; replace q299 := eq_true q299
      go_wp2
      repeat (go_quiet (fail); try go_wp2)
      go_roundg k1
      case measure => have := HK1.out; omega
      case rel => exact ⟨(wrap64 (x7_1 + (ji7))), (wrap64 (x8_1 + 1)), (by first | rfl | (simp; done) | (simp only [← hji7] <;> (first | rfl | simp)) | (simp [*]; done)), tS, H', ⟨by have := HK1.out; omega⟩, ⟨bBl HB.out⟩⟩
     ·rw [if_neg c6] at H
      exact absurd H (by simp)
    ·rw [if_neg c5] at H
     exact absurd H (by simp)
   ·rw [if_neg c4] at H
    have c4b0 : decide (x8_1 < (l1.length : Int)) = false := decide_eq_false c4
    clear c4; obtain rfl := Option.some.inj H
    go_wp2
    repeat (go_quiet (fail); try go_wp2)
    go_ret
    exact ⟨tE, bBl HB.out⟩
end
section
mutual
def rf_bounds.j1 : Nat → List Int → List (S27) → Int → Int → Option (Int × Int)
 | 0, _, _, _, _ => none
 | k + 1, x0, x1, x397q0, x397q1 => rf_bounds.l1 k x0 x1 x397q0 x397q1
def rf_bounds.l1 : Nat → List Int → List (S27) → Int → Int → Option (Int × Int)
 | 0, _, _, _, _ => none
 | k + 1, x0, x1, x397q0, x397q1 => if x397q1 > (-10000) then ((rf_above.f k x0 x1 (wrap64 (x397q1 - 1))).bind fun t398 => (if t398 ≤ 0 then (rf_bounds.l1 k x0 x1 x397q0 (wrap64 (x397q1 - 1))) else (some (x397q0, x397q1)))) else (some (x397q0, x397q1))
def rf_bounds.l0 : Nat → List Int → List (S27) → Int → Int → Option (Int × Int)
 | 0, _, _, _, _ => none
 | k + 1, x0, x1, x397q0, x397q1 => if x397q0 < 10000 then ((rf_below.f k x0 x1 (wrap64 (x397q0 + 1))).bind fun t397 => (if t397 ≤ 0 then (rf_bounds.l0 k x0 x1 (wrap64 (x397q0 + 1)) x397q1) else (rf_bounds.j1 k x0 x1 x397q0 x397q1))) else (rf_bounds.j1 k x0 x1 x397q0 x397q1)
end
def rf_bounds.f (k : Nat) (l0 : List Int) (l1 : List (S27)) : Option (Int × Int) := rf_bounds.l0 k l0 l1 (-10000) 10000
theorem rf_bounds.calls (k : Nat) (A0 : Option Addr) (c0 : Nat) (l0 : List Int) (A1 : Option Addr) (c1 : Nat) (l1 : List (S27)) (r1 : Int) (r2 : Int) (w : World) (hr0 : Kd.C (Kd.int .i64) w A0 l0.length l0) (hc0 : l0.length ≤ c0) (hr1 : Kd.C k27 w A1 l1.length l1) (hc1 : l1.length ≤ c1) (h : rf_bounds.f k l0 l1 = some (r1, r2)) :
  Calls Tryz.prog 158 #[.slice A0 l0.length c0, .slice A1 l1.length c1] w fun e w' => e = .returned (.agg #[.int .i64 r1, .int .i64 r2]) ∧ Below w.heap.size w w' := by
 have hu27 := Tryz.underlying27; have HR0 := Sd.mk hr0; have HC0 := Sd.mk hc0; clear hr0 hc0; have HR1 := Sd.mk hr1; have HC1 := Sd.mk hc1; clear hr1 hc1; have HB := Sd.mk (Below.refl w.heap.size w)
 have H : (rf_bounds.l0 k l0 l1 (-10000) 10000) = some (r1, r2) := h
 clear h; have HC3 := Sd.mk H; clear H
 go_enter Tryz.func158, Tryz.ntmps158
 go_upto_block 0 with (first | ((with_reducible refine gate_dst (N := 4) rfl ?_); refine box_event ?hg (N := 4) ?hd (cs := #[.int .i64 0, .int .i64 0]) (t := 27) ?hr ?_; (case hd => rfl); (case hg => rfl); (case hr => exact tG); intro gb395 hg w4 hbox hb; have BK395 := Sd.mk (hbox); have GW395 := Sd.mk (bSz hg (bBl HB.out)); have GE395 := Sd.mk (bSz hg (bBl HB.out)); replace HB := Sd.mk (below_step (bBl HB.out) hb); clear hb hbox hg) | ((with_reducible refine gate_dst (N := 5) rfl ?_); refine box_event ?hg (N := 5) ?hd (cs := #[.int .i64 0, .int .i64 0]) (t := 27) ?hr ?_; (case hd => rfl); (case hg => rfl); (case hr => exact tG); intro gb396 hg w5 hbox hb; have BK396 := Sd.mk (hbox); have GW396 := Sd.mk (bSz hg (bBl HB.out)); have GE396 := Sd.mk (bSz hg (bBl HB.out)); replace HB := Sd.mk (below_step (bBl HB.out) hb); have NB395_396 := Sd.mk (bNl hg (bkA BK395.out)); have NB396_395 := Sd.mk (bNg hg (bkA BK395.out)); replace BK395 := Sd.mk (blk_below (bkA BK395.out) hb); clear hb hbox hg; have hnb6 := NB396_395.out; have hnc6 := NB395_396.out; obtain ⟨u7_0, u7_1, o7_0, o7_1⟩ := bc2 (w := w5) BK396.out))
 (try simp only [Act.put, List.setIfInBounds_toArray, List.set_cons_zero, List.set_cons_succ])
 go_cut [] (fun wc => ∃ (kq : Nat) (x397000_2 : Int), Sd (rf_bounds.j1 kq l0 l1 x397000_2 10000 = some (r1, r2)) ∧ Sd (kq ≤ k) ∧ Sd (wc.heap[gb395]? = some (.cells #[.int .i64 0, .int .i64 0] 27 (0, 0))) ∧ Sd (wc.heap[gb396]? = some (.cells #[.int .i64 x397000_2, .int .i64 10000] 27 (0, 0))) ∧ Sd (Below w.heap.size w wc))
 case first =>
  have H := HC3.out; clear HC3; have H' := Sd.mk H; clear H
  go_wp2
  go_loopg [] k (fun kq w' => ∃ (x397000_1 : Int), Sd (rf_bounds.l0 kq l0 l1 x397000_1 10000 = some (r1, r2)) ∧ Sd (kq ≤ k) ∧ Sd (w'.heap[gb395]? = some (.cells #[.int .i64 0, .int .i64 0] 27 (0, 0))) ∧ Sd (w'.heap[gb396]? = some (.cells #[.int .i64 x397000_1, .int .i64 10000] 27 (0, 0))) ∧ Sd (Below w.heap.size w w'))
  case atStart => exact ⟨((-10000)), H', ⟨Nat.le_refl _⟩, ⟨by refine bkZ ?_; refine blk_far ?_ NB395_396.out _; refine bkZ ?_; refine blk_far ?_ NB395_396.out _; refine bkZ ?_; exact BK395.out⟩, ⟨by refine bkZ ?_; refine blk_put (cs := #[.int .i64 (-10000), .int .i64 0]) ?_ 1 _ rfl; refine bkZ ?_; refine blk_put (cs := #[.int .i64 0, .int .i64 0]) ?_ 0 _ rfl; refine bkZ ?_; exact BK396.out⟩, ⟨bBl HB.out⟩⟩
  case round =>
   clear H'; (try clear c1); (try clear p2); (try clear c6); (try clear u7_0 u7_1); (try clear o7_0 o7_1); obtain ⟨x397000_1, HA, HK1, BK395, BK396, HB⟩ := hrel
   cases gk with
   | zero => exact absurd HA.out (by simp [rf_bounds.l0])
   | succ k1 =>
    have H := HA.out; clear HA
    simp only [rf_bounds.l0] at H
    by_cases c8 : x397000_1 < 10000
    ·rw [if_pos c8] at H
     have c8b0 : decide (x397000_1 < 10000) = true := decide_eq_true c8
     clear c8
     (first | rw [c8b0] | (simp only [i64_w, i32_w]; rw [c8b0]) | skip)
     replace H := Option.bind_eq_some_iff.mp H; obtain ⟨t397, A90, H⟩ := H
     try dsimp only at H
     have A9 := Sd.mk A90; clear A90
     by_cases c10 : t397 ≤ 0
     ·rw [if_pos c10] at H
      have c10b0 : decide (t397 ≤ 0) = true := decide_eq_true c10
      clear c10; have H' := Sd.mk H; clear H; have hnb11 := NB396_395.out; have hnc11 := NB395_396.out; obtain ⟨u12_0, u12_1, o12_0, o12_1⟩ := bc2 (w := wr) BK396.out
      go_wp2_with (first | (go_at_call 153; (with_reducible refine (rf_below.calls k1 _ _ l0 _ _ l1 (wrap64 (x397000_1 + 1)) t397 _ (cS (Kd.C_below HR0.out HB.out)) HC0.out (cS (Kd.C_below HR1.out HB.out)) HC1.out A9.out).mono ?_); rintro e w13 ⟨rfl, hb⟩; replace BK395 := Sd.mk (blk_below (bkA BK395.out) hb); replace BK396 := Sd.mk (blk_below (bkA BK396.out) hb); replace HB := Sd.mk (below_step (bBl HB.out) hb); (try clear hb); (try clear hb2); (try clear hk); (try clear hi); obtain ⟨u14_0, u14_1, o14_0, o14_1⟩ := bc2 (w := w13) BK396.out))
      go_roundg k1
      case measure => have := HK1.out; omega
      case rel => exact ⟨(wrap64 (x397000_1 + 1)), H', ⟨by have := HK1.out; omega⟩, ⟨by refine bkZ ?_; refine blk_far ?_ NB395_396.out _; refine bkZ ?_; exact BK395.out⟩, ⟨by refine bkZ ?_; refine blk_put (cs := #[.int .i64 x397000_1, .int .i64 10000]) ?_ 0 _ rfl; refine bkZ ?_; exact BK396.out⟩, ⟨bBl HB.out⟩⟩
     ·rw [if_neg c10] at H
      have c10b0 : decide (t397 ≤ 0) = false := decide_eq_false c10
      clear c10; have H' := Sd.mk H; clear H; have hnb15 := NB396_395.out; have hnc15 := NB395_396.out; obtain ⟨u16_0, u16_1, o16_0, o16_1⟩ := bc2 (w := wr) BK396.out
      go_wp2_with (first | (go_at_call 153; (with_reducible refine (rf_below.calls k1 _ _ l0 _ _ l1 (wrap64 (x397000_1 + 1)) t397 _ (cS (Kd.C_below HR0.out HB.out)) HC0.out (cS (Kd.C_below HR1.out HB.out)) HC1.out A9.out).mono ?_); rintro e w17 ⟨rfl, hb⟩; replace BK395 := Sd.mk (blk_below (bkA BK395.out) hb); replace BK396 := Sd.mk (blk_below (bkA BK396.out) hb); replace HB := Sd.mk (below_step (bBl HB.out) hb); (try clear hb); (try clear hb2); (try clear hk); (try clear hi)))
      go_meet
      case rel => exact ⟨_, (x397000_1), H', ⟨by have := HK1.out; first | omega | exact Nat.le_refl _⟩, ⟨bkA BK395.out⟩, ⟨bkA BK396.out⟩, ⟨bBl HB.out⟩⟩
    ·rw [if_neg c8] at H
     have c8b0 : decide (x397000_1 < 10000) = false := decide_eq_false c8
     clear c8
     (first | rw [c8b0] | (simp only [i64_w, i32_w]; rw [c8b0]) | skip)
     have H' := Sd.mk H; clear H; have hnb18 := NB396_395.out; have hnc18 := NB395_396.out; obtain ⟨u19_0, u19_1, o19_0, o19_1⟩ := bc2 (w := wr) BK396.out
     go_wp2
     go_meet
     case rel => exact ⟨_, (x397000_1), H', ⟨by have := HK1.out; first | omega | exact Nat.le_refl _⟩, ⟨bkA BK395.out⟩, ⟨bkA BK396.out⟩, ⟨bBl HB.out⟩⟩
 case rest =>
  clear HC3; (try clear c1); (try clear p2 p2); (try clear c6); (try clear p6); (try clear c8); (try clear c8b0); (try clear c10); (try clear c10b0); (try clear c11); (try clear c15); (try clear c18); (try clear u12_0 u12_1); (try clear u14_0 u14_1); (try clear u16_0 u16_1); (try clear u19_0 u19_1); (try clear u7_0 u7_1); (try clear o12_0 o12_1); (try clear o14_0 o14_1); (try clear o16_0 o16_1); (try clear o19_0 o19_1); (try clear o7_0 o7_1); obtain ⟨kq, x397000_2, HA, HJ2, BK395, BK396, HB⟩ := hcut
  cases kq with
  | zero => exact absurd HA.out (by simp [rf_bounds.j1])
  | succ kj2 =>
   have H := HA.out; clear HA
   simp only [rf_bounds.j1] at H
   have H' := Sd.mk H; clear H
   go_wp2
   go_loopg [] kj2 (fun kq w' => ∃ (x397001_2 : Int), Sd (rf_bounds.l1 kq l0 l1 x397000_2 x397001_2 = some (r1, r2)) ∧ Sd (kq ≤ kj2) ∧ Sd (w'.heap[gb395]? = some (.cells #[.int .i64 0, .int .i64 0] 27 (0, 0))) ∧ Sd (w'.heap[gb396]? = some (.cells #[.int .i64 x397000_2, .int .i64 x397001_2] 27 (0, 0))) ∧ Sd (Below w.heap.size w w'))
   case atStart => exact ⟨(10000), H', ⟨Nat.le_refl _⟩, ⟨bkA BK395.out⟩, ⟨bkA BK396.out⟩, ⟨bBl HB.out⟩⟩
   case round =>
    clear H'; (try clear c1); (try clear p2 p2); (try clear c6); (try clear p6 p6); (try clear c8); (try clear c8b0); (try clear c10); (try clear c10b0); (try clear c11); (try clear c15); (try clear c18); (try clear u12_0 u12_1); (try clear u14_0 u14_1); (try clear u16_0 u16_1); (try clear u19_0 u19_1); (try clear u7_0 u7_1); (try clear o12_0 o12_1); (try clear o14_0 o14_1); (try clear o16_0 o16_1); (try clear o19_0 o19_1); (try clear o7_0 o7_1); obtain ⟨x397001_2, HA, HK2, BK395, BK396, HB⟩ := hrel
    cases gk with
    | zero => exact absurd HA.out (by simp [rf_bounds.l1])
    | succ k2 =>
     have H := HA.out; clear HA
     simp only [rf_bounds.l1] at H
     by_cases c20 : x397001_2 > (-10000)
     ·rw [if_pos c20] at H
      have c20b0 : decide ((-10000) < x397001_2) = true := decide_eq_true c20
      clear c20; replace H := Option.bind_eq_some_iff.mp H; obtain ⟨t398, A210, H⟩ := H
      try dsimp only at H
      have A21 := Sd.mk A210; clear A210
      by_cases c22 : t398 ≤ 0
      ·rw [if_pos c22] at H
       have c22b0 : decide (t398 ≤ 0) = true := decide_eq_true c22
       clear c22; have H' := Sd.mk H; clear H; have hnb23 := NB396_395.out; have hnc23 := NB395_396.out; obtain ⟨u24_0, u24_1, o24_0, o24_1⟩ := bc2 (w := wr) BK396.out
       go_wp2_with (first | (go_at_call 152; (with_reducible refine (rf_above.calls k2 _ _ l0 _ _ l1 (wrap64 (x397001_2 - 1)) t398 _ (cS (Kd.C_below HR0.out HB.out)) HC0.out (cS (Kd.C_below HR1.out HB.out)) HC1.out A21.out).mono ?_); rintro e w25 ⟨rfl, hb⟩; replace BK395 := Sd.mk (blk_below (bkA BK395.out) hb); replace BK396 := Sd.mk (blk_below (bkA BK396.out) hb); replace HB := Sd.mk (below_step (bBl HB.out) hb); (try clear hb); (try clear hb2); (try clear hk); (try clear hi); obtain ⟨u26_0, u26_1, o26_0, o26_1⟩ := bc2 (w := w25) BK396.out))
       go_roundg k2
       case measure => have := HJ2.out; have := HK2.out; omega
       case rel => exact ⟨(wrap64 (x397001_2 - 1)), H', ⟨by have := HJ2.out; have := HK2.out; omega⟩, ⟨by refine bkZ ?_; refine blk_far ?_ NB395_396.out _; refine bkZ ?_; exact BK395.out⟩, ⟨by refine bkZ ?_; refine blk_put (cs := #[.int .i64 x397000_2, .int .i64 x397001_2]) ?_ 1 _ rfl; refine bkZ ?_; exact BK396.out⟩, ⟨bBl HB.out⟩⟩
      ·rw [if_neg c22] at H
       have c22b0 : decide (t398 ≤ 0) = false := decide_eq_false c22
       clear c22
       simp only [Option.some.injEq, Prod.mk.injEq] at H
       obtain ⟨rfl, rfl⟩ := H; have hnb27 := NB396_395.out; have hnc27 := NB395_396.out; obtain ⟨u28_0, u28_1, o28_0, o28_1⟩ := bc2 (w := wr) BK396.out
       go_wp2_with (first | (go_at_call 152; (with_reducible refine (rf_above.calls k2 _ _ l0 _ _ l1 (wrap64 (x397001_2 - 1)) t398 _ (cS (Kd.C_below HR0.out HB.out)) HC0.out (cS (Kd.C_below HR1.out HB.out)) HC1.out A21.out).mono ?_); rintro e w29 ⟨rfl, hb⟩; replace BK395 := Sd.mk (blk_below (bkA BK395.out) hb); replace BK396 := Sd.mk (blk_below (bkA BK396.out) hb); replace HB := Sd.mk (below_step (bBl HB.out) hb); (try clear hb); (try clear hb2); (try clear hk); (try clear hi); obtain ⟨u30_0, u30_1, o30_0, o30_1⟩ := bc2 (w := w29) BK396.out; obtain ⟨u31_0, u31_1, o31_0, o31_1⟩ := bc2 (w := w29) BK395.out))
       refine bodyPost_ret (results_cell_row rfl _ _ gb395 27 #[.int .i64 x397000_2, .int .i64 x397001_2] (0, 0) _ rfl (by refine bkZ ?_; refine blk_put (cs := #[.int .i64 x397000_2, .int .i64 0]) ?_ 1 _ rfl; refine bkZ ?_; refine blk_put (cs := #[.int .i64 0, .int .i64 0]) ?_ 0 _ rfl; refine bkZ ?_; exact BK395.out) Tryz.underlying27 rfl (by kernel_rfl)) rfl ?_
       exact ⟨tE, bBl HB.out⟩
     ·rw [if_neg c20] at H
      have c20b0 : decide ((-10000) < x397001_2) = false := decide_eq_false c20
      clear c20
      simp only [Option.some.injEq, Prod.mk.injEq] at H
      obtain ⟨rfl, rfl⟩ := H; have hnb32 := NB396_395.out; have hnc32 := NB395_396.out; obtain ⟨u33_0, u33_1, o33_0, o33_1⟩ := bc2 (w := wr) BK396.out; obtain ⟨u34_0, u34_1, o34_0, o34_1⟩ := bc2 (w := wr) BK395.out
      go_wp2
      refine bodyPost_ret (results_cell_row rfl _ _ gb395 27 #[.int .i64 x397000_2, .int .i64 x397001_2] (0, 0) _ rfl (by refine bkZ ?_; refine blk_put (cs := #[.int .i64 x397000_2, .int .i64 0]) ?_ 1 _ rfl; refine bkZ ?_; refine blk_put (cs := #[.int .i64 0, .int .i64 0]) ?_ 0 _ rfl; refine bkZ ?_; exact BK395.out) Tryz.underlying27 rfl (by kernel_rfl)) rfl ?_
      exact ⟨tE, bBl HB.out⟩
end
section
theorem mx_max (a b : Int) : mx a b = max a b := by unfold mx; split <;> omega
theorem sumTo_congr {f g : Nat → Int} : ∀ n, (∀ j, j < n → f j = g j) → sumTo f n = sumTo g n := by
 intro n
 induction n with
 | zero => intro _; rfl
 | succ n ih => intro h; simp only [sumTo]; rw [ih fun j hj => h j (by omega), h n (by omega)]
theorem sumTo_le {f g : Nat → Int} : ∀ n, (∀ j, j < n → f j ≤ g j) → sumTo f n ≤ sumTo g n := by
 intro n
 induction n with
 | zero => intro _; exact Int.le_refl _
 | succ n ih => intro h; have := ih fun j hj => h j (by omega); have := h n (by omega); simp only [sumTo]; omega
theorem sumTo_zero : ∀ n, sumTo (fun _ => 0) n = 0 := by
 intro n
 induction n with
 | zero => rfl
 | succ n ih => simp only [sumTo, ih]; omega
theorem iotaA_at {n j : Nat} (h : j < n) : (iotaA n)[j]! = (j : Int) := by
 rw [getElem!_pos _ j (by rw [iotaA_size]; exact h)]; simp [iotaA]
theorem lsum_sumTo (f : Int → Int) (n : Nat) : MeanMath.lsum f (iotaA n).toList = sumTo (fun j => f (j : Int)) n := by
 have h := sumTo_lsum f (iotaA n) n (by rw [iotaA_size]; exact Nat.le_refl _)
 rw [List.take_of_length_le (by rw [Array.length_toList, iotaA_size]; exact Nat.le_refl _)] at h
 rw [← h]
 exact sumTo_congr n fun j hj => by rw [iotaA_at hj]
structure GOk (l : List S27) : Prop where
 n12 : l.length ≤ 12
 at_ : ∀ j : Nat, j < l.length → 0 ≤ (rd_T27 l (j : Int)).f0 ∧ (rd_T27 l (j : Int)).f0 ≤ (rd_T27 l (j : Int)).f1 ∧ (rd_T27 l (j : Int)).f1 ≤ 120000000
def wS (F : S27 → Int) (l : List S27) (i : Nat) : Int := sumTo (fun j => F (rd_T27 l (j : Int))) i
theorem wS_lsum (l : List S27) : wS S27.f0 l l.length = MeanMath.lsum S27.f0 l := by
 rw [← lsum_iota (fun k => (rd_T27 l k).f0) l (fun _ _ => rfl), lsum_sumTo]
 rfl
theorem wS_bounds {l : List S27} (H : GOk l) : ∀ i, i ≤ l.length → (0 ≤ wS S27.f0 l i ∧ wS S27.f0 l i ≤ 120000000 * i) ∧ (0 ≤ wS S27.f1 l i ∧ wS S27.f1 l i ≤ 120000000 * i) ∧ wS S27.f0 l i ≤ wS S27.f1 l i := by
 intro i
 induction i with
 | zero => intro _; simp [wS, sumTo]
 | succ i ih => intro hi; have h1 := ih (by omega); have h2 := H.at_ i (by omega); simp only [wS, sumTo] at *; omega
theorem bweight_l0 {l : List S27} (H : GOk l) : ∀ (m i : Nat), i + m = l.length → Ev (fun k => b_weight.l0 k l (l.length : Int) (i : Int) (wS S27.f0 l i) (wS S27.f1 l i)) (wS S27.f0 l l.length, wS S27.f1 l l.length)
 | 0, i, hi => by
  apply Ev.step
  simp only [b_weight.l0, if_neg (show ¬ (i : Int) < (l.length : Int) by omega)]
  rw [show i = l.length by omega]
  exact Ev.const _
 | m + 1, i, hi => by
  have ih := bweight_l0 H m (i + 1) (by omega)
  have hn := H.n12
  have hb := wS_bounds H i (by omega)
  have hc := H.at_ i (by omega)
  apply Ev.step
  simp only [b_weight.l0, if_pos (show (i : Int) < (l.length : Int) by omega), if_pos (i_pos i), wrap_succ (i_pos i) (show (i : Int) ≤ 1000000000 by omega)]
  rw [wrap_id (x := wS S27.f0 l i + (rd_T27 l (i : Int)).f0) (by omega) (by omega), wrap_id (x := wS S27.f1 l i + (rd_T27 l (i : Int)).f1) (by omega) (by omega)]
  exact ih
theorem bweight {l : List S27} (H : GOk l) : Ev (fun k => b_weight.f k l) (wS S27.f0 l l.length, wS S27.f1 l l.length) := bweight_l0 H l.length 0 (by omega)
theorem rsums_l0 {l : List S27} (H : GOk l) : ∀ (m i : Nat), i + m = l.length → Ev (fun k => rf_sums.l0 k l (wS S27.f0 l i) (wS S27.f1 l i) (i : Int)) (wS S27.f0 l l.length, wS S27.f1 l l.length)
 | 0, i, hi => by
  apply Ev.step
  simp only [rf_sums.l0, if_neg (show ¬ (i : Int) < (l.length : Int) by omega)]
  rw [show i = l.length by omega]
  exact Ev.const _
 | m + 1, i, hi => by
  have ih := rsums_l0 H m (i + 1) (by omega)
  have hn := H.n12
  have hb := wS_bounds H i (by omega)
  have hc := H.at_ i (by omega)
  apply Ev.step
  simp only [rf_sums.l0, if_pos (show (i : Int) < (l.length : Int) by omega), if_pos (i_pos i), wrap_succ (i_pos i) (show (i : Int) ≤ 1000000000 by omega)]
  rw [wrap_id (x := wS S27.f0 l i + (rd_T27 l (i : Int)).f0) (by omega) (by omega), wrap_id (x := wS S27.f1 l i + (rd_T27 l (i : Int)).f1) (by omega) (by omega)]
  exact ih
theorem rsums {l : List S27} (H : GOk l) : Ev (fun k => rf_sums.f k l) (wS S27.f0 l l.length, wS S27.f1 l l.length) := rsums_l0 H l.length 0 (by omega)
structure CfOk (cf : Int → Int) (n : Nat) : Prop where
 at_ : ∀ j : Nat, j < n → -10000 ≤ cf (j : Int) ∧ cf (j : Int) ≤ 10000
theorem meanOk_of {cf : Int → Int} {l : List S27} (H : GOk l) (C : CfOk cf l.length) (hp : 0 < wS S27.f0 l l.length) : MeanOk cf l := by
 have key : ∀ k : Int, 0 ≤ k → k < l.length → ∃ j : Nat, j < l.length ∧ k = j := fun k h0 h1 => ⟨k.toNat, by omega, by omega⟩
 refine ⟨H.n12, ?_, ?_, ?_, ?_, ?_, by rw [← wS_lsum]; exact hp⟩ <;> intro k h0 hl <;> obtain ⟨j, hj, rfl⟩ := key k h0 hl <;> have h1 := H.at_ j hj <;> have h2 := C.at_ j hj <;> omega
def bT (cf : Int → Int) (l : List S27) (m : Int) (j : Nat) : Int := max ((m - cf j) * (rd_T27 l (j : Int)).f0) ((m - cf j) * (rd_T27 l (j : Int)).f1)
theorem belowS_sum (cf : Int → Int) (l : List S27) (m : Int) : belowS cf l m = sumTo (bT cf l m) l.length := lsum_sumTo _ _
def aT (cf : Int → Int) (l : List S27) (m : Int) (j : Nat) : Int := max ((cf j - m) * (rd_T27 l (j : Int)).f0) ((cf j - m) * (rd_T27 l (j : Int)).f1)
theorem aboveS_sum (cf : Int → Int) (l : List S27) (m : Int) : aboveS cf l m = sumTo (aT cf l m) l.length := by
 refine (lsum_sumTo _ _).trans (sumTo_congr _ fun j _ => ?_)
 unfold aT loF hiF
 dsimp only
 rw [show -m - -cf (j : Int) = cf (j : Int) - m by omega]
theorem mulb {c x : Int} (h1 : -30000 ≤ c) (h2 : c ≤ 30000) (h3 : 0 ≤ x) (h4 : x ≤ 120000000) : -3600000000000 ≤ c * x ∧ c * x ≤ 3600000000000 := by
 have e1 := Int.mul_le_mul_of_nonneg_right h1 h3
 have e2 := Int.mul_le_mul_of_nonneg_right h2 h3
 omega
theorem bT_bound {cf : Int → Int} {l : List S27} (H : GOk l) (C : CfOk cf l.length) {m : Int} (h1 : -10001 ≤ m) (h2 : m ≤ 10001) : ∀ j, j < l.length → -3600000000000 ≤ bT cf l m j ∧ bT cf l m j ≤ 3600000000000 := by
 intro j hj
 have a1 := H.at_ j hj
 have a2 := C.at_ j hj
 have b1 := mulb (c := m - cf j) (x := (rd_T27 l (j : Int)).f0) (by omega) (by omega) (by omega) (by omega)
 have b2 := mulb (c := m - cf j) (x := (rd_T27 l (j : Int)).f1) (by omega) (by omega) (by omega) (by omega)
 unfold bT
 omega
theorem aT_bound {cf : Int → Int} {l : List S27} (H : GOk l) (C : CfOk cf l.length) {m : Int} (h1 : -10001 ≤ m) (h2 : m ≤ 10001) : ∀ j, j < l.length → -3600000000000 ≤ aT cf l m j ∧ aT cf l m j ≤ 3600000000000 := by
 intro j hj
 have a1 := H.at_ j hj
 have a2 := C.at_ j hj
 have b1 := mulb (c := cf j - m) (x := (rd_T27 l (j : Int)).f0) (by omega) (by omega) (by omega) (by omega)
 have b2 := mulb (c := cf j - m) (x := (rd_T27 l (j : Int)).f1) (by omega) (by omega) (by omega) (by omega)
 unfold aT
 omega
theorem rbelow_l0 {cf : Int → Int} {l : List S27} {c : List Int} (H : GOk l) (C : CfOk cf l.length) (hl : l.length ≤ c.length) (hc : ∀ j : Nat, j < l.length → rd c (j : Int) = cf (j : Int)) {m : Int} (h1 : -10001 ≤ m) (h2 : m ≤ 10001) :
  ∀ (n i : Nat), i + n = l.length → Ev (fun k => rf_below.l0 k c l m (sumTo (bT cf l m) i) (i : Int)) (belowS cf l m)
 | 0, i, hi => by
  apply Ev.step
  simp only [rf_below.l0, if_neg (show ¬ (i : Int) < (l.length : Int) by omega)]
  rw [show i = l.length by omega, belowS_sum]
  exact Ev.const _
 | n + 1, i, hi => by
  have ih := rbelow_l0 H C hl hc h1 h2 n (i + 1) (by omega)
  have hn := H.n12
  have hlt : i < l.length := by omega
  have a1 := H.at_ i hlt
  have a2 := C.at_ i hlt
  have b1 := mulb (c := m - cf i) (x := (rd_T27 l (i : Int)).f0) (by omega) (by omega) (by omega) (by omega)
  have b2 := mulb (c := m - cf i) (x := (rd_T27 l (i : Int)).f1) (by omega) (by omega) (by omega) (by omega)
  have b3 := bT_bound H C h1 h2 i hlt
  have b4 := sumTo_bound (f := bT cf l m) (M := 3600000000000) (n := l.length) (bT_bound H C h1 h2) i (by omega)
  have e : wrap64 (sumTo (bT cf l m) i + mx (wrap64 (wrap64 (m - rd c (i : Int)) * (rd_T27 l (i : Int)).f0)) (wrap64 (wrap64 (m - rd c (i : Int)) * (rd_T27 l (i : Int)).f1))) = sumTo (bT cf l m) (i + 1) := by
   rw [hc i hlt, wrap_id (x := m - cf i) (by omega) (by omega), wrap_id (x := (m - cf i) * (rd_T27 l (i : Int)).f0) (by omega) (by omega), wrap_id (x := (m - cf i) * (rd_T27 l (i : Int)).f1) (by omega) (by omega), mx_max]
   show wrap64 (sumTo (bT cf l m) i + bT cf l m i) = _
   rw [wrap_id (by omega) (by omega)]
   rfl
  apply Ev.step
  simp only [rf_below.l0, if_pos (show (i : Int) < (l.length : Int) by omega), if_pos (i_pos i), if_pos (show (i : Int) < (c.length : Int) by omega), wrap_succ (i_pos i) (show (i : Int) ≤ 1000000000 by omega), e]
  exact ih
theorem rabove_l0 {cf : Int → Int} {l : List S27} {c : List Int} (H : GOk l) (C : CfOk cf l.length) (hl : l.length ≤ c.length) (hc : ∀ j : Nat, j < l.length → rd c (j : Int) = cf (j : Int)) {m : Int} (h1 : -10001 ≤ m) (h2 : m ≤ 10001) :
  ∀ (n i : Nat), i + n = l.length → Ev (fun k => rf_above.l0 k c l m (sumTo (aT cf l m) i) (i : Int)) (aboveS cf l m)
 | 0, i, hi => by
  apply Ev.step
  simp only [rf_above.l0, if_neg (show ¬ (i : Int) < (l.length : Int) by omega)]
  rw [show i = l.length by omega, aboveS_sum]
  exact Ev.const _
 | n + 1, i, hi => by
  have ih := rabove_l0 H C hl hc h1 h2 n (i + 1) (by omega)
  have hn := H.n12
  have hlt : i < l.length := by omega
  have a1 := H.at_ i hlt
  have a2 := C.at_ i hlt
  have b1 := mulb (c := cf i - m) (x := (rd_T27 l (i : Int)).f0) (by omega) (by omega) (by omega) (by omega)
  have b2 := mulb (c := cf i - m) (x := (rd_T27 l (i : Int)).f1) (by omega) (by omega) (by omega) (by omega)
  have b3 := aT_bound H C h1 h2 i hlt
  have b4 := sumTo_bound (f := aT cf l m) (M := 3600000000000) (n := l.length) (aT_bound H C h1 h2) i (by omega)
  have e : wrap64 (sumTo (aT cf l m) i + mx (wrap64 (wrap64 (rd c (i : Int) - m) * (rd_T27 l (i : Int)).f0)) (wrap64 (wrap64 (rd c (i : Int) - m) * (rd_T27 l (i : Int)).f1))) = sumTo (aT cf l m) (i + 1) := by
   rw [hc i hlt, wrap_id (x := cf i - m) (by omega) (by omega), wrap_id (x := (cf i - m) * (rd_T27 l (i : Int)).f0) (by omega) (by omega), wrap_id (x := (cf i - m) * (rd_T27 l (i : Int)).f1) (by omega) (by omega), mx_max]
   show wrap64 (sumTo (aT cf l m) i + aT cf l m i) = _
   rw [wrap_id (by omega) (by omega)]
   rfl
  apply Ev.step
  simp only [rf_above.l0, if_pos (show (i : Int) < (l.length : Int) by omega), if_pos (i_pos i), if_pos (show (i : Int) < (c.length : Int) by omega), wrap_succ (i_pos i) (show (i : Int) ≤ 1000000000 by omega), e]
  exact ih
theorem mean_range {cf : Int → Int} {l : List S27} (H : GOk l) (C : CfOk cf l.length) (hp : 0 < wS S27.f0 l l.length) : (-10000 ≤ meanLo cf l ∧ meanLo cf l ≤ 10000) ∧ (-10000 ≤ meanHi cf l ∧ meanHi cf l ≤ 10000) := by
 have M := meanOk_of H C hp
 have one : ∀ (c x : Int), 1 ≤ c → 0 ≤ x → x ≤ c * x := by
  intro c x h1 h2
  have := Int.mul_le_mul_of_nonneg_right h1 h2
  omega
 have neg : ∀ (c x : Int), c ≤ 0 → 0 ≤ x → c * x ≤ 0 := by
  intro c x h1 h2
  have := Int.mul_le_mul_of_nonneg_right h1 h2
  omega
 refine ⟨⟨?_, ?_⟩, ?_, ?_⟩
 ·refine (meanLo_iff M _).1 ?_
  rw [belowS_sum, ← sumTo_zero l.length]
  refine sumTo_le _ fun j hj => ?_
  have a1 := H.at_ j hj
  have a2 := C.at_ j hj
  have b1 := neg (-10000 - cf j) (rd_T27 l (j : Int)).f0 (by omega) (by omega)
  have b2 := neg (-10000 - cf j) (rd_T27 l (j : Int)).f1 (by omega) (by omega)
  unfold bT; omega
 ·apply Int.not_lt.1
  intro h
  have h1 := (meanLo_iff M 10001).2 (by omega)
  rw [belowS_sum] at h1
  have h2 : wS S27.f0 l l.length ≤ sumTo (bT cf l 10001) l.length := by
   refine sumTo_le _ fun j hj => ?_
   have a1 := H.at_ j hj
   have a2 := C.at_ j hj
   have b1 := one (10001 - cf j) (rd_T27 l (j : Int)).f0 (by omega) (by omega)
   unfold bT; omega
  omega
 ·apply Int.not_lt.1
  intro h
  have h1 := (meanHi_iff M (-10001)).2 (by omega)
  rw [aboveS_sum] at h1
  have h2 : wS S27.f0 l l.length ≤ sumTo (aT cf l (-10001)) l.length := by
   refine sumTo_le _ fun j hj => ?_
   have a1 := H.at_ j hj
   have a2 := C.at_ j hj
   have b1 := one (cf j - -10001) (rd_T27 l (j : Int)).f0 (by omega) (by omega)
   unfold aT; omega
  omega
 ·refine (meanHi_iff M _).1 ?_
  rw [aboveS_sum, ← sumTo_zero l.length]
  refine sumTo_le _ fun j hj => ?_
  have a1 := H.at_ j hj
  have a2 := C.at_ j hj
  have b1 := neg (cf j - 10000) (rd_T27 l (j : Int)).f0 (by omega) (by omega)
  have b2 := neg (cf j - 10000) (rd_T27 l (j : Int)).f1 (by omega) (by omega)
  unfold aT; omega
section
variable {cf : Int → Int} {l : List S27} {c : List Int} (H : GOk l) (C : CfOk cf l.length) (hp : 0 < wS S27.f0 l l.length) (hl : l.length ≤ c.length) (hc : ∀ j : Nat, j < l.length → rd c (j : Int) = cf (j : Int))
include H C hp hl hc
theorem rbounds_l1 (lo : Int) : ∀ (m : Nat) (hi : Int), hi = meanHi cf l + m → hi ≤ 10000 → Ev (fun k => rf_bounds.l1 k c l lo hi) (lo, meanHi cf l)
 | m, hi, he, h10 => by
  have M := meanOk_of H C hp
  have R := mean_range H C hp
  apply Ev.step
  by_cases h1 : hi > -10000
  ·simp only [rf_bounds.l1, if_pos h1]
   rw [wrap_id (x := hi - 1) (by omega) (by omega)]
   refine Ev.bind (v := aboveS cf l (hi - 1)) (rabove_l0 H C hl hc (by omega) (by omega) l.length 0 (by omega)) ?_
   by_cases h2 : aboveS cf l (hi - 1) ≤ 0
   ·simp only [if_pos h2]
    have h3 := (meanHi_iff M _).1 h2
    match m, he with
    | 0, he => omega
    | m + 1, he => exact rbounds_l1 lo m (hi - 1) (by omega) (by omega)
   ·simp only [if_neg h2]
    have h3 : ¬ meanHi cf l ≤ hi - 1 := fun h => h2 ((meanHi_iff M _).2 h)
    exact (Ev.const _).cast (by rw [show hi = meanHi cf l by omega])
  ·simp only [rf_bounds.l1, if_neg h1]
   exact (Ev.const _).cast (by rw [show hi = meanHi cf l by omega])
theorem rbounds_l0 : ∀ (m : Nat) (lo : Int), lo + m = meanLo cf l → -10000 ≤ lo → Ev (fun k => rf_bounds.l0 k c l lo 10000) (meanLo cf l, meanHi cf l)
 | m, lo, he, h10 => by
  have M := meanOk_of H C hp
  have R := mean_range H C hp
  have hj : lo = meanLo cf l → Ev (fun k => rf_bounds.j1 k c l lo 10000) (meanLo cf l, meanHi cf l) := by
   intro e
   apply Ev.step
   simp only [rf_bounds.j1]
   rw [e]
   exact rbounds_l1 H C hp hl hc (meanLo cf l) (10000 - meanHi cf l).toNat 10000 (by omega) (by omega)
  apply Ev.step
  by_cases h1 : lo < 10000
  ·simp only [rf_bounds.l0, if_pos h1]
   rw [wrap_id (x := lo + 1) (by omega) (by omega)]
   refine Ev.bind (v := belowS cf l (lo + 1)) (rbelow_l0 H C hl hc (by omega) (by omega) l.length 0 (by omega)) ?_
   by_cases h2 : belowS cf l (lo + 1) ≤ 0
   ·simp only [if_pos h2]
    have h3 := (meanLo_iff M _).1 h2
    match m, he with
    | 0, he => omega
    | m + 1, he => exact rbounds_l0 m (lo + 1) (by omega) (by omega)
   ·simp only [if_neg h2]
    have h3 : ¬ lo + 1 ≤ meanLo cf l := fun h => h2 ((meanLo_iff M _).2 h)
    exact hj (by omega)
  ·simp only [rf_bounds.l0, if_neg h1]
   exact hj (by omega)
theorem rbounds : Ev (fun k => rf_bounds.f k c l) (meanLo cf l, meanHi cf l) := by
 have R := mean_range H C hp
 exact rbounds_l0 H C hp hl hc (meanLo cf l + 10000).toNat (-10000) (by omega) (by omega)
end
end
section
structure F128 where
 fn : Nat
 lb : Array Value
 tg : S27
def kfn : Kd (Nat × Array Value) := Kd.scalar (fun x => .func (.func x.1) #[] x.2) (fun _ => rfl)
def k128 : Kd F128 := Kd.iso (Kd.pair kfn k27) (fun x : F128 => ((x.fn, x.lb), x.tg))
theorem forms1_calls (I : Nat) (i : Int) (W : World) (hI : W.heap[I]? = some (.cells #[.int .i64 i] 3 (0, 0))) (x : Int) :
  Calls Tryz.prog 165 #[.int .i64 x, .pointer (some ⟨I, 0, none⟩)] W fun e w' => e = .returned (.int .i64 (if x = i then 1000 else 0)) ∧ ∃ q, w' = W.drewN q := by
 have h0 : W.cell? ⟨I, 0, none⟩ = some (.int .i64 i) := (blk_cell hI 0).trans rfl
 go_enter Tryz.func165, Tryz.ntmps165
 by_cases he : x = i
 ·have heb : (x == i) = true := beq_iff_eq.mpr he
  go_wp2
  go_ret
  exact ⟨by simp [he], 0, rfl⟩
 ·have heb : (x == i) = false := beq_eq_false_iff_ne.mpr he
  go_wp2
  go_ret
  exact ⟨by simp [he], 0, rfl⟩
theorem forms2_calls (P n : Nat) (s : ByteArray) (A1 : Option Addr) (c1 : Nat) (xs : List Int) (lo hi : Int) (W : World) (hP : W.heap[P]? = some (.cells #[.string s, .slice A1 xs.length c1, .int .i64 lo, .int .i64 hi] 89 (0, 0)))
  (hr : Kd.C (Kd.int .i64) W A1 xs.length xs) (x : Int) (hx0 : 0 ≤ x) (hx1 : x < xs.length) :
  Calls Tryz.prog 166 #[.int .i64 x, .pointer (some ⟨P, 0, none⟩)] W fun e w' => e = .returned (.int .i64 (rd xs x)) ∧ ∃ q, w' = W.drewN q := by
 obtain ⟨ae, rfl, hqx⟩ := Kd.at_int hr x hx0 hx1
 have h1 : W.cell? ⟨P, 0 + 1, none⟩ = some (.slice (some ae) xs.length c1) := (blk_cell hP 1).trans rfl
 go_enter Tryz.func166, Tryz.ntmps166
 go_wp2
 go_ret
 exact ⟨rfl, 0, rfl⟩
def FormAt (w W : World) (l2 : List S27) (l3 : List S89) (j : Nat) (f : F128) : Prop :=
 (j < l2.length → ∃ I, f = ⟨165, #[.pointer (some ⟨I, 0, none⟩)], rd_T27 l2 j⟩ ∧ W.heap[I]? = some (.cells #[.int .i64 j] 3 (0, 0))) ∧
 (l2.length ≤ j → ∃ P A1 c1, f = ⟨166, #[.pointer (some ⟨P, 0, none⟩)], (rd_T89 l3 ((j - l2.length : Nat) : Int)).f2⟩ ∧
  W.heap[P]? = some (.cells #[.string (rd_T89 l3 ((j - l2.length : Nat) : Int)).f0, .slice A1 (rd_T89 l3 ((j - l2.length : Nat) : Int)).f1.length c1, .int .i64 (rd_T89 l3 ((j - l2.length : Nat) : Int)).f2.f0, .int .i64 (rd_T89 l3 ((j - l2.length : Nat) : Int)).f2.f1] 89 (0, 0)) ∧
  Kd.C (Kd.int .i64) w A1 (rd_T89 l3 ((j - l2.length : Nat) : Int)).f1.length (rd_T89 l3 ((j - l2.length : Nat) : Int)).f1)
theorem FormAt.below {w W W' : World} {l2 : List S27} {l3 : List S89} {j : Nat} {f : F128} (h : FormAt w W l2 l3 j f) (hb : Below W.heap.size W W') : FormAt w W' l2 l3 j f := by
 refine ⟨fun hj => ?_, fun hj => ?_⟩
 ·obtain ⟨I, e, hI⟩ := h.1 hj
  exact ⟨I, e, blk_below hI hb⟩
 ·obtain ⟨P, A1, c1, e, hP, hC⟩ := h.2 hj
  exact ⟨P, A1, c1, e, blk_below hP hb, hC⟩
theorem FormAt.other {w W W' : World} {l2 : List S27} {l3 : List S89} {j : Nat} {f : F128} {H : Nat} {v : Value} (h : FormAt w W l2 l3 j f) (hH : W.heap[H]? = some (.cells #[v] 124 (0, 0)))
  (ho : ∀ g cs t, W.heap[g]? = some (.cells cs t (0, 0)) → t ≠ 128 → g ≠ H → W'.heap[g]? = some (.cells cs t (0, 0))) : FormAt w W' l2 l3 j f := by
 refine ⟨fun hj => ?_, fun hj => ?_⟩
 ·obtain ⟨I, e, hI⟩ := h.1 hj
  exact ⟨I, e, ho _ _ _ hI (by decide) (by rintro rfl; rw [hH] at hI; simp at hI)⟩
 ·obtain ⟨P, A1, c1, e, hP, hC⟩ := h.2 hj
  exact ⟨P, A1, c1, e, ho _ _ _ hP (by decide) (by rintro rfl; rw [hH] at hP; simp at hP), hC⟩
def coefOf (l2 : List S27) (l3 : List S89) (j : Nat) : Int → Int := if j < l2.length then (fun k => if k = j then 1000 else 0) else rd (rd_T89 l3 ((j - l2.length : Nat) : Int)).f1
theorem FormAt.coef {w W : World} {l2 : List S27} {l3 : List S89} {j : Nat} {f : F128} (h : FormAt w W l2 l3 j f) (hb : Below w.heap.size w W) (N : Int) (hN : l2.length ≤ j → N ≤ (rd_T89 l3 ((j - l2.length : Nat) : Int)).f1.length) :
  CoefQ f.fn f.lb (coefOf l2 l3 j) N W := by
 intro W' hb' x hx0 hx1
 unfold coefOf
 by_cases hj : j < l2.length
 ·obtain ⟨I, rfl, hI⟩ := h.1 hj
  rw [if_pos hj]
  exact forms1_calls I j W' (blk_below hI hb') x
 ·obtain ⟨P, A1, c1, rfl, hP, hC⟩ := h.2 (by omega)
  rw [if_neg hj]
  exact forms2_calls P 0 _ A1 c1 _ _ _ W' (blk_below hP hb') (Kd.C_below (Kd.C_below hC hb) hb') x hx0 (by have := hN (by omega); omega)
structure FormsW (wp w W : World) (cs : Array Value) (l2 : List S27) (l3 : List S89) (k : Nat) : Prop where
 below : Below w.heap.size w W
 batch : W.heap[w.heap.size]? = some (.cells cs 29 (0, 0))
 list : ∃ A c, ∃ xs : List F128, W.heap[w.heap.size + 1]? = some (.cells #[.slice A xs.length c] 124 (0, 0)) ∧ Kd.R k128 128 W w.heap.size (fun _ => True) (.slice A xs.length c) xs ∧ xs.length = k ∧ ∀ j (hj : j < xs.length), FormAt wp W l2 l3 j xs[j]
theorem FormsW.step {wp w wr W2 w3 : World} {cs : Array Value} {l2 : List S27} {l3 : List S89} {k : Nat} {A : Option Addr} {c : Nat} {xs : List F128} {x : F128} (h : FormsW wp w wr cs l2 l3 k)
  (hO : wr.heap[w.heap.size + 1]? = some (.cells #[.slice A xs.length c] 124 (0, 0))) (hxl : xs.length = k) (hF : ∀ j (hj : j < xs.length), FormAt wp wr l2 l3 j xs[j]) (hb2 : Below wr.heap.size wr W2)
  (hb3 : Below w.heap.size w w3) {v1 : Value} (hv1 : w3.heap[w.heap.size + 1]? = some (.cells #[v1] 124 (0, 0))) (hr1 : Kd.R k128 128 w3 w.heap.size (fun _ => True) v1 (xs ++ [x]))
  (hoth : ∀ g cs t, W2.heap[g]? = some (.cells cs t (0, 0)) → t ≠ 128 → g ≠ w.heap.size + 1 → w3.heap[g]? = some (.cells cs t (0, 0))) (hx : FormAt wp W2 l2 l3 k x) : FormsW wp w w3 cs l2 l3 (k + 1) := by
 obtain ⟨A1, c1, rfl⟩ := Kd.R_slice hr1
 have hO2 := blk_below hO hb2
 refine ⟨hb3, hoth _ _ _ (blk_below h.batch hb2) (by decide) (by omega), A1, c1, xs ++ [x], hv1, hr1, by simp [hxl], fun j hj => ?_⟩
 by_cases hjx : j < xs.length
 ·rw [List.getElem_append_left hjx]
  exact ((hF j hjx).below hb2).other hO2 hoth
 ·have hjk : j = k := by simp at hj; omega
  subst hjk
  rw [List.getElem_append_right (by omega)]
  simp only [hxl, Nat.sub_self, List.getElem_cons_zero]
  exact hx.other hO2 hoth
end
section
end
section
def rf_weighed.f (k : Nat) (l0_0 : List ByteArray) (l0_1 : List (S70)) (l0_2 : List (S27)) (l0_3 : List (S89)) (a0_4 : Int) (a0_5 : Int) (a0_6 : Int) (l1 : List Int) : Option ((List (S27)) × Int) := (rf_Brings.f k l0_0 l0_1 l0_2 l0_3 a0_4 a0_5 a0_6 l1).bind fun t390 => ((rf_sums.f k t390).bind fun bt393 => (if bt393.1 = 0 then (some (([] : List (S27)), 8)) else (some (t390, 0))))
theorem rf_weighed.calls (k : Nat) (A0_0 : Option Addr) (c0_0 : Nat) (l0_0 : List ByteArray) (A0_1 : Option Addr) (c0_1 : Nat) (l0_1 : List (S70)) (A0_2 : Option Addr) (c0_2 : Nat) (l0_2 : List (S27)) (A0_3 : Option Addr) (c0_3 : Nat) (l0_3 : List (S89)) (a0_4 : Int) (a0_5 : Int) (a0_6 : Int) (A1 : Option Addr) (c1 : Nat) (l1 : List Int) (r1 : List (S27)) (r2 : Int) (w : World) (hr0_0 : Kd.C Kd.string w A0_0 l0_0.length l0_0) (hc0_0 : l0_0.length ≤ c0_0) (hr0_1 : Kd.C k70 w A0_1 l0_1.length l0_1) (hc0_1 : l0_1.length ≤ c0_1) (hr0_2 : Kd.C k27 w A0_2 l0_2.length l0_2) (hc0_2 : l0_2.length ≤ c0_2) (hr0_3 : Kd.C k89 w A0_3 l0_3.length l0_3) (hc0_3 : l0_3.length ≤ c0_3) (hr1 : Kd.C (Kd.int .i64) w A1 l1.length l1) (hc1 : l1.length ≤ c1) (h : rf_weighed.f k l0_0 l0_1 l0_2 l0_3 a0_4 a0_5 a0_6 l1 = some (r1, r2)) :
  Calls Tryz.prog 157 #[.agg #[.slice A0_0 l0_0.length c0_0, .slice A0_1 l0_1.length c0_1, .slice A0_2 l0_2.length c0_2, .slice A0_3 l0_3.length c0_3, .int .i64 a0_4, .int .i64 a0_5, .int .i64 a0_6], .slice A1 l1.length c1] w fun e w' => ∃ v0_ : Value, e = .returned (.tuple #[v0_, .int .i64 r2]) ∧ Kd.R k27 27 w' w.heap.size (fun _ => True) v0_ r1 ∧ Below w.heap.size w w' := by
 have hu29 := Tryz.underlying29; have HR0_0 := Sd.mk hr0_0; have HC0_0 := Sd.mk hc0_0; clear hr0_0 hc0_0; have HR0_1 := Sd.mk hr0_1; have HC0_1 := Sd.mk hc0_1; clear hr0_1 hc0_1; have HR0_2 := Sd.mk hr0_2; have HC0_2 := Sd.mk hc0_2; clear hr0_2 hc0_2; have HR0_3 := Sd.mk hr0_3; have HC0_3 := Sd.mk hc0_3; clear hr0_3 hc0_3; have HR1 := Sd.mk hr1; have HC1 := Sd.mk hc1; clear hr1 hc1; have HB := Sd.mk (Below.refl w.heap.size w)
 have H : ((rf_Brings.f k l0_0 l0_1 l0_2 l0_3 a0_4 a0_5 a0_6 l1).bind fun t390 => ((rf_sums.f k t390).bind fun bt393 => (if bt393.1 = 0 then (some (([] : List (S27)), 8)) else (some (t390, 0))))) = some (r1, r2) := h
 clear h; replace H := Option.bind_eq_some_iff.mp H; obtain ⟨t390, A30, H⟩ := H
 try dsimp only at H
 have A3 := Sd.mk A30; clear A30; replace H := Option.bind_eq_some_iff.mp H
 obtain ⟨⟨t393, t394⟩, A40, H⟩ := H
 try dsimp only at H
 have A4 := Sd.mk A40; clear A40
 by_cases c5 : t393 = 0
 ·rw [if_pos c5] at H
  have c5b0 : (t393 == 0) = true := beq_iff_eq.mpr c5
  have c5b1 : (t393 != 0) = false := bne_eq_false_iff_eq.mpr c5
  clear c5
  simp only [Option.some.injEq, Prod.mk.injEq] at H
  obtain ⟨rfl, rfl⟩ := H
  go_enter Tryz.func157, Tryz.ntmps157
  go_wp2_with (first | ((with_reducible refine gate_dst (N := 2) rfl ?_); refine box_event ?hg (N := 2) ?hd (cs := #[.slice A0_0 l0_0.length c0_0, .slice A0_1 l0_1.length c0_1, .slice A0_2 l0_2.length c0_2, .slice A0_3 l0_3.length c0_3, .int .i64 a0_4, .int .i64 a0_5, .int .i64 a0_6]) (t := 29) ?hr ?_; (case hd => rfl); (case hg => rfl); (case hr => exact tG); intro gb389 hg w6 hbox hb; have BK389 := Sd.mk (hbox); have GW389 := Sd.mk (bSz hg (bBl HB.out)); have GE389 := Sd.mk (bSz hg (bBl HB.out)); replace HB := Sd.mk (below_step (bBl HB.out) hb); clear hb hbox hg; obtain ⟨u7_0, u7_1, u7_2, u7_3, u7_4, u7_5, u7_6, o7_0, o7_1, o7_2, o7_3, o7_4, o7_5, o7_6⟩ := bc7 (w := w6) BK389.out) | ((with_reducible refine gate_callee (f := 199) rfl ?_); refine goesL_ (some 11) rfl rfl Tryz.func199 (by kernel_rfl) rfl #[.agg #[.slice A0_0 l0_0.length c0_0, .slice A0_1 l0_1.length c0_1, .slice A0_2 l0_2.length c0_2, .slice A0_3 l0_3.length c0_3, .int .i64 a0_4, .int .i64 a0_5, .int .i64 a0_6], .slice A1 l1.length c1] rfl tM ?_; (with_reducible refine (rf_Brings.calls k _ _ l0_0 _ _ l0_1 _ _ l0_2 _ _ l0_3 a0_4 a0_5 a0_6 _ _ l1 t390 _ (cS (Kd.C_below HR0_0.out HB.out)) HC0_0.out (cS (Kd.C_below HR0_1.out HB.out)) HC0_1.out (cS (Kd.C_below HR0_2.out HB.out)) HC0_2.out (cS (Kd.C_below HR0_3.out HB.out)) HC0_3.out (cS (Kd.C_below HR1.out HB.out)) HC1.out A3.out).mono ?_); rintro e w8 ⟨v391, rfl, ho0, hb⟩; refine ⟨_, rfl, ?_⟩; have HO392 := Sd.mk (Kd.R_lower ho0 (below_size (bBl HB.out))); replace BK389 := Sd.mk (blk_below (bkA BK389.out) hb); replace HB := Sd.mk (below_step (bBl HB.out) hb); (try clear hb); (try clear hb2); (try clear hk); (try clear hi); (try clear ho0); obtain ⟨Ao9, co9, eo9⟩ := Kd.R_slice HO392.out; subst eo9) | ((with_reducible refine gate_callee (f := 150) rfl ?_); refine goesL_ (some 14) rfl rfl Tryz.func150 (by kernel_rfl) rfl #[.slice Ao9 t390.length co9] rfl tM ?_; (with_reducible refine (rf_sums.calls k _ _ t390 t393 t394 _ (cS ((Kd.R_reads' HO392.out).2.2)) ((Kd.R_reads' HO392.out).2.1) A4.out).mono ?_); rintro e w' ⟨rfl, ⟨nd, rfl⟩⟩; refine ⟨_, rfl, ?_⟩))
  go_ret2
  exact ⟨_, tE, by first | exact Kd.R_nil _ _ _ _ _ | exact Kd.N_nil _ _ _ _ _ | exact Kd.V_nil _ _ _ _ _ | exact Kd.Q_nil _ _ _ _ _ | exact Kd.S_nil _ _ _ _ _, bBl HB.out⟩
 ·rw [if_neg c5] at H
  have c5b0 : (t393 == 0) = false := beq_eq_false_iff_ne.mpr c5
  have c5b1 : (t393 != 0) = true := bne_iff_ne.mpr c5
  simp only [Option.some.injEq, Prod.mk.injEq] at H
  obtain ⟨rfl, rfl⟩ := H
  go_enter Tryz.func157, Tryz.ntmps157
  go_wp2_with (first | ((with_reducible refine gate_dst (N := 2) rfl ?_); refine box_event ?hg (N := 2) ?hd (cs := #[.slice A0_0 l0_0.length c0_0, .slice A0_1 l0_1.length c0_1, .slice A0_2 l0_2.length c0_2, .slice A0_3 l0_3.length c0_3, .int .i64 a0_4, .int .i64 a0_5, .int .i64 a0_6]) (t := 29) ?hr ?_; (case hd => rfl); (case hg => rfl); (case hr => exact tG); intro gb389 hg w10 hbox hb; have BK389 := Sd.mk (hbox); have GW389 := Sd.mk (bSz hg (bBl HB.out)); have GE389 := Sd.mk (bSz hg (bBl HB.out)); replace HB := Sd.mk (below_step (bBl HB.out) hb); clear hb hbox hg; obtain ⟨u11_0, u11_1, u11_2, u11_3, u11_4, u11_5, u11_6, o11_0, o11_1, o11_2, o11_3, o11_4, o11_5, o11_6⟩ := bc7 (w := w10) BK389.out) | ((with_reducible refine gate_callee (f := 199) rfl ?_); refine goesL_ (some 11) rfl rfl Tryz.func199 (by kernel_rfl) rfl #[.agg #[.slice A0_0 l0_0.length c0_0, .slice A0_1 l0_1.length c0_1, .slice A0_2 l0_2.length c0_2, .slice A0_3 l0_3.length c0_3, .int .i64 a0_4, .int .i64 a0_5, .int .i64 a0_6], .slice A1 l1.length c1] rfl tM ?_; (with_reducible refine (rf_Brings.calls k _ _ l0_0 _ _ l0_1 _ _ l0_2 _ _ l0_3 a0_4 a0_5 a0_6 _ _ l1 t390 _ (cS (Kd.C_below HR0_0.out HB.out)) HC0_0.out (cS (Kd.C_below HR0_1.out HB.out)) HC0_1.out (cS (Kd.C_below HR0_2.out HB.out)) HC0_2.out (cS (Kd.C_below HR0_3.out HB.out)) HC0_3.out (cS (Kd.C_below HR1.out HB.out)) HC1.out A3.out).mono ?_); rintro e w12 ⟨v391, rfl, ho0, hb⟩; refine ⟨_, rfl, ?_⟩; have HO392 := Sd.mk (Kd.R_lower ho0 (below_size (bBl HB.out))); replace BK389 := Sd.mk (blk_below (bkA BK389.out) hb); replace HB := Sd.mk (below_step (bBl HB.out) hb); (try clear hb); (try clear hb2); (try clear hk); (try clear hi); (try clear ho0); obtain ⟨Ao13, co13, eo13⟩ := Kd.R_slice HO392.out; subst eo13) | ((with_reducible refine gate_callee (f := 150) rfl ?_); refine goesL_ (some 14) rfl rfl Tryz.func150 (by kernel_rfl) rfl #[.slice Ao13 t390.length co13] rfl tM ?_; (with_reducible refine (rf_sums.calls k _ _ t390 t393 t394 _ (cS ((Kd.R_reads' HO392.out).2.2)) ((Kd.R_reads' HO392.out).2.1) A4.out).mono ?_); rintro e w' ⟨rfl, ⟨nd, rfl⟩⟩; refine ⟨_, rfl, ?_⟩))
  go_ret2
  exact ⟨_, tE, by (with_reducible repeat (first | apply Kd.R_alloc | apply Kd.R_drewN | apply Kd.R_drew)); exact HO392.out, bBl HB.out⟩
end
section
def rf_Value.j0 : Nat → List Int → Int → Bool → List ByteArray → List (S70) → List (S27) → List (S89) → Int → Int → Int → Option (Int × Int × Int)
 | 0, _, _, _, _, _, _, _, _, _, _ => none
 | k + 1, x1, x2, x26, x400q0, x400q1, x400q2, x400q3, x400q4, x400q5, x400q6 => if x26 = true then (some (0, 0, 7)) else ((rf_weighed.f k x400q0 x400q1 x400q2 x400q3 x400q4 x400q5 x400q6 x1).bind fun bt402 => (if bt402.2 = 0 then (if 0 ≤ x2 then (if x2 < (x400q3.length : Int) then ((rf_bounds.f k ((rd_T89 x400q3 x2).f1) bt402.1).bind fun bt407 => (some (bt407.1, bt407.2, 0))) else (none)) else (none)) else (some (0, 0, bt402.2))))
def rf_Value.f (k : Nat) (l0_0 : List ByteArray) (l0_1 : List (S70)) (l0_2 : List (S27)) (l0_3 : List (S89)) (a0_4 : Int) (a0_5 : Int) (a0_6 : Int) (l1 : List Int) (a2 : Int) : Option (Int × Int × Int) := (rf_asked.f k l0_0 l0_1 l0_2 l0_3 a0_4 a0_5 a0_6 l1).bind fun t401 => (if t401 = 0 then (if a2 < 0 then (rf_Value.j0 k l1 a2 true l0_0 l0_1 l0_2 l0_3 a0_4 a0_5 a0_6) else (rf_Value.j0 k l1 a2 (decide (a2 ≥ (l0_3.length : Int))) l0_0 l0_1 l0_2 l0_3 a0_4 a0_5 a0_6)) else (some (0, 0, t401)))
theorem rf_Value.calls (k : Nat) (A0_0 : Option Addr) (c0_0 : Nat) (l0_0 : List ByteArray) (A0_1 : Option Addr) (c0_1 : Nat) (l0_1 : List (S70)) (A0_2 : Option Addr) (c0_2 : Nat) (l0_2 : List (S27)) (A0_3 : Option Addr) (c0_3 : Nat) (l0_3 : List (S89)) (a0_4 : Int) (a0_5 : Int) (a0_6 : Int) (A1 : Option Addr) (c1 : Nat) (l1 : List Int) (a2 : Int) (r1 : Int) (r2 : Int) (r3 : Int) (w : World) (hr0_0 : Kd.C Kd.string w A0_0 l0_0.length l0_0) (hc0_0 : l0_0.length ≤ c0_0) (hr0_1 : Kd.C k70 w A0_1 l0_1.length l0_1) (hc0_1 : l0_1.length ≤ c0_1) (hr0_2 : Kd.C k27 w A0_2 l0_2.length l0_2) (hc0_2 : l0_2.length ≤ c0_2) (hr0_3 : Kd.C k89 w A0_3 l0_3.length l0_3) (hc0_3 : l0_3.length ≤ c0_3) (hr1 : Kd.C (Kd.int .i64) w A1 l1.length l1) (hc1 : l1.length ≤ c1) (h : rf_Value.f k l0_0 l0_1 l0_2 l0_3 a0_4 a0_5 a0_6 l1 a2 = some (r1, r2, r3)) :
  Calls Tryz.prog 69 #[.agg #[.slice A0_0 l0_0.length c0_0, .slice A0_1 l0_1.length c0_1, .slice A0_2 l0_2.length c0_2, .slice A0_3 l0_3.length c0_3, .int .i64 a0_4, .int .i64 a0_5, .int .i64 a0_6], .slice A1 l1.length c1, .int .i64 a2] w fun e w' => e = .returned (.tuple #[.agg #[.int .i64 r1, .int .i64 r2], .int .i64 r3]) ∧ Below w.heap.size w w' := by
 have hu29 := Tryz.underlying29; have hu27 := Tryz.underlying27; have HR0_0 := Sd.mk hr0_0; have HC0_0 := Sd.mk hc0_0; clear hr0_0 hc0_0; have HR0_1 := Sd.mk hr0_1; have HC0_1 := Sd.mk hc0_1; clear hr0_1 hc0_1; have HR0_2 := Sd.mk hr0_2; have HC0_2 := Sd.mk hc0_2; clear hr0_2 hc0_2; have HR0_3 := Sd.mk hr0_3; have HC0_3 := Sd.mk hc0_3; clear hr0_3 hc0_3; have HR1 := Sd.mk hr1; have HC1 := Sd.mk hc1; clear hr1 hc1; have HB := Sd.mk (Below.refl w.heap.size w)
 have H : ((rf_asked.f k l0_0 l0_1 l0_2 l0_3 a0_4 a0_5 a0_6 l1).bind fun t401 => (if t401 = 0 then (if a2 < 0 then (rf_Value.j0 k l1 a2 true l0_0 l0_1 l0_2 l0_3 a0_4 a0_5 a0_6) else (rf_Value.j0 k l1 a2 (decide (a2 ≥ (l0_3.length : Int))) l0_0 l0_1 l0_2 l0_3 a0_4 a0_5 a0_6)) else (some (0, 0, t401)))) = some (r1, r2, r3) := h
 clear h; replace H := Option.bind_eq_some_iff.mp H; obtain ⟨t401, A40, H⟩ := H
 try dsimp only at H
 have A4 := Sd.mk A40; clear A40
 by_cases c5 : t401 = 0
 ·rw [if_pos c5] at H
  have c5b0 : (t401 == 0) = true := beq_iff_eq.mpr c5
  have c5b1 : (t401 != 0) = false := bne_eq_false_iff_eq.mpr c5
  clear c5; have HC6 := Sd.mk H; clear H
  go_enter Tryz.func69, Tryz.ntmps69
  go_upto_region 4 with (first | ((with_reducible refine gate_dst (N := 3) rfl ?_); (try (refine gate_guard (by rfl) ?_; dsimp only)); refine box_event ?hg (N := 3) ?hd (cs := #[.slice A0_0 l0_0.length c0_0, .slice A0_1 l0_1.length c0_1, .slice A0_2 l0_2.length c0_2, .slice A0_3 l0_3.length c0_3, .int .i64 a0_4, .int .i64 a0_5, .int .i64 a0_6]) (t := 29) ?hr ?_; (case hd => rfl); (case hg => rfl); (case hr => exact tG); intro gb399 hg w7 hbox hb; have BK399 := Sd.mk (hbox); have GW399 := Sd.mk (bSz hg (bBl HB.out)); have GE399 := Sd.mk (bSz hg (bBl HB.out)); replace HB := Sd.mk (below_step (bBl HB.out) hb); clear hb hbox hg) | ((with_reducible refine gate_dst (N := 6) rfl ?_); (try (refine gate_guard (by rfl) ?_; dsimp only)); refine box_event ?hg (N := 6) ?hd (cs := #[.int .i64 0, .int .i64 0]) (t := 27) ?hr ?_; (case hd => rfl); (case hg => rfl); (case hr => exact tG); intro gb400 hg w8 hbox hb; have BK400 := Sd.mk (hbox); have GW400 := Sd.mk (bSz hg (bBl HB.out)); have GE400 := Sd.mk (bSz hg (bBl HB.out)); replace HB := Sd.mk (below_step (bBl HB.out) hb); have NB399_400 := Sd.mk (bNl hg (bkA BK399.out)); have NB400_399 := Sd.mk (bNg hg (bkA BK399.out)); replace BK399 := Sd.mk (blk_below (bkA BK399.out) hb); clear hb hbox hg; have hnb9 := NB399_400.out; have hnc9 := NB400_399.out; obtain ⟨u10_0, u10_1, u10_2, u10_3, u10_4, u10_5, u10_6, o10_0, o10_1, o10_2, o10_3, o10_4, o10_5, o10_6⟩ := bc7 (w := w8) BK399.out) | ((with_reducible refine gate_callee (f := 53) rfl ?_); refine goesL_ (some 13) rfl rfl Tryz.func53 (by kernel_rfl) rfl #[.agg #[.slice A0_0 l0_0.length c0_0, .slice A0_1 l0_1.length c0_1, .slice A0_2 l0_2.length c0_2, .slice A0_3 l0_3.length c0_3, .int .i64 a0_4, .int .i64 a0_5, .int .i64 a0_6], .slice A1 l1.length c1] rfl tM ?_; (with_reducible refine (rf_asked.calls k _ _ l0_0 _ _ l0_1 _ _ l0_2 _ _ l0_3 a0_4 a0_5 a0_6 _ _ l1 t401 _ (cS (Kd.C_below HR0_0.out HB.out)) HC0_0.out (cS (Kd.C_below HR0_1.out HB.out)) HC0_1.out (cS (Kd.C_below HR0_2.out HB.out)) HC0_2.out (cS (Kd.C_below HR0_3.out HB.out)) HC0_3.out (cS (Kd.C_below HR1.out HB.out)) HC1.out A4.out).mono ?_); rintro e w11 ⟨rfl, hb⟩; refine ⟨_, rfl, ?_⟩; replace BK399 := Sd.mk (blk_below (bkA BK399.out) hb); replace BK400 := Sd.mk (blk_below (bkA BK400.out) hb); replace HB := Sd.mk (below_step (bBl HB.out) hb); (try clear hb); (try clear hb2); (try clear hk); (try clear hi)))
  (try simp only [Act.put, List.setIfInBounds_toArray, List.set_cons_zero, List.set_cons_succ])
  go_cut [26] (fun v26 wc => ∃ (kq : Nat) (x26_5 : Bool), v26 = .bool x26_5 ∧ Sd (rf_Value.j0 kq l1 a2 x26_5 l0_0 l0_1 l0_2 l0_3 a0_4 a0_5 a0_6 = some (r1, r2, r3)) ∧ Sd (kq ≤ k) ∧ Sd (wc.heap[gb399]? = some (.cells #[(.slice A0_0 l0_0.length c0_0), (.slice A0_1 l0_1.length c0_1), (.slice A0_2 l0_2.length c0_2), (.slice A0_3 l0_3.length c0_3), .int .i64 a0_4, .int .i64 a0_5, .int .i64 a0_6] 29 (0, 0))) ∧ Sd (wc.heap[gb400]? = some (.cells #[.int .i64 0, .int .i64 0] 27 (0, 0))) ∧ Sd (Below w.heap.size w wc))
  case first =>
   have H := HC6.out; clear HC6
   by_cases c12 : a2 < 0
   ·rw [if_pos c12] at H
    have c12b0 : decide (a2 < 0) = true := decide_eq_true c12
    clear c12
    (first | rw [c12b0] | (simp only [i64_w, i32_w]; rw [c12b0]) | skip)
    have H' := Sd.mk H; clear H
    go_wp2
    go_meet
    case rel => exact ⟨_, (true), tS, H', ⟨by first | omega | exact Nat.le_refl _⟩, ⟨bkA BK399.out⟩, ⟨bkA BK400.out⟩, ⟨bBl HB.out⟩⟩
   ·rw [if_neg c12] at H
    have c12b0 : decide (a2 < 0) = false := decide_eq_false c12
    clear c12
    (first | rw [c12b0] | (simp only [i64_w, i32_w]; rw [c12b0]) | skip)
    have H' := Sd.mk H; clear H; have hnb13 := NB399_400.out; have hnc13 := NB400_399.out; obtain ⟨u14_0, u14_1, u14_2, u14_3, u14_4, u14_5, u14_6, o14_0, o14_1, o14_2, o14_3, o14_4, o14_5, o14_6⟩ := bc7 (w := w11) BK399.out
    go_wp2
    go_meet
    case rel => exact ⟨_, (decide (a2 ≥ (l0_3.length : Int))), tS, H', ⟨by first | omega | exact Nat.le_refl _⟩, ⟨bkA BK399.out⟩, ⟨bkA BK400.out⟩, ⟨bBl HB.out⟩⟩
  case rest =>
   clear HC6; (try clear c1); (try clear p2); (try clear c5); (try clear c5b0); (try clear c5b1); (try clear c6); (try clear c9); (try clear c12); (try clear c12b0); (try clear c13); (try clear u10_0 u10_1 u10_2 u10_3 u10_4 u10_5 u10_6); (try clear u14_0 u14_1 u14_2 u14_3 u14_4 u14_5 u14_6); (try clear o10_0 o10_1 o10_2 o10_3 o10_4 o10_5 o10_6); (try clear o14_0 o14_1 o14_2 o14_3 o14_4 o14_5 o14_6); obtain ⟨kq, x26_5, rfl, HA, HJ5, BK399, BK400, HB⟩ := hcut
   cases kq with
   | zero => exact absurd HA.out (by simp [rf_Value.j0])
   | succ kj5 =>
    have H := HA.out; clear HA
    simp only [rf_Value.j0] at H
    by_cases c15 : x26_5 = true
    ·subst c15
     have H1 : (some (0, 0, 7)) = some (r1, r2, r3) := by rw [if_pos rfl] at H; exact H
     clear H; have H := H1; clear H1
     simp only [Option.some.injEq, Prod.mk.injEq] at H
     obtain ⟨rfl, rfl, rfl⟩ := H; have hnb16 := NB400_399.out; have hnc16 := NB399_400.out; obtain ⟨u17_0, u17_1, o17_0, o17_1⟩ := bc2 (w := wc) BK400.out
     go_wp2
     refine bodyPost_ret (results_ct rfl _ _ gb400 27 #[.int .i64 0, .int .i64 0] (0, 0) _ rfl (by refine bkZ ?_; refine blk_put (cs := #[.int .i64 0, .int .i64 0]) ?_ 1 _ rfl; refine bkZ ?_; refine blk_put (cs := #[.int .i64 0, .int .i64 0]) ?_ 0 _ rfl; refine bkZ ?_; exact BK400.out) Tryz.underlying27 rfl (by kernel_rfl)) rfl ?_
     exact ⟨tE, bBl HB.out⟩
    ·replace c15 := Bool.eq_false_iff.mpr c15
     subst c15
     have H1 : ((rf_weighed.f kj5 l0_0 l0_1 l0_2 l0_3 a0_4 a0_5 a0_6 l1).bind fun bt402 => (if bt402.2 = 0 then (if 0 ≤ a2 then (if a2 < (l0_3.length : Int) then ((rf_bounds.f kj5 ((rd_T89 l0_3 a2).f1) bt402.1).bind fun bt407 => (some (bt407.1, bt407.2, 0))) else (none)) else (none)) else (some (0, 0, bt402.2)))) = some (r1, r2, r3) := by rw [if_neg (show ¬ (false = true) by decide)] at H; exact H
     clear H; have H := H1; clear H1; replace H := Option.bind_eq_some_iff.mp H
     obtain ⟨⟨t402, t405⟩, A180, H⟩ := H
     try dsimp only at H
     have A18 := Sd.mk A180; clear A180
     by_cases c19 : t405 = 0
     ·rw [if_pos c19] at H
      have c19b0 : (t405 == 0) = true := beq_iff_eq.mpr c19
      have c19b1 : (t405 != 0) = false := bne_eq_false_iff_eq.mpr c19
      clear c19
      by_cases c20 : 0 ≤ a2
      ·rw [if_pos c20] at H
       have c20b0 : decide (0 ≤ a2) = true := decide_eq_true c20
       clear c20
       by_cases c21 : a2 < (l0_3.length : Int)
       ·rw [if_pos c21] at H
        have c21b0 : decide (a2 < (l0_3.length : Int)) = true := decide_eq_true c21
        clear c21; replace H := Option.bind_eq_some_iff.mp H
        obtain ⟨⟨t407, t408⟩, A220, H⟩ := H
        try dsimp only at H
        have A22 := Sd.mk A220; clear A220
        simp only [Option.some.injEq, Prod.mk.injEq] at H
        obtain ⟨rfl, rfl, rfl⟩ := H; have hnb23 := NB399_400.out; have hnc23 := NB400_399.out; obtain ⟨u24_0, u24_1, u24_2, u24_3, u24_4, u24_5, u24_6, o24_0, o24_1, o24_2, o24_3, o24_4, o24_5, o24_6⟩ := bc7 (w := wc) BK399.out
        go_wp2_with (first | ((with_reducible refine gate_callee (f := 157) rfl ?_); refine goesL_ (some 31) rfl rfl Tryz.func157 (by kernel_rfl) rfl #[.agg #[.slice A0_0 l0_0.length c0_0, .slice A0_1 l0_1.length c0_1, .slice A0_2 l0_2.length c0_2, .slice A0_3 l0_3.length c0_3, .int .i64 a0_4, .int .i64 a0_5, .int .i64 a0_6], .slice A1 l1.length c1] rfl tM ?_; (with_reducible refine (rf_weighed.calls kj5 _ _ l0_0 _ _ l0_1 _ _ l0_2 _ _ l0_3 a0_4 a0_5 a0_6 _ _ l1 t402 t405 _ (cS (Kd.C_below HR0_0.out HB.out)) HC0_0.out (cS (Kd.C_below HR0_1.out HB.out)) HC0_1.out (cS (Kd.C_below HR0_2.out HB.out)) HC0_2.out (cS (Kd.C_below HR0_3.out HB.out)) HC0_3.out (cS (Kd.C_below HR1.out HB.out)) HC1.out A18.out).mono ?_); rintro e w25 ⟨v403, rfl, ho0, hb⟩; refine ⟨_, rfl, ?_⟩; have HO404 := Sd.mk (Kd.R_lower (Kd.R_newB ho0 (bkA BK400.out)) (below_size (bBl HB.out))); replace BK399 := Sd.mk (blk_below (bkA BK399.out) hb); replace BK400 := Sd.mk (blk_below (bkA BK400.out) hb); replace HB := Sd.mk (below_step (bBl HB.out) hb); (try clear hb); (try clear hb2); (try clear hk); (try clear hi); (try clear ho0); obtain ⟨u26_0, u26_1, u26_2, u26_3, u26_4, u26_5, u26_6, o26_0, o26_1, o26_2, o26_3, o26_4, o26_5, o26_6⟩ := bc7 (w := w25) BK399.out; have p406 : 0 ≤ (a2 : Int) := tB; have q406 : a2 < (l0_3.length : Int) := tB; obtain ⟨ad406, A406_1, c406_1, e406, hx406_0, hx406_1, hx406_2, hx406_3, hl406_1, hi406_1⟩ := at_T89 HR0_3.out a2 p406 q406; cases e406; replace hx406_0 := cU HB hx406_0; replace hx406_1 := cU HB hx406_1; replace hx406_2 := cU HB hx406_2; replace hx406_3 := cU HB hx406_3; have HR406_1 := Sd.mk hi406_1; have HC406_1 := Sd.mk hl406_1; clear hi406_1 hl406_1; replace p406 := eq_true p406; replace q406 := eq_true q406; obtain ⟨Ao27, co27, eo27⟩ := Kd.R_slice HO404.out; subst eo27) | ((with_reducible refine gate_callee (f := 158) rfl ?_); refine goesL_ (some 45) rfl rfl Tryz.func158 (by kernel_rfl) rfl #[.slice A406_1 ((rd_T89 l0_3 a2).f1).length c406_1, .slice Ao27 t402.length co27] rfl tM ?_; (with_reducible refine (rf_bounds.calls kj5 _ _ ((rd_T89 l0_3 a2).f1) _ _ t402 t407 t408 _ (cS (Kd.C_below HR406_1.out HB.out)) HC406_1.out (cS ((Kd.R_reads' HO404.out).2.2)) ((Kd.R_reads' HO404.out).2.1) A22.out).mono ?_); rintro e w28 ⟨rfl, hb⟩; refine ⟨_, rfl, ?_⟩; replace HO404 := Sd.mk (Kd.R_below (by (with_reducible repeat (first | apply Kd.R_alloc | apply Kd.R_drewN | apply Kd.R_drew)); exact HO404.out) hb); replace BK399 := Sd.mk (blk_below (bkA BK399.out) hb); replace BK400 := Sd.mk (blk_below (bkA BK400.out) hb); replace HB := Sd.mk (below_step (bBl HB.out) hb); (try clear hb); (try clear hb2); (try clear hk); (try clear hi); obtain ⟨u29_0, u29_1, o29_0, o29_1⟩ := bc2 (w := w28) BK400.out))
        refine bodyPost_ret (results_ct rfl _ _ gb400 27 #[.int .i64 t407, .int .i64 t408] (0, 0) _ rfl (by refine bkZ ?_; refine blk_put (cs := #[.int .i64 t407, .int .i64 0]) ?_ 1 _ rfl; refine bkZ ?_; refine blk_put (cs := #[.int .i64 0, .int .i64 0]) ?_ 0 _ rfl; refine bkZ ?_; exact BK400.out) Tryz.underlying27 rfl (by kernel_rfl)) rfl ?_
        exact ⟨tE, bBl HB.out⟩
       ·rw [if_neg c21] at H
        exact absurd H (by simp)
      ·rw [if_neg c20] at H
       exact absurd H (by simp)
     ·rw [if_neg c19] at H
      have c19b0 : (t405 == 0) = false := beq_eq_false_iff_ne.mpr c19
      have c19b1 : (t405 != 0) = true := bne_iff_ne.mpr c19
      simp only [Option.some.injEq, Prod.mk.injEq] at H
      obtain ⟨rfl, rfl, rfl⟩ := H; have hnb30 := NB399_400.out; have hnc30 := NB400_399.out; obtain ⟨u31_0, u31_1, u31_2, u31_3, u31_4, u31_5, u31_6, o31_0, o31_1, o31_2, o31_3, o31_4, o31_5, o31_6⟩ := bc7 (w := wc) BK399.out
      go_wp2_with (first | ((with_reducible refine gate_callee (f := 157) rfl ?_); refine goesL_ (some 31) rfl rfl Tryz.func157 (by kernel_rfl) rfl #[.agg #[.slice A0_0 l0_0.length c0_0, .slice A0_1 l0_1.length c0_1, .slice A0_2 l0_2.length c0_2, .slice A0_3 l0_3.length c0_3, .int .i64 a0_4, .int .i64 a0_5, .int .i64 a0_6], .slice A1 l1.length c1] rfl tM ?_; (with_reducible refine (rf_weighed.calls kj5 _ _ l0_0 _ _ l0_1 _ _ l0_2 _ _ l0_3 a0_4 a0_5 a0_6 _ _ l1 t402 t405 _ (cS (Kd.C_below HR0_0.out HB.out)) HC0_0.out (cS (Kd.C_below HR0_1.out HB.out)) HC0_1.out (cS (Kd.C_below HR0_2.out HB.out)) HC0_2.out (cS (Kd.C_below HR0_3.out HB.out)) HC0_3.out (cS (Kd.C_below HR1.out HB.out)) HC1.out A18.out).mono ?_); rintro e w32 ⟨v403, rfl, ho0, hb⟩; refine ⟨_, rfl, ?_⟩; have HO404 := Sd.mk (Kd.R_lower (Kd.R_newB ho0 (bkA BK400.out)) (below_size (bBl HB.out))); replace BK399 := Sd.mk (blk_below (bkA BK399.out) hb); replace BK400 := Sd.mk (blk_below (bkA BK400.out) hb); replace HB := Sd.mk (below_step (bBl HB.out) hb); (try clear hb); (try clear hb2); (try clear hk); (try clear hi); (try clear ho0); obtain ⟨u33_0, u33_1, o33_0, o33_1⟩ := bc2 (w := w32) BK400.out))
      refine bodyPost_ret (results_ct rfl _ _ gb400 27 #[.int .i64 0, .int .i64 0] (0, 0) _ rfl (by refine bkZ ?_; refine blk_put (cs := #[.int .i64 0, .int .i64 0]) ?_ 1 _ rfl; refine bkZ ?_; refine blk_put (cs := #[.int .i64 0, .int .i64 0]) ?_ 0 _ rfl; refine bkZ ?_; exact BK400.out) Tryz.underlying27 rfl (by kernel_rfl)) rfl ?_
      exact ⟨tE, bBl HB.out⟩
 ·rw [if_neg c5] at H
  have c5b0 : (t401 == 0) = false := beq_eq_false_iff_ne.mpr c5
  have c5b1 : (t401 != 0) = true := bne_iff_ne.mpr c5
  simp only [Option.some.injEq, Prod.mk.injEq] at H
  obtain ⟨rfl, rfl, rfl⟩ := H
  go_enter Tryz.func69, Tryz.ntmps69
  go_wp2_with (first | ((with_reducible refine gate_dst (N := 3) rfl ?_); (try (refine gate_guard (by rfl) ?_; dsimp only)); refine box_event ?hg (N := 3) ?hd (cs := #[.slice A0_0 l0_0.length c0_0, .slice A0_1 l0_1.length c0_1, .slice A0_2 l0_2.length c0_2, .slice A0_3 l0_3.length c0_3, .int .i64 a0_4, .int .i64 a0_5, .int .i64 a0_6]) (t := 29) ?hr ?_; (case hd => rfl); (case hg => rfl); (case hr => exact tG); intro gb399 hg w34 hbox hb; have BK399 := Sd.mk (hbox); have GW399 := Sd.mk (bSz hg (bBl HB.out)); have GE399 := Sd.mk (bSz hg (bBl HB.out)); replace HB := Sd.mk (below_step (bBl HB.out) hb); clear hb hbox hg) | ((with_reducible refine gate_dst (N := 6) rfl ?_); (try (refine gate_guard (by rfl) ?_; dsimp only)); refine box_event ?hg (N := 6) ?hd (cs := #[.int .i64 0, .int .i64 0]) (t := 27) ?hr ?_; (case hd => rfl); (case hg => rfl); (case hr => exact tG); intro gb400 hg w35 hbox hb; have BK400 := Sd.mk (hbox); have GW400 := Sd.mk (bSz hg (bBl HB.out)); have GE400 := Sd.mk (bSz hg (bBl HB.out)); replace HB := Sd.mk (below_step (bBl HB.out) hb); have NB399_400 := Sd.mk (bNl hg (bkA BK399.out)); have NB400_399 := Sd.mk (bNg hg (bkA BK399.out)); replace BK399 := Sd.mk (blk_below (bkA BK399.out) hb); clear hb hbox hg; have hnb36 := NB399_400.out; have hnc36 := NB400_399.out; obtain ⟨u37_0, u37_1, u37_2, u37_3, u37_4, u37_5, u37_6, o37_0, o37_1, o37_2, o37_3, o37_4, o37_5, o37_6⟩ := bc7 (w := w35) BK399.out) | ((with_reducible refine gate_callee (f := 53) rfl ?_); refine goesL_ (some 13) rfl rfl Tryz.func53 (by kernel_rfl) rfl #[.agg #[.slice A0_0 l0_0.length c0_0, .slice A0_1 l0_1.length c0_1, .slice A0_2 l0_2.length c0_2, .slice A0_3 l0_3.length c0_3, .int .i64 a0_4, .int .i64 a0_5, .int .i64 a0_6], .slice A1 l1.length c1] rfl tM ?_; (with_reducible refine (rf_asked.calls k _ _ l0_0 _ _ l0_1 _ _ l0_2 _ _ l0_3 a0_4 a0_5 a0_6 _ _ l1 t401 _ (cS (Kd.C_below HR0_0.out HB.out)) HC0_0.out (cS (Kd.C_below HR0_1.out HB.out)) HC0_1.out (cS (Kd.C_below HR0_2.out HB.out)) HC0_2.out (cS (Kd.C_below HR0_3.out HB.out)) HC0_3.out (cS (Kd.C_below HR1.out HB.out)) HC1.out A4.out).mono ?_); rintro e w38 ⟨rfl, hb⟩; refine ⟨_, rfl, ?_⟩; replace BK399 := Sd.mk (blk_below (bkA BK399.out) hb); replace BK400 := Sd.mk (blk_below (bkA BK400.out) hb); replace HB := Sd.mk (below_step (bBl HB.out) hb); (try clear hb); (try clear hb2); (try clear hk); (try clear hi); obtain ⟨u39_0, u39_1, o39_0, o39_1⟩ := bc2 (w := w38) BK400.out))
  refine bodyPost_ret (results_ct rfl _ _ gb400 27 #[.int .i64 0, .int .i64 0] (0, 0) _ rfl (by refine bkZ ?_; refine blk_put (cs := #[.int .i64 0, .int .i64 0]) ?_ 1 _ rfl; refine bkZ ?_; refine blk_put (cs := #[.int .i64 0, .int .i64 0]) ?_ 0 _ rfl; refine bkZ ?_; exact BK400.out) Tryz.underlying27 rfl (by kernel_rfl)) rfl ?_
  exact ⟨tE, bBl HB.out⟩
end
section
theorem Ev.of_mono {α : Type} {f : Nat → Option α} {v : α} (hm : ∀ k, LeO (f k) (f (k + 1))) {K : Nat} (h : f K = some v) : Ev f v := by
  refine ⟨K, fun k hk => ?_⟩
  obtain ⟨d, rfl⟩ : ∃ d, k = K + d := ⟨k - K, by omega⟩
  induction d with
  | zero => exact h
  | succ d ih => exact hm (K + d) v (ih (by omega))
section
variable (o : List ByteArray) (mt : List S70) (s : List S27) (p : List S89) (a4 a5 a6 : Int) (r : List Int)
def gramsV : List S27 × Int := if askV o mt s p a4 a5 a6 r = 0 then (gramL o.length mt r, 0) else ([], askV o mt s p a4 a5 a6 r)
theorem bGrams : Ev (fun k => b_Grams.f k o mt s p a4 a5 a6 r) (gramsV o mt s p a4 a5 a6 r) := by
  unfold b_Grams.f gramsV
  refine Ev.bind (basked o mt s p a4 a5 a6 r) ?_
  by_cases h : askV o mt s p a4 a5 a6 r = 0
  · simp only [if_pos h]
    obtain ⟨H, hr⟩ := ask_ok h
    exact Ev.bind (bgrams H hr) (Ev.const _)
  · simp only [if_neg h]; exact Ev.const _
end
section
variable {o : List ByteArray} {mt : List S70} {s : List S27} {p : List S89} {a4 a5 a6 : Int} {r : List Int}
theorem gramL_ok (H : BatchOk o mt s p a4 a5 a6) (hr : RecOk mt r) : GOk (gramL o.length mt r) :=
  ⟨by rw [gramL_len]; exact H.o12, fun j hj => by rw [gramL_len] at hj; exact gram_bounds H hr hj⟩
def lowW (n : Nat) (mt : List S70) (r : List Int) : Int := wS S27.f0 (gramL n mt r) (gramL n mt r).length
def weighV (n : Nat) (mt : List S70) (r : List Int) : List S27 × Int := if lowW n mt r = 0 then ([], 8) else (gramL n mt r, 0)
theorem rweighed (H : BatchOk o mt s p a4 a5 a6) (hr : RecOk mt r) : Ev (fun k => rf_weighed.f k o mt s p a4 a5 a6 r) (weighV o.length mt r) := by
  unfold rf_weighed.f weighV
  refine Ev.bind (rbrings H hr) (Ev.bind (rsums (gramL_ok H hr)) ?_)
  by_cases h : lowW o.length mt r = 0
  · simp only [if_pos h, if_pos (show wS S27.f0 (gramL o.length mt r) (gramL o.length mt r).length = 0 from h)]; exact Ev.const _
  · simp only [if_neg h, if_neg (show ¬ wS S27.f0 (gramL o.length mt r) (gramL o.length mt r).length = 0 from h)]; exact Ev.const _
theorem lowW_pos (H : BatchOk o mt s p a4 a5 a6) (hr : RecOk mt r) (h : ¬ lowW o.length mt r = 0) : 0 < wS S27.f0 (gramL o.length mt r) (gramL o.length mt r).length := by
  have := wS_bounds (gramL_ok H hr) (gramL o.length mt r).length (Nat.le_refl _)
  unfold lowW at h
  omega
end
section
variable (o : List ByteArray) (mt : List S70) (s : List S27) (p : List S89) (a4 a5 a6 : Int) (r : List Int)
def glassV : List S27 × Int := if askV o mt s p a4 a5 a6 r = 0 then weighV o.length mt r else ([], askV o mt s p a4 a5 a6 r)
theorem bglass : Ev (fun k => x_glass.f k o mt s p a4 a5 a6 r) (glassV o mt s p a4 a5 a6 r) := by
  unfold x_glass.f glassV
  refine Ev.bind (bGrams o mt s p a4 a5 a6 r) ?_
  unfold gramsV
  by_cases h : askV o mt s p a4 a5 a6 r = 0
  · obtain ⟨H, hr⟩ := ask_ok h
    simp only [if_pos h, if_true]
    refine Ev.bind (bweight (gramL_ok H hr)) ?_
    unfold weighV
    by_cases h2 : lowW o.length mt r = 0
    · simp only [if_pos h2, if_pos (show wS S27.f0 (gramL o.length mt r) (gramL o.length mt r).length = 0 from h2)]; exact Ev.const _
    · simp only [if_neg h2, if_neg (show ¬ wS S27.f0 (gramL o.length mt r) (gramL o.length mt r).length = 0 from h2)]; exact Ev.const _
  · simp only [if_neg h]; exact Ev.const _
end
section
variable {o : List ByteArray} {mt : List S70} {s : List S27} {p : List S89} {a4 a5 a6 : Int} {r : List Int}
end
section
variable (o : List ByteArray) (mt : List S70) (s : List S27) (p : List S89) (a4 a5 a6 : Int) (r : List Int)
def ValV (n : Int) : Int × Int × Int := if askV o mt s p a4 a5 a6 r = 0 then (if 0 ≤ n ∧ n < (p.length : Int) then (if lowW o.length mt r = 0 then (0, 0, 8) else (meanLo (rd (rd_T89 p n).f1) (gramL o.length mt r), meanHi (rd (rd_T89 p n).f1) (gramL o.length mt r), 0)) else (0, 0, 7)) else (0, 0, askV o mt s p a4 a5 a6 r)
theorem pro_cf {o : List ByteArray} {mt : List S70} {s : List S27} {p : List S89} {a4 a5 a6 : Int} (H : BatchOk o mt s p a4 a5 a6) {n : Int} (hn : 0 ≤ n ∧ n < (p.length : Int)) : CfOk (rd (rd_T89 p n).f1) o.length ∧ (rd_T89 p n).f1.length = o.length := by
  obtain ⟨j, hj, rfl⟩ : ∃ j : Nat, j < p.length ∧ n = j := ⟨n.toNat, by omega, by omega⟩
  have h := H.pros j hj
  exact ⟨⟨h.coef⟩, h.len⟩
theorem bValue (n : Int) : Ev (fun k => x_Value.f k o mt s p a4 a5 a6 r n) (ValV o mt s p a4 a5 a6 r n) := by
  unfold x_Value.f ValV
  refine Ev.bind (basked o mt s p a4 a5 a6 r) ?_
  by_cases h : askV o mt s p a4 a5 a6 r = 0
  · obtain ⟨H, hr⟩ := ask_ok h
    have hp := H.p6
    simp only [if_pos h, within_f, Option.bind_some, Bool.and_eq_true, decide_eq_true_eq]
    rw [wrap_id (x := (p.length : Int) - 1) (by omega) (by omega)]
    by_cases h1 : 0 ≤ n ∧ n < (p.length : Int)
    · obtain ⟨C, hl⟩ := pro_cf H h1
      simp only [if_pos h1, if_pos (show 0 ≤ n ∧ n ≤ (p.length : Int) - 1 by omega)]
      refine Ev.bind (bglass o mt s p a4 a5 a6 r) ?_
      unfold glassV
      rw [if_pos h]
      unfold weighV
      by_cases h2 : lowW o.length mt r = 0
      · simp only [if_pos h2, if_neg (show ¬ (8 : Int) = 0 by decide)]; exact Ev.const _
      · simp only [if_neg h2, if_true]
        have hg := gramL_len o.length mt r
        rw [if_pos ⟨h1.1, h1.2, by omega, meanOkB_iff.2 (meanOk_of (gramL_ok H hr) (by rw [hg]; exact C) (lowW_pos H hr h2))⟩]
        exact Ev.const _
    · simp only [if_neg h1, if_neg (show ¬ (0 ≤ n ∧ n ≤ (p.length : Int) - 1) by omega)]
      exact Ev.const _
  · simp only [if_neg h]; exact Ev.const _
theorem rValue (n : Int) : Ev (fun k => rf_Value.f k o mt s p a4 a5 a6 r n) (ValV o mt s p a4 a5 a6 r n) := by
  unfold rf_Value.f ValV
  refine Ev.bind (rasked o mt s p a4 a5 a6 r) ?_
  by_cases h : askV o mt s p a4 a5 a6 r = 0
  · obtain ⟨H, hr⟩ := ask_ok h
    simp only [if_pos h]
    by_cases h1 : 0 ≤ n ∧ n < (p.length : Int)
    · obtain ⟨C, hl⟩ := pro_cf H h1
      simp only [if_pos h1, if_neg (show ¬ n < 0 by omega), show decide (n ≥ (p.length : Int)) = false by simp; omega]
      apply Ev.step
      simp only [rf_Value.j0, Bool.false_eq_true, if_false]
      refine Ev.bind (rweighed H hr) ?_
      unfold weighV
      by_cases h2 : lowW o.length mt r = 0
      · simp only [if_pos h2, if_neg (show ¬ (8 : Int) = 0 by decide)]; exact Ev.const _
      · have hg := gramL_len o.length mt r
        simp only [if_neg h2, if_true, if_pos h1.1, if_pos h1.2]
        exact Ev.bind (rbounds (gramL_ok H hr) (by rw [hg]; exact C) (lowW_pos H hr h2) (by omega) (fun j hj => rfl)) (Ev.const _)
    · rw [if_neg h1]
      by_cases h3 : n < 0
      · simp only [if_pos h3]
        apply Ev.step
        simp only [rf_Value.j0, if_true]
        exact Ev.const _
      · simp only [if_neg h3, show decide (n ≥ (p.length : Int)) = true by simp; omega]
        apply Ev.step
        simp only [rf_Value.j0, if_true]
        exact Ev.const _
  · simp only [if_neg h]; exact Ev.const _
end
end
section
theorem mean_le {cf : Int → Int} {l : List S27} (H : MeanOk cf l) : meanLo cf l ≤ meanHi cf l := by
  have h1 := (meanLo_iff H _).2 (Int.le_refl _)
  have h2 := (meanHi_iff H _).2 (Int.le_refl _)
  unfold belowS MeanMath.below at h1
  unfold aboveS MeanMath.below at h2
  generalize meanLo cf l = L at *
  generalize meanHi cf l = M at *
  have a1 := MeanMath.lsum_le (l := (iotaA l.length).toList) (f := fun a => (L - cf a) * loF l a) (g := fun a => max ((L - cf a) * loF l a) ((L - cf a) * hiF l a)) (fun x _ => Int.le_max_left _ _)
  have a2 := MeanMath.lsum_le (l := (iotaA l.length).toList) (f := fun a => (-M - -cf a) * loF l a) (g := fun a => max ((-M - -cf a) * loF l a) ((-M - -cf a) * hiF l a)) (fun x _ => Int.le_max_left _ _)
  have s := MeanMath.lsum_add (fun a => (L - cf a) * loF l a) (fun a => (-M - -cf a) * loF l a) (iotaA l.length).toList
  have e := MeanMath.lsum_congr (l := (iotaA l.length).toList) (f := fun a => (L - cf a) * loF l a + (-M - -cf a) * loF l a) (g := fun a => (L - M) * loF l a) (fun a _ => by
    show (L - cf a) * loF l a + (-M - -cf a) * loF l a = (L - M) * loF l a
    rw [← Int.add_mul]; congr 1; omega)
  rw [e, MeanMath.lsum_mul, lsum_iota (loF l) l (fun _ _ => rfl)] at s
  have hp := H.pos
  have h3 := Int.le_trans a2 h2
  apply Int.not_lt.1
  intro hlt
  have : 0 < (L - M) * MeanMath.lsum S27.f0 l := Int.mul_pos (by omega) hp
  omega
structure LehrOk (kn : List S94) : Prop where
  n2 : 2 ≤ kn.length
  n24 : kn.length ≤ 24
  min : ∀ i : Nat, i < kn.length → 0 ≤ (rd_T94 kn (i : Int)).f0 ∧ (rd_T94 kn (i : Int)).f0 ≤ 2000
  temp : ∀ i : Nat, i < kn.length → 0 ≤ (rd_T94 kn (i : Int)).f1 ∧ (rd_T94 kn (i : Int)).f1 ≤ 10000
  up : ∀ i : Nat, i + 1 < kn.length → (rd_T94 kn (i : Int)).f0 < (rd_T94 kn ((i + 1 : Nat) : Int)).f0
theorem kneesOk_at (kn : List S94) : ∀ (m i : Nat), kneesOk kn m i = true → ∀ j, i ≤ j → j < i + m → kneeA kn j = true ∧ kneeB kn j = true
  | 0, i, h, j, h1, h2 => by omega
  | m + 1, i, h, j, h1, h2 => by
    simp only [kneesOk, Bool.and_eq_true] at h
    by_cases e : j = i
    · subst e; exact h.1
    · exact kneesOk_at kn m (i + 1) h.2 j (by omega) (by omega)
theorem lehr_facts {kn : List S94} {fac : Int} (h : lehrV kn fac = 0) : LehrOk kn ∧ 0 ≤ fac ∧ fac ≤ 10000 := by
  unfold lehrV at h
  split at h
  · cases h
  · split at h
    · cases h
    · split at h
      · rename_i h1 h2 h3
        split at h
        · rename_i h4
          have hk := kneesOk_at kn kn.length 0 h3
          simp only [inB, Bool.and_eq_true, decide_eq_true_eq] at h4
          refine ⟨⟨by omega, by omega, fun i hi => ?_, fun i hi => ?_, fun i hi => ?_⟩, h4⟩
          · have := (hk i (by omega) (by omega)).1
            simp only [kneeA, inB, Bool.and_eq_true, decide_eq_true_eq] at this
            exact this.1
          · have := (hk i (by omega) (by omega)).1
            simp only [kneeA, inB, Bool.and_eq_true, decide_eq_true_eq] at this
            exact this.2
          · have := (hk (i + 1) (by omega) (by omega)).2
            simp only [kneeB, if_neg (show ¬ i + 1 = 0 by omega), decide_eq_true_eq] at this
            simpa using this
        · cases h
      · cases h
theorem cast_pred {i : Nat} (h : 1 ≤ i) : (i : Int) - 1 = ((i - 1 : Nat) : Int) := by omega
def pieceT (a b : S94) (t : Int) : Int :=
  if mn a.f1 b.f1 ≥ t then b.f0 - a.f0 else if mx a.f1 b.f1 > t then ((b.f0 - a.f0) * (mx a.f1 b.f1 - t)) / (mx a.f1 b.f1 - mn a.f1 b.f1) else 0
def kneeN (kn : List S94) (i : Nat) : S94 := rd_T94 kn (i : Int)
def heldS (kn : List S94) (t : Int) : Nat → Nat → Int
  | 0, _ => 0
  | m + 1, i => pieceT (kneeN kn (i - 1)) (kneeN kn i) t + heldS kn t m (i + 1)
structure PieceOk (a b : S94) : Prop where
  d1 : 1 ≤ b.f0 - a.f0
  d2 : b.f0 - a.f0 ≤ 2000
  a1 : 0 ≤ a.f1 ∧ a.f1 ≤ 10000
  b1 : 0 ≤ b.f1 ∧ b.f1 ≤ 10000
theorem LehrOk.piece {kn : List S94} (H : LehrOk kn) {i : Nat} (h1 : 1 ≤ i) (h2 : i < kn.length) : PieceOk (kneeN kn (i - 1)) (kneeN kn i) := by
  have a := H.min (i - 1) (by omega)
  have b := H.min i h2
  have u := H.up (i - 1) (by omega)
  rw [show i - 1 + 1 = i by omega] at u
  exact ⟨by show 1 ≤ (rd_T94 kn (i : Int)).f0 - (rd_T94 kn ((i - 1 : Nat) : Int)).f0; omega, by show (rd_T94 kn (i : Int)).f0 - (rd_T94 kn ((i - 1 : Nat) : Int)).f0 ≤ 2000; omega, H.temp (i - 1) (by omega), H.temp i h2⟩
theorem mn_le (a b : Int) : mn a b ≤ a ∧ mn a b ≤ b ∧ (mn a b = a ∨ mn a b = b) := by unfold mn; split <;> omega
theorem le_mx (a b : Int) : a ≤ mx a b ∧ b ≤ mx a b ∧ (mx a b = a ∨ mx a b = b) := by unfold mx; split <;> omega
theorem pieceT_bounds {a b : S94} (H : PieceOk a b) (t : Int) : 0 ≤ pieceT a b t ∧ pieceT a b t ≤ b.f0 - a.f0 := by
  have d1 := H.d1
  have hm := mn_le a.f1 b.f1
  have hx := le_mx a.f1 b.f1
  unfold pieceT
  split
  · omega
  · split
    · rename_i h1 h2
      constructor
      · exact Int.ediv_nonneg (Int.mul_nonneg (by omega) (by omega)) (by omega)
      · apply Int.le_of_mul_le_mul_right (a := mx a.f1 b.f1 - mn a.f1 b.f1) _ (by omega)
        refine Int.le_trans (Int.ediv_mul_le _ (by omega)) ?_
        exact Int.mul_le_mul_of_nonneg_left (by omega) (by omega)
    · omega
theorem wsmall {x : Int} (h1 : -1000000000000000000 ≤ x) (h2 : x ≤ 1000000000000000000) : wrap64 x = x := wrap_id (by omega) (by omega)
theorem held_l0 {kn : List S94} (H : LehrOk kn) (fac : Int) {t : Int} (ht : 0 ≤ t ∧ t ≤ 10000) : ∀ (m i : Nat) (acc : Int), i + m = kn.length → 1 ≤ i → 0 ≤ acc → acc ≤ 2000 * i → Ev (fun k => st_held.l0 k t acc (i : Int) kn fac) (acc + heldS kn t m i)
  | 0, i, acc, h, h1, ha, hb => by
    apply Ev.step
    simp only [st_held.l0, if_neg (show ¬ (i : Int) < (kn.length : Int) by omega)]
    exact (Ev.const _).cast (by simp [heldS])
  | m + 1, i, acc, h, h1, ha, hb => by
    have hp := H.piece h1 (by omega)
    have hpb := pieceT_bounds hp t
    have n24 := H.n24
    have ih := held_l0 H fac ht m (i + 1) (acc + pieceT (kneeN kn (i - 1)) (kneeN kn i) t) (by omega) (by omega) (by omega) (by have := hp.d2; omega)
    have hm := mn_le (kneeN kn (i - 1)).f1 (kneeN kn i).f1
    have hx := le_mx (kneeN kn (i - 1)).f1 (kneeN kn i).f1
    obtain ⟨d1, d2, a1, b1⟩ := hp
    apply Ev.step
    simp only [st_held.l0, if_pos (show (i : Int) < (kn.length : Int) by omega), wsmall (show -1000000000000000000 ≤ (i : Int) - 1 by omega) (show (i : Int) - 1 ≤ 1000000000000000000 by omega), if_pos (show 0 ≤ (i : Int) - 1 by omega), if_pos (show (i : Int) - 1 < (kn.length : Int) by omega), if_pos (show 0 ≤ (i : Int) by omega), wrap_succ (i_pos i) (show (i : Int) ≤ 1000000000 by omega)]
    simp only [cast_pred h1]
    change Ev (fun k => if mn (kneeN kn (i - 1)).f1 (kneeN kn i).f1 ≥ t then st_held.l0 k t (wrap64 (acc + wrap64 ((kneeN kn i).f0 - (kneeN kn (i - 1)).f0))) ((i : Int) + 1) kn fac else if mx (kneeN kn (i - 1)).f1 (kneeN kn i).f1 > t then (if wrap64 (mx (kneeN kn (i - 1)).f1 (kneeN kn i).f1 - mn (kneeN kn (i - 1)).f1 (kneeN kn i).f1) = 0 then none else st_held.l0 k t (wrap64 (acc + wrap64 (Int.tdiv (wrap64 (wrap64 ((kneeN kn i).f0 - (kneeN kn (i - 1)).f0) * wrap64 (mx (kneeN kn (i - 1)).f1 (kneeN kn i).f1 - t))) (wrap64 (mx (kneeN kn (i - 1)).f1 (kneeN kn i).f1 - mn (kneeN kn (i - 1)).f1 (kneeN kn i).f1))))) ((i : Int) + 1) kn fac) else st_held.l0 k t acc ((i : Int) + 1) kn fac) _
    have e2 : ((i + 1 : Nat) : Int) = (i : Int) + 1 := by omega
    rw [e2] at ih
    have hsum : acc + heldS kn t (m + 1) i = acc + pieceT (kneeN kn (i - 1)) (kneeN kn i) t + heldS kn t m (i + 1) := by simp only [heldS]; omega
    rw [hsum]
    generalize kneeN kn (i - 1) = a at *
    generalize kneeN kn i = b at *
    by_cases c1 : mn a.f1 b.f1 ≥ t
    · have hpe : pieceT a b t = b.f0 - a.f0 := if_pos c1
      simp only [if_pos c1, wsmall (show -1000000000000000000 ≤ b.f0 - a.f0 by omega) (show b.f0 - a.f0 ≤ 1000000000000000000 by omega)]
      rw [hpe] at ih ⊢
      rw [wsmall (by omega) (by omega)]
      exact ih
    · by_cases c2 : mx a.f1 b.f1 > t
      · have hq : (b.f0 - a.f0) * (mx a.f1 b.f1 - t) ≤ 2000 * 10000 := Int.mul_le_mul (by omega) (by omega) (by omega) (by omega)
        have hq0 : 0 ≤ (b.f0 - a.f0) * (mx a.f1 b.f1 - t) := Int.mul_nonneg (by omega) (by omega)
        have hpe : pieceT a b t = ((b.f0 - a.f0) * (mx a.f1 b.f1 - t)) / (mx a.f1 b.f1 - mn a.f1 b.f1) := (if_neg c1).trans (if_pos c2)
        simp only [if_neg c1, if_pos c2, wsmall (show -1000000000000000000 ≤ b.f0 - a.f0 by omega) (show b.f0 - a.f0 ≤ 1000000000000000000 by omega), wsmall (show -1000000000000000000 ≤ mx a.f1 b.f1 - t by omega) (show mx a.f1 b.f1 - t ≤ 1000000000000000000 by omega), wsmall (show -1000000000000000000 ≤ mx a.f1 b.f1 - mn a.f1 b.f1 by omega) (show mx a.f1 b.f1 - mn a.f1 b.f1 ≤ 1000000000000000000 by omega), if_neg (show ¬ mx a.f1 b.f1 - mn a.f1 b.f1 = 0 by omega), wsmall (show -1000000000000000000 ≤ (b.f0 - a.f0) * (mx a.f1 b.f1 - t) by omega) (show (b.f0 - a.f0) * (mx a.f1 b.f1 - t) ≤ 1000000000000000000 by omega), Int.tdiv_eq_ediv_of_nonneg hq0]
        rw [← hpe, wsmall (show -1000000000000000000 ≤ pieceT a b t by omega) (by omega), wsmall (by omega) (by omega)]
        exact ih
      · have hpe : pieceT a b t = 0 := (if_neg c1).trans (if_neg c2)
        simp only [if_neg c1, if_neg c2]
        rw [hpe] at ih ⊢
        rw [Int.add_zero] at ih ⊢
        exact ih
def heldV (kn : List S94) (t : Int) : Int := heldS kn t (kn.length - 1) 1
theorem held_ev {kn : List S94} (H : LehrOk kn) (fac : Int) {t : Int} (ht : 0 ≤ t ∧ t ≤ 10000) : Ev (fun k => st_held.f k kn fac t) (heldV kn t) := by
  have n2 := H.n2
  exact (held_l0 H fac ht (kn.length - 1) 1 0 (by omega) (by omega) (by omega) (by omega)).cast (by simp [heldV])
end
end Go.Proofs.YtljfljekcpdpiaaGreat.PB
