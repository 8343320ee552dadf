import Derived.Test.YtljfljekcpdpiaaGreatB2
import Derived.Shelf.Abstract
set_option linter.unusedVariables false
set_option linter.unusedSimpArgs false
set_option maxHeartbeats 8000000
set_option maxRecDepth 1000000
namespace Go.Proofs.YtljfljekcpdpiaaGreat.PB
open Go.RowKit Go.Proofs.YtljfljekcpdpiaaGreatW.PrintWords Go.Proofs.YtljfljekcpdpiaaGreatW.PrintLast Go.Proofs.YtljfljekcpdpiaaGreatW.PrintMore
section
mutual
def rf_Check.l0 : Nat → Int → List ByteArray → List (S70) → List (S27) → List (S89) → Int → Int → Int → Option (Int)
 | 0, _, _, _, _, _, _, _, _ => none
 | k + 1, x3, x239q0, x239q1, x239q2, x239q3, x239q4, x239q5, x239q6 => if x3 < (x239q0.length : Int) then (if 0 ≤ x3 then ((rf_Name.f k (rdOf ByteArray.empty x239q0 x3)).bind fun t240 => (if t240 = true then (if x3 ≤ (x239q0.length : Int) then ((rf_in.f k (x239q0.take (x3 : Int).toNat) (rdOf ByteArray.empty x239q0 x3)).bind fun t243 => (if t243 = true then (some 6) else (rf_Check.l0 k (wrap64 (x3 + 1)) x239q0 x239q1 x239q2 x239q3 x239q4 x239q5 x239q6))) else (none)) else (some 5))) else (none)) else (if (x239q1.length : Int) > 12 then (some 3) else (if (x239q1.length : Int) = 0 then (some 1) else (rf_Check.l1 k ([] : List ByteArray) 0 x239q0 x239q1 x239q2 x239q3 x239q4 x239q5 x239q6)))
def rf_Check.l1 : Nat → List ByteArray → Int → List ByteArray → List (S70) → List (S27) → List (S89) → Int → Int → Int → Option (Int)
 | 0, _, _, _, _, _, _, _, _, _ => none
 | k + 1, x4, x5, x239q0, x239q1, x239q2, x239q3, x239q4, x239q5, x239q6 => if x5 < (x239q1.length : Int) then (if 0 ≤ x5 then ((rf_Name.f k ((rd_T70 x239q1 x5).f0)).bind fun t245 => (if t245 = true then ((rf_in.f k x4 ((rd_T70 x239q1 x5).f0)).bind fun t247 => (if t247 = true then (some 6) else (if x4.length < 8796093022208 then ((rf_material.f k x239q0 x239q1 x239q2 x239q3 x239q4 x239q5 x239q6 ((rd_T70 x239q1 x5).f0) ((rd_T70 x239q1 x5).f1) ((rd_T70 x239q1 x5).f2) ((rd_T70 x239q1 x5).f3) ((rd_T70 x239q1 x5).f4) ((rd_T70 x239q1 x5).f5) ((rd_T70 x239q1 x5).f6)).bind fun t253 => (if t253 = 0 then (rf_Check.l1 k (x4 ++ [(rd_T70 x239q1 x5).f0]) (wrap64 (x5 + 1)) x239q0 x239q1 x239q2 x239q3 x239q4 x239q5 x239q6) else (some t253))) else (none)))) else (some 5))) else (none)) else (if (x239q2.length : Int) = (x239q0.length : Int) then (rf_Check.l2 k 0 x239q0 x239q1 x239q2 x239q3 x239q4 x239q5 x239q6) else (some 1))
def rf_Check.l2 : Nat → Int → List ByteArray → List (S70) → List (S27) → List (S89) → Int → Int → Int → Option (Int)
 | 0, _, _, _, _, _, _, _, _ => none
 | k + 1, x7, x239q0, x239q1, x239q2, x239q3, x239q4, x239q5, x239q6 => if x7 < (x239q2.length : Int) then (if 0 ≤ x7 then ((rf_within.f ((rd_T27 x239q2 x7).f0) ((rd_T27 x239q2 x7).f1) 0 1000).bind fun t255 => (if t255 = true then (rf_Check.l2 k (wrap64 (x7 + 1)) x239q0 x239q1 x239q2 x239q3 x239q4 x239q5 x239q6) else (some 1))) else (none)) else (if (x239q3.length : Int) > 6 then (some 3) else (rf_Check.l3 k ([] : List ByteArray) 0 x239q0 x239q1 x239q2 x239q3 x239q4 x239q5 x239q6))
def rf_Check.l3 : Nat → List ByteArray → Int → List ByteArray → List (S70) → List (S27) → List (S89) → Int → Int → Int → Option (Int)
 | 0, _, _, _, _, _, _, _, _, _ => none
 | k + 1, x4, x8, x239q0, x239q1, x239q2, x239q3, x239q4, x239q5, x239q6 => if x8 < (x239q3.length : Int) then (if 0 ≤ x8 then ((rf_Name.f k ((rd_T89 x239q3 x8).f0)).bind fun t258 => (if t258 = true then ((rf_in.f k x4 ((rd_T89 x239q3 x8).f0)).bind fun t260 => (if t260 = true then (some 6) else (if x4.length < 8796093022208 then ((rf_property.f k x239q0 x239q1 x239q2 x239q3 x239q4 x239q5 x239q6 ((rd_T89 x239q3 x8).f0) ((rd_T89 x239q3 x8).f1) ((rd_T89 x239q3 x8).f2.f0) ((rd_T89 x239q3 x8).f2.f1)).bind fun t266 => (if t266 = 0 then (rf_Check.l3 k (x4 ++ [(rd_T89 x239q3 x8).f0]) (wrap64 (x8 + 1)) x239q0 x239q1 x239q2 x239q3 x239q4 x239q5 x239q6) else (some t266))) else (none)))) else (some 5))) else (none)) else ((rf_within.f x239q4 x239q5 (-10000) 10000).bind fun t256 => (if t256 = true then (if x239q6 < 1 then (some 1) else (if x239q6 > 10000 then (some 1) else (some 0))) else (some 1)))
end
def rf_Check.f (k : Nat) (l00 : List ByteArray) (l01 : List (S70)) (l02 : List (S27)) (l03 : List (S89)) (a04 : Int) (a05 : Int) (a06 : Int) : Option (Int) := if (l00.length : Int) > 12 then (some 3) else (if (l00.length : Int) = 0 then (some 1) else (rf_Check.l0 k 0 l00 l01 l02 l03 a04 a05 a06))
def rf_Check.T10 : Bool × List (List Nat × List Nat) := (true, [([], []), ([0], [0]), ([], []), ([1, 2], [1, 2]), ([], []), ([4], [4]), ([], []), ([5, 6], [5, 6]), ([7], [7]), ([3, 8], [3, 8])])
def rf_Check.B10 : List Nat := [0, 1, 0, 7, 0, 16, 0, 112, 240, 511]
theorem rf_Check.tab10 : rtab .any (opsOf Tryz.f86 10) = rf_Check.T10 := by kernel_rfl
theorem rf_Check.bits10 : waitsOk rf_Check.T10.2 rf_Check.B10 = true := by kernel_rfl
def rf_Check.T25 : Bool × List (List Nat × List Nat) := (true, [([], []), ([], []), ([1], [1]), ([], []), ([2, 3], [2, 3]), ([4], [4]), ([0, 5], [0, 5]), ([6, 6, 0, 1, 2, 3, 4, 5, 6], [6])])
def rf_Check.B25 : List Nat := [0, 0, 2, 0, 14, 30, 63, 127]
theorem rf_Check.tab25 : rtab .any (opsOf Tryz.f86 25) = rf_Check.T25 := by kernel_rfl
theorem rf_Check.bits25 : waitsOk rf_Check.T25.2 rf_Check.B25 = true := by kernel_rfl
def rf_Check.T46 : Bool × List (List Nat × List Nat) := (true, [([], []), ([], []), ([1], [1]), ([], []), ([2, 3], [2, 3]), ([4], [4]), ([0, 5], [0, 5]), ([6, 6, 0, 1, 2, 3, 4, 5, 6], [6])])
def rf_Check.B46 : List Nat := [0, 0, 2, 0, 14, 30, 63, 127]
theorem rf_Check.tab46 : rtab .any (opsOf Tryz.f86 46) = rf_Check.T46 := by kernel_rfl
theorem rf_Check.bits46 : waitsOk rf_Check.T46.2 rf_Check.B46 = true := by kernel_rfl
theorem rf_Check.calls (k : Nat) (A00 : Option Addr) (c00 : Nat) (l00 : List ByteArray) (A01 : Option Addr) (c01 : Nat) (l01 : List (S70)) (A02 : Option Addr) (c02 : Nat) (l02 : List (S27)) (A03 : Option Addr) (c03 : Nat) (l03 : List (S89)) (a04 : Int) (a05 : Int) (a06 : Int) (r : Int) (w : World) (hr00 : Kd.C Kd.string w A00 l00.length l00) (hc00 : l00.length ≤ c00) (hr01 : Kd.C k70 w A01 l01.length l01) (hc01 : l01.length ≤ c01) (hr02 : Kd.C k27 w A02 l02.length l02) (hc02 : l02.length ≤ c02) (hr03 : Kd.C k89 w A03 l03.length l03) (hc03 : l03.length ≤ c03) (h : rf_Check.f k l00 l01 l02 l03 a04 a05 a06 = some r) :
  Calls Tryz.prog 86 #[.agg #[.slice A00 l00.length c00, .slice A01 l01.length c01, .slice A02 l02.length c02, .slice A03 l03.length c03, .int .i64 a04, .int .i64 a05, .int .i64 a06]] w fun e w' => e = .returned (.int .i64 r) ∧ Below w.heap.size w w' := by
 have hu29 := Tryz.underlying29; have hu70 := Tryz.underlying70; have hu27 := Tryz.underlying27; have hu89 := Tryz.underlying89; have HR00 := Sd.mk hr00; have HC00 := Sd.mk hc00; clear hr00 hc00; have HR01 := Sd.mk hr01; have HC01 := Sd.mk hc01; clear hr01 hc01; have HR02 := Sd.mk hr02; have HC02 := Sd.mk hc02; clear hr02 hc02; have HR03 := Sd.mk hr03; have HC03 := Sd.mk hc03; clear hr03 hc03; have HB := Sd.mk (Below.refl w.heap.size w)
 have H : (if (l00.length : Int) > 12 then (some 3) else (if (l00.length : Int) = 0 then (some 1) else (rf_Check.l0 k 0 l00 l01 l02 l03 a04 a05 a06))) = some r := h
 clear h
 by_cases c2 : (l00.length : Int) > 12
 ·rw [if_pos c2] at H
  have c2b0 : decide (12 < (l00.length : Int)) = true := decide_eq_true c2
  have c2b1 : decide (12 < l00.length) = true := decide_eq_true (by omega)
  clear c2; obtain rfl := Option.some.inj H
  go_enter Tryz.func86, Tryz.ntmps86
  go_wp2_with (first | ((with_reducible refine gate_dst (N := 1) rfl ?_); refine box_event ?hg (N := 1) ?hd (cs := #[.slice A00 l00.length c00, .slice A01 l01.length c01, .slice A02 l02.length c02, .slice A03 l03.length c03, .int .i64 a04, .int .i64 a05, .int .i64 a06]) (t := 29) ?hr ?_; (case hd => rfl); (case hg => rfl); (case hr => exact tG); intro gb238 hg w3 hbox hb; have BK238 := Sd.mk (hbox); have GW238 := Sd.mk (bSz hg (bBl HB.out)); have GE238 := Sd.mk (bSz hg (bBl HB.out)); replace HB := Sd.mk (below_step (bBl HB.out) hb); clear hb hbox hg; obtain ⟨u4_0, u4_1, u4_2, u4_3, u4_4, u4_5, u4_6, o40, o41, o42, o43, o44, o45, o46⟩ := bc7 (w := w3) BK238.out))
  go_ret
  exact ⟨tE, bBl HB.out⟩
 ·rw [if_neg c2] at H
  have c2b0 : decide (12 < (l00.length : Int)) = false := decide_eq_false c2
  have c2b1 : decide (12 < l00.length) = false := decide_eq_false (by omega)
  clear c2
  by_cases c5 : (l00.length : Int) = 0
  ·rw [if_pos c5] at H
   have c5b0 : ((l00.length : Int) == 0) = true := beq_iff_eq.mpr c5
   have c5b1 : ((l00.length : Int) != 0) = false := bne_eq_false_iff_eq.mpr c5
   clear c5; obtain rfl := Option.some.inj H
   go_enter Tryz.func86, Tryz.ntmps86
   go_wp2_with (first | ((with_reducible refine gate_dst (N := 1) rfl ?_); refine box_event ?hg (N := 1) ?hd (cs := #[.slice A00 l00.length c00, .slice A01 l01.length c01, .slice A02 l02.length c02, .slice A03 l03.length c03, .int .i64 a04, .int .i64 a05, .int .i64 a06]) (t := 29) ?hr ?_; (case hd => rfl); (case hg => rfl); (case hr => exact tG); intro gb238 hg w6 hbox hb; have BK238 := Sd.mk (hbox); have GW238 := Sd.mk (bSz hg (bBl HB.out)); have GE238 := Sd.mk (bSz hg (bBl HB.out)); replace HB := Sd.mk (below_step (bBl HB.out) hb); clear hb hbox hg; obtain ⟨u7_0, u7_1, u7_2, u7_3, u7_4, u7_5, u7_6, o70, o71, o72, o73, o74, o75, o76⟩ := bc7 (w := w6) BK238.out))
   go_ret
   exact ⟨tE, bBl HB.out⟩
  ·rw [if_neg c5] at H
   have c5b0 : ((l00.length : Int) == 0) = false := beq_eq_false_iff_ne.mpr c5
   have c5b1 : ((l00.length : Int) != 0) = true := bne_iff_ne.mpr c5
   have c5b2 : ¬ (l00 = []) := fun h_ => c5 (by rw [h_]; rfl)
   have H' := Sd.mk H; clear H
   go_enter Tryz.func86, Tryz.ntmps86
   go_wp2_with (first | ((with_reducible refine gate_dst (N := 1) rfl ?_); refine box_event ?hg (N := 1) ?hd (cs := #[.slice A00 l00.length c00, .slice A01 l01.length c01, .slice A02 l02.length c02, .slice A03 l03.length c03, .int .i64 a04, .int .i64 a05, .int .i64 a06]) (t := 29) ?hr ?_; (case hd => rfl); (case hg => rfl); (case hr => exact tG); intro gb238 hg w8 hbox hb; have BK238 := Sd.mk (hbox); have GW238 := Sd.mk (bSz hg (bBl HB.out)); have GE238 := Sd.mk (bSz hg (bBl HB.out)); replace HB := Sd.mk (below_step (bBl HB.out) hb); clear hb hbox hg; obtain ⟨u9_0, u9_1, u9_2, u9_3, u9_4, u9_5, u9_6, o90, o91, o92, o93, o94, o95, o96⟩ := bc7 (w := w8) BK238.out))
   go_loopg [3] k (fun kq v3 w' => ∃ (x31 : Int), v3 = .int .i64 x31 ∧ Sd (rf_Check.l0 kq x31 l00 l01 l02 l03 a04 a05 a06 = some r) ∧ Sd (kq ≤ k) ∧ Sd (w'.heap[gb238]? = some (.cells #[(.slice A00 l00.length c00), (.slice A01 l01.length c01), (.slice A02 l02.length c02), (.slice A03 l03.length c03), .int .i64 a04, .int .i64 a05, .int .i64 a06] 29 (0, 0))) ∧ Sd (Below w.heap.size w w'))
   case atStart => exact ⟨(0), tS, H', ⟨Nat.le_refl _⟩, ⟨bkA BK238.out⟩, ⟨bBl HB.out⟩⟩
   case round =>
    clear H'; (try clear c2); (try clear c2b0); (try clear c2b1); (try clear p2); (try clear c5); (try clear c5b0); (try clear c5b1); (try clear c5b2); (try clear c8); (try clear u4_0 u4_1 u4_2 u4_3 u4_4 u4_5 u4_6); (try clear u7_0 u7_1 u7_2 u7_3 u7_4 u7_5 u7_6); (try clear u9_0 u9_1 u9_2 u9_3 u9_4 u9_5 u9_6); (try clear o40 o41 o42 o43 o44 o45 o46); (try clear o70 o71 o72 o73 o74 o75 o76); (try clear o90 o91 o92 o93 o94 o95 o96); obtain ⟨x31, rfl, HA, HK1, BK238, HB⟩ := hrel
    cases gk with
    | zero => exact absurd HA.out (by simp [rf_Check.l0])
    | succ k1 =>
     have H := HA.out; clear HA
     simp only [rf_Check.l0] at H
     by_cases c10 : x31 < (l00.length : Int)
     ·rw [if_pos c10] at H
      have c10b0 : decide (x31 < (l00.length : Int)) = true := decide_eq_true c10
      clear c10
      by_cases c11 : 0 ≤ x31
      ·rw [if_pos c11] at H
       have c11b0 : decide (0 ≤ x31) = true := decide_eq_true c11
       clear c11; replace H := Option.bind_eq_some_iff.mp H; obtain ⟨t240, A120, H⟩ := H
       try dsimp only at H
       have A12 := Sd.mk A120; clear A120
       by_cases c13 : t240 = true
       ·subst c13
        have H1 : (if x31 ≤ (l00.length : Int) then ((rf_in.f k1 (l00.take (x31 : Int).toNat) (rdOf ByteArray.empty l00 x31)).bind fun t243 => (if t243 = true then (some 6) else (rf_Check.l0 k1 (wrap64 (x31 + 1)) l00 l01 l02 l03 a04 a05 a06))) else (none)) = some r := by rw [if_pos rfl] at H; exact H
        clear H; have H := H1; clear H1; have c14b0 := eq_true (tB : 0 ≤ x31)
        by_cases c15 : x31 ≤ (l00.length : Int)
        ·rw [if_pos c15] at H
         have c15b0 := eq_true c15
         have c15b1 : decide (x31 ≤ (l00.length : Int)) = true := decide_eq_true c15
         clear c15; replace H := Option.bind_eq_some_iff.mp H; obtain ⟨t243, A160, H⟩ := H
         try dsimp only at H
         have A16 := Sd.mk A160; clear A160
         have H' := Sd.mk H; clear H; obtain ⟨u18_0, u18_1, u18_2, u18_3, u18_4, u18_5, u18_6, o180, o181, o182, o183, o184, o185, o186⟩ := bc7 (w := wr) BK238.out
         have p239 : 0 ≤ (x31 : Int) := tB
         have q239 : x31 < (l00.length : Int) := tB
         obtain ⟨ad239, e239, hx2390⟩ := Kd.at_string HR00.out x31 p239 q239; cases e239; replace hx2390 := cU HB hx2390; replace p239 := eq_true p239; replace q239 := eq_true q239
         try go_wp2_with (first | ((with_reducible refine gate_callee (f := 170) rfl ?_); refine goesL_ (some 30) rfl rfl Tryz.func170 (by kernel_rfl) rfl #[.string (rdOf ByteArray.empty l00 x31)] rfl tM ?_; (with_reducible refine (rf_Name.calls k1 (rdOf ByteArray.empty l00 x31) true _ A12.out).mono ?_); rintro e w' ⟨rfl, ⟨nd, rfl⟩⟩; refine ⟨_, rfl, ?_⟩))
         (try (rw [drewN_self wr]; generalize hq_ : World.drewN wr _ = wr; have n0_ : Sd (wr.heap[gb238]? = some (.cells #[.slice (some ad239) l00.length c00, .slice A01 l01.length c01, .slice A02 l02.length c02, .slice A03 l03.length c03, .int .i64 a04, .int .i64 a05, .int .i64 a06] 29 (0, 0))) := ⟨by rw [← hq_]; exact (bkA BK238.out)⟩; have n1_ : Sd (Below w.heap.size w wr) := ⟨by rw [← hq_]; exact (bBl HB.out)⟩; clear BK238 HB hq_; have BK238 := n0_; have HB := n1_; clear n0_ n1_))
         replace BK238 := Sd.mk (blk_drew BK238.out); replace HB := Sd.mk (below_drew1 HB.out); obtain ⟨i020, hi020, _, hsz20, _⟩ := info_parts info9; obtain ⟨hcut20, hA20, hC20⟩ := print_take_of (P := Tryz.prog) Value.string (⟨#[]⟩ : ByteArray) 22 9 .i64 Tryz.underlying22 hi020 hsz20 (some ad239) c00 l00 x31 (tB) (tB) HC00.out
         have HR241 := Sd.mk (Kd.C_of_reads (h1 := fun _ => rfl) (hA20 _ (Kd.reads_of_C HR00.out)))
         have HC241 := Sd.mk hC20; clear hA20 hC20 hi020 hsz20
         have p242 : 0 ≤ (x31 : Int) := tB
         have q242 : x31 < (l00.length : Int) := tB
         obtain ⟨ad242, e242, hx2420⟩ := Kd.at_string HR00.out x31 p242 q242; have hw2420 := hx2420
         obtain rfl : ad239 = ad242 := (by injection e242)
         replace hx2420 := cU HB hx2420; replace p242 := eq_true p242; replace q242 := eq_true q242
         refine start_ (n := 10) (S := fun w' => w'.cell? ⟨gb238, 0, none⟩ = some (.slice (some ad239) l00.length c00) ∧ w'.cell? ⟨gb238, 1, none⟩ = some (.slice A01 l01.length c01) ∧ w'.cell? ⟨gb238, 2, none⟩ = some (.slice A02 l02.length c02) ∧ w'.cell? ⟨gb238, 3, none⟩ = some (.slice A03 l03.length c03) ∧ w'.cell? ⟨gb238, 4, none⟩ = some (.int .i64 a04) ∧ w'.cell? ⟨gb238, 5, none⟩ = some (.int .i64 a05) ∧ w'.cell? ⟨gb238, 6, none⟩ = some (.int .i64 a06) ∧ w'.cell? (ad239.add (x31).toNat) = some (.string (rdOf ByteArray.empty l00 x31))) (ds := []) (bA 10 0) (by kernel_rfl) rfl rfl ⟨(blk_cell BK238.out 0).trans rfl, (blk_cell BK238.out 1).trans rfl, (blk_cell BK238.out 2).trans rfl, (blk_cell BK238.out 3).trans rfl, (blk_cell BK238.out 4).trans rfl, (blk_cell BK238.out 5).trans rfl, (blk_cell BK238.out 6).trans rfl, (cU HB hw2420 :)⟩ (fun hHeld => ?_); refine with_tabW rf_Check.tab10 rf_Check.bits10 (fun HT_ HW_ => ?_)
         generalize wr.drew = w19 at BK238 HB HR241 hx2420 hHeld ⊢
         refine pQ 0 (some 32) (bA 10 1) ?_
         refine pQ 2 (some 34) (bA 10 5) ?_
         refine pQ 4 (some 36) (bA 10 21) ?_
         refine pQ 6 (some 38) (bA 10 85) ?_
         refine tQ 1 (some 33) (bA 10 87) ?_
         refine pQ 3 (some 35) (bA 10 95) ?_
         refine tQ 5 (some 37) (bA 10 127) ?_
         refine pQ 7 (some 39) (bA 10 255) ?_
         refine tQ 8 (some 40) (bA 10 511) ?_
         refine one_ (i := 9) (N := some 41) (bA 10 1023) rfl rfl (one_of HT_.out (by kernel_rfl)) (by decide) (fun K hK => ?_)
         refine goes_ Tryz.func171 (by kernel_rfl) rfl #[.slice (some ad239) (l00.take (x31 : Int).toNat).length c00, .string (rdOf ByteArray.empty l00 x31)] (by rfl) rfl rfl (by (try simp only [List.map_toArray, List.map_cons, List.map_nil]); first | done | (rw [show (l00.take (x31 : Int).toNat).length = x31.toNat from (by rw [List.length_take]; have h_ : (x31 : Int) ≤ (l00.length : Int) := tB; omega)] <;> rfl) | rfl | (simp only [List.length_drop, List.length_take]; rfl)) ?_
         with_reducible refine (rf_in.calls k1 _ _ (l00.take (x31 : Int).toNat) (rdOf ByteArray.empty l00 x31) t243 _ ?side1 ?side2 A16.out).mono ?_
         (case side1 => exact cS (Kd.C_below HR241.out HB.out))
         (case side2 => exact HC241.out)
         rintro e w' ⟨rfl, ⟨nd, rfl⟩⟩
         refine ⟨_, rfl, ?_⟩
         refine hK.out _ _ ⟨(blk_cell BK238.out 0).trans rfl, (blk_cell BK238.out 1).trans rfl, (blk_cell BK238.out 2).trans rfl, (blk_cell BK238.out 3).trans rfl, (blk_cell BK238.out 4).trans rfl, (blk_cell BK238.out 5).trans rfl, (blk_cell BK238.out 6).trans rfl, (cU HB hw2420 :)⟩ (fun hHeld => ?_)
         clear hK K
         refine norm_ (a' := ?_) ?_ ?_
         rotate_left
         ·show Act.put _ (some 41) _ = _
          exact tP
         refine done_ (done_of HT_.out (by kernel_rfl)) ?_
         have H := H'.out; clear H'
         by_cases c17 : t243 = true
         ·subst c17
          have H1 : (some 6) = some r := by rw [if_pos rfl] at H; exact H
          clear H; have H := H1; clear H1; obtain rfl := Option.some.inj H
          try go_wp2
          go_ret
          exact ⟨tE, bBl HB.out⟩
         ·replace c17 := Bool.eq_false_iff.mpr c17
          subst c17
          have H1 : (rf_Check.l0 k1 (wrap64 (x31 + 1)) l00 l01 l02 l03 a04 a05 a06) = some r := by rw [if_neg (show ¬ (false = true) by decide)] at H; exact H
          clear H; have H := H1; clear H1; have H' := Sd.mk H; clear H
          try go_wp2
          go_roundg k1
          case measure => have := HK1.out; omega
          case rel => exact ⟨(wrap64 (x31 + 1)), tS, H', ⟨by have := HK1.out; omega⟩, ⟨bkA BK238.out⟩, ⟨bBl HB.out⟩⟩
        ·rw [if_neg c15] at H
         exact absurd H (by simp)
       ·replace c13 := Bool.eq_false_iff.mpr c13
        subst c13
        have H1 : (some 5) = some r := by rw [if_neg (show ¬ (false = true) by decide)] at H; exact H
        clear H; have H := H1; clear H1; obtain rfl := Option.some.inj H; obtain ⟨u24_0, u24_1, u24_2, u24_3, u24_4, u24_5, u24_6, o240, o241, o242, o243, o244, o245, o246⟩ := bc7 (w := wr) BK238.out
        have p239 : 0 ≤ (x31 : Int) := tB
        have q239 : x31 < (l00.length : Int) := tB
        obtain ⟨ad239, e239, hx2390⟩ := Kd.at_string HR00.out x31 p239 q239; cases e239; replace hx2390 := cU HB hx2390; replace p239 := eq_true p239; replace q239 := eq_true q239
        go_wp2_with (first | ((with_reducible refine gate_callee (f := 170) rfl ?_); refine goesL_ (some 30) rfl rfl Tryz.func170 (by kernel_rfl) rfl #[.string (rdOf ByteArray.empty l00 x31)] rfl tM ?_; (with_reducible refine (rf_Name.calls k1 (rdOf ByteArray.empty l00 x31) false _ A12.out).mono ?_); rintro e w' ⟨rfl, ⟨nd, rfl⟩⟩; refine ⟨_, rfl, ?_⟩))
        go_ret
        exact ⟨tE, bBl HB.out⟩
      ·rw [if_neg c11] at H
       exact absurd H (by simp)
     ·rw [if_neg c10] at H
      have c10b0 : decide (x31 < (l00.length : Int)) = false := decide_eq_false c10
      clear c10
      by_cases c25 : (l01.length : Int) > 12
      ·rw [if_pos c25] at H
       have c25b0 : decide (12 < (l01.length : Int)) = true := decide_eq_true c25
       have c25b1 : decide (12 < l01.length) = true := decide_eq_true (by omega)
       clear c25; obtain rfl := Option.some.inj H; obtain ⟨u26_0, u26_1, u26_2, u26_3, u26_4, u26_5, u26_6, o260, o261, o262, o263, o264, o265, o266⟩ := bc7 (w := wr) BK238.out
       go_wp2
       go_ret
       exact ⟨tE, bBl HB.out⟩
      ·rw [if_neg c25] at H
       have c25b0 : decide (12 < (l01.length : Int)) = false := decide_eq_false c25
       have c25b1 : decide (12 < l01.length) = false := decide_eq_false (by omega)
       clear c25
       by_cases c27 : (l01.length : Int) = 0
       ·rw [if_pos c27] at H
        have c27b0 : ((l01.length : Int) == 0) = true := beq_iff_eq.mpr c27
        have c27b1 : ((l01.length : Int) != 0) = false := bne_eq_false_iff_eq.mpr c27
        clear c27; obtain rfl := Option.some.inj H; obtain ⟨u28_0, u28_1, u28_2, u28_3, u28_4, u28_5, u28_6, o280, o281, o282, o283, o284, o285, o286⟩ := bc7 (w := wr) BK238.out
        go_wp2
        go_ret
        exact ⟨tE, bBl HB.out⟩
       ·rw [if_neg c27] at H
        have c27b0 : ((l01.length : Int) == 0) = false := beq_eq_false_iff_ne.mpr c27
        have c27b1 : ((l01.length : Int) != 0) = true := bne_iff_ne.mpr c27
        have c27b2 : ¬ (l01 = []) := fun h_ => c27 (by rw [h_]; rfl)
        have H' := Sd.mk H; clear H; obtain ⟨u29_0, u29_1, u29_2, u29_3, u29_4, u29_5, u29_6, o290, o291, o292, o293, o294, o295, o296⟩ := bc7 (w := wr) BK238.out
        go_wp2
        go_loopg [4, 5] k1 (fun kq v4 v5 w' => ∃ (x42 : List ByteArray) (x52 : Int), v5 = .int .i64 x52 ∧ Sd (rf_Check.l1 kq x42 x52 l00 l01 l02 l03 a04 a05 a06 = some r) ∧ Sd (kq ≤ k1) ∧ Sd (Kd.R Kd.string 9 w' w.heap.size (fun _ => True) v4 x42) ∧ Sd (w'.heap[gb238]? = some (.cells #[(.slice A00 l00.length c00), (.slice A01 l01.length c01), (.slice A02 l02.length c02), (.slice A03 l03.length c03), .int .i64 a04, .int .i64 a05, .int .i64 a06] 29 (0, 0))) ∧ Sd (Below w.heap.size w w'))
        case atStart => exact ⟨(([] : List ByteArray)), (0), tS, H', ⟨Nat.le_refl _⟩, ⟨by first | exact Kd.R_nil _ _ _ _ _ | exact Kd.N_nil _ _ _ _ _ | exact Kd.V_nil _ _ _ _ _ | exact Kd.Q_nil _ _ _ _ _ | exact Kd.S_nil _ _ _ _ _⟩, ⟨bkA BK238.out⟩, ⟨bBl HB.out⟩⟩
        case round =>
         clear H'; (try clear c1); (try clear c2); (try clear c2b0); (try clear c2b1); (try clear p2 p2); (try clear q2); (try clear hx2); (try clear c5); (try clear c5b0); (try clear c5b1); (try clear c5b2); (try clear p6); (try clear c8); (try clear c10); (try clear c10b0); (try clear c11); (try clear c11b0); (try clear c13); (try clear c14); (try clear c14b0); (try clear c15); (try clear c15b0); (try clear c15b1); (try clear c17); (try clear p23); (try clear q23); (try clear hx23); (try clear p24); (try clear q24); (try clear hx24); (try clear c25); (try clear c25b0); (try clear c25b1); (try clear c27); (try clear c27b0); (try clear c27b1); (try clear c27b2); (try clear u18_0 u18_1 u18_2 u18_3 u18_4 u18_5 u18_6); (try clear u21_0 u21_1 u21_2 u21_3 u21_4 u21_5 u21_6); (try clear u24_0 u24_1 u24_2 u24_3 u24_4 u24_5 u24_6); (try clear u26_0 u26_1 u26_2 u26_3 u26_4 u26_5 u26_6); (try clear u28_0 u28_1 u28_2 u28_3 u28_4 u28_5 u28_6); (try clear u29_0 u29_1 u29_2 u29_3 u29_4 u29_5 u29_6); (try clear u4_0 u4_1 u4_2 u4_3 u4_4 u4_5 u4_6); (try clear u7_0 u7_1 u7_2 u7_3 u7_4 u7_5 u7_6); (try clear u9_0 u9_1 u9_2 u9_3 u9_4 u9_5 u9_6); (try clear o180 o181 o182 o183 o184 o185 o186); (try clear o210 o211 o212 o213 o214 o215 o216); (try clear o240 o241 o242 o243 o244 o245 o246); (try clear o260 o261 o262 o263 o264 o265 o266); (try clear o280 o281 o282 o283 o284 o285 o286); (try clear o290 o291 o292 o293 o294 o295 o296); (try clear o40 o41 o42 o43 o44 o45 o46); (try clear o70 o71 o72 o73 o74 o75 o76); (try clear o90 o91 o92 o93 o94 o95 o96); (try clear hx2390); (try clear hx2420); (try clear p239); (try clear p242); (try clear q239); (try clear q242); obtain ⟨x42, x52, rfl, HA, HK2, HO_4, BK238, HB⟩ := hrel
         cases gk with
         | zero => exact absurd HA.out (by simp [rf_Check.l1])
         | succ k2 =>
          have H := HA.out; clear HA
          simp only [rf_Check.l1] at H
          by_cases c30 : x52 < (l01.length : Int)
          ·rw [if_pos c30] at H
           have c30b0 : decide (x52 < (l01.length : Int)) = true := decide_eq_true c30
           clear c30
           by_cases c31 : 0 ≤ x52
           ·rw [if_pos c31] at H
            have c31b0 : decide (0 ≤ x52) = true := decide_eq_true c31
            clear c31; replace H := Option.bind_eq_some_iff.mp H; obtain ⟨t245, A320, H⟩ := H
            try dsimp only at H
            have A32 := Sd.mk A320; clear A320
            by_cases c33 : t245 = true
            ·subst c33
             have H1 : ((rf_in.f k2 x42 ((rd_T70 l01 x52).f0)).bind fun t247 => (if t247 = true then (some 6) else (if x42.length < 8796093022208 then ((rf_material.f k2 l00 l01 l02 l03 a04 a05 a06 ((rd_T70 l01 x52).f0) ((rd_T70 l01 x52).f1) ((rd_T70 l01 x52).f2) ((rd_T70 l01 x52).f3) ((rd_T70 l01 x52).f4) ((rd_T70 l01 x52).f5) ((rd_T70 l01 x52).f6)).bind fun t253 => (if t253 = 0 then (rf_Check.l1 k2 (x42 ++ [(rd_T70 l01 x52).f0]) (wrap64 (x52 + 1)) l00 l01 l02 l03 a04 a05 a06) else (some t253))) else (none)))) = some r := by rw [if_pos rfl] at H; exact H
             clear H; have H := H1; clear H1; replace H := Option.bind_eq_some_iff.mp H; obtain ⟨t247, A340, H⟩ := H
             try dsimp only at H
             have A34 := Sd.mk A340; clear A340
             by_cases c35 : t247 = true
             ·subst c35
              have H1 : (some 6) = some r := by rw [if_pos rfl] at H; exact H
              clear H; have H := H1; clear H1; obtain rfl := Option.some.inj H; obtain ⟨u36_0, u36_1, u36_2, u36_3, u36_4, u36_5, u36_6, o360, o361, o362, o363, o364, o365, o366⟩ := bc7 (w := wr) BK238.out
              have p244 : 0 ≤ (x52 : Int) := tB
              have q244 : x52 < (l01.length : Int) := tB
              obtain ⟨ad244, A2446, c2446, e244, hx2440, hx2441, hx2442, hx2443, hx2444, hx2445, hx2446, hl2446, hi2446⟩ := at_T70 HR01.out x52 p244 q244; cases e244; replace hx2440 := cU HB hx2440; replace hx2441 := cU HB hx2441; replace hx2442 := cU HB hx2442; replace hx2443 := cU HB hx2443; replace hx2444 := cU HB hx2444; replace hx2445 := cU HB hx2445; replace hx2446 := cU HB hx2446; have HR2446 := Sd.mk hi2446; have HC2446 := Sd.mk hl2446; clear hi2446 hl2446; replace p244 := eq_true p244; replace q244 := eq_true q244
              go_wp2_with (first | ((with_reducible refine gate_callee (f := 170) rfl ?_); refine goesL_ (some 63) rfl rfl Tryz.func170 (by kernel_rfl) rfl #[.string ((rd_T70 l01 x52).f0)] rfl tM ?_; (with_reducible refine (rf_Name.calls k2 ((rd_T70 l01 x52).f0) true _ A32.out).mono ?_); rintro e w' ⟨rfl, ⟨nd, rfl⟩⟩; refine ⟨_, rfl, ?_⟩; have p246 : 0 ≤ (x52 : Int) := tB; have q246 : x52 < (l01.length : Int) := tB; obtain ⟨ad246, A2466, c2466, e246, hx2460, hx2461, hx2462, hx2463, hx2464, hx2465, hx2466, hl2466, hi2466⟩ := at_T70 HR01.out x52 p246 q246; obtain rfl : ad244 = ad246 := (by injection e246); replace hx2460 := cU HB hx2460; replace hx2461 := cU HB hx2461; replace hx2462 := cU HB hx2462; replace hx2463 := cU HB hx2463; replace hx2464 := cU HB hx2464; replace hx2465 := cU HB hx2465; replace hx2466 := cU HB hx2466; have HR2466 := Sd.mk hi2466; have HC2466 := Sd.mk hl2466; clear hi2466 hl2466; replace p246 := eq_true p246; replace q246 := eq_true q246; have ea_ := Option.some.inj (hx2446.symm.trans hx2466); injection ea_ with ea_ en_ ec_; subst ea_; subst ec_; clear en_; obtain ⟨Ao37, co37, eo37⟩ := Kd.R_slice HO_4.out; subst eo37) | ((with_reducible refine gate_callee (f := 171) rfl ?_); refine goesL_ (some 72) rfl rfl Tryz.func171 (by kernel_rfl) rfl #[.slice Ao37 x42.length co37, .string ((rd_T70 l01 x52).f0)] rfl tM ?_; (with_reducible refine (rf_in.calls k2 _ _ x42 ((rd_T70 l01 x52).f0) true _ (cS ((Kd.R_reads' HO_4.out).2.2)) ((Kd.R_reads' HO_4.out).2.1) A34.out).mono ?_); rintro e w' ⟨rfl, ⟨nd, rfl⟩⟩; refine ⟨_, rfl, ?_⟩))
              go_ret
              exact ⟨tE, bBl HB.out⟩
             ·replace c35 := Bool.eq_false_iff.mpr c35
              subst c35
              have H1 : (if x42.length < 8796093022208 then ((rf_material.f k2 l00 l01 l02 l03 a04 a05 a06 ((rd_T70 l01 x52).f0) ((rd_T70 l01 x52).f1) ((rd_T70 l01 x52).f2) ((rd_T70 l01 x52).f3) ((rd_T70 l01 x52).f4) ((rd_T70 l01 x52).f5) ((rd_T70 l01 x52).f6)).bind fun t253 => (if t253 = 0 then (rf_Check.l1 k2 (x42 ++ [(rd_T70 l01 x52).f0]) (wrap64 (x52 + 1)) l00 l01 l02 l03 a04 a05 a06) else (some t253))) else (none)) = some r := by rw [if_neg (show ¬ (false = true) by decide)] at H; exact H
              clear H; have H := H1; clear H1
              by_cases c38 : x42.length < 8796093022208
              ·rw [if_pos c38] at H
               have LMc38 := Sd.mk c38; clear c38
               obtain ⟨y249, hy249⟩ : ∃ y_ : List ByteArray, y_ = (x42 ++ [(rd_T70 l01 x52).f0]) := ⟨_, rfl⟩
               replace H : ((rf_material.f k2 l00 l01 l02 l03 a04 a05 a06 ((rd_T70 l01 x52).f0) ((rd_T70 l01 x52).f1) ((rd_T70 l01 x52).f2) ((rd_T70 l01 x52).f3) ((rd_T70 l01 x52).f4) ((rd_T70 l01 x52).f5) ((rd_T70 l01 x52).f6)).bind fun t253 => (if t253 = 0 then (rf_Check.l1 k2 y249 (wrap64 (x52 + 1)) l00 l01 l02 l03 a04 a05 a06) else (some t253))) = some r := by first | (rw [hy249]; with_reducible exact H) | (have H2_ := (Option.bind_some _ _).symm.trans H; rw [hy249]; with_reducible exact H2_) | (have H2_ := (Option.bind_some _ _).symm.trans H; with_reducible exact H2_) | with_reducible exact H | (rw [hy249]; exact H) | exact H
               have Ny249 := Sd.mk hy249; clear hy249; replace H := Option.bind_eq_some_iff.mp H; obtain ⟨t253, A390, H⟩ := H
               try dsimp only at H
               have A39 := Sd.mk A390; clear A390
               have H' := Sd.mk H; clear H; obtain ⟨u41_0, u41_1, u41_2, u41_3, u41_4, u41_5, u41_6, o410, o411, o412, o413, o414, o415, o416⟩ := bc7 (w := wr) BK238.out
               have p244 : 0 ≤ (x52 : Int) := tB
               have q244 : x52 < (l01.length : Int) := tB
               obtain ⟨ad244, A2446, c2446, e244, hx2440, hx2441, hx2442, hx2443, hx2444, hx2445, hx2446, hl2446, hi2446⟩ := at_T70 HR01.out x52 p244 q244; cases e244; replace hx2440 := cU HB hx2440; replace hx2441 := cU HB hx2441; replace hx2442 := cU HB hx2442; replace hx2443 := cU HB hx2443; replace hx2444 := cU HB hx2444; replace hx2445 := cU HB hx2445; replace hx2446 := cU HB hx2446; have HR2446 := Sd.mk hi2446; have HC2446 := Sd.mk hl2446; clear hi2446 hl2446; replace p244 := eq_true p244; replace q244 := eq_true q244
               try go_wp2_with (first | ((with_reducible refine gate_callee (f := 170) rfl ?_); refine goesL_ (some 63) rfl rfl Tryz.func170 (by kernel_rfl) rfl #[.string ((rd_T70 l01 x52).f0)] rfl tM ?_; (with_reducible refine (rf_Name.calls k2 ((rd_T70 l01 x52).f0) true _ A32.out).mono ?_); rintro e w' ⟨rfl, ⟨nd, rfl⟩⟩; refine ⟨_, rfl, ?_⟩; have p246 : 0 ≤ (x52 : Int) := tB; have q246 : x52 < (l01.length : Int) := tB; obtain ⟨ad246, A2466, c2466, e246, hx2460, hx2461, hx2462, hx2463, hx2464, hx2465, hx2466, hl2466, hi2466⟩ := at_T70 HR01.out x52 p246 q246; obtain rfl : ad244 = ad246 := (by injection e246); replace hx2460 := cU HB hx2460; replace hx2461 := cU HB hx2461; replace hx2462 := cU HB hx2462; replace hx2463 := cU HB hx2463; replace hx2464 := cU HB hx2464; replace hx2465 := cU HB hx2465; replace hx2466 := cU HB hx2466; have HR2466 := Sd.mk hi2466; have HC2466 := Sd.mk hl2466; clear hi2466 hl2466; replace p246 := eq_true p246; replace q246 := eq_true q246; have ea_ := Option.some.inj (hx2446.symm.trans hx2466); injection ea_ with ea_ en_ ec_; subst ea_; subst ec_; clear en_; obtain ⟨Ao42, co42, eo42⟩ := Kd.R_slice HO_4.out; subst eo42) | ((with_reducible refine gate_callee (f := 171) rfl ?_); refine goesL_ (some 72) rfl rfl Tryz.func171 (by kernel_rfl) rfl #[.slice Ao42 x42.length co42, .string ((rd_T70 l01 x52).f0)] rfl tM ?_; (with_reducible refine (rf_in.calls k2 _ _ x42 ((rd_T70 l01 x52).f0) false _ (cS ((Kd.R_reads' HO_4.out).2.2)) ((Kd.R_reads' HO_4.out).2.1) A34.out).mono ?_); rintro e w' ⟨rfl, ⟨nd, rfl⟩⟩; refine ⟨_, rfl, ?_⟩; have p248 : 0 ≤ (x52 : Int) := tB; have q248 : x52 < (l01.length : Int) := tB; obtain ⟨ad248, A2486, c2486, e248, hx2480, hx2481, hx2482, hx2483, hx2484, hx2485, hx2486, hl2486, hi2486⟩ := at_T70 HR01.out x52 p248 q248; obtain rfl : ad244 = ad248 := (by injection e248); replace hx2480 := cU HB hx2480; replace hx2481 := cU HB hx2481; replace hx2482 := cU HB hx2482; replace hx2483 := cU HB hx2483; replace hx2484 := cU HB hx2484; replace hx2485 := cU HB hx2485; replace hx2486 := cU HB hx2486; have HR2486 := Sd.mk hi2486; have HC2486 := Sd.mk hl2486; clear hi2486 hl2486; replace p248 := eq_true p248; replace q248 := eq_true q248; have ea_ := Option.some.inj (hx2446.symm.trans hx2486); injection ea_ with ea_ en_ ec_; subst ea_; subst ec_; clear en_) | ((with_reducible refine gate_builtin (b := .append) (xs := #[.tmp 73, .tmp 80]) rfl ?_); at_builtin; refine Kd.R_append Kd.string (w0 := w) w.heap.size rfl (.tmp 73) (.tmp 80) 22 9 (.string ⟨#[]⟩) 16 rfl Tryz.underlying22 info9 rfl (by decide) (by omega) (.slice Ao42 x42.length co42) x42 ((rd_T70 l01 x52).f0) [.string ((rd_T70 l01 x52).f0)] (fun _ => True) (fun _ => False) rfl rfl ?aP (fun _ hk => hk.elim) ?aF ?aO ?aB ?aS ?aL ?_; (case aP => exact rfl); (case aB => exact (bBl HB.out)); (case aF => exact (fun _ _ => trivial)); (case aO => exact (by (with_reducible repeat (first | apply Kd.R_alloc | apply Kd.R_drewN | apply Kd.R_drew)); exact HO_4.out)); (case aS => exact (below_size (bBl HB.out))); (case aL => have := LMc38.out; omega); intro v250 w43 ho hb hg hat; rw [← Ny249.out] at ho; replace BK238 := Sd.mk (blk_grown (bkA BK238.out) hg (Kd.R_ne HO_4.out BK238.out (by decide))); replace HB := Sd.mk (hb); have HO251 := Sd.mk (ho); clear HO_4; clear ho hb hg hat))
               replace HO251 := Sd.mk (Kd.R_drew HO251.out); replace BK238 := Sd.mk (blk_drew BK238.out); replace HB := Sd.mk (below_drew1 HB.out)
               have p252 : 0 ≤ (x52 : Int) := tB
               have q252 : x52 < (l01.length : Int) := tB
               obtain ⟨ad252, A2526, c2526, e252, hx2520, hx2521, hx2522, hx2523, hx2524, hx2525, hx2526, hl2526, hi2526⟩ := at_T70 HR01.out x52 p252 q252; have hw2526 := hx2526; have hw2525 := hx2525; have hw2524 := hx2524; have hw2523 := hx2523; have hw2522 := hx2522; have hw2521 := hx2521; have hw2520 := hx2520
               obtain rfl : ad244 = ad252 := (by injection e252)
               replace hx2520 := cU HB hx2520; replace hx2521 := cU HB hx2521; replace hx2522 := cU HB hx2522; replace hx2523 := cU HB hx2523; replace hx2524 := cU HB hx2524; replace hx2525 := cU HB hx2525; replace hx2526 := cU HB hx2526; have HR2526 := Sd.mk hi2526; have HC2526 := Sd.mk hl2526; clear hi2526 hl2526; replace p252 := eq_true p252; replace q252 := eq_true q252
               refine start_ (n := 8) (S := fun w' => w'.cell? ⟨gb238, 0, none⟩ = some (.slice A00 l00.length c00) ∧ w'.cell? ⟨gb238, 1, none⟩ = some (.slice (some ad244) l01.length c01) ∧ w'.cell? ⟨gb238, 2, none⟩ = some (.slice A02 l02.length c02) ∧ w'.cell? ⟨gb238, 3, none⟩ = some (.slice A03 l03.length c03) ∧ w'.cell? ⟨gb238, 4, none⟩ = some (.int .i64 a04) ∧ w'.cell? ⟨gb238, 5, none⟩ = some (.int .i64 a05) ∧ w'.cell? ⟨gb238, 6, none⟩ = some (.int .i64 a06) ∧ w'.cell? (ad244.add ((x52).toNat * 7)) = some (.string ((rd_T70 l01 x52).f0)) ∧ w'.cell? ⟨(ad244.add ((x52).toNat * 7)).block, (ad244.add ((x52).toNat * 7)).off + 1, none⟩ = some (.int .i64 ((rd_T70 l01 x52).f1)) ∧ w'.cell? ⟨(ad244.add ((x52).toNat * 7)).block, (ad244.add ((x52).toNat * 7)).off + 2, none⟩ = some (.int .i64 ((rd_T70 l01 x52).f2)) ∧ w'.cell? ⟨(ad244.add ((x52).toNat * 7)).block, (ad244.add ((x52).toNat * 7)).off + 3, none⟩ = some (.int .i64 ((rd_T70 l01 x52).f3)) ∧ w'.cell? ⟨(ad244.add ((x52).toNat * 7)).block, (ad244.add ((x52).toNat * 7)).off + 4, none⟩ = some (.int .i64 ((rd_T70 l01 x52).f4)) ∧ w'.cell? ⟨(ad244.add ((x52).toNat * 7)).block, (ad244.add ((x52).toNat * 7)).off + 5, none⟩ = some (.int .i64 ((rd_T70 l01 x52).f5)) ∧ w'.cell? ⟨(ad244.add ((x52).toNat * 7)).block, (ad244.add ((x52).toNat * 7)).off + 6, none⟩ = some (.slice A2526 ((rd_T70 l01 x52).f6).length c2526)) (ds := []) (bA 8 0) (by kernel_rfl) rfl rfl ⟨(blk_cell BK238.out 0).trans rfl, (blk_cell BK238.out 1).trans rfl, (blk_cell BK238.out 2).trans rfl, (blk_cell BK238.out 3).trans rfl, (blk_cell BK238.out 4).trans rfl, (blk_cell BK238.out 5).trans rfl, (blk_cell BK238.out 6).trans rfl, (cU HB hw2520 :), (cU HB hw2521 :), (cU HB hw2522 :), (cU HB hw2523 :), (cU HB hw2524 :), (cU HB hw2525 :), (cU HB hw2526 :)⟩ (fun hHeld => ?_); refine with_tabW rf_Check.tab25 rf_Check.bits25 (fun HT_ HW_ => ?_)
               generalize w43.drew = w44 at HO251 BK238 HB HR2526 hx2520 hx2521 hx2522 hx2523 hx2524 hx2525 hx2526 hHeld ⊢
               refine pQ 1 (some 83) (bA 8 2) ?_
               refine pQ 3 (some 85) (bA 8 10) ?_
               refine tQ 0 (some 82) (bA 8 11) ?_
               refine tQ 2 (some 84) (bA 8 15) ?_
               refine pQ 4 (some 86) (bA 8 31) ?_
               refine tQ 5 (some 87) (bA 8 63) ?_
               refine one_ (i := 6) (N := some 88) (bA 8 127) rfl rfl (one_of HT_.out (by kernel_rfl)) (by decide) (fun K hK => ?_)
               refine goes_ Tryz.func172 (by kernel_rfl) rfl #[.agg #[.slice A00 l00.length c00, .slice (some ad244) l01.length c01, .slice A02 l02.length c02, .slice A03 l03.length c03, .int .i64 a04, .int .i64 a05, .int .i64 a06], .agg #[.string ((rd_T70 l01 x52).f0), .int .i64 ((rd_T70 l01 x52).f1), .int .i64 ((rd_T70 l01 x52).f2), .int .i64 ((rd_T70 l01 x52).f3), .int .i64 ((rd_T70 l01 x52).f4), .int .i64 ((rd_T70 l01 x52).f5), .slice A2526 ((rd_T70 l01 x52).f6).length c2526]] (by rfl) rfl rfl tM ?_
               with_reducible refine (rf_material.calls k2 _ _ l00 _ _ l01 _ _ l02 _ _ l03 a04 a05 a06 ((rd_T70 l01 x52).f0) ((rd_T70 l01 x52).f1) ((rd_T70 l01 x52).f2) ((rd_T70 l01 x52).f3) ((rd_T70 l01 x52).f4) ((rd_T70 l01 x52).f5) _ _ ((rd_T70 l01 x52).f6) t253 _ ?side1 ?side2 ?side3 ?side4 ?side5 ?side6 ?side7 ?side8 ?side9 ?side10 A39.out).mono ?_
               (case side1 => exact cS (Kd.C_below HR00.out HB.out))
               (case side2 => exact HC00.out)
               (case side3 => exact cS (Kd.C_below HR01.out HB.out))
               (case side4 => exact HC01.out)
               (case side5 => exact cS (Kd.C_below HR02.out HB.out))
               (case side6 => exact HC02.out)
               (case side7 => exact cS (Kd.C_below HR03.out HB.out))
               (case side8 => exact HC03.out)
               (case side9 => exact cS (Kd.C_below HR2526.out HB.out))
               (case side10 => exact HC2526.out)
               rintro e w45 ⟨rfl, hb⟩
               refine ⟨_, rfl, ?_⟩
               replace HO251 := Sd.mk (Kd.R_below (by (with_reducible repeat (first | apply Kd.R_alloc | apply Kd.R_drewN | apply Kd.R_drew)); exact HO251.out) hb)
               replace BK238 := Sd.mk (blk_below (bkA BK238.out) hb); replace HB := Sd.mk (below_step (bBl HB.out) hb)
               (try clear hb)
               (try clear hb2)
               (try clear hk)
               (try clear hi)
               refine hK.out _ _ ⟨(blk_cell BK238.out 0).trans rfl, (blk_cell BK238.out 1).trans rfl, (blk_cell BK238.out 2).trans rfl, (blk_cell BK238.out 3).trans rfl, (blk_cell BK238.out 4).trans rfl, (blk_cell BK238.out 5).trans rfl, (blk_cell BK238.out 6).trans rfl, (cU HB hw2520 :), (cU HB hw2521 :), (cU HB hw2522 :), (cU HB hw2523 :), (cU HB hw2524 :), (cU HB hw2525 :), (cU HB hw2526 :)⟩ (fun hHeld => ?_)
               clear hK K
               refine norm_ (a' := ?_) ?_ ?_
               rotate_left
               ·show Act.put _ (some 88) _ = _
                exact tP
               refine pQ 7 (some 6) (bA 8 255) ?_
               refine done_ (done_of HT_.out (by kernel_rfl)) ?_
               have H := H'.out; clear H'
               by_cases c40 : t253 = 0
               ·rw [if_pos c40] at H
                have c40b0 : (t253 == 0) = true := beq_iff_eq.mpr c40
                have c40b1 : (t253 != 0) = false := bne_eq_false_iff_eq.mpr c40
                clear c40; have H' := Sd.mk H; clear H
                try go_wp2
                go_roundg k2
                case measure => have := HK1.out; have := HK2.out; omega
                case rel => exact ⟨(y249), (wrap64 (x52 + 1)), tS, H', ⟨by have := HK1.out; have := HK2.out; omega⟩, ⟨by (with_reducible repeat (first | apply Kd.R_alloc | apply Kd.R_drewN | apply Kd.R_drew)); exact HO251.out⟩, ⟨bkA BK238.out⟩, ⟨bBl HB.out⟩⟩
               ·rw [if_neg c40] at H
                have c40b0 : (t253 == 0) = false := beq_eq_false_iff_ne.mpr c40
                have c40b1 : (t253 != 0) = true := bne_iff_ne.mpr c40
                obtain rfl := Option.some.inj H
                try go_wp2
                go_ret
                exact ⟨tE, bBl HB.out⟩
              ·rw [if_neg c38] at H
               exact absurd H (by simp)
            ·replace c33 := Bool.eq_false_iff.mpr c33
             subst c33
             have H1 : (some 5) = some r := by rw [if_neg (show ¬ (false = true) by decide)] at H; exact H
             clear H; have H := H1; clear H1; obtain rfl := Option.some.inj H; obtain ⟨u51_0, u51_1, u51_2, u51_3, u51_4, u51_5, u51_6, o510, o511, o512, o513, o514, o515, o516⟩ := bc7 (w := wr) BK238.out
             have p244 : 0 ≤ (x52 : Int) := tB
             have q244 : x52 < (l01.length : Int) := tB
             obtain ⟨ad244, A2446, c2446, e244, hx2440, hx2441, hx2442, hx2443, hx2444, hx2445, hx2446, hl2446, hi2446⟩ := at_T70 HR01.out x52 p244 q244; cases e244; replace hx2440 := cU HB hx2440; replace hx2441 := cU HB hx2441; replace hx2442 := cU HB hx2442; replace hx2443 := cU HB hx2443; replace hx2444 := cU HB hx2444; replace hx2445 := cU HB hx2445; replace hx2446 := cU HB hx2446; have HR2446 := Sd.mk hi2446; have HC2446 := Sd.mk hl2446; clear hi2446 hl2446; replace p244 := eq_true p244; replace q244 := eq_true q244
             go_wp2_with (first | ((with_reducible refine gate_callee (f := 170) rfl ?_); refine goesL_ (some 63) rfl rfl Tryz.func170 (by kernel_rfl) rfl #[.string ((rd_T70 l01 x52).f0)] rfl tM ?_; (with_reducible refine (rf_Name.calls k2 ((rd_T70 l01 x52).f0) false _ A32.out).mono ?_); rintro e w' ⟨rfl, ⟨nd, rfl⟩⟩; refine ⟨_, rfl, ?_⟩))
             go_ret
             exact ⟨tE, bBl HB.out⟩
           ·rw [if_neg c31] at H
            exact absurd H (by simp)
          ·rw [if_neg c30] at H
           have c30b0 : decide (x52 < (l01.length : Int)) = false := decide_eq_false c30
           clear c30
           by_cases c52 : (l02.length : Int) = (l00.length : Int)
           ·rw [if_pos c52] at H
            have c52b0 : ((l02.length : Int) == (l00.length : Int)) = true := beq_iff_eq.mpr c52
            have c52b1 : ((l02.length : Int) != (l00.length : Int)) = false := bne_eq_false_iff_eq.mpr c52
            have c52b2 : (l02.length == l00.length) = true := by first | simpa using c52 | (simp at c52 ⊢; omega)
            clear c52; have H' := Sd.mk H; clear H; obtain ⟨u53_0, u53_1, u53_2, u53_3, u53_4, u53_5, u53_6, o530, o531, o532, o533, o534, o535, o536⟩ := bc7 (w := wr) BK238.out
            go_wp2
            go_loopg [7] k2 (fun kq v7 w' => ∃ (x73 : Int), v7 = .int .i64 x73 ∧ Sd (rf_Check.l2 kq x73 l00 l01 l02 l03 a04 a05 a06 = some r) ∧ Sd (kq ≤ k2) ∧ Sd (w'.heap[gb238]? = some (.cells #[(.slice A00 l00.length c00), (.slice A01 l01.length c01), (.slice A02 l02.length c02), (.slice A03 l03.length c03), .int .i64 a04, .int .i64 a05, .int .i64 a06] 29 (0, 0))) ∧ Sd (Below w.heap.size w w'))
            case atStart => exact ⟨(0), tS, H', ⟨Nat.le_refl _⟩, ⟨bkA BK238.out⟩, ⟨bBl HB.out⟩⟩
            case round =>
             clear H'; (try clear c1); (try clear c2); (try clear p2 p2); (try clear q2); (try clear hx2); (try clear c3); (try clear c4); (try clear c5); (try clear p6); (try clear c17); (try clear p23); (try clear q23); (try clear hx23); (try clear c24); (try clear p24); (try clear q24); (try clear hx24); (try clear c25); (try clear p25); (try clear q25); (try clear hx25); (try clear c30); (try clear c30b0); (try clear c31); (try clear c31b0); (try clear c33); (try clear c35); (try clear c38); (try clear c40); (try clear c40b0); (try clear c40b1); (try clear c52); (try clear c52b0); (try clear c52b1); (try clear c52b2); (try clear u28_5 u28_6); (try clear u29_0 u29_1 u29_2 u29_3 u29_4 u29_5 u29_6); (try clear u36_0 u36_1 u36_2 u36_3 u36_4 u36_5 u36_6); (try clear u41_0 u41_1 u41_2 u41_3 u41_4 u41_5 u41_6); (try clear u46_0 u46_1 u46_2 u46_3 u46_4 u46_5 u46_6); (try clear u4_0 u4_1 u4_2 u4_3 u4_4 u4_5 u4_6); (try clear u51_0 u51_1 u51_2 u51_3 u51_4 u51_5 u51_6); (try clear u53_0 u53_1 u53_2 u53_3 u53_4 u53_5 u53_6); (try clear u7_0 u7_1 u7_2 u7_3 u7_4 u7_5 u7_6); (try clear u9_0 u9_1 u9_2 u9_3 u9_4 u9_5 u9_6); (try clear o180 o181 o182 o183 o184 o185 o186); (try clear o210 o211 o212 o213 o214 o215 o216); (try clear o240 o241 o242 o243 o244 o245 o246); (try clear o260 o261 o262 o263 o264 o265 o266); (try clear o280 o281 o282 o283 o284 o285 o286); (try clear o290 o291 o292 o293 o294 o295 o296); (try clear o360 o361 o362 o363 o364 o365 o366); (try clear o410 o411 o412 o413 o414 o415 o416); (try clear o460 o461 o462 o463 o464 o465 o466); (try clear o40 o41 o42 o43 o44 o45 o46); (try clear o510 o511 o512 o513 o514 o515 o516); (try clear o530 o531 o532 o533 o534 o535 o536); (try clear o70 o71 o72 o73 o74 o75 o76); (try clear o90 o91 o92 o93 o94 o95 o96); (try clear hx2390); (try clear hx2420); (try clear hx2440); (try clear hx2441); (try clear hx2442); (try clear hx2443); (try clear hx2444); (try clear hx2445); (try clear hx2446); (try clear hx2460); (try clear hx2461); (try clear hx2462); (try clear hx2463); (try clear hx2464); (try clear hx2465); (try clear hx2466); (try clear hx2480); (try clear hx2481); (try clear hx2482); (try clear hx2483); (try clear hx2484); (try clear hx2485); (try clear hx2486); (try clear hx2520); (try clear hx2521); (try clear hx2522); (try clear hx2523); (try clear hx2524); (try clear hx2525); (try clear hx2526); (try clear p239); (try clear p242); (try clear p244); (try clear p246); (try clear p248); (try clear p252); (try clear q239); (try clear q242); (try clear q244); (try clear q246); (try clear q248); (try clear q252); obtain ⟨x73, rfl, HA, HK3, BK238, HB⟩ := hrel
             cases gk with
             | zero => exact absurd HA.out (by simp [rf_Check.l2])
             | succ k3 =>
              have H := HA.out; clear HA
              simp only [rf_Check.l2] at H
              by_cases c54 : x73 < (l02.length : Int)
              ·rw [if_pos c54] at H
               have c54b0 : decide (x73 < (l02.length : Int)) = true := decide_eq_true c54
               clear c54
               by_cases c55 : 0 ≤ x73
               ·rw [if_pos c55] at H
                have c55b0 : decide (0 ≤ x73) = true := decide_eq_true c55
                clear c55; replace H := Option.bind_eq_some_iff.mp H; obtain ⟨t255, A560, H⟩ := H
                try dsimp only at H
                have A56 := Sd.mk A560; clear A560
                by_cases c57 : t255 = true
                ·subst c57
                 have H1 : (rf_Check.l2 k3 (wrap64 (x73 + 1)) l00 l01 l02 l03 a04 a05 a06) = some r := by rw [if_pos rfl] at H; exact H
                 clear H; have H := H1; clear H1; have H' := Sd.mk H; clear H; obtain ⟨u58_0, u58_1, u58_2, u58_3, u58_4, u58_5, u58_6, o580, o581, o582, o583, o584, o585, o586⟩ := bc7 (w := wr) BK238.out
                 have p254 : 0 ≤ (x73 : Int) := tB
                 have q254 : x73 < (l02.length : Int) := tB
                 obtain ⟨ad254, e254, hx2540, hx2541⟩ := at_T27 HR02.out x73 p254 q254; cases e254; replace hx2540 := cU HB hx2540; replace hx2541 := cU HB hx2541; replace p254 := eq_true p254; replace q254 := eq_true q254
                 go_wp2_with (first | ((with_reducible refine gate_callee (f := 173) rfl ?_); refine goesL_ (some 111) rfl rfl Tryz.func173 (by kernel_rfl) rfl #[.agg #[.int .i64 ((rd_T27 l02 x73).f0), .int .i64 ((rd_T27 l02 x73).f1)], .int .i64 0, .int .i64 1000] rfl tM ?_; (with_reducible refine (rf_within.calls ((rd_T27 l02 x73).f0) ((rd_T27 l02 x73).f1) 0 1000 true _ A56.out).mono ?_); rintro e w59 ⟨rfl, hb⟩; refine ⟨_, rfl, ?_⟩; replace BK238 := Sd.mk (blk_below (bkA BK238.out) hb); replace HB := Sd.mk (below_step (bBl HB.out) hb); (try clear hb); (try clear hb2); (try clear hk); (try clear hi)))
                 go_roundg k3
                 case measure => have := HK1.out; have := HK2.out; have := HK3.out; omega
                 case rel => exact ⟨(wrap64 (x73 + 1)), tS, H', ⟨by have := HK1.out; have := HK2.out; have := HK3.out; omega⟩, ⟨bkA BK238.out⟩, ⟨bBl HB.out⟩⟩
                ·replace c57 := Bool.eq_false_iff.mpr c57
                 subst c57
                 have H1 : (some 1) = some r := by rw [if_neg (show ¬ (false = true) by decide)] at H; exact H
                 clear H; have H := H1; clear H1; obtain rfl := Option.some.inj H; obtain ⟨u60_0, u60_1, u60_2, u60_3, u60_4, u60_5, u60_6, o600, o601, o602, o603, o604, o605, o606⟩ := bc7 (w := wr) BK238.out
                 have p254 : 0 ≤ (x73 : Int) := tB
                 have q254 : x73 < (l02.length : Int) := tB
                 obtain ⟨ad254, e254, hx2540, hx2541⟩ := at_T27 HR02.out x73 p254 q254; cases e254; replace hx2540 := cU HB hx2540; replace hx2541 := cU HB hx2541; replace p254 := eq_true p254; replace q254 := eq_true q254
                 go_wp2_with (first | ((with_reducible refine gate_callee (f := 173) rfl ?_); refine goesL_ (some 111) rfl rfl Tryz.func173 (by kernel_rfl) rfl #[.agg #[.int .i64 ((rd_T27 l02 x73).f0), .int .i64 ((rd_T27 l02 x73).f1)], .int .i64 0, .int .i64 1000] rfl tM ?_; (with_reducible refine (rf_within.calls ((rd_T27 l02 x73).f0) ((rd_T27 l02 x73).f1) 0 1000 false _ A56.out).mono ?_); rintro e w61 ⟨rfl, hb⟩; refine ⟨_, rfl, ?_⟩; replace BK238 := Sd.mk (blk_below (bkA BK238.out) hb); replace HB := Sd.mk (below_step (bBl HB.out) hb); (try clear hb); (try clear hb2); (try clear hk); (try clear hi)))
                 go_ret
                 exact ⟨tE, bBl HB.out⟩
               ·rw [if_neg c55] at H
                exact absurd H (by simp)
              ·rw [if_neg c54] at H
               have c54b0 : decide (x73 < (l02.length : Int)) = false := decide_eq_false c54
               clear c54
               by_cases c62 : (l03.length : Int) > 6
               ·rw [if_pos c62] at H
                have c62b0 : decide (6 < (l03.length : Int)) = true := decide_eq_true c62
                have c62b1 : decide (6 < l03.length) = true := decide_eq_true (by omega)
                clear c62; obtain rfl := Option.some.inj H; obtain ⟨u63_0, u63_1, u63_2, u63_3, u63_4, u63_5, u63_6, o630, o631, o632, o633, o634, o635, o636⟩ := bc7 (w := wr) BK238.out
                go_wp2
                go_ret
                exact ⟨tE, bBl HB.out⟩
               ·rw [if_neg c62] at H
                have c62b0 : decide (6 < (l03.length : Int)) = false := decide_eq_false c62
                have c62b1 : decide (6 < l03.length) = false := decide_eq_false (by omega)
                clear c62; have H' := Sd.mk H; clear H; obtain ⟨u64_0, u64_1, u64_2, u64_3, u64_4, u64_5, u64_6, o640, o641, o642, o643, o644, o645, o646⟩ := bc7 (w := wr) BK238.out
                go_wp2
                go_loopg [4, 8] k3 (fun kq v4 v8 w' => ∃ (x44 : List ByteArray) (x84 : Int), v8 = .int .i64 x84 ∧ Sd (rf_Check.l3 kq x44 x84 l00 l01 l02 l03 a04 a05 a06 = some r) ∧ Sd (kq ≤ k3) ∧ Sd (Kd.R Kd.string 9 w' w.heap.size (fun _ => True) v4 x44) ∧ Sd (w'.heap[gb238]? = some (.cells #[(.slice A00 l00.length c00), (.slice A01 l01.length c01), (.slice A02 l02.length c02), (.slice A03 l03.length c03), .int .i64 a04, .int .i64 a05, .int .i64 a06] 29 (0, 0))) ∧ Sd (Below w.heap.size w w'))
                case atStart => exact ⟨(([] : List ByteArray)), (0), tS, H', ⟨Nat.le_refl _⟩, ⟨by first | exact Kd.R_nil _ _ _ _ _ | exact Kd.N_nil _ _ _ _ _ | exact Kd.V_nil _ _ _ _ _ | exact Kd.Q_nil _ _ _ _ _ | exact Kd.S_nil _ _ _ _ _⟩, ⟨bkA BK238.out⟩, ⟨bBl HB.out⟩⟩
                case round =>
                 clear H'; (try clear c1); (try clear c2); (try clear p2 p2); (try clear q2 q2); (try clear hx2); (try clear c3); (try clear c4); (try clear c5); (try clear c6); (try clear p6 p6); (try clear c17); (try clear p23 p23); (try clear q23 q23); (try clear hx23); (try clear c24); (try clear p24 p24); (try clear q24 q24); (try clear hx24); (try clear c25); (try clear p25 p25); (try clear q25 q25); (try clear hx25); (try clear c30); (try clear c30b0); (try clear c31); (try clear c31b0); (try clear c33); (try clear c35); (try clear c38); (try clear c40); (try clear c40b0); (try clear c40b1); (try clear c52); (try clear c52b0); (try clear c52b1); (try clear c52b2); (try clear c54); (try clear c54b0); (try clear c55); (try clear c55b0); (try clear c57); (try clear c62); (try clear c62b0); (try clear c62b1); (try clear p64); (try clear u28_5 u28_6); (try clear u29_0 u29_1 u29_2 u29_3 u29_4 u29_5 u29_6); (try clear u36_0 u36_1 u36_2 u36_3 u36_4 u36_5 u36_6); (try clear u41_0 u41_1 u41_2 u41_3 u41_4 u41_5 u41_6); (try clear u46_0 u46_1 u46_2 u46_3 u46_4 u46_5 u46_6); (try clear u4_0 u4_1 u4_2 u4_3 u4_4 u4_5 u4_6); (try clear u51_0 u51_1 u51_2 u51_3 u51_4 u51_5 u51_6); (try clear u53_0 u53_1 u53_2 u53_3 u53_4 u53_5 u53_6); (try clear u58_0 u58_1 u58_2 u58_3 u58_4 u58_5 u58_6); (try clear u60_0 u60_1 u60_2 u60_3 u60_4 u60_5 u60_6); (try clear u63_0 u63_1 u63_2 u63_3 u63_4 u63_5 u63_6); (try clear u64_0 u64_1 u64_2 u64_3 u64_4 u64_5 u64_6); (try clear u7_0 u7_1 u7_2 u7_3 u7_4 u7_5 u7_6); (try clear u9_0 u9_1 u9_2 u9_3 u9_4 u9_5 u9_6); (try clear o180 o181 o182 o183 o184 o185 o186); (try clear o210 o211 o212 o213 o214 o215 o216); (try clear o240 o241 o242 o243 o244 o245 o246); (try clear o260 o261 o262 o263 o264 o265 o266); (try clear o280 o281 o282 o283 o284 o285 o286); (try clear o290 o291 o292 o293 o294 o295 o296); (try clear o360 o361 o362 o363 o364 o365 o366); (try clear o410 o411 o412 o413 o414 o415 o416); (try clear o460 o461 o462 o463 o464 o465 o466); (try clear o40 o41 o42 o43 o44 o45 o46); (try clear o510 o511 o512 o513 o514 o515 o516); (try clear o530 o531 o532 o533 o534 o535 o536); (try clear o580 o581 o582 o583 o584 o585 o586); (try clear o600 o601 o602 o603 o604 o605 o606); (try clear o630 o631 o632 o633 o634 o635 o636); (try clear o640 o641 o642 o643 o644 o645 o646); (try clear o70 o71 o72 o73 o74 o75 o76); (try clear o90 o91 o92 o93 o94 o95 o96); (try clear hx2390); (try clear hx2420); (try clear hx2440); (try clear hx2441); (try clear hx2442); (try clear hx2443); (try clear hx2444); (try clear hx2445); (try clear hx2446); (try clear hx2460); (try clear hx2461); (try clear hx2462); (try clear hx2463); (try clear hx2464); (try clear hx2465); (try clear hx2466); (try clear hx2480); (try clear hx2481); (try clear hx2482); (try clear hx2483); (try clear hx2484); (try clear hx2485); (try clear hx2486); (try clear hx2520); (try clear hx2521); (try clear hx2522); (try clear hx2523); (try clear hx2524); (try clear hx2525); (try clear hx2526); (try clear hx2540); (try clear hx2541); (try clear p239); (try clear p242); (try clear p244); (try clear p246); (try clear p248); (try clear p252); (try clear p254); (try clear q239); (try clear q242); (try clear q244); (try clear q246); (try clear q248); (try clear q252); (try clear q254); obtain ⟨x44, x84, rfl, HA, HK4, HO_4, BK238, HB⟩ := hrel
                 cases gk with
                 | zero => exact absurd HA.out (by simp [rf_Check.l3])
                 | succ k4 =>
                  have H := HA.out; clear HA
                  simp only [rf_Check.l3] at H
                  by_cases c65 : x84 < (l03.length : Int)
                  ·rw [if_pos c65] at H
                   have c65b0 : decide (x84 < (l03.length : Int)) = true := decide_eq_true c65
                   clear c65
                   by_cases c66 : 0 ≤ x84
                   ·rw [if_pos c66] at H
                    have c66b0 : decide (0 ≤ x84) = true := decide_eq_true c66
                    clear c66; replace H := Option.bind_eq_some_iff.mp H; obtain ⟨t258, A670, H⟩ := H
                    try dsimp only at H
                    have A67 := Sd.mk A670; clear A670
                    by_cases c68 : t258 = true
                    ·subst c68
                     have H1 : ((rf_in.f k4 x44 ((rd_T89 l03 x84).f0)).bind fun t260 => (if t260 = true then (some 6) else (if x44.length < 8796093022208 then ((rf_property.f k4 l00 l01 l02 l03 a04 a05 a06 ((rd_T89 l03 x84).f0) ((rd_T89 l03 x84).f1) ((rd_T89 l03 x84).f2.f0) ((rd_T89 l03 x84).f2.f1)).bind fun t266 => (if t266 = 0 then (rf_Check.l3 k4 (x44 ++ [(rd_T89 l03 x84).f0]) (wrap64 (x84 + 1)) l00 l01 l02 l03 a04 a05 a06) else (some t266))) else (none)))) = some r := by rw [if_pos rfl] at H; exact H
                     clear H; have H := H1; clear H1; replace H := Option.bind_eq_some_iff.mp H; obtain ⟨t260, A690, H⟩ := H
                     try dsimp only at H
                     have A69 := Sd.mk A690; clear A690
                     by_cases c70 : t260 = true
                     ·subst c70
                      have H1 : (some 6) = some r := by rw [if_pos rfl] at H; exact H
                      clear H; have H := H1; clear H1; obtain rfl := Option.some.inj H; obtain ⟨u71_0, u71_1, u71_2, u71_3, u71_4, u71_5, u71_6, o710, o711, o712, o713, o714, o715, o716⟩ := bc7 (w := wr) BK238.out
                      have p257 : 0 ≤ (x84 : Int) := tB
                      have q257 : x84 < (l03.length : Int) := tB
                      obtain ⟨ad257, A2571, c2571, e257, hx2570, hx2571, hx2572, hx2573, hl2571, hi2571⟩ := at_T89 HR03.out x84 p257 q257; cases e257; replace hx2570 := cU HB hx2570; replace hx2571 := cU HB hx2571; replace hx2572 := cU HB hx2572; replace hx2573 := cU HB hx2573; have HR2571 := Sd.mk hi2571; have HC2571 := Sd.mk hl2571; clear hi2571 hl2571; replace p257 := eq_true p257; replace q257 := eq_true q257
                      go_wp2_with (first | ((with_reducible refine gate_callee (f := 170) rfl ?_); refine goesL_ (some 130) rfl rfl Tryz.func170 (by kernel_rfl) rfl #[.string ((rd_T89 l03 x84).f0)] rfl tM ?_; (with_reducible refine (rf_Name.calls k4 ((rd_T89 l03 x84).f0) true _ A67.out).mono ?_); rintro e w' ⟨rfl, ⟨nd, rfl⟩⟩; refine ⟨_, rfl, ?_⟩; have p259 : 0 ≤ (x84 : Int) := tB; have q259 : x84 < (l03.length : Int) := tB; obtain ⟨ad259, A2591, c2591, e259, hx2590, hx2591, hx2592, hx2593, hl2591, hi2591⟩ := at_T89 HR03.out x84 p259 q259; obtain rfl : ad257 = ad259 := (by injection e259); replace hx2590 := cU HB hx2590; replace hx2591 := cU HB hx2591; replace hx2592 := cU HB hx2592; replace hx2593 := cU HB hx2593; have HR2591 := Sd.mk hi2591; have HC2591 := Sd.mk hl2591; clear hi2591 hl2591; replace p259 := eq_true p259; replace q259 := eq_true q259; have ea_ := Option.some.inj (hx2571.symm.trans hx2591); injection ea_ with ea_ en_ ec_; subst ea_; subst ec_; clear en_; obtain ⟨Ao72, co72, eo72⟩ := Kd.R_slice HO_4.out; subst eo72) | ((with_reducible refine gate_callee (f := 171) rfl ?_); refine goesL_ (some 139) rfl rfl Tryz.func171 (by kernel_rfl) rfl #[.slice Ao72 x44.length co72, .string ((rd_T89 l03 x84).f0)] rfl tM ?_; (with_reducible refine (rf_in.calls k4 _ _ x44 ((rd_T89 l03 x84).f0) true _ (cS ((Kd.R_reads' HO_4.out).2.2)) ((Kd.R_reads' HO_4.out).2.1) A69.out).mono ?_); rintro e w' ⟨rfl, ⟨nd, rfl⟩⟩; refine ⟨_, rfl, ?_⟩))
                      go_ret
                      exact ⟨tE, bBl HB.out⟩
                     ·replace c70 := Bool.eq_false_iff.mpr c70
                      subst c70
                      have H1 : (if x44.length < 8796093022208 then ((rf_property.f k4 l00 l01 l02 l03 a04 a05 a06 ((rd_T89 l03 x84).f0) ((rd_T89 l03 x84).f1) ((rd_T89 l03 x84).f2.f0) ((rd_T89 l03 x84).f2.f1)).bind fun t266 => (if t266 = 0 then (rf_Check.l3 k4 (x44 ++ [(rd_T89 l03 x84).f0]) (wrap64 (x84 + 1)) l00 l01 l02 l03 a04 a05 a06) else (some t266))) else (none)) = some r := by rw [if_neg (show ¬ (false = true) by decide)] at H; exact H
                      clear H; have H := H1; clear H1
                      by_cases c73 : x44.length < 8796093022208
                      ·rw [if_pos c73] at H
                       have LMc73 := Sd.mk c73; clear c73
                       obtain ⟨y262, hy262⟩ : ∃ y_ : List ByteArray, y_ = (x44 ++ [(rd_T89 l03 x84).f0]) := ⟨_, rfl⟩
                       replace H : ((rf_property.f k4 l00 l01 l02 l03 a04 a05 a06 ((rd_T89 l03 x84).f0) ((rd_T89 l03 x84).f1) ((rd_T89 l03 x84).f2.f0) ((rd_T89 l03 x84).f2.f1)).bind fun t266 => (if t266 = 0 then (rf_Check.l3 k4 y262 (wrap64 (x84 + 1)) l00 l01 l02 l03 a04 a05 a06) else (some t266))) = some r := by first | (rw [hy262]; with_reducible exact H) | (have H2_ := (Option.bind_some _ _).symm.trans H; rw [hy262]; with_reducible exact H2_) | (have H2_ := (Option.bind_some _ _).symm.trans H; with_reducible exact H2_) | with_reducible exact H | (rw [hy262]; exact H) | exact H
                       have Ny262 := Sd.mk hy262; clear hy262; replace H := Option.bind_eq_some_iff.mp H; obtain ⟨t266, A740, H⟩ := H
                       try dsimp only at H
                       have A74 := Sd.mk A740; clear A740
                       have H' := Sd.mk H; clear H; obtain ⟨u76_0, u76_1, u76_2, u76_3, u76_4, u76_5, u76_6, o760, o761, o762, o763, o764, o765, o766⟩ := bc7 (w := wr) BK238.out
                       have p257 : 0 ≤ (x84 : Int) := tB
                       have q257 : x84 < (l03.length : Int) := tB
                       obtain ⟨ad257, A2571, c2571, e257, hx2570, hx2571, hx2572, hx2573, hl2571, hi2571⟩ := at_T89 HR03.out x84 p257 q257; cases e257; replace hx2570 := cU HB hx2570; replace hx2571 := cU HB hx2571; replace hx2572 := cU HB hx2572; replace hx2573 := cU HB hx2573; have HR2571 := Sd.mk hi2571; have HC2571 := Sd.mk hl2571; clear hi2571 hl2571; replace p257 := eq_true p257; replace q257 := eq_true q257
                       try go_wp2_with (first | ((with_reducible refine gate_callee (f := 170) rfl ?_); refine goesL_ (some 130) rfl rfl Tryz.func170 (by kernel_rfl) rfl #[.string ((rd_T89 l03 x84).f0)] rfl tM ?_; (with_reducible refine (rf_Name.calls k4 ((rd_T89 l03 x84).f0) true _ A67.out).mono ?_); rintro e w' ⟨rfl, ⟨nd, rfl⟩⟩; refine ⟨_, rfl, ?_⟩; have p259 : 0 ≤ (x84 : Int) := tB; have q259 : x84 < (l03.length : Int) := tB; obtain ⟨ad259, A2591, c2591, e259, hx2590, hx2591, hx2592, hx2593, hl2591, hi2591⟩ := at_T89 HR03.out x84 p259 q259; obtain rfl : ad257 = ad259 := (by injection e259); replace hx2590 := cU HB hx2590; replace hx2591 := cU HB hx2591; replace hx2592 := cU HB hx2592; replace hx2593 := cU HB hx2593; have HR2591 := Sd.mk hi2591; have HC2591 := Sd.mk hl2591; clear hi2591 hl2591; replace p259 := eq_true p259; replace q259 := eq_true q259; have ea_ := Option.some.inj (hx2571.symm.trans hx2591); injection ea_ with ea_ en_ ec_; subst ea_; subst ec_; clear en_; obtain ⟨Ao77, co77, eo77⟩ := Kd.R_slice HO_4.out; subst eo77) | ((with_reducible refine gate_callee (f := 171) rfl ?_); refine goesL_ (some 139) rfl rfl Tryz.func171 (by kernel_rfl) rfl #[.slice Ao77 x44.length co77, .string ((rd_T89 l03 x84).f0)] rfl tM ?_; (with_reducible refine (rf_in.calls k4 _ _ x44 ((rd_T89 l03 x84).f0) false _ (cS ((Kd.R_reads' HO_4.out).2.2)) ((Kd.R_reads' HO_4.out).2.1) A69.out).mono ?_); rintro e w' ⟨rfl, ⟨nd, rfl⟩⟩; refine ⟨_, rfl, ?_⟩; have p261 : 0 ≤ (x84 : Int) := tB; have q261 : x84 < (l03.length : Int) := tB; obtain ⟨ad261, A2611, c2611, e261, hx2610, hx2611, hx2612, hx2613, hl2611, hi2611⟩ := at_T89 HR03.out x84 p261 q261; obtain rfl : ad257 = ad261 := (by injection e261); replace hx2610 := cU HB hx2610; replace hx2611 := cU HB hx2611; replace hx2612 := cU HB hx2612; replace hx2613 := cU HB hx2613; have HR2611 := Sd.mk hi2611; have HC2611 := Sd.mk hl2611; clear hi2611 hl2611; replace p261 := eq_true p261; replace q261 := eq_true q261; have ea_ := Option.some.inj (hx2571.symm.trans hx2611); injection ea_ with ea_ en_ ec_; subst ea_; subst ec_; clear en_) | ((with_reducible refine gate_builtin (b := .append) (xs := #[.tmp 140, .tmp 147]) rfl ?_); at_builtin; refine Kd.R_append Kd.string (w0 := w) w.heap.size rfl (.tmp 140) (.tmp 147) 22 9 (.string ⟨#[]⟩) 16 rfl Tryz.underlying22 info9 rfl (by decide) (by omega) (.slice Ao77 x44.length co77) x44 ((rd_T89 l03 x84).f0) [.string ((rd_T89 l03 x84).f0)] (fun _ => True) (fun _ => False) rfl rfl ?aP (fun _ hk => hk.elim) ?aF ?aO ?aB ?aS ?aL ?_; (case aP => exact rfl); (case aB => exact (bBl HB.out)); (case aF => exact (fun _ _ => trivial)); (case aO => exact (by (with_reducible repeat (first | apply Kd.R_alloc | apply Kd.R_drewN | apply Kd.R_drew)); exact HO_4.out)); (case aS => exact (below_size (bBl HB.out))); (case aL => have := LMc73.out; omega); intro v263 w78 ho hb hg hat; rw [← Ny262.out] at ho; replace BK238 := Sd.mk (blk_grown (bkA BK238.out) hg (Kd.R_ne HO_4.out BK238.out (by decide))); replace HB := Sd.mk (hb); have HO264 := Sd.mk (ho); clear HO_4; clear ho hb hg hat))
                       replace HO264 := Sd.mk (Kd.R_drew HO264.out); replace BK238 := Sd.mk (blk_drew BK238.out); replace HB := Sd.mk (below_drew1 HB.out)
                       have p265 : 0 ≤ (x84 : Int) := tB
                       have q265 : x84 < (l03.length : Int) := tB
                       obtain ⟨ad265, A2651, c2651, e265, hx2650, hx2651, hx2652, hx2653, hl2651, hi2651⟩ := at_T89 HR03.out x84 p265 q265; have hw2653 := hx2653; have hw2652 := hx2652; have hw2651 := hx2651; have hw2650 := hx2650
                       obtain rfl : ad257 = ad265 := (by injection e265)
                       replace hx2650 := cU HB hx2650; replace hx2651 := cU HB hx2651; replace hx2652 := cU HB hx2652; replace hx2653 := cU HB hx2653; have HR2651 := Sd.mk hi2651; have HC2651 := Sd.mk hl2651; clear hi2651 hl2651; replace p265 := eq_true p265; replace q265 := eq_true q265
                       refine start_ (n := 8) (S := fun w' => w'.cell? ⟨gb238, 0, none⟩ = some (.slice A00 l00.length c00) ∧ w'.cell? ⟨gb238, 1, none⟩ = some (.slice A01 l01.length c01) ∧ w'.cell? ⟨gb238, 2, none⟩ = some (.slice A02 l02.length c02) ∧ w'.cell? ⟨gb238, 3, none⟩ = some (.slice (some ad257) l03.length c03) ∧ w'.cell? ⟨gb238, 4, none⟩ = some (.int .i64 a04) ∧ w'.cell? ⟨gb238, 5, none⟩ = some (.int .i64 a05) ∧ w'.cell? ⟨gb238, 6, none⟩ = some (.int .i64 a06) ∧ w'.cell? (ad257.add ((x84).toNat * 4)) = some (.string ((rd_T89 l03 x84).f0)) ∧ w'.cell? ⟨(ad257.add ((x84).toNat * 4)).block, (ad257.add ((x84).toNat * 4)).off + 1, none⟩ = some (.slice A2651 ((rd_T89 l03 x84).f1).length c2651) ∧ w'.cell? ⟨(ad257.add ((x84).toNat * 4)).block, (ad257.add ((x84).toNat * 4)).off + 2, none⟩ = some (.int .i64 ((rd_T89 l03 x84).f2.f0)) ∧ w'.cell? ⟨(ad257.add ((x84).toNat * 4)).block, (ad257.add ((x84).toNat * 4)).off + 3, none⟩ = some (.int .i64 ((rd_T89 l03 x84).f2.f1))) (ds := []) (bA 8 0) (by kernel_rfl) rfl rfl ⟨(blk_cell BK238.out 0).trans rfl, (blk_cell BK238.out 1).trans rfl, (blk_cell BK238.out 2).trans rfl, (blk_cell BK238.out 3).trans rfl, (blk_cell BK238.out 4).trans rfl, (blk_cell BK238.out 5).trans rfl, (blk_cell BK238.out 6).trans rfl, (cU HB hw2650 :), (cU HB hw2651 :), (cU HB hw2652 :), (cU HB hw2653 :)⟩ (fun hHeld => ?_); refine with_tabW rf_Check.tab46 rf_Check.bits46 (fun HT_ HW_ => ?_)
                       generalize w78.drew = w79 at HO264 BK238 HB HR2651 hx2650 hx2651 hx2652 hx2653 hHeld ⊢
                       refine pQ 1 (some 150) (bA 8 2) ?_
                       refine pQ 3 (some 152) (bA 8 10) ?_
                       refine tQ 0 (some 149) (bA 8 11) ?_
                       refine tQ 2 (some 151) (bA 8 15) ?_
                       refine pQ 4 (some 153) (bA 8 31) ?_
                       refine tQ 5 (some 154) (bA 8 63) ?_
                       refine one_ (i := 6) (N := some 155) (bA 8 127) rfl rfl (one_of HT_.out (by kernel_rfl)) (by decide) (fun K hK => ?_)
                       refine goes_ Tryz.func174 (by kernel_rfl) rfl #[.agg #[.slice A00 l00.length c00, .slice A01 l01.length c01, .slice A02 l02.length c02, .slice (some ad257) l03.length c03, .int .i64 a04, .int .i64 a05, .int .i64 a06], .agg #[.string ((rd_T89 l03 x84).f0), .slice A2651 ((rd_T89 l03 x84).f1).length c2651, .int .i64 ((rd_T89 l03 x84).f2.f0), .int .i64 ((rd_T89 l03 x84).f2.f1)]] (by rfl) rfl rfl tM ?_
                       with_reducible refine (rf_property.calls k4 _ _ l00 _ _ l01 _ _ l02 _ _ l03 a04 a05 a06 ((rd_T89 l03 x84).f0) _ _ ((rd_T89 l03 x84).f1) ((rd_T89 l03 x84).f2.f0) ((rd_T89 l03 x84).f2.f1) t266 _ ?side1 ?side2 ?side3 ?side4 ?side5 ?side6 ?side7 ?side8 ?side9 ?side10 A74.out).mono ?_
                       (case side1 => exact cS (Kd.C_below HR00.out HB.out))
                       (case side2 => exact HC00.out)
                       (case side3 => exact cS (Kd.C_below HR01.out HB.out))
                       (case side4 => exact HC01.out)
                       (case side5 => exact cS (Kd.C_below HR02.out HB.out))
                       (case side6 => exact HC02.out)
                       (case side7 => exact cS (Kd.C_below HR03.out HB.out))
                       (case side8 => exact HC03.out)
                       (case side9 => exact cS (Kd.C_below HR2651.out HB.out))
                       (case side10 => exact HC2651.out)
                       rintro e w80 ⟨rfl, hb⟩
                       refine ⟨_, rfl, ?_⟩
                       replace HO264 := Sd.mk (Kd.R_below (by (with_reducible repeat (first | apply Kd.R_alloc | apply Kd.R_drewN | apply Kd.R_drew)); exact HO264.out) hb)
                       replace BK238 := Sd.mk (blk_below (bkA BK238.out) hb); replace HB := Sd.mk (below_step (bBl HB.out) hb)
                       (try clear hb)
                       (try clear hb2)
                       (try clear hk)
                       (try clear hi)
                       refine hK.out _ _ ⟨(blk_cell BK238.out 0).trans rfl, (blk_cell BK238.out 1).trans rfl, (blk_cell BK238.out 2).trans rfl, (blk_cell BK238.out 3).trans rfl, (blk_cell BK238.out 4).trans rfl, (blk_cell BK238.out 5).trans rfl, (blk_cell BK238.out 6).trans rfl, (cU HB hw2650 :), (cU HB hw2651 :), (cU HB hw2652 :), (cU HB hw2653 :)⟩ (fun hHeld => ?_)
                       clear hK K
                       refine norm_ (a' := ?_) ?_ ?_
                       rotate_left
                       ·show Act.put _ (some 155) _ = _
                        exact tP
                       refine pQ 7 (some 9) (bA 8 255) ?_
                       refine done_ (done_of HT_.out (by kernel_rfl)) ?_
                       have H := H'.out; clear H'
                       by_cases c75 : t266 = 0
                       ·rw [if_pos c75] at H
                        have c75b0 : (t266 == 0) = true := beq_iff_eq.mpr c75
                        have c75b1 : (t266 != 0) = false := bne_eq_false_iff_eq.mpr c75
                        clear c75; have H' := Sd.mk H; clear H
                        try go_wp2
                        go_roundg k4
                        case measure => have := HK1.out; have := HK2.out; have := HK3.out; have := HK4.out; omega
                        case rel => exact ⟨(y262), (wrap64 (x84 + 1)), tS, H', ⟨by have := HK1.out; have := HK2.out; have := HK3.out; have := HK4.out; omega⟩, ⟨by (with_reducible repeat (first | apply Kd.R_alloc | apply Kd.R_drewN | apply Kd.R_drew)); exact HO264.out⟩, ⟨bkA BK238.out⟩, ⟨bBl HB.out⟩⟩
                       ·rw [if_neg c75] at H
                        have c75b0 : (t266 == 0) = false := beq_eq_false_iff_ne.mpr c75
                        have c75b1 : (t266 != 0) = true := bne_iff_ne.mpr c75
                        obtain rfl := Option.some.inj H
                        try go_wp2
                        go_ret
                        exact ⟨tE, bBl HB.out⟩
                      ·rw [if_neg c73] at H
                       exact absurd H (by simp)
                    ·replace c68 := Bool.eq_false_iff.mpr c68
                     subst c68
                     have H1 : (some 5) = some r := by rw [if_neg (show ¬ (false = true) by decide)] at H; exact H
                     clear H; have H := H1; clear H1; obtain rfl := Option.some.inj H; obtain ⟨u86_0, u86_1, u86_2, u86_3, u86_4, u86_5, u86_6, o860, o861, o862, o863, o864, o865, o866⟩ := bc7 (w := wr) BK238.out
                     have p257 : 0 ≤ (x84 : Int) := tB
                     have q257 : x84 < (l03.length : Int) := tB
                     obtain ⟨ad257, A2571, c2571, e257, hx2570, hx2571, hx2572, hx2573, hl2571, hi2571⟩ := at_T89 HR03.out x84 p257 q257; cases e257; replace hx2570 := cU HB hx2570; replace hx2571 := cU HB hx2571; replace hx2572 := cU HB hx2572; replace hx2573 := cU HB hx2573; have HR2571 := Sd.mk hi2571; have HC2571 := Sd.mk hl2571; clear hi2571 hl2571; replace p257 := eq_true p257; replace q257 := eq_true q257
                     go_wp2_with (first | ((with_reducible refine gate_callee (f := 170) rfl ?_); refine goesL_ (some 130) rfl rfl Tryz.func170 (by kernel_rfl) rfl #[.string ((rd_T89 l03 x84).f0)] rfl tM ?_; (with_reducible refine (rf_Name.calls k4 ((rd_T89 l03 x84).f0) false _ A67.out).mono ?_); rintro e w' ⟨rfl, ⟨nd, rfl⟩⟩; refine ⟨_, rfl, ?_⟩))
                     go_ret
                     exact ⟨tE, bBl HB.out⟩
                   ·rw [if_neg c66] at H
                    exact absurd H (by simp)
                  ·rw [if_neg c65] at H
                   have c65b0 : decide (x84 < (l03.length : Int)) = false := decide_eq_false c65
                   clear c65; replace H := Option.bind_eq_some_iff.mp H; obtain ⟨t256, A870, H⟩ := H
                   try dsimp only at H
                   have A87 := Sd.mk A870; clear A870
                   by_cases c88 : t256 = true
                   ·subst c88
                    have H1 : (if a06 < 1 then (some 1) else (if a06 > 10000 then (some 1) else (some 0))) = some r := by rw [if_pos rfl] at H; exact H
                    clear H; have H := H1; clear H1
                    by_cases c89 : a06 < 1
                    ·rw [if_pos c89] at H
                     have c89b0 : decide (a06 < 1) = true := decide_eq_true c89
                     clear c89; obtain rfl := Option.some.inj H; obtain ⟨u90_0, u90_1, u90_2, u90_3, u90_4, u90_5, u90_6, o900, o901, o902, o903, o904, o905, o906⟩ := bc7 (w := wr) BK238.out
                     go_wp2_with (first | ((with_reducible refine gate_callee (f := 173) rfl ?_); refine goesL_ (some 161) rfl rfl Tryz.func173 (by kernel_rfl) rfl #[.agg #[.int .i64 a04, .int .i64 a05], .int .i64 (-10000), .int .i64 10000] rfl tM ?_; (with_reducible refine (rf_within.calls a04 a05 (-10000) 10000 true _ A87.out).mono ?_); rintro e w91 ⟨rfl, hb⟩; refine ⟨_, rfl, ?_⟩; replace HO_4 := Sd.mk (Kd.R_below (by (with_reducible repeat (first | apply Kd.R_alloc | apply Kd.R_drewN | apply Kd.R_drew)); exact HO_4.out) hb); replace BK238 := Sd.mk (blk_below (bkA BK238.out) hb); replace HB := Sd.mk (below_step (bBl HB.out) hb); (try clear hb); (try clear hb2); (try clear hk); (try clear hi); obtain ⟨u92_0, u92_1, u92_2, u92_3, u92_4, u92_5, u92_6, o920, o921, o922, o923, o924, o925, o926⟩ := bc7 (w := w91) BK238.out))
                     go_ret
                     exact ⟨tE, bBl HB.out⟩
                    ·rw [if_neg c89] at H
                     have c89b0 : decide (a06 < 1) = false := decide_eq_false c89
                     clear c89
                     by_cases c93 : a06 > 10000
                     ·rw [if_pos c93] at H
                      have c93b0 : decide (10000 < a06) = true := decide_eq_true c93
                      clear c93; obtain rfl := Option.some.inj H; obtain ⟨u94_0, u94_1, u94_2, u94_3, u94_4, u94_5, u94_6, o940, o941, o942, o943, o944, o945, o946⟩ := bc7 (w := wr) BK238.out
                      go_wp2_with (first | ((with_reducible refine gate_callee (f := 173) rfl ?_); refine goesL_ (some 161) rfl rfl Tryz.func173 (by kernel_rfl) rfl #[.agg #[.int .i64 a04, .int .i64 a05], .int .i64 (-10000), .int .i64 10000] rfl tM ?_; (with_reducible refine (rf_within.calls a04 a05 (-10000) 10000 true _ A87.out).mono ?_); rintro e w95 ⟨rfl, hb⟩; refine ⟨_, rfl, ?_⟩; replace HO_4 := Sd.mk (Kd.R_below (by (with_reducible repeat (first | apply Kd.R_alloc | apply Kd.R_drewN | apply Kd.R_drew)); exact HO_4.out) hb); replace BK238 := Sd.mk (blk_below (bkA BK238.out) hb); replace HB := Sd.mk (below_step (bBl HB.out) hb); (try clear hb); (try clear hb2); (try clear hk); (try clear hi); obtain ⟨u96_0, u96_1, u96_2, u96_3, u96_4, u96_5, u96_6, o960, o961, o962, o963, o964, o965, o966⟩ := bc7 (w := w95) BK238.out))
                      go_ret
                      exact ⟨tE, bBl HB.out⟩
                     ·rw [if_neg c93] at H
                      have c93b0 : decide (10000 < a06) = false := decide_eq_false c93
                      clear c93; obtain rfl := Option.some.inj H; obtain ⟨u97_0, u97_1, u97_2, u97_3, u97_4, u97_5, u97_6, o970, o971, o972, o973, o974, o975, o976⟩ := bc7 (w := wr) BK238.out
                      go_wp2_with (first | ((with_reducible refine gate_callee (f := 173) rfl ?_); refine goesL_ (some 161) rfl rfl Tryz.func173 (by kernel_rfl) rfl #[.agg #[.int .i64 a04, .int .i64 a05], .int .i64 (-10000), .int .i64 10000] rfl tM ?_; (with_reducible refine (rf_within.calls a04 a05 (-10000) 10000 true _ A87.out).mono ?_); rintro e w98 ⟨rfl, hb⟩; refine ⟨_, rfl, ?_⟩; replace HO_4 := Sd.mk (Kd.R_below (by (with_reducible repeat (first | apply Kd.R_alloc | apply Kd.R_drewN | apply Kd.R_drew)); exact HO_4.out) hb); replace BK238 := Sd.mk (blk_below (bkA BK238.out) hb); replace HB := Sd.mk (below_step (bBl HB.out) hb); (try clear hb); (try clear hb2); (try clear hk); (try clear hi); obtain ⟨u99_0, u99_1, u99_2, u99_3, u99_4, u99_5, u99_6, o990, o991, o992, o993, o994, o995, o996⟩ := bc7 (w := w98) BK238.out))
                      go_ret
                      exact ⟨tE, bBl HB.out⟩
                   ·replace c88 := Bool.eq_false_iff.mpr c88
                    subst c88
                    have H1 : (some 1) = some r := by rw [if_neg (show ¬ (false = true) by decide)] at H; exact H
                    clear H; have H := H1; clear H1; obtain rfl := Option.some.inj H; obtain ⟨u100_0, u100_1, u100_2, u100_3, u100_4, u100_5, u100_6, o1000, o1001, o1002, o1003, o1004, o1005, o1006⟩ := bc7 (w := wr) BK238.out
                    go_wp2_with (first | ((with_reducible refine gate_callee (f := 173) rfl ?_); refine goesL_ (some 161) rfl rfl Tryz.func173 (by kernel_rfl) rfl #[.agg #[.int .i64 a04, .int .i64 a05], .int .i64 (-10000), .int .i64 10000] rfl tM ?_; (with_reducible refine (rf_within.calls a04 a05 (-10000) 10000 false _ A87.out).mono ?_); rintro e w101 ⟨rfl, hb⟩; refine ⟨_, rfl, ?_⟩; replace HO_4 := Sd.mk (Kd.R_below (by (with_reducible repeat (first | apply Kd.R_alloc | apply Kd.R_drewN | apply Kd.R_drew)); exact HO_4.out) hb); replace BK238 := Sd.mk (blk_below (bkA BK238.out) hb); replace HB := Sd.mk (below_step (bBl HB.out) hb); (try clear hb); (try clear hb2); (try clear hk); (try clear hi)))
                    go_ret
                    exact ⟨tE, bBl HB.out⟩
           ·rw [if_neg c52] at H
            have c52b0 : ((l02.length : Int) == (l00.length : Int)) = false := beq_eq_false_iff_ne.mpr c52
            have c52b1 : ((l02.length : Int) != (l00.length : Int)) = true := bne_iff_ne.mpr c52
            have c52b2 : (l02.length == l00.length) = false := by first | simpa using c52 | (simp at c52 ⊢; omega)
            obtain rfl := Option.some.inj H; obtain ⟨u102_0, u102_1, u102_2, u102_3, u102_4, u102_5, u102_6, o1020, o1021, o1022, o1023, o1024, o1025, o1026⟩ := bc7 (w := wr) BK238.out
            go_wp2
            go_ret
            exact ⟨tE, bBl HB.out⟩
end
section
def b_checkOxides.l0 : Nat → List ByteArray → Int → Int → List ByteArray → List (S70) → List (S27) → List (S89) → Int → Int → Int → Option (Int)
 | 0, _, _, _, _, _, _, _, _, _, _ => none
 | k + 1, x16, x17, x18, x111q0, x111q1, x111q2, x111q3, x111q4, x111q5, x111q6 => if x18 < x17 then (if 0 ≤ x18 then (if x18 < (x16.length : Int) then ((b_name.f k (rdOf ByteArray.empty x16 x18)).bind fun t112 => (if t112 = true then (if x18 ≤ (x111q0.length : Int) then ((slices_Contains_string_string.f k (x111q0.take (x18 : Int).toNat) (rdOf ByteArray.empty x16 x18)).bind fun t114 => (if t114 = true then (some 6) else (b_checkOxides.l0 k x16 x17 (wrap64 (x18 + 1)) x111q0 x111q1 x111q2 x111q3 x111q4 x111q5 x111q6))) else (none)) else (some 5))) else (none)) else (none)) else (some 0)
def b_checkOxides.f (k : Nat) (l00 : List ByteArray) (l01 : List (S70)) (l02 : List (S27)) (l03 : List (S89)) (a04 : Int) (a05 : Int) (a06 : Int) : Option (Int) := if (l00.length : Int) > 12 then (some 3) else (if (l00.length : Int) = 0 then (some 1) else (b_checkOxides.l0 k l00 (l00.length : Int) 0 l00 l01 l02 l03 a04 a05 a06))
theorem b_checkOxides.mono_l : ∀ k, (∀ y0 y1 y2 y3 y4 y5 y6 y7 y8 y9, LeO (b_checkOxides.l0 k y0 y1 y2 y3 y4 y5 y6 y7 y8 y9) (b_checkOxides.l0 (k + 1) y0 y1 y2 y3 y4 y5 y6 y7 y8 y9))
 | 0 => fun _ _ _ _ _ _ _ _ _ _ r h => by simp [b_checkOxides.l0] at h
 | k + 1 => by
  have ih0 := b_checkOxides.mono_l k
  ·intro y0 y1 y2 y3 y4 y5 y6 y7 y8 y9
   unfold b_checkOxides.l0
   repeat' first
   | (with_reducible exact ih0 _ _ _ _ _ _ _ _ _ _)
   | (with_reducible exact b_name.mono _ _)
   | (with_reducible exact slices_Contains_string_string.mono _ _ _)
   | (with_reducible exact LeO.refl _)
   | (with_reducible exact LeO.none _)
   | (with_reducible refine LeO.ite ?_ ?_)
   | (with_reducible refine LeO.bind ?_ (fun _ => ?_))
   | exact LeO.none _
   | refine LeO.ite ?_ ?_
   | refine LeO.bind ?_ (fun _ => ?_)
theorem b_checkOxides.mono : ∀ a0 a1 a2 a3 a4 a5 a6 k, LeO (b_checkOxides.f k a0 a1 a2 a3 a4 a5 a6) (b_checkOxides.f (k + 1) a0 a1 a2 a3 a4 a5 a6) := by
 intro a0 a1 a2 a3 a4 a5 a6 k
 have ih0 := b_checkOxides.mono_l k
 unfold b_checkOxides.f
 repeat' first
   | (with_reducible exact ih0 _ _ _ _ _ _ _ _ _ _)
   | (with_reducible exact b_name.mono _ _)
   | (with_reducible exact slices_Contains_string_string.mono _ _ _)
   | (with_reducible exact LeO.refl _)
   | (with_reducible exact LeO.none _)
   | (with_reducible refine LeO.ite ?_ ?_)
   | (with_reducible refine LeO.bind ?_ (fun _ => ?_))
   | exact LeO.none _
   | refine LeO.ite ?_ ?_
   | refine LeO.bind ?_ (fun _ => ?_)
theorem b_checkOxides.calls (k : Nat) (A00 : Option Addr) (c00 : Nat) (l00 : List ByteArray) (A01 : Option Addr) (c01 : Nat) (l01 : List (S70)) (A02 : Option Addr) (c02 : Nat) (l02 : List (S27)) (A03 : Option Addr) (c03 : Nat) (l03 : List (S89)) (a04 : Int) (a05 : Int) (a06 : Int) (r : Int) (w : World) (hr00 : Kd.C Kd.string w A00 l00.length l00) (hc00 : l00.length ≤ c00) (hr01 : Kd.C k70 w A01 l01.length l01) (hc01 : l01.length ≤ c01) (hr02 : Kd.C k27 w A02 l02.length l02) (hc02 : l02.length ≤ c02) (hr03 : Kd.C k89 w A03 l03.length l03) (hc03 : l03.length ≤ c03) (h : b_checkOxides.f k l00 l01 l02 l03 a04 a05 a06 = some r) :
  Calls Tryz.prog 97 #[.agg #[.slice A00 l00.length c00, .slice A01 l01.length c01, .slice A02 l02.length c02, .slice A03 l03.length c03, .int .i64 a04, .int .i64 a05, .int .i64 a06]] w fun e w' => e = .returned (.int .i64 r) ∧ Below w.heap.size w w' := by
 have hu29 := Tryz.underlying29; have HR00 := Sd.mk hr00; have HC00 := Sd.mk hc00; clear hr00 hc00; have HR01 := Sd.mk hr01; have HC01 := Sd.mk hc01; clear hr01 hc01; have HR02 := Sd.mk hr02; have HC02 := Sd.mk hc02; clear hr02 hc02; have HR03 := Sd.mk hr03; have HC03 := Sd.mk hc03; clear hr03 hc03; have HB := Sd.mk (Below.refl w.heap.size w)
 have H : (if (l00.length : Int) > 12 then (some 3) else (if (l00.length : Int) = 0 then (some 1) else (b_checkOxides.l0 k l00 (l00.length : Int) 0 l00 l01 l02 l03 a04 a05 a06))) = some r := h
 clear h
 by_cases c2 : (l00.length : Int) > 12
 ·rw [if_pos c2] at H
  have c2b0 : decide (12 < (l00.length : Int)) = true := decide_eq_true c2
  have c2b1 : decide (12 < l00.length) = true := decide_eq_true (by omega)
  clear c2; obtain rfl := Option.some.inj H
  go_enter Tryz.func97, Tryz.ntmps97
  go_wp2_with (first | ((with_reducible refine gate_dst (N := 1) rfl ?_); refine box_event ?hg (N := 1) ?hd (cs := #[.slice A00 l00.length c00, .slice A01 l01.length c01, .slice A02 l02.length c02, .slice A03 l03.length c03, .int .i64 a04, .int .i64 a05, .int .i64 a06]) (t := 29) ?hr ?_; (case hd => rfl); (case hg => rfl); (case hr => exact tG); intro gb110 hg w3 hbox hb; have BK110 := Sd.mk (hbox); have GW110 := Sd.mk (bSz hg (bBl HB.out)); have GE110 := Sd.mk (bSz hg (bBl HB.out)); replace HB := Sd.mk (below_step (bBl HB.out) hb); clear hb hbox hg; obtain ⟨u4_0, u4_1, u4_2, u4_3, u4_4, u4_5, u4_6, o40, o41, o42, o43, o44, o45, o46⟩ := bc7 (w := w3) BK110.out))
  go_ret
  exact ⟨tE, bBl HB.out⟩
 ·rw [if_neg c2] at H
  have c2b0 : decide (12 < (l00.length : Int)) = false := decide_eq_false c2
  have c2b1 : decide (12 < l00.length) = false := decide_eq_false (by omega)
  clear c2
  by_cases c5 : (l00.length : Int) = 0
  ·rw [if_pos c5] at H
   have c5b0 : ((l00.length : Int) == 0) = true := beq_iff_eq.mpr c5
   have c5b1 : ((l00.length : Int) != 0) = false := bne_eq_false_iff_eq.mpr c5
   clear c5; obtain rfl := Option.some.inj H
   go_enter Tryz.func97, Tryz.ntmps97
   go_wp2_with (first | ((with_reducible refine gate_dst (N := 1) rfl ?_); refine box_event ?hg (N := 1) ?hd (cs := #[.slice A00 l00.length c00, .slice A01 l01.length c01, .slice A02 l02.length c02, .slice A03 l03.length c03, .int .i64 a04, .int .i64 a05, .int .i64 a06]) (t := 29) ?hr ?_; (case hd => rfl); (case hg => rfl); (case hr => exact tG); intro gb110 hg w6 hbox hb; have BK110 := Sd.mk (hbox); have GW110 := Sd.mk (bSz hg (bBl HB.out)); have GE110 := Sd.mk (bSz hg (bBl HB.out)); replace HB := Sd.mk (below_step (bBl HB.out) hb); clear hb hbox hg; obtain ⟨u7_0, u7_1, u7_2, u7_3, u7_4, u7_5, u7_6, o70, o71, o72, o73, o74, o75, o76⟩ := bc7 (w := w6) BK110.out))
   go_ret
   exact ⟨tE, bBl HB.out⟩
  ·rw [if_neg c5] at H
   have c5b0 : ((l00.length : Int) == 0) = false := beq_eq_false_iff_ne.mpr c5
   have c5b1 : ((l00.length : Int) != 0) = true := bne_iff_ne.mpr c5
   have c5b2 : ¬ (l00 = []) := fun h_ => c5 (by rw [h_]; rfl)
   have H' := Sd.mk H; clear H
   go_enter Tryz.func97, Tryz.ntmps97
   go_wp2_with (first | ((with_reducible refine gate_dst (N := 1) rfl ?_); refine box_event ?hg (N := 1) ?hd (cs := #[.slice A00 l00.length c00, .slice A01 l01.length c01, .slice A02 l02.length c02, .slice A03 l03.length c03, .int .i64 a04, .int .i64 a05, .int .i64 a06]) (t := 29) ?hr ?_; (case hd => rfl); (case hg => rfl); (case hr => exact tG); intro gb110 hg w8 hbox hb; have BK110 := Sd.mk (hbox); have GW110 := Sd.mk (bSz hg (bBl HB.out)); have GE110 := Sd.mk (bSz hg (bBl HB.out)); replace HB := Sd.mk (below_step (bBl HB.out) hb); clear hb hbox hg; obtain ⟨u9_0, u9_1, u9_2, u9_3, u9_4, u9_5, u9_6, o90, o91, o92, o93, o94, o95, o96⟩ := bc7 (w := w8) BK110.out))
   go_loopg [18] k (fun kq v18 w' => ∃ (x181 : Int), v18 = .int .i64 x181 ∧ Sd (b_checkOxides.l0 kq l00 (l00.length : Int) x181 l00 l01 l02 l03 a04 a05 a06 = some r) ∧ Sd (kq ≤ k) ∧ Sd (w'.heap[gb110]? = some (.cells #[(.slice A00 l00.length c00), (.slice A01 l01.length c01), (.slice A02 l02.length c02), (.slice A03 l03.length c03), .int .i64 a04, .int .i64 a05, .int .i64 a06] 29 (0, 0))) ∧ Sd (Below w.heap.size w w'))
   case atStart => exact ⟨(0), tS, H', ⟨Nat.le_refl _⟩, ⟨bkA BK110.out⟩, ⟨bBl HB.out⟩⟩
   case round =>
    clear H'; (try clear c2); (try clear c2b0); (try clear c2b1); (try clear p2); (try clear c5); (try clear c5b0); (try clear c5b1); (try clear c5b2); (try clear c9); (try clear u4_0 u4_1 u4_2 u4_3 u4_4 u4_5 u4_6); (try clear u7_0 u7_1 u7_2 u7_3 u7_4 u7_5 u7_6); (try clear u9_0 u9_1 u9_2 u9_3 u9_4 u9_5 u9_6); (try clear o40 o41 o42 o43 o44 o45 o46); (try clear o70 o71 o72 o73 o74 o75 o76); (try clear o90 o91 o92 o93 o94 o95 o96); obtain ⟨x181, rfl, HA, HK1, BK110, HB⟩ := hrel
    cases gk with
    | zero => exact absurd HA.out (by simp [b_checkOxides.l0])
    | succ k1 =>
     have H := HA.out; clear HA
     simp only [b_checkOxides.l0] at H
     by_cases c10 : x181 < (l00.length : Int)
     ·rw [if_pos c10] at H
      have c10b0 : decide (x181 < (l00.length : Int)) = true := decide_eq_true c10
      clear c10
      by_cases c11 : 0 ≤ x181
      ·rw [if_pos c11] at H
       have c11b0 : decide (0 ≤ x181) = true := decide_eq_true c11
       clear c11
       by_cases c12 : x181 < (l00.length : Int)
       ·rw [if_pos c12] at H
        have c12b0 : decide (x181 < (l00.length : Int)) = true := decide_eq_true c12
        clear c12; replace H := Option.bind_eq_some_iff.mp H; obtain ⟨t112, A130, H⟩ := H
        try dsimp only at H
        have A13 := Sd.mk A130; clear A130
        by_cases c14 : t112 = true
        ·subst c14
         have H1 : (if x181 ≤ (l00.length : Int) then ((slices_Contains_string_string.f k1 (l00.take (x181 : Int).toNat) (rdOf ByteArray.empty l00 x181)).bind fun t114 => (if t114 = true then (some 6) else (b_checkOxides.l0 k1 l00 (l00.length : Int) (wrap64 (x181 + 1)) l00 l01 l02 l03 a04 a05 a06))) else (none)) = some r := by rw [if_pos rfl] at H; exact H
         clear H; have H := H1; clear H1; have c15b0 := eq_true (tB : 0 ≤ x181)
         by_cases c16 : x181 ≤ (l00.length : Int)
         ·rw [if_pos c16] at H
          have c16b0 := eq_true c16
          have c16b1 : decide (x181 ≤ (l00.length : Int)) = true := decide_eq_true c16
          clear c16; replace H := Option.bind_eq_some_iff.mp H; obtain ⟨t114, A170, H⟩ := H
          try dsimp only at H
          have A17 := Sd.mk A170; clear A170
          by_cases c18 : t114 = true
          ·subst c18
           have H1 : (some 6) = some r := by rw [if_pos rfl] at H; exact H
           clear H; have H := H1; clear H1; obtain rfl := Option.some.inj H
           have p111 : 0 ≤ (x181 : Int) := tB
           have q111 : x181 < (l00.length : Int) := tB
           obtain ⟨ad111, e111, hx1110⟩ := Kd.at_string HR00.out x181 p111 q111; cases e111; replace hx1110 := cU HB hx1110; replace p111 := eq_true p111; replace q111 := eq_true q111
           go_wp2_with (first | ((with_reducible refine gate_callee (f := 102) rfl ?_); refine goesL_ (some 25) rfl rfl Tryz.func102 (by kernel_rfl) rfl #[.string (rdOf ByteArray.empty l00 x181)] rfl tM ?_; (with_reducible refine (b_name.calls k1 (rdOf ByteArray.empty l00 x181) true _ A13.out).mono ?_); rintro e w' ⟨rfl, ⟨nd, rfl⟩⟩; refine ⟨_, rfl, ?_⟩; obtain ⟨u19_0, u19_1, u19_2, u19_3, u19_4, u19_5, u19_6, o190, o191, o192, o193, o194, o195, o196⟩ := bc7 (w := wr) BK110.out; obtain ⟨i020, hi020, _, hsz20, _⟩ := info_parts info9; obtain ⟨hcut20, hA20, hC20⟩ := print_take_of (P := Tryz.prog) Value.string (⟨#[]⟩ : ByteArray) 22 9 .i64 Tryz.underlying22 hi020 hsz20 (some ad111) c00 l00 x181 (tB) (tB) HC00.out; have HR113 := Sd.mk (Kd.C_of_reads (h1 := fun _ => rfl) (hA20 _ (Kd.reads_of_C HR00.out))); have HC113 := Sd.mk hC20; clear hA20 hC20 hi020 hsz20) | ((with_reducible refine gate_callee (f := 177) rfl ?_); refine goesL_ (some 33) rfl rfl Tryz.func177 (by kernel_rfl) rfl #[.slice (some ad111) (l00.take (x181 : Int).toNat).length c00, .string (rdOf ByteArray.empty l00 x181)] rfl (by (try simp only [List.map_toArray, List.map_cons, List.map_nil]); first | done | (rw [show (l00.take (x181 : Int).toNat).length = x181.toNat from (by rw [List.length_take]; have h_ : (x181 : Int) ≤ (l00.length : Int) := tB; omega)] <;> rfl) | rfl | (simp only [List.length_drop, List.length_take]; rfl)) ?_; (with_reducible refine (slices_Contains_string_string.calls k1 _ _ (l00.take (x181 : Int).toNat) (rdOf ByteArray.empty l00 x181) true _ ?side1 ?side2 A17.out).mono ?_); (case side1 => exact cS (Kd.C_below HR113.out (bBl HB.out))); (case side2 => exact HC113.out); rintro e w' ⟨rfl, ⟨nd, rfl⟩⟩; refine ⟨_, rfl, ?_⟩))
           go_ret
           exact ⟨tE, bBl HB.out⟩
          ·replace c18 := Bool.eq_false_iff.mpr c18
           subst c18
           have H1 : (b_checkOxides.l0 k1 l00 (l00.length : Int) (wrap64 (x181 + 1)) l00 l01 l02 l03 a04 a05 a06) = some r := by rw [if_neg (show ¬ (false = true) by decide)] at H; exact H
           clear H; have H := H1; clear H1; have H' := Sd.mk H; clear H
           have p111 : 0 ≤ (x181 : Int) := tB
           have q111 : x181 < (l00.length : Int) := tB
           obtain ⟨ad111, e111, hx1110⟩ := Kd.at_string HR00.out x181 p111 q111; cases e111; replace hx1110 := cU HB hx1110; replace p111 := eq_true p111; replace q111 := eq_true q111
           go_wp2_with (first | ((with_reducible refine gate_callee (f := 102) rfl ?_); refine goesL_ (some 25) rfl rfl Tryz.func102 (by kernel_rfl) rfl #[.string (rdOf ByteArray.empty l00 x181)] rfl tM ?_; (with_reducible refine (b_name.calls k1 (rdOf ByteArray.empty l00 x181) true _ A13.out).mono ?_); rintro e w' ⟨rfl, ⟨nd, rfl⟩⟩; refine ⟨_, rfl, ?_⟩; obtain ⟨u21_0, u21_1, u21_2, u21_3, u21_4, u21_5, u21_6, o210, o211, o212, o213, o214, o215, o216⟩ := bc7 (w := wr) BK110.out; obtain ⟨i022, hi022, _, hsz22, _⟩ := info_parts info9; obtain ⟨hcut22, hA22, hC22⟩ := print_take_of (P := Tryz.prog) Value.string (⟨#[]⟩ : ByteArray) 22 9 .i64 Tryz.underlying22 hi022 hsz22 (some ad111) c00 l00 x181 (tB) (tB) HC00.out; have HR113 := Sd.mk (Kd.C_of_reads (h1 := fun _ => rfl) (hA22 _ (Kd.reads_of_C HR00.out))); have HC113 := Sd.mk hC22; clear hA22 hC22 hi022 hsz22) | ((with_reducible refine gate_callee (f := 177) rfl ?_); refine goesL_ (some 33) rfl rfl Tryz.func177 (by kernel_rfl) rfl #[.slice (some ad111) (l00.take (x181 : Int).toNat).length c00, .string (rdOf ByteArray.empty l00 x181)] rfl (by (try simp only [List.map_toArray, List.map_cons, List.map_nil]); first | done | (rw [show (l00.take (x181 : Int).toNat).length = x181.toNat from (by rw [List.length_take]; have h_ : (x181 : Int) ≤ (l00.length : Int) := tB; omega)] <;> rfl) | rfl | (simp only [List.length_drop, List.length_take]; rfl)) ?_; (with_reducible refine (slices_Contains_string_string.calls k1 _ _ (l00.take (x181 : Int).toNat) (rdOf ByteArray.empty l00 x181) false _ ?side1 ?side2 A17.out).mono ?_); (case side1 => exact cS (Kd.C_below HR113.out (bBl HB.out))); (case side2 => exact HC113.out); rintro e w' ⟨rfl, ⟨nd, rfl⟩⟩; refine ⟨_, rfl, ?_⟩))
           go_roundg k1
           case measure => have := HK1.out; omega
           case rel => exact ⟨(wrap64 (x181 + 1)), tS, H', ⟨by have := HK1.out; omega⟩, ⟨bkA BK110.out⟩, ⟨bBl HB.out⟩⟩
         ·rw [if_neg c16] at H
          exact absurd H (by simp)
        ·replace c14 := Bool.eq_false_iff.mpr c14
         subst c14
         have H1 : (some 5) = some r := by rw [if_neg (show ¬ (false = true) by decide)] at H; exact H
         clear H; have H := H1; clear H1; obtain rfl := Option.some.inj H
         have p111 : 0 ≤ (x181 : Int) := tB
         have q111 : x181 < (l00.length : Int) := tB
         obtain ⟨ad111, e111, hx1110⟩ := Kd.at_string HR00.out x181 p111 q111; cases e111; replace hx1110 := cU HB hx1110; replace p111 := eq_true p111; replace q111 := eq_true q111
         go_wp2_with (first | ((with_reducible refine gate_callee (f := 102) rfl ?_); refine goesL_ (some 25) rfl rfl Tryz.func102 (by kernel_rfl) rfl #[.string (rdOf ByteArray.empty l00 x181)] rfl tM ?_; (with_reducible refine (b_name.calls k1 (rdOf ByteArray.empty l00 x181) false _ A13.out).mono ?_); rintro e w' ⟨rfl, ⟨nd, rfl⟩⟩; refine ⟨_, rfl, ?_⟩))
         go_ret
         exact ⟨tE, bBl HB.out⟩
       ·rw [if_neg c12] at H
        exact absurd H (by simp)
      ·rw [if_neg c11] at H
       exact absurd H (by simp)
     ·rw [if_neg c10] at H
      have c10b0 : decide (x181 < (l00.length : Int)) = false := decide_eq_false c10
      clear c10; obtain rfl := Option.some.inj H
      go_wp2
      go_ret
      exact ⟨tE, bBl HB.out⟩
end
section
def oxE (o : List ByteArray) : Nat → Nat → Int
 | 0, _ => 0
 | m + 1, i => if nameOk (rdOf ByteArray.empty o (i : Int)) = true then (if ((o.take i).any fun y => y.toList == (rdOf ByteArray.empty o (i : Int)).toList) = true then 6 else oxE o m (i + 1)) else 5
theorem i_pos (i : Nat) : 0 ≤ (i : Int) := by omega
section
variable (o : List ByteArray) (mt : List S70) (s : List S27) (p : List S89) (a4 a5 a6 : Int)
theorem box_l0 (ho : o.length ≤ 12) : ∀ (m i : Nat), i + m = o.length → Ev (fun k => b_checkOxides.l0 k o (o.length : Int) (i : Int) o mt s p a4 a5 a6) (oxE o m i)
 | 0, i, hi => by
  apply Ev.step
  simp only [b_checkOxides.l0, if_neg (show ¬ (i : Int) < (o.length : Int) by omega)]
  exact Ev.const _
 | m + 1, i, hi => by
  have ih := box_l0 ho m (i + 1) (by omega)
  apply Ev.step
  simp only [b_checkOxides.l0, if_pos (show (i : Int) < (o.length : Int) by omega), if_pos (i_pos i), if_pos (show (i : Int) ≤ (o.length : Int) by omega), wrap_succ (i_pos i) (show (i : Int) ≤ 1000000000 by omega), Int.toNat_natCast]
  refine Ev.bind (bname _) ?_
  unfold oxE
  by_cases h : nameOk (rdOf ByteArray.empty o (i : Int)) = true
  ·simp only [if_pos h]
   refine Ev.bind (bcontains _ _ (by simp; omega)) ?_
   by_cases h' : ((o.take i).any fun y => y.toList == (rdOf ByteArray.empty o (i : Int)).toList) = true
   ·simp only [if_pos h']; exact Ev.const _
   ·simp only [if_neg h']; exact ih
  ·simp only [if_neg h]; exact Ev.const _
theorem box_f : Ev (fun k => b_checkOxides.f k o mt s p a4 a5 a6) (if o.length > 12 then 3 else if o.length = 0 then 1 else oxE o o.length 0) := by
 unfold b_checkOxides.f
 by_cases h : o.length > 12
 ·simp only [if_pos h, if_pos (show (o.length : Int) > 12 by omega)]; exact Ev.const _
 ·by_cases h' : o.length = 0
  ·simp only [if_neg h, if_neg (show ¬ (o.length : Int) > 12 by omega), if_pos h', if_pos (show (o.length : Int) = 0 by omega)]; exact Ev.const _
  ·simp only [if_neg h, if_neg (show ¬ (o.length : Int) > 12 by omega), if_neg h', if_neg (show ¬ (o.length : Int) = 0 by omega)]
   exact box_l0 o mt s p a4 a5 a6 (by omega) o.length 0 (by omega)
theorem rox_l0 (ho : o.length ≤ 12) (R : Int) (hR : Ev (fun k => if (mt.length : Int) > 12 then some 3 else (if (mt.length : Int) = 0 then some 1 else rf_Check.l1 k [] 0 o mt s p a4 a5 a6)) R) :
  ∀ (m i : Nat), i + m = o.length → Ev (fun k => rf_Check.l0 k (i : Int) o mt s p a4 a5 a6) (if oxE o m i = 0 then R else oxE o m i)
 | 0, i, hi => by
  apply Ev.step
  simp only [rf_Check.l0, if_neg (show ¬ (i : Int) < (o.length : Int) by omega)]
  exact hR.cast (by simp [oxE])
 | m + 1, i, hi => by
  have ih := rox_l0 ho R hR m (i + 1) (by omega)
  apply Ev.step
  simp only [rf_Check.l0, if_pos (show (i : Int) < (o.length : Int) by omega), if_pos (i_pos i), if_pos (show (i : Int) ≤ (o.length : Int) by omega), wrap_succ (i_pos i) (show (i : Int) ≤ 1000000000 by omega), Int.toNat_natCast]
  refine Ev.bind (rname _) ?_
  unfold oxE
  by_cases h : nameOk (rdOf ByteArray.empty o (i : Int)) = true
  ·simp only [if_pos h]
   refine Ev.bind (rin _ _ (by simp; omega)) ?_
   by_cases h' : ((o.take i).any fun y => y.toList == (rdOf ByteArray.empty o (i : Int)).toList) = true
   ·simp only [if_pos h']; exact (Ev.const _).cast (by simp)
   ·simp only [if_neg h']; exact ih
  ·simp only [if_neg h]; exact (Ev.const _).cast (by simp)
def conE (l : List S27) : Nat → Nat → Int → Int
 | 0, _, acc => if acc > 1000 then 12 else 0
 | m + 1, i, acc => if badSpan (rd_T27 l (i : Int)) = true then 1 else conE l m (i + 1) (acc + (rd_T27 l (i : Int)).f0)
def matC (n : Nat) (x : S70) : Int :=
 if (0 ≤ x.f1 ∧ x.f1 ≤ 10000) ∧ (-1000 ≤ x.f2 ∧ x.f2 ≤ 1000) ∧ (0 ≤ x.f3 ∧ x.f3 ≤ 10000) ∧ (x.f3 ≤ x.f4 ∧ x.f4 ≤ 10000) ∧ (1 ≤ x.f5 ∧ x.f5 ≤ 10000) ∧ x.f6.length = n then conE x.f6 x.f6.length 0 0 else 1
theorem span_bad (x : S27) : b_span.f x.f0 x.f1 0 1000 = some (!badSpan x) := by
 rw [span_f]; unfold badSpan; simp
theorem rwithin_bad (x : S27) : rf_within.f x.f0 x.f1 0 1000 = some (!badSpan x) := by
 rw [← span_bad]; rfl
theorem bad_false {x : S27} (h : badSpan x = false) : 0 ≤ x.f0 ∧ x.f0 ≤ x.f1 ∧ x.f1 ≤ 1000 := by
 simp [badSpan] at h; omega
theorem bcon_l0 (l : List S27) (hl : l.length ≤ 12) : ∀ (m i : Nat) (acc : Int), i + m = l.length → 0 ≤ acc → acc ≤ 1000 * i → Ev (fun k => b_checkMaterial.l0 k acc l (l.length : Int) (i : Int)) (conE l m i acc)
 | 0, i, acc, hi, h0, h1 => by
  apply Ev.step
  simp only [b_checkMaterial.l0, if_neg (show ¬ (i : Int) < (l.length : Int) by omega)]
  unfold conE
  by_cases h : acc > 1000
  ·simp only [if_pos h]; exact Ev.const _
  ·simp only [if_neg h]; exact Ev.const _
 | m + 1, i, acc, hi, h0, h1 => by
  apply Ev.step
  simp only [b_checkMaterial.l0, if_pos (show (i : Int) < (l.length : Int) by omega), if_pos (i_pos i), wrap_succ (i_pos i) (show (i : Int) ≤ 1000000000 by omega), span_bad, Option.bind_some]
  unfold conE
  by_cases h : badSpan (rd_T27 l (i : Int)) = true
  ·simp only [h, Bool.not_true, Bool.false_eq_true, if_false, if_true]; exact Ev.const _
  ·have hb := bad_false (Bool.not_eq_true _ ▸ h)
   have ih := bcon_l0 l hl m (i + 1) (acc + (rd_T27 l (i : Int)).f0) (by omega) (by omega) (by omega)
   simp only [h, Bool.not_false, Bool.false_eq_true, if_true, if_false, wrap_id (x := acc + (rd_T27 l (i : Int)).f0) (by omega) (by omega)]
   exact ih
theorem rcon_l0 (n : ByteArray) (b1 b2 b3 b4 b5 : Int) (l : List S27) (hl : l.length ≤ 12) : ∀ (m i : Nat) (acc : Int), i + m = l.length → 0 ≤ acc → acc ≤ 1000 * i → Ev (fun k => rf_material.l0 k acc (i : Int) n b1 b2 b3 b4 b5 l) (conE l m i acc)
 | 0, i, acc, hi, h0, h1 => by
  apply Ev.step
  simp only [rf_material.l0, if_neg (show ¬ (i : Int) < (l.length : Int) by omega)]
  unfold conE
  by_cases h : acc > 1000
  ·simp only [if_pos h]; exact Ev.const _
  ·simp only [if_neg h]; exact Ev.const _
 | m + 1, i, acc, hi, h0, h1 => by
  apply Ev.step
  simp only [rf_material.l0, if_pos (show (i : Int) < (l.length : Int) by omega), if_pos (i_pos i), wrap_succ (i_pos i) (show (i : Int) ≤ 1000000000 by omega), rwithin_bad, Option.bind_some]
  unfold conE
  by_cases h : badSpan (rd_T27 l (i : Int)) = true
  ·simp only [h, Bool.not_true, Bool.false_eq_true, if_false, if_true]; exact Ev.const _
  ·have hb := bad_false (Bool.not_eq_true _ ▸ h)
   have ih := rcon_l0 n b1 b2 b3 b4 b5 l hl m (i + 1) (acc + (rd_T27 l (i : Int)).f0) (by omega) (by omega) (by omega)
   simp only [h, Bool.not_false, Bool.false_eq_true, if_true, if_false, wrap_id (x := acc + (rd_T27 l (i : Int)).f0) (by omega) (by omega)]
   exact ih
theorem bmat (ho : o.length ≤ 12) (x : S70) : Ev (fun k => b_checkMaterial.f k o mt s p a4 a5 a6 x.f0 x.f1 x.f2 x.f3 x.f4 x.f5 x.f6) (matC o.length x) := by
 have hj1 : Ev (fun k => b_checkMaterial.j0 k true x.f0 x.f1 x.f2 x.f3 x.f4 x.f5 x.f6) 1 := by
  apply Ev.step; simp only [b_checkMaterial.j0, if_true]; exact Ev.const _
 have hj0 : x.f6.length = o.length → Ev (fun k => b_checkMaterial.j0 k false x.f0 x.f1 x.f2 x.f3 x.f4 x.f5 x.f6) (conE x.f6 x.f6.length 0 0) := by
  intro hh
  apply Ev.step; simp only [b_checkMaterial.j0, Bool.false_eq_true, if_false]
  exact bcon_l0 x.f6 (by omega) x.f6.length 0 0 (by omega) (by omega) (by omega)
 unfold b_checkMaterial.f
 simp only [within_f, Option.bind_some, Bool.and_eq_true, decide_eq_true_eq]
 unfold matC
 by_cases h1 : 0 ≤ x.f1 ∧ x.f1 ≤ 10000
 ·by_cases h2 : -1000 ≤ x.f2 ∧ x.f2 ≤ 1000
  ·by_cases h3 : 0 ≤ x.f3 ∧ x.f3 ≤ 10000
   ·by_cases h4 : x.f3 ≤ x.f4 ∧ x.f4 ≤ 10000
    ·by_cases h5 : 1 ≤ x.f5 ∧ x.f5 ≤ 10000
     ·by_cases h6 : x.f6.length = o.length
      ·simp only [if_pos h1, if_pos h2, if_pos h3, if_pos h4, if_pos h5, h1, h2, h3, h4, h5, h6, and_self, if_true, bne_self_eq_false]
       exact (hj0 h6).cast (by rw [h6])
      ·have hb : ((x.f6.length : Int) != (o.length : Int)) = true := by simp; omega
       simp only [if_pos h1, if_pos h2, if_pos h3, if_pos h4, if_pos h5, hb]
       exact hj1.cast (by rw [if_neg (fun hh => h6 hh.2.2.2.2.2)])
     ·simp only [if_pos h1, if_pos h2, if_pos h3, if_pos h4, if_neg h5]
      exact hj1.cast (by rw [if_neg (fun hh => h5 hh.2.2.2.2.1)])
    ·simp only [if_pos h1, if_pos h2, if_pos h3, if_neg h4]
     exact hj1.cast (by rw [if_neg (fun hh => h4 hh.2.2.2.1)])
   ·simp only [if_pos h1, if_pos h2, if_neg h3]
    exact hj1.cast (by rw [if_neg (fun hh => h3 hh.2.2.1)])
  ·simp only [if_pos h1, if_neg h2]
   exact hj1.cast (by rw [if_neg (fun hh => h2 hh.2.1)])
 ·simp only [if_neg h1]
  exact hj1.cast (by rw [if_neg (fun hh => h1 hh.1)])
theorem rmat (ho : o.length ≤ 12) (x : S70) : Ev (fun k => rf_material.f k o mt s p a4 a5 a6 x.f0 x.f1 x.f2 x.f3 x.f4 x.f5 x.f6) (matC o.length x) := by
 have hj1 : Ev (fun k => rf_material.j0 k true o mt s p a4 a5 a6 x.f0 x.f1 x.f2 x.f3 x.f4 x.f5 x.f6) 1 := by
  apply Ev.step; simp only [rf_material.j0, if_true]; exact Ev.const _
 have hj0 : Ev (fun k => rf_material.j0 k false o mt s p a4 a5 a6 x.f0 x.f1 x.f2 x.f3 x.f4 x.f5 x.f6) (if x.f6.length = o.length then conE x.f6 x.f6.length 0 0 else 1) := by
  apply Ev.step; simp only [rf_material.j0, Bool.false_eq_true, if_false]
  by_cases hh : x.f6.length = o.length
  ·simp only [if_pos hh, if_pos (show (x.f6.length : Int) = (o.length : Int) by omega)]
   exact rcon_l0 x.f0 x.f1 x.f2 x.f3 x.f4 x.f5 x.f6 (by omega) x.f6.length 0 0 (by omega) (by omega) (by omega)
  ·simp only [if_neg hh, if_neg (show ¬ (x.f6.length : Int) = (o.length : Int) by omega)]; exact Ev.const _
 unfold rf_material.f matC
 by_cases h1 : x.f1 < 0
 ·simp only [if_pos h1]; exact hj1.cast (by rw [if_neg]; omega)
 ·simp only [if_neg h1]
  by_cases h2 : x.f1 > 10000
  ·simp only [if_pos h2]; exact hj1.cast (by rw [if_neg]; omega)
  ·simp only [if_neg h2]
   by_cases h3 : x.f2 < -1000
   ·simp only [if_pos h3]; exact hj1.cast (by rw [if_neg]; omega)
   ·simp only [if_neg h3]
    by_cases h4 : x.f2 > 1000
    ·simp only [if_pos h4]; exact hj1.cast (by rw [if_neg]; omega)
    ·simp only [if_neg h4]
     by_cases h5 : x.f3 < 0
     ·simp only [if_pos h5]; exact hj1.cast (by rw [if_neg]; omega)
     ·simp only [if_neg h5]
      by_cases h6 : x.f3 > 10000
      ·simp only [if_pos h6]; exact hj1.cast (by rw [if_neg]; omega)
      ·simp only [if_neg h6]
       by_cases h7 : x.f4 < x.f3
       ·simp only [if_pos h7]; exact hj1.cast (by rw [if_neg]; omega)
       ·simp only [if_neg h7]
        by_cases h8 : x.f4 > 10000
        ·simp only [if_pos h8]; exact hj1.cast (by rw [if_neg]; omega)
        ·simp only [if_neg h8]
         by_cases h9 : x.f5 < 1
         ·simp only [if_pos h9]; exact hj1.cast (by rw [if_neg]; omega)
         ·simp only [if_neg h9]
          by_cases h10 : x.f5 > 10000
          ·simp only [h10, decide_true]; exact hj1.cast (by rw [if_neg]; omega)
          ·simp only [h10, decide_false]
           refine hj0.cast ?_
           by_cases hh : x.f6.length = o.length
           ·rw [if_pos hh, if_pos (by omega)]
           ·rw [if_neg hh, if_neg (by omega)]
end
end
section
theorem name_prop (s : ByteArray) (v1 v2 v3 : Value) (w : World) : Calls Tryz.prog 104 #[.agg #[.string s, v1, v2, v3]] w fun e w' => e = .returned (.string s) ∧ Below w.heap.size w w' := by
  go_enter Tryz.func104, Tryz.ntmps104
  go_wp2
  go_ret
  exact ⟨rfl, below_alloc (Below.refl _ _) _⟩
theorem same_prop (B1 B2 B3 : Nat) (A : Option Addr) (c : Nat) (l : List S89) (i : Int) (x : S89) (Ax : Option Addr) (cx : Nat) (W : World)
    (h1 : W.cell? ⟨B1, 0, none⟩ = some (.func (.func 104) #[] #[])) (h2 : W.cell? ⟨B2, 0, none⟩ = some (.slice A l.length c)) (h3 : W.cell? ⟨B3, 0, none⟩ = some (.int .i64 i))
    (hr : Kd.C k89 W A l.length l) (hi0 : 0 ≤ i) (hi1 : i < l.length) :
    Calls Tryz.prog 183 #[.agg #[.string x.f0, .slice Ax x.f1.length cx, .int .i64 x.f2.f0, .int .i64 x.f2.f1], .pointer (some ⟨B1, 0, none⟩), .pointer (some ⟨B2, 0, none⟩), .pointer (some ⟨B3, 0, none⟩)] W fun e W' => e = .returned (.bool (x.f0.toList == (rd_T89 l i).f0.toList)) ∧ Below W.heap.size W W' := by
  obtain ⟨ad, Ay, cy, e, hc0, hc1, hc2, hc3, _, _⟩ := at_T89 hr i hi0 hi1
  cases e
  generalize rd_T89 l i = y at hc0 hc1 hc2 hc3 ⊢
  have b1 := World.block_lt_of_cell? W _ h1
  have b2 := World.block_lt_of_cell? W _ h2
  have b3 := World.block_lt_of_cell? W _ h3
  have b4 := World.block_lt_of_cell? W _ hc0
  simp only at b1 b2 b3 b4
  go_enter Tryz.func183, Tryz.ntmps183
  go_wp2_with fail
  go_region_held3 (fun w' => w'.cell? ⟨B1, 0, none⟩ = some (.func (.func 104) #[] #[]) ∧ w'.cell? ⟨B2, 0, none⟩ = some (.slice (some ad) l.length c) ∧ w'.cell? ⟨B3, 0, none⟩ = some (.int .i64 i) ∧ w'.cell? ⟨W.heap.size, 0, none⟩ = some (.string x.f0) ∧ w'.cell? ⟨W.heap.size, 1, none⟩ = some (.slice Ax x.f1.length cx) ∧ w'.cell? ⟨W.heap.size, 2, none⟩ = some (.int .i64 x.f2.f0) ∧ w'.cell? ⟨W.heap.size, 3, none⟩ = some (.int .i64 x.f2.f1) ∧ w'.cell? (ad.add (i.toNat * 4)) = some (.string y.f0) ∧ w'.cell? ⟨(ad.add (i.toNat * 4)).block, (ad.add (i.toNat * 4)).off + 1, none⟩ = some (.slice Ay y.f1.length cy) ∧ w'.cell? ⟨(ad.add (i.toNat * 4)).block, (ad.add (i.toNat * 4)).off + 2, none⟩ = some (.int .i64 y.f2.f0) ∧ w'.cell? ⟨(ad.add (i.toNat * 4)).block, (ad.add (i.toNat * 4)).off + 3, none⟩ = some (.int .i64 y.f2.f1)) (first | (simp [*, go_sem]; done) | (go_split_ands; refine ⟨?_, ?_, ?_, ?_, ?_, ?_, ?_, ?_, ?_, ?_, ?_⟩ <;> first | assumption | exact pw_cell_below hb (by assumption)))
    (first | (go_at_call 104; refine (name_prop _ _ _ _ _).mono ?_; rintro e w' ⟨rfl, hb⟩))
  all_goals
    go_wp2
    go_ret
    refine ⟨rfl, ?_⟩
    repeat (first | exact below_drew (below_alloc (Below.refl _ _) _) | refine below_trans' ?_ (by assumption))
def x_twiceP.f (l : List S89) (i : Int) : Option Bool := if 0 ≤ i then if i < l.length then some ((l.take i.toNat).any fun x => x.f0.toList == (rd_T89 l i).f0.toList) else none else none
theorem x_twiceP.calls (A0 : Option Addr) (c0 : Nat) (l0 : List S89) (a1 : Int) (r : Bool) (w : World) (hr0 : Kd.C k89 w A0 l0.length l0) (hc0 : l0.length ≤ c0) (h : x_twiceP.f l0 a1 = some r) :
    Calls Tryz.prog 103 #[.slice A0 l0.length c0, .int .i64 a1, .func (.func 104) #[] #[]] w fun e w' => e = .returned (.bool r) ∧ Below w.heap.size w w' := by
  unfold x_twiceP.f at h
  by_cases hi0 : 0 ≤ a1
  · rw [if_pos hi0] at h
    by_cases hi1 : a1 < l0.length
    · rw [if_pos hi1] at h
      have HR := Sd.mk (Option.some.inj h)
      have HC := Sd.mk hr0
      clear h hr0
      obtain ⟨i, rfl⟩ := Int.eq_ofNat_of_zero_le hi0
      have hi2 : i < l0.length := by omega
      have hi3 : ¬ (i : Int) > (c0 : Int) := by omega
      have hlen : (l0.take i).length = i := by simp; omega
      have HL := Sd.mk hlen
      have HK := fun (W : World) (B1 B2 B3 : Nat) (h1 : W.cell? ⟨B1, 0, none⟩ = some (.func (.func 104) #[] #[])) (h2 : W.cell? ⟨B2, 0, none⟩ = some (.slice A0 l0.length c0)) (h3 : W.cell? ⟨B3, 0, none⟩ = some (.int .i64 (i : Int))) (hb : Below w.heap.size w W) =>
        containsFunc_prop (fun x => x.f0.toList == (rd_T89 l0 (i : Int)).f0.toList) 183 #[.pointer (some ⟨B1, 0, none⟩), .pointer (some ⟨B2, 0, none⟩), .pointer (some ⟨B3, 0, none⟩)] (enters_of Tryz.func183 (by kernel_rfl) rfl)
          A0 c0 (l0.take i) W (Kd.C_below (Kd.C_take HC.out (by omega)) hb)
          (fun x _ Ax cx W' hb' => same_prop B1 B2 B3 A0 c0 l0 (i : Int) x Ax cx W' (pw_cell_below hb' h1) (pw_cell_below hb' h2) (pw_cell_below hb' h3) (Kd.C_below (Kd.C_below HC.out hb) hb') hi0 hi1)
      have HK' := Sd.mk HK
      clear HK hlen
      go_enter Tryz.func103, Tryz.ntmps103
      go_wp2_with fail
      have hc := HK'.out (((w.alloc (.cells #[.slice A0 l0.length c0] 25)).alloc (.cells #[.int .i64 (i : Int)] 3)).alloc (.cells #[.func (.func 104) #[] #[]] 144)) (w.heap.size + 1 + 1) w.heap.size (w.heap.size + 1) (by simp [go_sem]) (by simp [go_sem]) (by simp [go_sem]) (below_alloc (below_alloc (below_alloc (Below.refl _ _) _) _) _)
      rw [HL.out] at hc
      refine hc.mono ?_
      clear hc HK'
      rintro e w1 ⟨rfl, hb⟩
      go_wp2
      go_ret
      exact ⟨by rw [← HR.out]; rfl, below_trans' (below_alloc (below_alloc (below_alloc (Below.refl _ _) _) _) _) hb⟩
    · rw [if_neg hi1] at h; cases h
  · rw [if_neg hi0] at h; cases h
theorem name_mat (s : ByteArray) (v1 v2 v3 v4 v5 v6 : Value) (w : World) : Calls Tryz.prog 179 #[.agg #[.string s, v1, v2, v3, v4, v5, v6]] w fun e w' => e = .returned (.string s) ∧ Below w.heap.size w w' := by
  go_enter Tryz.func179, Tryz.ntmps179
  go_wp2
  go_ret
  exact ⟨rfl, below_alloc (Below.refl _ _) _⟩
theorem same_mat (B1 B2 B3 : Nat) (A : Option Addr) (c : Nat) (l : List S70) (i : Int) (x : S70) (Ax : Option Addr) (cx : Nat) (W : World)
    (h1 : W.cell? ⟨B1, 0, none⟩ = some (.func (.func 179) #[] #[])) (h2 : W.cell? ⟨B2, 0, none⟩ = some (.slice A l.length c)) (h3 : W.cell? ⟨B3, 0, none⟩ = some (.int .i64 i))
    (hr : Kd.C k70 W A l.length l) (hi0 : 0 ≤ i) (hi1 : i < l.length) :
    Calls Tryz.prog 210 #[.agg #[.string x.f0, .int .i64 x.f1, .int .i64 x.f2, .int .i64 x.f3, .int .i64 x.f4, .int .i64 x.f5, .slice Ax x.f6.length cx], .pointer (some ⟨B1, 0, none⟩), .pointer (some ⟨B2, 0, none⟩), .pointer (some ⟨B3, 0, none⟩)] W fun e W' => e = .returned (.bool (x.f0.toList == (rd_T70 l i).f0.toList)) ∧ Below W.heap.size W W' := by
  obtain ⟨ad, Ay, cy, e, hc0, hc1, hc2, hc3, hc4, hc5, hc6, _, _⟩ := at_T70 hr i hi0 hi1
  cases e
  generalize rd_T70 l i = y at hc0 hc1 hc2 hc3 hc4 hc5 hc6 ⊢
  have b1 := World.block_lt_of_cell? W _ h1
  have b2 := World.block_lt_of_cell? W _ h2
  have b3 := World.block_lt_of_cell? W _ h3
  have b4 := World.block_lt_of_cell? W _ hc0
  simp only at b1 b2 b3 b4
  go_enter Tryz.func210, Tryz.ntmps210
  go_wp2_with fail
  go_region_held3 (fun w' => w'.cell? ⟨B1, 0, none⟩ = some (.func (.func 179) #[] #[]) ∧ w'.cell? ⟨B2, 0, none⟩ = some (.slice (some ad) l.length c) ∧ w'.cell? ⟨B3, 0, none⟩ = some (.int .i64 i) ∧ w'.cell? ⟨W.heap.size, 0, none⟩ = some (.string x.f0) ∧ w'.cell? ⟨W.heap.size, 1, none⟩ = some (.int .i64 x.f1) ∧ w'.cell? ⟨W.heap.size, 2, none⟩ = some (.int .i64 x.f2) ∧ w'.cell? ⟨W.heap.size, 3, none⟩ = some (.int .i64 x.f3) ∧ w'.cell? ⟨W.heap.size, 4, none⟩ = some (.int .i64 x.f4) ∧ w'.cell? ⟨W.heap.size, 5, none⟩ = some (.int .i64 x.f5) ∧ w'.cell? ⟨W.heap.size, 6, none⟩ = some (.slice Ax x.f6.length cx) ∧ w'.cell? (ad.add (i.toNat * 7)) = some (.string y.f0) ∧ w'.cell? ⟨(ad.add (i.toNat * 7)).block, (ad.add (i.toNat * 7)).off + 1, none⟩ = some (.int .i64 y.f1) ∧ w'.cell? ⟨(ad.add (i.toNat * 7)).block, (ad.add (i.toNat * 7)).off + 2, none⟩ = some (.int .i64 y.f2) ∧ w'.cell? ⟨(ad.add (i.toNat * 7)).block, (ad.add (i.toNat * 7)).off + 3, none⟩ = some (.int .i64 y.f3) ∧ w'.cell? ⟨(ad.add (i.toNat * 7)).block, (ad.add (i.toNat * 7)).off + 4, none⟩ = some (.int .i64 y.f4) ∧ w'.cell? ⟨(ad.add (i.toNat * 7)).block, (ad.add (i.toNat * 7)).off + 5, none⟩ = some (.int .i64 y.f5) ∧ w'.cell? ⟨(ad.add (i.toNat * 7)).block, (ad.add (i.toNat * 7)).off + 6, none⟩ = some (.slice Ay y.f6.length cy)) (first | (simp [*, go_sem]; done) | (go_split_ands; refine ⟨?_, ?_, ?_, ?_, ?_, ?_, ?_, ?_, ?_, ?_, ?_, ?_, ?_, ?_, ?_, ?_, ?_⟩ <;> first | assumption | exact pw_cell_below hb (by assumption)))
    (first | (go_at_call 179; refine (name_mat _ _ _ _ _ _ _ _).mono ?_; rintro e w' ⟨rfl, hb⟩))
  all_goals
    go_wp2
    go_ret
    refine ⟨rfl, ?_⟩
    repeat (first | exact below_drew (below_alloc (Below.refl _ _) _) | refine below_trans' ?_ (by assumption))
def x_twiceM.f (l : List S70) (i : Int) : Option Bool := if 0 ≤ i then if i < l.length then some ((l.take i.toNat).any fun x => x.f0.toList == (rd_T70 l i).f0.toList) else none else none
theorem x_twiceM.calls (A0 : Option Addr) (c0 : Nat) (l0 : List S70) (a1 : Int) (r : Bool) (w : World) (hr0 : Kd.C k70 w A0 l0.length l0) (hc0 : l0.length ≤ c0) (h : x_twiceM.f l0 a1 = some r) :
    Calls Tryz.prog 178 #[.slice A0 l0.length c0, .int .i64 a1, .func (.func 179) #[] #[]] w fun e w' => e = .returned (.bool r) ∧ Below w.heap.size w w' := by
  unfold x_twiceM.f at h
  by_cases hi0 : 0 ≤ a1
  · rw [if_pos hi0] at h
    by_cases hi1 : a1 < l0.length
    · rw [if_pos hi1] at h
      have HR := Sd.mk (Option.some.inj h)
      have HC := Sd.mk hr0
      clear h hr0
      obtain ⟨i, rfl⟩ := Int.eq_ofNat_of_zero_le hi0
      have hi2 : i < l0.length := by omega
      have hi3 : ¬ (i : Int) > (c0 : Int) := by omega
      have hlen : (l0.take i).length = i := by simp; omega
      have HL := Sd.mk hlen
      have HK := fun (W : World) (B1 B2 B3 : Nat) (h1 : W.cell? ⟨B1, 0, none⟩ = some (.func (.func 179) #[] #[])) (h2 : W.cell? ⟨B2, 0, none⟩ = some (.slice A0 l0.length c0)) (h3 : W.cell? ⟨B3, 0, none⟩ = some (.int .i64 (i : Int))) (hb : Below w.heap.size w W) =>
        containsFunc_mat (fun x => x.f0.toList == (rd_T70 l0 (i : Int)).f0.toList) 210 #[.pointer (some ⟨B1, 0, none⟩), .pointer (some ⟨B2, 0, none⟩), .pointer (some ⟨B3, 0, none⟩)] (enters_of Tryz.func210 (by kernel_rfl) rfl)
          A0 c0 (l0.take i) W (Kd.C_below (Kd.C_take HC.out (by omega)) hb)
          (fun x _ Ax cx W' hb' => same_mat B1 B2 B3 A0 c0 l0 (i : Int) x Ax cx W' (pw_cell_below hb' h1) (pw_cell_below hb' h2) (pw_cell_below hb' h3) (Kd.C_below (Kd.C_below HC.out hb) hb') hi0 hi1)
      have HK' := Sd.mk HK
      clear HK hlen
      go_enter Tryz.func178, Tryz.ntmps178
      go_wp2_with fail
      have hc := HK'.out (((w.alloc (.cells #[.slice A0 l0.length c0] 23)).alloc (.cells #[.int .i64 (i : Int)] 3)).alloc (.cells #[.func (.func 179) #[] #[]] 198)) (w.heap.size + 1 + 1) w.heap.size (w.heap.size + 1) (by simp [go_sem]) (by simp [go_sem]) (by simp [go_sem]) (below_alloc (below_alloc (below_alloc (Below.refl _ _) _) _) _)
      rw [HL.out] at hc
      refine hc.mono ?_
      clear hc HK'
      rintro e w1 ⟨rfl, hb⟩
      go_wp2
      go_ret
      exact ⟨by rw [← HR.out]; rfl, below_trans' (below_alloc (below_alloc (below_alloc (Below.refl _ _) _) _) _) hb⟩
    · rw [if_neg hi1] at h; cases h
  · rw [if_neg hi0] at h; cases h
end
section
def b_checkMaterials.l0 : Nat → List (S70) → Int → Int → List ByteArray → List (S70) → List (S27) → List (S89) → Int → Int → Int → Option (Int)
 | 0, _, _, _, _, _, _, _, _, _, _ => none
 | k + 1, x17, x18, x19, x127q0, x127q1, x127q2, x127q3, x127q4, x127q5, x127q6 => if x19 < x18 then (if 0 ≤ x19 then (if x19 < (x17.length : Int) then ((b_name.f k ((rd_T70 x17 x19).f0)).bind fun t129 => (if t129 = true then ((x_twiceM.f x127q1 x19).bind fun t130 => (if t130 = true then (some 6) else ((b_checkMaterial.f k x127q0 x127q1 x127q2 x127q3 x127q4 x127q5 x127q6 ((rd_T70 x17 x19).f0) ((rd_T70 x17 x19).f1) ((rd_T70 x17 x19).f2) ((rd_T70 x17 x19).f3) ((rd_T70 x17 x19).f4) ((rd_T70 x17 x19).f5) ((rd_T70 x17 x19).f6)).bind fun t131 => (if t131 = 0 then (b_checkMaterials.l0 k x17 x18 (wrap64 (x19 + 1)) x127q0 x127q1 x127q2 x127q3 x127q4 x127q5 x127q6) else (some t131))))) else (some 5))) else (none)) else (none)) else (some 0)
def b_checkMaterials.f (k : Nat) (l00 : List ByteArray) (l01 : List (S70)) (l02 : List (S27)) (l03 : List (S89)) (a04 : Int) (a05 : Int) (a06 : Int) : Option (Int) := if (l01.length : Int) > 12 then (some 3) else (if (l01.length : Int) = 0 then (some 1) else (b_checkMaterials.l0 k l01 (l01.length : Int) 0 l00 l01 l02 l03 a04 a05 a06))
theorem b_checkMaterials.mono_l : ∀ k, (∀ y0 y1 y2 y3 y4 y5 y6 y7 y8 y9, LeO (b_checkMaterials.l0 k y0 y1 y2 y3 y4 y5 y6 y7 y8 y9) (b_checkMaterials.l0 (k + 1) y0 y1 y2 y3 y4 y5 y6 y7 y8 y9))
 | 0 => fun _ _ _ _ _ _ _ _ _ _ r h => by simp [b_checkMaterials.l0] at h
 | k + 1 => by
  have ih0 := b_checkMaterials.mono_l k
  ·intro y0 y1 y2 y3 y4 y5 y6 y7 y8 y9
   unfold b_checkMaterials.l0
   repeat' first
   | (with_reducible exact ih0 _ _ _ _ _ _ _ _ _ _)
   | (with_reducible exact b_checkMaterial.mono _ _ _ _ _ _ _ _ _ _ _ _ _ _ _)
   | (with_reducible exact b_name.mono _ _)
   | (with_reducible exact LeO.refl _)
   | (with_reducible exact LeO.none _)
   | (with_reducible refine LeO.ite ?_ ?_)
   | (with_reducible refine LeO.bind ?_ (fun _ => ?_))
   | exact LeO.none _
   | refine LeO.ite ?_ ?_
   | refine LeO.bind ?_ (fun _ => ?_)
theorem b_checkMaterials.mono : ∀ a0 a1 a2 a3 a4 a5 a6 k, LeO (b_checkMaterials.f k a0 a1 a2 a3 a4 a5 a6) (b_checkMaterials.f (k + 1) a0 a1 a2 a3 a4 a5 a6) := by
 intro a0 a1 a2 a3 a4 a5 a6 k
 have ih0 := b_checkMaterials.mono_l k
 unfold b_checkMaterials.f
 repeat' first
   | (with_reducible exact ih0 _ _ _ _ _ _ _ _ _ _)
   | (with_reducible exact b_checkMaterial.mono _ _ _ _ _ _ _ _ _ _ _ _ _ _ _)
   | (with_reducible exact b_name.mono _ _)
   | (with_reducible exact LeO.refl _)
   | (with_reducible exact LeO.none _)
   | (with_reducible refine LeO.ite ?_ ?_)
   | (with_reducible refine LeO.bind ?_ (fun _ => ?_))
   | exact LeO.none _
   | refine LeO.ite ?_ ?_
   | refine LeO.bind ?_ (fun _ => ?_)
theorem b_checkMaterials.calls (k : Nat) (A00 : Option Addr) (c00 : Nat) (l00 : List ByteArray) (A01 : Option Addr) (c01 : Nat) (l01 : List (S70)) (A02 : Option Addr) (c02 : Nat) (l02 : List (S27)) (A03 : Option Addr) (c03 : Nat) (l03 : List (S89)) (a04 : Int) (a05 : Int) (a06 : Int) (r : Int) (w : World) (hr00 : Kd.C Kd.string w A00 l00.length l00) (hc00 : l00.length ≤ c00) (hr01 : Kd.C k70 w A01 l01.length l01) (hc01 : l01.length ≤ c01) (hr02 : Kd.C k27 w A02 l02.length l02) (hc02 : l02.length ≤ c02) (hr03 : Kd.C k89 w A03 l03.length l03) (hc03 : l03.length ≤ c03) (h : b_checkMaterials.f k l00 l01 l02 l03 a04 a05 a06 = some r) :
  Calls Tryz.prog 98 #[.agg #[.slice A00 l00.length c00, .slice A01 l01.length c01, .slice A02 l02.length c02, .slice A03 l03.length c03, .int .i64 a04, .int .i64 a05, .int .i64 a06]] w fun e w' => e = .returned (.int .i64 r) ∧ Below w.heap.size w w' := by
 have hu29 := Tryz.underlying29; have hu70 := Tryz.underlying70; have HR00 := Sd.mk hr00; have HC00 := Sd.mk hc00; clear hr00 hc00; have HR01 := Sd.mk hr01; have HC01 := Sd.mk hc01; clear hr01 hc01; have HR02 := Sd.mk hr02; have HC02 := Sd.mk hc02; clear hr02 hc02; have HR03 := Sd.mk hr03; have HC03 := Sd.mk hc03; clear hr03 hc03; have HB := Sd.mk (Below.refl w.heap.size w)
 have H : (if (l01.length : Int) > 12 then (some 3) else (if (l01.length : Int) = 0 then (some 1) else (b_checkMaterials.l0 k l01 (l01.length : Int) 0 l00 l01 l02 l03 a04 a05 a06))) = some r := h
 clear h
 by_cases c2 : (l01.length : Int) > 12
 ·rw [if_pos c2] at H
  have c2b0 : decide (12 < (l01.length : Int)) = true := decide_eq_true c2
  have c2b1 : decide (12 < l01.length) = true := decide_eq_true (by omega)
  clear c2; obtain rfl := Option.some.inj H
  go_enter Tryz.func98, Tryz.ntmps98
  go_wp2_with (first | ((with_reducible refine gate_dst (N := 1) rfl ?_); refine box_event ?hg (N := 1) ?hd (cs := #[.slice A00 l00.length c00, .slice A01 l01.length c01, .slice A02 l02.length c02, .slice A03 l03.length c03, .int .i64 a04, .int .i64 a05, .int .i64 a06]) (t := 29) ?hr ?_; (case hd => rfl); (case hg => rfl); (case hr => exact tG); intro gb126 hg w3 hbox hb; have BK126 := Sd.mk (hbox); have GW126 := Sd.mk (bSz hg (bBl HB.out)); have GE126 := Sd.mk (bSz hg (bBl HB.out)); replace HB := Sd.mk (below_step (bBl HB.out) hb); clear hb hbox hg; obtain ⟨u4_0, u4_1, u4_2, u4_3, u4_4, u4_5, u4_6, o40, o41, o42, o43, o44, o45, o46⟩ := bc7 (w := w3) BK126.out))
  go_ret
  exact ⟨tE, bBl HB.out⟩
 ·rw [if_neg c2] at H
  have c2b0 : decide (12 < (l01.length : Int)) = false := decide_eq_false c2
  have c2b1 : decide (12 < l01.length) = false := decide_eq_false (by omega)
  clear c2
  by_cases c5 : (l01.length : Int) = 0
  ·rw [if_pos c5] at H
   have c5b0 : ((l01.length : Int) == 0) = true := beq_iff_eq.mpr c5
   have c5b1 : ((l01.length : Int) != 0) = false := bne_eq_false_iff_eq.mpr c5
   clear c5; obtain rfl := Option.some.inj H
   go_enter Tryz.func98, Tryz.ntmps98
   go_wp2_with (first | ((with_reducible refine gate_dst (N := 1) rfl ?_); refine box_event ?hg (N := 1) ?hd (cs := #[.slice A00 l00.length c00, .slice A01 l01.length c01, .slice A02 l02.length c02, .slice A03 l03.length c03, .int .i64 a04, .int .i64 a05, .int .i64 a06]) (t := 29) ?hr ?_; (case hd => rfl); (case hg => rfl); (case hr => exact tG); intro gb126 hg w6 hbox hb; have BK126 := Sd.mk (hbox); have GW126 := Sd.mk (bSz hg (bBl HB.out)); have GE126 := Sd.mk (bSz hg (bBl HB.out)); replace HB := Sd.mk (below_step (bBl HB.out) hb); clear hb hbox hg; obtain ⟨u7_0, u7_1, u7_2, u7_3, u7_4, u7_5, u7_6, o70, o71, o72, o73, o74, o75, o76⟩ := bc7 (w := w6) BK126.out))
   go_ret
   exact ⟨tE, bBl HB.out⟩
  ·rw [if_neg c5] at H
   have c5b0 : ((l01.length : Int) == 0) = false := beq_eq_false_iff_ne.mpr c5
   have c5b1 : ((l01.length : Int) != 0) = true := bne_iff_ne.mpr c5
   have c5b2 : ¬ (l01 = []) := fun h_ => c5 (by rw [h_]; rfl)
   have H' := Sd.mk H; clear H
   go_enter Tryz.func98, Tryz.ntmps98
   go_wp2_with (first | ((with_reducible refine gate_dst (N := 1) rfl ?_); refine box_event ?hg (N := 1) ?hd (cs := #[.slice A00 l00.length c00, .slice A01 l01.length c01, .slice A02 l02.length c02, .slice A03 l03.length c03, .int .i64 a04, .int .i64 a05, .int .i64 a06]) (t := 29) ?hr ?_; (case hd => rfl); (case hg => rfl); (case hr => exact tG); intro gb126 hg w8 hbox hb; have BK126 := Sd.mk (hbox); have GW126 := Sd.mk (bSz hg (bBl HB.out)); have GE126 := Sd.mk (bSz hg (bBl HB.out)); replace HB := Sd.mk (below_step (bBl HB.out) hb); clear hb hbox hg; obtain ⟨u9_0, u9_1, u9_2, u9_3, u9_4, u9_5, u9_6, o90, o91, o92, o93, o94, o95, o96⟩ := bc7 (w := w8) BK126.out))
   go_loopg [19] k (fun kq v19 w' => ∃ (x191 : Int), v19 = .int .i64 x191 ∧ Sd (b_checkMaterials.l0 kq l01 (l01.length : Int) x191 l00 l01 l02 l03 a04 a05 a06 = some r) ∧ Sd (kq ≤ k) ∧ Sd (w'.heap[gb126]? = some (.cells #[(.slice A00 l00.length c00), (.slice A01 l01.length c01), (.slice A02 l02.length c02), (.slice A03 l03.length c03), .int .i64 a04, .int .i64 a05, .int .i64 a06] 29 (0, 0))) ∧ Sd (Below w.heap.size w w'))
   case atStart => exact ⟨(0), tS, H', ⟨Nat.le_refl _⟩, ⟨bkA BK126.out⟩, ⟨bBl HB.out⟩⟩
   case round =>
    clear H'; (try clear c2); (try clear c2b0); (try clear c2b1); (try clear p2); (try clear c5); (try clear c5b0); (try clear c5b1); (try clear c5b2); (try clear c9); (try clear u4_0 u4_1 u4_2 u4_3 u4_4 u4_5 u4_6); (try clear u7_0 u7_1 u7_2 u7_3 u7_4 u7_5 u7_6); (try clear u9_0 u9_1 u9_2 u9_3 u9_4 u9_5 u9_6); (try clear o40 o41 o42 o43 o44 o45 o46); (try clear o70 o71 o72 o73 o74 o75 o76); (try clear o90 o91 o92 o93 o94 o95 o96); obtain ⟨x191, rfl, HA, HK1, BK126, HB⟩ := hrel
    cases gk with
    | zero => exact absurd HA.out (by simp [b_checkMaterials.l0])
    | succ k1 =>
     have H := HA.out; clear HA
     simp only [b_checkMaterials.l0] at H
     by_cases c10 : x191 < (l01.length : Int)
     ·rw [if_pos c10] at H
      have c10b0 : decide (x191 < (l01.length : Int)) = true := decide_eq_true c10
      clear c10
      by_cases c11 : 0 ≤ x191
      ·rw [if_pos c11] at H
       have c11b0 : decide (0 ≤ x191) = true := decide_eq_true c11
       clear c11
       by_cases c12 : x191 < (l01.length : Int)
       ·rw [if_pos c12] at H
        have c12b0 : decide (x191 < (l01.length : Int)) = true := decide_eq_true c12
        clear c12; replace H := Option.bind_eq_some_iff.mp H; obtain ⟨t129, A130, H⟩ := H
        try dsimp only at H
        have A13 := Sd.mk A130; clear A130
        by_cases c14 : t129 = true
        ·subst c14
         have H1 : ((x_twiceM.f l01 x191).bind fun t130 => (if t130 = true then (some 6) else ((b_checkMaterial.f k1 l00 l01 l02 l03 a04 a05 a06 ((rd_T70 l01 x191).f0) ((rd_T70 l01 x191).f1) ((rd_T70 l01 x191).f2) ((rd_T70 l01 x191).f3) ((rd_T70 l01 x191).f4) ((rd_T70 l01 x191).f5) ((rd_T70 l01 x191).f6)).bind fun t131 => (if t131 = 0 then (b_checkMaterials.l0 k1 l01 (l01.length : Int) (wrap64 (x191 + 1)) l00 l01 l02 l03 a04 a05 a06) else (some t131))))) = some r := by rw [if_pos rfl] at H; exact H
         clear H; have H := H1; clear H1; replace H := Option.bind_eq_some_iff.mp H; obtain ⟨t130, A150, H⟩ := H
         try dsimp only at H
         have A15 := Sd.mk A150; clear A150
         by_cases c16 : t130 = true
         ·subst c16
          have H1 : (some 6) = some r := by rw [if_pos rfl] at H; exact H
          clear H; have H := H1; clear H1; obtain rfl := Option.some.inj H
          have p127 : 0 ≤ (x191 : Int) := tB
          have q127 : x191 < (l01.length : Int) := tB
          obtain ⟨ad127, A1276, c1276, e127, hx1270, hx1271, hx1272, hx1273, hx1274, hx1275, hx1276, hl1276, hi1276⟩ := at_T70 HR01.out x191 p127 q127; cases e127; replace hx1270 := cU HB hx1270; replace hx1271 := cU HB hx1271; replace hx1272 := cU HB hx1272; replace hx1273 := cU HB hx1273; replace hx1274 := cU HB hx1274; replace hx1275 := cU HB hx1275; replace hx1276 := cU HB hx1276; have HR1276 := Sd.mk hi1276; have HC1276 := Sd.mk hl1276; clear hi1276 hl1276; replace p127 := eq_true p127; replace q127 := eq_true q127
          go_wp2_with (first | ((with_reducible refine gate_dst (N := 4) rfl ?_); refine box_event ?hg (N := 4) ?hd (cs := #[.string (⟨#[]⟩ : ByteArray), .int .i64 0, .int .i64 0, .int .i64 0, .int .i64 0, .int .i64 0, .slice none 0 0]) (t := 70) ?hr ?_; (case hd => rfl); (case hg => rfl); (case hr => exact tG); intro gb128 hg w17 hbox hb; have BK128 := Sd.mk (hbox); have GW128 := Sd.mk (bSz hg (bBl HB.out)); have GE128 := Sd.mk (bSz hg (bBl HB.out)); replace HB := Sd.mk (below_step (bBl HB.out) hb); have NB126128 := Sd.mk (bNl hg (bkA BK126.out)); have NB128126 := Sd.mk (bNg hg (bkA BK126.out)); replace BK126 := Sd.mk (blk_below (bkA BK126.out) hb); clear hb hbox hg; have hnb18 := NB128126.out; have hnc18 := NB126128.out; obtain ⟨u19_0, u19_1, u19_2, u19_3, u19_4, u19_5, u19_6, o190, o191, o192, o193, o194, o195, o196⟩ := bc7 (w := w17) BK128.out) | ((with_reducible refine gate_callee (f := 102) rfl ?_); refine goesL_ (some 27) rfl rfl Tryz.func102 (by kernel_rfl) rfl #[.string ((rd_T70 l01 x191).f0)] rfl tM ?_; (with_reducible refine (b_name.calls k1 ((rd_T70 l01 x191).f0) true _ A13.out).mono ?_); rintro e w' ⟨rfl, ⟨nd, rfl⟩⟩; refine ⟨_, rfl, ?_⟩; obtain ⟨u20_0, u20_1, u20_2, u20_3, u20_4, u20_5, u20_6, o200, o201, o202, o203, o204, o205, o206⟩ := bc7 (w := w17) BK126.out) | ((with_reducible refine gate_callee (f := 178) rfl ?_); refine goesL_ (some 33) rfl rfl Tryz.func178 (by kernel_rfl) rfl #[.slice (some ad127) l01.length c01, .int .i64 x191, .func (.func 179) #[] #[]] rfl tM ?_; (with_reducible refine (x_twiceM.calls _ _ l01 x191 true _ (Kd.C_below HR01.out (bBl HB.out)) HC01.out A15.out).mono ?_); rintro e w21 ⟨rfl, hb⟩; refine ⟨_, rfl, ?_⟩; replace BK126 := Sd.mk (blk_below (g := gb126) (o := .cells #[.slice A00 l00.length c00, .slice (some ad127) l01.length c01, .slice A02 l02.length c02, .slice A03 l03.length c03, .int .i64 a04, .int .i64 a05, .int .i64 a06] 29 (0, 0)) (by refine bkZ ?_; refine blk_far ?_ NB126128.out _; refine bkZ ?_; refine blk_far ?_ NB126128.out _; refine bkZ ?_; refine blk_far ?_ NB126128.out _; refine bkZ ?_; refine blk_far ?_ NB126128.out _; refine bkZ ?_; refine blk_far ?_ NB126128.out _; refine bkZ ?_; refine blk_far ?_ NB126128.out _; refine bkZ ?_; refine blk_far ?_ NB126128.out _; refine bkZ ?_; exact BK126.out) hb); replace BK128 := Sd.mk (blk_below (g := gb128) (o := .cells #[.string ((rd_T70 l01 x191).f0), .int .i64 ((rd_T70 l01 x191).f1), .int .i64 ((rd_T70 l01 x191).f2), .int .i64 ((rd_T70 l01 x191).f3), .int .i64 ((rd_T70 l01 x191).f4), .int .i64 ((rd_T70 l01 x191).f5), .slice A1276 ((rd_T70 l01 x191).f6).length c1276] 70 (0, 0)) (by refine bkZ ?_; refine blk_put (cs := #[.string ((rd_T70 l01 x191).f0), .int .i64 ((rd_T70 l01 x191).f1), .int .i64 ((rd_T70 l01 x191).f2), .int .i64 ((rd_T70 l01 x191).f3), .int .i64 ((rd_T70 l01 x191).f4), .int .i64 ((rd_T70 l01 x191).f5), .slice none 0 0]) ?_ 6 _ rfl; refine bkZ ?_; refine blk_put (cs := #[.string ((rd_T70 l01 x191).f0), .int .i64 ((rd_T70 l01 x191).f1), .int .i64 ((rd_T70 l01 x191).f2), .int .i64 ((rd_T70 l01 x191).f3), .int .i64 ((rd_T70 l01 x191).f4), .int .i64 0, .slice none 0 0]) ?_ 5 _ rfl; refine bkZ ?_; refine blk_put (cs := #[.string ((rd_T70 l01 x191).f0), .int .i64 ((rd_T70 l01 x191).f1), .int .i64 ((rd_T70 l01 x191).f2), .int .i64 ((rd_T70 l01 x191).f3), .int .i64 0, .int .i64 0, .slice none 0 0]) ?_ 4 _ rfl; refine bkZ ?_; refine blk_put (cs := #[.string ((rd_T70 l01 x191).f0), .int .i64 ((rd_T70 l01 x191).f1), .int .i64 ((rd_T70 l01 x191).f2), .int .i64 0, .int .i64 0, .int .i64 0, .slice none 0 0]) ?_ 3 _ rfl; refine bkZ ?_; refine blk_put (cs := #[.string ((rd_T70 l01 x191).f0), .int .i64 ((rd_T70 l01 x191).f1), .int .i64 0, .int .i64 0, .int .i64 0, .int .i64 0, .slice none 0 0]) ?_ 2 _ rfl; refine bkZ ?_; refine blk_put (cs := #[.string ((rd_T70 l01 x191).f0), .int .i64 0, .int .i64 0, .int .i64 0, .int .i64 0, .int .i64 0, .slice none 0 0]) ?_ 1 _ rfl; refine bkZ ?_; refine blk_put (cs := #[.string (⟨#[]⟩ : ByteArray), .int .i64 0, .int .i64 0, .int .i64 0, .int .i64 0, .int .i64 0, .slice none 0 0]) ?_ 0 _ rfl; refine bkZ ?_; exact BK128.out) hb); replace HB := Sd.mk (below_step (bBl HB.out) hb); (try clear hb); (try clear hb2); (try clear hk); (try clear hi)))
          go_ret
          exact ⟨tE, bBl HB.out⟩
         ·replace c16 := Bool.eq_false_iff.mpr c16
          subst c16
          have H1 : ((b_checkMaterial.f k1 l00 l01 l02 l03 a04 a05 a06 ((rd_T70 l01 x191).f0) ((rd_T70 l01 x191).f1) ((rd_T70 l01 x191).f2) ((rd_T70 l01 x191).f3) ((rd_T70 l01 x191).f4) ((rd_T70 l01 x191).f5) ((rd_T70 l01 x191).f6)).bind fun t131 => (if t131 = 0 then (b_checkMaterials.l0 k1 l01 (l01.length : Int) (wrap64 (x191 + 1)) l00 l01 l02 l03 a04 a05 a06) else (some t131))) = some r := by rw [if_neg (show ¬ (false = true) by decide)] at H; exact H
          clear H; have H := H1; clear H1; replace H := Option.bind_eq_some_iff.mp H; obtain ⟨t131, A220, H⟩ := H
          try dsimp only at H
          have A22 := Sd.mk A220; clear A220
          by_cases c23 : t131 = 0
          ·rw [if_pos c23] at H
           have c23b0 : (t131 == 0) = true := beq_iff_eq.mpr c23
           have c23b1 : (t131 != 0) = false := bne_eq_false_iff_eq.mpr c23
           clear c23; have H' := Sd.mk H; clear H
           have p127 : 0 ≤ (x191 : Int) := tB
           have q127 : x191 < (l01.length : Int) := tB
           obtain ⟨ad127, A1276, c1276, e127, hx1270, hx1271, hx1272, hx1273, hx1274, hx1275, hx1276, hl1276, hi1276⟩ := at_T70 HR01.out x191 p127 q127; cases e127; replace hx1270 := cU HB hx1270; replace hx1271 := cU HB hx1271; replace hx1272 := cU HB hx1272; replace hx1273 := cU HB hx1273; replace hx1274 := cU HB hx1274; replace hx1275 := cU HB hx1275; replace hx1276 := cU HB hx1276; have HR1276 := Sd.mk hi1276; have HC1276 := Sd.mk hl1276; clear hi1276 hl1276; replace p127 := eq_true p127; replace q127 := eq_true q127
           go_wp2_with (first | ((with_reducible refine gate_dst (N := 4) rfl ?_); refine box_event ?hg (N := 4) ?hd (cs := #[.string (⟨#[]⟩ : ByteArray), .int .i64 0, .int .i64 0, .int .i64 0, .int .i64 0, .int .i64 0, .slice none 0 0]) (t := 70) ?hr ?_; (case hd => rfl); (case hg => rfl); (case hr => exact tG); intro gb128 hg w24 hbox hb; have BK128 := Sd.mk (hbox); have GW128 := Sd.mk (bSz hg (bBl HB.out)); have GE128 := Sd.mk (bSz hg (bBl HB.out)); replace HB := Sd.mk (below_step (bBl HB.out) hb); have NB126128 := Sd.mk (bNl hg (bkA BK126.out)); have NB128126 := Sd.mk (bNg hg (bkA BK126.out)); replace BK126 := Sd.mk (blk_below (bkA BK126.out) hb); clear hb hbox hg; have hnb25 := NB128126.out; have hnc25 := NB126128.out; obtain ⟨u26_0, u26_1, u26_2, u26_3, u26_4, u26_5, u26_6, o260, o261, o262, o263, o264, o265, o266⟩ := bc7 (w := w24) BK128.out) | ((with_reducible refine gate_callee (f := 102) rfl ?_); refine goesL_ (some 27) rfl rfl Tryz.func102 (by kernel_rfl) rfl #[.string ((rd_T70 l01 x191).f0)] rfl tM ?_; (with_reducible refine (b_name.calls k1 ((rd_T70 l01 x191).f0) true _ A13.out).mono ?_); rintro e w' ⟨rfl, ⟨nd, rfl⟩⟩; refine ⟨_, rfl, ?_⟩; obtain ⟨u27_0, u27_1, u27_2, u27_3, u27_4, u27_5, u27_6, o270, o271, o272, o273, o274, o275, o276⟩ := bc7 (w := w24) BK126.out) | ((with_reducible refine gate_callee (f := 178) rfl ?_); refine goesL_ (some 33) rfl rfl Tryz.func178 (by kernel_rfl) rfl #[.slice (some ad127) l01.length c01, .int .i64 x191, .func (.func 179) #[] #[]] rfl tM ?_; (with_reducible refine (x_twiceM.calls _ _ l01 x191 false _ (Kd.C_below HR01.out (bBl HB.out)) HC01.out A15.out).mono ?_); rintro e w28 ⟨rfl, hb⟩; refine ⟨_, rfl, ?_⟩; replace BK126 := Sd.mk (blk_below (g := gb126) (o := .cells #[.slice A00 l00.length c00, .slice (some ad127) l01.length c01, .slice A02 l02.length c02, .slice A03 l03.length c03, .int .i64 a04, .int .i64 a05, .int .i64 a06] 29 (0, 0)) (by refine bkZ ?_; refine blk_far ?_ NB126128.out _; refine bkZ ?_; refine blk_far ?_ NB126128.out _; refine bkZ ?_; refine blk_far ?_ NB126128.out _; refine bkZ ?_; refine blk_far ?_ NB126128.out _; refine bkZ ?_; refine blk_far ?_ NB126128.out _; refine bkZ ?_; refine blk_far ?_ NB126128.out _; refine bkZ ?_; refine blk_far ?_ NB126128.out _; refine bkZ ?_; exact BK126.out) hb); replace BK128 := Sd.mk (blk_below (g := gb128) (o := .cells #[.string ((rd_T70 l01 x191).f0), .int .i64 ((rd_T70 l01 x191).f1), .int .i64 ((rd_T70 l01 x191).f2), .int .i64 ((rd_T70 l01 x191).f3), .int .i64 ((rd_T70 l01 x191).f4), .int .i64 ((rd_T70 l01 x191).f5), .slice A1276 ((rd_T70 l01 x191).f6).length c1276] 70 (0, 0)) (by refine bkZ ?_; refine blk_put (cs := #[.string ((rd_T70 l01 x191).f0), .int .i64 ((rd_T70 l01 x191).f1), .int .i64 ((rd_T70 l01 x191).f2), .int .i64 ((rd_T70 l01 x191).f3), .int .i64 ((rd_T70 l01 x191).f4), .int .i64 ((rd_T70 l01 x191).f5), .slice none 0 0]) ?_ 6 _ rfl; refine bkZ ?_; refine blk_put (cs := #[.string ((rd_T70 l01 x191).f0), .int .i64 ((rd_T70 l01 x191).f1), .int .i64 ((rd_T70 l01 x191).f2), .int .i64 ((rd_T70 l01 x191).f3), .int .i64 ((rd_T70 l01 x191).f4), .int .i64 0, .slice none 0 0]) ?_ 5 _ rfl; refine bkZ ?_; refine blk_put (cs := #[.string ((rd_T70 l01 x191).f0), .int .i64 ((rd_T70 l01 x191).f1), .int .i64 ((rd_T70 l01 x191).f2), .int .i64 ((rd_T70 l01 x191).f3), .int .i64 0, .int .i64 0, .slice none 0 0]) ?_ 4 _ rfl; refine bkZ ?_; refine blk_put (cs := #[.string ((rd_T70 l01 x191).f0), .int .i64 ((rd_T70 l01 x191).f1), .int .i64 ((rd_T70 l01 x191).f2), .int .i64 0, .int .i64 0, .int .i64 0, .slice none 0 0]) ?_ 3 _ rfl; refine bkZ ?_; refine blk_put (cs := #[.string ((rd_T70 l01 x191).f0), .int .i64 ((rd_T70 l01 x191).f1), .int .i64 0, .int .i64 0, .int .i64 0, .int .i64 0, .slice none 0 0]) ?_ 2 _ rfl; refine bkZ ?_; refine blk_put (cs := #[.string ((rd_T70 l01 x191).f0), .int .i64 0, .int .i64 0, .int .i64 0, .int .i64 0, .int .i64 0, .slice none 0 0]) ?_ 1 _ rfl; refine bkZ ?_; refine blk_put (cs := #[.string (⟨#[]⟩ : ByteArray), .int .i64 0, .int .i64 0, .int .i64 0, .int .i64 0, .int .i64 0, .slice none 0 0]) ?_ 0 _ rfl; refine bkZ ?_; exact BK128.out) hb); replace HB := Sd.mk (below_step (bBl HB.out) hb); (try clear hb); (try clear hb2); (try clear hk); (try clear hi); obtain ⟨u29_0, u29_1, u29_2, u29_3, u29_4, u29_5, u29_6, o290, o291, o292, o293, o294, o295, o296⟩ := bc7 (w := w28) BK126.out; obtain ⟨u30_0, u30_1, u30_2, u30_3, u30_4, u30_5, u30_6, o300, o301, o302, o303, o304, o305, o306⟩ := bc7 (w := w28) BK128.out) | ((with_reducible refine gate_callee (f := 180) rfl ?_); refine goesL_ (some 36) rfl rfl Tryz.func180 (by kernel_rfl) rfl #[.agg #[.slice A00 l00.length c00, .slice (some ad127) l01.length c01, .slice A02 l02.length c02, .slice A03 l03.length c03, .int .i64 a04, .int .i64 a05, .int .i64 a06], .agg #[.string ((rd_T70 l01 x191).f0), .int .i64 ((rd_T70 l01 x191).f1), .int .i64 ((rd_T70 l01 x191).f2), .int .i64 ((rd_T70 l01 x191).f3), .int .i64 ((rd_T70 l01 x191).f4), .int .i64 ((rd_T70 l01 x191).f5), .slice A1276 ((rd_T70 l01 x191).f6).length c1276]] rfl tM ?_; (with_reducible refine (b_checkMaterial.calls k1 _ _ l00 _ _ l01 _ _ l02 _ _ l03 a04 a05 a06 ((rd_T70 l01 x191).f0) ((rd_T70 l01 x191).f1) ((rd_T70 l01 x191).f2) ((rd_T70 l01 x191).f3) ((rd_T70 l01 x191).f4) ((rd_T70 l01 x191).f5) _ _ ((rd_T70 l01 x191).f6) t131 _ (cS (Kd.C_below HR00.out HB.out)) HC00.out (cS (Kd.C_below HR01.out HB.out)) HC01.out (cS (Kd.C_below HR02.out HB.out)) HC02.out (cS (Kd.C_below HR03.out HB.out)) HC03.out (cS (Kd.C_below HR1276.out HB.out)) HC1276.out A22.out).mono ?_); rintro e w31 ⟨rfl, hb⟩; refine ⟨_, rfl, ?_⟩; replace BK126 := Sd.mk (blk_below (bkA BK126.out) hb); replace BK128 := Sd.mk (blk_below (bkA BK128.out) hb); replace HB := Sd.mk (below_step (bBl HB.out) hb); (try clear hb); (try clear hb2); (try clear hk); (try clear hi)))
           go_roundg k1
           case measure => have := HK1.out; omega
           case rel => exact ⟨(wrap64 (x191 + 1)), tS, H', ⟨by have := HK1.out; omega⟩, ⟨bkA BK126.out⟩, ⟨bBl HB.out⟩⟩
          ·rw [if_neg c23] at H
           have c23b0 : (t131 == 0) = false := beq_eq_false_iff_ne.mpr c23
           have c23b1 : (t131 != 0) = true := bne_iff_ne.mpr c23
           obtain rfl := Option.some.inj H
           have p127 : 0 ≤ (x191 : Int) := tB
           have q127 : x191 < (l01.length : Int) := tB
           obtain ⟨ad127, A1276, c1276, e127, hx1270, hx1271, hx1272, hx1273, hx1274, hx1275, hx1276, hl1276, hi1276⟩ := at_T70 HR01.out x191 p127 q127; cases e127; replace hx1270 := cU HB hx1270; replace hx1271 := cU HB hx1271; replace hx1272 := cU HB hx1272; replace hx1273 := cU HB hx1273; replace hx1274 := cU HB hx1274; replace hx1275 := cU HB hx1275; replace hx1276 := cU HB hx1276; have HR1276 := Sd.mk hi1276; have HC1276 := Sd.mk hl1276; clear hi1276 hl1276; replace p127 := eq_true p127; replace q127 := eq_true q127
           go_wp2_with (first | ((with_reducible refine gate_dst (N := 4) rfl ?_); refine box_event ?hg (N := 4) ?hd (cs := #[.string (⟨#[]⟩ : ByteArray), .int .i64 0, .int .i64 0, .int .i64 0, .int .i64 0, .int .i64 0, .slice none 0 0]) (t := 70) ?hr ?_; (case hd => rfl); (case hg => rfl); (case hr => exact tG); intro gb128 hg w32 hbox hb; have BK128 := Sd.mk (hbox); have GW128 := Sd.mk (bSz hg (bBl HB.out)); have GE128 := Sd.mk (bSz hg (bBl HB.out)); replace HB := Sd.mk (below_step (bBl HB.out) hb); have NB126128 := Sd.mk (bNl hg (bkA BK126.out)); have NB128126 := Sd.mk (bNg hg (bkA BK126.out)); replace BK126 := Sd.mk (blk_below (bkA BK126.out) hb); clear hb hbox hg; have hnb33 := NB128126.out; have hnc33 := NB126128.out; obtain ⟨u34_0, u34_1, u34_2, u34_3, u34_4, u34_5, u34_6, o340, o341, o342, o343, o344, o345, o346⟩ := bc7 (w := w32) BK128.out) | ((with_reducible refine gate_callee (f := 102) rfl ?_); refine goesL_ (some 27) rfl rfl Tryz.func102 (by kernel_rfl) rfl #[.string ((rd_T70 l01 x191).f0)] rfl tM ?_; (with_reducible refine (b_name.calls k1 ((rd_T70 l01 x191).f0) true _ A13.out).mono ?_); rintro e w' ⟨rfl, ⟨nd, rfl⟩⟩; refine ⟨_, rfl, ?_⟩; obtain ⟨u35_0, u35_1, u35_2, u35_3, u35_4, u35_5, u35_6, o350, o351, o352, o353, o354, o355, o356⟩ := bc7 (w := w32) BK126.out) | ((with_reducible refine gate_callee (f := 178) rfl ?_); refine goesL_ (some 33) rfl rfl Tryz.func178 (by kernel_rfl) rfl #[.slice (some ad127) l01.length c01, .int .i64 x191, .func (.func 179) #[] #[]] rfl tM ?_; (with_reducible refine (x_twiceM.calls _ _ l01 x191 false _ (Kd.C_below HR01.out (bBl HB.out)) HC01.out A15.out).mono ?_); rintro e w36 ⟨rfl, hb⟩; refine ⟨_, rfl, ?_⟩; replace BK126 := Sd.mk (blk_below (g := gb126) (o := .cells #[.slice A00 l00.length c00, .slice (some ad127) l01.length c01, .slice A02 l02.length c02, .slice A03 l03.length c03, .int .i64 a04, .int .i64 a05, .int .i64 a06] 29 (0, 0)) (by refine bkZ ?_; refine blk_far ?_ NB126128.out _; refine bkZ ?_; refine blk_far ?_ NB126128.out _; refine bkZ ?_; refine blk_far ?_ NB126128.out _; refine bkZ ?_; refine blk_far ?_ NB126128.out _; refine bkZ ?_; refine blk_far ?_ NB126128.out _; refine bkZ ?_; refine blk_far ?_ NB126128.out _; refine bkZ ?_; refine blk_far ?_ NB126128.out _; refine bkZ ?_; exact BK126.out) hb); replace BK128 := Sd.mk (blk_below (g := gb128) (o := .cells #[.string ((rd_T70 l01 x191).f0), .int .i64 ((rd_T70 l01 x191).f1), .int .i64 ((rd_T70 l01 x191).f2), .int .i64 ((rd_T70 l01 x191).f3), .int .i64 ((rd_T70 l01 x191).f4), .int .i64 ((rd_T70 l01 x191).f5), .slice A1276 ((rd_T70 l01 x191).f6).length c1276] 70 (0, 0)) (by refine bkZ ?_; refine blk_put (cs := #[.string ((rd_T70 l01 x191).f0), .int .i64 ((rd_T70 l01 x191).f1), .int .i64 ((rd_T70 l01 x191).f2), .int .i64 ((rd_T70 l01 x191).f3), .int .i64 ((rd_T70 l01 x191).f4), .int .i64 ((rd_T70 l01 x191).f5), .slice none 0 0]) ?_ 6 _ rfl; refine bkZ ?_; refine blk_put (cs := #[.string ((rd_T70 l01 x191).f0), .int .i64 ((rd_T70 l01 x191).f1), .int .i64 ((rd_T70 l01 x191).f2), .int .i64 ((rd_T70 l01 x191).f3), .int .i64 ((rd_T70 l01 x191).f4), .int .i64 0, .slice none 0 0]) ?_ 5 _ rfl; refine bkZ ?_; refine blk_put (cs := #[.string ((rd_T70 l01 x191).f0), .int .i64 ((rd_T70 l01 x191).f1), .int .i64 ((rd_T70 l01 x191).f2), .int .i64 ((rd_T70 l01 x191).f3), .int .i64 0, .int .i64 0, .slice none 0 0]) ?_ 4 _ rfl; refine bkZ ?_; refine blk_put (cs := #[.string ((rd_T70 l01 x191).f0), .int .i64 ((rd_T70 l01 x191).f1), .int .i64 ((rd_T70 l01 x191).f2), .int .i64 0, .int .i64 0, .int .i64 0, .slice none 0 0]) ?_ 3 _ rfl; refine bkZ ?_; refine blk_put (cs := #[.string ((rd_T70 l01 x191).f0), .int .i64 ((rd_T70 l01 x191).f1), .int .i64 0, .int .i64 0, .int .i64 0, .int .i64 0, .slice none 0 0]) ?_ 2 _ rfl; refine bkZ ?_; refine blk_put (cs := #[.string ((rd_T70 l01 x191).f0), .int .i64 0, .int .i64 0, .int .i64 0, .int .i64 0, .int .i64 0, .slice none 0 0]) ?_ 1 _ rfl; refine bkZ ?_; refine blk_put (cs := #[.string (⟨#[]⟩ : ByteArray), .int .i64 0, .int .i64 0, .int .i64 0, .int .i64 0, .int .i64 0, .slice none 0 0]) ?_ 0 _ rfl; refine bkZ ?_; exact BK128.out) hb); replace HB := Sd.mk (below_step (bBl HB.out) hb); (try clear hb); (try clear hb2); (try clear hk); (try clear hi); obtain ⟨u37_0, u37_1, u37_2, u37_3, u37_4, u37_5, u37_6, o370, o371, o372, o373, o374, o375, o376⟩ := bc7 (w := w36) BK126.out; obtain ⟨u38_0, u38_1, u38_2, u38_3, u38_4, u38_5, u38_6, o380, o381, o382, o383, o384, o385, o386⟩ := bc7 (w := w36) BK128.out) | ((with_reducible refine gate_callee (f := 180) rfl ?_); refine goesL_ (some 36) rfl rfl Tryz.func180 (by kernel_rfl) rfl #[.agg #[.slice A00 l00.length c00, .slice (some ad127) l01.length c01, .slice A02 l02.length c02, .slice A03 l03.length c03, .int .i64 a04, .int .i64 a05, .int .i64 a06], .agg #[.string ((rd_T70 l01 x191).f0), .int .i64 ((rd_T70 l01 x191).f1), .int .i64 ((rd_T70 l01 x191).f2), .int .i64 ((rd_T70 l01 x191).f3), .int .i64 ((rd_T70 l01 x191).f4), .int .i64 ((rd_T70 l01 x191).f5), .slice A1276 ((rd_T70 l01 x191).f6).length c1276]] rfl tM ?_; (with_reducible refine (b_checkMaterial.calls k1 _ _ l00 _ _ l01 _ _ l02 _ _ l03 a04 a05 a06 ((rd_T70 l01 x191).f0) ((rd_T70 l01 x191).f1) ((rd_T70 l01 x191).f2) ((rd_T70 l01 x191).f3) ((rd_T70 l01 x191).f4) ((rd_T70 l01 x191).f5) _ _ ((rd_T70 l01 x191).f6) t131 _ (cS (Kd.C_below HR00.out HB.out)) HC00.out (cS (Kd.C_below HR01.out HB.out)) HC01.out (cS (Kd.C_below HR02.out HB.out)) HC02.out (cS (Kd.C_below HR03.out HB.out)) HC03.out (cS (Kd.C_below HR1276.out HB.out)) HC1276.out A22.out).mono ?_); rintro e w39 ⟨rfl, hb⟩; refine ⟨_, rfl, ?_⟩; replace BK126 := Sd.mk (blk_below (bkA BK126.out) hb); replace BK128 := Sd.mk (blk_below (bkA BK128.out) hb); replace HB := Sd.mk (below_step (bBl HB.out) hb); (try clear hb); (try clear hb2); (try clear hk); (try clear hi)))
           go_ret
           exact ⟨tE, bBl HB.out⟩
        ·replace c14 := Bool.eq_false_iff.mpr c14
         subst c14
         have H1 : (some 5) = some r := by rw [if_neg (show ¬ (false = true) by decide)] at H; exact H
         clear H; have H := H1; clear H1; obtain rfl := Option.some.inj H
         have p127 : 0 ≤ (x191 : Int) := tB
         have q127 : x191 < (l01.length : Int) := tB
         obtain ⟨ad127, A1276, c1276, e127, hx1270, hx1271, hx1272, hx1273, hx1274, hx1275, hx1276, hl1276, hi1276⟩ := at_T70 HR01.out x191 p127 q127; cases e127; replace hx1270 := cU HB hx1270; replace hx1271 := cU HB hx1271; replace hx1272 := cU HB hx1272; replace hx1273 := cU HB hx1273; replace hx1274 := cU HB hx1274; replace hx1275 := cU HB hx1275; replace hx1276 := cU HB hx1276; have HR1276 := Sd.mk hi1276; have HC1276 := Sd.mk hl1276; clear hi1276 hl1276; replace p127 := eq_true p127; replace q127 := eq_true q127
         go_wp2_with (first | ((with_reducible refine gate_dst (N := 4) rfl ?_); refine box_event ?hg (N := 4) ?hd (cs := #[.string (⟨#[]⟩ : ByteArray), .int .i64 0, .int .i64 0, .int .i64 0, .int .i64 0, .int .i64 0, .slice none 0 0]) (t := 70) ?hr ?_; (case hd => rfl); (case hg => rfl); (case hr => exact tG); intro gb128 hg w40 hbox hb; have BK128 := Sd.mk (hbox); have GW128 := Sd.mk (bSz hg (bBl HB.out)); have GE128 := Sd.mk (bSz hg (bBl HB.out)); replace HB := Sd.mk (below_step (bBl HB.out) hb); have NB126128 := Sd.mk (bNl hg (bkA BK126.out)); have NB128126 := Sd.mk (bNg hg (bkA BK126.out)); replace BK126 := Sd.mk (blk_below (bkA BK126.out) hb); clear hb hbox hg; have hnb41 := NB128126.out; have hnc41 := NB126128.out; obtain ⟨u42_0, u42_1, u42_2, u42_3, u42_4, u42_5, u42_6, o420, o421, o422, o423, o424, o425, o426⟩ := bc7 (w := w40) BK128.out) | ((with_reducible refine gate_callee (f := 102) rfl ?_); refine goesL_ (some 27) rfl rfl Tryz.func102 (by kernel_rfl) rfl #[.string ((rd_T70 l01 x191).f0)] rfl tM ?_; (with_reducible refine (b_name.calls k1 ((rd_T70 l01 x191).f0) false _ A13.out).mono ?_); rintro e w' ⟨rfl, ⟨nd, rfl⟩⟩; refine ⟨_, rfl, ?_⟩))
         go_ret
         exact ⟨tE, bBl HB.out⟩
       ·rw [if_neg c12] at H
        exact absurd H (by simp)
      ·rw [if_neg c11] at H
       exact absurd H (by simp)
     ·rw [if_neg c10] at H
      have c10b0 : decide (x191 < (l01.length : Int)) = false := decide_eq_false c10
      clear c10; obtain rfl := Option.some.inj H
      go_wp2
      go_ret
      exact ⟨tE, bBl HB.out⟩
end
section
def b_checkProperty.f (l00 : List ByteArray) (l01 : List (S70)) (l02 : List (S27)) (l03 : List (S89)) (a04 : Int) (a05 : Int) (a06 : Int) (a1_0 : ByteArray) (l11 : List Int) (a1_2 : Int) (a1_3 : Int) : Option (Int) := if (l11.length : Int) = (l00.length : Int) then ((x_coefs.f l11).bind fun t134 => (if t134 = true then (some 1) else ((b_span.f a1_2 a1_3 (-10000) 10000).bind fun t135 => (if t135 = true then (some 0) else (some 1))))) else (some 1)
theorem b_checkProperty.calls (A00 : Option Addr) (c00 : Nat) (l00 : List ByteArray) (A01 : Option Addr) (c01 : Nat) (l01 : List (S70)) (A02 : Option Addr) (c02 : Nat) (l02 : List (S27)) (A03 : Option Addr) (c03 : Nat) (l03 : List (S89)) (a04 : Int) (a05 : Int) (a06 : Int) (a1_0 : ByteArray) (A11 : Option Addr) (c1_1 : Nat) (l11 : List Int) (a1_2 : Int) (a1_3 : Int) (r : Int) (w : World) (hr00 : Kd.C Kd.string w A00 l00.length l00) (hc00 : l00.length ≤ c00) (hr01 : Kd.C k70 w A01 l01.length l01) (hc01 : l01.length ≤ c01) (hr02 : Kd.C k27 w A02 l02.length l02) (hc02 : l02.length ≤ c02) (hr03 : Kd.C k89 w A03 l03.length l03) (hc03 : l03.length ≤ c03) (hr11 : Kd.C (Kd.int .i64) w A11 l11.length l11) (hc11 : l11.length ≤ c1_1) (h : b_checkProperty.f l00 l01 l02 l03 a04 a05 a06 a1_0 l11 a1_2 a1_3 = some r) :
  Calls Tryz.prog 105 #[.agg #[.slice A00 l00.length c00, .slice A01 l01.length c01, .slice A02 l02.length c02, .slice A03 l03.length c03, .int .i64 a04, .int .i64 a05, .int .i64 a06], .agg #[.string a1_0, .slice A11 l11.length c1_1, .int .i64 a1_2, .int .i64 a1_3]] w fun e w' => e = .returned (.int .i64 r) ∧ Below w.heap.size w w' := by
 have hu29 := Tryz.underlying29; have hu89 := Tryz.underlying89; have hu27 := Tryz.underlying27; have HR00 := Sd.mk hr00; have HC00 := Sd.mk hc00; clear hr00 hc00; have HR01 := Sd.mk hr01; have HC01 := Sd.mk hc01; clear hr01 hc01; have HR02 := Sd.mk hr02; have HC02 := Sd.mk hc02; clear hr02 hc02; have HR03 := Sd.mk hr03; have HC03 := Sd.mk hc03; clear hr03 hc03; have HR11 := Sd.mk hr11; have HC11 := Sd.mk hc11; clear hr11 hc11; have HB := Sd.mk (Below.refl w.heap.size w)
 have H : (if (l11.length : Int) = (l00.length : Int) then ((x_coefs.f l11).bind fun t134 => (if t134 = true then (some 1) else ((b_span.f a1_2 a1_3 (-10000) 10000).bind fun t135 => (if t135 = true then (some 0) else (some 1))))) else (some 1)) = some r := h
 clear h
 by_cases c3 : (l11.length : Int) = (l00.length : Int)
 ·rw [if_pos c3] at H
  have c3b0 : ((l11.length : Int) == (l00.length : Int)) = true := beq_iff_eq.mpr c3
  have c3b1 : ((l11.length : Int) != (l00.length : Int)) = false := bne_eq_false_iff_eq.mpr c3
  have c3b2 : (l11.length == l00.length) = true := by first | simpa using c3 | (simp at c3 ⊢; omega)
  clear c3; replace H := Option.bind_eq_some_iff.mp H; obtain ⟨t134, A40, H⟩ := H
  try dsimp only at H
  have A4 := Sd.mk A40; clear A40
  by_cases c5 : t134 = true
  ·subst c5
   have H1 : (some 1) = some r := by rw [if_pos rfl] at H; exact H
   clear H; have H := H1; clear H1; obtain rfl := Option.some.inj H
   go_enter Tryz.func105, Tryz.ntmps105
   go_wp2_with (first | ((with_reducible refine gate_dst (N := 2) rfl ?_); refine box_event ?hg (N := 2) ?hd (cs := #[.slice A00 l00.length c00, .slice A01 l01.length c01, .slice A02 l02.length c02, .slice A03 l03.length c03, .int .i64 a04, .int .i64 a05, .int .i64 a06]) (t := 29) ?hr ?_; (case hd => rfl); (case hg => rfl); (case hr => exact tG); intro gb132 hg w6 hbox hb; have BK132 := Sd.mk (hbox); have GW132 := Sd.mk (bSz hg (bBl HB.out)); have GE132 := Sd.mk (bSz hg (bBl HB.out)); replace HB := Sd.mk (below_step (bBl HB.out) hb); clear hb hbox hg) | ((with_reducible refine gate_dst (N := 3) rfl ?_); refine box_event ?hg (N := 3) ?hd (cs := #[.string a1_0, .slice A11 l11.length c1_1, .int .i64 a1_2, .int .i64 a1_3]) (t := 89) ?hr ?_; (case hd => rfl); (case hg => rfl); (case hr => exact tG); intro gb133 hg w7 hbox hb; have BK133 := Sd.mk (hbox); have GW133 := Sd.mk (bSz hg (bBl HB.out)); have GE133 := Sd.mk (bSz hg (bBl HB.out)); replace HB := Sd.mk (below_step (bBl HB.out) hb); have NB132133 := Sd.mk (bNl hg (bkA BK132.out)); have NB133132 := Sd.mk (bNg hg (bkA BK132.out)); replace BK132 := Sd.mk (blk_below (bkA BK132.out) hb); clear hb hbox hg; have hnb8 := NB133132.out; have hnc8 := NB132133.out; obtain ⟨u9_0, u9_1, u9_2, u9_3, o90, o91, o92, o93⟩ := bc4 (w := w7) BK133.out; obtain ⟨u10_0, u10_1, u10_2, u10_3, u10_4, u10_5, u10_6, o100, o101, o102, o103, o104, o105, o106⟩ := bc7 (w := w7) BK132.out) | (go_at_call 106; (with_reducible refine (x_coefs.calls _ _ l11 true _ (cS (Kd.C_below HR11.out HB.out)) HC11.out A4.out).mono ?_); rintro e w11 ⟨rfl, hb⟩; replace BK132 := Sd.mk (blk_below (bkA BK132.out) hb); replace BK133 := Sd.mk (blk_below (bkA BK133.out) hb); replace HB := Sd.mk (below_step (bBl HB.out) hb); (try clear hb); (try clear hb2); (try clear hk); (try clear hi)))
   go_ret
   exact ⟨tE, bBl HB.out⟩
  ·replace c5 := Bool.eq_false_iff.mpr c5
   subst c5
   have H1 : ((b_span.f a1_2 a1_3 (-10000) 10000).bind fun t135 => (if t135 = true then (some 0) else (some 1))) = some r := by rw [if_neg (show ¬ (false = true) by decide)] at H; exact H
   clear H; have H := H1; clear H1; replace H := Option.bind_eq_some_iff.mp H; obtain ⟨t135, A120, H⟩ := H
   try dsimp only at H
   have A12 := Sd.mk A120; clear A120
   by_cases c13 : t135 = true
   ·subst c13
    have H1 : (some 0) = some r := by rw [if_pos rfl] at H; exact H
    clear H; have H := H1; clear H1; obtain rfl := Option.some.inj H
    go_enter Tryz.func105, Tryz.ntmps105
    go_wp2_with (first | ((with_reducible refine gate_dst (N := 2) rfl ?_); refine box_event ?hg (N := 2) ?hd (cs := #[.slice A00 l00.length c00, .slice A01 l01.length c01, .slice A02 l02.length c02, .slice A03 l03.length c03, .int .i64 a04, .int .i64 a05, .int .i64 a06]) (t := 29) ?hr ?_; (case hd => rfl); (case hg => rfl); (case hr => exact tG); intro gb132 hg w14 hbox hb; have BK132 := Sd.mk (hbox); have GW132 := Sd.mk (bSz hg (bBl HB.out)); have GE132 := Sd.mk (bSz hg (bBl HB.out)); replace HB := Sd.mk (below_step (bBl HB.out) hb); clear hb hbox hg) | ((with_reducible refine gate_dst (N := 3) rfl ?_); refine box_event ?hg (N := 3) ?hd (cs := #[.string a1_0, .slice A11 l11.length c1_1, .int .i64 a1_2, .int .i64 a1_3]) (t := 89) ?hr ?_; (case hd => rfl); (case hg => rfl); (case hr => exact tG); intro gb133 hg w15 hbox hb; have BK133 := Sd.mk (hbox); have GW133 := Sd.mk (bSz hg (bBl HB.out)); have GE133 := Sd.mk (bSz hg (bBl HB.out)); replace HB := Sd.mk (below_step (bBl HB.out) hb); have NB132133 := Sd.mk (bNl hg (bkA BK132.out)); have NB133132 := Sd.mk (bNg hg (bkA BK132.out)); replace BK132 := Sd.mk (blk_below (bkA BK132.out) hb); clear hb hbox hg; have hnb16 := NB133132.out; have hnc16 := NB132133.out; obtain ⟨u17_0, u17_1, u17_2, u17_3, o170, o171, o172, o173⟩ := bc4 (w := w15) BK133.out; obtain ⟨u18_0, u18_1, u18_2, u18_3, u18_4, u18_5, u18_6, o180, o181, o182, o183, o184, o185, o186⟩ := bc7 (w := w15) BK132.out) | (go_at_call 106; (with_reducible refine (x_coefs.calls _ _ l11 false _ (cS (Kd.C_below HR11.out HB.out)) HC11.out A4.out).mono ?_); rintro e w19 ⟨rfl, hb⟩; replace BK132 := Sd.mk (blk_below (bkA BK132.out) hb); replace BK133 := Sd.mk (blk_below (bkA BK133.out) hb); replace HB := Sd.mk (below_step (bBl HB.out) hb); (try clear hb); (try clear hb2); (try clear hk); (try clear hi); obtain ⟨u20_0, u20_1, u20_2, u20_3, o200, o201, o202, o203⟩ := bc4 (w := w19) BK133.out) | (go_at_call 101; (with_reducible refine (b_span.calls a1_2 a1_3 (-10000) 10000 true _ A12.out).mono ?_); rintro e w21 ⟨rfl, hb⟩; replace BK132 := Sd.mk (blk_below (bkA BK132.out) hb); replace BK133 := Sd.mk (blk_below (bkA BK133.out) hb); replace HB := Sd.mk (below_step (bBl HB.out) hb); (try clear hb); (try clear hb2); (try clear hk); (try clear hi)))
    go_ret
    exact ⟨tE, bBl HB.out⟩
   ·replace c13 := Bool.eq_false_iff.mpr c13
    subst c13
    have H1 : (some 1) = some r := by rw [if_neg (show ¬ (false = true) by decide)] at H; exact H
    clear H; have H := H1; clear H1; obtain rfl := Option.some.inj H
    go_enter Tryz.func105, Tryz.ntmps105
    go_wp2_with (first | ((with_reducible refine gate_dst (N := 2) rfl ?_); refine box_event ?hg (N := 2) ?hd (cs := #[.slice A00 l00.length c00, .slice A01 l01.length c01, .slice A02 l02.length c02, .slice A03 l03.length c03, .int .i64 a04, .int .i64 a05, .int .i64 a06]) (t := 29) ?hr ?_; (case hd => rfl); (case hg => rfl); (case hr => exact tG); intro gb132 hg w22 hbox hb; have BK132 := Sd.mk (hbox); have GW132 := Sd.mk (bSz hg (bBl HB.out)); have GE132 := Sd.mk (bSz hg (bBl HB.out)); replace HB := Sd.mk (below_step (bBl HB.out) hb); clear hb hbox hg) | ((with_reducible refine gate_dst (N := 3) rfl ?_); refine box_event ?hg (N := 3) ?hd (cs := #[.string a1_0, .slice A11 l11.length c1_1, .int .i64 a1_2, .int .i64 a1_3]) (t := 89) ?hr ?_; (case hd => rfl); (case hg => rfl); (case hr => exact tG); intro gb133 hg w23 hbox hb; have BK133 := Sd.mk (hbox); have GW133 := Sd.mk (bSz hg (bBl HB.out)); have GE133 := Sd.mk (bSz hg (bBl HB.out)); replace HB := Sd.mk (below_step (bBl HB.out) hb); have NB132133 := Sd.mk (bNl hg (bkA BK132.out)); have NB133132 := Sd.mk (bNg hg (bkA BK132.out)); replace BK132 := Sd.mk (blk_below (bkA BK132.out) hb); clear hb hbox hg; have hnb24 := NB133132.out; have hnc24 := NB132133.out; obtain ⟨u25_0, u25_1, u25_2, u25_3, o250, o251, o252, o253⟩ := bc4 (w := w23) BK133.out; obtain ⟨u26_0, u26_1, u26_2, u26_3, u26_4, u26_5, u26_6, o260, o261, o262, o263, o264, o265, o266⟩ := bc7 (w := w23) BK132.out) | (go_at_call 106; (with_reducible refine (x_coefs.calls _ _ l11 false _ (cS (Kd.C_below HR11.out HB.out)) HC11.out A4.out).mono ?_); rintro e w27 ⟨rfl, hb⟩; replace BK132 := Sd.mk (blk_below (bkA BK132.out) hb); replace BK133 := Sd.mk (blk_below (bkA BK133.out) hb); replace HB := Sd.mk (below_step (bBl HB.out) hb); (try clear hb); (try clear hb2); (try clear hk); (try clear hi); obtain ⟨u28_0, u28_1, u28_2, u28_3, o280, o281, o282, o283⟩ := bc4 (w := w27) BK133.out) | (go_at_call 101; (with_reducible refine (b_span.calls a1_2 a1_3 (-10000) 10000 false _ A12.out).mono ?_); rintro e w29 ⟨rfl, hb⟩; replace BK132 := Sd.mk (blk_below (bkA BK132.out) hb); replace BK133 := Sd.mk (blk_below (bkA BK133.out) hb); replace HB := Sd.mk (below_step (bBl HB.out) hb); (try clear hb); (try clear hb2); (try clear hk); (try clear hi)))
    go_ret
    exact ⟨tE, bBl HB.out⟩
 ·rw [if_neg c3] at H
  have c3b0 : ((l11.length : Int) == (l00.length : Int)) = false := beq_eq_false_iff_ne.mpr c3
  have c3b1 : ((l11.length : Int) != (l00.length : Int)) = true := bne_iff_ne.mpr c3
  have c3b2 : (l11.length == l00.length) = false := by first | simpa using c3 | (simp at c3 ⊢; omega)
  obtain rfl := Option.some.inj H
  go_enter Tryz.func105, Tryz.ntmps105
  go_wp2_with (first | ((with_reducible refine gate_dst (N := 2) rfl ?_); refine box_event ?hg (N := 2) ?hd (cs := #[.slice A00 l00.length c00, .slice A01 l01.length c01, .slice A02 l02.length c02, .slice A03 l03.length c03, .int .i64 a04, .int .i64 a05, .int .i64 a06]) (t := 29) ?hr ?_; (case hd => rfl); (case hg => rfl); (case hr => exact tG); intro gb132 hg w30 hbox hb; have BK132 := Sd.mk (hbox); have GW132 := Sd.mk (bSz hg (bBl HB.out)); have GE132 := Sd.mk (bSz hg (bBl HB.out)); replace HB := Sd.mk (below_step (bBl HB.out) hb); clear hb hbox hg) | ((with_reducible refine gate_dst (N := 3) rfl ?_); refine box_event ?hg (N := 3) ?hd (cs := #[.string a1_0, .slice A11 l11.length c1_1, .int .i64 a1_2, .int .i64 a1_3]) (t := 89) ?hr ?_; (case hd => rfl); (case hg => rfl); (case hr => exact tG); intro gb133 hg w31 hbox hb; have BK133 := Sd.mk (hbox); have GW133 := Sd.mk (bSz hg (bBl HB.out)); have GE133 := Sd.mk (bSz hg (bBl HB.out)); replace HB := Sd.mk (below_step (bBl HB.out) hb); have NB132133 := Sd.mk (bNl hg (bkA BK132.out)); have NB133132 := Sd.mk (bNg hg (bkA BK132.out)); replace BK132 := Sd.mk (blk_below (bkA BK132.out) hb); clear hb hbox hg; have hnb32 := NB133132.out; have hnc32 := NB132133.out; obtain ⟨u33_0, u33_1, u33_2, u33_3, o330, o331, o332, o333⟩ := bc4 (w := w31) BK133.out; obtain ⟨u34_0, u34_1, u34_2, u34_3, u34_4, u34_5, u34_6, o340, o341, o342, o343, o344, o345, o346⟩ := bc7 (w := w31) BK132.out))
  go_ret
  exact ⟨tE, bBl HB.out⟩
end
section
mutual
def b_Check.j0 : Nat → Bool → List ByteArray → List (S70) → List (S27) → List (S89) → Int → Int → Int → Option (Int)
 | 0, _, _, _, _, _, _, _, _ => none
 | k + 1, x29, x137q0, x137q1, x137q2, x137q3, x137q4, x137q5, x137q6 => if x29 = true then (some 1) else (if (x137q3.length : Int) > 6 then (some 3) else (b_Check.l0 k x137q3 (x137q3.length : Int) 0 x137q0 x137q1 x137q2 x137q3 x137q4 x137q5 x137q6))
def b_Check.l0 : Nat → List (S89) → Int → Int → List ByteArray → List (S70) → List (S27) → List (S89) → Int → Int → Int → Option (Int)
 | 0, _, _, _, _, _, _, _, _, _, _ => none
 | k + 1, x35, x36, x37, x137q0, x137q1, x137q2, x137q3, x137q4, x137q5, x137q6 => if x37 < x36 then (if 0 ≤ x37 then (if x37 < (x35.length : Int) then ((b_name.f k ((rd_T89 x35 x37).f0)).bind fun t142 => (if t142 = true then ((x_twiceP.f x137q3 x37).bind fun t143 => (if t143 = true then (some 6) else ((b_checkProperty.f x137q0 x137q1 x137q2 x137q3 x137q4 x137q5 x137q6 ((rd_T89 x35 x37).f0) ((rd_T89 x35 x37).f1) ((rd_T89 x35 x37).f2.f0) ((rd_T89 x35 x37).f2.f1)).bind fun t144 => (if t144 = 0 then (b_Check.l0 k x35 x36 (wrap64 (x37 + 1)) x137q0 x137q1 x137q2 x137q3 x137q4 x137q5 x137q6) else (some t144))))) else (some 5))) else (none)) else (none)) else ((b_span.f x137q4 x137q5 (-10000) 10000).bind fun t145 => (if t145 = true then ((b_within.f x137q6 1 10000).bind fun t146 => (if t146 = true then (some 0) else (some 1))) else (some 1)))
end
def b_Check.f (k : Nat) (l00 : List ByteArray) (l01 : List (S70)) (l02 : List (S27)) (l03 : List (S89)) (a04 : Int) (a05 : Int) (a06 : Int) : Option (Int) := (b_checkOxides.f k l00 l01 l02 l03 a04 a05 a06).bind fun t137 => (if t137 = 0 then ((b_checkMaterials.f k l00 l01 l02 l03 a04 a05 a06).bind fun t138 => (if t138 = 0 then (if (l02.length : Int) = (l00.length : Int) then ((x_spans.f l02).bind fun t139 => (b_Check.j0 k t139 l00 l01 l02 l03 a04 a05 a06)) else (b_Check.j0 k true l00 l01 l02 l03 a04 a05 a06)) else (some t138))) else (some t137))
theorem b_Check.mono_l : ∀ k, (∀ y0 y1 y2 y3 y4 y5 y6 y7, LeO (b_Check.j0 k y0 y1 y2 y3 y4 y5 y6 y7) (b_Check.j0 (k + 1) y0 y1 y2 y3 y4 y5 y6 y7)) ∧ (∀ y0 y1 y2 y3 y4 y5 y6 y7 y8 y9, LeO (b_Check.l0 k y0 y1 y2 y3 y4 y5 y6 y7 y8 y9) (b_Check.l0 (k + 1) y0 y1 y2 y3 y4 y5 y6 y7 y8 y9))
 | 0 => ⟨fun _ _ _ _ _ _ _ _ r h => by simp [b_Check.j0] at h, fun _ _ _ _ _ _ _ _ _ _ r h => by simp [b_Check.l0] at h⟩
 | k + 1 => by
  obtain ⟨ih0, ih1⟩ := b_Check.mono_l k
  refine ⟨?_, ?_⟩
  ·intro y0 y1 y2 y3 y4 y5 y6 y7
   unfold b_Check.j0
   repeat' first
   | (with_reducible exact ih0 _ _ _ _ _ _ _ _)
   | (with_reducible exact ih1 _ _ _ _ _ _ _ _ _ _)
   | (with_reducible exact b_checkMaterials.mono _ _ _ _ _ _ _ _)
   | (with_reducible exact b_checkOxides.mono _ _ _ _ _ _ _ _)
   | (with_reducible exact b_name.mono _ _)
   | (with_reducible exact LeO.refl _)
   | (with_reducible exact LeO.none _)
   | (with_reducible refine LeO.ite ?_ ?_)
   | (with_reducible refine LeO.bind ?_ (fun _ => ?_))
   | exact LeO.none _
   | refine LeO.ite ?_ ?_
   | refine LeO.bind ?_ (fun _ => ?_)
  ·intro y0 y1 y2 y3 y4 y5 y6 y7 y8 y9
   unfold b_Check.l0
   repeat' first
   | (with_reducible exact ih0 _ _ _ _ _ _ _ _)
   | (with_reducible exact ih1 _ _ _ _ _ _ _ _ _ _)
   | (with_reducible exact b_checkMaterials.mono _ _ _ _ _ _ _ _)
   | (with_reducible exact b_checkOxides.mono _ _ _ _ _ _ _ _)
   | (with_reducible exact b_name.mono _ _)
   | (with_reducible exact LeO.refl _)
   | (with_reducible exact LeO.none _)
   | (with_reducible refine LeO.ite ?_ ?_)
   | (with_reducible refine LeO.bind ?_ (fun _ => ?_))
   | exact LeO.none _
   | refine LeO.ite ?_ ?_
   | refine LeO.bind ?_ (fun _ => ?_)
theorem b_Check.mono : ∀ a0 a1 a2 a3 a4 a5 a6 k, LeO (b_Check.f k a0 a1 a2 a3 a4 a5 a6) (b_Check.f (k + 1) a0 a1 a2 a3 a4 a5 a6) := by
 intro a0 a1 a2 a3 a4 a5 a6 k
 obtain ⟨ih0, ih1⟩ := b_Check.mono_l k
 unfold b_Check.f
 repeat' first
   | (with_reducible exact ih0 _ _ _ _ _ _ _ _)
   | (with_reducible exact ih1 _ _ _ _ _ _ _ _ _ _)
   | (with_reducible exact b_checkMaterials.mono _ _ _ _ _ _ _ _)
   | (with_reducible exact b_checkOxides.mono _ _ _ _ _ _ _ _)
   | (with_reducible exact b_name.mono _ _)
   | (with_reducible exact LeO.refl _)
   | (with_reducible exact LeO.none _)
   | (with_reducible refine LeO.ite ?_ ?_)
   | (with_reducible refine LeO.bind ?_ (fun _ => ?_))
   | exact LeO.none _
   | refine LeO.ite ?_ ?_
   | refine LeO.bind ?_ (fun _ => ?_)
theorem b_Check.calls (k : Nat) (A00 : Option Addr) (c00 : Nat) (l00 : List ByteArray) (A01 : Option Addr) (c01 : Nat) (l01 : List (S70)) (A02 : Option Addr) (c02 : Nat) (l02 : List (S27)) (A03 : Option Addr) (c03 : Nat) (l03 : List (S89)) (a04 : Int) (a05 : Int) (a06 : Int) (r : Int) (w : World) (hr00 : Kd.C Kd.string w A00 l00.length l00) (hc00 : l00.length ≤ c00) (hr01 : Kd.C k70 w A01 l01.length l01) (hc01 : l01.length ≤ c01) (hr02 : Kd.C k27 w A02 l02.length l02) (hc02 : l02.length ≤ c02) (hr03 : Kd.C k89 w A03 l03.length l03) (hc03 : l03.length ≤ c03) (h : b_Check.f k l00 l01 l02 l03 a04 a05 a06 = some r) :
  Calls Tryz.prog 34 #[.agg #[.slice A00 l00.length c00, .slice A01 l01.length c01, .slice A02 l02.length c02, .slice A03 l03.length c03, .int .i64 a04, .int .i64 a05, .int .i64 a06]] w fun e w' => e = .returned (.int .i64 r) ∧ Below w.heap.size w w' := by
 have hu29 := Tryz.underlying29; have hu89 := Tryz.underlying89; have hu27 := Tryz.underlying27; have HR00 := Sd.mk hr00; have HC00 := Sd.mk hc00; clear hr00 hc00; have HR01 := Sd.mk hr01; have HC01 := Sd.mk hc01; clear hr01 hc01; have HR02 := Sd.mk hr02; have HC02 := Sd.mk hc02; clear hr02 hc02; have HR03 := Sd.mk hr03; have HC03 := Sd.mk hc03; clear hr03 hc03; have HB := Sd.mk (Below.refl w.heap.size w)
 have H : ((b_checkOxides.f k l00 l01 l02 l03 a04 a05 a06).bind fun t137 => (if t137 = 0 then ((b_checkMaterials.f k l00 l01 l02 l03 a04 a05 a06).bind fun t138 => (if t138 = 0 then (if (l02.length : Int) = (l00.length : Int) then ((x_spans.f l02).bind fun t139 => (b_Check.j0 k t139 l00 l01 l02 l03 a04 a05 a06)) else (b_Check.j0 k true l00 l01 l02 l03 a04 a05 a06)) else (some t138))) else (some t137))) = some r := h
 clear h; replace H := Option.bind_eq_some_iff.mp H; obtain ⟨t137, A20, H⟩ := H
 try dsimp only at H
 have A2 := Sd.mk A20; clear A20
 by_cases c3 : t137 = 0
 ·rw [if_pos c3] at H
  have c3b0 : (t137 == 0) = true := beq_iff_eq.mpr c3
  have c3b1 : (t137 != 0) = false := bne_eq_false_iff_eq.mpr c3
  clear c3; replace H := Option.bind_eq_some_iff.mp H; obtain ⟨t138, A40, H⟩ := H
  try dsimp only at H
  have A4 := Sd.mk A40; clear A40
  by_cases c5 : t138 = 0
  ·rw [if_pos c5] at H
   have c5b0 : (t138 == 0) = true := beq_iff_eq.mpr c5
   have c5b1 : (t138 != 0) = false := bne_eq_false_iff_eq.mpr c5
   clear c5; have HC6 := Sd.mk H; clear H
   go_enter Tryz.func34, Tryz.ntmps34
   go_upto_region 7 with (first | ((with_reducible refine gate_dst (N := 1) rfl ?_); refine box_event ?hg (N := 1) ?hd (cs := #[.slice A00 l00.length c00, .slice A01 l01.length c01, .slice A02 l02.length c02, .slice A03 l03.length c03, .int .i64 a04, .int .i64 a05, .int .i64 a06]) (t := 29) ?hr ?_; (case hd => rfl); (case hg => rfl); (case hr => exact tG); intro gb136 hg w7 hbox hb; have BK136 := Sd.mk (hbox); have GW136 := Sd.mk (bSz hg (bBl HB.out)); have GE136 := Sd.mk (bSz hg (bBl HB.out)); replace HB := Sd.mk (below_step (bBl HB.out) hb); clear hb hbox hg; obtain ⟨u8_0, u8_1, u8_2, u8_3, u8_4, u8_5, u8_6, o80, o81, o82, o83, o84, o85, o86⟩ := bc7 (w := w7) BK136.out) | ((with_reducible refine gate_callee (f := 97) rfl ?_); refine goesL_ (some 9) rfl rfl Tryz.func97 (by kernel_rfl) rfl #[.agg #[.slice A00 l00.length c00, .slice A01 l01.length c01, .slice A02 l02.length c02, .slice A03 l03.length c03, .int .i64 a04, .int .i64 a05, .int .i64 a06]] rfl tM ?_; (with_reducible refine (b_checkOxides.calls k _ _ l00 _ _ l01 _ _ l02 _ _ l03 a04 a05 a06 t137 _ (cS (Kd.C_below HR00.out HB.out)) HC00.out (cS (Kd.C_below HR01.out HB.out)) HC01.out (cS (Kd.C_below HR02.out HB.out)) HC02.out (cS (Kd.C_below HR03.out HB.out)) HC03.out A2.out).mono ?_); rintro e w9 ⟨rfl, hb⟩; refine ⟨_, rfl, ?_⟩; replace BK136 := Sd.mk (blk_below (bkA BK136.out) hb); replace HB := Sd.mk (below_step (bBl HB.out) hb); (try clear hb); (try clear hb2); (try clear hk); (try clear hi); obtain ⟨u10_0, u10_1, u10_2, u10_3, u10_4, u10_5, u10_6, o100, o101, o102, o103, o104, o105, o106⟩ := bc7 (w := w9) BK136.out) | ((with_reducible refine gate_callee (f := 98) rfl ?_); refine goesL_ (some 14) rfl rfl Tryz.func98 (by kernel_rfl) rfl #[.agg #[.slice A00 l00.length c00, .slice A01 l01.length c01, .slice A02 l02.length c02, .slice A03 l03.length c03, .int .i64 a04, .int .i64 a05, .int .i64 a06]] rfl tM ?_; (with_reducible refine (b_checkMaterials.calls k _ _ l00 _ _ l01 _ _ l02 _ _ l03 a04 a05 a06 t138 _ (cS (Kd.C_below HR00.out HB.out)) HC00.out (cS (Kd.C_below HR01.out HB.out)) HC01.out (cS (Kd.C_below HR02.out HB.out)) HC02.out (cS (Kd.C_below HR03.out HB.out)) HC03.out A4.out).mono ?_); rintro e w11 ⟨rfl, hb⟩; refine ⟨_, rfl, ?_⟩; replace BK136 := Sd.mk (blk_below (bkA BK136.out) hb); replace HB := Sd.mk (below_step (bBl HB.out) hb); (try clear hb); (try clear hb2); (try clear hk); (try clear hi)))
   (try simp only [Act.put, List.setIfInBounds_toArray, List.set_cons_zero, List.set_cons_succ])
   go_cut [29] (fun v29 wc => ∃ (kq : Nat) (x295 : Bool), v29 = .bool x295 ∧ Sd (b_Check.j0 kq x295 l00 l01 l02 l03 a04 a05 a06 = some r) ∧ Sd (kq ≤ k) ∧ Sd (wc.heap[gb136]? = some (.cells #[(.slice A00 l00.length c00), (.slice A01 l01.length c01), (.slice A02 l02.length c02), (.slice A03 l03.length c03), .int .i64 a04, .int .i64 a05, .int .i64 a06] 29 (0, 0))) ∧ Sd (Below w.heap.size w wc))
   case first =>
    have H := HC6.out; clear HC6
    by_cases c12 : (l02.length : Int) = (l00.length : Int)
    ·rw [if_pos c12] at H
     have c12b0 : ((l02.length : Int) == (l00.length : Int)) = true := beq_iff_eq.mpr c12
     have c12b1 : ((l02.length : Int) != (l00.length : Int)) = false := bne_eq_false_iff_eq.mpr c12
     have c12b2 : (l02.length == l00.length) = true := by first | simpa using c12 | (simp at c12 ⊢; omega)
     clear c12
     (first | rw [c12b0] | (simp only [i64_w, i32_w]; rw [c12b0]) | skip)
     replace H := Option.bind_eq_some_iff.mp H; obtain ⟨t139, A130, H⟩ := H
     try dsimp only at H
     have A13 := Sd.mk A130; clear A130; have H' := Sd.mk H; clear H; obtain ⟨u14_0, u14_1, u14_2, u14_3, u14_4, u14_5, u14_6, o140, o141, o142, o143, o144, o145, o146⟩ := bc7 (w := w11) BK136.out
     go_wp2_with (first | (go_at_call 99; (with_reducible refine (x_spans.calls _ _ l02 t139 _ (cS (Kd.C_below HR02.out HB.out)) HC02.out A13.out).mono ?_); rintro e w15 ⟨rfl, hb⟩; replace BK136 := Sd.mk (blk_below (bkA BK136.out) hb); replace HB := Sd.mk (below_step (bBl HB.out) hb); (try clear hb); (try clear hb2); (try clear hk); (try clear hi)))
     go_meet
     case rel => exact ⟨_, (t139), tS, H', ⟨by first | omega | exact Nat.le_refl _⟩, ⟨bkA BK136.out⟩, ⟨bBl HB.out⟩⟩
    ·rw [if_neg c12] at H
     have c12b0 : ((l02.length : Int) == (l00.length : Int)) = false := beq_eq_false_iff_ne.mpr c12
     have c12b1 : ((l02.length : Int) != (l00.length : Int)) = true := bne_iff_ne.mpr c12
     have c12b2 : (l02.length == l00.length) = false := by first | simpa using c12 | (simp at c12 ⊢; omega)
     (first | rw [c12b0] | (simp only [i64_w, i32_w]; rw [c12b0]) | skip)
     have H' := Sd.mk H; clear H; obtain ⟨u16_0, u16_1, u16_2, u16_3, u16_4, u16_5, u16_6, o160, o161, o162, o163, o164, o165, o166⟩ := bc7 (w := w11) BK136.out
     go_wp2
     go_meet
     case rel => exact ⟨_, (true), tS, H', ⟨by first | omega | exact Nat.le_refl _⟩, ⟨bkA BK136.out⟩, ⟨bBl HB.out⟩⟩
   case rest =>
    clear HC6; (try clear c1); (try clear p2); (try clear c3); (try clear c3b0); (try clear c3b1); (try clear c5); (try clear c5b0); (try clear c5b1); (try clear c9); (try clear c12); (try clear c12b0); (try clear c12b1); (try clear c12b2); (try clear u10_0 u10_1 u10_2 u10_3 u10_4 u10_5 u10_6); (try clear u14_0 u14_1 u14_2 u14_3 u14_4 u14_5 u14_6); (try clear u16_0 u16_1 u16_2 u16_3 u16_4 u16_5 u16_6); (try clear u8_0 u8_1 u8_2 u8_3 u8_4 u8_5 u8_6); (try clear o100 o101 o102 o103 o104 o105 o106); (try clear o140 o141 o142 o143 o144 o145 o146); (try clear o160 o161 o162 o163 o164 o165 o166); (try clear o80 o81 o82 o83 o84 o85 o86); obtain ⟨kq, x295, rfl, HA, HJ5, BK136, HB⟩ := hcut
    cases kq with
    | zero => exact absurd HA.out (by simp [b_Check.j0])
    | succ kj5 =>
     have H := HA.out; clear HA
     simp only [b_Check.j0] at H
     by_cases c17 : x295 = true
     ·subst c17
      have H1 : (some 1) = some r := by rw [if_pos rfl] at H; exact H
      clear H; have H := H1; clear H1; obtain rfl := Option.some.inj H
      go_wp2
      go_ret
      exact ⟨tE, bBl HB.out⟩
     ·replace c17 := Bool.eq_false_iff.mpr c17
      subst c17
      have H1 : (if (l03.length : Int) > 6 then (some 3) else (b_Check.l0 kj5 l03 (l03.length : Int) 0 l00 l01 l02 l03 a04 a05 a06)) = some r := by rw [if_neg (show ¬ (false = true) by decide)] at H; exact H
      clear H; have H := H1; clear H1
      by_cases c18 : (l03.length : Int) > 6
      ·rw [if_pos c18] at H
       have c18b0 : decide (6 < (l03.length : Int)) = true := decide_eq_true c18
       have c18b1 : decide (6 < l03.length) = true := decide_eq_true (by omega)
       clear c18; obtain rfl := Option.some.inj H; obtain ⟨u19_0, u19_1, u19_2, u19_3, u19_4, u19_5, u19_6, o190, o191, o192, o193, o194, o195, o196⟩ := bc7 (w := wc) BK136.out
       go_wp2
       go_ret
       exact ⟨tE, bBl HB.out⟩
      ·rw [if_neg c18] at H
       have c18b0 : decide (6 < (l03.length : Int)) = false := decide_eq_false c18
       have c18b1 : decide (6 < l03.length) = false := decide_eq_false (by omega)
       clear c18; have H' := Sd.mk H; clear H; obtain ⟨u20_0, u20_1, u20_2, u20_3, u20_4, u20_5, u20_6, o200, o201, o202, o203, o204, o205, o206⟩ := bc7 (w := wc) BK136.out
       go_wp2
       go_loopg [37] kj5 (fun kq v37 w' => ∃ (x372 : Int), v37 = .int .i64 x372 ∧ Sd (b_Check.l0 kq l03 (l03.length : Int) x372 l00 l01 l02 l03 a04 a05 a06 = some r) ∧ Sd (kq ≤ kj5) ∧ Sd (w'.heap[gb136]? = some (.cells #[(.slice A00 l00.length c00), (.slice A01 l01.length c01), (.slice A02 l02.length c02), (.slice A03 l03.length c03), .int .i64 a04, .int .i64 a05, .int .i64 a06] 29 (0, 0))) ∧ Sd (Below w.heap.size w w'))
       case atStart => exact ⟨(0), tS, H', ⟨Nat.le_refl _⟩, ⟨bkA BK136.out⟩, ⟨bBl HB.out⟩⟩
       case round =>
        clear H'; (try clear c1); (try clear p2 p2); (try clear c3); (try clear c3b0); (try clear c3b1); (try clear c5); (try clear c5b0); (try clear c5b1); (try clear c9); (try clear c12); (try clear c12b0); (try clear c12b1); (try clear c12b2); (try clear c17); (try clear c18); (try clear c18b0); (try clear c18b1); (try clear u10_0 u10_1 u10_2 u10_3 u10_4 u10_5 u10_6); (try clear u14_0 u14_1 u14_2 u14_3 u14_4 u14_5 u14_6); (try clear u16_0 u16_1 u16_2 u16_3 u16_4 u16_5 u16_6); (try clear u19_0 u19_1 u19_2 u19_3 u19_4 u19_5 u19_6); (try clear u20_0 u20_1 u20_2 u20_3 u20_4 u20_5 u20_6); (try clear u8_0 u8_1 u8_2 u8_3 u8_4 u8_5 u8_6); (try clear o100 o101 o102 o103 o104 o105 o106); (try clear o140 o141 o142 o143 o144 o145 o146); (try clear o160 o161 o162 o163 o164 o165 o166); (try clear o190 o191 o192 o193 o194 o195 o196); (try clear o200 o201 o202 o203 o204 o205 o206); (try clear o80 o81 o82 o83 o84 o85 o86); obtain ⟨x372, rfl, HA, HK2, BK136, HB⟩ := hrel
        cases gk with
        | zero => exact absurd HA.out (by simp [b_Check.l0])
        | succ k2 =>
         have H := HA.out; clear HA
         simp only [b_Check.l0] at H
         by_cases c21 : x372 < (l03.length : Int)
         ·rw [if_pos c21] at H
          have c21b0 : decide (x372 < (l03.length : Int)) = true := decide_eq_true c21
          clear c21
          by_cases c22 : 0 ≤ x372
          ·rw [if_pos c22] at H
           have c22b0 : decide (0 ≤ x372) = true := decide_eq_true c22
           clear c22
           by_cases c23 : x372 < (l03.length : Int)
           ·rw [if_pos c23] at H
            have c23b0 : decide (x372 < (l03.length : Int)) = true := decide_eq_true c23
            clear c23; replace H := Option.bind_eq_some_iff.mp H; obtain ⟨t142, A240, H⟩ := H
            try dsimp only at H
            have A24 := Sd.mk A240; clear A240
            by_cases c25 : t142 = true
            ·subst c25
             have H1 : ((x_twiceP.f l03 x372).bind fun t143 => (if t143 = true then (some 6) else ((b_checkProperty.f l00 l01 l02 l03 a04 a05 a06 ((rd_T89 l03 x372).f0) ((rd_T89 l03 x372).f1) ((rd_T89 l03 x372).f2.f0) ((rd_T89 l03 x372).f2.f1)).bind fun t144 => (if t144 = 0 then (b_Check.l0 k2 l03 (l03.length : Int) (wrap64 (x372 + 1)) l00 l01 l02 l03 a04 a05 a06) else (some t144))))) = some r := by rw [if_pos rfl] at H; exact H
             clear H; have H := H1; clear H1; replace H := Option.bind_eq_some_iff.mp H; obtain ⟨t143, A260, H⟩ := H
             try dsimp only at H
             have A26 := Sd.mk A260; clear A260
             by_cases c27 : t143 = true
             ·subst c27
              have H1 : (some 6) = some r := by rw [if_pos rfl] at H; exact H
              clear H; have H := H1; clear H1; obtain rfl := Option.some.inj H
              have p140 : 0 ≤ (x372 : Int) := tB
              have q140 : x372 < (l03.length : Int) := tB
              obtain ⟨ad140, A1401, c1401, e140, hx1400, hx1401, hx1402, hx1403, hl1401, hi1401⟩ := at_T89 HR03.out x372 p140 q140; cases e140; replace hx1400 := cU HB hx1400; replace hx1401 := cU HB hx1401; replace hx1402 := cU HB hx1402; replace hx1403 := cU HB hx1403; have HR1401 := Sd.mk hi1401; have HC1401 := Sd.mk hl1401; clear hi1401 hl1401; replace p140 := eq_true p140; replace q140 := eq_true q140
              go_wp2_with (first | ((with_reducible refine gate_dst (N := 6) rfl ?_); refine box_event ?hg (N := 6) ?hd (cs := #[.string (⟨#[]⟩ : ByteArray), .slice none 0 0, .int .i64 0, .int .i64 0]) (t := 89) ?hr ?_; (case hd => rfl); (case hg => rfl); (case hr => exact tG); intro gb141 hg w28 hbox hb; have BK141 := Sd.mk (hbox); have GW141 := Sd.mk (bSz hg (bBl HB.out)); have GE141 := Sd.mk (bSz hg (bBl HB.out)); replace HB := Sd.mk (below_step (bBl HB.out) hb); have NB136141 := Sd.mk (bNl hg (bkA BK136.out)); have NB141136 := Sd.mk (bNg hg (bkA BK136.out)); replace BK136 := Sd.mk (blk_below (bkA BK136.out) hb); clear hb hbox hg; have hnb29 := NB141136.out; have hnc29 := NB136141.out; obtain ⟨u30_0, u30_1, u30_2, u30_3, o300, o301, o302, o303⟩ := bc4 (w := w28) BK141.out) | ((with_reducible refine gate_callee (f := 102) rfl ?_); refine goesL_ (some 45) rfl rfl Tryz.func102 (by kernel_rfl) rfl #[.string ((rd_T89 l03 x372).f0)] rfl tM ?_; (with_reducible refine (b_name.calls k2 ((rd_T89 l03 x372).f0) true _ A24.out).mono ?_); rintro e w' ⟨rfl, ⟨nd, rfl⟩⟩; refine ⟨_, rfl, ?_⟩; obtain ⟨u31_0, u31_1, u31_2, u31_3, u31_4, u31_5, u31_6, o310, o311, o312, o313, o314, o315, o316⟩ := bc7 (w := w28) BK136.out) | ((with_reducible refine gate_callee (f := 103) rfl ?_); refine goesL_ (some 51) rfl rfl Tryz.func103 (by kernel_rfl) rfl #[.slice (some ad140) l03.length c03, .int .i64 x372, .func (.func 104) #[] #[]] rfl tM ?_; (with_reducible refine (x_twiceP.calls _ _ l03 x372 true _ (Kd.C_below HR03.out (bBl HB.out)) HC03.out A26.out).mono ?_); rintro e w32 ⟨rfl, hb⟩; refine ⟨_, rfl, ?_⟩; replace BK136 := Sd.mk (blk_below (g := gb136) (o := .cells #[.slice A00 l00.length c00, .slice A01 l01.length c01, .slice A02 l02.length c02, .slice (some ad140) l03.length c03, .int .i64 a04, .int .i64 a05, .int .i64 a06] 29 (0, 0)) (by refine bkZ ?_; refine blk_far ?_ NB136141.out _; refine bkZ ?_; refine blk_far ?_ NB136141.out _; refine bkZ ?_; refine blk_far ?_ NB136141.out _; refine bkZ ?_; refine blk_far ?_ NB136141.out _; refine bkZ ?_; exact BK136.out) hb); replace BK141 := Sd.mk (blk_below (g := gb141) (o := .cells #[.string ((rd_T89 l03 x372).f0), .slice A1401 ((rd_T89 l03 x372).f1).length c1401, .int .i64 ((rd_T89 l03 x372).f2.f0), .int .i64 ((rd_T89 l03 x372).f2.f1)] 89 (0, 0)) (by refine bkZ ?_; refine blk_put (cs := #[.string ((rd_T89 l03 x372).f0), .slice A1401 ((rd_T89 l03 x372).f1).length c1401, .int .i64 ((rd_T89 l03 x372).f2.f0), .int .i64 0]) ?_ 3 _ rfl; refine bkZ ?_; refine blk_put (cs := #[.string ((rd_T89 l03 x372).f0), .slice A1401 ((rd_T89 l03 x372).f1).length c1401, .int .i64 0, .int .i64 0]) ?_ 2 _ rfl; refine bkZ ?_; refine blk_put (cs := #[.string ((rd_T89 l03 x372).f0), .slice none 0 0, .int .i64 0, .int .i64 0]) ?_ 1 _ rfl; refine bkZ ?_; refine blk_put (cs := #[.string (⟨#[]⟩ : ByteArray), .slice none 0 0, .int .i64 0, .int .i64 0]) ?_ 0 _ rfl; refine bkZ ?_; exact BK141.out) hb); replace HB := Sd.mk (below_step (bBl HB.out) hb); (try clear hb); (try clear hb2); (try clear hk); (try clear hi)))
              go_ret
              exact ⟨tE, bBl HB.out⟩
             ·replace c27 := Bool.eq_false_iff.mpr c27
              subst c27
              have H1 : ((b_checkProperty.f l00 l01 l02 l03 a04 a05 a06 ((rd_T89 l03 x372).f0) ((rd_T89 l03 x372).f1) ((rd_T89 l03 x372).f2.f0) ((rd_T89 l03 x372).f2.f1)).bind fun t144 => (if t144 = 0 then (b_Check.l0 k2 l03 (l03.length : Int) (wrap64 (x372 + 1)) l00 l01 l02 l03 a04 a05 a06) else (some t144))) = some r := by rw [if_neg (show ¬ (false = true) by decide)] at H; exact H
              clear H; have H := H1; clear H1; replace H := Option.bind_eq_some_iff.mp H; obtain ⟨t144, A330, H⟩ := H
              try dsimp only at H
              have A33 := Sd.mk A330; clear A330
              by_cases c34 : t144 = 0
              ·rw [if_pos c34] at H
               have c34b0 : (t144 == 0) = true := beq_iff_eq.mpr c34
               have c34b1 : (t144 != 0) = false := bne_eq_false_iff_eq.mpr c34
               clear c34; have H' := Sd.mk H; clear H
               have p140 : 0 ≤ (x372 : Int) := tB
               have q140 : x372 < (l03.length : Int) := tB
               obtain ⟨ad140, A1401, c1401, e140, hx1400, hx1401, hx1402, hx1403, hl1401, hi1401⟩ := at_T89 HR03.out x372 p140 q140; cases e140; replace hx1400 := cU HB hx1400; replace hx1401 := cU HB hx1401; replace hx1402 := cU HB hx1402; replace hx1403 := cU HB hx1403; have HR1401 := Sd.mk hi1401; have HC1401 := Sd.mk hl1401; clear hi1401 hl1401; replace p140 := eq_true p140; replace q140 := eq_true q140
               go_wp2_with (first | ((with_reducible refine gate_dst (N := 6) rfl ?_); refine box_event ?hg (N := 6) ?hd (cs := #[.string (⟨#[]⟩ : ByteArray), .slice none 0 0, .int .i64 0, .int .i64 0]) (t := 89) ?hr ?_; (case hd => rfl); (case hg => rfl); (case hr => exact tG); intro gb141 hg w35 hbox hb; have BK141 := Sd.mk (hbox); have GW141 := Sd.mk (bSz hg (bBl HB.out)); have GE141 := Sd.mk (bSz hg (bBl HB.out)); replace HB := Sd.mk (below_step (bBl HB.out) hb); have NB136141 := Sd.mk (bNl hg (bkA BK136.out)); have NB141136 := Sd.mk (bNg hg (bkA BK136.out)); replace BK136 := Sd.mk (blk_below (bkA BK136.out) hb); clear hb hbox hg; have hnb36 := NB141136.out; have hnc36 := NB136141.out; obtain ⟨u37_0, u37_1, u37_2, u37_3, o370, o371, o372, o373⟩ := bc4 (w := w35) BK141.out) | ((with_reducible refine gate_callee (f := 102) rfl ?_); refine goesL_ (some 45) rfl rfl Tryz.func102 (by kernel_rfl) rfl #[.string ((rd_T89 l03 x372).f0)] rfl tM ?_; (with_reducible refine (b_name.calls k2 ((rd_T89 l03 x372).f0) true _ A24.out).mono ?_); rintro e w' ⟨rfl, ⟨nd, rfl⟩⟩; refine ⟨_, rfl, ?_⟩; obtain ⟨u38_0, u38_1, u38_2, u38_3, u38_4, u38_5, u38_6, o380, o381, o382, o383, o384, o385, o386⟩ := bc7 (w := w35) BK136.out) | ((with_reducible refine gate_callee (f := 103) rfl ?_); refine goesL_ (some 51) rfl rfl Tryz.func103 (by kernel_rfl) rfl #[.slice (some ad140) l03.length c03, .int .i64 x372, .func (.func 104) #[] #[]] rfl tM ?_; (with_reducible refine (x_twiceP.calls _ _ l03 x372 false _ (Kd.C_below HR03.out (bBl HB.out)) HC03.out A26.out).mono ?_); rintro e w39 ⟨rfl, hb⟩; refine ⟨_, rfl, ?_⟩; replace BK136 := Sd.mk (blk_below (g := gb136) (o := .cells #[.slice A00 l00.length c00, .slice A01 l01.length c01, .slice A02 l02.length c02, .slice (some ad140) l03.length c03, .int .i64 a04, .int .i64 a05, .int .i64 a06] 29 (0, 0)) (by refine bkZ ?_; refine blk_far ?_ NB136141.out _; refine bkZ ?_; refine blk_far ?_ NB136141.out _; refine bkZ ?_; refine blk_far ?_ NB136141.out _; refine bkZ ?_; refine blk_far ?_ NB136141.out _; refine bkZ ?_; exact BK136.out) hb); replace BK141 := Sd.mk (blk_below (g := gb141) (o := .cells #[.string ((rd_T89 l03 x372).f0), .slice A1401 ((rd_T89 l03 x372).f1).length c1401, .int .i64 ((rd_T89 l03 x372).f2.f0), .int .i64 ((rd_T89 l03 x372).f2.f1)] 89 (0, 0)) (by refine bkZ ?_; refine blk_put (cs := #[.string ((rd_T89 l03 x372).f0), .slice A1401 ((rd_T89 l03 x372).f1).length c1401, .int .i64 ((rd_T89 l03 x372).f2.f0), .int .i64 0]) ?_ 3 _ rfl; refine bkZ ?_; refine blk_put (cs := #[.string ((rd_T89 l03 x372).f0), .slice A1401 ((rd_T89 l03 x372).f1).length c1401, .int .i64 0, .int .i64 0]) ?_ 2 _ rfl; refine bkZ ?_; refine blk_put (cs := #[.string ((rd_T89 l03 x372).f0), .slice none 0 0, .int .i64 0, .int .i64 0]) ?_ 1 _ rfl; refine bkZ ?_; refine blk_put (cs := #[.string (⟨#[]⟩ : ByteArray), .slice none 0 0, .int .i64 0, .int .i64 0]) ?_ 0 _ rfl; refine bkZ ?_; exact BK141.out) hb); replace HB := Sd.mk (below_step (bBl HB.out) hb); (try clear hb); (try clear hb2); (try clear hk); (try clear hi); obtain ⟨u40_0, u40_1, u40_2, u40_3, u40_4, u40_5, u40_6, o400, o401, o402, o403, o404, o405, o406⟩ := bc7 (w := w39) BK136.out; obtain ⟨u41_0, u41_1, u41_2, u41_3, o410, o411, o412, o413⟩ := bc4 (w := w39) BK141.out) | ((with_reducible refine gate_callee (f := 105) rfl ?_); refine goesL_ (some 54) rfl rfl Tryz.func105 (by kernel_rfl) rfl #[.agg #[.slice A00 l00.length c00, .slice A01 l01.length c01, .slice A02 l02.length c02, .slice (some ad140) l03.length c03, .int .i64 a04, .int .i64 a05, .int .i64 a06], .agg #[.string ((rd_T89 l03 x372).f0), .slice A1401 ((rd_T89 l03 x372).f1).length c1401, .int .i64 ((rd_T89 l03 x372).f2.f0), .int .i64 ((rd_T89 l03 x372).f2.f1)]] rfl tM ?_; (with_reducible refine (b_checkProperty.calls _ _ l00 _ _ l01 _ _ l02 _ _ l03 a04 a05 a06 ((rd_T89 l03 x372).f0) _ _ ((rd_T89 l03 x372).f1) ((rd_T89 l03 x372).f2.f0) ((rd_T89 l03 x372).f2.f1) t144 _ (cS (Kd.C_below HR00.out HB.out)) HC00.out (cS (Kd.C_below HR01.out HB.out)) HC01.out (cS (Kd.C_below HR02.out HB.out)) HC02.out (cS (Kd.C_below HR03.out HB.out)) HC03.out (cS (Kd.C_below HR1401.out HB.out)) HC1401.out A33.out).mono ?_); rintro e w42 ⟨rfl, hb⟩; refine ⟨_, rfl, ?_⟩; replace BK136 := Sd.mk (blk_below (bkA BK136.out) hb); replace BK141 := Sd.mk (blk_below (bkA BK141.out) hb); replace HB := Sd.mk (below_step (bBl HB.out) hb); (try clear hb); (try clear hb2); (try clear hk); (try clear hi)))
               go_roundg k2
               case measure => have := HJ5.out; have := HK2.out; omega
               case rel => exact ⟨(wrap64 (x372 + 1)), tS, H', ⟨by have := HJ5.out; have := HK2.out; omega⟩, ⟨bkA BK136.out⟩, ⟨bBl HB.out⟩⟩
              ·rw [if_neg c34] at H
               have c34b0 : (t144 == 0) = false := beq_eq_false_iff_ne.mpr c34
               have c34b1 : (t144 != 0) = true := bne_iff_ne.mpr c34
               obtain rfl := Option.some.inj H
               have p140 : 0 ≤ (x372 : Int) := tB
               have q140 : x372 < (l03.length : Int) := tB
               obtain ⟨ad140, A1401, c1401, e140, hx1400, hx1401, hx1402, hx1403, hl1401, hi1401⟩ := at_T89 HR03.out x372 p140 q140; cases e140; replace hx1400 := cU HB hx1400; replace hx1401 := cU HB hx1401; replace hx1402 := cU HB hx1402; replace hx1403 := cU HB hx1403; have HR1401 := Sd.mk hi1401; have HC1401 := Sd.mk hl1401; clear hi1401 hl1401; replace p140 := eq_true p140; replace q140 := eq_true q140
               go_wp2_with (first | ((with_reducible refine gate_dst (N := 6) rfl ?_); refine box_event ?hg (N := 6) ?hd (cs := #[.string (⟨#[]⟩ : ByteArray), .slice none 0 0, .int .i64 0, .int .i64 0]) (t := 89) ?hr ?_; (case hd => rfl); (case hg => rfl); (case hr => exact tG); intro gb141 hg w43 hbox hb; have BK141 := Sd.mk (hbox); have GW141 := Sd.mk (bSz hg (bBl HB.out)); have GE141 := Sd.mk (bSz hg (bBl HB.out)); replace HB := Sd.mk (below_step (bBl HB.out) hb); have NB136141 := Sd.mk (bNl hg (bkA BK136.out)); have NB141136 := Sd.mk (bNg hg (bkA BK136.out)); replace BK136 := Sd.mk (blk_below (bkA BK136.out) hb); clear hb hbox hg; have hnb44 := NB141136.out; have hnc44 := NB136141.out; obtain ⟨u45_0, u45_1, u45_2, u45_3, o450, o451, o452, o453⟩ := bc4 (w := w43) BK141.out) | ((with_reducible refine gate_callee (f := 102) rfl ?_); refine goesL_ (some 45) rfl rfl Tryz.func102 (by kernel_rfl) rfl #[.string ((rd_T89 l03 x372).f0)] rfl tM ?_; (with_reducible refine (b_name.calls k2 ((rd_T89 l03 x372).f0) true _ A24.out).mono ?_); rintro e w' ⟨rfl, ⟨nd, rfl⟩⟩; refine ⟨_, rfl, ?_⟩; obtain ⟨u46_0, u46_1, u46_2, u46_3, u46_4, u46_5, u46_6, o460, o461, o462, o463, o464, o465, o466⟩ := bc7 (w := w43) BK136.out) | ((with_reducible refine gate_callee (f := 103) rfl ?_); refine goesL_ (some 51) rfl rfl Tryz.func103 (by kernel_rfl) rfl #[.slice (some ad140) l03.length c03, .int .i64 x372, .func (.func 104) #[] #[]] rfl tM ?_; (with_reducible refine (x_twiceP.calls _ _ l03 x372 false _ (Kd.C_below HR03.out (bBl HB.out)) HC03.out A26.out).mono ?_); rintro e w47 ⟨rfl, hb⟩; refine ⟨_, rfl, ?_⟩; replace BK136 := Sd.mk (blk_below (g := gb136) (o := .cells #[.slice A00 l00.length c00, .slice A01 l01.length c01, .slice A02 l02.length c02, .slice (some ad140) l03.length c03, .int .i64 a04, .int .i64 a05, .int .i64 a06] 29 (0, 0)) (by refine bkZ ?_; refine blk_far ?_ NB136141.out _; refine bkZ ?_; refine blk_far ?_ NB136141.out _; refine bkZ ?_; refine blk_far ?_ NB136141.out _; refine bkZ ?_; refine blk_far ?_ NB136141.out _; refine bkZ ?_; exact BK136.out) hb); replace BK141 := Sd.mk (blk_below (g := gb141) (o := .cells #[.string ((rd_T89 l03 x372).f0), .slice A1401 ((rd_T89 l03 x372).f1).length c1401, .int .i64 ((rd_T89 l03 x372).f2.f0), .int .i64 ((rd_T89 l03 x372).f2.f1)] 89 (0, 0)) (by refine bkZ ?_; refine blk_put (cs := #[.string ((rd_T89 l03 x372).f0), .slice A1401 ((rd_T89 l03 x372).f1).length c1401, .int .i64 ((rd_T89 l03 x372).f2.f0), .int .i64 0]) ?_ 3 _ rfl; refine bkZ ?_; refine blk_put (cs := #[.string ((rd_T89 l03 x372).f0), .slice A1401 ((rd_T89 l03 x372).f1).length c1401, .int .i64 0, .int .i64 0]) ?_ 2 _ rfl; refine bkZ ?_; refine blk_put (cs := #[.string ((rd_T89 l03 x372).f0), .slice none 0 0, .int .i64 0, .int .i64 0]) ?_ 1 _ rfl; refine bkZ ?_; refine blk_put (cs := #[.string (⟨#[]⟩ : ByteArray), .slice none 0 0, .int .i64 0, .int .i64 0]) ?_ 0 _ rfl; refine bkZ ?_; exact BK141.out) hb); replace HB := Sd.mk (below_step (bBl HB.out) hb); (try clear hb); (try clear hb2); (try clear hk); (try clear hi); obtain ⟨u48_0, u48_1, u48_2, u48_3, u48_4, u48_5, u48_6, o480, o481, o482, o483, o484, o485, o486⟩ := bc7 (w := w47) BK136.out; obtain ⟨u49_0, u49_1, u49_2, u49_3, o490, o491, o492, o493⟩ := bc4 (w := w47) BK141.out) | ((with_reducible refine gate_callee (f := 105) rfl ?_); refine goesL_ (some 54) rfl rfl Tryz.func105 (by kernel_rfl) rfl #[.agg #[.slice A00 l00.length c00, .slice A01 l01.length c01, .slice A02 l02.length c02, .slice (some ad140) l03.length c03, .int .i64 a04, .int .i64 a05, .int .i64 a06], .agg #[.string ((rd_T89 l03 x372).f0), .slice A1401 ((rd_T89 l03 x372).f1).length c1401, .int .i64 ((rd_T89 l03 x372).f2.f0), .int .i64 ((rd_T89 l03 x372).f2.f1)]] rfl tM ?_; (with_reducible refine (b_checkProperty.calls _ _ l00 _ _ l01 _ _ l02 _ _ l03 a04 a05 a06 ((rd_T89 l03 x372).f0) _ _ ((rd_T89 l03 x372).f1) ((rd_T89 l03 x372).f2.f0) ((rd_T89 l03 x372).f2.f1) t144 _ (cS (Kd.C_below HR00.out HB.out)) HC00.out (cS (Kd.C_below HR01.out HB.out)) HC01.out (cS (Kd.C_below HR02.out HB.out)) HC02.out (cS (Kd.C_below HR03.out HB.out)) HC03.out (cS (Kd.C_below HR1401.out HB.out)) HC1401.out A33.out).mono ?_); rintro e w50 ⟨rfl, hb⟩; refine ⟨_, rfl, ?_⟩; replace BK136 := Sd.mk (blk_below (bkA BK136.out) hb); replace BK141 := Sd.mk (blk_below (bkA BK141.out) hb); replace HB := Sd.mk (below_step (bBl HB.out) hb); (try clear hb); (try clear hb2); (try clear hk); (try clear hi)))
               go_ret
               exact ⟨tE, bBl HB.out⟩
            ·replace c25 := Bool.eq_false_iff.mpr c25
             subst c25
             have H1 : (some 5) = some r := by rw [if_neg (show ¬ (false = true) by decide)] at H; exact H
             clear H; have H := H1; clear H1; obtain rfl := Option.some.inj H
             have p140 : 0 ≤ (x372 : Int) := tB
             have q140 : x372 < (l03.length : Int) := tB
             obtain ⟨ad140, A1401, c1401, e140, hx1400, hx1401, hx1402, hx1403, hl1401, hi1401⟩ := at_T89 HR03.out x372 p140 q140; cases e140; replace hx1400 := cU HB hx1400; replace hx1401 := cU HB hx1401; replace hx1402 := cU HB hx1402; replace hx1403 := cU HB hx1403; have HR1401 := Sd.mk hi1401; have HC1401 := Sd.mk hl1401; clear hi1401 hl1401; replace p140 := eq_true p140; replace q140 := eq_true q140
             go_wp2_with (first | ((with_reducible refine gate_dst (N := 6) rfl ?_); refine box_event ?hg (N := 6) ?hd (cs := #[.string (⟨#[]⟩ : ByteArray), .slice none 0 0, .int .i64 0, .int .i64 0]) (t := 89) ?hr ?_; (case hd => rfl); (case hg => rfl); (case hr => exact tG); intro gb141 hg w51 hbox hb; have BK141 := Sd.mk (hbox); have GW141 := Sd.mk (bSz hg (bBl HB.out)); have GE141 := Sd.mk (bSz hg (bBl HB.out)); replace HB := Sd.mk (below_step (bBl HB.out) hb); have NB136141 := Sd.mk (bNl hg (bkA BK136.out)); have NB141136 := Sd.mk (bNg hg (bkA BK136.out)); replace BK136 := Sd.mk (blk_below (bkA BK136.out) hb); clear hb hbox hg; have hnb52 := NB141136.out; have hnc52 := NB136141.out; obtain ⟨u53_0, u53_1, u53_2, u53_3, o530, o531, o532, o533⟩ := bc4 (w := w51) BK141.out) | ((with_reducible refine gate_callee (f := 102) rfl ?_); refine goesL_ (some 45) rfl rfl Tryz.func102 (by kernel_rfl) rfl #[.string ((rd_T89 l03 x372).f0)] rfl tM ?_; (with_reducible refine (b_name.calls k2 ((rd_T89 l03 x372).f0) false _ A24.out).mono ?_); rintro e w' ⟨rfl, ⟨nd, rfl⟩⟩; refine ⟨_, rfl, ?_⟩))
             go_ret
             exact ⟨tE, bBl HB.out⟩
           ·rw [if_neg c23] at H
            exact absurd H (by simp)
          ·rw [if_neg c22] at H
           exact absurd H (by simp)
         ·rw [if_neg c21] at H
          have c21b0 : decide (x372 < (l03.length : Int)) = false := decide_eq_false c21
          clear c21; replace H := Option.bind_eq_some_iff.mp H; obtain ⟨t145, A540, H⟩ := H
          try dsimp only at H
          have A54 := Sd.mk A540; clear A540
          by_cases c55 : t145 = true
          ·subst c55
           have H1 : ((b_within.f a06 1 10000).bind fun t146 => (if t146 = true then (some 0) else (some 1))) = some r := by rw [if_pos rfl] at H; exact H
           clear H; have H := H1; clear H1; replace H := Option.bind_eq_some_iff.mp H; obtain ⟨t146, A560, H⟩ := H
           try dsimp only at H
           have A56 := Sd.mk A560; clear A560
           by_cases c57 : t146 = true
           ·subst c57
            have H1 : (some 0) = some r := by rw [if_pos rfl] at H; exact H
            clear H; have H := H1; clear H1; obtain rfl := Option.some.inj H; obtain ⟨u58_0, u58_1, u58_2, u58_3, u58_4, u58_5, u58_6, o580, o581, o582, o583, o584, o585, o586⟩ := bc7 (w := wr) BK136.out
            go_wp2_with (first | ((with_reducible refine gate_callee (f := 101) rfl ?_); refine goesL_ (some 61) rfl rfl Tryz.func101 (by kernel_rfl) rfl #[.agg #[.int .i64 a04, .int .i64 a05], .int .i64 (-10000), .int .i64 10000] rfl tM ?_; (with_reducible refine (b_span.calls a04 a05 (-10000) 10000 true _ A54.out).mono ?_); rintro e w59 ⟨rfl, hb⟩; refine ⟨_, rfl, ?_⟩; replace BK136 := Sd.mk (blk_below (bkA BK136.out) hb); replace HB := Sd.mk (below_step (bBl HB.out) hb); (try clear hb); (try clear hb2); (try clear hk); (try clear hi); obtain ⟨u60_0, u60_1, u60_2, u60_3, u60_4, u60_5, u60_6, o600, o601, o602, o603, o604, o605, o606⟩ := bc7 (w := w59) BK136.out) | (go_at_call 56; (with_reducible refine (b_within.calls a06 1 10000 true _ A56.out).mono ?_); rintro e w' ⟨rfl, ⟨nd, rfl⟩⟩))
            go_ret
            exact ⟨tE, bBl HB.out⟩
           ·replace c57 := Bool.eq_false_iff.mpr c57
            subst c57
            have H1 : (some 1) = some r := by rw [if_neg (show ¬ (false = true) by decide)] at H; exact H
            clear H; have H := H1; clear H1; obtain rfl := Option.some.inj H; obtain ⟨u61_0, u61_1, u61_2, u61_3, u61_4, u61_5, u61_6, o610, o611, o612, o613, o614, o615, o616⟩ := bc7 (w := wr) BK136.out
            go_wp2_with (first | ((with_reducible refine gate_callee (f := 101) rfl ?_); refine goesL_ (some 61) rfl rfl Tryz.func101 (by kernel_rfl) rfl #[.agg #[.int .i64 a04, .int .i64 a05], .int .i64 (-10000), .int .i64 10000] rfl tM ?_; (with_reducible refine (b_span.calls a04 a05 (-10000) 10000 true _ A54.out).mono ?_); rintro e w62 ⟨rfl, hb⟩; refine ⟨_, rfl, ?_⟩; replace BK136 := Sd.mk (blk_below (bkA BK136.out) hb); replace HB := Sd.mk (below_step (bBl HB.out) hb); (try clear hb); (try clear hb2); (try clear hk); (try clear hi); obtain ⟨u63_0, u63_1, u63_2, u63_3, u63_4, u63_5, u63_6, o630, o631, o632, o633, o634, o635, o636⟩ := bc7 (w := w62) BK136.out) | (go_at_call 56; (with_reducible refine (b_within.calls a06 1 10000 false _ A56.out).mono ?_); rintro e w' ⟨rfl, ⟨nd, rfl⟩⟩))
            go_ret
            exact ⟨tE, bBl HB.out⟩
          ·replace c55 := Bool.eq_false_iff.mpr c55
           subst c55
           have H1 : (some 1) = some r := by rw [if_neg (show ¬ (false = true) by decide)] at H; exact H
           clear H; have H := H1; clear H1; obtain rfl := Option.some.inj H; obtain ⟨u64_0, u64_1, u64_2, u64_3, u64_4, u64_5, u64_6, o640, o641, o642, o643, o644, o645, o646⟩ := bc7 (w := wr) BK136.out
           go_wp2_with (first | ((with_reducible refine gate_callee (f := 101) rfl ?_); refine goesL_ (some 61) rfl rfl Tryz.func101 (by kernel_rfl) rfl #[.agg #[.int .i64 a04, .int .i64 a05], .int .i64 (-10000), .int .i64 10000] rfl tM ?_; (with_reducible refine (b_span.calls a04 a05 (-10000) 10000 false _ A54.out).mono ?_); rintro e w65 ⟨rfl, hb⟩; refine ⟨_, rfl, ?_⟩; replace BK136 := Sd.mk (blk_below (bkA BK136.out) hb); replace HB := Sd.mk (below_step (bBl HB.out) hb); (try clear hb); (try clear hb2); (try clear hk); (try clear hi)))
           go_ret
           exact ⟨tE, bBl HB.out⟩
  ·rw [if_neg c5] at H
   have c5b0 : (t138 == 0) = false := beq_eq_false_iff_ne.mpr c5
   have c5b1 : (t138 != 0) = true := bne_iff_ne.mpr c5
   obtain rfl := Option.some.inj H
   go_enter Tryz.func34, Tryz.ntmps34
   go_wp2_with (first | ((with_reducible refine gate_dst (N := 1) rfl ?_); refine box_event ?hg (N := 1) ?hd (cs := #[.slice A00 l00.length c00, .slice A01 l01.length c01, .slice A02 l02.length c02, .slice A03 l03.length c03, .int .i64 a04, .int .i64 a05, .int .i64 a06]) (t := 29) ?hr ?_; (case hd => rfl); (case hg => rfl); (case hr => exact tG); intro gb136 hg w66 hbox hb; have BK136 := Sd.mk (hbox); have GW136 := Sd.mk (bSz hg (bBl HB.out)); have GE136 := Sd.mk (bSz hg (bBl HB.out)); replace HB := Sd.mk (below_step (bBl HB.out) hb); clear hb hbox hg; obtain ⟨u67_0, u67_1, u67_2, u67_3, u67_4, u67_5, u67_6, o670, o671, o672, o673, o674, o675, o676⟩ := bc7 (w := w66) BK136.out) | ((with_reducible refine gate_callee (f := 97) rfl ?_); refine goesL_ (some 9) rfl rfl Tryz.func97 (by kernel_rfl) rfl #[.agg #[.slice A00 l00.length c00, .slice A01 l01.length c01, .slice A02 l02.length c02, .slice A03 l03.length c03, .int .i64 a04, .int .i64 a05, .int .i64 a06]] rfl tM ?_; (with_reducible refine (b_checkOxides.calls k _ _ l00 _ _ l01 _ _ l02 _ _ l03 a04 a05 a06 t137 _ (cS (Kd.C_below HR00.out HB.out)) HC00.out (cS (Kd.C_below HR01.out HB.out)) HC01.out (cS (Kd.C_below HR02.out HB.out)) HC02.out (cS (Kd.C_below HR03.out HB.out)) HC03.out A2.out).mono ?_); rintro e w68 ⟨rfl, hb⟩; refine ⟨_, rfl, ?_⟩; replace BK136 := Sd.mk (blk_below (bkA BK136.out) hb); replace HB := Sd.mk (below_step (bBl HB.out) hb); (try clear hb); (try clear hb2); (try clear hk); (try clear hi); obtain ⟨u69_0, u69_1, u69_2, u69_3, u69_4, u69_5, u69_6, o690, o691, o692, o693, o694, o695, o696⟩ := bc7 (w := w68) BK136.out) | ((with_reducible refine gate_callee (f := 98) rfl ?_); refine goesL_ (some 14) rfl rfl Tryz.func98 (by kernel_rfl) rfl #[.agg #[.slice A00 l00.length c00, .slice A01 l01.length c01, .slice A02 l02.length c02, .slice A03 l03.length c03, .int .i64 a04, .int .i64 a05, .int .i64 a06]] rfl tM ?_; (with_reducible refine (b_checkMaterials.calls k _ _ l00 _ _ l01 _ _ l02 _ _ l03 a04 a05 a06 t138 _ (cS (Kd.C_below HR00.out HB.out)) HC00.out (cS (Kd.C_below HR01.out HB.out)) HC01.out (cS (Kd.C_below HR02.out HB.out)) HC02.out (cS (Kd.C_below HR03.out HB.out)) HC03.out A4.out).mono ?_); rintro e w70 ⟨rfl, hb⟩; refine ⟨_, rfl, ?_⟩; replace BK136 := Sd.mk (blk_below (bkA BK136.out) hb); replace HB := Sd.mk (below_step (bBl HB.out) hb); (try clear hb); (try clear hb2); (try clear hk); (try clear hi)))
   go_ret
   exact ⟨tE, bBl HB.out⟩
 ·rw [if_neg c3] at H
  have c3b0 : (t137 == 0) = false := beq_eq_false_iff_ne.mpr c3
  have c3b1 : (t137 != 0) = true := bne_iff_ne.mpr c3
  obtain rfl := Option.some.inj H
  go_enter Tryz.func34, Tryz.ntmps34
  go_wp2_with (first | ((with_reducible refine gate_dst (N := 1) rfl ?_); refine box_event ?hg (N := 1) ?hd (cs := #[.slice A00 l00.length c00, .slice A01 l01.length c01, .slice A02 l02.length c02, .slice A03 l03.length c03, .int .i64 a04, .int .i64 a05, .int .i64 a06]) (t := 29) ?hr ?_; (case hd => rfl); (case hg => rfl); (case hr => exact tG); intro gb136 hg w71 hbox hb; have BK136 := Sd.mk (hbox); have GW136 := Sd.mk (bSz hg (bBl HB.out)); have GE136 := Sd.mk (bSz hg (bBl HB.out)); replace HB := Sd.mk (below_step (bBl HB.out) hb); clear hb hbox hg; obtain ⟨u72_0, u72_1, u72_2, u72_3, u72_4, u72_5, u72_6, o720, o721, o722, o723, o724, o725, o726⟩ := bc7 (w := w71) BK136.out) | ((with_reducible refine gate_callee (f := 97) rfl ?_); refine goesL_ (some 9) rfl rfl Tryz.func97 (by kernel_rfl) rfl #[.agg #[.slice A00 l00.length c00, .slice A01 l01.length c01, .slice A02 l02.length c02, .slice A03 l03.length c03, .int .i64 a04, .int .i64 a05, .int .i64 a06]] rfl tM ?_; (with_reducible refine (b_checkOxides.calls k _ _ l00 _ _ l01 _ _ l02 _ _ l03 a04 a05 a06 t137 _ (cS (Kd.C_below HR00.out HB.out)) HC00.out (cS (Kd.C_below HR01.out HB.out)) HC01.out (cS (Kd.C_below HR02.out HB.out)) HC02.out (cS (Kd.C_below HR03.out HB.out)) HC03.out A2.out).mono ?_); rintro e w73 ⟨rfl, hb⟩; refine ⟨_, rfl, ?_⟩; replace BK136 := Sd.mk (blk_below (bkA BK136.out) hb); replace HB := Sd.mk (below_step (bBl HB.out) hb); (try clear hb); (try clear hb2); (try clear hk); (try clear hi)))
  go_ret
  exact ⟨tE, bBl HB.out⟩
end
section
def proC (n : Nat) (x : S89) : Int := if x.f1.length = n then (if x.f1.any (outside (-10000) 10000) = true then 1 else if -10000 ≤ x.f2.f0 ∧ x.f2.f0 ≤ x.f2.f1 ∧ x.f2.f1 ≤ 10000 then 0 else 1) else 1
def proE (p : List S89) (n : Nat) : Nat → Nat → Int
 | 0, _ => 0
 | m + 1, i => if nameOk (rd_T89 p (i : Int)).f0 = true then (if ((p.take i).any fun x => x.f0.toList == (rd_T89 p (i : Int)).f0.toList) = true then 6 else (if proC n (rd_T89 p (i : Int)) = 0 then proE p n m (i + 1) else proC n (rd_T89 p (i : Int)))) else 5
def matE (mt : List S70) (n : Nat) : Nat → Nat → Int
 | 0, _ => 0
 | m + 1, i => if nameOk (rd_T70 mt (i : Int)).f0 = true then (if ((mt.take i).any fun x => x.f0.toList == (rd_T70 mt (i : Int)).f0.toList) = true then 6 else (if matC n (rd_T70 mt (i : Int)) = 0 then matE mt n m (i + 1) else matC n (rd_T70 mt (i : Int)))) else 5
theorem rwithin_f (a b lo hi : Int) : rf_within.f a b lo hi = some (decide (lo ≤ a) && decide (a ≤ b) && decide (b ≤ hi)) := by
 rw [← span_f]; rfl
section
variable (o : List ByteArray) (mt : List S70) (s : List S27) (p : List S89) (a4 a5 a6 : Int)
theorem bpro (x : S89) : Ev (fun _ => b_checkProperty.f o mt s p a4 a5 a6 x.f0 x.f1 x.f2.f0 x.f2.f1) (proC o.length x) := by
 unfold b_checkProperty.f proC
 by_cases h : x.f1.length = o.length
 ·simp only [if_pos h, if_pos (show (x.f1.length : Int) = (o.length : Int) by omega), x_coefs.f, Option.bind_some, span_f, Bool.and_eq_true, decide_eq_true_eq]
  by_cases h' : x.f1.any (outside (-10000) 10000) = true
  ·simp only [if_pos h']; exact Ev.const _
  ·simp only [if_neg h']
   by_cases h2 : -10000 ≤ x.f2.f0 ∧ x.f2.f0 ≤ x.f2.f1 ∧ x.f2.f1 ≤ 10000
   ·rw [if_pos (by omega), if_pos h2]; exact Ev.const _
   ·rw [if_neg (by omega), if_neg h2]; exact Ev.const _
 ·simp only [if_neg h, if_neg (show ¬ (x.f1.length : Int) = (o.length : Int) by omega)]; exact Ev.const _
theorem rpro_l0 (n : ByteArray) (l : List Int) (t0 t1 : Int) (hl : l.length ≤ 12) : ∀ (m i : Nat), i + m = l.length → Ev (fun k => rf_property.l0 k (i : Int) n l t0 t1) (if (l.drop i).any (outside (-10000) 10000) = true then 1 else if -10000 ≤ t0 ∧ t0 ≤ t1 ∧ t1 ≤ 10000 then 0 else 1)
 | 0, i, hi => by
  apply Ev.step
  simp only [rf_property.l0, if_neg (show ¬ (i : Int) < (l.length : Int) by omega), rwithin_f, Option.bind_some, Bool.and_eq_true, decide_eq_true_eq]
  have h3 : (l.drop i).any (outside (-10000) 10000) = false := by rw [List.drop_eq_nil_of_le (by omega)]; rfl
  rw [h3]
  by_cases h2 : -10000 ≤ t0 ∧ t0 ≤ t1 ∧ t1 ≤ 10000
  ·have h2' : (-10000 ≤ t0 ∧ t0 ≤ t1) ∧ t1 ≤ 10000 := by omega
   simp only [if_pos h2', if_pos h2, Bool.false_eq_true, if_false]; exact Ev.const _
  ·have h2' : ¬ ((-10000 ≤ t0 ∧ t0 ≤ t1) ∧ t1 ≤ 10000) := by omega
   simp only [if_neg h2', if_neg h2, Bool.false_eq_true, if_false]; exact Ev.const _
 | m + 1, i, hi => by
  have ih := rpro_l0 n l t0 t1 hl m (i + 1) (by omega)
  have hlt : i < l.length := by omega
  have hr : rd l (i : Int) = l[i] := by simp [rd, hlt]
  apply Ev.step
  simp only [rf_property.l0, if_pos (show (i : Int) < (l.length : Int) by omega), if_pos (i_pos i), wrap_succ (i_pos i) (show (i : Int) ≤ 1000000000 by omega), hr]
  rw [List.drop_eq_getElem_cons hlt, List.any_cons]
  by_cases h1 : l[i] < -10000
  ·simp only [if_pos h1]
   have hb : outside (-10000) 10000 l[i] = true := by simp [outside]; omega
   exact (Ev.const _).cast (by rw [hb]; rfl)
  ·simp only [if_neg h1]
   by_cases h2 : l[i] > 10000
   ·simp only [if_pos h2]
    have hb : outside (-10000) 10000 l[i] = true := by simp [outside]; omega
    exact (Ev.const _).cast (by rw [hb]; rfl)
   ·simp only [if_neg h2]
    have hb : outside (-10000) 10000 l[i] = false := by simp [outside]; omega
    exact ih.cast (by rw [hb, Bool.false_or])
theorem rpro (ho : o.length ≤ 12) (x : S89) : Ev (fun k => rf_property.f k o mt s p a4 a5 a6 x.f0 x.f1 x.f2.f0 x.f2.f1) (proC o.length x) := by
 unfold rf_property.f proC
 by_cases h : x.f1.length = o.length
 ·simp only [if_pos h, if_pos (show (x.f1.length : Int) = (o.length : Int) by omega)]
  exact (rpro_l0 x.f0 x.f1 x.f2.f0 x.f2.f1 (by omega) x.f1.length 0 (by omega)).cast (by rw [List.drop_zero])
 ·simp only [if_neg h, if_neg (show ¬ (x.f1.length : Int) = (o.length : Int) by omega)]; exact Ev.const _
theorem bmats_l0 (ho : o.length ≤ 12) (hm : mt.length ≤ 12) : ∀ (m i : Nat), i + m = mt.length → Ev (fun k => b_checkMaterials.l0 k mt (mt.length : Int) (i : Int) o mt s p a4 a5 a6) (matE mt o.length m i)
 | 0, i, hi => by
  apply Ev.step
  simp only [b_checkMaterials.l0, if_neg (show ¬ (i : Int) < (mt.length : Int) by omega)]
  exact Ev.const _
 | m + 1, i, hi => by
  have ih := bmats_l0 ho hm m (i + 1) (by omega)
  apply Ev.step
  simp only [b_checkMaterials.l0, if_pos (show (i : Int) < (mt.length : Int) by omega), if_pos (i_pos i), wrap_succ (i_pos i) (show (i : Int) ≤ 1000000000 by omega), x_twiceM.f, Int.toNat_natCast, Option.bind_some]
  refine Ev.bind (bname _) ?_
  unfold matE
  by_cases h : nameOk (rd_T70 mt (i : Int)).f0 = true
  ·simp only [if_pos h]
   by_cases h' : ((mt.take i).any fun x => x.f0.toList == (rd_T70 mt (i : Int)).f0.toList) = true
   ·simp only [if_pos h']; exact Ev.const _
   ·simp only [if_neg h']
    refine Ev.bind (bmat o mt s p a4 a5 a6 ho _) ?_
    by_cases h2 : matC o.length (rd_T70 mt (i : Int)) = 0
    ·simp only [if_pos h2]; exact ih
    ·simp only [if_neg h2]; exact Ev.const _
  ·simp only [if_neg h]; exact Ev.const _
theorem bmats (ho : o.length ≤ 12) : Ev (fun k => b_checkMaterials.f k o mt s p a4 a5 a6) (if mt.length > 12 then 3 else if mt.length = 0 then 1 else matE mt o.length mt.length 0) := by
 unfold b_checkMaterials.f
 by_cases h : mt.length > 12
 ·simp only [if_pos h, if_pos (show (mt.length : Int) > 12 by omega)]; exact Ev.const _
 ·by_cases h' : mt.length = 0
  ·simp only [if_neg h, if_neg (show ¬ (mt.length : Int) > 12 by omega), if_pos h', if_pos (show (mt.length : Int) = 0 by omega)]; exact Ev.const _
  ·simp only [if_neg h, if_neg (show ¬ (mt.length : Int) > 12 by omega), if_neg h', if_neg (show ¬ (mt.length : Int) = 0 by omega)]
   exact bmats_l0 o mt s p a4 a5 a6 ho (by omega) mt.length 0 (by omega)
theorem rmats_l1 (ho : o.length ≤ 12) (hm : mt.length ≤ 12) (R : Int) (hR : Ev (fun k => if (s.length : Int) = (o.length : Int) then rf_Check.l2 k 0 o mt s p a4 a5 a6 else some 1) R) :
  ∀ (m i : Nat), i + m = mt.length → Ev (fun k => rf_Check.l1 k ((mt.take i).map (·.f0)) (i : Int) o mt s p a4 a5 a6) (if matE mt o.length m i = 0 then R else matE mt o.length m i)
 | 0, i, hi => by
  apply Ev.step
  simp only [rf_Check.l1, if_neg (show ¬ (i : Int) < (mt.length : Int) by omega)]
  exact hR.cast (by simp [matE])
 | m + 1, i, hi => by
  have ih := rmats_l1 ho hm R hR m (i + 1) (by omega)
  have hlt : i < mt.length := by omega
  have hr : rd_T70 mt (i : Int) = mt[i] := by simp [rd_T70, hlt]
  have htk : (mt.take i).map (·.f0) ++ [(rd_T70 mt (i : Int)).f0] = (mt.take (i + 1)).map (·.f0) := by
   rw [hr, List.take_succ_eq_append_getElem hlt, List.map_append]; rfl
  apply Ev.step
  simp only [rf_Check.l1, if_pos (show (i : Int) < (mt.length : Int) by omega), if_pos (i_pos i), wrap_succ (i_pos i) (show (i : Int) ≤ 1000000000 by omega), htk]
  refine Ev.bind (rname _) ?_
  unfold matE
  by_cases h : nameOk (rd_T70 mt (i : Int)).f0 = true
  ·simp only [if_pos h]
   have hany : (((mt.take i).map (·.f0)).any fun y => y.toList == (rd_T70 mt (i : Int)).f0.toList) = ((mt.take i).any fun x => x.f0.toList == (rd_T70 mt (i : Int)).f0.toList) := by rw [List.any_map]; rfl
   refine Ev.bind (rin _ _ (by simp; omega)) ?_
   rw [hany]
   by_cases h' : ((mt.take i).any fun x => x.f0.toList == (rd_T70 mt (i : Int)).f0.toList) = true
   ·simp only [if_pos h']; exact (Ev.const _).cast (by simp)
   ·simp only [if_neg h']
    have hlt8 : ((mt.take i).map (·.f0)).length < 8796093022208 := by rw [List.length_map, List.length_take]; omega
    simp only [if_pos hlt8]
    refine Ev.bind (rmat o mt s p a4 a5 a6 ho _) ?_
    by_cases h2 : matC o.length (rd_T70 mt (i : Int)) = 0
    ·simp only [if_pos h2]; exact ih
    ·simp only [if_neg h2]; exact Ev.const _
  ·simp only [if_neg h]; exact (Ev.const _).cast (by simp)
theorem bpros_l0 (hp : p.length ≤ 6) (R : Int) (hR : Ev (fun _ => (b_span.f a4 a5 (-10000) 10000).bind fun t147 => (if t147 = true then ((b_within.f a6 1 10000).bind fun t148 => (if t148 = true then (some 0) else (some 1))) else (some 1))) R) :
  ∀ (m i : Nat), i + m = p.length → Ev (fun k => b_Check.l0 k p (p.length : Int) (i : Int) o mt s p a4 a5 a6) (if proE p o.length m i = 0 then R else proE p o.length m i)
 | 0, i, hi => by
  apply Ev.step
  simp only [b_Check.l0, if_neg (show ¬ (i : Int) < (p.length : Int) by omega)]
  exact hR.cast (by simp [proE])
 | m + 1, i, hi => by
  have ih := bpros_l0 hp R hR m (i + 1) (by omega)
  apply Ev.step
  simp only [b_Check.l0, if_pos (show (i : Int) < (p.length : Int) by omega), if_pos (i_pos i), wrap_succ (i_pos i) (show (i : Int) ≤ 1000000000 by omega), x_twiceP.f, Int.toNat_natCast, Option.bind_some]
  refine Ev.bind (bname _) ?_
  unfold proE
  by_cases h : nameOk (rd_T89 p (i : Int)).f0 = true
  ·simp only [if_pos h]
   by_cases h' : ((p.take i).any fun x => x.f0.toList == (rd_T89 p (i : Int)).f0.toList) = true
   ·simp only [if_pos h']; exact (Ev.const _).cast (by simp)
   ·simp only [if_neg h']
    refine Ev.bind (bpro o mt s p a4 a5 a6 _) ?_
    by_cases h2 : proC o.length (rd_T89 p (i : Int)) = 0
    ·simp only [if_pos h2]; exact ih
    ·simp only [if_neg h2]; exact Ev.const _
  ·simp only [if_neg h]; exact (Ev.const _).cast (by simp)
theorem rpros_l3 (ho : o.length ≤ 12) (hp : p.length ≤ 6) (R : Int) (hR : Ev (fun _ => (rf_within.f a4 a5 (-10000) 10000).bind fun t264 => (if t264 = true then (if a6 < 1 then (some 1) else (if a6 > 10000 then (some 1) else (some 0))) else (some 1))) R) :
  ∀ (m i : Nat), i + m = p.length → Ev (fun k => rf_Check.l3 k ((p.take i).map (·.f0)) (i : Int) o mt s p a4 a5 a6) (if proE p o.length m i = 0 then R else proE p o.length m i)
 | 0, i, hi => by
  apply Ev.step
  simp only [rf_Check.l3, if_neg (show ¬ (i : Int) < (p.length : Int) by omega)]
  exact hR.cast (by simp [proE])
 | m + 1, i, hi => by
  have ih := rpros_l3 ho hp R hR m (i + 1) (by omega)
  have hlt : i < p.length := by omega
  have hr : rd_T89 p (i : Int) = p[i] := by simp [rd_T89, hlt]
  have htk : (p.take i).map (·.f0) ++ [(rd_T89 p (i : Int)).f0] = (p.take (i + 1)).map (·.f0) := by
   rw [hr, List.take_succ_eq_append_getElem hlt, List.map_append]; rfl
  apply Ev.step
  simp only [rf_Check.l3, if_pos (show (i : Int) < (p.length : Int) by omega), if_pos (i_pos i), wrap_succ (i_pos i) (show (i : Int) ≤ 1000000000 by omega), htk]
  refine Ev.bind (rname _) ?_
  unfold proE
  by_cases h : nameOk (rd_T89 p (i : Int)).f0 = true
  ·simp only [if_pos h]
   have hany : (((p.take i).map (·.f0)).any fun y => y.toList == (rd_T89 p (i : Int)).f0.toList) = ((p.take i).any fun x => x.f0.toList == (rd_T89 p (i : Int)).f0.toList) := by rw [List.any_map]; rfl
   refine Ev.bind (rin _ _ (by simp; omega)) ?_
   rw [hany]
   by_cases h' : ((p.take i).any fun x => x.f0.toList == (rd_T89 p (i : Int)).f0.toList) = true
   ·simp only [if_pos h']; exact (Ev.const _).cast (by simp)
   ·simp only [if_neg h']
    have hlt8 : ((p.take i).map (·.f0)).length < 8796093022208 := by rw [List.length_map, List.length_take]; omega
    simp only [if_pos hlt8]
    refine Ev.bind (rpro o mt s p a4 a5 a6 ho _) ?_
    by_cases h2 : proC o.length (rd_T89 p (i : Int)) = 0
    ·simp only [if_pos h2]; exact ih
    ·simp only [if_neg h2]; exact Ev.const _
  ·simp only [if_neg h]; exact (Ev.const _).cast (by simp)
end
end
section
section
variable (o : List ByteArray) (mt : List S70) (s : List S27) (p : List S89) (a4 a5 a6 : Int)
def endV : Int := if -10000 ≤ a4 ∧ a4 ≤ a5 ∧ a5 ≤ 10000 then (if 1 ≤ a6 ∧ a6 ≤ 10000 then 0 else 1) else 1
def proV : Int := if p.length > 6 then 3 else if proE p o.length p.length 0 = 0 then endV a4 a5 a6 else proE p o.length p.length 0
def shaV : Int := if s.length = o.length then (if s.any badSpan = true then 1 else proV o p a4 a5 a6) else 1
def matV : Int := if mt.length > 12 then 3 else if mt.length = 0 then 1 else if matE mt o.length mt.length 0 = 0 then shaV o s p a4 a5 a6 else matE mt o.length mt.length 0
def checkV : Int := if o.length > 12 then 3 else if o.length = 0 then 1 else if oxE o o.length 0 = 0 then matV o mt s p a4 a5 a6 else oxE o o.length 0
theorem bend : Ev (fun _ => (b_span.f a4 a5 (-10000) 10000).bind fun t147 => (if t147 = true then ((b_within.f a6 1 10000).bind fun t148 => (if t148 = true then (some 0) else (some 1))) else (some 1))) (endV a4 a5 a6) := by
 simp only [span_f, within_f, Option.bind_some, Bool.and_eq_true, decide_eq_true_eq]
 unfold endV
 by_cases h2 : -10000 ≤ a4 ∧ a4 ≤ a5 ∧ a5 ≤ 10000
 ·have h2' : (-10000 ≤ a4 ∧ a4 ≤ a5) ∧ a5 ≤ 10000 := by omega
  simp only [if_pos h2', if_pos h2]
  by_cases h3 : 1 ≤ a6 ∧ a6 ≤ 10000
  ·simp only [if_pos h3]; exact Ev.const _
  ·simp only [if_neg h3]; exact Ev.const _
 ·have h2' : ¬ ((-10000 ≤ a4 ∧ a4 ≤ a5) ∧ a5 ≤ 10000) := by omega
  simp only [if_neg h2', if_neg h2]; exact Ev.const _
theorem rend : Ev (fun _ => (rf_within.f a4 a5 (-10000) 10000).bind fun t264 => (if t264 = true then (if a6 < 1 then (some 1) else (if a6 > 10000 then (some 1) else (some 0))) else (some 1))) (endV a4 a5 a6) := by
 simp only [rwithin_f, Option.bind_some, Bool.and_eq_true, decide_eq_true_eq]
 unfold endV
 by_cases h2 : -10000 ≤ a4 ∧ a4 ≤ a5 ∧ a5 ≤ 10000
 ·have h2' : (-10000 ≤ a4 ∧ a4 ≤ a5) ∧ a5 ≤ 10000 := by omega
  simp only [if_pos h2', if_pos h2]
  by_cases h3 : a6 < 1
  ·simp only [if_pos h3]; exact (Ev.const _).cast (by rw [if_neg]; omega)
  ·by_cases h4 : a6 > 10000
   ·simp only [if_neg h3, if_pos h4]; exact (Ev.const _).cast (by rw [if_neg]; omega)
   ·simp only [if_neg h3, if_neg h4]; exact (Ev.const _).cast (by rw [if_pos]; omega)
 ·have h2' : ¬ ((-10000 ≤ a4 ∧ a4 ≤ a5) ∧ a5 ≤ 10000) := by omega
  simp only [if_neg h2', if_neg h2]; exact Ev.const _
theorem bj0 (b : Bool) : Ev (fun k => b_Check.j0 k b o mt s p a4 a5 a6) (if b = true then 1 else proV o p a4 a5 a6) := by
 apply Ev.step
 simp only [b_Check.j0]
 cases b with
 | true => simp only [if_true]; exact Ev.const _
 | false =>
  simp only [Bool.false_eq_true, if_false]
  unfold proV
  by_cases h : p.length > 6
  ·simp only [if_pos h, if_pos (show (p.length : Int) > 6 by omega)]; exact Ev.const _
  ·simp only [if_neg h, if_neg (show ¬ (p.length : Int) > 6 by omega)]
   exact bpros_l0 o mt s p a4 a5 a6 (by omega) _ (bend a4 a5 a6) p.length 0 (by omega)
theorem bcheck : Ev (fun k => b_Check.f k o mt s p a4 a5 a6) (checkV o mt s p a4 a5 a6) := by
 unfold b_Check.f
 refine Ev.bind (box_f o mt s p a4 a5 a6) ?_
 unfold checkV
 by_cases h : o.length > 12
 ·simp only [if_pos h]; exact Ev.const _
 ·by_cases h' : o.length = 0
  ·simp only [if_neg h, if_pos h']; exact Ev.const _
  ·simp only [if_neg h, if_neg h']
   by_cases h2 : oxE o o.length 0 = 0
   ·simp only [if_pos h2]
    refine Ev.bind (bmats o mt s p a4 a5 a6 (by omega)) ?_
    unfold matV
    by_cases h3 : mt.length > 12
    ·simp only [if_pos h3]; exact Ev.const _
    ·by_cases h4 : mt.length = 0
     ·simp only [if_neg h3, if_pos h4]; exact Ev.const _
     ·simp only [if_neg h3, if_neg h4]
      by_cases h5 : matE mt o.length mt.length 0 = 0
      ·simp only [if_pos h5]
       unfold shaV
       by_cases h6 : s.length = o.length
       ·simp only [if_pos h6, if_pos (show (s.length : Int) = (o.length : Int) by omega), x_spans.f, Option.bind_some]
        exact bj0 o mt s p a4 a5 a6 _
       ·simp only [if_neg h6, if_neg (show ¬ (s.length : Int) = (o.length : Int) by omega)]
        exact (bj0 o mt s p a4 a5 a6 true).cast (by simp)
      ·simp only [if_neg h5]; exact Ev.const _
   ·simp only [if_neg h2]; exact Ev.const _
theorem rsha_l2 (ho : s.length ≤ 12) (P : Int) (hP : Ev (fun k => if (p.length : Int) > 6 then some 3 else rf_Check.l3 k [] 0 o mt s p a4 a5 a6) P) :
  ∀ (m i : Nat), i + m = s.length → Ev (fun k => rf_Check.l2 k (i : Int) o mt s p a4 a5 a6) (if (s.drop i).any badSpan = true then 1 else P)
 | 0, i, hi => by
  apply Ev.step
  simp only [rf_Check.l2, if_neg (show ¬ (i : Int) < (s.length : Int) by omega)]
  have h3 : (s.drop i).any badSpan = false := by rw [List.drop_eq_nil_of_le (by omega)]; rfl
  exact hP.cast (by rw [h3]; simp)
 | m + 1, i, hi => by
  have ih := rsha_l2 ho P hP m (i + 1) (by omega)
  have hlt : i < s.length := by omega
  have hr : rd_T27 s (i : Int) = s[i] := by simp [rd_T27, hlt]
  apply Ev.step
  simp only [rf_Check.l2, if_pos (show (i : Int) < (s.length : Int) by omega), if_pos (i_pos i), wrap_succ (i_pos i) (show (i : Int) ≤ 1000000000 by omega), rwithin_bad, Option.bind_some, hr]
  rw [List.drop_eq_getElem_cons hlt, List.any_cons]
  cases h : badSpan s[i] with
  | true => simp only [Bool.not_true, Bool.false_eq_true, if_false, Bool.true_or, if_true]; exact Ev.const _
  | false => simp only [Bool.not_false, if_true, Bool.false_or]; exact ih
theorem rcheck : Ev (fun k => rf_Check.f k o mt s p a4 a5 a6) (checkV o mt s p a4 a5 a6) := by
 unfold rf_Check.f checkV
 by_cases h : o.length > 12
 ·simp only [if_pos h, if_pos (show (o.length : Int) > 12 by omega)]; exact Ev.const _
 ·by_cases h' : o.length = 0
  ·simp only [if_neg h, if_neg (show ¬ (o.length : Int) > 12 by omega), if_pos h', if_pos (show (o.length : Int) = 0 by omega)]; exact Ev.const _
  ·simp only [if_neg h, if_neg (show ¬ (o.length : Int) > 12 by omega), if_neg h', if_neg (show ¬ (o.length : Int) = 0 by omega)]
   refine rox_l0 o mt s p a4 a5 a6 (by omega) _ ?_ o.length 0 (by omega)
   unfold matV
   by_cases h3 : mt.length > 12
   ·simp only [if_pos h3, if_pos (show (mt.length : Int) > 12 by omega)]; exact Ev.const _
   ·by_cases h4 : mt.length = 0
    ·simp only [if_neg h3, if_neg (show ¬ (mt.length : Int) > 12 by omega), if_pos h4, if_pos (show (mt.length : Int) = 0 by omega)]; exact Ev.const _
    ·simp only [if_neg h3, if_neg (show ¬ (mt.length : Int) > 12 by omega), if_neg h4, if_neg (show ¬ (mt.length : Int) = 0 by omega)]
     refine rmats_l1 o mt s p a4 a5 a6 (by omega) (by omega) _ ?_ mt.length 0 (by omega)
     unfold shaV
     by_cases h6 : s.length = o.length
     ·simp only [if_pos h6, if_pos (show (s.length : Int) = (o.length : Int) by omega)]
      refine (rsha_l2 o mt s p a4 a5 a6 (by omega) _ ?_ s.length 0 (by omega)).cast (by rw [List.drop_zero])
      unfold proV
      by_cases h7 : p.length > 6
      ·simp only [if_pos h7, if_pos (show (p.length : Int) > 6 by omega)]; exact Ev.const _
      ·simp only [if_neg h7, if_neg (show ¬ (p.length : Int) > 6 by omega)]
       exact rpros_l3 o mt s p a4 a5 a6 (by omega) (by omega) _ (rend a4 a5 a6) p.length 0 (by omega)
     ·simp only [if_neg h6, if_neg (show ¬ (s.length : Int) = (o.length : Int) by omega)]; exact Ev.const _
end
theorem conE_ok (l : List S27) : ∀ (m i : Nat) (acc : Int), i + m = l.length → conE l m i acc = 0 → ∀ j : Nat, i ≤ j → j < l.length → badSpan (rd_T27 l (j : Int)) = false
 | 0, i, acc, hi, h, j, h1, h2 => by omega
 | m + 1, i, acc, hi, h, j, h1, h2 => by
  unfold conE at h
  by_cases hb : badSpan (rd_T27 l (i : Int)) = true
  ·rw [if_pos hb] at h; omega
  ·rw [if_neg hb] at h
   by_cases hj : j = i
   ·subst hj; simpa using hb
   ·exact conE_ok l m (i + 1) _ (by omega) h j (by omega) h2
structure MatOk (n : Nat) (x : S70) : Prop where
 price : 0 ≤ x.f1 ∧ x.f1 ≤ 10000
 redox : -1000 ≤ x.f2 ∧ x.f2 ≤ 1000
 least : 0 ≤ x.f3 ∧ x.f3 ≤ 10000
 most : x.f3 ≤ x.f4 ∧ x.f4 ≤ 10000
 step : 1 ≤ x.f5 ∧ x.f5 ≤ 10000
 len : x.f6.length = n
 con : ∀ j : Nat, j < n → 0 ≤ (rd_T27 x.f6 (j : Int)).f0 ∧ (rd_T27 x.f6 (j : Int)).f0 ≤ (rd_T27 x.f6 (j : Int)).f1 ∧ (rd_T27 x.f6 (j : Int)).f1 ≤ 1000
theorem matC_ok {n : Nat} {x : S70} (h : matC n x = 0) : MatOk n x := by
 unfold matC at h
 by_cases hc : (0 ≤ x.f1 ∧ x.f1 ≤ 10000) ∧ (-1000 ≤ x.f2 ∧ x.f2 ≤ 1000) ∧ (0 ≤ x.f3 ∧ x.f3 ≤ 10000) ∧ (x.f3 ≤ x.f4 ∧ x.f4 ≤ 10000) ∧ (1 ≤ x.f5 ∧ x.f5 ≤ 10000) ∧ x.f6.length = n
 ·rw [if_pos hc] at h
  obtain ⟨h1, h2, h3, h4, h5, h6⟩ := hc
  exact ⟨h1, h2, h3, h4, h5, h6, fun j hj => bad_false (conE_ok x.f6 _ 0 0 (by omega) h j (by omega) (by omega))⟩
 ·rw [if_neg hc] at h; omega
theorem matE_ok (mt : List S70) (n : Nat) : ∀ (m i : Nat), matE mt n m i = 0 → ∀ j : Nat, i ≤ j → j < i + m → MatOk n (rd_T70 mt (j : Int))
 | 0, i, h, j, h1, h2 => by omega
 | m + 1, i, h, j, h1, h2 => by
  unfold matE at h
  by_cases ha : nameOk (rd_T70 mt (i : Int)).f0 = true
  ·rw [if_pos ha] at h
   by_cases hb : ((mt.take i).any fun x => x.f0.toList == (rd_T70 mt (i : Int)).f0.toList) = true
   ·rw [if_pos hb] at h; omega
   ·rw [if_neg hb] at h
    by_cases hc : matC n (rd_T70 mt (i : Int)) = 0
    ·rw [if_pos hc] at h
     by_cases hj : j = i
     ·subst hj; exact matC_ok hc
     ·exact matE_ok mt n m (i + 1) h j (by omega) (by omega)
    ·rw [if_neg hc] at h; exact absurd h hc
  ·rw [if_neg ha] at h; omega
structure ProOk (n : Nat) (x : S89) : Prop where
 len : x.f1.length = n
 coef : ∀ j : Nat, j < n → -10000 ≤ rd x.f1 (j : Int) ∧ rd x.f1 (j : Int) ≤ 10000
 target : -10000 ≤ x.f2.f0 ∧ x.f2.f0 ≤ x.f2.f1 ∧ x.f2.f1 ≤ 10000
theorem proC_ok {n : Nat} {x : S89} (h : proC n x = 0) : ProOk n x := by
 unfold proC at h
 by_cases h1 : x.f1.length = n
 ·rw [if_pos h1] at h
  by_cases h2 : x.f1.any (outside (-10000) 10000) = true
  ·rw [if_pos h2] at h; omega
  ·rw [if_neg h2] at h
   by_cases h3 : -10000 ≤ x.f2.f0 ∧ x.f2.f0 ≤ x.f2.f1 ∧ x.f2.f1 ≤ 10000
   ·refine ⟨h1, fun j hj => ?_, h3⟩
    have hm : rd x.f1 (j : Int) ∈ x.f1 := by
     have hlt : j < x.f1.length := by omega
     have : rd x.f1 (j : Int) = x.f1[j] := by simp [rd, hlt]
     rw [this]; exact List.getElem_mem hlt
    have hn : outside (-10000) 10000 (rd x.f1 (j : Int)) = false := by
     cases ho : outside (-10000) 10000 (rd x.f1 (j : Int)) with
     | false => rfl
     | true => exact absurd (List.any_eq_true.mpr ⟨_, hm, ho⟩) h2
    simp [outside] at hn; omega
   ·rw [if_neg h3] at h; omega
 ·rw [if_neg h1] at h; omega
theorem proE_ok (p : List S89) (n : Nat) : ∀ (m i : Nat), proE p n m i = 0 → ∀ j : Nat, i ≤ j → j < i + m → ProOk n (rd_T89 p (j : Int))
 | 0, i, h, j, h1, h2 => by omega
 | m + 1, i, h, j, h1, h2 => by
  unfold proE at h
  by_cases ha : nameOk (rd_T89 p (i : Int)).f0 = true
  ·rw [if_pos ha] at h
   by_cases hb : ((p.take i).any fun x => x.f0.toList == (rd_T89 p (i : Int)).f0.toList) = true
   ·rw [if_pos hb] at h; omega
   ·rw [if_neg hb] at h
    by_cases hc : proC n (rd_T89 p (i : Int)) = 0
    ·rw [if_pos hc] at h
     by_cases hj : j = i
     ·subst hj; exact proC_ok hc
     ·exact proE_ok p n m (i + 1) h j (by omega) (by omega)
    ·rw [if_neg hc] at h; exact absurd h hc
  ·rw [if_neg ha] at h; omega
structure BatchOk (o : List ByteArray) (mt : List S70) (s : List S27) (p : List S89) (a4 a5 a6 : Int) : Prop where
 o12 : o.length ≤ 12
 o1 : o.length ≠ 0
 m12 : mt.length ≤ 12
 m1 : mt.length ≠ 0
 mats : ∀ j : Nat, j < mt.length → MatOk o.length (rd_T70 mt (j : Int))
 slen : s.length = o.length
 shares : ∀ j : Nat, j < s.length → 0 ≤ (rd_T27 s (j : Int)).f0 ∧ (rd_T27 s (j : Int)).f0 ≤ (rd_T27 s (j : Int)).f1 ∧ (rd_T27 s (j : Int)).f1 ≤ 1000
 p6 : p.length ≤ 6
 pros : ∀ j : Nat, j < p.length → ProOk o.length (rd_T89 p (j : Int))
 redox : -10000 ≤ a4 ∧ a4 ≤ a5 ∧ a5 ≤ 10000
 wanted : 1 ≤ a6 ∧ a6 ≤ 10000
theorem check_ok {o : List ByteArray} {mt : List S70} {s : List S27} {p : List S89} {a4 a5 a6 : Int} (h : checkV o mt s p a4 a5 a6 = 0) : BatchOk o mt s p a4 a5 a6 := by
 unfold checkV at h
 by_cases h1 : o.length > 12
 ·rw [if_pos h1] at h; omega
 rw [if_neg h1] at h
 by_cases h2 : o.length = 0
 ·rw [if_pos h2] at h; omega
 rw [if_neg h2] at h
 by_cases h3 : oxE o o.length 0 = 0
 rotate_left
 ·rw [if_neg h3] at h; exact absurd h h3
 rw [if_pos h3] at h
 unfold matV at h
 by_cases h4 : mt.length > 12
 ·rw [if_pos h4] at h; omega
 rw [if_neg h4] at h
 by_cases h5 : mt.length = 0
 ·rw [if_pos h5] at h; omega
 rw [if_neg h5] at h
 by_cases h6 : matE mt o.length mt.length 0 = 0
 rotate_left
 ·rw [if_neg h6] at h; exact absurd h h6
 rw [if_pos h6] at h
 unfold shaV at h
 by_cases h7 : s.length = o.length
 rotate_left
 ·rw [if_neg h7] at h; omega
 rw [if_pos h7] at h
 by_cases h8 : s.any badSpan = true
 ·rw [if_pos h8] at h; omega
 rw [if_neg h8] at h
 unfold proV at h
 by_cases h9 : p.length > 6
 ·rw [if_pos h9] at h; omega
 rw [if_neg h9] at h
 by_cases h10 : proE p o.length p.length 0 = 0
 rotate_left
 ·rw [if_neg h10] at h; exact absurd h h10
 rw [if_pos h10] at h
 unfold endV at h
 by_cases h11 : -10000 ≤ a4 ∧ a4 ≤ a5 ∧ a5 ≤ 10000
 rotate_left
 ·rw [if_neg h11] at h; omega
 rw [if_pos h11] at h
 by_cases h12 : 1 ≤ a6 ∧ a6 ≤ 10000
 rotate_left
 ·rw [if_neg h12] at h; omega
 refine ⟨by omega, h2, by omega, h5, fun j hj => matE_ok mt _ _ 0 h6 j (by omega) (by omega), h7, fun j hj => ?_, by omega, fun j hj => proE_ok p _ _ 0 h10 j (by omega) (by omega), h11, h12⟩
 have hlt : j < s.length := hj
 have hr : rd_T27 s (j : Int) = s[j] := by simp [rd_T27, hlt]
 rw [hr]
 apply bad_false
 cases hb : badSpan s[j] with
 | false => rfl
 | true => exact absurd (List.any_eq_true.mpr ⟨_, List.getElem_mem hlt, hb⟩) h8
end
section
theorem getD_lt {α : Type} (l : List α) (k : Nat) (d : α) (h : k < l.length) : l.getD k d = l[k] := by simp [List.getD, h]
theorem getD_ge {α : Type} (l : List α) (k : Nat) (d : α) (h : l.length ≤ k) : l.getD k d = d := by simp [List.getD, h]
structure MatB (m : S70) : Prop where
 lo : 0 ≤ m.f3
 le : m.f3 ≤ m.f4
 hi : m.f4 ≤ 10000
 s1 : 1 ≤ m.f5
 s2 : m.f5 ≤ 10000
def nextL : List S70 → List Int → Option (List Int)
 | m :: ms, k :: ks => match nextL ms ks with
  | some q => some (k :: q)
  | none => if wrap64 (k + m.f5) ≤ m.f4 then some (wrap64 (k + m.f5) :: ms.map (·.f3)) else none
 | _, _ => none
theorem nextL_snoc (m : S70) (k : Int) : ∀ (ms : List S70) (ks : List Int), ms.length = ks.length → nextL (ms ++ [m]) (ks ++ [k]) = if wrap64 (k + m.f5) ≤ m.f4 then some (ks ++ [wrap64 (k + m.f5)]) else (nextL ms ks).map (· ++ [m.f3])
 | [], [], _ => by simp only [List.nil_append, nextL]; split <;> rfl
 | a :: ms, b :: ks, h => by
  have ih := nextL_snoc m k ms ks (by simpa using h)
  simp only [List.cons_append, nextL, ih]
  by_cases hc : wrap64 (k + m.f5) ≤ m.f4
  ·simp only [if_pos hc]
  ·simp only [if_neg hc]
   cases nextL ms ks with
   | some q => rfl
   | none =>
    simp only [Option.map_none]
    split <;> simp
 | [], _ :: _, h => by simp at h
 | _ :: _, [], h => by simp at h
theorem adv_next (mt : List S70) : ∀ (i : Nat) (r : List Int), r.length = mt.length → i ≤ mt.length →
  (∀ q, nextL (mt.take i) (r.take i) = some q → adv mt i r = (true, q ++ r.drop i)) ∧ (nextL (mt.take i) (r.take i) = none → (adv mt i r).1 = false)
 | 0, r, hr, hi => ⟨fun q h => by simp [nextL] at h, fun _ => rfl⟩
 | i + 1, r, hr, hi => by
  have h1 : i < mt.length := by omega
  have h2 : i < r.length := by omega
  have e1 : mt.take (i + 1) = mt.take i ++ [mt[i]] := by rw [List.take_add_one, List.getElem?_eq_getElem h1]; rfl
  have e2 : r.take (i + 1) = r.take i ++ [r[i]] := by rw [List.take_add_one, List.getElem?_eq_getElem h2]; rfl
  have g1 : rd_T70 mt (i : Int) = mt[i] := by simp [rd_T70, h1]
  have g2 : rd r (i : Int) = r[i] := by simp [rd, h2]
  have hs := nextL_snoc mt[i] r[i] (mt.take i) (r.take i) (by simp; omega)
  rw [e1, e2, hs]
  unfold adv
  rw [g1, g2]
  by_cases hc : wrap64 (r[i] + mt[i].f5) ≤ mt[i].f4
  ·rw [if_pos hc, if_pos hc]
   refine ⟨fun q h => ?_, fun h => by cases h⟩
   obtain rfl := Option.some.inj h
   rw [List.set_eq_take_append_cons_drop, if_pos h2]
   simp
  ·rw [if_neg hc, if_neg hc]
   have ih := adv_next mt i (r.set i mt[i].f3) (by simpa using hr) (by omega)
   have e3 : (r.set i mt[i].f3).take i = r.take i := List.take_set_of_le (Nat.le_refl i)
   have e4 : (r.set i mt[i].f3).drop i = mt[i].f3 :: r.drop (i + 1) := by
    rw [List.set_eq_take_append_cons_drop, if_pos h2, List.drop_append_of_le_length (by simp; omega)]
    simp
   rw [e3] at ih
   refine ⟨fun q h => ?_, fun h => ih.2 (by simpa using h)⟩
   obtain ⟨q0, hq0, rfl⟩ := Option.map_eq_some_iff.1 h
   rw [ih.1 q0 hq0, e4]
   simp
def kilosF (s : Int) : Nat → Int → List Int
 | 0, _ => []
 | c + 1, k => k :: kilosF s c (k + s)
def cntM (m : S70) : Nat := ((m.f4 - m.f3) / m.f5).toNat + 1
def allR : List S70 → List (List Int)
 | [] => [[]]
 | m :: ms => (kilosF m.f5 (cntM m) m.f3).flatMap fun k => (allR ms).map (k :: ·)
def ChL {α : Type} (nx : α → Option α) (e : Option α) : List α → Prop
 | [] => True
 | [a] => nx a = e
 | a :: b :: l => nx a = some b ∧ ChL nx e (b :: l)
theorem ChL_append {α : Type} {nx : α → Option α} {e : Option α} {b : α} {l2 : List α} : ∀ (l1 : List α), ChL nx (some b) l1 → ChL nx e (b :: l2) → ChL nx e (l1 ++ b :: l2)
 | [], _, h => h
 | [a], h1, h2 => ⟨h1, h2⟩
 | a :: c :: l, h1, h2 => ⟨h1.1, ChL_append (c :: l) h1.2 h2⟩
theorem ChL_get {α : Type} {nx : α → Option α} : ∀ (l : List α), ChL nx none l → ∀ (k : Nat) (h : k < l.length), nx l[k] = l[k + 1]?
 | [a], h, 0, _ => h
 | a :: b :: l, h, 0, _ => by simpa using h.1
 | a :: b :: l, h, k + 1, hk => by
  have := ChL_get (b :: l) h.2 k (by simpa using hk)
  simpa using this
theorem ChL_map (m : S70) (ms : List S70) (k : Int) : ∀ (l : List (List Int)), ChL (nextL ms) none l → ChL (nextL (m :: ms)) (if wrap64 (k + m.f5) ≤ m.f4 then some (wrap64 (k + m.f5) :: ms.map (·.f3)) else none) (l.map (k :: ·))
 | [], _ => trivial
 | [a], h => by
  have h : nextL ms a = none := h
  show nextL (m :: ms) (k :: a) = _
  simp only [nextL, h]
 | a :: b :: l, h => by
  refine ⟨?_, ChL_map m ms k (b :: l) h.2⟩
  simp only [nextL, h.1]
theorem allR_head : ∀ (mt : List S70), ∃ tl, allR mt = mt.map (·.f3) :: tl
 | [] => ⟨[], rfl⟩
 | m :: ms => by
  obtain ⟨tl, h⟩ := allR_head ms
  unfold allR cntM
  simp only [kilosF, List.flatMap_cons, h, List.map_cons, List.cons_append]
  exact ⟨_, rfl⟩
theorem cntM_last {m : S70} (M : MatB m) : m.f3 + ((cntM m : Int) - 1) * m.f5 ≤ m.f4 ∧ m.f4 < m.f3 + (cntM m : Int) * m.f5 := by
 unfold cntM
 have h0 : 0 ≤ (m.f4 - m.f3) / m.f5 := Int.ediv_nonneg (by have := M.le; omega) (by have := M.s1; omega)
 have h1 := Int.mul_ediv_self_le (x := m.f4 - m.f3) (k := m.f5) (by have := M.s1; omega)
 have h2 := Int.lt_mul_ediv_self_add (x := m.f4 - m.f3) (k := m.f5) (by have := M.s1; omega)
 have e : ((((m.f4 - m.f3) / m.f5).toNat + 1 : Nat) : Int) = (m.f4 - m.f3) / m.f5 + 1 := by omega
 rw [e]
 generalize (m.f4 - m.f3) / m.f5 = q at *
 have e2 : (q + 1 - 1) * m.f5 = m.f5 * q := by rw [Int.add_sub_cancel, Int.mul_comm]
 have e3 : (q + 1) * m.f5 = m.f5 * q + m.f5 := by rw [Int.add_mul, Int.one_mul, Int.mul_comm]
 rw [e2, e3]
 omega
theorem ChL_block (m : S70) (ms : List S70) (M : MatB m) (hms : ChL (nextL ms) none (allR ms)) : ∀ (c : Nat) (k : Int), 0 ≤ k → k + (c : Int) * m.f5 ≤ m.f4 → m.f4 < k + ((c : Int) + 1) * m.f5 →
  ChL (nextL (m :: ms)) none ((kilosF m.f5 (c + 1) k).flatMap fun k => (allR ms).map (k :: ·))
 | 0, k, h0, h1, h2 => by
  simp only [kilosF, List.flatMap_cons, List.flatMap_nil, List.append_nil]
  have := ChL_map m ms k (allR ms) hms
  have hw : wrap64 (k + m.f5) = k + m.f5 := wrap_id (by have := M.s1; omega) (by have := M.s2; have := M.hi; omega)
  rw [hw, if_neg (by omega)] at this
  exact this
 | c + 1, k, h0, h1, h2 => by
  have hp : 0 ≤ (c : Int) * m.f5 := Int.mul_nonneg (by omega) (by have := M.s1; omega)
  have e1 : ((c + 1 : Nat) : Int) * m.f5 = (c : Int) * m.f5 + m.f5 := by push_cast; rw [Int.add_mul, Int.one_mul]
  have e2 : (((c + 1 : Nat) : Int) + 1) * m.f5 = ((c : Int) + 1) * m.f5 + m.f5 := by push_cast; rw [Int.add_mul ((c : Int) + 1), Int.one_mul]
  have ih := ChL_block m ms M hms c (k + m.f5) (by have := M.s1; omega) (by omega) (by omega)
  have := ChL_map m ms k (allR ms) hms
  have hw : wrap64 (k + m.f5) = k + m.f5 := wrap_id (by have := M.s1; omega) (by have := M.s2; have := M.hi; omega)
  rw [hw, if_pos (by omega)] at this
  rw [kilosF, List.flatMap_cons]
  obtain ⟨tl, ht⟩ := allR_head ms
  have hh : ∃ tl2, ((kilosF m.f5 (c + 1) (k + m.f5)).flatMap fun k => (allR ms).map (k :: ·)) = ((k + m.f5) :: ms.map (·.f3)) :: tl2 := by
   rw [kilosF, List.flatMap_cons, ht]
   exact ⟨_, rfl⟩
  obtain ⟨tl2, h3⟩ := hh
  rw [h3] at ih ⊢
  exact ChL_append _ this ih
theorem ChL_all : ∀ (mt : List S70), (∀ m ∈ mt, MatB m) → ChL (nextL mt) none (allR mt)
 | [], _ => rfl
 | m :: ms, H => by
  have M := H m (List.mem_cons_self)
  have ih := ChL_all ms (fun x hx => H x (List.mem_cons_of_mem _ hx))
  have hl := cntM_last M
  have e : ((cntM m : Nat) : Int) - 1 = (((m.f4 - m.f3) / m.f5).toNat : Int) := by unfold cntM; push_cast; omega
  rw [e] at hl
  have hl2 := hl.2
  rw [show ((cntM m : Nat) : Int) = (((m.f4 - m.f3) / m.f5).toNat : Int) + 1 from by unfold cntM; push_cast; rfl] at hl2
  exact ChL_block m ms M ih _ _ M.lo hl.1 hl2
theorem allR_len : ∀ (mt : List S70) (r : List Int), r ∈ allR mt → r.length = mt.length
 | [], r, h => by simp [allR] at h; rw [h]; rfl
 | m :: ms, r, h => by
  simp only [allR, List.mem_flatMap, List.mem_map] at h
  obtain ⟨k, _, q, hq, rfl⟩ := h
  simp [allR_len ms q hq]
theorem leasts_map (mt : List S70) : leasts mt mt.length = mt.map (·.f3) := by
 apply List.ext_getElem
 ·simp [leasts]
 ·intro i h1 h2
  have h3 : i < mt.length := by simpa [leasts] using h1
  simp [leasts, rd_T70, h3]
def rsAt (mt : List S70) (k : Nat) : List Int := (allR mt).getD k (leasts mt mt.length)
theorem rsAt_len (mt : List S70) (k : Nat) : (rsAt mt k).length = mt.length := by
 unfold rsAt
 by_cases h : k < (allR mt).length
 ·rw [getD_lt _ _ _ h]; exact allR_len mt _ (List.getElem_mem h)
 ·rw [getD_ge _ _ _ (by omega)]; exact leasts_len mt _
theorem rsAt_zero (mt : List S70) : rsAt mt 0 = leasts mt mt.length := by
 obtain ⟨tl, h⟩ := allR_head mt
 unfold rsAt
 rw [h, leasts_map]
 rfl
theorem allR_pos (mt : List S70) : 0 < (allR mt).length := by
 obtain ⟨tl, h⟩ := allR_head mt
 rw [h]; simp
theorem rsAt_next (mt : List S70) (H : ∀ m ∈ mt, MatB m) (k : Nat) (hk : k < (allR mt).length) :
  adv mt mt.length (rsAt mt k) = if k + 1 < (allR mt).length then (true, rsAt mt (k + 1)) else (false, (adv mt mt.length (rsAt mt k)).2) := by
 have h := ChL_get _ (ChL_all mt H) k hk
 have ha := adv_next mt mt.length (rsAt mt k) (rsAt_len mt k) (Nat.le_refl _)
 rw [List.take_length, List.take_of_length_le (Nat.le_of_eq (rsAt_len mt k)), List.drop_of_length_le (Nat.le_of_eq (rsAt_len mt k))] at ha
 have e : rsAt mt k = (allR mt)[k] := by unfold rsAt; rw [getD_lt _ _ _ hk]
 by_cases h2 : k + 1 < (allR mt).length
 ·rw [if_pos h2]
  rw [List.getElem?_eq_getElem h2, ← e] at h
  rw [ha.1 _ h, List.append_nil]
  unfold rsAt
  rw [getD_lt _ _ _ h2]
 ·rw [if_neg h2]
  rw [List.getElem?_eq_none (by omega), ← e] at h
  exact Prod.ext (ha.2 h) rfl
theorem rs_map (mt : List S70) : (List.range (allR mt).length).map (rsAt mt) = allR mt := by
 apply List.ext_getElem
 ·simp
 ·intro i h1 h2
  simp [rsAt, h2]
end
section
open Go.RowKit Go.Proofs.YtljfljekcpdpiaaGreatW.PrintWords Go.Proofs.YtljfljekcpdpiaaGreatW.PrintLast Go.Proofs.YtljfljekcpdpiaaGreatW.PrintMore
open Go.Sort (putRow Holds)
attribute [local go_sem] max2_int min2_int max_two min_two
theorem below_putRow {B : Nat} {w W : World} (h : Below B w W) {blk off : Nat} (hb : B ≤ blk) (d : Array Int) : Below B w (putRow (Value.int .i64) W blk off d) := by
  refine ⟨h.os, h.tape, h.output, by rw [Go.Sort.size_putRow]; exact h.size, fun i hi => ?_⟩
  rw [← h.block i hi]
  unfold Go.Sort.putRow Go.Sort.mapBlock
  simp only [Array.getElem?_modify]
  rw [if_neg (by omega)]
theorem blk_putRow {W : World} {g : Nat} {o : Obj} (h : W.heap[g]? = some o) {blk off : Nat} (hb : g ≠ blk) (d : Array Int) : (putRow (Value.int .i64) W blk off d).heap[g]? = some o := by
  rw [← h]
  unfold Go.Sort.putRow Go.Sort.mapBlock
  simp only [Array.getElem?_modify]
  rw [if_neg (by omega)]
def CoefQ (g : Nat) (lb : Array Value) (cf : Int → Int) (N : Int) (w : World) : Prop :=
  ∀ W, Below w.heap.size w W → ∀ x, 0 ≤ x → x < N → Calls Tryz.prog g (#[.int .i64 x] ++ lb) W fun e w' => e = .returned (.int .i64 (cf x)) ∧ ∃ q, w' = W.drewN q
theorem meanCmp_calls (B g : Nat) (lb : Array Value) (cf : Int → Int) (N : Int) (w W : World) (eg : ∀ args w, (callFunc g args).run Tryz.prog w = .ok (.enter g args) w)
    (hq : CoefQ g lb cf N w) (hb : Below w.heap.size w W) (hB : W.cell? ⟨B, 0, none⟩ = some (.func (.func g) #[] lb)) (x y : Int) (hx0 : 0 ≤ x) (hx1 : x < N) (hy0 : 0 ≤ y) (hy1 : y < N)
    (hx2 : -100000 ≤ cf x) (hx3 : cf x ≤ 100000) (hy2 : -100000 ≤ cf y) (hy3 : cf y ≤ 100000) :
    Calls Tryz.prog 168 #[.int .i64 x, .int .i64 y, .pointer (some ⟨B, 0, none⟩)] W fun e w' => e = .returned (.int .i64 (cf x - cf y)) ∧ ∃ q, w' = W.drewN q := by
  have h1 : ∀ n, Calls Tryz.prog g (#[.int .i64 x] ++ lb) (W.drewN n) fun e w' => e = .returned (.int .i64 (cf x)) ∧ ∃ q, w' = (W.drewN n).drewN q := fun n => hq _ (pw_below_drewN hb n) x hx0 hx1
  have h2 : ∀ n, Calls Tryz.prog g (#[.int .i64 y] ++ lb) (W.drewN n) fun e w' => e = .returned (.int .i64 (cf y)) ∧ ∃ q, w' = (W.drewN n).drewN q := fun n => hq _ (pw_below_drewN hb n) y hy0 hy1
  have H1 : Sd _ := ⟨h1⟩
  have H2 : Sd _ := ⟨h2⟩
  clear h1 h2 hq hb
  generalize cf x = cx at *
  generalize cf y = cy at *
  go_enter Tryz.func168, Tryz.ntmps168
  go_wp2_with fail
  go_quiet (first | (go_at_fn g; exact Calls.quiet_of (H1.out _)) | (go_at_fn g; exact Calls.quiet_of (H2.out _)))
  go_wp2
  go_ret
  exact ⟨rfl, _, rfl⟩
end
end Go.Proofs.YtljfljekcpdpiaaGreat.PB
