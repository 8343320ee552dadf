import Derived.Test.YtljfljekcpdpiaaGreatD2
import Derived.Shelf.Abstract
import Derived.Deep.RegionWith
import Derived.Deep.DeepCutAuto
set_option linter.unusedVariables false
set_option linter.unusedSimpArgs false
set_option maxHeartbeats 8000000
set_option maxRecDepth 1000000
namespace Go.Proofs.YtljfljekcpdpiaaGreat.PB
open Go.RowKit Go.Proofs.YtljfljekcpdpiaaGreatW.PrintWords Go.Proofs.YtljfljekcpdpiaaGreatW.PrintLast Go.Proofs.YtljfljekcpdpiaaGreatW.PrintMore
section
def b_checkOxides.l0 : Nat → List ByteArray → Int → Int → List ByteArray → List (S70) → List (S27) → List (S89) → Int → Int → Int → Option (Int)
 | 0, _, _, _, _, _, _, _, _, _, _ => none
 | k + 1, x16, x17, x18, x111q0, x111q1, x111q2, x111q3, x111q4, x111q5, x111q6 => if x18 < x17 then (if 0 ≤ x18 then (if x18 < (x16.length : Int) then ((b_name.f k (rdOf ByteArray.empty x16 x18)).bind fun t112 => (if t112 = true then (if x18 ≤ (x111q0.length : Int) then ((slices_Contains_string_string.f k (x111q0.take (x18 : Int).toNat) (rdOf ByteArray.empty x16 x18)).bind fun t114 => (if t114 = true then (some 6) else (b_checkOxides.l0 k x16 x17 (wrap64 (x18 + 1)) x111q0 x111q1 x111q2 x111q3 x111q4 x111q5 x111q6))) else (none)) else (some 5))) else (none)) else (none)) else (some 0)
def b_checkOxides.f (k : Nat) (l0_0 : List ByteArray) (l0_1 : List (S70)) (l0_2 : List (S27)) (l0_3 : List (S89)) (a0_4 : Int) (a0_5 : Int) (a0_6 : Int) : Option (Int) := if (l0_0.length : Int) > 12 then (some 3) else (if (l0_0.length : Int) = 0 then (some 1) else (b_checkOxides.l0 k l0_0 (l0_0.length : Int) 0 l0_0 l0_1 l0_2 l0_3 a0_4 a0_5 a0_6))
theorem b_checkOxides.mono_l : ∀ k, (∀ y0 y1 y2 y3 y4 y5 y6 y7 y8 y9, LeO (b_checkOxides.l0 k y0 y1 y2 y3 y4 y5 y6 y7 y8 y9) (b_checkOxides.l0 (k + 1) y0 y1 y2 y3 y4 y5 y6 y7 y8 y9))
 | 0 => fun _ _ _ _ _ _ _ _ _ _ r h => by simp [b_checkOxides.l0] at h
 | k + 1 => by
  have ih0 := b_checkOxides.mono_l k
  ·intro y0 y1 y2 y3 y4 y5 y6 y7 y8 y9
   unfold b_checkOxides.l0
   repeat' first
   | (with_reducible exact ih0 _ _ _ _ _ _ _ _ _ _)
   | (with_reducible exact b_name.mono _ _)
   | (with_reducible exact slices_Contains_string_string.mono _ _ _)
   | (with_reducible exact LeO.refl _)
   | (with_reducible exact LeO.none _)
   | (with_reducible refine LeO.ite ?_ ?_)
   | (with_reducible refine LeO.bind ?_ (fun _ => ?_))
   | exact LeO.none _
   | refine LeO.ite ?_ ?_
   | refine LeO.bind ?_ (fun _ => ?_)
theorem b_checkOxides.mono : ∀ a0 a1 a2 a3 a4 a5 a6 k, LeO (b_checkOxides.f k a0 a1 a2 a3 a4 a5 a6) (b_checkOxides.f (k + 1) a0 a1 a2 a3 a4 a5 a6) := by
 intro a0 a1 a2 a3 a4 a5 a6 k
 have ih0 := b_checkOxides.mono_l k
 unfold b_checkOxides.f
 repeat' first
   | (with_reducible exact ih0 _ _ _ _ _ _ _ _ _ _)
   | (with_reducible exact b_name.mono _ _)
   | (with_reducible exact slices_Contains_string_string.mono _ _ _)
   | (with_reducible exact LeO.refl _)
   | (with_reducible exact LeO.none _)
   | (with_reducible refine LeO.ite ?_ ?_)
   | (with_reducible refine LeO.bind ?_ (fun _ => ?_))
   | exact LeO.none _
   | refine LeO.ite ?_ ?_
   | refine LeO.bind ?_ (fun _ => ?_)
theorem b_checkOxides.calls (k : Nat) (A0_0 : Option Addr) (c0_0 : Nat) (l0_0 : List ByteArray) (A0_1 : Option Addr) (c0_1 : Nat) (l0_1 : List (S70)) (A0_2 : Option Addr) (c0_2 : Nat) (l0_2 : List (S27)) (A0_3 : Option Addr) (c0_3 : Nat) (l0_3 : List (S89)) (a0_4 : Int) (a0_5 : Int) (a0_6 : Int) (r : Int) (w : World) (hr0_0 : Kd.C Kd.string w A0_0 l0_0.length l0_0) (hc0_0 : l0_0.length ≤ c0_0) (hr0_1 : Kd.C k70 w A0_1 l0_1.length l0_1) (hc0_1 : l0_1.length ≤ c0_1) (hr0_2 : Kd.C k27 w A0_2 l0_2.length l0_2) (hc0_2 : l0_2.length ≤ c0_2) (hr0_3 : Kd.C k89 w A0_3 l0_3.length l0_3) (hc0_3 : l0_3.length ≤ c0_3) (h : b_checkOxides.f k l0_0 l0_1 l0_2 l0_3 a0_4 a0_5 a0_6 = some r) :
  Calls Tryz.prog 97 #[.agg #[.slice A0_0 l0_0.length c0_0, .slice A0_1 l0_1.length c0_1, .slice A0_2 l0_2.length c0_2, .slice A0_3 l0_3.length c0_3, .int .i64 a0_4, .int .i64 a0_5, .int .i64 a0_6]] w fun e w' => e = .returned (.int .i64 r) ∧ Below w.heap.size w w' := by
 have hu29 := Tryz.underlying29; have HR0_0 := Sd.mk hr0_0; have HC0_0 := Sd.mk hc0_0; clear hr0_0 hc0_0; have HR0_1 := Sd.mk hr0_1; have HC0_1 := Sd.mk hc0_1; clear hr0_1 hc0_1; have HR0_2 := Sd.mk hr0_2; have HC0_2 := Sd.mk hc0_2; clear hr0_2 hc0_2; have HR0_3 := Sd.mk hr0_3; have HC0_3 := Sd.mk hc0_3; clear hr0_3 hc0_3; have HB := Sd.mk (Below.refl w.heap.size w)
 have H : (if (l0_0.length : Int) > 12 then (some 3) else (if (l0_0.length : Int) = 0 then (some 1) else (b_checkOxides.l0 k l0_0 (l0_0.length : Int) 0 l0_0 l0_1 l0_2 l0_3 a0_4 a0_5 a0_6))) = some r := h
 clear h
 by_cases c2 : (l0_0.length : Int) > 12
 ·rw [if_pos c2] at H
  have c2b0 : decide (12 < (l0_0.length : Int)) = true := decide_eq_true c2
  have c2b1 : decide (12 < l0_0.length) = true := decide_eq_true (by omega)
  clear c2; obtain rfl := Option.some.inj H
  go_enter Tryz.func97, Tryz.ntmps97
  go_wp2_with (first | ((with_reducible refine gate_dst (N := 1) rfl ?_); refine box_event ?hg (N := 1) ?hd (cs := #[.slice A0_0 l0_0.length c0_0, .slice A0_1 l0_1.length c0_1, .slice A0_2 l0_2.length c0_2, .slice A0_3 l0_3.length c0_3, .int .i64 a0_4, .int .i64 a0_5, .int .i64 a0_6]) (t := 29) ?hr ?_; (case hd => rfl); (case hg => rfl); (case hr => exact tG); intro gb110 hg w3 hbox hb; have BK110 := Sd.mk (hbox); have GW110 := Sd.mk (bSz hg (bBl HB.out)); have GE110 := Sd.mk (bSz hg (bBl HB.out)); replace HB := Sd.mk (below_step (bBl HB.out) hb); clear hb hbox hg; obtain ⟨u4_0, u4_1, u4_2, u4_3, u4_4, u4_5, u4_6, o4_0, o4_1, o4_2, o4_3, o4_4, o4_5, o4_6⟩ := bc7 (w := w3) BK110.out))
  go_ret
  exact ⟨tE, bBl HB.out⟩
 ·rw [if_neg c2] at H
  have c2b0 : decide (12 < (l0_0.length : Int)) = false := decide_eq_false c2
  have c2b1 : decide (12 < l0_0.length) = false := decide_eq_false (by omega)
  clear c2
  by_cases c5 : (l0_0.length : Int) = 0
  ·rw [if_pos c5] at H
   have c5b0 : ((l0_0.length : Int) == 0) = true := beq_iff_eq.mpr c5
   have c5b1 : ((l0_0.length : Int) != 0) = false := bne_eq_false_iff_eq.mpr c5
   clear c5; obtain rfl := Option.some.inj H
   go_enter Tryz.func97, Tryz.ntmps97
   go_wp2_with (first | ((with_reducible refine gate_dst (N := 1) rfl ?_); refine box_event ?hg (N := 1) ?hd (cs := #[.slice A0_0 l0_0.length c0_0, .slice A0_1 l0_1.length c0_1, .slice A0_2 l0_2.length c0_2, .slice A0_3 l0_3.length c0_3, .int .i64 a0_4, .int .i64 a0_5, .int .i64 a0_6]) (t := 29) ?hr ?_; (case hd => rfl); (case hg => rfl); (case hr => exact tG); intro gb110 hg w6 hbox hb; have BK110 := Sd.mk (hbox); have GW110 := Sd.mk (bSz hg (bBl HB.out)); have GE110 := Sd.mk (bSz hg (bBl HB.out)); replace HB := Sd.mk (below_step (bBl HB.out) hb); clear hb hbox hg; obtain ⟨u7_0, u7_1, u7_2, u7_3, u7_4, u7_5, u7_6, o7_0, o7_1, o7_2, o7_3, o7_4, o7_5, o7_6⟩ := bc7 (w := w6) BK110.out))
   go_ret
   exact ⟨tE, bBl HB.out⟩
  ·rw [if_neg c5] at H
   have c5b0 : ((l0_0.length : Int) == 0) = false := beq_eq_false_iff_ne.mpr c5
   have c5b1 : ((l0_0.length : Int) != 0) = true := bne_iff_ne.mpr c5
   have c5b2 : ¬ (l0_0 = []) := fun h_ => c5 (by rw [h_]; rfl)
   have H' := Sd.mk H; clear H
   go_enter Tryz.func97, Tryz.ntmps97
   go_wp2_with (first | ((with_reducible refine gate_dst (N := 1) rfl ?_); refine box_event ?hg (N := 1) ?hd (cs := #[.slice A0_0 l0_0.length c0_0, .slice A0_1 l0_1.length c0_1, .slice A0_2 l0_2.length c0_2, .slice A0_3 l0_3.length c0_3, .int .i64 a0_4, .int .i64 a0_5, .int .i64 a0_6]) (t := 29) ?hr ?_; (case hd => rfl); (case hg => rfl); (case hr => exact tG); intro gb110 hg w8 hbox hb; have BK110 := Sd.mk (hbox); have GW110 := Sd.mk (bSz hg (bBl HB.out)); have GE110 := Sd.mk (bSz hg (bBl HB.out)); replace HB := Sd.mk (below_step (bBl HB.out) hb); clear hb hbox hg; obtain ⟨u9_0, u9_1, u9_2, u9_3, u9_4, u9_5, u9_6, o9_0, o9_1, o9_2, o9_3, o9_4, o9_5, o9_6⟩ := bc7 (w := w8) BK110.out))
   go_loopg [18] k (fun kq v18 w' => ∃ (x18_1 : Int), v18 = .int .i64 x18_1 ∧ Sd (b_checkOxides.l0 kq l0_0 (l0_0.length : Int) x18_1 l0_0 l0_1 l0_2 l0_3 a0_4 a0_5 a0_6 = some r) ∧ Sd (kq ≤ k) ∧ Sd (w'.heap[gb110]? = some (.cells #[(.slice A0_0 l0_0.length c0_0), (.slice A0_1 l0_1.length c0_1), (.slice A0_2 l0_2.length c0_2), (.slice A0_3 l0_3.length c0_3), .int .i64 a0_4, .int .i64 a0_5, .int .i64 a0_6] 29 (0, 0))) ∧ Sd (Below w.heap.size w w'))
   case atStart => exact ⟨(0), tS, H', ⟨Nat.le_refl _⟩, ⟨bkA BK110.out⟩, ⟨bBl HB.out⟩⟩
   case round =>
    clear H'; (try clear c2); (try clear c2b0); (try clear c2b1); (try clear p2); (try clear c5); (try clear c5b0); (try clear c5b1); (try clear c5b2); (try clear c9); (try clear u4_0 u4_1 u4_2 u4_3 u4_4 u4_5 u4_6); (try clear u7_0 u7_1 u7_2 u7_3 u7_4 u7_5 u7_6); (try clear u9_0 u9_1 u9_2 u9_3 u9_4 u9_5 u9_6); (try clear o4_0 o4_1 o4_2 o4_3 o4_4 o4_5 o4_6); (try clear o7_0 o7_1 o7_2 o7_3 o7_4 o7_5 o7_6); (try clear o9_0 o9_1 o9_2 o9_3 o9_4 o9_5 o9_6); obtain ⟨x18_1, rfl, HA, HK1, BK110, HB⟩ := hrel
    cases gk with
    | zero => exact absurd HA.out (by simp [b_checkOxides.l0])
    | succ k1 =>
     have H := HA.out; clear HA
     simp only [b_checkOxides.l0] at H
     by_cases c10 : x18_1 < (l0_0.length : Int)
     ·rw [if_pos c10] at H
      have c10b0 : decide (x18_1 < (l0_0.length : Int)) = true := decide_eq_true c10
      clear c10
      by_cases c11 : 0 ≤ x18_1
      ·rw [if_pos c11] at H
       have c11b0 : decide (0 ≤ x18_1) = true := decide_eq_true c11
       clear c11
       by_cases c12 : x18_1 < (l0_0.length : Int)
       ·rw [if_pos c12] at H
        have c12b0 : decide (x18_1 < (l0_0.length : Int)) = true := decide_eq_true c12
        clear c12; replace H := Option.bind_eq_some_iff.mp H; obtain ⟨t112, A130, H⟩ := H
        try dsimp only at H
        have A13 := Sd.mk A130; clear A130
        by_cases c14 : t112 = true
        ·subst c14
         have H1 : (if x18_1 ≤ (l0_0.length : Int) then ((slices_Contains_string_string.f k1 (l0_0.take (x18_1 : Int).toNat) (rdOf ByteArray.empty l0_0 x18_1)).bind fun t114 => (if t114 = true then (some 6) else (b_checkOxides.l0 k1 l0_0 (l0_0.length : Int) (wrap64 (x18_1 + 1)) l0_0 l0_1 l0_2 l0_3 a0_4 a0_5 a0_6))) else (none)) = some r := by rw [if_pos rfl] at H; exact H
         clear H; have H := H1; clear H1; have c15b0 := eq_true (tB : 0 ≤ x18_1)
         by_cases c16 : x18_1 ≤ (l0_0.length : Int)
         ·rw [if_pos c16] at H
          have c16b0 := eq_true c16
          have c16b1 : decide (x18_1 ≤ (l0_0.length : Int)) = true := decide_eq_true c16
          clear c16; replace H := Option.bind_eq_some_iff.mp H; obtain ⟨t114, A170, H⟩ := H
          try dsimp only at H
          have A17 := Sd.mk A170; clear A170
          by_cases c18 : t114 = true
          ·subst c18
           have H1 : (some 6) = some r := by rw [if_pos rfl] at H; exact H
           clear H; have H := H1; clear H1; obtain rfl := Option.some.inj H
           have p111 : 0 ≤ (x18_1 : Int) := tB
           have q111 : x18_1 < (l0_0.length : Int) := tB
           obtain ⟨ad111, e111, hx111_0⟩ := Kd.at_string HR0_0.out x18_1 p111 q111; cases e111; replace hx111_0 := cU HB hx111_0; replace p111 := eq_true p111; replace q111 := eq_true q111
           go_wp2_with (first | ((with_reducible refine gate_callee (f := 102) rfl ?_); refine goesL_ (some 25) rfl rfl Tryz.func102 (by kernel_rfl) rfl #[.string (rdOf ByteArray.empty l0_0 x18_1)] rfl tM ?_; (with_reducible refine (b_name.calls k1 (rdOf ByteArray.empty l0_0 x18_1) true _ A13.out).mono ?_); rintro e w' ⟨rfl, ⟨nd, rfl⟩⟩; refine ⟨_, rfl, ?_⟩; obtain ⟨u19_0, u19_1, u19_2, u19_3, u19_4, u19_5, u19_6, o19_0, o19_1, o19_2, o19_3, o19_4, o19_5, o19_6⟩ := bc7 (w := wr) BK110.out; obtain ⟨i020, hi020, _, hsz20, _⟩ := info_parts info9; obtain ⟨hcut20, hA20, hC20⟩ := print_take_of (P := Tryz.prog) Value.string (⟨#[]⟩ : ByteArray) 22 9 .i64 Tryz.underlying22 hi020 hsz20 (some ad111) c0_0 l0_0 x18_1 (tB) (tB) HC0_0.out; have HR113 := Sd.mk (Kd.C_of_reads (h1 := fun _ => rfl) (hA20 _ (Kd.reads_of_C HR0_0.out))); have HC113 := Sd.mk hC20; clear hA20 hC20 hi020 hsz20) | ((with_reducible refine gate_callee (f := 177) rfl ?_); refine goesL_ (some 33) rfl rfl Tryz.func177 (by kernel_rfl) rfl #[.slice (some ad111) (l0_0.take (x18_1 : Int).toNat).length c0_0, .string (rdOf ByteArray.empty l0_0 x18_1)] rfl (by (try simp only [List.map_toArray, List.map_cons, List.map_nil]); first | done | (rw [show (l0_0.take (x18_1 : Int).toNat).length = x18_1.toNat from (by rw [List.length_take]; have h_ : (x18_1 : Int) ≤ (l0_0.length : Int) := tB; omega)] <;> rfl) | rfl | (simp only [List.length_drop, List.length_take]; rfl)) ?_; (with_reducible refine (slices_Contains_string_string.calls k1 _ _ (l0_0.take (x18_1 : Int).toNat) (rdOf ByteArray.empty l0_0 x18_1) true _ ?side1 ?side2 A17.out).mono ?_); (case side1 => exact cS (Kd.C_below HR113.out (bBl HB.out))); (case side2 => exact HC113.out); rintro e w' ⟨rfl, ⟨nd, rfl⟩⟩; refine ⟨_, rfl, ?_⟩))
           go_ret
           exact ⟨tE, bBl HB.out⟩
          ·replace c18 := Bool.eq_false_iff.mpr c18
           subst c18
           have H1 : (b_checkOxides.l0 k1 l0_0 (l0_0.length : Int) (wrap64 (x18_1 + 1)) l0_0 l0_1 l0_2 l0_3 a0_4 a0_5 a0_6) = some r := by rw [if_neg (show ¬ (false = true) by decide)] at H; exact H
           clear H; have H := H1; clear H1; have H' := Sd.mk H; clear H
           have p111 : 0 ≤ (x18_1 : Int) := tB
           have q111 : x18_1 < (l0_0.length : Int) := tB
           obtain ⟨ad111, e111, hx111_0⟩ := Kd.at_string HR0_0.out x18_1 p111 q111; cases e111; replace hx111_0 := cU HB hx111_0; replace p111 := eq_true p111; replace q111 := eq_true q111
           go_wp2_with (first | ((with_reducible refine gate_callee (f := 102) rfl ?_); refine goesL_ (some 25) rfl rfl Tryz.func102 (by kernel_rfl) rfl #[.string (rdOf ByteArray.empty l0_0 x18_1)] rfl tM ?_; (with_reducible refine (b_name.calls k1 (rdOf ByteArray.empty l0_0 x18_1) true _ A13.out).mono ?_); rintro e w' ⟨rfl, ⟨nd, rfl⟩⟩; refine ⟨_, rfl, ?_⟩; obtain ⟨u21_0, u21_1, u21_2, u21_3, u21_4, u21_5, u21_6, o21_0, o21_1, o21_2, o21_3, o21_4, o21_5, o21_6⟩ := bc7 (w := wr) BK110.out; obtain ⟨i022, hi022, _, hsz22, _⟩ := info_parts info9; obtain ⟨hcut22, hA22, hC22⟩ := print_take_of (P := Tryz.prog) Value.string (⟨#[]⟩ : ByteArray) 22 9 .i64 Tryz.underlying22 hi022 hsz22 (some ad111) c0_0 l0_0 x18_1 (tB) (tB) HC0_0.out; have HR113 := Sd.mk (Kd.C_of_reads (h1 := fun _ => rfl) (hA22 _ (Kd.reads_of_C HR0_0.out))); have HC113 := Sd.mk hC22; clear hA22 hC22 hi022 hsz22) | ((with_reducible refine gate_callee (f := 177) rfl ?_); refine goesL_ (some 33) rfl rfl Tryz.func177 (by kernel_rfl) rfl #[.slice (some ad111) (l0_0.take (x18_1 : Int).toNat).length c0_0, .string (rdOf ByteArray.empty l0_0 x18_1)] rfl (by (try simp only [List.map_toArray, List.map_cons, List.map_nil]); first | done | (rw [show (l0_0.take (x18_1 : Int).toNat).length = x18_1.toNat from (by rw [List.length_take]; have h_ : (x18_1 : Int) ≤ (l0_0.length : Int) := tB; omega)] <;> rfl) | rfl | (simp only [List.length_drop, List.length_take]; rfl)) ?_; (with_reducible refine (slices_Contains_string_string.calls k1 _ _ (l0_0.take (x18_1 : Int).toNat) (rdOf ByteArray.empty l0_0 x18_1) false _ ?side1 ?side2 A17.out).mono ?_); (case side1 => exact cS (Kd.C_below HR113.out (bBl HB.out))); (case side2 => exact HC113.out); rintro e w' ⟨rfl, ⟨nd, rfl⟩⟩; refine ⟨_, rfl, ?_⟩))
           go_roundg k1
           case measure => have := HK1.out; omega
           case rel => exact ⟨(wrap64 (x18_1 + 1)), tS, H', ⟨by have := HK1.out; omega⟩, ⟨bkA BK110.out⟩, ⟨bBl HB.out⟩⟩
         ·rw [if_neg c16] at H
          exact absurd H (by simp)
        ·replace c14 := Bool.eq_false_iff.mpr c14
         subst c14
         have H1 : (some 5) = some r := by rw [if_neg (show ¬ (false = true) by decide)] at H; exact H
         clear H; have H := H1; clear H1; obtain rfl := Option.some.inj H
         have p111 : 0 ≤ (x18_1 : Int) := tB
         have q111 : x18_1 < (l0_0.length : Int) := tB
         obtain ⟨ad111, e111, hx111_0⟩ := Kd.at_string HR0_0.out x18_1 p111 q111; cases e111; replace hx111_0 := cU HB hx111_0; replace p111 := eq_true p111; replace q111 := eq_true q111
         go_wp2_with (first | ((with_reducible refine gate_callee (f := 102) rfl ?_); refine goesL_ (some 25) rfl rfl Tryz.func102 (by kernel_rfl) rfl #[.string (rdOf ByteArray.empty l0_0 x18_1)] rfl tM ?_; (with_reducible refine (b_name.calls k1 (rdOf ByteArray.empty l0_0 x18_1) false _ A13.out).mono ?_); rintro e w' ⟨rfl, ⟨nd, rfl⟩⟩; refine ⟨_, rfl, ?_⟩))
         go_ret
         exact ⟨tE, bBl HB.out⟩
       ·rw [if_neg c12] at H
        exact absurd H (by simp)
      ·rw [if_neg c11] at H
       exact absurd H (by simp)
     ·rw [if_neg c10] at H
      have c10b0 : decide (x18_1 < (l0_0.length : Int)) = false := decide_eq_false c10
      clear c10; obtain rfl := Option.some.inj H
      go_wp2
      go_ret
      exact ⟨tE, bBl HB.out⟩
end
section
def oxE (o : List ByteArray) : Nat → Nat → Int
 | 0, _ => 0
 | m + 1, i => if nameOk (rdOf ByteArray.empty o (i : Int)) = true then (if ((o.take i).any fun y => y.toList == (rdOf ByteArray.empty o (i : Int)).toList) = true then 6 else oxE o m (i + 1)) else 5
theorem i_pos (i : Nat) : 0 ≤ (i : Int) := by omega
section
variable (o : List ByteArray) (mt : List S70) (s : List S27) (p : List S89) (a4 a5 a6 : Int)
theorem box_l0 (ho : o.length ≤ 12) : ∀ (m i : Nat), i + m = o.length → Ev (fun k => b_checkOxides.l0 k o (o.length : Int) (i : Int) o mt s p a4 a5 a6) (oxE o m i)
 | 0, i, hi => by
  apply Ev.step
  simp only [b_checkOxides.l0, if_neg (show ¬ (i : Int) < (o.length : Int) by omega)]
  exact Ev.const _
 | m + 1, i, hi => by
  have ih := box_l0 ho m (i + 1) (by omega)
  apply Ev.step
  simp only [b_checkOxides.l0, if_pos (show (i : Int) < (o.length : Int) by omega), if_pos (i_pos i), if_pos (show (i : Int) ≤ (o.length : Int) by omega), wrap_succ (i_pos i) (show (i : Int) ≤ 1000000000 by omega), Int.toNat_natCast]
  refine Ev.bind (bname _) ?_
  unfold oxE
  by_cases h : nameOk (rdOf ByteArray.empty o (i : Int)) = true
  ·simp only [if_pos h]
   refine Ev.bind (bcontains _ _ (by simp; omega)) ?_
   by_cases h' : ((o.take i).any fun y => y.toList == (rdOf ByteArray.empty o (i : Int)).toList) = true
   ·simp only [if_pos h']; exact Ev.const _
   ·simp only [if_neg h']; exact ih
  ·simp only [if_neg h]; exact Ev.const _
theorem box_f : Ev (fun k => b_checkOxides.f k o mt s p a4 a5 a6) (if o.length > 12 then 3 else if o.length = 0 then 1 else oxE o o.length 0) := by
 unfold b_checkOxides.f
 by_cases h : o.length > 12
 ·simp only [if_pos h, if_pos (show (o.length : Int) > 12 by omega)]; exact Ev.const _
 ·by_cases h' : o.length = 0
  ·simp only [if_neg h, if_neg (show ¬ (o.length : Int) > 12 by omega), if_pos h', if_pos (show (o.length : Int) = 0 by omega)]; exact Ev.const _
  ·simp only [if_neg h, if_neg (show ¬ (o.length : Int) > 12 by omega), if_neg h', if_neg (show ¬ (o.length : Int) = 0 by omega)]
   exact box_l0 o mt s p a4 a5 a6 (by omega) o.length 0 (by omega)
theorem rox_l0 (ho : o.length ≤ 12) (R : Int) (hR : Ev (fun k => if (mt.length : Int) > 12 then some 3 else (if (mt.length : Int) = 0 then some 1 else rf_Check.l1 k [] 0 o mt s p a4 a5 a6)) R) :
  ∀ (m i : Nat), i + m = o.length → Ev (fun k => rf_Check.l0 k (i : Int) o mt s p a4 a5 a6) (if oxE o m i = 0 then R else oxE o m i)
 | 0, i, hi => by
  apply Ev.step
  simp only [rf_Check.l0, if_neg (show ¬ (i : Int) < (o.length : Int) by omega)]
  exact hR.cast (by simp [oxE])
 | m + 1, i, hi => by
  have ih := rox_l0 ho R hR m (i + 1) (by omega)
  apply Ev.step
  simp only [rf_Check.l0, if_pos (show (i : Int) < (o.length : Int) by omega), if_pos (i_pos i), if_pos (show (i : Int) ≤ (o.length : Int) by omega), wrap_succ (i_pos i) (show (i : Int) ≤ 1000000000 by omega), Int.toNat_natCast]
  refine Ev.bind (rname _) ?_
  unfold oxE
  by_cases h : nameOk (rdOf ByteArray.empty o (i : Int)) = true
  ·simp only [if_pos h]
   refine Ev.bind (rin _ _ (by simp; omega)) ?_
   by_cases h' : ((o.take i).any fun y => y.toList == (rdOf ByteArray.empty o (i : Int)).toList) = true
   ·simp only [if_pos h']; exact (Ev.const _).cast (by simp)
   ·simp only [if_neg h']; exact ih
  ·simp only [if_neg h]; exact (Ev.const _).cast (by simp)
def conE (l : List S27) : Nat → Nat → Int → Int
 | 0, _, acc => if acc > 1000 then 12 else 0
 | m + 1, i, acc => if badSpan (rd_T27 l (i : Int)) = true then 1 else conE l m (i + 1) (acc + (rd_T27 l (i : Int)).f0)
def matC (n : Nat) (x : S70) : Int :=
 if (0 ≤ x.f1 ∧ x.f1 ≤ 10000) ∧ (-1000 ≤ x.f2 ∧ x.f2 ≤ 1000) ∧ (0 ≤ x.f3 ∧ x.f3 ≤ 10000) ∧ (x.f3 ≤ x.f4 ∧ x.f4 ≤ 10000) ∧ (1 ≤ x.f5 ∧ x.f5 ≤ 10000) ∧ x.f6.length = n then conE x.f6 x.f6.length 0 0 else 1
theorem span_bad (x : S27) : b_span.f x.f0 x.f1 0 1000 = some (!badSpan x) := by
 rw [span_f]; unfold badSpan; simp
theorem rwithin_bad (x : S27) : rf_within.f x.f0 x.f1 0 1000 = some (!badSpan x) := by
 rw [← span_bad]; rfl
theorem bad_false {x : S27} (h : badSpan x = false) : 0 ≤ x.f0 ∧ x.f0 ≤ x.f1 ∧ x.f1 ≤ 1000 := by
 simp [badSpan] at h; omega
theorem bcon_l0 (l : List S27) (hl : l.length ≤ 12) : ∀ (m i : Nat) (acc : Int), i + m = l.length → 0 ≤ acc → acc ≤ 1000 * i → Ev (fun k => b_checkMaterial.l0 k acc l (l.length : Int) (i : Int)) (conE l m i acc)
 | 0, i, acc, hi, h0, h1 => by
  apply Ev.step
  simp only [b_checkMaterial.l0, if_neg (show ¬ (i : Int) < (l.length : Int) by omega)]
  unfold conE
  by_cases h : acc > 1000
  ·simp only [if_pos h]; exact Ev.const _
  ·simp only [if_neg h]; exact Ev.const _
 | m + 1, i, acc, hi, h0, h1 => by
  apply Ev.step
  simp only [b_checkMaterial.l0, if_pos (show (i : Int) < (l.length : Int) by omega), if_pos (i_pos i), wrap_succ (i_pos i) (show (i : Int) ≤ 1000000000 by omega), span_bad, Option.bind_some]
  unfold conE
  by_cases h : badSpan (rd_T27 l (i : Int)) = true
  ·simp only [h, Bool.not_true, Bool.false_eq_true, if_false, if_true]; exact Ev.const _
  ·have hb := bad_false (Bool.not_eq_true _ ▸ h)
   have ih := bcon_l0 l hl m (i + 1) (acc + (rd_T27 l (i : Int)).f0) (by omega) (by omega) (by omega)
   simp only [h, Bool.not_false, Bool.false_eq_true, if_true, if_false, wrap_id (x := acc + (rd_T27 l (i : Int)).f0) (by omega) (by omega)]
   exact ih
theorem rcon_l0 (n : ByteArray) (b1 b2 b3 b4 b5 : Int) (l : List S27) (hl : l.length ≤ 12) : ∀ (m i : Nat) (acc : Int), i + m = l.length → 0 ≤ acc → acc ≤ 1000 * i → Ev (fun k => rf_material.l0 k acc (i : Int) n b1 b2 b3 b4 b5 l) (conE l m i acc)
 | 0, i, acc, hi, h0, h1 => by
  apply Ev.step
  simp only [rf_material.l0, if_neg (show ¬ (i : Int) < (l.length : Int) by omega)]
  unfold conE
  by_cases h : acc > 1000
  ·simp only [if_pos h]; exact Ev.const _
  ·simp only [if_neg h]; exact Ev.const _
 | m + 1, i, acc, hi, h0, h1 => by
  apply Ev.step
  simp only [rf_material.l0, if_pos (show (i : Int) < (l.length : Int) by omega), if_pos (i_pos i), wrap_succ (i_pos i) (show (i : Int) ≤ 1000000000 by omega), rwithin_bad, Option.bind_some]
  unfold conE
  by_cases h : badSpan (rd_T27 l (i : Int)) = true
  ·simp only [h, Bool.not_true, Bool.false_eq_true, if_false, if_true]; exact Ev.const _
  ·have hb := bad_false (Bool.not_eq_true _ ▸ h)
   have ih := rcon_l0 n b1 b2 b3 b4 b5 l hl m (i + 1) (acc + (rd_T27 l (i : Int)).f0) (by omega) (by omega) (by omega)
   simp only [h, Bool.not_false, Bool.false_eq_true, if_true, if_false, wrap_id (x := acc + (rd_T27 l (i : Int)).f0) (by omega) (by omega)]
   exact ih
theorem bmat (ho : o.length ≤ 12) (x : S70) : Ev (fun k => b_checkMaterial.f k o mt s p a4 a5 a6 x.f0 x.f1 x.f2 x.f3 x.f4 x.f5 x.f6) (matC o.length x) := by
 have hj1 : Ev (fun k => b_checkMaterial.j0 k true x.f0 x.f1 x.f2 x.f3 x.f4 x.f5 x.f6) 1 := by
  apply Ev.step; simp only [b_checkMaterial.j0, if_true]; exact Ev.const _
 have hj0 : x.f6.length = o.length → Ev (fun k => b_checkMaterial.j0 k false x.f0 x.f1 x.f2 x.f3 x.f4 x.f5 x.f6) (conE x.f6 x.f6.length 0 0) := by
  intro hh
  apply Ev.step; simp only [b_checkMaterial.j0, Bool.false_eq_true, if_false]
  exact bcon_l0 x.f6 (by omega) x.f6.length 0 0 (by omega) (by omega) (by omega)
 unfold b_checkMaterial.f
 simp only [within_f, Option.bind_some, Bool.and_eq_true, decide_eq_true_eq]
 unfold matC
 by_cases h1 : 0 ≤ x.f1 ∧ x.f1 ≤ 10000
 ·by_cases h2 : -1000 ≤ x.f2 ∧ x.f2 ≤ 1000
  ·by_cases h3 : 0 ≤ x.f3 ∧ x.f3 ≤ 10000
   ·by_cases h4 : x.f3 ≤ x.f4 ∧ x.f4 ≤ 10000
    ·by_cases h5 : 1 ≤ x.f5 ∧ x.f5 ≤ 10000
     ·by_cases h6 : x.f6.length = o.length
      ·simp only [if_pos h1, if_pos h2, if_pos h3, if_pos h4, if_pos h5, h1, h2, h3, h4, h5, h6, and_self, if_true, bne_self_eq_false]
       exact (hj0 h6).cast (by rw [h6])
      ·have hb : ((x.f6.length : Int) != (o.length : Int)) = true := by simp; omega
       simp only [if_pos h1, if_pos h2, if_pos h3, if_pos h4, if_pos h5, hb]
       exact hj1.cast (by rw [if_neg (fun hh => h6 hh.2.2.2.2.2)])
     ·simp only [if_pos h1, if_pos h2, if_pos h3, if_pos h4, if_neg h5]
      exact hj1.cast (by rw [if_neg (fun hh => h5 hh.2.2.2.2.1)])
    ·simp only [if_pos h1, if_pos h2, if_pos h3, if_neg h4]
     exact hj1.cast (by rw [if_neg (fun hh => h4 hh.2.2.2.1)])
   ·simp only [if_pos h1, if_pos h2, if_neg h3]
    exact hj1.cast (by rw [if_neg (fun hh => h3 hh.2.2.1)])
  ·simp only [if_pos h1, if_neg h2]
   exact hj1.cast (by rw [if_neg (fun hh => h2 hh.2.1)])
 ·simp only [if_neg h1]
  exact hj1.cast (by rw [if_neg (fun hh => h1 hh.1)])
theorem rmat (ho : o.length ≤ 12) (x : S70) : Ev (fun k => rf_material.f k o mt s p a4 a5 a6 x.f0 x.f1 x.f2 x.f3 x.f4 x.f5 x.f6) (matC o.length x) := by
 have hj1 : Ev (fun k => rf_material.j0 k true o mt s p a4 a5 a6 x.f0 x.f1 x.f2 x.f3 x.f4 x.f5 x.f6) 1 := by
  apply Ev.step; simp only [rf_material.j0, if_true]; exact Ev.const _
 have hj0 : Ev (fun k => rf_material.j0 k false o mt s p a4 a5 a6 x.f0 x.f1 x.f2 x.f3 x.f4 x.f5 x.f6) (if x.f6.length = o.length then conE x.f6 x.f6.length 0 0 else 1) := by
  apply Ev.step; simp only [rf_material.j0, Bool.false_eq_true, if_false]
  by_cases hh : x.f6.length = o.length
  ·simp only [if_pos hh, if_pos (show (x.f6.length : Int) = (o.length : Int) by omega)]
   exact rcon_l0 x.f0 x.f1 x.f2 x.f3 x.f4 x.f5 x.f6 (by omega) x.f6.length 0 0 (by omega) (by omega) (by omega)
  ·simp only [if_neg hh, if_neg (show ¬ (x.f6.length : Int) = (o.length : Int) by omega)]; exact Ev.const _
 unfold rf_material.f matC
 by_cases h1 : x.f1 < 0
 ·simp only [if_pos h1]; exact hj1.cast (by rw [if_neg]; omega)
 ·simp only [if_neg h1]
  by_cases h2 : x.f1 > 10000
  ·simp only [if_pos h2]; exact hj1.cast (by rw [if_neg]; omega)
  ·simp only [if_neg h2]
   by_cases h3 : x.f2 < -1000
   ·simp only [if_pos h3]; exact hj1.cast (by rw [if_neg]; omega)
   ·simp only [if_neg h3]
    by_cases h4 : x.f2 > 1000
    ·simp only [if_pos h4]; exact hj1.cast (by rw [if_neg]; omega)
    ·simp only [if_neg h4]
     by_cases h5 : x.f3 < 0
     ·simp only [if_pos h5]; exact hj1.cast (by rw [if_neg]; omega)
     ·simp only [if_neg h5]
      by_cases h6 : x.f3 > 10000
      ·simp only [if_pos h6]; exact hj1.cast (by rw [if_neg]; omega)
      ·simp only [if_neg h6]
       by_cases h7 : x.f4 < x.f3
       ·simp only [if_pos h7]; exact hj1.cast (by rw [if_neg]; omega)
       ·simp only [if_neg h7]
        by_cases h8 : x.f4 > 10000
        ·simp only [if_pos h8]; exact hj1.cast (by rw [if_neg]; omega)
        ·simp only [if_neg h8]
         by_cases h9 : x.f5 < 1
         ·simp only [if_pos h9]; exact hj1.cast (by rw [if_neg]; omega)
         ·simp only [if_neg h9]
          by_cases h10 : x.f5 > 10000
          ·simp only [h10, decide_true]; exact hj1.cast (by rw [if_neg]; omega)
          ·simp only [h10, decide_false]
           refine hj0.cast ?_
           by_cases hh : x.f6.length = o.length
           ·rw [if_pos hh, if_pos (by omega)]
           ·rw [if_neg hh, if_neg (by omega)]
end
end
section
theorem name_prop (s : ByteArray) (v1 v2 v3 : Value) (w : World) : Calls Tryz.prog 104 #[.agg #[.string s, v1, v2, v3]] w fun e w' => e = .returned (.string s) ∧ Below w.heap.size w w' := by
  go_enter Tryz.func104, Tryz.ntmps104
  go_wp2
  go_ret
  exact ⟨rfl, below_alloc (Below.refl _ _) _⟩
theorem same_prop (B1 B2 B3 : Nat) (A : Option Addr) (c : Nat) (l : List S89) (i : Int) (x : S89) (Ax : Option Addr) (cx : Nat) (W : World)
    (h1 : W.cell? ⟨B1, 0, none⟩ = some (.func (.func 104) #[] #[])) (h2 : W.cell? ⟨B2, 0, none⟩ = some (.slice A l.length c)) (h3 : W.cell? ⟨B3, 0, none⟩ = some (.int .i64 i))
    (hr : Kd.C k89 W A l.length l) (hi0 : 0 ≤ i) (hi1 : i < l.length) :
    Calls Tryz.prog 183 #[.agg #[.string x.f0, .slice Ax x.f1.length cx, .int .i64 x.f2.f0, .int .i64 x.f2.f1], .pointer (some ⟨B1, 0, none⟩), .pointer (some ⟨B2, 0, none⟩), .pointer (some ⟨B3, 0, none⟩)] W fun e W' => e = .returned (.bool (x.f0.toList == (rd_T89 l i).f0.toList)) ∧ Below W.heap.size W W' := by
  obtain ⟨ad, Ay, cy, e, hc0, hc1, hc2, hc3, _, _⟩ := at_T89 hr i hi0 hi1
  cases e
  generalize rd_T89 l i = y at hc0 hc1 hc2 hc3 ⊢
  have b1 := World.block_lt_of_cell? W _ h1
  have b2 := World.block_lt_of_cell? W _ h2
  have b3 := World.block_lt_of_cell? W _ h3
  have b4 := World.block_lt_of_cell? W _ hc0
  simp only at b1 b2 b3 b4
  go_enter Tryz.func183, Tryz.ntmps183
  go_wp2_with fail
  go_region_held3 (fun w' => w'.cell? ⟨B1, 0, none⟩ = some (.func (.func 104) #[] #[]) ∧ w'.cell? ⟨B2, 0, none⟩ = some (.slice (some ad) l.length c) ∧ w'.cell? ⟨B3, 0, none⟩ = some (.int .i64 i) ∧ w'.cell? ⟨W.heap.size, 0, none⟩ = some (.string x.f0) ∧ w'.cell? ⟨W.heap.size, 1, none⟩ = some (.slice Ax x.f1.length cx) ∧ w'.cell? ⟨W.heap.size, 2, none⟩ = some (.int .i64 x.f2.f0) ∧ w'.cell? ⟨W.heap.size, 3, none⟩ = some (.int .i64 x.f2.f1) ∧ w'.cell? (ad.add (i.toNat * 4)) = some (.string y.f0) ∧ w'.cell? ⟨(ad.add (i.toNat * 4)).block, (ad.add (i.toNat * 4)).off + 1, none⟩ = some (.slice Ay y.f1.length cy) ∧ w'.cell? ⟨(ad.add (i.toNat * 4)).block, (ad.add (i.toNat * 4)).off + 2, none⟩ = some (.int .i64 y.f2.f0) ∧ w'.cell? ⟨(ad.add (i.toNat * 4)).block, (ad.add (i.toNat * 4)).off + 3, none⟩ = some (.int .i64 y.f2.f1)) (first | (simp [*, go_sem]; done) | (go_split_ands; refine ⟨?_, ?_, ?_, ?_, ?_, ?_, ?_, ?_, ?_, ?_, ?_⟩ <;> first | assumption | exact pw_cell_below hb (by assumption)))
    (first | (go_at_call 104; refine (name_prop _ _ _ _ _).mono ?_; rintro e w' ⟨rfl, hb⟩))
  all_goals
    go_wp2
    go_ret
    refine ⟨rfl, ?_⟩
    repeat (first | exact below_drew (below_alloc (Below.refl _ _) _) | refine below_trans' ?_ (by assumption))
def x_twiceP.f (l : List S89) (i : Int) : Option Bool := if 0 ≤ i then if i < l.length then some ((l.take i.toNat).any fun x => x.f0.toList == (rd_T89 l i).f0.toList) else none else none
theorem x_twiceP.calls (A0 : Option Addr) (c0 : Nat) (l0 : List S89) (a1 : Int) (r : Bool) (w : World) (hr0 : Kd.C k89 w A0 l0.length l0) (hc0 : l0.length ≤ c0) (h : x_twiceP.f l0 a1 = some r) :
    Calls Tryz.prog 103 #[.slice A0 l0.length c0, .int .i64 a1, .func (.func 104) #[] #[]] w fun e w' => e = .returned (.bool r) ∧ Below w.heap.size w w' := by
  unfold x_twiceP.f at h
  by_cases hi0 : 0 ≤ a1
  · rw [if_pos hi0] at h
    by_cases hi1 : a1 < l0.length
    · rw [if_pos hi1] at h
      have HR := Sd.mk (Option.some.inj h)
      have HC := Sd.mk hr0
      clear h hr0
      obtain ⟨i, rfl⟩ := Int.eq_ofNat_of_zero_le hi0
      have hi2 : i < l0.length := by omega
      have hi3 : ¬ (i : Int) > (c0 : Int) := by omega
      have hlen : (l0.take i).length = i := by simp; omega
      have HL := Sd.mk hlen
      have HK := fun (W : World) (B1 B2 B3 : Nat) (h1 : W.cell? ⟨B1, 0, none⟩ = some (.func (.func 104) #[] #[])) (h2 : W.cell? ⟨B2, 0, none⟩ = some (.slice A0 l0.length c0)) (h3 : W.cell? ⟨B3, 0, none⟩ = some (.int .i64 (i : Int))) (hb : Below w.heap.size w W) =>
        containsFunc_prop (fun x => x.f0.toList == (rd_T89 l0 (i : Int)).f0.toList) 183 #[.pointer (some ⟨B1, 0, none⟩), .pointer (some ⟨B2, 0, none⟩), .pointer (some ⟨B3, 0, none⟩)] (enters_of Tryz.func183 (by kernel_rfl) rfl)
          A0 c0 (l0.take i) W (Kd.C_below (Kd.C_take HC.out (by omega)) hb)
          (fun x _ Ax cx W' hb' => same_prop B1 B2 B3 A0 c0 l0 (i : Int) x Ax cx W' (pw_cell_below hb' h1) (pw_cell_below hb' h2) (pw_cell_below hb' h3) (Kd.C_below (Kd.C_below HC.out hb) hb') hi0 hi1)
      have HK' := Sd.mk HK
      clear HK hlen
      go_enter Tryz.func103, Tryz.ntmps103
      go_wp2_with fail
      have hc := HK'.out (((w.alloc (.cells #[.slice A0 l0.length c0] 25)).alloc (.cells #[.int .i64 (i : Int)] 3)).alloc (.cells #[.func (.func 104) #[] #[]] 144)) (w.heap.size + 1 + 1) w.heap.size (w.heap.size + 1) (by simp [go_sem]) (by simp [go_sem]) (by simp [go_sem]) (below_alloc (below_alloc (below_alloc (Below.refl _ _) _) _) _)
      rw [HL.out] at hc
      refine hc.mono ?_
      clear hc HK'
      rintro e w1 ⟨rfl, hb⟩
      go_wp2
      go_ret
      exact ⟨by rw [← HR.out]; rfl, below_trans' (below_alloc (below_alloc (below_alloc (Below.refl _ _) _) _) _) hb⟩
    · rw [if_neg hi1] at h; cases h
  · rw [if_neg hi0] at h; cases h
theorem name_mat (s : ByteArray) (v1 v2 v3 v4 v5 v6 : Value) (w : World) : Calls Tryz.prog 179 #[.agg #[.string s, v1, v2, v3, v4, v5, v6]] w fun e w' => e = .returned (.string s) ∧ Below w.heap.size w w' := by
  go_enter Tryz.func179, Tryz.ntmps179
  go_wp2
  go_ret
  exact ⟨rfl, below_alloc (Below.refl _ _) _⟩
theorem same_mat (B1 B2 B3 : Nat) (A : Option Addr) (c : Nat) (l : List S70) (i : Int) (x : S70) (Ax : Option Addr) (cx : Nat) (W : World)
    (h1 : W.cell? ⟨B1, 0, none⟩ = some (.func (.func 179) #[] #[])) (h2 : W.cell? ⟨B2, 0, none⟩ = some (.slice A l.length c)) (h3 : W.cell? ⟨B3, 0, none⟩ = some (.int .i64 i))
    (hr : Kd.C k70 W A l.length l) (hi0 : 0 ≤ i) (hi1 : i < l.length) :
    Calls Tryz.prog 210 #[.agg #[.string x.f0, .int .i64 x.f1, .int .i64 x.f2, .int .i64 x.f3, .int .i64 x.f4, .int .i64 x.f5, .slice Ax x.f6.length cx], .pointer (some ⟨B1, 0, none⟩), .pointer (some ⟨B2, 0, none⟩), .pointer (some ⟨B3, 0, none⟩)] W fun e W' => e = .returned (.bool (x.f0.toList == (rd_T70 l i).f0.toList)) ∧ Below W.heap.size W W' := by
  obtain ⟨ad, Ay, cy, e, hc0, hc1, hc2, hc3, hc4, hc5, hc6, _, _⟩ := at_T70 hr i hi0 hi1
  cases e
  generalize rd_T70 l i = y at hc0 hc1 hc2 hc3 hc4 hc5 hc6 ⊢
  have b1 := World.block_lt_of_cell? W _ h1
  have b2 := World.block_lt_of_cell? W _ h2
  have b3 := World.block_lt_of_cell? W _ h3
  have b4 := World.block_lt_of_cell? W _ hc0
  simp only at b1 b2 b3 b4
  go_enter Tryz.func210, Tryz.ntmps210
  go_wp2_with fail
  go_region_held3 (fun w' => w'.cell? ⟨B1, 0, none⟩ = some (.func (.func 179) #[] #[]) ∧ w'.cell? ⟨B2, 0, none⟩ = some (.slice (some ad) l.length c) ∧ w'.cell? ⟨B3, 0, none⟩ = some (.int .i64 i) ∧ w'.cell? ⟨W.heap.size, 0, none⟩ = some (.string x.f0) ∧ w'.cell? ⟨W.heap.size, 1, none⟩ = some (.int .i64 x.f1) ∧ w'.cell? ⟨W.heap.size, 2, none⟩ = some (.int .i64 x.f2) ∧ w'.cell? ⟨W.heap.size, 3, none⟩ = some (.int .i64 x.f3) ∧ w'.cell? ⟨W.heap.size, 4, none⟩ = some (.int .i64 x.f4) ∧ w'.cell? ⟨W.heap.size, 5, none⟩ = some (.int .i64 x.f5) ∧ w'.cell? ⟨W.heap.size, 6, none⟩ = some (.slice Ax x.f6.length cx) ∧ w'.cell? (ad.add (i.toNat * 7)) = some (.string y.f0) ∧ w'.cell? ⟨(ad.add (i.toNat * 7)).block, (ad.add (i.toNat * 7)).off + 1, none⟩ = some (.int .i64 y.f1) ∧ w'.cell? ⟨(ad.add (i.toNat * 7)).block, (ad.add (i.toNat * 7)).off + 2, none⟩ = some (.int .i64 y.f2) ∧ w'.cell? ⟨(ad.add (i.toNat * 7)).block, (ad.add (i.toNat * 7)).off + 3, none⟩ = some (.int .i64 y.f3) ∧ w'.cell? ⟨(ad.add (i.toNat * 7)).block, (ad.add (i.toNat * 7)).off + 4, none⟩ = some (.int .i64 y.f4) ∧ w'.cell? ⟨(ad.add (i.toNat * 7)).block, (ad.add (i.toNat * 7)).off + 5, none⟩ = some (.int .i64 y.f5) ∧ w'.cell? ⟨(ad.add (i.toNat * 7)).block, (ad.add (i.toNat * 7)).off + 6, none⟩ = some (.slice Ay y.f6.length cy)) (first | (simp [*, go_sem]; done) | (go_split_ands; refine ⟨?_, ?_, ?_, ?_, ?_, ?_, ?_, ?_, ?_, ?_, ?_, ?_, ?_, ?_, ?_, ?_, ?_⟩ <;> first | assumption | exact pw_cell_below hb (by assumption)))
    (first | (go_at_call 179; refine (name_mat _ _ _ _ _ _ _ _).mono ?_; rintro e w' ⟨rfl, hb⟩))
  all_goals
    go_wp2
    go_ret
    refine ⟨rfl, ?_⟩
    repeat (first | exact below_drew (below_alloc (Below.refl _ _) _) | refine below_trans' ?_ (by assumption))
def x_twiceM.f (l : List S70) (i : Int) : Option Bool := if 0 ≤ i then if i < l.length then some ((l.take i.toNat).any fun x => x.f0.toList == (rd_T70 l i).f0.toList) else none else none
theorem x_twiceM.calls (A0 : Option Addr) (c0 : Nat) (l0 : List S70) (a1 : Int) (r : Bool) (w : World) (hr0 : Kd.C k70 w A0 l0.length l0) (hc0 : l0.length ≤ c0) (h : x_twiceM.f l0 a1 = some r) :
    Calls Tryz.prog 178 #[.slice A0 l0.length c0, .int .i64 a1, .func (.func 179) #[] #[]] w fun e w' => e = .returned (.bool r) ∧ Below w.heap.size w w' := by
  unfold x_twiceM.f at h
  by_cases hi0 : 0 ≤ a1
  · rw [if_pos hi0] at h
    by_cases hi1 : a1 < l0.length
    · rw [if_pos hi1] at h
      have HR := Sd.mk (Option.some.inj h)
      have HC := Sd.mk hr0
      clear h hr0
      obtain ⟨i, rfl⟩ := Int.eq_ofNat_of_zero_le hi0
      have hi2 : i < l0.length := by omega
      have hi3 : ¬ (i : Int) > (c0 : Int) := by omega
      have hlen : (l0.take i).length = i := by simp; omega
      have HL := Sd.mk hlen
      have HK := fun (W : World) (B1 B2 B3 : Nat) (h1 : W.cell? ⟨B1, 0, none⟩ = some (.func (.func 179) #[] #[])) (h2 : W.cell? ⟨B2, 0, none⟩ = some (.slice A0 l0.length c0)) (h3 : W.cell? ⟨B3, 0, none⟩ = some (.int .i64 (i : Int))) (hb : Below w.heap.size w W) =>
        containsFunc_mat (fun x => x.f0.toList == (rd_T70 l0 (i : Int)).f0.toList) 210 #[.pointer (some ⟨B1, 0, none⟩), .pointer (some ⟨B2, 0, none⟩), .pointer (some ⟨B3, 0, none⟩)] (enters_of Tryz.func210 (by kernel_rfl) rfl)
          A0 c0 (l0.take i) W (Kd.C_below (Kd.C_take HC.out (by omega)) hb)
          (fun x _ Ax cx W' hb' => same_mat B1 B2 B3 A0 c0 l0 (i : Int) x Ax cx W' (pw_cell_below hb' h1) (pw_cell_below hb' h2) (pw_cell_below hb' h3) (Kd.C_below (Kd.C_below HC.out hb) hb') hi0 hi1)
      have HK' := Sd.mk HK
      clear HK hlen
      go_enter Tryz.func178, Tryz.ntmps178
      go_wp2_with fail
      have hc := HK'.out (((w.alloc (.cells #[.slice A0 l0.length c0] 23)).alloc (.cells #[.int .i64 (i : Int)] 3)).alloc (.cells #[.func (.func 179) #[] #[]] 198)) (w.heap.size + 1 + 1) w.heap.size (w.heap.size + 1) (by simp [go_sem]) (by simp [go_sem]) (by simp [go_sem]) (below_alloc (below_alloc (below_alloc (Below.refl _ _) _) _) _)
      rw [HL.out] at hc
      refine hc.mono ?_
      clear hc HK'
      rintro e w1 ⟨rfl, hb⟩
      go_wp2
      go_ret
      exact ⟨by rw [← HR.out]; rfl, below_trans' (below_alloc (below_alloc (below_alloc (Below.refl _ _) _) _) _) hb⟩
    · rw [if_neg hi1] at h; cases h
  · rw [if_neg hi0] at h; cases h
end
section
def b_checkMaterials.l0 : Nat → List (S70) → Int → Int → List ByteArray → List (S70) → List (S27) → List (S89) → Int → Int → Int → Option (Int)
 | 0, _, _, _, _, _, _, _, _, _, _ => none
 | k + 1, x17, x18, x19, x127q0, x127q1, x127q2, x127q3, x127q4, x127q5, x127q6 => if x19 < x18 then (if 0 ≤ x19 then (if x19 < (x17.length : Int) then ((b_name.f k ((rd_T70 x17 x19).f0)).bind fun t129 => (if t129 = true then ((x_twiceM.f x127q1 x19).bind fun t130 => (if t130 = true then (some 6) else ((b_checkMaterial.f k x127q0 x127q1 x127q2 x127q3 x127q4 x127q5 x127q6 ((rd_T70 x17 x19).f0) ((rd_T70 x17 x19).f1) ((rd_T70 x17 x19).f2) ((rd_T70 x17 x19).f3) ((rd_T70 x17 x19).f4) ((rd_T70 x17 x19).f5) ((rd_T70 x17 x19).f6)).bind fun t131 => (if t131 = 0 then (b_checkMaterials.l0 k x17 x18 (wrap64 (x19 + 1)) x127q0 x127q1 x127q2 x127q3 x127q4 x127q5 x127q6) else (some t131))))) else (some 5))) else (none)) else (none)) else (some 0)
def b_checkMaterials.f (k : Nat) (l0_0 : List ByteArray) (l0_1 : List (S70)) (l0_2 : List (S27)) (l0_3 : List (S89)) (a0_4 : Int) (a0_5 : Int) (a0_6 : Int) : Option (Int) := if (l0_1.length : Int) > 12 then (some 3) else (if (l0_1.length : Int) = 0 then (some 1) else (b_checkMaterials.l0 k l0_1 (l0_1.length : Int) 0 l0_0 l0_1 l0_2 l0_3 a0_4 a0_5 a0_6))
theorem b_checkMaterials.mono_l : ∀ k, (∀ y0 y1 y2 y3 y4 y5 y6 y7 y8 y9, LeO (b_checkMaterials.l0 k y0 y1 y2 y3 y4 y5 y6 y7 y8 y9) (b_checkMaterials.l0 (k + 1) y0 y1 y2 y3 y4 y5 y6 y7 y8 y9))
 | 0 => fun _ _ _ _ _ _ _ _ _ _ r h => by simp [b_checkMaterials.l0] at h
 | k + 1 => by
  have ih0 := b_checkMaterials.mono_l k
  ·intro y0 y1 y2 y3 y4 y5 y6 y7 y8 y9
   unfold b_checkMaterials.l0
   repeat' first
   | (with_reducible exact ih0 _ _ _ _ _ _ _ _ _ _)
   | (with_reducible exact b_checkMaterial.mono _ _ _ _ _ _ _ _ _ _ _ _ _ _ _)
   | (with_reducible exact b_name.mono _ _)
   | (with_reducible exact LeO.refl _)
   | (with_reducible exact LeO.none _)
   | (with_reducible refine LeO.ite ?_ ?_)
   | (with_reducible refine LeO.bind ?_ (fun _ => ?_))
   | exact LeO.none _
   | refine LeO.ite ?_ ?_
   | refine LeO.bind ?_ (fun _ => ?_)
theorem b_checkMaterials.mono : ∀ a0 a1 a2 a3 a4 a5 a6 k, LeO (b_checkMaterials.f k a0 a1 a2 a3 a4 a5 a6) (b_checkMaterials.f (k + 1) a0 a1 a2 a3 a4 a5 a6) := by
 intro a0 a1 a2 a3 a4 a5 a6 k
 have ih0 := b_checkMaterials.mono_l k
 unfold b_checkMaterials.f
 repeat' first
   | (with_reducible exact ih0 _ _ _ _ _ _ _ _ _ _)
   | (with_reducible exact b_checkMaterial.mono _ _ _ _ _ _ _ _ _ _ _ _ _ _ _)
   | (with_reducible exact b_name.mono _ _)
   | (with_reducible exact LeO.refl _)
   | (with_reducible exact LeO.none _)
   | (with_reducible refine LeO.ite ?_ ?_)
   | (with_reducible refine LeO.bind ?_ (fun _ => ?_))
   | exact LeO.none _
   | refine LeO.ite ?_ ?_
   | refine LeO.bind ?_ (fun _ => ?_)
theorem b_checkMaterials.calls (k : Nat) (A0_0 : Option Addr) (c0_0 : Nat) (l0_0 : List ByteArray) (A0_1 : Option Addr) (c0_1 : Nat) (l0_1 : List (S70)) (A0_2 : Option Addr) (c0_2 : Nat) (l0_2 : List (S27)) (A0_3 : Option Addr) (c0_3 : Nat) (l0_3 : List (S89)) (a0_4 : Int) (a0_5 : Int) (a0_6 : Int) (r : Int) (w : World) (hr0_0 : Kd.C Kd.string w A0_0 l0_0.length l0_0) (hc0_0 : l0_0.length ≤ c0_0) (hr0_1 : Kd.C k70 w A0_1 l0_1.length l0_1) (hc0_1 : l0_1.length ≤ c0_1) (hr0_2 : Kd.C k27 w A0_2 l0_2.length l0_2) (hc0_2 : l0_2.length ≤ c0_2) (hr0_3 : Kd.C k89 w A0_3 l0_3.length l0_3) (hc0_3 : l0_3.length ≤ c0_3) (h : b_checkMaterials.f k l0_0 l0_1 l0_2 l0_3 a0_4 a0_5 a0_6 = some r) :
  Calls Tryz.prog 98 #[.agg #[.slice A0_0 l0_0.length c0_0, .slice A0_1 l0_1.length c0_1, .slice A0_2 l0_2.length c0_2, .slice A0_3 l0_3.length c0_3, .int .i64 a0_4, .int .i64 a0_5, .int .i64 a0_6]] w fun e w' => e = .returned (.int .i64 r) ∧ Below w.heap.size w w' := by
 have hu29 := Tryz.underlying29; have hu70 := Tryz.underlying70; have HR0_0 := Sd.mk hr0_0; have HC0_0 := Sd.mk hc0_0; clear hr0_0 hc0_0; have HR0_1 := Sd.mk hr0_1; have HC0_1 := Sd.mk hc0_1; clear hr0_1 hc0_1; have HR0_2 := Sd.mk hr0_2; have HC0_2 := Sd.mk hc0_2; clear hr0_2 hc0_2; have HR0_3 := Sd.mk hr0_3; have HC0_3 := Sd.mk hc0_3; clear hr0_3 hc0_3; have HB := Sd.mk (Below.refl w.heap.size w)
 have H : (if (l0_1.length : Int) > 12 then (some 3) else (if (l0_1.length : Int) = 0 then (some 1) else (b_checkMaterials.l0 k l0_1 (l0_1.length : Int) 0 l0_0 l0_1 l0_2 l0_3 a0_4 a0_5 a0_6))) = some r := h
 clear h
 by_cases c2 : (l0_1.length : Int) > 12
 ·rw [if_pos c2] at H
  have c2b0 : decide (12 < (l0_1.length : Int)) = true := decide_eq_true c2
  have c2b1 : decide (12 < l0_1.length) = true := decide_eq_true (by omega)
  clear c2; obtain rfl := Option.some.inj H
  go_enter Tryz.func98, Tryz.ntmps98
  go_wp2_with (first | ((with_reducible refine gate_dst (N := 1) rfl ?_); refine box_event ?hg (N := 1) ?hd (cs := #[.slice A0_0 l0_0.length c0_0, .slice A0_1 l0_1.length c0_1, .slice A0_2 l0_2.length c0_2, .slice A0_3 l0_3.length c0_3, .int .i64 a0_4, .int .i64 a0_5, .int .i64 a0_6]) (t := 29) ?hr ?_; (case hd => rfl); (case hg => rfl); (case hr => exact tG); intro gb126 hg w3 hbox hb; have BK126 := Sd.mk (hbox); have GW126 := Sd.mk (bSz hg (bBl HB.out)); have GE126 := Sd.mk (bSz hg (bBl HB.out)); replace HB := Sd.mk (below_step (bBl HB.out) hb); clear hb hbox hg; obtain ⟨u4_0, u4_1, u4_2, u4_3, u4_4, u4_5, u4_6, o4_0, o4_1, o4_2, o4_3, o4_4, o4_5, o4_6⟩ := bc7 (w := w3) BK126.out))
  go_ret
  exact ⟨tE, bBl HB.out⟩
 ·rw [if_neg c2] at H
  have c2b0 : decide (12 < (l0_1.length : Int)) = false := decide_eq_false c2
  have c2b1 : decide (12 < l0_1.length) = false := decide_eq_false (by omega)
  clear c2
  by_cases c5 : (l0_1.length : Int) = 0
  ·rw [if_pos c5] at H
   have c5b0 : ((l0_1.length : Int) == 0) = true := beq_iff_eq.mpr c5
   have c5b1 : ((l0_1.length : Int) != 0) = false := bne_eq_false_iff_eq.mpr c5
   clear c5; obtain rfl := Option.some.inj H
   go_enter Tryz.func98, Tryz.ntmps98
   go_wp2_with (first | ((with_reducible refine gate_dst (N := 1) rfl ?_); refine box_event ?hg (N := 1) ?hd (cs := #[.slice A0_0 l0_0.length c0_0, .slice A0_1 l0_1.length c0_1, .slice A0_2 l0_2.length c0_2, .slice A0_3 l0_3.length c0_3, .int .i64 a0_4, .int .i64 a0_5, .int .i64 a0_6]) (t := 29) ?hr ?_; (case hd => rfl); (case hg => rfl); (case hr => exact tG); intro gb126 hg w6 hbox hb; have BK126 := Sd.mk (hbox); have GW126 := Sd.mk (bSz hg (bBl HB.out)); have GE126 := Sd.mk (bSz hg (bBl HB.out)); replace HB := Sd.mk (below_step (bBl HB.out) hb); clear hb hbox hg; obtain ⟨u7_0, u7_1, u7_2, u7_3, u7_4, u7_5, u7_6, o7_0, o7_1, o7_2, o7_3, o7_4, o7_5, o7_6⟩ := bc7 (w := w6) BK126.out))
   go_ret
   exact ⟨tE, bBl HB.out⟩
  ·rw [if_neg c5] at H
   have c5b0 : ((l0_1.length : Int) == 0) = false := beq_eq_false_iff_ne.mpr c5
   have c5b1 : ((l0_1.length : Int) != 0) = true := bne_iff_ne.mpr c5
   have c5b2 : ¬ (l0_1 = []) := fun h_ => c5 (by rw [h_]; rfl)
   have H' := Sd.mk H; clear H
   go_enter Tryz.func98, Tryz.ntmps98
   go_wp2_with (first | ((with_reducible refine gate_dst (N := 1) rfl ?_); refine box_event ?hg (N := 1) ?hd (cs := #[.slice A0_0 l0_0.length c0_0, .slice A0_1 l0_1.length c0_1, .slice A0_2 l0_2.length c0_2, .slice A0_3 l0_3.length c0_3, .int .i64 a0_4, .int .i64 a0_5, .int .i64 a0_6]) (t := 29) ?hr ?_; (case hd => rfl); (case hg => rfl); (case hr => exact tG); intro gb126 hg w8 hbox hb; have BK126 := Sd.mk (hbox); have GW126 := Sd.mk (bSz hg (bBl HB.out)); have GE126 := Sd.mk (bSz hg (bBl HB.out)); replace HB := Sd.mk (below_step (bBl HB.out) hb); clear hb hbox hg; obtain ⟨u9_0, u9_1, u9_2, u9_3, u9_4, u9_5, u9_6, o9_0, o9_1, o9_2, o9_3, o9_4, o9_5, o9_6⟩ := bc7 (w := w8) BK126.out))
   go_loopg [19] k (fun kq v19 w' => ∃ (x19_1 : Int), v19 = .int .i64 x19_1 ∧ Sd (b_checkMaterials.l0 kq l0_1 (l0_1.length : Int) x19_1 l0_0 l0_1 l0_2 l0_3 a0_4 a0_5 a0_6 = some r) ∧ Sd (kq ≤ k) ∧ Sd (w'.heap[gb126]? = some (.cells #[(.slice A0_0 l0_0.length c0_0), (.slice A0_1 l0_1.length c0_1), (.slice A0_2 l0_2.length c0_2), (.slice A0_3 l0_3.length c0_3), .int .i64 a0_4, .int .i64 a0_5, .int .i64 a0_6] 29 (0, 0))) ∧ Sd (Below w.heap.size w w'))
   case atStart => exact ⟨(0), tS, H', ⟨Nat.le_refl _⟩, ⟨bkA BK126.out⟩, ⟨bBl HB.out⟩⟩
   case round =>
    clear H'; (try clear c2); (try clear c2b0); (try clear c2b1); (try clear p2); (try clear c5); (try clear c5b0); (try clear c5b1); (try clear c5b2); (try clear c9); (try clear u4_0 u4_1 u4_2 u4_3 u4_4 u4_5 u4_6); (try clear u7_0 u7_1 u7_2 u7_3 u7_4 u7_5 u7_6); (try clear u9_0 u9_1 u9_2 u9_3 u9_4 u9_5 u9_6); (try clear o4_0 o4_1 o4_2 o4_3 o4_4 o4_5 o4_6); (try clear o7_0 o7_1 o7_2 o7_3 o7_4 o7_5 o7_6); (try clear o9_0 o9_1 o9_2 o9_3 o9_4 o9_5 o9_6); obtain ⟨x19_1, rfl, HA, HK1, BK126, HB⟩ := hrel
    cases gk with
    | zero => exact absurd HA.out (by simp [b_checkMaterials.l0])
    | succ k1 =>
     have H := HA.out; clear HA
     simp only [b_checkMaterials.l0] at H
     by_cases c10 : x19_1 < (l0_1.length : Int)
     ·rw [if_pos c10] at H
      have c10b0 : decide (x19_1 < (l0_1.length : Int)) = true := decide_eq_true c10
      clear c10
      by_cases c11 : 0 ≤ x19_1
      ·rw [if_pos c11] at H
       have c11b0 : decide (0 ≤ x19_1) = true := decide_eq_true c11
       clear c11
       by_cases c12 : x19_1 < (l0_1.length : Int)
       ·rw [if_pos c12] at H
        have c12b0 : decide (x19_1 < (l0_1.length : Int)) = true := decide_eq_true c12
        clear c12; replace H := Option.bind_eq_some_iff.mp H; obtain ⟨t129, A130, H⟩ := H
        try dsimp only at H
        have A13 := Sd.mk A130; clear A130
        by_cases c14 : t129 = true
        ·subst c14
         have H1 : ((x_twiceM.f l0_1 x19_1).bind fun t130 => (if t130 = true then (some 6) else ((b_checkMaterial.f k1 l0_0 l0_1 l0_2 l0_3 a0_4 a0_5 a0_6 ((rd_T70 l0_1 x19_1).f0) ((rd_T70 l0_1 x19_1).f1) ((rd_T70 l0_1 x19_1).f2) ((rd_T70 l0_1 x19_1).f3) ((rd_T70 l0_1 x19_1).f4) ((rd_T70 l0_1 x19_1).f5) ((rd_T70 l0_1 x19_1).f6)).bind fun t131 => (if t131 = 0 then (b_checkMaterials.l0 k1 l0_1 (l0_1.length : Int) (wrap64 (x19_1 + 1)) l0_0 l0_1 l0_2 l0_3 a0_4 a0_5 a0_6) else (some t131))))) = some r := by rw [if_pos rfl] at H; exact H
         clear H; have H := H1; clear H1; replace H := Option.bind_eq_some_iff.mp H; obtain ⟨t130, A150, H⟩ := H
         try dsimp only at H
         have A15 := Sd.mk A150; clear A150
         by_cases c16 : t130 = true
         ·subst c16
          have H1 : (some 6) = some r := by rw [if_pos rfl] at H; exact H
          clear H; have H := H1; clear H1; obtain rfl := Option.some.inj H
          have p127 : 0 ≤ (x19_1 : Int) := tB
          have q127 : x19_1 < (l0_1.length : Int) := tB
          obtain ⟨ad127, A127_6, c127_6, e127, hx127_0, hx127_1, hx127_2, hx127_3, hx127_4, hx127_5, hx127_6, hl127_6, hi127_6⟩ := at_T70 HR0_1.out x19_1 p127 q127; cases e127; replace hx127_0 := cU HB hx127_0; replace hx127_1 := cU HB hx127_1; replace hx127_2 := cU HB hx127_2; replace hx127_3 := cU HB hx127_3; replace hx127_4 := cU HB hx127_4; replace hx127_5 := cU HB hx127_5; replace hx127_6 := cU HB hx127_6; have HR127_6 := Sd.mk hi127_6; have HC127_6 := Sd.mk hl127_6; clear hi127_6 hl127_6; replace p127 := eq_true p127; replace q127 := eq_true q127
          go_wp2_with (first | ((with_reducible refine gate_dst (N := 4) rfl ?_); refine box_event ?hg (N := 4) ?hd (cs := #[.string (⟨#[]⟩ : ByteArray), .int .i64 0, .int .i64 0, .int .i64 0, .int .i64 0, .int .i64 0, .slice none 0 0]) (t := 70) ?hr ?_; (case hd => rfl); (case hg => rfl); (case hr => exact tG); intro gb128 hg w17 hbox hb; have BK128 := Sd.mk (hbox); have GW128 := Sd.mk (bSz hg (bBl HB.out)); have GE128 := Sd.mk (bSz hg (bBl HB.out)); replace HB := Sd.mk (below_step (bBl HB.out) hb); have NB126_128 := Sd.mk (bNl hg (bkA BK126.out)); have NB128_126 := Sd.mk (bNg hg (bkA BK126.out)); replace BK126 := Sd.mk (blk_below (bkA BK126.out) hb); clear hb hbox hg; have hnb18 := NB128_126.out; have hnc18 := NB126_128.out; obtain ⟨u19_0, u19_1, u19_2, u19_3, u19_4, u19_5, u19_6, o19_0, o19_1, o19_2, o19_3, o19_4, o19_5, o19_6⟩ := bc7 (w := w17) BK128.out) | ((with_reducible refine gate_callee (f := 102) rfl ?_); refine goesL_ (some 27) rfl rfl Tryz.func102 (by kernel_rfl) rfl #[.string ((rd_T70 l0_1 x19_1).f0)] rfl tM ?_; (with_reducible refine (b_name.calls k1 ((rd_T70 l0_1 x19_1).f0) true _ A13.out).mono ?_); rintro e w' ⟨rfl, ⟨nd, rfl⟩⟩; refine ⟨_, rfl, ?_⟩; obtain ⟨u20_0, u20_1, u20_2, u20_3, u20_4, u20_5, u20_6, o20_0, o20_1, o20_2, o20_3, o20_4, o20_5, o20_6⟩ := bc7 (w := w17) BK126.out) | ((with_reducible refine gate_callee (f := 178) rfl ?_); refine goesL_ (some 33) rfl rfl Tryz.func178 (by kernel_rfl) rfl #[.slice (some ad127) l0_1.length c0_1, .int .i64 x19_1, .func (.func 179) #[] #[]] rfl tM ?_; (with_reducible refine (x_twiceM.calls _ _ l0_1 x19_1 true _ (Kd.C_below HR0_1.out (bBl HB.out)) HC0_1.out A15.out).mono ?_); rintro e w21 ⟨rfl, hb⟩; refine ⟨_, rfl, ?_⟩; replace BK126 := Sd.mk (blk_below (g := gb126) (o := .cells #[.slice A0_0 l0_0.length c0_0, .slice (some ad127) l0_1.length c0_1, .slice A0_2 l0_2.length c0_2, .slice A0_3 l0_3.length c0_3, .int .i64 a0_4, .int .i64 a0_5, .int .i64 a0_6] 29 (0, 0)) (by refine bkZ ?_; refine blk_far ?_ NB126_128.out _; refine bkZ ?_; refine blk_far ?_ NB126_128.out _; refine bkZ ?_; refine blk_far ?_ NB126_128.out _; refine bkZ ?_; refine blk_far ?_ NB126_128.out _; refine bkZ ?_; refine blk_far ?_ NB126_128.out _; refine bkZ ?_; refine blk_far ?_ NB126_128.out _; refine bkZ ?_; refine blk_far ?_ NB126_128.out _; refine bkZ ?_; exact BK126.out) hb); replace BK128 := Sd.mk (blk_below (g := gb128) (o := .cells #[.string ((rd_T70 l0_1 x19_1).f0), .int .i64 ((rd_T70 l0_1 x19_1).f1), .int .i64 ((rd_T70 l0_1 x19_1).f2), .int .i64 ((rd_T70 l0_1 x19_1).f3), .int .i64 ((rd_T70 l0_1 x19_1).f4), .int .i64 ((rd_T70 l0_1 x19_1).f5), .slice A127_6 ((rd_T70 l0_1 x19_1).f6).length c127_6] 70 (0, 0)) (by refine bkZ ?_; refine blk_put (cs := #[.string ((rd_T70 l0_1 x19_1).f0), .int .i64 ((rd_T70 l0_1 x19_1).f1), .int .i64 ((rd_T70 l0_1 x19_1).f2), .int .i64 ((rd_T70 l0_1 x19_1).f3), .int .i64 ((rd_T70 l0_1 x19_1).f4), .int .i64 ((rd_T70 l0_1 x19_1).f5), .slice none 0 0]) ?_ 6 _ rfl; refine bkZ ?_; refine blk_put (cs := #[.string ((rd_T70 l0_1 x19_1).f0), .int .i64 ((rd_T70 l0_1 x19_1).f1), .int .i64 ((rd_T70 l0_1 x19_1).f2), .int .i64 ((rd_T70 l0_1 x19_1).f3), .int .i64 ((rd_T70 l0_1 x19_1).f4), .int .i64 0, .slice none 0 0]) ?_ 5 _ rfl; refine bkZ ?_; refine blk_put (cs := #[.string ((rd_T70 l0_1 x19_1).f0), .int .i64 ((rd_T70 l0_1 x19_1).f1), .int .i64 ((rd_T70 l0_1 x19_1).f2), .int .i64 ((rd_T70 l0_1 x19_1).f3), .int .i64 0, .int .i64 0, .slice none 0 0]) ?_ 4 _ rfl; refine bkZ ?_; refine blk_put (cs := #[.string ((rd_T70 l0_1 x19_1).f0), .int .i64 ((rd_T70 l0_1 x19_1).f1), .int .i64 ((rd_T70 l0_1 x19_1).f2), .int .i64 0, .int .i64 0, .int .i64 0, .slice none 0 0]) ?_ 3 _ rfl; refine bkZ ?_; refine blk_put (cs := #[.string ((rd_T70 l0_1 x19_1).f0), .int .i64 ((rd_T70 l0_1 x19_1).f1), .int .i64 0, .int .i64 0, .int .i64 0, .int .i64 0, .slice none 0 0]) ?_ 2 _ rfl; refine bkZ ?_; refine blk_put (cs := #[.string ((rd_T70 l0_1 x19_1).f0), .int .i64 0, .int .i64 0, .int .i64 0, .int .i64 0, .int .i64 0, .slice none 0 0]) ?_ 1 _ rfl; refine bkZ ?_; refine blk_put (cs := #[.string (⟨#[]⟩ : ByteArray), .int .i64 0, .int .i64 0, .int .i64 0, .int .i64 0, .int .i64 0, .slice none 0 0]) ?_ 0 _ rfl; refine bkZ ?_; exact BK128.out) hb); replace HB := Sd.mk (below_step (bBl HB.out) hb); (try clear hb); (try clear hb2); (try clear hk); (try clear hi)))
          go_ret
          exact ⟨tE, bBl HB.out⟩
         ·replace c16 := Bool.eq_false_iff.mpr c16
          subst c16
          have H1 : ((b_checkMaterial.f k1 l0_0 l0_1 l0_2 l0_3 a0_4 a0_5 a0_6 ((rd_T70 l0_1 x19_1).f0) ((rd_T70 l0_1 x19_1).f1) ((rd_T70 l0_1 x19_1).f2) ((rd_T70 l0_1 x19_1).f3) ((rd_T70 l0_1 x19_1).f4) ((rd_T70 l0_1 x19_1).f5) ((rd_T70 l0_1 x19_1).f6)).bind fun t131 => (if t131 = 0 then (b_checkMaterials.l0 k1 l0_1 (l0_1.length : Int) (wrap64 (x19_1 + 1)) l0_0 l0_1 l0_2 l0_3 a0_4 a0_5 a0_6) else (some t131))) = some r := by rw [if_neg (show ¬ (false = true) by decide)] at H; exact H
          clear H; have H := H1; clear H1; replace H := Option.bind_eq_some_iff.mp H; obtain ⟨t131, A220, H⟩ := H
          try dsimp only at H
          have A22 := Sd.mk A220; clear A220
          by_cases c23 : t131 = 0
          ·rw [if_pos c23] at H
           have c23b0 : (t131 == 0) = true := beq_iff_eq.mpr c23
           have c23b1 : (t131 != 0) = false := bne_eq_false_iff_eq.mpr c23
           clear c23; have H' := Sd.mk H; clear H
           have p127 : 0 ≤ (x19_1 : Int) := tB
           have q127 : x19_1 < (l0_1.length : Int) := tB
           obtain ⟨ad127, A127_6, c127_6, e127, hx127_0, hx127_1, hx127_2, hx127_3, hx127_4, hx127_5, hx127_6, hl127_6, hi127_6⟩ := at_T70 HR0_1.out x19_1 p127 q127; cases e127; replace hx127_0 := cU HB hx127_0; replace hx127_1 := cU HB hx127_1; replace hx127_2 := cU HB hx127_2; replace hx127_3 := cU HB hx127_3; replace hx127_4 := cU HB hx127_4; replace hx127_5 := cU HB hx127_5; replace hx127_6 := cU HB hx127_6; have HR127_6 := Sd.mk hi127_6; have HC127_6 := Sd.mk hl127_6; clear hi127_6 hl127_6; replace p127 := eq_true p127; replace q127 := eq_true q127
           go_wp2_with (first | ((with_reducible refine gate_dst (N := 4) rfl ?_); refine box_event ?hg (N := 4) ?hd (cs := #[.string (⟨#[]⟩ : ByteArray), .int .i64 0, .int .i64 0, .int .i64 0, .int .i64 0, .int .i64 0, .slice none 0 0]) (t := 70) ?hr ?_; (case hd => rfl); (case hg => rfl); (case hr => exact tG); intro gb128 hg w24 hbox hb; have BK128 := Sd.mk (hbox); have GW128 := Sd.mk (bSz hg (bBl HB.out)); have GE128 := Sd.mk (bSz hg (bBl HB.out)); replace HB := Sd.mk (below_step (bBl HB.out) hb); have NB126_128 := Sd.mk (bNl hg (bkA BK126.out)); have NB128_126 := Sd.mk (bNg hg (bkA BK126.out)); replace BK126 := Sd.mk (blk_below (bkA BK126.out) hb); clear hb hbox hg; have hnb25 := NB128_126.out; have hnc25 := NB126_128.out; obtain ⟨u26_0, u26_1, u26_2, u26_3, u26_4, u26_5, u26_6, o26_0, o26_1, o26_2, o26_3, o26_4, o26_5, o26_6⟩ := bc7 (w := w24) BK128.out) | ((with_reducible refine gate_callee (f := 102) rfl ?_); refine goesL_ (some 27) rfl rfl Tryz.func102 (by kernel_rfl) rfl #[.string ((rd_T70 l0_1 x19_1).f0)] rfl tM ?_; (with_reducible refine (b_name.calls k1 ((rd_T70 l0_1 x19_1).f0) true _ A13.out).mono ?_); rintro e w' ⟨rfl, ⟨nd, rfl⟩⟩; refine ⟨_, rfl, ?_⟩; obtain ⟨u27_0, u27_1, u27_2, u27_3, u27_4, u27_5, u27_6, o27_0, o27_1, o27_2, o27_3, o27_4, o27_5, o27_6⟩ := bc7 (w := w24) BK126.out) | ((with_reducible refine gate_callee (f := 178) rfl ?_); refine goesL_ (some 33) rfl rfl Tryz.func178 (by kernel_rfl) rfl #[.slice (some ad127) l0_1.length c0_1, .int .i64 x19_1, .func (.func 179) #[] #[]] rfl tM ?_; (with_reducible refine (x_twiceM.calls _ _ l0_1 x19_1 false _ (Kd.C_below HR0_1.out (bBl HB.out)) HC0_1.out A15.out).mono ?_); rintro e w28 ⟨rfl, hb⟩; refine ⟨_, rfl, ?_⟩; replace BK126 := Sd.mk (blk_below (g := gb126) (o := .cells #[.slice A0_0 l0_0.length c0_0, .slice (some ad127) l0_1.length c0_1, .slice A0_2 l0_2.length c0_2, .slice A0_3 l0_3.length c0_3, .int .i64 a0_4, .int .i64 a0_5, .int .i64 a0_6] 29 (0, 0)) (by refine bkZ ?_; refine blk_far ?_ NB126_128.out _; refine bkZ ?_; refine blk_far ?_ NB126_128.out _; refine bkZ ?_; refine blk_far ?_ NB126_128.out _; refine bkZ ?_; refine blk_far ?_ NB126_128.out _; refine bkZ ?_; refine blk_far ?_ NB126_128.out _; refine bkZ ?_; refine blk_far ?_ NB126_128.out _; refine bkZ ?_; refine blk_far ?_ NB126_128.out _; refine bkZ ?_; exact BK126.out) hb); replace BK128 := Sd.mk (blk_below (g := gb128) (o := .cells #[.string ((rd_T70 l0_1 x19_1).f0), .int .i64 ((rd_T70 l0_1 x19_1).f1), .int .i64 ((rd_T70 l0_1 x19_1).f2), .int .i64 ((rd_T70 l0_1 x19_1).f3), .int .i64 ((rd_T70 l0_1 x19_1).f4), .int .i64 ((rd_T70 l0_1 x19_1).f5), .slice A127_6 ((rd_T70 l0_1 x19_1).f6).length c127_6] 70 (0, 0)) (by refine bkZ ?_; refine blk_put (cs := #[.string ((rd_T70 l0_1 x19_1).f0), .int .i64 ((rd_T70 l0_1 x19_1).f1), .int .i64 ((rd_T70 l0_1 x19_1).f2), .int .i64 ((rd_T70 l0_1 x19_1).f3), .int .i64 ((rd_T70 l0_1 x19_1).f4), .int .i64 ((rd_T70 l0_1 x19_1).f5), .slice none 0 0]) ?_ 6 _ rfl; refine bkZ ?_; refine blk_put (cs := #[.string ((rd_T70 l0_1 x19_1).f0), .int .i64 ((rd_T70 l0_1 x19_1).f1), .int .i64 ((rd_T70 l0_1 x19_1).f2), .int .i64 ((rd_T70 l0_1 x19_1).f3), .int .i64 ((rd_T70 l0_1 x19_1).f4), .int .i64 0, .slice none 0 0]) ?_ 5 _ rfl; refine bkZ ?_; refine blk_put (cs := #[.string ((rd_T70 l0_1 x19_1).f0), .int .i64 ((rd_T70 l0_1 x19_1).f1), .int .i64 ((rd_T70 l0_1 x19_1).f2), .int .i64 ((rd_T70 l0_1 x19_1).f3), .int .i64 0, .int .i64 0, .slice none 0 0]) ?_ 4 _ rfl; refine bkZ ?_; refine blk_put (cs := #[.string ((rd_T70 l0_1 x19_1).f0), .int .i64 ((rd_T70 l0_1 x19_1).f1), .int .i64 ((rd_T70 l0_1 x19_1).f2), .int .i64 0, .int .i64 0, .int .i64 0, .slice none 0 0]) ?_ 3 _ rfl; refine bkZ ?_; refine blk_put (cs := #[.string ((rd_T70 l0_1 x19_1).f0), .int .i64 ((rd_T70 l0_1 x19_1).f1), .int .i64 0, .int .i64 0, .int .i64 0, .int .i64 0, .slice none 0 0]) ?_ 2 _ rfl; refine bkZ ?_; refine blk_put (cs := #[.string ((rd_T70 l0_1 x19_1).f0), .int .i64 0, .int .i64 0, .int .i64 0, .int .i64 0, .int .i64 0, .slice none 0 0]) ?_ 1 _ rfl; refine bkZ ?_; refine blk_put (cs := #[.string (⟨#[]⟩ : ByteArray), .int .i64 0, .int .i64 0, .int .i64 0, .int .i64 0, .int .i64 0, .slice none 0 0]) ?_ 0 _ rfl; refine bkZ ?_; exact BK128.out) hb); replace HB := Sd.mk (below_step (bBl HB.out) hb); (try clear hb); (try clear hb2); (try clear hk); (try clear hi); obtain ⟨u29_0, u29_1, u29_2, u29_3, u29_4, u29_5, u29_6, o29_0, o29_1, o29_2, o29_3, o29_4, o29_5, o29_6⟩ := bc7 (w := w28) BK126.out; obtain ⟨u30_0, u30_1, u30_2, u30_3, u30_4, u30_5, u30_6, o30_0, o30_1, o30_2, o30_3, o30_4, o30_5, o30_6⟩ := bc7 (w := w28) BK128.out) | ((with_reducible refine gate_callee (f := 180) rfl ?_); refine goesL_ (some 36) rfl rfl Tryz.func180 (by kernel_rfl) rfl #[.agg #[.slice A0_0 l0_0.length c0_0, .slice (some ad127) l0_1.length c0_1, .slice A0_2 l0_2.length c0_2, .slice A0_3 l0_3.length c0_3, .int .i64 a0_4, .int .i64 a0_5, .int .i64 a0_6], .agg #[.string ((rd_T70 l0_1 x19_1).f0), .int .i64 ((rd_T70 l0_1 x19_1).f1), .int .i64 ((rd_T70 l0_1 x19_1).f2), .int .i64 ((rd_T70 l0_1 x19_1).f3), .int .i64 ((rd_T70 l0_1 x19_1).f4), .int .i64 ((rd_T70 l0_1 x19_1).f5), .slice A127_6 ((rd_T70 l0_1 x19_1).f6).length c127_6]] rfl tM ?_; (with_reducible refine (b_checkMaterial.calls k1 _ _ l0_0 _ _ l0_1 _ _ l0_2 _ _ l0_3 a0_4 a0_5 a0_6 ((rd_T70 l0_1 x19_1).f0) ((rd_T70 l0_1 x19_1).f1) ((rd_T70 l0_1 x19_1).f2) ((rd_T70 l0_1 x19_1).f3) ((rd_T70 l0_1 x19_1).f4) ((rd_T70 l0_1 x19_1).f5) _ _ ((rd_T70 l0_1 x19_1).f6) t131 _ (cS (Kd.C_below HR0_0.out HB.out)) HC0_0.out (cS (Kd.C_below HR0_1.out HB.out)) HC0_1.out (cS (Kd.C_below HR0_2.out HB.out)) HC0_2.out (cS (Kd.C_below HR0_3.out HB.out)) HC0_3.out (cS (Kd.C_below HR127_6.out HB.out)) HC127_6.out A22.out).mono ?_); rintro e w31 ⟨rfl, hb⟩; refine ⟨_, rfl, ?_⟩; replace BK126 := Sd.mk (blk_below (bkA BK126.out) hb); replace BK128 := Sd.mk (blk_below (bkA BK128.out) hb); replace HB := Sd.mk (below_step (bBl HB.out) hb); (try clear hb); (try clear hb2); (try clear hk); (try clear hi)))
           go_roundg k1
           case measure => have := HK1.out; omega
           case rel => exact ⟨(wrap64 (x19_1 + 1)), tS, H', ⟨by have := HK1.out; omega⟩, ⟨bkA BK126.out⟩, ⟨bBl HB.out⟩⟩
          ·rw [if_neg c23] at H
           have c23b0 : (t131 == 0) = false := beq_eq_false_iff_ne.mpr c23
           have c23b1 : (t131 != 0) = true := bne_iff_ne.mpr c23
           obtain rfl := Option.some.inj H
           have p127 : 0 ≤ (x19_1 : Int) := tB
           have q127 : x19_1 < (l0_1.length : Int) := tB
           obtain ⟨ad127, A127_6, c127_6, e127, hx127_0, hx127_1, hx127_2, hx127_3, hx127_4, hx127_5, hx127_6, hl127_6, hi127_6⟩ := at_T70 HR0_1.out x19_1 p127 q127; cases e127; replace hx127_0 := cU HB hx127_0; replace hx127_1 := cU HB hx127_1; replace hx127_2 := cU HB hx127_2; replace hx127_3 := cU HB hx127_3; replace hx127_4 := cU HB hx127_4; replace hx127_5 := cU HB hx127_5; replace hx127_6 := cU HB hx127_6; have HR127_6 := Sd.mk hi127_6; have HC127_6 := Sd.mk hl127_6; clear hi127_6 hl127_6; replace p127 := eq_true p127; replace q127 := eq_true q127
           go_wp2_with (first | ((with_reducible refine gate_dst (N := 4) rfl ?_); refine box_event ?hg (N := 4) ?hd (cs := #[.string (⟨#[]⟩ : ByteArray), .int .i64 0, .int .i64 0, .int .i64 0, .int .i64 0, .int .i64 0, .slice none 0 0]) (t := 70) ?hr ?_; (case hd => rfl); (case hg => rfl); (case hr => exact tG); intro gb128 hg w32 hbox hb; have BK128 := Sd.mk (hbox); have GW128 := Sd.mk (bSz hg (bBl HB.out)); have GE128 := Sd.mk (bSz hg (bBl HB.out)); replace HB := Sd.mk (below_step (bBl HB.out) hb); have NB126_128 := Sd.mk (bNl hg (bkA BK126.out)); have NB128_126 := Sd.mk (bNg hg (bkA BK126.out)); replace BK126 := Sd.mk (blk_below (bkA BK126.out) hb); clear hb hbox hg; have hnb33 := NB128_126.out; have hnc33 := NB126_128.out; obtain ⟨u34_0, u34_1, u34_2, u34_3, u34_4, u34_5, u34_6, o34_0, o34_1, o34_2, o34_3, o34_4, o34_5, o34_6⟩ := bc7 (w := w32) BK128.out) | ((with_reducible refine gate_callee (f := 102) rfl ?_); refine goesL_ (some 27) rfl rfl Tryz.func102 (by kernel_rfl) rfl #[.string ((rd_T70 l0_1 x19_1).f0)] rfl tM ?_; (with_reducible refine (b_name.calls k1 ((rd_T70 l0_1 x19_1).f0) true _ A13.out).mono ?_); rintro e w' ⟨rfl, ⟨nd, rfl⟩⟩; refine ⟨_, rfl, ?_⟩; obtain ⟨u35_0, u35_1, u35_2, u35_3, u35_4, u35_5, u35_6, o35_0, o35_1, o35_2, o35_3, o35_4, o35_5, o35_6⟩ := bc7 (w := w32) BK126.out) | ((with_reducible refine gate_callee (f := 178) rfl ?_); refine goesL_ (some 33) rfl rfl Tryz.func178 (by kernel_rfl) rfl #[.slice (some ad127) l0_1.length c0_1, .int .i64 x19_1, .func (.func 179) #[] #[]] rfl tM ?_; (with_reducible refine (x_twiceM.calls _ _ l0_1 x19_1 false _ (Kd.C_below HR0_1.out (bBl HB.out)) HC0_1.out A15.out).mono ?_); rintro e w36 ⟨rfl, hb⟩; refine ⟨_, rfl, ?_⟩; replace BK126 := Sd.mk (blk_below (g := gb126) (o := .cells #[.slice A0_0 l0_0.length c0_0, .slice (some ad127) l0_1.length c0_1, .slice A0_2 l0_2.length c0_2, .slice A0_3 l0_3.length c0_3, .int .i64 a0_4, .int .i64 a0_5, .int .i64 a0_6] 29 (0, 0)) (by refine bkZ ?_; refine blk_far ?_ NB126_128.out _; refine bkZ ?_; refine blk_far ?_ NB126_128.out _; refine bkZ ?_; refine blk_far ?_ NB126_128.out _; refine bkZ ?_; refine blk_far ?_ NB126_128.out _; refine bkZ ?_; refine blk_far ?_ NB126_128.out _; refine bkZ ?_; refine blk_far ?_ NB126_128.out _; refine bkZ ?_; refine blk_far ?_ NB126_128.out _; refine bkZ ?_; exact BK126.out) hb); replace BK128 := Sd.mk (blk_below (g := gb128) (o := .cells #[.string ((rd_T70 l0_1 x19_1).f0), .int .i64 ((rd_T70 l0_1 x19_1).f1), .int .i64 ((rd_T70 l0_1 x19_1).f2), .int .i64 ((rd_T70 l0_1 x19_1).f3), .int .i64 ((rd_T70 l0_1 x19_1).f4), .int .i64 ((rd_T70 l0_1 x19_1).f5), .slice A127_6 ((rd_T70 l0_1 x19_1).f6).length c127_6] 70 (0, 0)) (by refine bkZ ?_; refine blk_put (cs := #[.string ((rd_T70 l0_1 x19_1).f0), .int .i64 ((rd_T70 l0_1 x19_1).f1), .int .i64 ((rd_T70 l0_1 x19_1).f2), .int .i64 ((rd_T70 l0_1 x19_1).f3), .int .i64 ((rd_T70 l0_1 x19_1).f4), .int .i64 ((rd_T70 l0_1 x19_1).f5), .slice none 0 0]) ?_ 6 _ rfl; refine bkZ ?_; refine blk_put (cs := #[.string ((rd_T70 l0_1 x19_1).f0), .int .i64 ((rd_T70 l0_1 x19_1).f1), .int .i64 ((rd_T70 l0_1 x19_1).f2), .int .i64 ((rd_T70 l0_1 x19_1).f3), .int .i64 ((rd_T70 l0_1 x19_1).f4), .int .i64 0, .slice none 0 0]) ?_ 5 _ rfl; refine bkZ ?_; refine blk_put (cs := #[.string ((rd_T70 l0_1 x19_1).f0), .int .i64 ((rd_T70 l0_1 x19_1).f1), .int .i64 ((rd_T70 l0_1 x19_1).f2), .int .i64 ((rd_T70 l0_1 x19_1).f3), .int .i64 0, .int .i64 0, .slice none 0 0]) ?_ 4 _ rfl; refine bkZ ?_; refine blk_put (cs := #[.string ((rd_T70 l0_1 x19_1).f0), .int .i64 ((rd_T70 l0_1 x19_1).f1), .int .i64 ((rd_T70 l0_1 x19_1).f2), .int .i64 0, .int .i64 0, .int .i64 0, .slice none 0 0]) ?_ 3 _ rfl; refine bkZ ?_; refine blk_put (cs := #[.string ((rd_T70 l0_1 x19_1).f0), .int .i64 ((rd_T70 l0_1 x19_1).f1), .int .i64 0, .int .i64 0, .int .i64 0, .int .i64 0, .slice none 0 0]) ?_ 2 _ rfl; refine bkZ ?_; refine blk_put (cs := #[.string ((rd_T70 l0_1 x19_1).f0), .int .i64 0, .int .i64 0, .int .i64 0, .int .i64 0, .int .i64 0, .slice none 0 0]) ?_ 1 _ rfl; refine bkZ ?_; refine blk_put (cs := #[.string (⟨#[]⟩ : ByteArray), .int .i64 0, .int .i64 0, .int .i64 0, .int .i64 0, .int .i64 0, .slice none 0 0]) ?_ 0 _ rfl; refine bkZ ?_; exact BK128.out) hb); replace HB := Sd.mk (below_step (bBl HB.out) hb); (try clear hb); (try clear hb2); (try clear hk); (try clear hi); obtain ⟨u37_0, u37_1, u37_2, u37_3, u37_4, u37_5, u37_6, o37_0, o37_1, o37_2, o37_3, o37_4, o37_5, o37_6⟩ := bc7 (w := w36) BK126.out; obtain ⟨u38_0, u38_1, u38_2, u38_3, u38_4, u38_5, u38_6, o38_0, o38_1, o38_2, o38_3, o38_4, o38_5, o38_6⟩ := bc7 (w := w36) BK128.out) | ((with_reducible refine gate_callee (f := 180) rfl ?_); refine goesL_ (some 36) rfl rfl Tryz.func180 (by kernel_rfl) rfl #[.agg #[.slice A0_0 l0_0.length c0_0, .slice (some ad127) l0_1.length c0_1, .slice A0_2 l0_2.length c0_2, .slice A0_3 l0_3.length c0_3, .int .i64 a0_4, .int .i64 a0_5, .int .i64 a0_6], .agg #[.string ((rd_T70 l0_1 x19_1).f0), .int .i64 ((rd_T70 l0_1 x19_1).f1), .int .i64 ((rd_T70 l0_1 x19_1).f2), .int .i64 ((rd_T70 l0_1 x19_1).f3), .int .i64 ((rd_T70 l0_1 x19_1).f4), .int .i64 ((rd_T70 l0_1 x19_1).f5), .slice A127_6 ((rd_T70 l0_1 x19_1).f6).length c127_6]] rfl tM ?_; (with_reducible refine (b_checkMaterial.calls k1 _ _ l0_0 _ _ l0_1 _ _ l0_2 _ _ l0_3 a0_4 a0_5 a0_6 ((rd_T70 l0_1 x19_1).f0) ((rd_T70 l0_1 x19_1).f1) ((rd_T70 l0_1 x19_1).f2) ((rd_T70 l0_1 x19_1).f3) ((rd_T70 l0_1 x19_1).f4) ((rd_T70 l0_1 x19_1).f5) _ _ ((rd_T70 l0_1 x19_1).f6) t131 _ (cS (Kd.C_below HR0_0.out HB.out)) HC0_0.out (cS (Kd.C_below HR0_1.out HB.out)) HC0_1.out (cS (Kd.C_below HR0_2.out HB.out)) HC0_2.out (cS (Kd.C_below HR0_3.out HB.out)) HC0_3.out (cS (Kd.C_below HR127_6.out HB.out)) HC127_6.out A22.out).mono ?_); rintro e w39 ⟨rfl, hb⟩; refine ⟨_, rfl, ?_⟩; replace BK126 := Sd.mk (blk_below (bkA BK126.out) hb); replace BK128 := Sd.mk (blk_below (bkA BK128.out) hb); replace HB := Sd.mk (below_step (bBl HB.out) hb); (try clear hb); (try clear hb2); (try clear hk); (try clear hi)))
           go_ret
           exact ⟨tE, bBl HB.out⟩
        ·replace c14 := Bool.eq_false_iff.mpr c14
         subst c14
         have H1 : (some 5) = some r := by rw [if_neg (show ¬ (false = true) by decide)] at H; exact H
         clear H; have H := H1; clear H1; obtain rfl := Option.some.inj H
         have p127 : 0 ≤ (x19_1 : Int) := tB
         have q127 : x19_1 < (l0_1.length : Int) := tB
         obtain ⟨ad127, A127_6, c127_6, e127, hx127_0, hx127_1, hx127_2, hx127_3, hx127_4, hx127_5, hx127_6, hl127_6, hi127_6⟩ := at_T70 HR0_1.out x19_1 p127 q127; cases e127; replace hx127_0 := cU HB hx127_0; replace hx127_1 := cU HB hx127_1; replace hx127_2 := cU HB hx127_2; replace hx127_3 := cU HB hx127_3; replace hx127_4 := cU HB hx127_4; replace hx127_5 := cU HB hx127_5; replace hx127_6 := cU HB hx127_6; have HR127_6 := Sd.mk hi127_6; have HC127_6 := Sd.mk hl127_6; clear hi127_6 hl127_6; replace p127 := eq_true p127; replace q127 := eq_true q127
         go_wp2_with (first | ((with_reducible refine gate_dst (N := 4) rfl ?_); refine box_event ?hg (N := 4) ?hd (cs := #[.string (⟨#[]⟩ : ByteArray), .int .i64 0, .int .i64 0, .int .i64 0, .int .i64 0, .int .i64 0, .slice none 0 0]) (t := 70) ?hr ?_; (case hd => rfl); (case hg => rfl); (case hr => exact tG); intro gb128 hg w40 hbox hb; have BK128 := Sd.mk (hbox); have GW128 := Sd.mk (bSz hg (bBl HB.out)); have GE128 := Sd.mk (bSz hg (bBl HB.out)); replace HB := Sd.mk (below_step (bBl HB.out) hb); have NB126_128 := Sd.mk (bNl hg (bkA BK126.out)); have NB128_126 := Sd.mk (bNg hg (bkA BK126.out)); replace BK126 := Sd.mk (blk_below (bkA BK126.out) hb); clear hb hbox hg; have hnb41 := NB128_126.out; have hnc41 := NB126_128.out; obtain ⟨u42_0, u42_1, u42_2, u42_3, u42_4, u42_5, u42_6, o42_0, o42_1, o42_2, o42_3, o42_4, o42_5, o42_6⟩ := bc7 (w := w40) BK128.out) | ((with_reducible refine gate_callee (f := 102) rfl ?_); refine goesL_ (some 27) rfl rfl Tryz.func102 (by kernel_rfl) rfl #[.string ((rd_T70 l0_1 x19_1).f0)] rfl tM ?_; (with_reducible refine (b_name.calls k1 ((rd_T70 l0_1 x19_1).f0) false _ A13.out).mono ?_); rintro e w' ⟨rfl, ⟨nd, rfl⟩⟩; refine ⟨_, rfl, ?_⟩))
         go_ret
         exact ⟨tE, bBl HB.out⟩
       ·rw [if_neg c12] at H
        exact absurd H (by simp)
      ·rw [if_neg c11] at H
       exact absurd H (by simp)
     ·rw [if_neg c10] at H
      have c10b0 : decide (x19_1 < (l0_1.length : Int)) = false := decide_eq_false c10
      clear c10; obtain rfl := Option.some.inj H
      go_wp2
      go_ret
      exact ⟨tE, bBl HB.out⟩
end
section
def b_checkProperty.f (l0_0 : List ByteArray) (l0_1 : List (S70)) (l0_2 : List (S27)) (l0_3 : List (S89)) (a0_4 : Int) (a0_5 : Int) (a0_6 : Int) (a1_0 : ByteArray) (l1_1 : List Int) (a1_2 : Int) (a1_3 : Int) : Option (Int) := if (l1_1.length : Int) = (l0_0.length : Int) then ((x_coefs.f l1_1).bind fun t134 => (if t134 = true then (some 1) else ((b_span.f a1_2 a1_3 (-10000) 10000).bind fun t135 => (if t135 = true then (some 0) else (some 1))))) else (some 1)
theorem b_checkProperty.calls (A0_0 : Option Addr) (c0_0 : Nat) (l0_0 : List ByteArray) (A0_1 : Option Addr) (c0_1 : Nat) (l0_1 : List (S70)) (A0_2 : Option Addr) (c0_2 : Nat) (l0_2 : List (S27)) (A0_3 : Option Addr) (c0_3 : Nat) (l0_3 : List (S89)) (a0_4 : Int) (a0_5 : Int) (a0_6 : Int) (a1_0 : ByteArray) (A1_1 : Option Addr) (c1_1 : Nat) (l1_1 : List Int) (a1_2 : Int) (a1_3 : Int) (r : Int) (w : World) (hr0_0 : Kd.C Kd.string w A0_0 l0_0.length l0_0) (hc0_0 : l0_0.length ≤ c0_0) (hr0_1 : Kd.C k70 w A0_1 l0_1.length l0_1) (hc0_1 : l0_1.length ≤ c0_1) (hr0_2 : Kd.C k27 w A0_2 l0_2.length l0_2) (hc0_2 : l0_2.length ≤ c0_2) (hr0_3 : Kd.C k89 w A0_3 l0_3.length l0_3) (hc0_3 : l0_3.length ≤ c0_3) (hr1_1 : Kd.C (Kd.int .i64) w A1_1 l1_1.length l1_1) (hc1_1 : l1_1.length ≤ c1_1) (h : b_checkProperty.f l0_0 l0_1 l0_2 l0_3 a0_4 a0_5 a0_6 a1_0 l1_1 a1_2 a1_3 = some r) :
  Calls Tryz.prog 105 #[.agg #[.slice A0_0 l0_0.length c0_0, .slice A0_1 l0_1.length c0_1, .slice A0_2 l0_2.length c0_2, .slice A0_3 l0_3.length c0_3, .int .i64 a0_4, .int .i64 a0_5, .int .i64 a0_6], .agg #[.string a1_0, .slice A1_1 l1_1.length c1_1, .int .i64 a1_2, .int .i64 a1_3]] w fun e w' => e = .returned (.int .i64 r) ∧ Below w.heap.size w w' := by
 have hu29 := Tryz.underlying29; have hu89 := Tryz.underlying89; have hu27 := Tryz.underlying27; have HR0_0 := Sd.mk hr0_0; have HC0_0 := Sd.mk hc0_0; clear hr0_0 hc0_0; have HR0_1 := Sd.mk hr0_1; have HC0_1 := Sd.mk hc0_1; clear hr0_1 hc0_1; have HR0_2 := Sd.mk hr0_2; have HC0_2 := Sd.mk hc0_2; clear hr0_2 hc0_2; have HR0_3 := Sd.mk hr0_3; have HC0_3 := Sd.mk hc0_3; clear hr0_3 hc0_3; have HR1_1 := Sd.mk hr1_1; have HC1_1 := Sd.mk hc1_1; clear hr1_1 hc1_1; have HB := Sd.mk (Below.refl w.heap.size w)
 have H : (if (l1_1.length : Int) = (l0_0.length : Int) then ((x_coefs.f l1_1).bind fun t134 => (if t134 = true then (some 1) else ((b_span.f a1_2 a1_3 (-10000) 10000).bind fun t135 => (if t135 = true then (some 0) else (some 1))))) else (some 1)) = some r := h
 clear h
 by_cases c3 : (l1_1.length : Int) = (l0_0.length : Int)
 ·rw [if_pos c3] at H
  have c3b0 : ((l1_1.length : Int) == (l0_0.length : Int)) = true := beq_iff_eq.mpr c3
  have c3b1 : ((l1_1.length : Int) != (l0_0.length : Int)) = false := bne_eq_false_iff_eq.mpr c3
  have c3b2 : (l1_1.length == l0_0.length) = true := by first | simpa using c3 | (simp at c3 ⊢; omega)
  clear c3; replace H := Option.bind_eq_some_iff.mp H; obtain ⟨t134, A40, H⟩ := H
  try dsimp only at H
  have A4 := Sd.mk A40; clear A40
  by_cases c5 : t134 = true
  ·subst c5
   have H1 : (some 1) = some r := by rw [if_pos rfl] at H; exact H
   clear H; have H := H1; clear H1; obtain rfl := Option.some.inj H
   go_enter Tryz.func105, Tryz.ntmps105
   go_wp2_with (first | ((with_reducible refine gate_dst (N := 2) rfl ?_); refine box_event ?hg (N := 2) ?hd (cs := #[.slice A0_0 l0_0.length c0_0, .slice A0_1 l0_1.length c0_1, .slice A0_2 l0_2.length c0_2, .slice A0_3 l0_3.length c0_3, .int .i64 a0_4, .int .i64 a0_5, .int .i64 a0_6]) (t := 29) ?hr ?_; (case hd => rfl); (case hg => rfl); (case hr => exact tG); intro gb132 hg w6 hbox hb; have BK132 := Sd.mk (hbox); have GW132 := Sd.mk (bSz hg (bBl HB.out)); have GE132 := Sd.mk (bSz hg (bBl HB.out)); replace HB := Sd.mk (below_step (bBl HB.out) hb); clear hb hbox hg) | ((with_reducible refine gate_dst (N := 3) rfl ?_); refine box_event ?hg (N := 3) ?hd (cs := #[.string a1_0, .slice A1_1 l1_1.length c1_1, .int .i64 a1_2, .int .i64 a1_3]) (t := 89) ?hr ?_; (case hd => rfl); (case hg => rfl); (case hr => exact tG); intro gb133 hg w7 hbox hb; have BK133 := Sd.mk (hbox); have GW133 := Sd.mk (bSz hg (bBl HB.out)); have GE133 := Sd.mk (bSz hg (bBl HB.out)); replace HB := Sd.mk (below_step (bBl HB.out) hb); have NB132_133 := Sd.mk (bNl hg (bkA BK132.out)); have NB133_132 := Sd.mk (bNg hg (bkA BK132.out)); replace BK132 := Sd.mk (blk_below (bkA BK132.out) hb); clear hb hbox hg; have hnb8 := NB133_132.out; have hnc8 := NB132_133.out; obtain ⟨u9_0, u9_1, u9_2, u9_3, o9_0, o9_1, o9_2, o9_3⟩ := bc4 (w := w7) BK133.out; obtain ⟨u10_0, u10_1, u10_2, u10_3, u10_4, u10_5, u10_6, o10_0, o10_1, o10_2, o10_3, o10_4, o10_5, o10_6⟩ := bc7 (w := w7) BK132.out) | (go_at_call 106; (with_reducible refine (x_coefs.calls _ _ l1_1 true _ (cS (Kd.C_below HR1_1.out HB.out)) HC1_1.out A4.out).mono ?_); rintro e w11 ⟨rfl, hb⟩; replace BK132 := Sd.mk (blk_below (bkA BK132.out) hb); replace BK133 := Sd.mk (blk_below (bkA BK133.out) hb); replace HB := Sd.mk (below_step (bBl HB.out) hb); (try clear hb); (try clear hb2); (try clear hk); (try clear hi)))
   go_ret
   exact ⟨tE, bBl HB.out⟩
  ·replace c5 := Bool.eq_false_iff.mpr c5
   subst c5
   have H1 : ((b_span.f a1_2 a1_3 (-10000) 10000).bind fun t135 => (if t135 = true then (some 0) else (some 1))) = some r := by rw [if_neg (show ¬ (false = true) by decide)] at H; exact H
   clear H; have H := H1; clear H1; replace H := Option.bind_eq_some_iff.mp H; obtain ⟨t135, A120, H⟩ := H
   try dsimp only at H
   have A12 := Sd.mk A120; clear A120
   by_cases c13 : t135 = true
   ·subst c13
    have H1 : (some 0) = some r := by rw [if_pos rfl] at H; exact H
    clear H; have H := H1; clear H1; obtain rfl := Option.some.inj H
    go_enter Tryz.func105, Tryz.ntmps105
    go_wp2_with (first | ((with_reducible refine gate_dst (N := 2) rfl ?_); refine box_event ?hg (N := 2) ?hd (cs := #[.slice A0_0 l0_0.length c0_0, .slice A0_1 l0_1.length c0_1, .slice A0_2 l0_2.length c0_2, .slice A0_3 l0_3.length c0_3, .int .i64 a0_4, .int .i64 a0_5, .int .i64 a0_6]) (t := 29) ?hr ?_; (case hd => rfl); (case hg => rfl); (case hr => exact tG); intro gb132 hg w14 hbox hb; have BK132 := Sd.mk (hbox); have GW132 := Sd.mk (bSz hg (bBl HB.out)); have GE132 := Sd.mk (bSz hg (bBl HB.out)); replace HB := Sd.mk (below_step (bBl HB.out) hb); clear hb hbox hg) | ((with_reducible refine gate_dst (N := 3) rfl ?_); refine box_event ?hg (N := 3) ?hd (cs := #[.string a1_0, .slice A1_1 l1_1.length c1_1, .int .i64 a1_2, .int .i64 a1_3]) (t := 89) ?hr ?_; (case hd => rfl); (case hg => rfl); (case hr => exact tG); intro gb133 hg w15 hbox hb; have BK133 := Sd.mk (hbox); have GW133 := Sd.mk (bSz hg (bBl HB.out)); have GE133 := Sd.mk (bSz hg (bBl HB.out)); replace HB := Sd.mk (below_step (bBl HB.out) hb); have NB132_133 := Sd.mk (bNl hg (bkA BK132.out)); have NB133_132 := Sd.mk (bNg hg (bkA BK132.out)); replace BK132 := Sd.mk (blk_below (bkA BK132.out) hb); clear hb hbox hg; have hnb16 := NB133_132.out; have hnc16 := NB132_133.out; obtain ⟨u17_0, u17_1, u17_2, u17_3, o17_0, o17_1, o17_2, o17_3⟩ := bc4 (w := w15) BK133.out; obtain ⟨u18_0, u18_1, u18_2, u18_3, u18_4, u18_5, u18_6, o18_0, o18_1, o18_2, o18_3, o18_4, o18_5, o18_6⟩ := bc7 (w := w15) BK132.out) | (go_at_call 106; (with_reducible refine (x_coefs.calls _ _ l1_1 false _ (cS (Kd.C_below HR1_1.out HB.out)) HC1_1.out A4.out).mono ?_); rintro e w19 ⟨rfl, hb⟩; replace BK132 := Sd.mk (blk_below (bkA BK132.out) hb); replace BK133 := Sd.mk (blk_below (bkA BK133.out) hb); replace HB := Sd.mk (below_step (bBl HB.out) hb); (try clear hb); (try clear hb2); (try clear hk); (try clear hi); obtain ⟨u20_0, u20_1, u20_2, u20_3, o20_0, o20_1, o20_2, o20_3⟩ := bc4 (w := w19) BK133.out) | (go_at_call 101; (with_reducible refine (b_span.calls a1_2 a1_3 (-10000) 10000 true _ A12.out).mono ?_); rintro e w21 ⟨rfl, hb⟩; replace BK132 := Sd.mk (blk_below (bkA BK132.out) hb); replace BK133 := Sd.mk (blk_below (bkA BK133.out) hb); replace HB := Sd.mk (below_step (bBl HB.out) hb); (try clear hb); (try clear hb2); (try clear hk); (try clear hi)))
    go_ret
    exact ⟨tE, bBl HB.out⟩
   ·replace c13 := Bool.eq_false_iff.mpr c13
    subst c13
    have H1 : (some 1) = some r := by rw [if_neg (show ¬ (false = true) by decide)] at H; exact H
    clear H; have H := H1; clear H1; obtain rfl := Option.some.inj H
    go_enter Tryz.func105, Tryz.ntmps105
    go_wp2_with (first | ((with_reducible refine gate_dst (N := 2) rfl ?_); refine box_event ?hg (N := 2) ?hd (cs := #[.slice A0_0 l0_0.length c0_0, .slice A0_1 l0_1.length c0_1, .slice A0_2 l0_2.length c0_2, .slice A0_3 l0_3.length c0_3, .int .i64 a0_4, .int .i64 a0_5, .int .i64 a0_6]) (t := 29) ?hr ?_; (case hd => rfl); (case hg => rfl); (case hr => exact tG); intro gb132 hg w22 hbox hb; have BK132 := Sd.mk (hbox); have GW132 := Sd.mk (bSz hg (bBl HB.out)); have GE132 := Sd.mk (bSz hg (bBl HB.out)); replace HB := Sd.mk (below_step (bBl HB.out) hb); clear hb hbox hg) | ((with_reducible refine gate_dst (N := 3) rfl ?_); refine box_event ?hg (N := 3) ?hd (cs := #[.string a1_0, .slice A1_1 l1_1.length c1_1, .int .i64 a1_2, .int .i64 a1_3]) (t := 89) ?hr ?_; (case hd => rfl); (case hg => rfl); (case hr => exact tG); intro gb133 hg w23 hbox hb; have BK133 := Sd.mk (hbox); have GW133 := Sd.mk (bSz hg (bBl HB.out)); have GE133 := Sd.mk (bSz hg (bBl HB.out)); replace HB := Sd.mk (below_step (bBl HB.out) hb); have NB132_133 := Sd.mk (bNl hg (bkA BK132.out)); have NB133_132 := Sd.mk (bNg hg (bkA BK132.out)); replace BK132 := Sd.mk (blk_below (bkA BK132.out) hb); clear hb hbox hg; have hnb24 := NB133_132.out; have hnc24 := NB132_133.out; obtain ⟨u25_0, u25_1, u25_2, u25_3, o25_0, o25_1, o25_2, o25_3⟩ := bc4 (w := w23) BK133.out; obtain ⟨u26_0, u26_1, u26_2, u26_3, u26_4, u26_5, u26_6, o26_0, o26_1, o26_2, o26_3, o26_4, o26_5, o26_6⟩ := bc7 (w := w23) BK132.out) | (go_at_call 106; (with_reducible refine (x_coefs.calls _ _ l1_1 false _ (cS (Kd.C_below HR1_1.out HB.out)) HC1_1.out A4.out).mono ?_); rintro e w27 ⟨rfl, hb⟩; replace BK132 := Sd.mk (blk_below (bkA BK132.out) hb); replace BK133 := Sd.mk (blk_below (bkA BK133.out) hb); replace HB := Sd.mk (below_step (bBl HB.out) hb); (try clear hb); (try clear hb2); (try clear hk); (try clear hi); obtain ⟨u28_0, u28_1, u28_2, u28_3, o28_0, o28_1, o28_2, o28_3⟩ := bc4 (w := w27) BK133.out) | (go_at_call 101; (with_reducible refine (b_span.calls a1_2 a1_3 (-10000) 10000 false _ A12.out).mono ?_); rintro e w29 ⟨rfl, hb⟩; replace BK132 := Sd.mk (blk_below (bkA BK132.out) hb); replace BK133 := Sd.mk (blk_below (bkA BK133.out) hb); replace HB := Sd.mk (below_step (bBl HB.out) hb); (try clear hb); (try clear hb2); (try clear hk); (try clear hi)))
    go_ret
    exact ⟨tE, bBl HB.out⟩
 ·rw [if_neg c3] at H
  have c3b0 : ((l1_1.length : Int) == (l0_0.length : Int)) = false := beq_eq_false_iff_ne.mpr c3
  have c3b1 : ((l1_1.length : Int) != (l0_0.length : Int)) = true := bne_iff_ne.mpr c3
  have c3b2 : (l1_1.length == l0_0.length) = false := by first | simpa using c3 | (simp at c3 ⊢; omega)
  obtain rfl := Option.some.inj H
  go_enter Tryz.func105, Tryz.ntmps105
  go_wp2_with (first | ((with_reducible refine gate_dst (N := 2) rfl ?_); refine box_event ?hg (N := 2) ?hd (cs := #[.slice A0_0 l0_0.length c0_0, .slice A0_1 l0_1.length c0_1, .slice A0_2 l0_2.length c0_2, .slice A0_3 l0_3.length c0_3, .int .i64 a0_4, .int .i64 a0_5, .int .i64 a0_6]) (t := 29) ?hr ?_; (case hd => rfl); (case hg => rfl); (case hr => exact tG); intro gb132 hg w30 hbox hb; have BK132 := Sd.mk (hbox); have GW132 := Sd.mk (bSz hg (bBl HB.out)); have GE132 := Sd.mk (bSz hg (bBl HB.out)); replace HB := Sd.mk (below_step (bBl HB.out) hb); clear hb hbox hg) | ((with_reducible refine gate_dst (N := 3) rfl ?_); refine box_event ?hg (N := 3) ?hd (cs := #[.string a1_0, .slice A1_1 l1_1.length c1_1, .int .i64 a1_2, .int .i64 a1_3]) (t := 89) ?hr ?_; (case hd => rfl); (case hg => rfl); (case hr => exact tG); intro gb133 hg w31 hbox hb; have BK133 := Sd.mk (hbox); have GW133 := Sd.mk (bSz hg (bBl HB.out)); have GE133 := Sd.mk (bSz hg (bBl HB.out)); replace HB := Sd.mk (below_step (bBl HB.out) hb); have NB132_133 := Sd.mk (bNl hg (bkA BK132.out)); have NB133_132 := Sd.mk (bNg hg (bkA BK132.out)); replace BK132 := Sd.mk (blk_below (bkA BK132.out) hb); clear hb hbox hg; have hnb32 := NB133_132.out; have hnc32 := NB132_133.out; obtain ⟨u33_0, u33_1, u33_2, u33_3, o33_0, o33_1, o33_2, o33_3⟩ := bc4 (w := w31) BK133.out; obtain ⟨u34_0, u34_1, u34_2, u34_3, u34_4, u34_5, u34_6, o34_0, o34_1, o34_2, o34_3, o34_4, o34_5, o34_6⟩ := bc7 (w := w31) BK132.out))
  go_ret
  exact ⟨tE, bBl HB.out⟩
end
section
mutual
def b_Check.j0 : Nat → Bool → List ByteArray → List (S70) → List (S27) → List (S89) → Int → Int → Int → Option (Int)
 | 0, _, _, _, _, _, _, _, _ => none
 | k + 1, x29, x137q0, x137q1, x137q2, x137q3, x137q4, x137q5, x137q6 => if x29 = true then (some 1) else (if (x137q3.length : Int) > 6 then (some 3) else (b_Check.l0 k x137q3 (x137q3.length : Int) 0 x137q0 x137q1 x137q2 x137q3 x137q4 x137q5 x137q6))
def b_Check.l0 : Nat → List (S89) → Int → Int → List ByteArray → List (S70) → List (S27) → List (S89) → Int → Int → Int → Option (Int)
 | 0, _, _, _, _, _, _, _, _, _, _ => none
 | k + 1, x35, x36, x37, x137q0, x137q1, x137q2, x137q3, x137q4, x137q5, x137q6 => if x37 < x36 then (if 0 ≤ x37 then (if x37 < (x35.length : Int) then ((b_name.f k ((rd_T89 x35 x37).f0)).bind fun t142 => (if t142 = true then ((x_twiceP.f x137q3 x37).bind fun t143 => (if t143 = true then (some 6) else ((b_checkProperty.f x137q0 x137q1 x137q2 x137q3 x137q4 x137q5 x137q6 ((rd_T89 x35 x37).f0) ((rd_T89 x35 x37).f1) ((rd_T89 x35 x37).f2.f0) ((rd_T89 x35 x37).f2.f1)).bind fun t144 => (if t144 = 0 then (b_Check.l0 k x35 x36 (wrap64 (x37 + 1)) x137q0 x137q1 x137q2 x137q3 x137q4 x137q5 x137q6) else (some t144))))) else (some 5))) else (none)) else (none)) else ((b_span.f x137q4 x137q5 (-10000) 10000).bind fun t145 => (if t145 = true then ((b_within.f x137q6 1 10000).bind fun t146 => (if t146 = true then (some 0) else (some 1))) else (some 1)))
end
def b_Check.f (k : Nat) (l0_0 : List ByteArray) (l0_1 : List (S70)) (l0_2 : List (S27)) (l0_3 : List (S89)) (a0_4 : Int) (a0_5 : Int) (a0_6 : Int) : Option (Int) := (b_checkOxides.f k l0_0 l0_1 l0_2 l0_3 a0_4 a0_5 a0_6).bind fun t137 => (if t137 = 0 then ((b_checkMaterials.f k l0_0 l0_1 l0_2 l0_3 a0_4 a0_5 a0_6).bind fun t138 => (if t138 = 0 then (if (l0_2.length : Int) = (l0_0.length : Int) then ((x_spans.f l0_2).bind fun t139 => (b_Check.j0 k t139 l0_0 l0_1 l0_2 l0_3 a0_4 a0_5 a0_6)) else (b_Check.j0 k true l0_0 l0_1 l0_2 l0_3 a0_4 a0_5 a0_6)) else (some t138))) else (some t137))
theorem b_Check.mono_l : ∀ k, (∀ y0 y1 y2 y3 y4 y5 y6 y7, LeO (b_Check.j0 k y0 y1 y2 y3 y4 y5 y6 y7) (b_Check.j0 (k + 1) y0 y1 y2 y3 y4 y5 y6 y7)) ∧ (∀ y0 y1 y2 y3 y4 y5 y6 y7 y8 y9, LeO (b_Check.l0 k y0 y1 y2 y3 y4 y5 y6 y7 y8 y9) (b_Check.l0 (k + 1) y0 y1 y2 y3 y4 y5 y6 y7 y8 y9))
 | 0 => ⟨fun _ _ _ _ _ _ _ _ r h => by simp [b_Check.j0] at h, fun _ _ _ _ _ _ _ _ _ _ r h => by simp [b_Check.l0] at h⟩
 | k + 1 => by
  obtain ⟨ih0, ih1⟩ := b_Check.mono_l k
  refine ⟨?_, ?_⟩
  ·intro y0 y1 y2 y3 y4 y5 y6 y7
   unfold b_Check.j0
   repeat' first
   | (with_reducible exact ih0 _ _ _ _ _ _ _ _)
   | (with_reducible exact ih1 _ _ _ _ _ _ _ _ _ _)
   | (with_reducible exact b_checkMaterials.mono _ _ _ _ _ _ _ _)
   | (with_reducible exact b_checkOxides.mono _ _ _ _ _ _ _ _)
   | (with_reducible exact b_name.mono _ _)
   | (with_reducible exact LeO.refl _)
   | (with_reducible exact LeO.none _)
   | (with_reducible refine LeO.ite ?_ ?_)
   | (with_reducible refine LeO.bind ?_ (fun _ => ?_))
   | exact LeO.none _
   | refine LeO.ite ?_ ?_
   | refine LeO.bind ?_ (fun _ => ?_)
  ·intro y0 y1 y2 y3 y4 y5 y6 y7 y8 y9
   unfold b_Check.l0
   repeat' first
   | (with_reducible exact ih0 _ _ _ _ _ _ _ _)
   | (with_reducible exact ih1 _ _ _ _ _ _ _ _ _ _)
   | (with_reducible exact b_checkMaterials.mono _ _ _ _ _ _ _ _)
   | (with_reducible exact b_checkOxides.mono _ _ _ _ _ _ _ _)
   | (with_reducible exact b_name.mono _ _)
   | (with_reducible exact LeO.refl _)
   | (with_reducible exact LeO.none _)
   | (with_reducible refine LeO.ite ?_ ?_)
   | (with_reducible refine LeO.bind ?_ (fun _ => ?_))
   | exact LeO.none _
   | refine LeO.ite ?_ ?_
   | refine LeO.bind ?_ (fun _ => ?_)
theorem b_Check.mono : ∀ a0 a1 a2 a3 a4 a5 a6 k, LeO (b_Check.f k a0 a1 a2 a3 a4 a5 a6) (b_Check.f (k + 1) a0 a1 a2 a3 a4 a5 a6) := by
 intro a0 a1 a2 a3 a4 a5 a6 k
 obtain ⟨ih0, ih1⟩ := b_Check.mono_l k
 unfold b_Check.f
 repeat' first
   | (with_reducible exact ih0 _ _ _ _ _ _ _ _)
   | (with_reducible exact ih1 _ _ _ _ _ _ _ _ _ _)
   | (with_reducible exact b_checkMaterials.mono _ _ _ _ _ _ _ _)
   | (with_reducible exact b_checkOxides.mono _ _ _ _ _ _ _ _)
   | (with_reducible exact b_name.mono _ _)
   | (with_reducible exact LeO.refl _)
   | (with_reducible exact LeO.none _)
   | (with_reducible refine LeO.ite ?_ ?_)
   | (with_reducible refine LeO.bind ?_ (fun _ => ?_))
   | exact LeO.none _
   | refine LeO.ite ?_ ?_
   | refine LeO.bind ?_ (fun _ => ?_)
theorem b_Check.calls (k : Nat) (A0_0 : Option Addr) (c0_0 : Nat) (l0_0 : List ByteArray) (A0_1 : Option Addr) (c0_1 : Nat) (l0_1 : List (S70)) (A0_2 : Option Addr) (c0_2 : Nat) (l0_2 : List (S27)) (A0_3 : Option Addr) (c0_3 : Nat) (l0_3 : List (S89)) (a0_4 : Int) (a0_5 : Int) (a0_6 : Int) (r : Int) (w : World) (hr0_0 : Kd.C Kd.string w A0_0 l0_0.length l0_0) (hc0_0 : l0_0.length ≤ c0_0) (hr0_1 : Kd.C k70 w A0_1 l0_1.length l0_1) (hc0_1 : l0_1.length ≤ c0_1) (hr0_2 : Kd.C k27 w A0_2 l0_2.length l0_2) (hc0_2 : l0_2.length ≤ c0_2) (hr0_3 : Kd.C k89 w A0_3 l0_3.length l0_3) (hc0_3 : l0_3.length ≤ c0_3) (h : b_Check.f k l0_0 l0_1 l0_2 l0_3 a0_4 a0_5 a0_6 = some r) :
  Calls Tryz.prog 34 #[.agg #[.slice A0_0 l0_0.length c0_0, .slice A0_1 l0_1.length c0_1, .slice A0_2 l0_2.length c0_2, .slice A0_3 l0_3.length c0_3, .int .i64 a0_4, .int .i64 a0_5, .int .i64 a0_6]] w fun e w' => e = .returned (.int .i64 r) ∧ Below w.heap.size w w' := by
 have hu29 := Tryz.underlying29; have hu89 := Tryz.underlying89; have hu27 := Tryz.underlying27; have HR0_0 := Sd.mk hr0_0; have HC0_0 := Sd.mk hc0_0; clear hr0_0 hc0_0; have HR0_1 := Sd.mk hr0_1; have HC0_1 := Sd.mk hc0_1; clear hr0_1 hc0_1; have HR0_2 := Sd.mk hr0_2; have HC0_2 := Sd.mk hc0_2; clear hr0_2 hc0_2; have HR0_3 := Sd.mk hr0_3; have HC0_3 := Sd.mk hc0_3; clear hr0_3 hc0_3; have HB := Sd.mk (Below.refl w.heap.size w)
 have H : ((b_checkOxides.f k l0_0 l0_1 l0_2 l0_3 a0_4 a0_5 a0_6).bind fun t137 => (if t137 = 0 then ((b_checkMaterials.f k l0_0 l0_1 l0_2 l0_3 a0_4 a0_5 a0_6).bind fun t138 => (if t138 = 0 then (if (l0_2.length : Int) = (l0_0.length : Int) then ((x_spans.f l0_2).bind fun t139 => (b_Check.j0 k t139 l0_0 l0_1 l0_2 l0_3 a0_4 a0_5 a0_6)) else (b_Check.j0 k true l0_0 l0_1 l0_2 l0_3 a0_4 a0_5 a0_6)) else (some t138))) else (some t137))) = some r := h
 clear h; replace H := Option.bind_eq_some_iff.mp H; obtain ⟨t137, A20, H⟩ := H
 try dsimp only at H
 have A2 := Sd.mk A20; clear A20
 by_cases c3 : t137 = 0
 ·rw [if_pos c3] at H
  have c3b0 : (t137 == 0) = true := beq_iff_eq.mpr c3
  have c3b1 : (t137 != 0) = false := bne_eq_false_iff_eq.mpr c3
  clear c3; replace H := Option.bind_eq_some_iff.mp H; obtain ⟨t138, A40, H⟩ := H
  try dsimp only at H
  have A4 := Sd.mk A40; clear A40
  by_cases c5 : t138 = 0
  ·rw [if_pos c5] at H
   have c5b0 : (t138 == 0) = true := beq_iff_eq.mpr c5
   have c5b1 : (t138 != 0) = false := bne_eq_false_iff_eq.mpr c5
   clear c5; have HC6 := Sd.mk H; clear H
   go_enter Tryz.func34, Tryz.ntmps34
   go_upto_region 7 with (first | ((with_reducible refine gate_dst (N := 1) rfl ?_); refine box_event ?hg (N := 1) ?hd (cs := #[.slice A0_0 l0_0.length c0_0, .slice A0_1 l0_1.length c0_1, .slice A0_2 l0_2.length c0_2, .slice A0_3 l0_3.length c0_3, .int .i64 a0_4, .int .i64 a0_5, .int .i64 a0_6]) (t := 29) ?hr ?_; (case hd => rfl); (case hg => rfl); (case hr => exact tG); intro gb136 hg w7 hbox hb; have BK136 := Sd.mk (hbox); have GW136 := Sd.mk (bSz hg (bBl HB.out)); have GE136 := Sd.mk (bSz hg (bBl HB.out)); replace HB := Sd.mk (below_step (bBl HB.out) hb); clear hb hbox hg; obtain ⟨u8_0, u8_1, u8_2, u8_3, u8_4, u8_5, u8_6, o8_0, o8_1, o8_2, o8_3, o8_4, o8_5, o8_6⟩ := bc7 (w := w7) BK136.out) | ((with_reducible refine gate_callee (f := 97) rfl ?_); refine goesL_ (some 9) rfl rfl Tryz.func97 (by kernel_rfl) rfl #[.agg #[.slice A0_0 l0_0.length c0_0, .slice A0_1 l0_1.length c0_1, .slice A0_2 l0_2.length c0_2, .slice A0_3 l0_3.length c0_3, .int .i64 a0_4, .int .i64 a0_5, .int .i64 a0_6]] rfl tM ?_; (with_reducible refine (b_checkOxides.calls k _ _ l0_0 _ _ l0_1 _ _ l0_2 _ _ l0_3 a0_4 a0_5 a0_6 t137 _ (cS (Kd.C_below HR0_0.out HB.out)) HC0_0.out (cS (Kd.C_below HR0_1.out HB.out)) HC0_1.out (cS (Kd.C_below HR0_2.out HB.out)) HC0_2.out (cS (Kd.C_below HR0_3.out HB.out)) HC0_3.out A2.out).mono ?_); rintro e w9 ⟨rfl, hb⟩; refine ⟨_, rfl, ?_⟩; replace BK136 := Sd.mk (blk_below (bkA BK136.out) hb); replace HB := Sd.mk (below_step (bBl HB.out) hb); (try clear hb); (try clear hb2); (try clear hk); (try clear hi); obtain ⟨u10_0, u10_1, u10_2, u10_3, u10_4, u10_5, u10_6, o10_0, o10_1, o10_2, o10_3, o10_4, o10_5, o10_6⟩ := bc7 (w := w9) BK136.out) | ((with_reducible refine gate_callee (f := 98) rfl ?_); refine goesL_ (some 14) rfl rfl Tryz.func98 (by kernel_rfl) rfl #[.agg #[.slice A0_0 l0_0.length c0_0, .slice A0_1 l0_1.length c0_1, .slice A0_2 l0_2.length c0_2, .slice A0_3 l0_3.length c0_3, .int .i64 a0_4, .int .i64 a0_5, .int .i64 a0_6]] rfl tM ?_; (with_reducible refine (b_checkMaterials.calls k _ _ l0_0 _ _ l0_1 _ _ l0_2 _ _ l0_3 a0_4 a0_5 a0_6 t138 _ (cS (Kd.C_below HR0_0.out HB.out)) HC0_0.out (cS (Kd.C_below HR0_1.out HB.out)) HC0_1.out (cS (Kd.C_below HR0_2.out HB.out)) HC0_2.out (cS (Kd.C_below HR0_3.out HB.out)) HC0_3.out A4.out).mono ?_); rintro e w11 ⟨rfl, hb⟩; refine ⟨_, rfl, ?_⟩; replace BK136 := Sd.mk (blk_below (bkA BK136.out) hb); replace HB := Sd.mk (below_step (bBl HB.out) hb); (try clear hb); (try clear hb2); (try clear hk); (try clear hi)))
   (try simp only [Act.put, List.setIfInBounds_toArray, List.set_cons_zero, List.set_cons_succ])
   go_cut [29] (fun v29 wc => ∃ (kq : Nat) (x29_5 : Bool), v29 = .bool x29_5 ∧ Sd (b_Check.j0 kq x29_5 l0_0 l0_1 l0_2 l0_3 a0_4 a0_5 a0_6 = some r) ∧ Sd (kq ≤ k) ∧ Sd (wc.heap[gb136]? = some (.cells #[(.slice A0_0 l0_0.length c0_0), (.slice A0_1 l0_1.length c0_1), (.slice A0_2 l0_2.length c0_2), (.slice A0_3 l0_3.length c0_3), .int .i64 a0_4, .int .i64 a0_5, .int .i64 a0_6] 29 (0, 0))) ∧ Sd (Below w.heap.size w wc))
   case first =>
    have H := HC6.out; clear HC6
    by_cases c12 : (l0_2.length : Int) = (l0_0.length : Int)
    ·rw [if_pos c12] at H
     have c12b0 : ((l0_2.length : Int) == (l0_0.length : Int)) = true := beq_iff_eq.mpr c12
     have c12b1 : ((l0_2.length : Int) != (l0_0.length : Int)) = false := bne_eq_false_iff_eq.mpr c12
     have c12b2 : (l0_2.length == l0_0.length) = true := by first | simpa using c12 | (simp at c12 ⊢; omega)
     clear c12
     (first | rw [c12b0] | (simp only [i64_w, i32_w]; rw [c12b0]) | skip)
     replace H := Option.bind_eq_some_iff.mp H; obtain ⟨t139, A130, H⟩ := H
     try dsimp only at H
     have A13 := Sd.mk A130; clear A130; have H' := Sd.mk H; clear H; obtain ⟨u14_0, u14_1, u14_2, u14_3, u14_4, u14_5, u14_6, o14_0, o14_1, o14_2, o14_3, o14_4, o14_5, o14_6⟩ := bc7 (w := w11) BK136.out
     go_wp2_with (first | (go_at_call 99; (with_reducible refine (x_spans.calls _ _ l0_2 t139 _ (cS (Kd.C_below HR0_2.out HB.out)) HC0_2.out A13.out).mono ?_); rintro e w15 ⟨rfl, hb⟩; replace BK136 := Sd.mk (blk_below (bkA BK136.out) hb); replace HB := Sd.mk (below_step (bBl HB.out) hb); (try clear hb); (try clear hb2); (try clear hk); (try clear hi)))
     go_meet
     case rel => exact ⟨_, (t139), tS, H', ⟨by first | omega | exact Nat.le_refl _⟩, ⟨bkA BK136.out⟩, ⟨bBl HB.out⟩⟩
    ·rw [if_neg c12] at H
     have c12b0 : ((l0_2.length : Int) == (l0_0.length : Int)) = false := beq_eq_false_iff_ne.mpr c12
     have c12b1 : ((l0_2.length : Int) != (l0_0.length : Int)) = true := bne_iff_ne.mpr c12
     have c12b2 : (l0_2.length == l0_0.length) = false := by first | simpa using c12 | (simp at c12 ⊢; omega)
     (first | rw [c12b0] | (simp only [i64_w, i32_w]; rw [c12b0]) | skip)
     have H' := Sd.mk H; clear H; obtain ⟨u16_0, u16_1, u16_2, u16_3, u16_4, u16_5, u16_6, o16_0, o16_1, o16_2, o16_3, o16_4, o16_5, o16_6⟩ := bc7 (w := w11) BK136.out
     go_wp2
     go_meet
     case rel => exact ⟨_, (true), tS, H', ⟨by first | omega | exact Nat.le_refl _⟩, ⟨bkA BK136.out⟩, ⟨bBl HB.out⟩⟩
   case rest =>
    clear HC6; (try clear c1); (try clear p2); (try clear c3); (try clear c3b0); (try clear c3b1); (try clear c5); (try clear c5b0); (try clear c5b1); (try clear c9); (try clear c12); (try clear c12b0); (try clear c12b1); (try clear c12b2); (try clear u10_0 u10_1 u10_2 u10_3 u10_4 u10_5 u10_6); (try clear u14_0 u14_1 u14_2 u14_3 u14_4 u14_5 u14_6); (try clear u16_0 u16_1 u16_2 u16_3 u16_4 u16_5 u16_6); (try clear u8_0 u8_1 u8_2 u8_3 u8_4 u8_5 u8_6); (try clear o10_0 o10_1 o10_2 o10_3 o10_4 o10_5 o10_6); (try clear o14_0 o14_1 o14_2 o14_3 o14_4 o14_5 o14_6); (try clear o16_0 o16_1 o16_2 o16_3 o16_4 o16_5 o16_6); (try clear o8_0 o8_1 o8_2 o8_3 o8_4 o8_5 o8_6); obtain ⟨kq, x29_5, rfl, HA, HJ5, BK136, HB⟩ := hcut
    cases kq with
    | zero => exact absurd HA.out (by simp [b_Check.j0])
    | succ kj5 =>
     have H := HA.out; clear HA
     simp only [b_Check.j0] at H
     by_cases c17 : x29_5 = true
     ·subst c17
      have H1 : (some 1) = some r := by rw [if_pos rfl] at H; exact H
      clear H; have H := H1; clear H1; obtain rfl := Option.some.inj H
      go_wp2
      go_ret
      exact ⟨tE, bBl HB.out⟩
     ·replace c17 := Bool.eq_false_iff.mpr c17
      subst c17
      have H1 : (if (l0_3.length : Int) > 6 then (some 3) else (b_Check.l0 kj5 l0_3 (l0_3.length : Int) 0 l0_0 l0_1 l0_2 l0_3 a0_4 a0_5 a0_6)) = some r := by rw [if_neg (show ¬ (false = true) by decide)] at H; exact H
      clear H; have H := H1; clear H1
      by_cases c18 : (l0_3.length : Int) > 6
      ·rw [if_pos c18] at H
       have c18b0 : decide (6 < (l0_3.length : Int)) = true := decide_eq_true c18
       have c18b1 : decide (6 < l0_3.length) = true := decide_eq_true (by omega)
       clear c18; obtain rfl := Option.some.inj H; obtain ⟨u19_0, u19_1, u19_2, u19_3, u19_4, u19_5, u19_6, o19_0, o19_1, o19_2, o19_3, o19_4, o19_5, o19_6⟩ := bc7 (w := wc) BK136.out
       go_wp2
       go_ret
       exact ⟨tE, bBl HB.out⟩
      ·rw [if_neg c18] at H
       have c18b0 : decide (6 < (l0_3.length : Int)) = false := decide_eq_false c18
       have c18b1 : decide (6 < l0_3.length) = false := decide_eq_false (by omega)
       clear c18; have H' := Sd.mk H; clear H; obtain ⟨u20_0, u20_1, u20_2, u20_3, u20_4, u20_5, u20_6, o20_0, o20_1, o20_2, o20_3, o20_4, o20_5, o20_6⟩ := bc7 (w := wc) BK136.out
       go_wp2
       go_loopg [37] kj5 (fun kq v37 w' => ∃ (x37_2 : Int), v37 = .int .i64 x37_2 ∧ Sd (b_Check.l0 kq l0_3 (l0_3.length : Int) x37_2 l0_0 l0_1 l0_2 l0_3 a0_4 a0_5 a0_6 = some r) ∧ Sd (kq ≤ kj5) ∧ Sd (w'.heap[gb136]? = some (.cells #[(.slice A0_0 l0_0.length c0_0), (.slice A0_1 l0_1.length c0_1), (.slice A0_2 l0_2.length c0_2), (.slice A0_3 l0_3.length c0_3), .int .i64 a0_4, .int .i64 a0_5, .int .i64 a0_6] 29 (0, 0))) ∧ Sd (Below w.heap.size w w'))
       case atStart => exact ⟨(0), tS, H', ⟨Nat.le_refl _⟩, ⟨bkA BK136.out⟩, ⟨bBl HB.out⟩⟩
       case round =>
        clear H'; (try clear c1); (try clear p2 p2); (try clear c3); (try clear c3b0); (try clear c3b1); (try clear c5); (try clear c5b0); (try clear c5b1); (try clear c9); (try clear c12); (try clear c12b0); (try clear c12b1); (try clear c12b2); (try clear c17); (try clear c18); (try clear c18b0); (try clear c18b1); (try clear u10_0 u10_1 u10_2 u10_3 u10_4 u10_5 u10_6); (try clear u14_0 u14_1 u14_2 u14_3 u14_4 u14_5 u14_6); (try clear u16_0 u16_1 u16_2 u16_3 u16_4 u16_5 u16_6); (try clear u19_0 u19_1 u19_2 u19_3 u19_4 u19_5 u19_6); (try clear u20_0 u20_1 u20_2 u20_3 u20_4 u20_5 u20_6); (try clear u8_0 u8_1 u8_2 u8_3 u8_4 u8_5 u8_6); (try clear o10_0 o10_1 o10_2 o10_3 o10_4 o10_5 o10_6); (try clear o14_0 o14_1 o14_2 o14_3 o14_4 o14_5 o14_6); (try clear o16_0 o16_1 o16_2 o16_3 o16_4 o16_5 o16_6); (try clear o19_0 o19_1 o19_2 o19_3 o19_4 o19_5 o19_6); (try clear o20_0 o20_1 o20_2 o20_3 o20_4 o20_5 o20_6); (try clear o8_0 o8_1 o8_2 o8_3 o8_4 o8_5 o8_6); obtain ⟨x37_2, rfl, HA, HK2, BK136, HB⟩ := hrel
        cases gk with
        | zero => exact absurd HA.out (by simp [b_Check.l0])
        | succ k2 =>
         have H := HA.out; clear HA
         simp only [b_Check.l0] at H
         by_cases c21 : x37_2 < (l0_3.length : Int)
         ·rw [if_pos c21] at H
          have c21b0 : decide (x37_2 < (l0_3.length : Int)) = true := decide_eq_true c21
          clear c21
          by_cases c22 : 0 ≤ x37_2
          ·rw [if_pos c22] at H
           have c22b0 : decide (0 ≤ x37_2) = true := decide_eq_true c22
           clear c22
           by_cases c23 : x37_2 < (l0_3.length : Int)
           ·rw [if_pos c23] at H
            have c23b0 : decide (x37_2 < (l0_3.length : Int)) = true := decide_eq_true c23
            clear c23; replace H := Option.bind_eq_some_iff.mp H; obtain ⟨t142, A240, H⟩ := H
            try dsimp only at H
            have A24 := Sd.mk A240; clear A240
            by_cases c25 : t142 = true
            ·subst c25
             have H1 : ((x_twiceP.f l0_3 x37_2).bind fun t143 => (if t143 = true then (some 6) else ((b_checkProperty.f l0_0 l0_1 l0_2 l0_3 a0_4 a0_5 a0_6 ((rd_T89 l0_3 x37_2).f0) ((rd_T89 l0_3 x37_2).f1) ((rd_T89 l0_3 x37_2).f2.f0) ((rd_T89 l0_3 x37_2).f2.f1)).bind fun t144 => (if t144 = 0 then (b_Check.l0 k2 l0_3 (l0_3.length : Int) (wrap64 (x37_2 + 1)) l0_0 l0_1 l0_2 l0_3 a0_4 a0_5 a0_6) else (some t144))))) = some r := by rw [if_pos rfl] at H; exact H
             clear H; have H := H1; clear H1; replace H := Option.bind_eq_some_iff.mp H; obtain ⟨t143, A260, H⟩ := H
             try dsimp only at H
             have A26 := Sd.mk A260; clear A260
             by_cases c27 : t143 = true
             ·subst c27
              have H1 : (some 6) = some r := by rw [if_pos rfl] at H; exact H
              clear H; have H := H1; clear H1; obtain rfl := Option.some.inj H
              have p140 : 0 ≤ (x37_2 : Int) := tB
              have q140 : x37_2 < (l0_3.length : Int) := tB
              obtain ⟨ad140, A140_1, c140_1, e140, hx140_0, hx140_1, hx140_2, hx140_3, hl140_1, hi140_1⟩ := at_T89 HR0_3.out x37_2 p140 q140; cases e140; replace hx140_0 := cU HB hx140_0; replace hx140_1 := cU HB hx140_1; replace hx140_2 := cU HB hx140_2; replace hx140_3 := cU HB hx140_3; have HR140_1 := Sd.mk hi140_1; have HC140_1 := Sd.mk hl140_1; clear hi140_1 hl140_1; replace p140 := eq_true p140; replace q140 := eq_true q140
              go_wp2_with (first | ((with_reducible refine gate_dst (N := 6) rfl ?_); refine box_event ?hg (N := 6) ?hd (cs := #[.string (⟨#[]⟩ : ByteArray), .slice none 0 0, .int .i64 0, .int .i64 0]) (t := 89) ?hr ?_; (case hd => rfl); (case hg => rfl); (case hr => exact tG); intro gb141 hg w28 hbox hb; have BK141 := Sd.mk (hbox); have GW141 := Sd.mk (bSz hg (bBl HB.out)); have GE141 := Sd.mk (bSz hg (bBl HB.out)); replace HB := Sd.mk (below_step (bBl HB.out) hb); have NB136_141 := Sd.mk (bNl hg (bkA BK136.out)); have NB141_136 := Sd.mk (bNg hg (bkA BK136.out)); replace BK136 := Sd.mk (blk_below (bkA BK136.out) hb); clear hb hbox hg; have hnb29 := NB141_136.out; have hnc29 := NB136_141.out; obtain ⟨u30_0, u30_1, u30_2, u30_3, o30_0, o30_1, o30_2, o30_3⟩ := bc4 (w := w28) BK141.out) | ((with_reducible refine gate_callee (f := 102) rfl ?_); refine goesL_ (some 45) rfl rfl Tryz.func102 (by kernel_rfl) rfl #[.string ((rd_T89 l0_3 x37_2).f0)] rfl tM ?_; (with_reducible refine (b_name.calls k2 ((rd_T89 l0_3 x37_2).f0) true _ A24.out).mono ?_); rintro e w' ⟨rfl, ⟨nd, rfl⟩⟩; refine ⟨_, rfl, ?_⟩; obtain ⟨u31_0, u31_1, u31_2, u31_3, u31_4, u31_5, u31_6, o31_0, o31_1, o31_2, o31_3, o31_4, o31_5, o31_6⟩ := bc7 (w := w28) BK136.out) | ((with_reducible refine gate_callee (f := 103) rfl ?_); refine goesL_ (some 51) rfl rfl Tryz.func103 (by kernel_rfl) rfl #[.slice (some ad140) l0_3.length c0_3, .int .i64 x37_2, .func (.func 104) #[] #[]] rfl tM ?_; (with_reducible refine (x_twiceP.calls _ _ l0_3 x37_2 true _ (Kd.C_below HR0_3.out (bBl HB.out)) HC0_3.out A26.out).mono ?_); rintro e w32 ⟨rfl, hb⟩; refine ⟨_, rfl, ?_⟩; replace BK136 := Sd.mk (blk_below (g := gb136) (o := .cells #[.slice A0_0 l0_0.length c0_0, .slice A0_1 l0_1.length c0_1, .slice A0_2 l0_2.length c0_2, .slice (some ad140) l0_3.length c0_3, .int .i64 a0_4, .int .i64 a0_5, .int .i64 a0_6] 29 (0, 0)) (by refine bkZ ?_; refine blk_far ?_ NB136_141.out _; refine bkZ ?_; refine blk_far ?_ NB136_141.out _; refine bkZ ?_; refine blk_far ?_ NB136_141.out _; refine bkZ ?_; refine blk_far ?_ NB136_141.out _; refine bkZ ?_; exact BK136.out) hb); replace BK141 := Sd.mk (blk_below (g := gb141) (o := .cells #[.string ((rd_T89 l0_3 x37_2).f0), .slice A140_1 ((rd_T89 l0_3 x37_2).f1).length c140_1, .int .i64 ((rd_T89 l0_3 x37_2).f2.f0), .int .i64 ((rd_T89 l0_3 x37_2).f2.f1)] 89 (0, 0)) (by refine bkZ ?_; refine blk_put (cs := #[.string ((rd_T89 l0_3 x37_2).f0), .slice A140_1 ((rd_T89 l0_3 x37_2).f1).length c140_1, .int .i64 ((rd_T89 l0_3 x37_2).f2.f0), .int .i64 0]) ?_ 3 _ rfl; refine bkZ ?_; refine blk_put (cs := #[.string ((rd_T89 l0_3 x37_2).f0), .slice A140_1 ((rd_T89 l0_3 x37_2).f1).length c140_1, .int .i64 0, .int .i64 0]) ?_ 2 _ rfl; refine bkZ ?_; refine blk_put (cs := #[.string ((rd_T89 l0_3 x37_2).f0), .slice none 0 0, .int .i64 0, .int .i64 0]) ?_ 1 _ rfl; refine bkZ ?_; refine blk_put (cs := #[.string (⟨#[]⟩ : ByteArray), .slice none 0 0, .int .i64 0, .int .i64 0]) ?_ 0 _ rfl; refine bkZ ?_; exact BK141.out) hb); replace HB := Sd.mk (below_step (bBl HB.out) hb); (try clear hb); (try clear hb2); (try clear hk); (try clear hi)))
              go_ret
              exact ⟨tE, bBl HB.out⟩
             ·replace c27 := Bool.eq_false_iff.mpr c27
              subst c27
              have H1 : ((b_checkProperty.f l0_0 l0_1 l0_2 l0_3 a0_4 a0_5 a0_6 ((rd_T89 l0_3 x37_2).f0) ((rd_T89 l0_3 x37_2).f1) ((rd_T89 l0_3 x37_2).f2.f0) ((rd_T89 l0_3 x37_2).f2.f1)).bind fun t144 => (if t144 = 0 then (b_Check.l0 k2 l0_3 (l0_3.length : Int) (wrap64 (x37_2 + 1)) l0_0 l0_1 l0_2 l0_3 a0_4 a0_5 a0_6) else (some t144))) = some r := by rw [if_neg (show ¬ (false = true) by decide)] at H; exact H
              clear H; have H := H1; clear H1; replace H := Option.bind_eq_some_iff.mp H; obtain ⟨t144, A330, H⟩ := H
              try dsimp only at H
              have A33 := Sd.mk A330; clear A330
              by_cases c34 : t144 = 0
              ·rw [if_pos c34] at H
               have c34b0 : (t144 == 0) = true := beq_iff_eq.mpr c34
               have c34b1 : (t144 != 0) = false := bne_eq_false_iff_eq.mpr c34
               clear c34; have H' := Sd.mk H; clear H
               have p140 : 0 ≤ (x37_2 : Int) := tB
               have q140 : x37_2 < (l0_3.length : Int) := tB
               obtain ⟨ad140, A140_1, c140_1, e140, hx140_0, hx140_1, hx140_2, hx140_3, hl140_1, hi140_1⟩ := at_T89 HR0_3.out x37_2 p140 q140; cases e140; replace hx140_0 := cU HB hx140_0; replace hx140_1 := cU HB hx140_1; replace hx140_2 := cU HB hx140_2; replace hx140_3 := cU HB hx140_3; have HR140_1 := Sd.mk hi140_1; have HC140_1 := Sd.mk hl140_1; clear hi140_1 hl140_1; replace p140 := eq_true p140; replace q140 := eq_true q140
               go_wp2_with (first | ((with_reducible refine gate_dst (N := 6) rfl ?_); refine box_event ?hg (N := 6) ?hd (cs := #[.string (⟨#[]⟩ : ByteArray), .slice none 0 0, .int .i64 0, .int .i64 0]) (t := 89) ?hr ?_; (case hd => rfl); (case hg => rfl); (case hr => exact tG); intro gb141 hg w35 hbox hb; have BK141 := Sd.mk (hbox); have GW141 := Sd.mk (bSz hg (bBl HB.out)); have GE141 := Sd.mk (bSz hg (bBl HB.out)); replace HB := Sd.mk (below_step (bBl HB.out) hb); have NB136_141 := Sd.mk (bNl hg (bkA BK136.out)); have NB141_136 := Sd.mk (bNg hg (bkA BK136.out)); replace BK136 := Sd.mk (blk_below (bkA BK136.out) hb); clear hb hbox hg; have hnb36 := NB141_136.out; have hnc36 := NB136_141.out; obtain ⟨u37_0, u37_1, u37_2, u37_3, o37_0, o37_1, o37_2, o37_3⟩ := bc4 (w := w35) BK141.out) | ((with_reducible refine gate_callee (f := 102) rfl ?_); refine goesL_ (some 45) rfl rfl Tryz.func102 (by kernel_rfl) rfl #[.string ((rd_T89 l0_3 x37_2).f0)] rfl tM ?_; (with_reducible refine (b_name.calls k2 ((rd_T89 l0_3 x37_2).f0) true _ A24.out).mono ?_); rintro e w' ⟨rfl, ⟨nd, rfl⟩⟩; refine ⟨_, rfl, ?_⟩; obtain ⟨u38_0, u38_1, u38_2, u38_3, u38_4, u38_5, u38_6, o38_0, o38_1, o38_2, o38_3, o38_4, o38_5, o38_6⟩ := bc7 (w := w35) BK136.out) | ((with_reducible refine gate_callee (f := 103) rfl ?_); refine goesL_ (some 51) rfl rfl Tryz.func103 (by kernel_rfl) rfl #[.slice (some ad140) l0_3.length c0_3, .int .i64 x37_2, .func (.func 104) #[] #[]] rfl tM ?_; (with_reducible refine (x_twiceP.calls _ _ l0_3 x37_2 false _ (Kd.C_below HR0_3.out (bBl HB.out)) HC0_3.out A26.out).mono ?_); rintro e w39 ⟨rfl, hb⟩; refine ⟨_, rfl, ?_⟩; replace BK136 := Sd.mk (blk_below (g := gb136) (o := .cells #[.slice A0_0 l0_0.length c0_0, .slice A0_1 l0_1.length c0_1, .slice A0_2 l0_2.length c0_2, .slice (some ad140) l0_3.length c0_3, .int .i64 a0_4, .int .i64 a0_5, .int .i64 a0_6] 29 (0, 0)) (by refine bkZ ?_; refine blk_far ?_ NB136_141.out _; refine bkZ ?_; refine blk_far ?_ NB136_141.out _; refine bkZ ?_; refine blk_far ?_ NB136_141.out _; refine bkZ ?_; refine blk_far ?_ NB136_141.out _; refine bkZ ?_; exact BK136.out) hb); replace BK141 := Sd.mk (blk_below (g := gb141) (o := .cells #[.string ((rd_T89 l0_3 x37_2).f0), .slice A140_1 ((rd_T89 l0_3 x37_2).f1).length c140_1, .int .i64 ((rd_T89 l0_3 x37_2).f2.f0), .int .i64 ((rd_T89 l0_3 x37_2).f2.f1)] 89 (0, 0)) (by refine bkZ ?_; refine blk_put (cs := #[.string ((rd_T89 l0_3 x37_2).f0), .slice A140_1 ((rd_T89 l0_3 x37_2).f1).length c140_1, .int .i64 ((rd_T89 l0_3 x37_2).f2.f0), .int .i64 0]) ?_ 3 _ rfl; refine bkZ ?_; refine blk_put (cs := #[.string ((rd_T89 l0_3 x37_2).f0), .slice A140_1 ((rd_T89 l0_3 x37_2).f1).length c140_1, .int .i64 0, .int .i64 0]) ?_ 2 _ rfl; refine bkZ ?_; refine blk_put (cs := #[.string ((rd_T89 l0_3 x37_2).f0), .slice none 0 0, .int .i64 0, .int .i64 0]) ?_ 1 _ rfl; refine bkZ ?_; refine blk_put (cs := #[.string (⟨#[]⟩ : ByteArray), .slice none 0 0, .int .i64 0, .int .i64 0]) ?_ 0 _ rfl; refine bkZ ?_; exact BK141.out) hb); replace HB := Sd.mk (below_step (bBl HB.out) hb); (try clear hb); (try clear hb2); (try clear hk); (try clear hi); obtain ⟨u40_0, u40_1, u40_2, u40_3, u40_4, u40_5, u40_6, o40_0, o40_1, o40_2, o40_3, o40_4, o40_5, o40_6⟩ := bc7 (w := w39) BK136.out; obtain ⟨u41_0, u41_1, u41_2, u41_3, o41_0, o41_1, o41_2, o41_3⟩ := bc4 (w := w39) BK141.out) | ((with_reducible refine gate_callee (f := 105) rfl ?_); refine goesL_ (some 54) rfl rfl Tryz.func105 (by kernel_rfl) rfl #[.agg #[.slice A0_0 l0_0.length c0_0, .slice A0_1 l0_1.length c0_1, .slice A0_2 l0_2.length c0_2, .slice (some ad140) l0_3.length c0_3, .int .i64 a0_4, .int .i64 a0_5, .int .i64 a0_6], .agg #[.string ((rd_T89 l0_3 x37_2).f0), .slice A140_1 ((rd_T89 l0_3 x37_2).f1).length c140_1, .int .i64 ((rd_T89 l0_3 x37_2).f2.f0), .int .i64 ((rd_T89 l0_3 x37_2).f2.f1)]] rfl tM ?_; (with_reducible refine (b_checkProperty.calls _ _ l0_0 _ _ l0_1 _ _ l0_2 _ _ l0_3 a0_4 a0_5 a0_6 ((rd_T89 l0_3 x37_2).f0) _ _ ((rd_T89 l0_3 x37_2).f1) ((rd_T89 l0_3 x37_2).f2.f0) ((rd_T89 l0_3 x37_2).f2.f1) t144 _ (cS (Kd.C_below HR0_0.out HB.out)) HC0_0.out (cS (Kd.C_below HR0_1.out HB.out)) HC0_1.out (cS (Kd.C_below HR0_2.out HB.out)) HC0_2.out (cS (Kd.C_below HR0_3.out HB.out)) HC0_3.out (cS (Kd.C_below HR140_1.out HB.out)) HC140_1.out A33.out).mono ?_); rintro e w42 ⟨rfl, hb⟩; refine ⟨_, rfl, ?_⟩; replace BK136 := Sd.mk (blk_below (bkA BK136.out) hb); replace BK141 := Sd.mk (blk_below (bkA BK141.out) hb); replace HB := Sd.mk (below_step (bBl HB.out) hb); (try clear hb); (try clear hb2); (try clear hk); (try clear hi)))
               go_roundg k2
               case measure => have := HJ5.out; have := HK2.out; omega
               case rel => exact ⟨(wrap64 (x37_2 + 1)), tS, H', ⟨by have := HJ5.out; have := HK2.out; omega⟩, ⟨bkA BK136.out⟩, ⟨bBl HB.out⟩⟩
              ·rw [if_neg c34] at H
               have c34b0 : (t144 == 0) = false := beq_eq_false_iff_ne.mpr c34
               have c34b1 : (t144 != 0) = true := bne_iff_ne.mpr c34
               obtain rfl := Option.some.inj H
               have p140 : 0 ≤ (x37_2 : Int) := tB
               have q140 : x37_2 < (l0_3.length : Int) := tB
               obtain ⟨ad140, A140_1, c140_1, e140, hx140_0, hx140_1, hx140_2, hx140_3, hl140_1, hi140_1⟩ := at_T89 HR0_3.out x37_2 p140 q140; cases e140; replace hx140_0 := cU HB hx140_0; replace hx140_1 := cU HB hx140_1; replace hx140_2 := cU HB hx140_2; replace hx140_3 := cU HB hx140_3; have HR140_1 := Sd.mk hi140_1; have HC140_1 := Sd.mk hl140_1; clear hi140_1 hl140_1; replace p140 := eq_true p140; replace q140 := eq_true q140
               go_wp2_with (first | ((with_reducible refine gate_dst (N := 6) rfl ?_); refine box_event ?hg (N := 6) ?hd (cs := #[.string (⟨#[]⟩ : ByteArray), .slice none 0 0, .int .i64 0, .int .i64 0]) (t := 89) ?hr ?_; (case hd => rfl); (case hg => rfl); (case hr => exact tG); intro gb141 hg w43 hbox hb; have BK141 := Sd.mk (hbox); have GW141 := Sd.mk (bSz hg (bBl HB.out)); have GE141 := Sd.mk (bSz hg (bBl HB.out)); replace HB := Sd.mk (below_step (bBl HB.out) hb); have NB136_141 := Sd.mk (bNl hg (bkA BK136.out)); have NB141_136 := Sd.mk (bNg hg (bkA BK136.out)); replace BK136 := Sd.mk (blk_below (bkA BK136.out) hb); clear hb hbox hg; have hnb44 := NB141_136.out; have hnc44 := NB136_141.out; obtain ⟨u45_0, u45_1, u45_2, u45_3, o45_0, o45_1, o45_2, o45_3⟩ := bc4 (w := w43) BK141.out) | ((with_reducible refine gate_callee (f := 102) rfl ?_); refine goesL_ (some 45) rfl rfl Tryz.func102 (by kernel_rfl) rfl #[.string ((rd_T89 l0_3 x37_2).f0)] rfl tM ?_; (with_reducible refine (b_name.calls k2 ((rd_T89 l0_3 x37_2).f0) true _ A24.out).mono ?_); rintro e w' ⟨rfl, ⟨nd, rfl⟩⟩; refine ⟨_, rfl, ?_⟩; obtain ⟨u46_0, u46_1, u46_2, u46_3, u46_4, u46_5, u46_6, o46_0, o46_1, o46_2, o46_3, o46_4, o46_5, o46_6⟩ := bc7 (w := w43) BK136.out) | ((with_reducible refine gate_callee (f := 103) rfl ?_); refine goesL_ (some 51) rfl rfl Tryz.func103 (by kernel_rfl) rfl #[.slice (some ad140) l0_3.length c0_3, .int .i64 x37_2, .func (.func 104) #[] #[]] rfl tM ?_; (with_reducible refine (x_twiceP.calls _ _ l0_3 x37_2 false _ (Kd.C_below HR0_3.out (bBl HB.out)) HC0_3.out A26.out).mono ?_); rintro e w47 ⟨rfl, hb⟩; refine ⟨_, rfl, ?_⟩; replace BK136 := Sd.mk (blk_below (g := gb136) (o := .cells #[.slice A0_0 l0_0.length c0_0, .slice A0_1 l0_1.length c0_1, .slice A0_2 l0_2.length c0_2, .slice (some ad140) l0_3.length c0_3, .int .i64 a0_4, .int .i64 a0_5, .int .i64 a0_6] 29 (0, 0)) (by refine bkZ ?_; refine blk_far ?_ NB136_141.out _; refine bkZ ?_; refine blk_far ?_ NB136_141.out _; refine bkZ ?_; refine blk_far ?_ NB136_141.out _; refine bkZ ?_; refine blk_far ?_ NB136_141.out _; refine bkZ ?_; exact BK136.out) hb); replace BK141 := Sd.mk (blk_below (g := gb141) (o := .cells #[.string ((rd_T89 l0_3 x37_2).f0), .slice A140_1 ((rd_T89 l0_3 x37_2).f1).length c140_1, .int .i64 ((rd_T89 l0_3 x37_2).f2.f0), .int .i64 ((rd_T89 l0_3 x37_2).f2.f1)] 89 (0, 0)) (by refine bkZ ?_; refine blk_put (cs := #[.string ((rd_T89 l0_3 x37_2).f0), .slice A140_1 ((rd_T89 l0_3 x37_2).f1).length c140_1, .int .i64 ((rd_T89 l0_3 x37_2).f2.f0), .int .i64 0]) ?_ 3 _ rfl; refine bkZ ?_; refine blk_put (cs := #[.string ((rd_T89 l0_3 x37_2).f0), .slice A140_1 ((rd_T89 l0_3 x37_2).f1).length c140_1, .int .i64 0, .int .i64 0]) ?_ 2 _ rfl; refine bkZ ?_; refine blk_put (cs := #[.string ((rd_T89 l0_3 x37_2).f0), .slice none 0 0, .int .i64 0, .int .i64 0]) ?_ 1 _ rfl; refine bkZ ?_; refine blk_put (cs := #[.string (⟨#[]⟩ : ByteArray), .slice none 0 0, .int .i64 0, .int .i64 0]) ?_ 0 _ rfl; refine bkZ ?_; exact BK141.out) hb); replace HB := Sd.mk (below_step (bBl HB.out) hb); (try clear hb); (try clear hb2); (try clear hk); (try clear hi); obtain ⟨u48_0, u48_1, u48_2, u48_3, u48_4, u48_5, u48_6, o48_0, o48_1, o48_2, o48_3, o48_4, o48_5, o48_6⟩ := bc7 (w := w47) BK136.out; obtain ⟨u49_0, u49_1, u49_2, u49_3, o49_0, o49_1, o49_2, o49_3⟩ := bc4 (w := w47) BK141.out) | ((with_reducible refine gate_callee (f := 105) rfl ?_); refine goesL_ (some 54) rfl rfl Tryz.func105 (by kernel_rfl) rfl #[.agg #[.slice A0_0 l0_0.length c0_0, .slice A0_1 l0_1.length c0_1, .slice A0_2 l0_2.length c0_2, .slice (some ad140) l0_3.length c0_3, .int .i64 a0_4, .int .i64 a0_5, .int .i64 a0_6], .agg #[.string ((rd_T89 l0_3 x37_2).f0), .slice A140_1 ((rd_T89 l0_3 x37_2).f1).length c140_1, .int .i64 ((rd_T89 l0_3 x37_2).f2.f0), .int .i64 ((rd_T89 l0_3 x37_2).f2.f1)]] rfl tM ?_; (with_reducible refine (b_checkProperty.calls _ _ l0_0 _ _ l0_1 _ _ l0_2 _ _ l0_3 a0_4 a0_5 a0_6 ((rd_T89 l0_3 x37_2).f0) _ _ ((rd_T89 l0_3 x37_2).f1) ((rd_T89 l0_3 x37_2).f2.f0) ((rd_T89 l0_3 x37_2).f2.f1) t144 _ (cS (Kd.C_below HR0_0.out HB.out)) HC0_0.out (cS (Kd.C_below HR0_1.out HB.out)) HC0_1.out (cS (Kd.C_below HR0_2.out HB.out)) HC0_2.out (cS (Kd.C_below HR0_3.out HB.out)) HC0_3.out (cS (Kd.C_below HR140_1.out HB.out)) HC140_1.out A33.out).mono ?_); rintro e w50 ⟨rfl, hb⟩; refine ⟨_, rfl, ?_⟩; replace BK136 := Sd.mk (blk_below (bkA BK136.out) hb); replace BK141 := Sd.mk (blk_below (bkA BK141.out) hb); replace HB := Sd.mk (below_step (bBl HB.out) hb); (try clear hb); (try clear hb2); (try clear hk); (try clear hi)))
               go_ret
               exact ⟨tE, bBl HB.out⟩
            ·replace c25 := Bool.eq_false_iff.mpr c25
             subst c25
             have H1 : (some 5) = some r := by rw [if_neg (show ¬ (false = true) by decide)] at H; exact H
             clear H; have H := H1; clear H1; obtain rfl := Option.some.inj H
             have p140 : 0 ≤ (x37_2 : Int) := tB
             have q140 : x37_2 < (l0_3.length : Int) := tB
             obtain ⟨ad140, A140_1, c140_1, e140, hx140_0, hx140_1, hx140_2, hx140_3, hl140_1, hi140_1⟩ := at_T89 HR0_3.out x37_2 p140 q140; cases e140; replace hx140_0 := cU HB hx140_0; replace hx140_1 := cU HB hx140_1; replace hx140_2 := cU HB hx140_2; replace hx140_3 := cU HB hx140_3; have HR140_1 := Sd.mk hi140_1; have HC140_1 := Sd.mk hl140_1; clear hi140_1 hl140_1; replace p140 := eq_true p140; replace q140 := eq_true q140
             go_wp2_with (first | ((with_reducible refine gate_dst (N := 6) rfl ?_); refine box_event ?hg (N := 6) ?hd (cs := #[.string (⟨#[]⟩ : ByteArray), .slice none 0 0, .int .i64 0, .int .i64 0]) (t := 89) ?hr ?_; (case hd => rfl); (case hg => rfl); (case hr => exact tG); intro gb141 hg w51 hbox hb; have BK141 := Sd.mk (hbox); have GW141 := Sd.mk (bSz hg (bBl HB.out)); have GE141 := Sd.mk (bSz hg (bBl HB.out)); replace HB := Sd.mk (below_step (bBl HB.out) hb); have NB136_141 := Sd.mk (bNl hg (bkA BK136.out)); have NB141_136 := Sd.mk (bNg hg (bkA BK136.out)); replace BK136 := Sd.mk (blk_below (bkA BK136.out) hb); clear hb hbox hg; have hnb52 := NB141_136.out; have hnc52 := NB136_141.out; obtain ⟨u53_0, u53_1, u53_2, u53_3, o53_0, o53_1, o53_2, o53_3⟩ := bc4 (w := w51) BK141.out) | ((with_reducible refine gate_callee (f := 102) rfl ?_); refine goesL_ (some 45) rfl rfl Tryz.func102 (by kernel_rfl) rfl #[.string ((rd_T89 l0_3 x37_2).f0)] rfl tM ?_; (with_reducible refine (b_name.calls k2 ((rd_T89 l0_3 x37_2).f0) false _ A24.out).mono ?_); rintro e w' ⟨rfl, ⟨nd, rfl⟩⟩; refine ⟨_, rfl, ?_⟩))
             go_ret
             exact ⟨tE, bBl HB.out⟩
           ·rw [if_neg c23] at H
            exact absurd H (by simp)
          ·rw [if_neg c22] at H
           exact absurd H (by simp)
         ·rw [if_neg c21] at H
          have c21b0 : decide (x37_2 < (l0_3.length : Int)) = false := decide_eq_false c21
          clear c21; replace H := Option.bind_eq_some_iff.mp H; obtain ⟨t145, A540, H⟩ := H
          try dsimp only at H
          have A54 := Sd.mk A540; clear A540
          by_cases c55 : t145 = true
          ·subst c55
           have H1 : ((b_within.f a0_6 1 10000).bind fun t146 => (if t146 = true then (some 0) else (some 1))) = some r := by rw [if_pos rfl] at H; exact H
           clear H; have H := H1; clear H1; replace H := Option.bind_eq_some_iff.mp H; obtain ⟨t146, A560, H⟩ := H
           try dsimp only at H
           have A56 := Sd.mk A560; clear A560
           by_cases c57 : t146 = true
           ·subst c57
            have H1 : (some 0) = some r := by rw [if_pos rfl] at H; exact H
            clear H; have H := H1; clear H1; obtain rfl := Option.some.inj H; obtain ⟨u58_0, u58_1, u58_2, u58_3, u58_4, u58_5, u58_6, o58_0, o58_1, o58_2, o58_3, o58_4, o58_5, o58_6⟩ := bc7 (w := wr) BK136.out
            go_wp2_with (first | ((with_reducible refine gate_callee (f := 101) rfl ?_); refine goesL_ (some 61) rfl rfl Tryz.func101 (by kernel_rfl) rfl #[.agg #[.int .i64 a0_4, .int .i64 a0_5], .int .i64 (-10000), .int .i64 10000] rfl tM ?_; (with_reducible refine (b_span.calls a0_4 a0_5 (-10000) 10000 true _ A54.out).mono ?_); rintro e w59 ⟨rfl, hb⟩; refine ⟨_, rfl, ?_⟩; replace BK136 := Sd.mk (blk_below (bkA BK136.out) hb); replace HB := Sd.mk (below_step (bBl HB.out) hb); (try clear hb); (try clear hb2); (try clear hk); (try clear hi); obtain ⟨u60_0, u60_1, u60_2, u60_3, u60_4, u60_5, u60_6, o60_0, o60_1, o60_2, o60_3, o60_4, o60_5, o60_6⟩ := bc7 (w := w59) BK136.out) | (go_at_call 56; (with_reducible refine (b_within.calls a0_6 1 10000 true _ A56.out).mono ?_); rintro e w' ⟨rfl, ⟨nd, rfl⟩⟩))
            go_ret
            exact ⟨tE, bBl HB.out⟩
           ·replace c57 := Bool.eq_false_iff.mpr c57
            subst c57
            have H1 : (some 1) = some r := by rw [if_neg (show ¬ (false = true) by decide)] at H; exact H
            clear H; have H := H1; clear H1; obtain rfl := Option.some.inj H; obtain ⟨u61_0, u61_1, u61_2, u61_3, u61_4, u61_5, u61_6, o61_0, o61_1, o61_2, o61_3, o61_4, o61_5, o61_6⟩ := bc7 (w := wr) BK136.out
            go_wp2_with (first | ((with_reducible refine gate_callee (f := 101) rfl ?_); refine goesL_ (some 61) rfl rfl Tryz.func101 (by kernel_rfl) rfl #[.agg #[.int .i64 a0_4, .int .i64 a0_5], .int .i64 (-10000), .int .i64 10000] rfl tM ?_; (with_reducible refine (b_span.calls a0_4 a0_5 (-10000) 10000 true _ A54.out).mono ?_); rintro e w62 ⟨rfl, hb⟩; refine ⟨_, rfl, ?_⟩; replace BK136 := Sd.mk (blk_below (bkA BK136.out) hb); replace HB := Sd.mk (below_step (bBl HB.out) hb); (try clear hb); (try clear hb2); (try clear hk); (try clear hi); obtain ⟨u63_0, u63_1, u63_2, u63_3, u63_4, u63_5, u63_6, o63_0, o63_1, o63_2, o63_3, o63_4, o63_5, o63_6⟩ := bc7 (w := w62) BK136.out) | (go_at_call 56; (with_reducible refine (b_within.calls a0_6 1 10000 false _ A56.out).mono ?_); rintro e w' ⟨rfl, ⟨nd, rfl⟩⟩))
            go_ret
            exact ⟨tE, bBl HB.out⟩
          ·replace c55 := Bool.eq_false_iff.mpr c55
           subst c55
           have H1 : (some 1) = some r := by rw [if_neg (show ¬ (false = true) by decide)] at H; exact H
           clear H; have H := H1; clear H1; obtain rfl := Option.some.inj H; obtain ⟨u64_0, u64_1, u64_2, u64_3, u64_4, u64_5, u64_6, o64_0, o64_1, o64_2, o64_3, o64_4, o64_5, o64_6⟩ := bc7 (w := wr) BK136.out
           go_wp2_with (first | ((with_reducible refine gate_callee (f := 101) rfl ?_); refine goesL_ (some 61) rfl rfl Tryz.func101 (by kernel_rfl) rfl #[.agg #[.int .i64 a0_4, .int .i64 a0_5], .int .i64 (-10000), .int .i64 10000] rfl tM ?_; (with_reducible refine (b_span.calls a0_4 a0_5 (-10000) 10000 false _ A54.out).mono ?_); rintro e w65 ⟨rfl, hb⟩; refine ⟨_, rfl, ?_⟩; replace BK136 := Sd.mk (blk_below (bkA BK136.out) hb); replace HB := Sd.mk (below_step (bBl HB.out) hb); (try clear hb); (try clear hb2); (try clear hk); (try clear hi)))
           go_ret
           exact ⟨tE, bBl HB.out⟩
  ·rw [if_neg c5] at H
   have c5b0 : (t138 == 0) = false := beq_eq_false_iff_ne.mpr c5
   have c5b1 : (t138 != 0) = true := bne_iff_ne.mpr c5
   obtain rfl := Option.some.inj H
   go_enter Tryz.func34, Tryz.ntmps34
   go_wp2_with (first | ((with_reducible refine gate_dst (N := 1) rfl ?_); refine box_event ?hg (N := 1) ?hd (cs := #[.slice A0_0 l0_0.length c0_0, .slice A0_1 l0_1.length c0_1, .slice A0_2 l0_2.length c0_2, .slice A0_3 l0_3.length c0_3, .int .i64 a0_4, .int .i64 a0_5, .int .i64 a0_6]) (t := 29) ?hr ?_; (case hd => rfl); (case hg => rfl); (case hr => exact tG); intro gb136 hg w66 hbox hb; have BK136 := Sd.mk (hbox); have GW136 := Sd.mk (bSz hg (bBl HB.out)); have GE136 := Sd.mk (bSz hg (bBl HB.out)); replace HB := Sd.mk (below_step (bBl HB.out) hb); clear hb hbox hg; obtain ⟨u67_0, u67_1, u67_2, u67_3, u67_4, u67_5, u67_6, o67_0, o67_1, o67_2, o67_3, o67_4, o67_5, o67_6⟩ := bc7 (w := w66) BK136.out) | ((with_reducible refine gate_callee (f := 97) rfl ?_); refine goesL_ (some 9) rfl rfl Tryz.func97 (by kernel_rfl) rfl #[.agg #[.slice A0_0 l0_0.length c0_0, .slice A0_1 l0_1.length c0_1, .slice A0_2 l0_2.length c0_2, .slice A0_3 l0_3.length c0_3, .int .i64 a0_4, .int .i64 a0_5, .int .i64 a0_6]] rfl tM ?_; (with_reducible refine (b_checkOxides.calls k _ _ l0_0 _ _ l0_1 _ _ l0_2 _ _ l0_3 a0_4 a0_5 a0_6 t137 _ (cS (Kd.C_below HR0_0.out HB.out)) HC0_0.out (cS (Kd.C_below HR0_1.out HB.out)) HC0_1.out (cS (Kd.C_below HR0_2.out HB.out)) HC0_2.out (cS (Kd.C_below HR0_3.out HB.out)) HC0_3.out A2.out).mono ?_); rintro e w68 ⟨rfl, hb⟩; refine ⟨_, rfl, ?_⟩; replace BK136 := Sd.mk (blk_below (bkA BK136.out) hb); replace HB := Sd.mk (below_step (bBl HB.out) hb); (try clear hb); (try clear hb2); (try clear hk); (try clear hi); obtain ⟨u69_0, u69_1, u69_2, u69_3, u69_4, u69_5, u69_6, o69_0, o69_1, o69_2, o69_3, o69_4, o69_5, o69_6⟩ := bc7 (w := w68) BK136.out) | ((with_reducible refine gate_callee (f := 98) rfl ?_); refine goesL_ (some 14) rfl rfl Tryz.func98 (by kernel_rfl) rfl #[.agg #[.slice A0_0 l0_0.length c0_0, .slice A0_1 l0_1.length c0_1, .slice A0_2 l0_2.length c0_2, .slice A0_3 l0_3.length c0_3, .int .i64 a0_4, .int .i64 a0_5, .int .i64 a0_6]] rfl tM ?_; (with_reducible refine (b_checkMaterials.calls k _ _ l0_0 _ _ l0_1 _ _ l0_2 _ _ l0_3 a0_4 a0_5 a0_6 t138 _ (cS (Kd.C_below HR0_0.out HB.out)) HC0_0.out (cS (Kd.C_below HR0_1.out HB.out)) HC0_1.out (cS (Kd.C_below HR0_2.out HB.out)) HC0_2.out (cS (Kd.C_below HR0_3.out HB.out)) HC0_3.out A4.out).mono ?_); rintro e w70 ⟨rfl, hb⟩; refine ⟨_, rfl, ?_⟩; replace BK136 := Sd.mk (blk_below (bkA BK136.out) hb); replace HB := Sd.mk (below_step (bBl HB.out) hb); (try clear hb); (try clear hb2); (try clear hk); (try clear hi)))
   go_ret
   exact ⟨tE, bBl HB.out⟩
 ·rw [if_neg c3] at H
  have c3b0 : (t137 == 0) = false := beq_eq_false_iff_ne.mpr c3
  have c3b1 : (t137 != 0) = true := bne_iff_ne.mpr c3
  obtain rfl := Option.some.inj H
  go_enter Tryz.func34, Tryz.ntmps34
  go_wp2_with (first | ((with_reducible refine gate_dst (N := 1) rfl ?_); refine box_event ?hg (N := 1) ?hd (cs := #[.slice A0_0 l0_0.length c0_0, .slice A0_1 l0_1.length c0_1, .slice A0_2 l0_2.length c0_2, .slice A0_3 l0_3.length c0_3, .int .i64 a0_4, .int .i64 a0_5, .int .i64 a0_6]) (t := 29) ?hr ?_; (case hd => rfl); (case hg => rfl); (case hr => exact tG); intro gb136 hg w71 hbox hb; have BK136 := Sd.mk (hbox); have GW136 := Sd.mk (bSz hg (bBl HB.out)); have GE136 := Sd.mk (bSz hg (bBl HB.out)); replace HB := Sd.mk (below_step (bBl HB.out) hb); clear hb hbox hg; obtain ⟨u72_0, u72_1, u72_2, u72_3, u72_4, u72_5, u72_6, o72_0, o72_1, o72_2, o72_3, o72_4, o72_5, o72_6⟩ := bc7 (w := w71) BK136.out) | ((with_reducible refine gate_callee (f := 97) rfl ?_); refine goesL_ (some 9) rfl rfl Tryz.func97 (by kernel_rfl) rfl #[.agg #[.slice A0_0 l0_0.length c0_0, .slice A0_1 l0_1.length c0_1, .slice A0_2 l0_2.length c0_2, .slice A0_3 l0_3.length c0_3, .int .i64 a0_4, .int .i64 a0_5, .int .i64 a0_6]] rfl tM ?_; (with_reducible refine (b_checkOxides.calls k _ _ l0_0 _ _ l0_1 _ _ l0_2 _ _ l0_3 a0_4 a0_5 a0_6 t137 _ (cS (Kd.C_below HR0_0.out HB.out)) HC0_0.out (cS (Kd.C_below HR0_1.out HB.out)) HC0_1.out (cS (Kd.C_below HR0_2.out HB.out)) HC0_2.out (cS (Kd.C_below HR0_3.out HB.out)) HC0_3.out A2.out).mono ?_); rintro e w73 ⟨rfl, hb⟩; refine ⟨_, rfl, ?_⟩; replace BK136 := Sd.mk (blk_below (bkA BK136.out) hb); replace HB := Sd.mk (below_step (bBl HB.out) hb); (try clear hb); (try clear hb2); (try clear hk); (try clear hi)))
  go_ret
  exact ⟨tE, bBl HB.out⟩
end
section
def proC (n : Nat) (x : S89) : Int := if x.f1.length = n then (if x.f1.any (outside (-10000) 10000) = true then 1 else if -10000 ≤ x.f2.f0 ∧ x.f2.f0 ≤ x.f2.f1 ∧ x.f2.f1 ≤ 10000 then 0 else 1) else 1
def proE (p : List S89) (n : Nat) : Nat → Nat → Int
 | 0, _ => 0
 | m + 1, i => if nameOk (rd_T89 p (i : Int)).f0 = true then (if ((p.take i).any fun x => x.f0.toList == (rd_T89 p (i : Int)).f0.toList) = true then 6 else (if proC n (rd_T89 p (i : Int)) = 0 then proE p n m (i + 1) else proC n (rd_T89 p (i : Int)))) else 5
def matE (mt : List S70) (n : Nat) : Nat → Nat → Int
 | 0, _ => 0
 | m + 1, i => if nameOk (rd_T70 mt (i : Int)).f0 = true then (if ((mt.take i).any fun x => x.f0.toList == (rd_T70 mt (i : Int)).f0.toList) = true then 6 else (if matC n (rd_T70 mt (i : Int)) = 0 then matE mt n m (i + 1) else matC n (rd_T70 mt (i : Int)))) else 5
theorem rwithin_f (a b lo hi : Int) : rf_within.f a b lo hi = some (decide (lo ≤ a) && decide (a ≤ b) && decide (b ≤ hi)) := by
 rw [← span_f]; rfl
section
variable (o : List ByteArray) (mt : List S70) (s : List S27) (p : List S89) (a4 a5 a6 : Int)
theorem bpro (x : S89) : Ev (fun _ => b_checkProperty.f o mt s p a4 a5 a6 x.f0 x.f1 x.f2.f0 x.f2.f1) (proC o.length x) := by
 unfold b_checkProperty.f proC
 by_cases h : x.f1.length = o.length
 ·simp only [if_pos h, if_pos (show (x.f1.length : Int) = (o.length : Int) by omega), x_coefs.f, Option.bind_some, span_f, Bool.and_eq_true, decide_eq_true_eq]
  by_cases h' : x.f1.any (outside (-10000) 10000) = true
  ·simp only [if_pos h']; exact Ev.const _
  ·simp only [if_neg h']
   by_cases h2 : -10000 ≤ x.f2.f0 ∧ x.f2.f0 ≤ x.f2.f1 ∧ x.f2.f1 ≤ 10000
   ·rw [if_pos (by omega), if_pos h2]; exact Ev.const _
   ·rw [if_neg (by omega), if_neg h2]; exact Ev.const _
 ·simp only [if_neg h, if_neg (show ¬ (x.f1.length : Int) = (o.length : Int) by omega)]; exact Ev.const _
theorem rpro_l0 (n : ByteArray) (l : List Int) (t0 t1 : Int) (hl : l.length ≤ 12) : ∀ (m i : Nat), i + m = l.length → Ev (fun k => rf_property.l0 k (i : Int) n l t0 t1) (if (l.drop i).any (outside (-10000) 10000) = true then 1 else if -10000 ≤ t0 ∧ t0 ≤ t1 ∧ t1 ≤ 10000 then 0 else 1)
 | 0, i, hi => by
  apply Ev.step
  simp only [rf_property.l0, if_neg (show ¬ (i : Int) < (l.length : Int) by omega), rwithin_f, Option.bind_some, Bool.and_eq_true, decide_eq_true_eq]
  have h3 : (l.drop i).any (outside (-10000) 10000) = false := by rw [List.drop_eq_nil_of_le (by omega)]; rfl
  rw [h3]
  by_cases h2 : -10000 ≤ t0 ∧ t0 ≤ t1 ∧ t1 ≤ 10000
  ·have h2' : (-10000 ≤ t0 ∧ t0 ≤ t1) ∧ t1 ≤ 10000 := by omega
   simp only [if_pos h2', if_pos h2, Bool.false_eq_true, if_false]; exact Ev.const _
  ·have h2' : ¬ ((-10000 ≤ t0 ∧ t0 ≤ t1) ∧ t1 ≤ 10000) := by omega
   simp only [if_neg h2', if_neg h2, Bool.false_eq_true, if_false]; exact Ev.const _
 | m + 1, i, hi => by
  have ih := rpro_l0 n l t0 t1 hl m (i + 1) (by omega)
  have hlt : i < l.length := by omega
  have hr : rd l (i : Int) = l[i] := by simp [rd, hlt]
  apply Ev.step
  simp only [rf_property.l0, if_pos (show (i : Int) < (l.length : Int) by omega), if_pos (i_pos i), wrap_succ (i_pos i) (show (i : Int) ≤ 1000000000 by omega), hr]
  rw [List.drop_eq_getElem_cons hlt, List.any_cons]
  by_cases h1 : l[i] < -10000
  ·simp only [if_pos h1]
   have hb : outside (-10000) 10000 l[i] = true := by simp [outside]; omega
   exact (Ev.const _).cast (by rw [hb]; rfl)
  ·simp only [if_neg h1]
   by_cases h2 : l[i] > 10000
   ·simp only [if_pos h2]
    have hb : outside (-10000) 10000 l[i] = true := by simp [outside]; omega
    exact (Ev.const _).cast (by rw [hb]; rfl)
   ·simp only [if_neg h2]
    have hb : outside (-10000) 10000 l[i] = false := by simp [outside]; omega
    exact ih.cast (by rw [hb, Bool.false_or])
theorem rpro (ho : o.length ≤ 12) (x : S89) : Ev (fun k => rf_property.f k o mt s p a4 a5 a6 x.f0 x.f1 x.f2.f0 x.f2.f1) (proC o.length x) := by
 unfold rf_property.f proC
 by_cases h : x.f1.length = o.length
 ·simp only [if_pos h, if_pos (show (x.f1.length : Int) = (o.length : Int) by omega)]
  exact (rpro_l0 x.f0 x.f1 x.f2.f0 x.f2.f1 (by omega) x.f1.length 0 (by omega)).cast (by rw [List.drop_zero])
 ·simp only [if_neg h, if_neg (show ¬ (x.f1.length : Int) = (o.length : Int) by omega)]; exact Ev.const _
theorem bmats_l0 (ho : o.length ≤ 12) (hm : mt.length ≤ 12) : ∀ (m i : Nat), i + m = mt.length → Ev (fun k => b_checkMaterials.l0 k mt (mt.length : Int) (i : Int) o mt s p a4 a5 a6) (matE mt o.length m i)
 | 0, i, hi => by
  apply Ev.step
  simp only [b_checkMaterials.l0, if_neg (show ¬ (i : Int) < (mt.length : Int) by omega)]
  exact Ev.const _
 | m + 1, i, hi => by
  have ih := bmats_l0 ho hm m (i + 1) (by omega)
  apply Ev.step
  simp only [b_checkMaterials.l0, if_pos (show (i : Int) < (mt.length : Int) by omega), if_pos (i_pos i), wrap_succ (i_pos i) (show (i : Int) ≤ 1000000000 by omega), x_twiceM.f, Int.toNat_natCast, Option.bind_some]
  refine Ev.bind (bname _) ?_
  unfold matE
  by_cases h : nameOk (rd_T70 mt (i : Int)).f0 = true
  ·simp only [if_pos h]
   by_cases h' : ((mt.take i).any fun x => x.f0.toList == (rd_T70 mt (i : Int)).f0.toList) = true
   ·simp only [if_pos h']; exact Ev.const _
   ·simp only [if_neg h']
    refine Ev.bind (bmat o mt s p a4 a5 a6 ho _) ?_
    by_cases h2 : matC o.length (rd_T70 mt (i : Int)) = 0
    ·simp only [if_pos h2]; exact ih
    ·simp only [if_neg h2]; exact Ev.const _
  ·simp only [if_neg h]; exact Ev.const _
theorem bmats (ho : o.length ≤ 12) : Ev (fun k => b_checkMaterials.f k o mt s p a4 a5 a6) (if mt.length > 12 then 3 else if mt.length = 0 then 1 else matE mt o.length mt.length 0) := by
 unfold b_checkMaterials.f
 by_cases h : mt.length > 12
 ·simp only [if_pos h, if_pos (show (mt.length : Int) > 12 by omega)]; exact Ev.const _
 ·by_cases h' : mt.length = 0
  ·simp only [if_neg h, if_neg (show ¬ (mt.length : Int) > 12 by omega), if_pos h', if_pos (show (mt.length : Int) = 0 by omega)]; exact Ev.const _
  ·simp only [if_neg h, if_neg (show ¬ (mt.length : Int) > 12 by omega), if_neg h', if_neg (show ¬ (mt.length : Int) = 0 by omega)]
   exact bmats_l0 o mt s p a4 a5 a6 ho (by omega) mt.length 0 (by omega)
theorem rmats_l1 (ho : o.length ≤ 12) (hm : mt.length ≤ 12) (R : Int) (hR : Ev (fun k => if (s.length : Int) = (o.length : Int) then rf_Check.l2 k 0 o mt s p a4 a5 a6 else some 1) R) :
  ∀ (m i : Nat), i + m = mt.length → Ev (fun k => rf_Check.l1 k ((mt.take i).map (·.f0)) (i : Int) o mt s p a4 a5 a6) (if matE mt o.length m i = 0 then R else matE mt o.length m i)
 | 0, i, hi => by
  apply Ev.step
  simp only [rf_Check.l1, if_neg (show ¬ (i : Int) < (mt.length : Int) by omega)]
  exact hR.cast (by simp [matE])
 | m + 1, i, hi => by
  have ih := rmats_l1 ho hm R hR m (i + 1) (by omega)
  have hlt : i < mt.length := by omega
  have hr : rd_T70 mt (i : Int) = mt[i] := by simp [rd_T70, hlt]
  have htk : (mt.take i).map (·.f0) ++ [(rd_T70 mt (i : Int)).f0] = (mt.take (i + 1)).map (·.f0) := by
   rw [hr, List.take_succ_eq_append_getElem hlt, List.map_append]; rfl
  apply Ev.step
  simp only [rf_Check.l1, if_pos (show (i : Int) < (mt.length : Int) by omega), if_pos (i_pos i), wrap_succ (i_pos i) (show (i : Int) ≤ 1000000000 by omega), htk]
  refine Ev.bind (rname _) ?_
  unfold matE
  by_cases h : nameOk (rd_T70 mt (i : Int)).f0 = true
  ·simp only [if_pos h]
   have hany : (((mt.take i).map (·.f0)).any fun y => y.toList == (rd_T70 mt (i : Int)).f0.toList) = ((mt.take i).any fun x => x.f0.toList == (rd_T70 mt (i : Int)).f0.toList) := by rw [List.any_map]; rfl
   refine Ev.bind (rin _ _ (by simp; omega)) ?_
   rw [hany]
   by_cases h' : ((mt.take i).any fun x => x.f0.toList == (rd_T70 mt (i : Int)).f0.toList) = true
   ·simp only [if_pos h']; exact (Ev.const _).cast (by simp)
   ·simp only [if_neg h']
    have hlt8 : ((mt.take i).map (·.f0)).length < 8796093022208 := by rw [List.length_map, List.length_take]; omega
    simp only [if_pos hlt8]
    refine Ev.bind (rmat o mt s p a4 a5 a6 ho _) ?_
    by_cases h2 : matC o.length (rd_T70 mt (i : Int)) = 0
    ·simp only [if_pos h2]; exact ih
    ·simp only [if_neg h2]; exact Ev.const _
  ·simp only [if_neg h]; exact (Ev.const _).cast (by simp)
theorem bpros_l0 (hp : p.length ≤ 6) (R : Int) (hR : Ev (fun _ => (b_span.f a4 a5 (-10000) 10000).bind fun t147 => (if t147 = true then ((b_within.f a6 1 10000).bind fun t148 => (if t148 = true then (some 0) else (some 1))) else (some 1))) R) :
  ∀ (m i : Nat), i + m = p.length → Ev (fun k => b_Check.l0 k p (p.length : Int) (i : Int) o mt s p a4 a5 a6) (if proE p o.length m i = 0 then R else proE p o.length m i)
 | 0, i, hi => by
  apply Ev.step
  simp only [b_Check.l0, if_neg (show ¬ (i : Int) < (p.length : Int) by omega)]
  exact hR.cast (by simp [proE])
 | m + 1, i, hi => by
  have ih := bpros_l0 hp R hR m (i + 1) (by omega)
  apply Ev.step
  simp only [b_Check.l0, if_pos (show (i : Int) < (p.length : Int) by omega), if_pos (i_pos i), wrap_succ (i_pos i) (show (i : Int) ≤ 1000000000 by omega), x_twiceP.f, Int.toNat_natCast, Option.bind_some]
  refine Ev.bind (bname _) ?_
  unfold proE
  by_cases h : nameOk (rd_T89 p (i : Int)).f0 = true
  ·simp only [if_pos h]
   by_cases h' : ((p.take i).any fun x => x.f0.toList == (rd_T89 p (i : Int)).f0.toList) = true
   ·simp only [if_pos h']; exact (Ev.const _).cast (by simp)
   ·simp only [if_neg h']
    refine Ev.bind (bpro o mt s p a4 a5 a6 _) ?_
    by_cases h2 : proC o.length (rd_T89 p (i : Int)) = 0
    ·simp only [if_pos h2]; exact ih
    ·simp only [if_neg h2]; exact Ev.const _
  ·simp only [if_neg h]; exact (Ev.const _).cast (by simp)
theorem rpros_l3 (ho : o.length ≤ 12) (hp : p.length ≤ 6) (R : Int) (hR : Ev (fun _ => (rf_within.f a4 a5 (-10000) 10000).bind fun t264 => (if t264 = true then (if a6 < 1 then (some 1) else (if a6 > 10000 then (some 1) else (some 0))) else (some 1))) R) :
  ∀ (m i : Nat), i + m = p.length → Ev (fun k => rf_Check.l3 k ((p.take i).map (·.f0)) (i : Int) o mt s p a4 a5 a6) (if proE p o.length m i = 0 then R else proE p o.length m i)
 | 0, i, hi => by
  apply Ev.step
  simp only [rf_Check.l3, if_neg (show ¬ (i : Int) < (p.length : Int) by omega)]
  exact hR.cast (by simp [proE])
 | m + 1, i, hi => by
  have ih := rpros_l3 ho hp R hR m (i + 1) (by omega)
  have hlt : i < p.length := by omega
  have hr : rd_T89 p (i : Int) = p[i] := by simp [rd_T89, hlt]
  have htk : (p.take i).map (·.f0) ++ [(rd_T89 p (i : Int)).f0] = (p.take (i + 1)).map (·.f0) := by
   rw [hr, List.take_succ_eq_append_getElem hlt, List.map_append]; rfl
  apply Ev.step
  simp only [rf_Check.l3, if_pos (show (i : Int) < (p.length : Int) by omega), if_pos (i_pos i), wrap_succ (i_pos i) (show (i : Int) ≤ 1000000000 by omega), htk]
  refine Ev.bind (rname _) ?_
  unfold proE
  by_cases h : nameOk (rd_T89 p (i : Int)).f0 = true
  ·simp only [if_pos h]
   have hany : (((p.take i).map (·.f0)).any fun y => y.toList == (rd_T89 p (i : Int)).f0.toList) = ((p.take i).any fun x => x.f0.toList == (rd_T89 p (i : Int)).f0.toList) := by rw [List.any_map]; rfl
   refine Ev.bind (rin _ _ (by simp; omega)) ?_
   rw [hany]
   by_cases h' : ((p.take i).any fun x => x.f0.toList == (rd_T89 p (i : Int)).f0.toList) = true
   ·simp only [if_pos h']; exact (Ev.const _).cast (by simp)
   ·simp only [if_neg h']
    have hlt8 : ((p.take i).map (·.f0)).length < 8796093022208 := by rw [List.length_map, List.length_take]; omega
    simp only [if_pos hlt8]
    refine Ev.bind (rpro o mt s p a4 a5 a6 ho _) ?_
    by_cases h2 : proC o.length (rd_T89 p (i : Int)) = 0
    ·simp only [if_pos h2]; exact ih
    ·simp only [if_neg h2]; exact Ev.const _
  ·simp only [if_neg h]; exact (Ev.const _).cast (by simp)
end
end
section
section
variable (o : List ByteArray) (mt : List S70) (s : List S27) (p : List S89) (a4 a5 a6 : Int)
def endV : Int := if -10000 ≤ a4 ∧ a4 ≤ a5 ∧ a5 ≤ 10000 then (if 1 ≤ a6 ∧ a6 ≤ 10000 then 0 else 1) else 1
def proV : Int := if p.length > 6 then 3 else if proE p o.length p.length 0 = 0 then endV a4 a5 a6 else proE p o.length p.length 0
def shaV : Int := if s.length = o.length then (if s.any badSpan = true then 1 else proV o p a4 a5 a6) else 1
def matV : Int := if mt.length > 12 then 3 else if mt.length = 0 then 1 else if matE mt o.length mt.length 0 = 0 then shaV o s p a4 a5 a6 else matE mt o.length mt.length 0
def checkV : Int := if o.length > 12 then 3 else if o.length = 0 then 1 else if oxE o o.length 0 = 0 then matV o mt s p a4 a5 a6 else oxE o o.length 0
theorem bend : Ev (fun _ => (b_span.f a4 a5 (-10000) 10000).bind fun t147 => (if t147 = true then ((b_within.f a6 1 10000).bind fun t148 => (if t148 = true then (some 0) else (some 1))) else (some 1))) (endV a4 a5 a6) := by
 simp only [span_f, within_f, Option.bind_some, Bool.and_eq_true, decide_eq_true_eq]
 unfold endV
 by_cases h2 : -10000 ≤ a4 ∧ a4 ≤ a5 ∧ a5 ≤ 10000
 ·have h2' : (-10000 ≤ a4 ∧ a4 ≤ a5) ∧ a5 ≤ 10000 := by omega
  simp only [if_pos h2', if_pos h2]
  by_cases h3 : 1 ≤ a6 ∧ a6 ≤ 10000
  ·simp only [if_pos h3]; exact Ev.const _
  ·simp only [if_neg h3]; exact Ev.const _
 ·have h2' : ¬ ((-10000 ≤ a4 ∧ a4 ≤ a5) ∧ a5 ≤ 10000) := by omega
  simp only [if_neg h2', if_neg h2]; exact Ev.const _
theorem rend : Ev (fun _ => (rf_within.f a4 a5 (-10000) 10000).bind fun t264 => (if t264 = true then (if a6 < 1 then (some 1) else (if a6 > 10000 then (some 1) else (some 0))) else (some 1))) (endV a4 a5 a6) := by
 simp only [rwithin_f, Option.bind_some, Bool.and_eq_true, decide_eq_true_eq]
 unfold endV
 by_cases h2 : -10000 ≤ a4 ∧ a4 ≤ a5 ∧ a5 ≤ 10000
 ·have h2' : (-10000 ≤ a4 ∧ a4 ≤ a5) ∧ a5 ≤ 10000 := by omega
  simp only [if_pos h2', if_pos h2]
  by_cases h3 : a6 < 1
  ·simp only [if_pos h3]; exact (Ev.const _).cast (by rw [if_neg]; omega)
  ·by_cases h4 : a6 > 10000
   ·simp only [if_neg h3, if_pos h4]; exact (Ev.const _).cast (by rw [if_neg]; omega)
   ·simp only [if_neg h3, if_neg h4]; exact (Ev.const _).cast (by rw [if_pos]; omega)
 ·have h2' : ¬ ((-10000 ≤ a4 ∧ a4 ≤ a5) ∧ a5 ≤ 10000) := by omega
  simp only [if_neg h2', if_neg h2]; exact Ev.const _
theorem bj0 (b : Bool) : Ev (fun k => b_Check.j0 k b o mt s p a4 a5 a6) (if b = true then 1 else proV o p a4 a5 a6) := by
 apply Ev.step
 simp only [b_Check.j0]
 cases b with
 | true => simp only [if_true]; exact Ev.const _
 | false =>
  simp only [Bool.false_eq_true, if_false]
  unfold proV
  by_cases h : p.length > 6
  ·simp only [if_pos h, if_pos (show (p.length : Int) > 6 by omega)]; exact Ev.const _
  ·simp only [if_neg h, if_neg (show ¬ (p.length : Int) > 6 by omega)]
   exact bpros_l0 o mt s p a4 a5 a6 (by omega) _ (bend a4 a5 a6) p.length 0 (by omega)
theorem bcheck : Ev (fun k => b_Check.f k o mt s p a4 a5 a6) (checkV o mt s p a4 a5 a6) := by
 unfold b_Check.f
 refine Ev.bind (box_f o mt s p a4 a5 a6) ?_
 unfold checkV
 by_cases h : o.length > 12
 ·simp only [if_pos h]; exact Ev.const _
 ·by_cases h' : o.length = 0
  ·simp only [if_neg h, if_pos h']; exact Ev.const _
  ·simp only [if_neg h, if_neg h']
   by_cases h2 : oxE o o.length 0 = 0
   ·simp only [if_pos h2]
    refine Ev.bind (bmats o mt s p a4 a5 a6 (by omega)) ?_
    unfold matV
    by_cases h3 : mt.length > 12
    ·simp only [if_pos h3]; exact Ev.const _
    ·by_cases h4 : mt.length = 0
     ·simp only [if_neg h3, if_pos h4]; exact Ev.const _
     ·simp only [if_neg h3, if_neg h4]
      by_cases h5 : matE mt o.length mt.length 0 = 0
      ·simp only [if_pos h5]
       unfold shaV
       by_cases h6 : s.length = o.length
       ·simp only [if_pos h6, if_pos (show (s.length : Int) = (o.length : Int) by omega), x_spans.f, Option.bind_some]
        exact bj0 o mt s p a4 a5 a6 _
       ·simp only [if_neg h6, if_neg (show ¬ (s.length : Int) = (o.length : Int) by omega)]
        exact (bj0 o mt s p a4 a5 a6 true).cast (by simp)
      ·simp only [if_neg h5]; exact Ev.const _
   ·simp only [if_neg h2]; exact Ev.const _
theorem rsha_l2 (ho : s.length ≤ 12) (P : Int) (hP : Ev (fun k => if (p.length : Int) > 6 then some 3 else rf_Check.l3 k [] 0 o mt s p a4 a5 a6) P) :
  ∀ (m i : Nat), i + m = s.length → Ev (fun k => rf_Check.l2 k (i : Int) o mt s p a4 a5 a6) (if (s.drop i).any badSpan = true then 1 else P)
 | 0, i, hi => by
  apply Ev.step
  simp only [rf_Check.l2, if_neg (show ¬ (i : Int) < (s.length : Int) by omega)]
  have h3 : (s.drop i).any badSpan = false := by rw [List.drop_eq_nil_of_le (by omega)]; rfl
  exact hP.cast (by rw [h3]; simp)
 | m + 1, i, hi => by
  have ih := rsha_l2 ho P hP m (i + 1) (by omega)
  have hlt : i < s.length := by omega
  have hr : rd_T27 s (i : Int) = s[i] := by simp [rd_T27, hlt]
  apply Ev.step
  simp only [rf_Check.l2, if_pos (show (i : Int) < (s.length : Int) by omega), if_pos (i_pos i), wrap_succ (i_pos i) (show (i : Int) ≤ 1000000000 by omega), rwithin_bad, Option.bind_some, hr]
  rw [List.drop_eq_getElem_cons hlt, List.any_cons]
  cases h : badSpan s[i] with
  | true => simp only [Bool.not_true, Bool.false_eq_true, if_false, Bool.true_or, if_true]; exact Ev.const _
  | false => simp only [Bool.not_false, if_true, Bool.false_or]; exact ih
theorem rcheck : Ev (fun k => rf_Check.f k o mt s p a4 a5 a6) (checkV o mt s p a4 a5 a6) := by
 unfold rf_Check.f checkV
 by_cases h : o.length > 12
 ·simp only [if_pos h, if_pos (show (o.length : Int) > 12 by omega)]; exact Ev.const _
 ·by_cases h' : o.length = 0
  ·simp only [if_neg h, if_neg (show ¬ (o.length : Int) > 12 by omega), if_pos h', if_pos (show (o.length : Int) = 0 by omega)]; exact Ev.const _
  ·simp only [if_neg h, if_neg (show ¬ (o.length : Int) > 12 by omega), if_neg h', if_neg (show ¬ (o.length : Int) = 0 by omega)]
   refine rox_l0 o mt s p a4 a5 a6 (by omega) _ ?_ o.length 0 (by omega)
   unfold matV
   by_cases h3 : mt.length > 12
   ·simp only [if_pos h3, if_pos (show (mt.length : Int) > 12 by omega)]; exact Ev.const _
   ·by_cases h4 : mt.length = 0
    ·simp only [if_neg h3, if_neg (show ¬ (mt.length : Int) > 12 by omega), if_pos h4, if_pos (show (mt.length : Int) = 0 by omega)]; exact Ev.const _
    ·simp only [if_neg h3, if_neg (show ¬ (mt.length : Int) > 12 by omega), if_neg h4, if_neg (show ¬ (mt.length : Int) = 0 by omega)]
     refine rmats_l1 o mt s p a4 a5 a6 (by omega) (by omega) _ ?_ mt.length 0 (by omega)
     unfold shaV
     by_cases h6 : s.length = o.length
     ·simp only [if_pos h6, if_pos (show (s.length : Int) = (o.length : Int) by omega)]
      refine (rsha_l2 o mt s p a4 a5 a6 (by omega) _ ?_ s.length 0 (by omega)).cast (by rw [List.drop_zero])
      unfold proV
      by_cases h7 : p.length > 6
      ·simp only [if_pos h7, if_pos (show (p.length : Int) > 6 by omega)]; exact Ev.const _
      ·simp only [if_neg h7, if_neg (show ¬ (p.length : Int) > 6 by omega)]
       exact rpros_l3 o mt s p a4 a5 a6 (by omega) (by omega) _ (rend a4 a5 a6) p.length 0 (by omega)
     ·simp only [if_neg h6, if_neg (show ¬ (s.length : Int) = (o.length : Int) by omega)]; exact Ev.const _
end
theorem conE_ok (l : List S27) : ∀ (m i : Nat) (acc : Int), i + m = l.length → conE l m i acc = 0 → ∀ j : Nat, i ≤ j → j < l.length → badSpan (rd_T27 l (j : Int)) = false
 | 0, i, acc, hi, h, j, h1, h2 => by omega
 | m + 1, i, acc, hi, h, j, h1, h2 => by
  unfold conE at h
  by_cases hb : badSpan (rd_T27 l (i : Int)) = true
  ·rw [if_pos hb] at h; omega
  ·rw [if_neg hb] at h
   by_cases hj : j = i
   ·subst hj; simpa using hb
   ·exact conE_ok l m (i + 1) _ (by omega) h j (by omega) h2
structure MatOk (n : Nat) (x : S70) : Prop where
 price : 0 ≤ x.f1 ∧ x.f1 ≤ 10000
 redox : -1000 ≤ x.f2 ∧ x.f2 ≤ 1000
 least : 0 ≤ x.f3 ∧ x.f3 ≤ 10000
 most : x.f3 ≤ x.f4 ∧ x.f4 ≤ 10000
 step : 1 ≤ x.f5 ∧ x.f5 ≤ 10000
 len : x.f6.length = n
 con : ∀ j : Nat, j < n → 0 ≤ (rd_T27 x.f6 (j : Int)).f0 ∧ (rd_T27 x.f6 (j : Int)).f0 ≤ (rd_T27 x.f6 (j : Int)).f1 ∧ (rd_T27 x.f6 (j : Int)).f1 ≤ 1000
theorem matC_ok {n : Nat} {x : S70} (h : matC n x = 0) : MatOk n x := by
 unfold matC at h
 by_cases hc : (0 ≤ x.f1 ∧ x.f1 ≤ 10000) ∧ (-1000 ≤ x.f2 ∧ x.f2 ≤ 1000) ∧ (0 ≤ x.f3 ∧ x.f3 ≤ 10000) ∧ (x.f3 ≤ x.f4 ∧ x.f4 ≤ 10000) ∧ (1 ≤ x.f5 ∧ x.f5 ≤ 10000) ∧ x.f6.length = n
 ·rw [if_pos hc] at h
  obtain ⟨h1, h2, h3, h4, h5, h6⟩ := hc
  exact ⟨h1, h2, h3, h4, h5, h6, fun j hj => bad_false (conE_ok x.f6 _ 0 0 (by omega) h j (by omega) (by omega))⟩
 ·rw [if_neg hc] at h; omega
theorem matE_ok (mt : List S70) (n : Nat) : ∀ (m i : Nat), matE mt n m i = 0 → ∀ j : Nat, i ≤ j → j < i + m → MatOk n (rd_T70 mt (j : Int))
 | 0, i, h, j, h1, h2 => by omega
 | m + 1, i, h, j, h1, h2 => by
  unfold matE at h
  by_cases ha : nameOk (rd_T70 mt (i : Int)).f0 = true
  ·rw [if_pos ha] at h
   by_cases hb : ((mt.take i).any fun x => x.f0.toList == (rd_T70 mt (i : Int)).f0.toList) = true
   ·rw [if_pos hb] at h; omega
   ·rw [if_neg hb] at h
    by_cases hc : matC n (rd_T70 mt (i : Int)) = 0
    ·rw [if_pos hc] at h
     by_cases hj : j = i
     ·subst hj; exact matC_ok hc
     ·exact matE_ok mt n m (i + 1) h j (by omega) (by omega)
    ·rw [if_neg hc] at h; exact absurd h hc
  ·rw [if_neg ha] at h; omega
structure ProOk (n : Nat) (x : S89) : Prop where
 len : x.f1.length = n
 coef : ∀ j : Nat, j < n → -10000 ≤ rd x.f1 (j : Int) ∧ rd x.f1 (j : Int) ≤ 10000
 target : -10000 ≤ x.f2.f0 ∧ x.f2.f0 ≤ x.f2.f1 ∧ x.f2.f1 ≤ 10000
theorem proC_ok {n : Nat} {x : S89} (h : proC n x = 0) : ProOk n x := by
 unfold proC at h
 by_cases h1 : x.f1.length = n
 ·rw [if_pos h1] at h
  by_cases h2 : x.f1.any (outside (-10000) 10000) = true
  ·rw [if_pos h2] at h; omega
  ·rw [if_neg h2] at h
   by_cases h3 : -10000 ≤ x.f2.f0 ∧ x.f2.f0 ≤ x.f2.f1 ∧ x.f2.f1 ≤ 10000
   ·refine ⟨h1, fun j hj => ?_, h3⟩
    have hm : rd x.f1 (j : Int) ∈ x.f1 := by
     have hlt : j < x.f1.length := by omega
     have : rd x.f1 (j : Int) = x.f1[j] := by simp [rd, hlt]
     rw [this]; exact List.getElem_mem hlt
    have hn : outside (-10000) 10000 (rd x.f1 (j : Int)) = false := by
     cases ho : outside (-10000) 10000 (rd x.f1 (j : Int)) with
     | false => rfl
     | true => exact absurd (List.any_eq_true.mpr ⟨_, hm, ho⟩) h2
    simp [outside] at hn; omega
   ·rw [if_neg h3] at h; omega
 ·rw [if_neg h1] at h; omega
theorem proE_ok (p : List S89) (n : Nat) : ∀ (m i : Nat), proE p n m i = 0 → ∀ j : Nat, i ≤ j → j < i + m → ProOk n (rd_T89 p (j : Int))
 | 0, i, h, j, h1, h2 => by omega
 | m + 1, i, h, j, h1, h2 => by
  unfold proE at h
  by_cases ha : nameOk (rd_T89 p (i : Int)).f0 = true
  ·rw [if_pos ha] at h
   by_cases hb : ((p.take i).any fun x => x.f0.toList == (rd_T89 p (i : Int)).f0.toList) = true
   ·rw [if_pos hb] at h; omega
   ·rw [if_neg hb] at h
    by_cases hc : proC n (rd_T89 p (i : Int)) = 0
    ·rw [if_pos hc] at h
     by_cases hj : j = i
     ·subst hj; exact proC_ok hc
     ·exact proE_ok p n m (i + 1) h j (by omega) (by omega)
    ·rw [if_neg hc] at h; exact absurd h hc
  ·rw [if_neg ha] at h; omega
structure BatchOk (o : List ByteArray) (mt : List S70) (s : List S27) (p : List S89) (a4 a5 a6 : Int) : Prop where
 o12 : o.length ≤ 12
 o1 : o.length ≠ 0
 m12 : mt.length ≤ 12
 m1 : mt.length ≠ 0
 mats : ∀ j : Nat, j < mt.length → MatOk o.length (rd_T70 mt (j : Int))
 slen : s.length = o.length
 shares : ∀ j : Nat, j < s.length → 0 ≤ (rd_T27 s (j : Int)).f0 ∧ (rd_T27 s (j : Int)).f0 ≤ (rd_T27 s (j : Int)).f1 ∧ (rd_T27 s (j : Int)).f1 ≤ 1000
 p6 : p.length ≤ 6
 pros : ∀ j : Nat, j < p.length → ProOk o.length (rd_T89 p (j : Int))
 redox : -10000 ≤ a4 ∧ a4 ≤ a5 ∧ a5 ≤ 10000
 wanted : 1 ≤ a6 ∧ a6 ≤ 10000
theorem check_ok {o : List ByteArray} {mt : List S70} {s : List S27} {p : List S89} {a4 a5 a6 : Int} (h : checkV o mt s p a4 a5 a6 = 0) : BatchOk o mt s p a4 a5 a6 := by
 unfold checkV at h
 by_cases h1 : o.length > 12
 ·rw [if_pos h1] at h; omega
 rw [if_neg h1] at h
 by_cases h2 : o.length = 0
 ·rw [if_pos h2] at h; omega
 rw [if_neg h2] at h
 by_cases h3 : oxE o o.length 0 = 0
 rotate_left
 ·rw [if_neg h3] at h; exact absurd h h3
 rw [if_pos h3] at h
 unfold matV at h
 by_cases h4 : mt.length > 12
 ·rw [if_pos h4] at h; omega
 rw [if_neg h4] at h
 by_cases h5 : mt.length = 0
 ·rw [if_pos h5] at h; omega
 rw [if_neg h5] at h
 by_cases h6 : matE mt o.length mt.length 0 = 0
 rotate_left
 ·rw [if_neg h6] at h; exact absurd h h6
 rw [if_pos h6] at h
 unfold shaV at h
 by_cases h7 : s.length = o.length
 rotate_left
 ·rw [if_neg h7] at h; omega
 rw [if_pos h7] at h
 by_cases h8 : s.any badSpan = true
 ·rw [if_pos h8] at h; omega
 rw [if_neg h8] at h
 unfold proV at h
 by_cases h9 : p.length > 6
 ·rw [if_pos h9] at h; omega
 rw [if_neg h9] at h
 by_cases h10 : proE p o.length p.length 0 = 0
 rotate_left
 ·rw [if_neg h10] at h; exact absurd h h10
 rw [if_pos h10] at h
 unfold endV at h
 by_cases h11 : -10000 ≤ a4 ∧ a4 ≤ a5 ∧ a5 ≤ 10000
 rotate_left
 ·rw [if_neg h11] at h; omega
 rw [if_pos h11] at h
 by_cases h12 : 1 ≤ a6 ∧ a6 ≤ 10000
 rotate_left
 ·rw [if_neg h12] at h; omega
 refine ⟨by omega, h2, by omega, h5, fun j hj => matE_ok mt _ _ 0 h6 j (by omega) (by omega), h7, fun j hj => ?_, by omega, fun j hj => proE_ok p _ _ 0 h10 j (by omega) (by omega), h11, h12⟩
 have hlt : j < s.length := hj
 have hr : rd_T27 s (j : Int) = s[j] := by simp [rd_T27, hlt]
 rw [hr]
 apply bad_false
 cases hb : badSpan s[j] with
 | false => rfl
 | true => exact absurd (List.any_eq_true.mpr ⟨_, List.getElem_mem hlt, hb⟩) h8
end
section
theorem getD_lt {α : Type} (l : List α) (k : Nat) (d : α) (h : k < l.length) : l.getD k d = l[k] := by simp [List.getD, h]
theorem getD_ge {α : Type} (l : List α) (k : Nat) (d : α) (h : l.length ≤ k) : l.getD k d = d := by simp [List.getD, h]
structure MatB (m : S70) : Prop where
 lo : 0 ≤ m.f3
 le : m.f3 ≤ m.f4
 hi : m.f4 ≤ 10000
 s1 : 1 ≤ m.f5
 s2 : m.f5 ≤ 10000
def nextL : List S70 → List Int → Option (List Int)
 | m :: ms, k :: ks => match nextL ms ks with
  | some q => some (k :: q)
  | none => if wrap64 (k + m.f5) ≤ m.f4 then some (wrap64 (k + m.f5) :: ms.map (·.f3)) else none
 | _, _ => none
theorem nextL_snoc (m : S70) (k : Int) : ∀ (ms : List S70) (ks : List Int), ms.length = ks.length → nextL (ms ++ [m]) (ks ++ [k]) = if wrap64 (k + m.f5) ≤ m.f4 then some (ks ++ [wrap64 (k + m.f5)]) else (nextL ms ks).map (· ++ [m.f3])
 | [], [], _ => by simp only [List.nil_append, nextL]; split <;> rfl
 | a :: ms, b :: ks, h => by
  have ih := nextL_snoc m k ms ks (by simpa using h)
  simp only [List.cons_append, nextL, ih]
  by_cases hc : wrap64 (k + m.f5) ≤ m.f4
  ·simp only [if_pos hc]
  ·simp only [if_neg hc]
   cases nextL ms ks with
   | some q => rfl
   | none =>
    simp only [Option.map_none]
    split <;> simp
 | [], _ :: _, h => by simp at h
 | _ :: _, [], h => by simp at h
theorem adv_next (mt : List S70) : ∀ (i : Nat) (r : List Int), r.length = mt.length → i ≤ mt.length →
  (∀ q, nextL (mt.take i) (r.take i) = some q → adv mt i r = (true, q ++ r.drop i)) ∧ (nextL (mt.take i) (r.take i) = none → (adv mt i r).1 = false)
 | 0, r, hr, hi => ⟨fun q h => by simp [nextL] at h, fun _ => rfl⟩
 | i + 1, r, hr, hi => by
  have h1 : i < mt.length := by omega
  have h2 : i < r.length := by omega
  have e1 : mt.take (i + 1) = mt.take i ++ [mt[i]] := by rw [List.take_add_one, List.getElem?_eq_getElem h1]; rfl
  have e2 : r.take (i + 1) = r.take i ++ [r[i]] := by rw [List.take_add_one, List.getElem?_eq_getElem h2]; rfl
  have g1 : rd_T70 mt (i : Int) = mt[i] := by simp [rd_T70, h1]
  have g2 : rd r (i : Int) = r[i] := by simp [rd, h2]
  have hs := nextL_snoc mt[i] r[i] (mt.take i) (r.take i) (by simp; omega)
  rw [e1, e2, hs]
  unfold adv
  rw [g1, g2]
  by_cases hc : wrap64 (r[i] + mt[i].f5) ≤ mt[i].f4
  ·rw [if_pos hc, if_pos hc]
   refine ⟨fun q h => ?_, fun h => by cases h⟩
   obtain rfl := Option.some.inj h
   rw [List.set_eq_take_append_cons_drop, if_pos h2]
   simp
  ·rw [if_neg hc, if_neg hc]
   have ih := adv_next mt i (r.set i mt[i].f3) (by simpa using hr) (by omega)
   have e3 : (r.set i mt[i].f3).take i = r.take i := List.take_set_of_le (Nat.le_refl i)
   have e4 : (r.set i mt[i].f3).drop i = mt[i].f3 :: r.drop (i + 1) := by
    rw [List.set_eq_take_append_cons_drop, if_pos h2, List.drop_append_of_le_length (by simp; omega)]
    simp
   rw [e3] at ih
   refine ⟨fun q h => ?_, fun h => ih.2 (by simpa using h)⟩
   obtain ⟨q0, hq0, rfl⟩ := Option.map_eq_some_iff.1 h
   rw [ih.1 q0 hq0, e4]
   simp
def kilosF (s : Int) : Nat → Int → List Int
 | 0, _ => []
 | c + 1, k => k :: kilosF s c (k + s)
def cntM (m : S70) : Nat := ((m.f4 - m.f3) / m.f5).toNat + 1
def allR : List S70 → List (List Int)
 | [] => [[]]
 | m :: ms => (kilosF m.f5 (cntM m) m.f3).flatMap fun k => (allR ms).map (k :: ·)
def ChL {α : Type} (nx : α → Option α) (e : Option α) : List α → Prop
 | [] => True
 | [a] => nx a = e
 | a :: b :: l => nx a = some b ∧ ChL nx e (b :: l)
theorem ChL_append {α : Type} {nx : α → Option α} {e : Option α} {b : α} {l2 : List α} : ∀ (l1 : List α), ChL nx (some b) l1 → ChL nx e (b :: l2) → ChL nx e (l1 ++ b :: l2)
 | [], _, h => h
 | [a], h1, h2 => ⟨h1, h2⟩
 | a :: c :: l, h1, h2 => ⟨h1.1, ChL_append (c :: l) h1.2 h2⟩
theorem ChL_get {α : Type} {nx : α → Option α} : ∀ (l : List α), ChL nx none l → ∀ (k : Nat) (h : k < l.length), nx l[k] = l[k + 1]?
 | [a], h, 0, _ => h
 | a :: b :: l, h, 0, _ => by simpa using h.1
 | a :: b :: l, h, k + 1, hk => by
  have := ChL_get (b :: l) h.2 k (by simpa using hk)
  simpa using this
theorem ChL_map (m : S70) (ms : List S70) (k : Int) : ∀ (l : List (List Int)), ChL (nextL ms) none l → ChL (nextL (m :: ms)) (if wrap64 (k + m.f5) ≤ m.f4 then some (wrap64 (k + m.f5) :: ms.map (·.f3)) else none) (l.map (k :: ·))
 | [], _ => trivial
 | [a], h => by
  have h : nextL ms a = none := h
  show nextL (m :: ms) (k :: a) = _
  simp only [nextL, h]
 | a :: b :: l, h => by
  refine ⟨?_, ChL_map m ms k (b :: l) h.2⟩
  simp only [nextL, h.1]
theorem allR_head : ∀ (mt : List S70), ∃ tl, allR mt = mt.map (·.f3) :: tl
 | [] => ⟨[], rfl⟩
 | m :: ms => by
  obtain ⟨tl, h⟩ := allR_head ms
  unfold allR cntM
  simp only [kilosF, List.flatMap_cons, h, List.map_cons, List.cons_append]
  exact ⟨_, rfl⟩
theorem cntM_last {m : S70} (M : MatB m) : m.f3 + ((cntM m : Int) - 1) * m.f5 ≤ m.f4 ∧ m.f4 < m.f3 + (cntM m : Int) * m.f5 := by
 unfold cntM
 have h0 : 0 ≤ (m.f4 - m.f3) / m.f5 := Int.ediv_nonneg (by have := M.le; omega) (by have := M.s1; omega)
 have h1 := Int.mul_ediv_self_le (x := m.f4 - m.f3) (k := m.f5) (by have := M.s1; omega)
 have h2 := Int.lt_mul_ediv_self_add (x := m.f4 - m.f3) (k := m.f5) (by have := M.s1; omega)
 have e : ((((m.f4 - m.f3) / m.f5).toNat + 1 : Nat) : Int) = (m.f4 - m.f3) / m.f5 + 1 := by omega
 rw [e]
 generalize (m.f4 - m.f3) / m.f5 = q at *
 have e2 : (q + 1 - 1) * m.f5 = m.f5 * q := by rw [Int.add_sub_cancel, Int.mul_comm]
 have e3 : (q + 1) * m.f5 = m.f5 * q + m.f5 := by rw [Int.add_mul, Int.one_mul, Int.mul_comm]
 rw [e2, e3]
 omega
theorem ChL_block (m : S70) (ms : List S70) (M : MatB m) (hms : ChL (nextL ms) none (allR ms)) : ∀ (c : Nat) (k : Int), 0 ≤ k → k + (c : Int) * m.f5 ≤ m.f4 → m.f4 < k + ((c : Int) + 1) * m.f5 →
  ChL (nextL (m :: ms)) none ((kilosF m.f5 (c + 1) k).flatMap fun k => (allR ms).map (k :: ·))
 | 0, k, h0, h1, h2 => by
  simp only [kilosF, List.flatMap_cons, List.flatMap_nil, List.append_nil]
  have := ChL_map m ms k (allR ms) hms
  have hw : wrap64 (k + m.f5) = k + m.f5 := wrap_id (by have := M.s1; omega) (by have := M.s2; have := M.hi; omega)
  rw [hw, if_neg (by omega)] at this
  exact this
 | c + 1, k, h0, h1, h2 => by
  have hp : 0 ≤ (c : Int) * m.f5 := Int.mul_nonneg (by omega) (by have := M.s1; omega)
  have e1 : ((c + 1 : Nat) : Int) * m.f5 = (c : Int) * m.f5 + m.f5 := by push_cast; rw [Int.add_mul, Int.one_mul]
  have e2 : (((c + 1 : Nat) : Int) + 1) * m.f5 = ((c : Int) + 1) * m.f5 + m.f5 := by push_cast; rw [Int.add_mul ((c : Int) + 1), Int.one_mul]
  have ih := ChL_block m ms M hms c (k + m.f5) (by have := M.s1; omega) (by omega) (by omega)
  have := ChL_map m ms k (allR ms) hms
  have hw : wrap64 (k + m.f5) = k + m.f5 := wrap_id (by have := M.s1; omega) (by have := M.s2; have := M.hi; omega)
  rw [hw, if_pos (by omega)] at this
  rw [kilosF, List.flatMap_cons]
  obtain ⟨tl, ht⟩ := allR_head ms
  have hh : ∃ tl2, ((kilosF m.f5 (c + 1) (k + m.f5)).flatMap fun k => (allR ms).map (k :: ·)) = ((k + m.f5) :: ms.map (·.f3)) :: tl2 := by
   rw [kilosF, List.flatMap_cons, ht]
   exact ⟨_, rfl⟩
  obtain ⟨tl2, h3⟩ := hh
  rw [h3] at ih ⊢
  exact ChL_append _ this ih
theorem ChL_all : ∀ (mt : List S70), (∀ m ∈ mt, MatB m) → ChL (nextL mt) none (allR mt)
 | [], _ => rfl
 | m :: ms, H => by
  have M := H m (List.mem_cons_self)
  have ih := ChL_all ms (fun x hx => H x (List.mem_cons_of_mem _ hx))
  have hl := cntM_last M
  have e : ((cntM m : Nat) : Int) - 1 = (((m.f4 - m.f3) / m.f5).toNat : Int) := by unfold cntM; push_cast; omega
  rw [e] at hl
  have hl2 := hl.2
  rw [show ((cntM m : Nat) : Int) = (((m.f4 - m.f3) / m.f5).toNat : Int) + 1 from by unfold cntM; push_cast; rfl] at hl2
  exact ChL_block m ms M ih _ _ M.lo hl.1 hl2
theorem allR_len : ∀ (mt : List S70) (r : List Int), r ∈ allR mt → r.length = mt.length
 | [], r, h => by simp [allR] at h; rw [h]; rfl
 | m :: ms, r, h => by
  simp only [allR, List.mem_flatMap, List.mem_map] at h
  obtain ⟨k, _, q, hq, rfl⟩ := h
  simp [allR_len ms q hq]
theorem leasts_map (mt : List S70) : leasts mt mt.length = mt.map (·.f3) := by
 apply List.ext_getElem
 ·simp [leasts]
 ·intro i h1 h2
  have h3 : i < mt.length := by simpa [leasts] using h1
  simp [leasts, rd_T70, h3]
def rsAt (mt : List S70) (k : Nat) : List Int := (allR mt).getD k (leasts mt mt.length)
theorem rsAt_len (mt : List S70) (k : Nat) : (rsAt mt k).length = mt.length := by
 unfold rsAt
 by_cases h : k < (allR mt).length
 ·rw [getD_lt _ _ _ h]; exact allR_len mt _ (List.getElem_mem h)
 ·rw [getD_ge _ _ _ (by omega)]; exact leasts_len mt _
theorem rsAt_zero (mt : List S70) : rsAt mt 0 = leasts mt mt.length := by
 obtain ⟨tl, h⟩ := allR_head mt
 unfold rsAt
 rw [h, leasts_map]
 rfl
theorem allR_pos (mt : List S70) : 0 < (allR mt).length := by
 obtain ⟨tl, h⟩ := allR_head mt
 rw [h]; simp
theorem rsAt_next (mt : List S70) (H : ∀ m ∈ mt, MatB m) (k : Nat) (hk : k < (allR mt).length) :
  adv mt mt.length (rsAt mt k) = if k + 1 < (allR mt).length then (true, rsAt mt (k + 1)) else (false, (adv mt mt.length (rsAt mt k)).2) := by
 have h := ChL_get _ (ChL_all mt H) k hk
 have ha := adv_next mt mt.length (rsAt mt k) (rsAt_len mt k) (Nat.le_refl _)
 rw [List.take_length, List.take_of_length_le (Nat.le_of_eq (rsAt_len mt k)), List.drop_of_length_le (Nat.le_of_eq (rsAt_len mt k))] at ha
 have e : rsAt mt k = (allR mt)[k] := by unfold rsAt; rw [getD_lt _ _ _ hk]
 by_cases h2 : k + 1 < (allR mt).length
 ·rw [if_pos h2]
  rw [List.getElem?_eq_getElem h2, ← e] at h
  rw [ha.1 _ h, List.append_nil]
  unfold rsAt
  rw [getD_lt _ _ _ h2]
 ·rw [if_neg h2]
  rw [List.getElem?_eq_none (by omega), ← e] at h
  exact Prod.ext (ha.2 h) rfl
theorem rs_map (mt : List S70) : (List.range (allR mt).length).map (rsAt mt) = allR mt := by
 apply List.ext_getElem
 ·simp
 ·intro i h1 h2
  simp [rsAt, h2]
end
section
open Go.RowKit Go.Proofs.YtljfljekcpdpiaaGreatW.PrintWords Go.Proofs.YtljfljekcpdpiaaGreatW.PrintLast Go.Proofs.YtljfljekcpdpiaaGreatW.PrintMore
open Go.Sort (putRow Holds)
attribute [local go_sem] max2_int min2_int max_two min_two
theorem below_putRow {B : Nat} {w W : World} (h : Below B w W) {blk off : Nat} (hb : B ≤ blk) (d : Array Int) : Below B w (putRow (Value.int .i64) W blk off d) := by
  refine ⟨h.os, h.tape, h.output, by rw [Go.Sort.size_putRow]; exact h.size, fun i hi => ?_⟩
  rw [← h.block i hi]
  unfold Go.Sort.putRow Go.Sort.mapBlock
  simp only [Array.getElem?_modify]
  rw [if_neg (by omega)]
theorem blk_putRow {W : World} {g : Nat} {o : Obj} (h : W.heap[g]? = some o) {blk off : Nat} (hb : g ≠ blk) (d : Array Int) : (putRow (Value.int .i64) W blk off d).heap[g]? = some o := by
  rw [← h]
  unfold Go.Sort.putRow Go.Sort.mapBlock
  simp only [Array.getElem?_modify]
  rw [if_neg (by omega)]
def CoefQ (g : Nat) (lb : Array Value) (cf : Int → Int) (N : Int) (w : World) : Prop :=
  ∀ W, Below w.heap.size w W → ∀ x, 0 ≤ x → x < N → Calls Tryz.prog g (#[.int .i64 x] ++ lb) W fun e w' => e = .returned (.int .i64 (cf x)) ∧ ∃ q, w' = W.drewN q
theorem meanCmp_calls (B g : Nat) (lb : Array Value) (cf : Int → Int) (N : Int) (w W : World) (eg : ∀ args w, (callFunc g args).run Tryz.prog w = .ok (.enter g args) w)
    (hq : CoefQ g lb cf N w) (hb : Below w.heap.size w W) (hB : W.cell? ⟨B, 0, none⟩ = some (.func (.func g) #[] lb)) (x y : Int) (hx0 : 0 ≤ x) (hx1 : x < N) (hy0 : 0 ≤ y) (hy1 : y < N)
    (hx2 : -100000 ≤ cf x) (hx3 : cf x ≤ 100000) (hy2 : -100000 ≤ cf y) (hy3 : cf y ≤ 100000) :
    Calls Tryz.prog 168 #[.int .i64 x, .int .i64 y, .pointer (some ⟨B, 0, none⟩)] W fun e w' => e = .returned (.int .i64 (cf x - cf y)) ∧ ∃ q, w' = W.drewN q := by
  have h1 : ∀ n, Calls Tryz.prog g (#[.int .i64 x] ++ lb) (W.drewN n) fun e w' => e = .returned (.int .i64 (cf x)) ∧ ∃ q, w' = (W.drewN n).drewN q := fun n => hq _ (pw_below_drewN hb n) x hx0 hx1
  have h2 : ∀ n, Calls Tryz.prog g (#[.int .i64 y] ++ lb) (W.drewN n) fun e w' => e = .returned (.int .i64 (cf y)) ∧ ∃ q, w' = (W.drewN n).drewN q := fun n => hq _ (pw_below_drewN hb n) y hy0 hy1
  have H1 : Sd _ := ⟨h1⟩
  have H2 : Sd _ := ⟨h2⟩
  clear h1 h2 hq hb
  generalize cf x = cx at *
  generalize cf y = cy at *
  go_enter Tryz.func168, Tryz.ntmps168
  go_wp2_with fail
  go_quiet (first | (go_at_fn g; exact Calls.quiet_of (H1.out _)) | (go_at_fn g; exact Calls.quiet_of (H2.out _)))
  go_wp2
  go_ret
  exact ⟨rfl, _, rfl⟩
end
section
open Go.RowKit Go.Proofs.YtljfljekcpdpiaaGreatW.PrintWords Go.Proofs.YtljfljekcpdpiaaGreatW.PrintLast Go.Proofs.YtljfljekcpdpiaaGreatW.PrintMore
open Go.Sort (putRow Holds)
attribute [local go_sem] max2_int min2_int max_two min_two
theorem swo_cf (cf : Int → Int) : Go.Sort.SWO (ltC fun a b => cf a - cf b) where
  irrefl x := by simp [ltC]
  trans x y z h1 h2 := by simp only [ltC, decide_eq_true_eq] at *; omega
  ntrans x y z h1 h2 := by simp only [ltC, decide_eq_false_iff_not] at *; omega
def iotaA (n : Nat) : Array Int := Array.ofFn fun j : Fin n => (j.val : Int)
theorem iotaA_size (n : Nat) : (iotaA n).size = n := by simp [iotaA]
theorem order_facts (cf : Int → Int) (n : Nat) : Go.Sort.PermIn 0 n (iotaA n) (orderOf cf n) ∧ Go.Sort.SortedIn (ltC fun a b => cf a - cf b) 0 n (orderOf cf n) := by
  have h := Go.Sort.insertionSort_holds (lt := ltC fun a b => cf a - cf b) (swo_cf cf) (iotaA n) 0 n (Nat.zero_le _) (by rw [iotaA_size]; exact Nat.le_refl _)
  exact h
theorem order_size (cf : Int → Int) (n : Nat) : (orderOf cf n).size = n := by rw [(order_facts cf n).1.1, iotaA_size]
theorem order_perm (cf : Int → Int) (n : Nat) : (orderOf cf n).toList.Perm (iotaA n).toList := by
  have h := (order_facts cf n).1.2.2
  have e1 : (orderOf cf n).extract 0 n = orderOf cf n := by
    have := Array.extract_size (xs := orderOf cf n); rwa [order_size] at this
  have e2 : (iotaA n).extract 0 n = iotaA n := by
    have := Array.extract_size (xs := iotaA n); rwa [iotaA_size] at this
  rwa [e1, e2] at h
theorem order_in (cf : Int → Int) (n : Nat) : AllIn n (orderOf cf n) := by
  intro j hj
  have hm : (orderOf cf n)[j]! ∈ (orderOf cf n).toList := by
    rw [getElem!_pos _ j hj]
    exact Array.getElem_mem_toList hj
  have hm2 := (order_perm cf n).mem_iff.1 hm
  generalize (orderOf cf n)[j]! = x at hm2
  simp only [iotaA, Array.toList_ofFn, List.mem_ofFn] at hm2
  obtain ⟨i, rfl⟩ := hm2
  have := i.isLt
  omega
def fillTo (n k : Nat) : Array Int := Array.ofFn fun j : Fin n => if j.val < k then (j.val : Int) else 0
theorem fillTo_size (n k : Nat) : (fillTo n k).size = n := by simp [fillTo]
theorem fillTo_all (n : Nat) : fillTo n n = iotaA n := by
  unfold fillTo iotaA
  congr 1
  funext j
  rw [if_pos j.isLt]
theorem fillTo_get (n k i : Nat) (h : i < (fillTo n k).size) : (fillTo n k)[i] = if i < k then (i : Int) else 0 := by simp [fillTo]
theorem fillTo_step (n k : Nat) (hk : k < n) : (fillTo n k).setIfInBounds k (k : Int) = fillTo n (k + 1) := by
  apply Array.ext
  · rw [Array.size_setIfInBounds, fillTo_size, fillTo_size]
  · intro i h1 h2
    have h3 : i < (fillTo n k).size := by rwa [Array.size_setIfInBounds] at h1
    rw [Array.getElem_setIfInBounds h3, fillTo_get _ _ _ h2, fillTo_get _ _ _ h3]
    by_cases h : k = i
    · rw [if_pos h, if_pos (by omega), h]
    · rw [if_neg h]
      by_cases h4 : i < k
      · rw [if_pos h4, if_pos (by omega)]
      · rw [if_neg h4, if_neg (by omega)]
structure MeanW (w0 W : World) (B9 B10 : Nat) (a b c d : Int) : Prop where
  below : Below w0.heap.size w0 W
  b9 : W.heap[B9]? = some (.cells #[.int .i64 a, .int .i64 b] 190 (0, 0))
  b10 : W.heap[B10]? = some (.cells #[.int .i64 c, .int .i64 d] 190 (0, 0))
theorem MeanW.drewN {w0 W : World} {B9 B10 : Nat} {a b c d : Int} (h : MeanW w0 W B9 B10 a b c d) (n : Nat) : MeanW w0 (W.drewN n) B9 B10 a b c d := ⟨pw_below_drewN h.below n, h.b9, h.b10⟩
theorem MeanW.put9 {w0 W : World} {B9 B10 : Nat} {a b c d : Int} (h : MeanW w0 W B9 B10 a b c d) (h9 : w0.heap.size ≤ B9) (hne : B10 ≠ B9) (a' b' : Int) :
    MeanW w0 ((W.setCell ⟨B9, 0, none⟩ (.int .i64 a')).setCell ⟨B9, 1, none⟩ (.int .i64 b')) B9 B10 a' b' c d :=
  ⟨below_set (below_set h.below h9) h9, blk_put (blk_put h.b9 0 _ rfl) 1 _ rfl, blk_far (p := ⟨B9, 1, none⟩) (blk_far (p := ⟨B9, 0, none⟩) h.b10 hne _) hne _⟩
theorem MeanW.put10 {w0 W : World} {B9 B10 : Nat} {a b c d : Int} (h : MeanW w0 W B9 B10 a b c d) (h9 : w0.heap.size ≤ B10) (hne : B9 ≠ B10) (c' d' : Int) :
    MeanW w0 ((W.setCell ⟨B10, 0, none⟩ (.int .i64 c')).setCell ⟨B10, 1, none⟩ (.int .i64 d')) B9 B10 a b c' d' :=
  ⟨below_set (below_set h.below h9) h9, blk_far (p := ⟨B10, 1, none⟩) (blk_far (p := ⟨B10, 0, none⟩) h.b9 hne _) hne _, blk_put (blk_put h.b10 0 _ rfl) 1 _ rfl⟩
theorem mean_ranges {cf : Int → Int} {l : List S27} (H : MeanOk cf l) (D : Array Int) (hD : AllIn l.length D) (hs : D.size = l.length) (cut j : Nat) (hj : j < l.length) :
    (0 ≤ wX l D cut j ∧ wX l D cut j ≤ 1000000000) ∧ (0 ≤ wY l D cut j ∧ wY l D cut j ≤ 1000000000) ∧
    (-100000000000000 ≤ cf D[j]! * wX l D cut j ∧ cf D[j]! * wX l D cut j ≤ 100000000000000) ∧ (-100000000000000 ≤ cf D[j]! * wY l D cut j ∧ cf D[j]! * wY l D cut j ≤ 100000000000000) := by
  have hk := hD j (by omega)
  have a1 := H.lo _ hk.1 hk.2
  have a2 := H.le _ hk.1 hk.2
  have a3 := H.hi _ hk.1 hk.2
  have a4 := H.c1 _ hk.1 hk.2
  have a5 := H.c2 _ hk.1 hk.2
  have hX : 0 ≤ wX l D cut j ∧ wX l D cut j ≤ 1000000000 := by unfold wX; split <;> omega
  have hY : 0 ≤ wY l D cut j ∧ wY l D cut j ≤ 1000000000 := by unfold wY; split <;> omega
  have mulb : ∀ c x : Int, -100000 ≤ c → c ≤ 100000 → 0 ≤ x → x ≤ 1000000000 → -100000000000000 ≤ c * x ∧ c * x ≤ 100000000000000 := by
    intro c x h1 h2 h3 h4
    have e1 := Int.mul_le_mul_of_nonneg_right h1 h3
    have e2 := Int.mul_le_mul_of_nonneg_right h2 h3
    omega
  exact ⟨hX, hY, mulb _ _ a4 a5 hX.1 hX.2, mulb _ _ a4 a5 hY.1 hY.2⟩
structure OutW (w : World) (B3 B4 B5 Bo g : Nat) (lb : Array Value) (D : Array Int) (W : World) (x y : Int) : Prop where
  below : Below w.heap.size w W
  fn : W.heap[B3]? = some (.cells #[.func (.func g) #[] lb] 126 (0, 0))
  res : W.heap[B4]? = some (.cells #[.int .i64 0, .int .i64 0] 27 (0, 0))
  row : ∀ j, j < D.size → W.cell? ⟨B5, j, none⟩ = some (.int .i64 D[j]!)
  out : W.heap[Bo]? = some (.cells #[.int .i64 x, .int .i64 y] 27 (0, 0))
theorem OutW.later {w : World} {B3 B4 B5 Bo g : Nat} {lb : Array Value} {D : Array Int} {W W' : World} {x y : Int} (h : OutW w B3 B4 B5 Bo g lb D W x y) (hb : Below W.heap.size W W') : OutW w B3 B4 B5 Bo g lb D W' x y :=
  ⟨below_trans' h.below hb, blk_below h.fn hb, blk_below h.res hb, fun j hj => pw_cell_below hb (h.row j hj), blk_below h.out hb⟩
theorem OutW.put {w : World} {B3 B4 B5 Bo g : Nat} {lb : Array Value} {D : Array Int} {W : World} {x y : Int} (h : OutW w B3 B4 B5 Bo g lb D W x y) (h0 : w.heap.size ≤ Bo) (h3 : B3 ≠ Bo) (h4 : B4 ≠ Bo) (h5 : B5 ≠ Bo) (x' y' : Int) :
    OutW w B3 B4 B5 Bo g lb D ((W.setCell ⟨Bo, 0, none⟩ (.int .i64 x')).setCell ⟨Bo, 1, none⟩ (.int .i64 y')) x' y' :=
  ⟨below_set (below_set h.below h0) h0, blk_far (p := ⟨Bo, 1, none⟩) (blk_far (p := ⟨Bo, 0, none⟩) h.fn h3 _) h3 _, blk_far (p := ⟨Bo, 1, none⟩) (blk_far (p := ⟨Bo, 0, none⟩) h.res h4 _) h4 _,
   fun j hj => (World.cell?_setCell_other _ _ _ _ (by simp only [ne_eq, Addr.mk.injEq]; omega)).trans ((World.cell?_setCell_other _ _ _ _ (by simp only [ne_eq, Addr.mk.injEq]; omega)).trans (h.row j hj)), blk_put (blk_put h.out 0 _ rfl) 1 _ rfl⟩
theorem OutW.drewN {w : World} {B3 B4 B5 Bo g : Nat} {lb : Array Value} {D : Array Int} {W : World} {x y : Int} (h : OutW w B3 B4 B5 Bo g lb D W x y) (n : Nat) : OutW w B3 B4 B5 Bo g lb D (W.drewN n) x y :=
  ⟨pw_below_drewN h.below n, h.fn, h.res, h.row, h.out⟩
theorem mean_sums {cf : Int → Int} {l : List S27} (H : MeanOk cf l) (D : Array Int) (hD : AllIn l.length D) (hs : D.size = l.length) (cut k : Nat) (hk : k ≤ l.length) :
    (-1200000000000000 ≤ lowN cf l D cut k ∧ lowN cf l D cut k ≤ 1200000000000000) ∧ (0 ≤ lowD l D cut k ∧ lowD l D cut k ≤ 12000000000) ∧
    (-1200000000000000 ≤ highN cf l D cut k ∧ highN cf l D cut k ≤ 1200000000000000) ∧ (0 ≤ highD l D cut k ∧ highD l D cut k ≤ 12000000000) := by
  have h12 := H.n12
  have b1 := sumTo_bound (f := fun j => cf D[j]! * wX l D cut j) (M := 100000000000000) (n := l.length) (fun j hj => (mean_ranges H D hD hs cut j hj).2.2.1) k hk
  have b2 := sumTo_bound (f := wX l D cut) (M := 1000000000) (n := l.length) (fun j hj => by have := (mean_ranges H D hD hs cut j hj).1; omega) k hk
  have b3 := sumTo_bound (f := fun j => cf D[j]! * wY l D cut j) (M := 100000000000000) (n := l.length) (fun j hj => (mean_ranges H D hD hs cut j hj).2.2.2) k hk
  have b4 := sumTo_bound (f := wY l D cut) (M := 1000000000) (n := l.length) (fun j hj => by have := (mean_ranges H D hD hs cut j hj).2.1; omega) k hk
  have p2 := sumTo_pos (f := wX l D cut) (n := l.length) (fun j hj => (mean_ranges H D hD hs cut j hj).1.1) k hk
  have p4 := sumTo_pos (f := wY l D cut) (n := l.length) (fun j hj => (mean_ranges H D hD hs cut j hj).2.1.1) k hk
  unfold lowN lowD highN highD
  omega
theorem wrap_two {a m s : Int} (h : s = a + m) (h1 : -1200000000000000 ≤ a) (h2 : a ≤ 1200000000000000) (h3 : -100000000000000 ≤ m) (h4 : m ≤ 100000000000000) : IntKind.i64.wrap (a + IntKind.i64.wrap m) = s := by
  simp only [IntKind.wrap_i64]; omega
theorem wrap_one {a m s : Int} (h : s = a + m) (h1 : 0 ≤ a) (h2 : a ≤ 12000000000) (h3 : 0 ≤ m) (h4 : m ≤ 1000000000) : IntKind.i64.wrap (a + m) = s := by
  simp only [IntKind.wrap_i64]; omega
theorem sumTo_lsum (f : Int → Int) (D : Array Int) : ∀ k, k ≤ D.size → sumTo (fun j => f D[j]!) k = MeanMath.lsum f (D.toList.take k) := by
  intro k
  induction k with
  | zero => intro _; simp [sumTo]
  | succ k ih =>
    intro hk
    have hk' : k < D.toList.length := by rw [Array.length_toList]; omega
    rw [List.take_succ_eq_append_getElem hk', MeanMath.lsum_append]
    simp only [sumTo, MeanMath.lsum_cons, MeanMath.lsum_nil]
    rw [ih (by omega), getElem!_pos _ k (by omega)]
    simp
theorem lsum_iota (f : Int → Int) (l : List S27) (h : ∀ k : Nat, k < l.length → f k = (rd_T27 l k).f0) : MeanMath.lsum f (iotaA l.length).toList = MeanMath.lsum S27.f0 l := by
  have e : (iotaA l.length).toList = (List.range l.length).map (fun n : Nat => (n : Int)) := by
    apply List.ext_getElem
    · simp [iotaA]
    · intro i h1 h2; simp [iotaA]
  rw [e]
  have : ∀ (m : List S27) (pre : List S27), pre ++ m = l → MeanMath.lsum f ((List.range' pre.length m.length).map (fun n : Nat => (n : Int))) = MeanMath.lsum S27.f0 m := by
    intro m
    induction m with
    | nil => intro pre _; simp
    | cons x m ih =>
      intro pre hp
      have h1 := ih (pre ++ [x]) (by simpa using hp)
      simp only [List.length_append, List.length_singleton] at h1
      simp only [List.length_cons, List.range'_succ, List.map_cons, MeanMath.lsum_cons, h1]
      rw [h pre.length (by rw [← hp]; simp)]
      congr 1
      simp [rd_T27, ← hp]
  have h2 := this l [] rfl
  simpa [List.range_eq_range'] using h2
theorem mean_pos {cf : Int → Int} {l : List S27} (H : MeanOk cf l) (D : Array Int) (hD : AllIn l.length D) (hs : D.size = l.length) (hp : D.toList.Perm (iotaA l.length).toList) (cut : Nat) :
    0 < lowD l D cut l.length ∧ 0 < highD l D cut l.length := by
  have base : sumTo (fun j => (rd_T27 l D[j]!).f0) l.length = MeanMath.lsum S27.f0 l := by
    have := sumTo_lsum (fun k => (rd_T27 l k).f0) D l.length (by omega)
    rw [this, List.take_of_length_le (by simp; omega), MeanMath.lsum_perm _ hp]
    exact lsum_iota _ l (fun k _ => rfl)
  have mono : ∀ f : Nat → Int, (∀ j, j < l.length → (rd_T27 l D[j]!).f0 ≤ f j) → ∀ k, k ≤ l.length → sumTo (fun j => (rd_T27 l D[j]!).f0) k ≤ sumTo f k := by
    intro f hf k
    induction k with
    | zero => intro _; simp [sumTo]
    | succ k ih => intro hk; have := ih (by omega); have := hf k (by omega); simp only [sumTo]; omega
  have hpos := H.pos
  have h1 := mono (wX l D cut) (fun j hj => by
    have hk := hD j (by omega)
    have := H.le _ hk.1 hk.2
    unfold wX; split <;> omega) l.length (Nat.le_refl _)
  have h2 := mono (wY l D cut) (fun j hj => by
    have hk := hD j (by omega)
    have := H.le _ hk.1 hk.2
    unfold wY; split <;> omega) l.length (Nat.le_refl _)
  unfold lowD highD
  omega
end
section
def b_checkRecipe.f (l0_0 : List ByteArray) (l0_1 : List (S70)) (l0_2 : List (S27)) (l0_3 : List (S89)) (a0_4 : Int) (a0_5 : Int) (a0_6 : Int) (l1 : List Int) : Option (Int) := if (l1.length : Int) = (l0_1.length : Int) then ((x_kilos.f l1).bind fun t148 => (if t148 = true then (some 1) else (some 0))) else (some 1)
theorem b_checkRecipe.calls (A0_0 : Option Addr) (c0_0 : Nat) (l0_0 : List ByteArray) (A0_1 : Option Addr) (c0_1 : Nat) (l0_1 : List (S70)) (A0_2 : Option Addr) (c0_2 : Nat) (l0_2 : List (S27)) (A0_3 : Option Addr) (c0_3 : Nat) (l0_3 : List (S89)) (a0_4 : Int) (a0_5 : Int) (a0_6 : Int) (A1 : Option Addr) (c1 : Nat) (l1 : List Int) (r : Int) (w : World) (hr0_0 : Kd.C Kd.string w A0_0 l0_0.length l0_0) (hc0_0 : l0_0.length ≤ c0_0) (hr0_1 : Kd.C k70 w A0_1 l0_1.length l0_1) (hc0_1 : l0_1.length ≤ c0_1) (hr0_2 : Kd.C k27 w A0_2 l0_2.length l0_2) (hc0_2 : l0_2.length ≤ c0_2) (hr0_3 : Kd.C k89 w A0_3 l0_3.length l0_3) (hc0_3 : l0_3.length ≤ c0_3) (hr1 : Kd.C (Kd.int .i64) w A1 l1.length l1) (hc1 : l1.length ≤ c1) (h : b_checkRecipe.f l0_0 l0_1 l0_2 l0_3 a0_4 a0_5 a0_6 l1 = some r) :
  Calls Tryz.prog 134 #[.agg #[.slice A0_0 l0_0.length c0_0, .slice A0_1 l0_1.length c0_1, .slice A0_2 l0_2.length c0_2, .slice A0_3 l0_3.length c0_3, .int .i64 a0_4, .int .i64 a0_5, .int .i64 a0_6], .slice A1 l1.length c1] w fun e w' => e = .returned (.int .i64 r) ∧ Below w.heap.size w w' := by
 have hu29 := Tryz.underlying29; have HR0_0 := Sd.mk hr0_0; have HC0_0 := Sd.mk hc0_0; clear hr0_0 hc0_0; have HR0_1 := Sd.mk hr0_1; have HC0_1 := Sd.mk hc0_1; clear hr0_1 hc0_1; have HR0_2 := Sd.mk hr0_2; have HC0_2 := Sd.mk hc0_2; clear hr0_2 hc0_2; have HR0_3 := Sd.mk hr0_3; have HC0_3 := Sd.mk hc0_3; clear hr0_3 hc0_3; have HR1 := Sd.mk hr1; have HC1 := Sd.mk hc1; clear hr1 hc1; have HB := Sd.mk (Below.refl w.heap.size w)
 have H : (if (l1.length : Int) = (l0_1.length : Int) then ((x_kilos.f l1).bind fun t148 => (if t148 = true then (some 1) else (some 0))) else (some 1)) = some r := h
 clear h
 by_cases c3 : (l1.length : Int) = (l0_1.length : Int)
 ·rw [if_pos c3] at H
  have c3b0 : ((l1.length : Int) == (l0_1.length : Int)) = true := beq_iff_eq.mpr c3
  have c3b1 : ((l1.length : Int) != (l0_1.length : Int)) = false := bne_eq_false_iff_eq.mpr c3
  have c3b2 : (l1.length == l0_1.length) = true := by first | simpa using c3 | (simp at c3 ⊢; omega)
  clear c3; replace H := Option.bind_eq_some_iff.mp H; obtain ⟨t148, A40, H⟩ := H
  try dsimp only at H
  have A4 := Sd.mk A40; clear A40
  by_cases c5 : t148 = true
  ·subst c5
   have H1 : (some 1) = some r := by rw [if_pos rfl] at H; exact H
   clear H; have H := H1; clear H1; obtain rfl := Option.some.inj H
   go_enter Tryz.func134, Tryz.ntmps134
   go_wp2_with (first | ((with_reducible refine gate_dst (N := 2) rfl ?_); refine box_event ?hg (N := 2) ?hd (cs := #[.slice A0_0 l0_0.length c0_0, .slice A0_1 l0_1.length c0_1, .slice A0_2 l0_2.length c0_2, .slice A0_3 l0_3.length c0_3, .int .i64 a0_4, .int .i64 a0_5, .int .i64 a0_6]) (t := 29) ?hr ?_; (case hd => rfl); (case hg => rfl); (case hr => exact tG); intro gb147 hg w6 hbox hb; have BK147 := Sd.mk (hbox); have GW147 := Sd.mk (bSz hg (bBl HB.out)); have GE147 := Sd.mk (bSz hg (bBl HB.out)); replace HB := Sd.mk (below_step (bBl HB.out) hb); clear hb hbox hg; obtain ⟨u7_0, u7_1, u7_2, u7_3, u7_4, u7_5, u7_6, o7_0, o7_1, o7_2, o7_3, o7_4, o7_5, o7_6⟩ := bc7 (w := w6) BK147.out) | (go_at_call 106; (with_reducible refine (x_kilos.calls _ _ l1 true _ (cS (Kd.C_below HR1.out HB.out)) HC1.out A4.out).mono ?_); rintro e w8 ⟨rfl, hb⟩; replace BK147 := Sd.mk (blk_below (bkA BK147.out) hb); replace HB := Sd.mk (below_step (bBl HB.out) hb); (try clear hb); (try clear hb2); (try clear hk); (try clear hi)))
   go_ret
   exact ⟨tE, bBl HB.out⟩
  ·replace c5 := Bool.eq_false_iff.mpr c5
   subst c5
   have H1 : (some 0) = some r := by rw [if_neg (show ¬ (false = true) by decide)] at H; exact H
   clear H; have H := H1; clear H1; obtain rfl := Option.some.inj H
   go_enter Tryz.func134, Tryz.ntmps134
   go_wp2_with (first | ((with_reducible refine gate_dst (N := 2) rfl ?_); refine box_event ?hg (N := 2) ?hd (cs := #[.slice A0_0 l0_0.length c0_0, .slice A0_1 l0_1.length c0_1, .slice A0_2 l0_2.length c0_2, .slice A0_3 l0_3.length c0_3, .int .i64 a0_4, .int .i64 a0_5, .int .i64 a0_6]) (t := 29) ?hr ?_; (case hd => rfl); (case hg => rfl); (case hr => exact tG); intro gb147 hg w9 hbox hb; have BK147 := Sd.mk (hbox); have GW147 := Sd.mk (bSz hg (bBl HB.out)); have GE147 := Sd.mk (bSz hg (bBl HB.out)); replace HB := Sd.mk (below_step (bBl HB.out) hb); clear hb hbox hg; obtain ⟨u10_0, u10_1, u10_2, u10_3, u10_4, u10_5, u10_6, o10_0, o10_1, o10_2, o10_3, o10_4, o10_5, o10_6⟩ := bc7 (w := w9) BK147.out) | (go_at_call 106; (with_reducible refine (x_kilos.calls _ _ l1 false _ (cS (Kd.C_below HR1.out HB.out)) HC1.out A4.out).mono ?_); rintro e w11 ⟨rfl, hb⟩; replace BK147 := Sd.mk (blk_below (bkA BK147.out) hb); replace HB := Sd.mk (below_step (bBl HB.out) hb); (try clear hb); (try clear hb2); (try clear hk); (try clear hi)))
   go_ret
   exact ⟨tE, bBl HB.out⟩
 ·rw [if_neg c3] at H
  have c3b0 : ((l1.length : Int) == (l0_1.length : Int)) = false := beq_eq_false_iff_ne.mpr c3
  have c3b1 : ((l1.length : Int) != (l0_1.length : Int)) = true := bne_iff_ne.mpr c3
  have c3b2 : (l1.length == l0_1.length) = false := by first | simpa using c3 | (simp at c3 ⊢; omega)
  obtain rfl := Option.some.inj H
  go_enter Tryz.func134, Tryz.ntmps134
  go_wp2_with (first | ((with_reducible refine gate_dst (N := 2) rfl ?_); refine box_event ?hg (N := 2) ?hd (cs := #[.slice A0_0 l0_0.length c0_0, .slice A0_1 l0_1.length c0_1, .slice A0_2 l0_2.length c0_2, .slice A0_3 l0_3.length c0_3, .int .i64 a0_4, .int .i64 a0_5, .int .i64 a0_6]) (t := 29) ?hr ?_; (case hd => rfl); (case hg => rfl); (case hr => exact tG); intro gb147 hg w12 hbox hb; have BK147 := Sd.mk (hbox); have GW147 := Sd.mk (bSz hg (bBl HB.out)); have GE147 := Sd.mk (bSz hg (bBl HB.out)); replace HB := Sd.mk (below_step (bBl HB.out) hb); clear hb hbox hg; obtain ⟨u13_0, u13_1, u13_2, u13_3, u13_4, u13_5, u13_6, o13_0, o13_1, o13_2, o13_3, o13_4, o13_5, o13_6⟩ := bc7 (w := w12) BK147.out))
  go_ret
  exact ⟨tE, bBl HB.out⟩
end
section
def b_asked.f (k : Nat) (l0_0 : List ByteArray) (l0_1 : List (S70)) (l0_2 : List (S27)) (l0_3 : List (S89)) (a0_4 : Int) (a0_5 : Int) (a0_6 : Int) (l1 : List Int) : Option (Int) := (b_Check.f k l0_0 l0_1 l0_2 l0_3 a0_4 a0_5 a0_6).bind fun t150 => (if t150 = 0 then ((b_checkRecipe.f l0_0 l0_1 l0_2 l0_3 a0_4 a0_5 a0_6 l1).bind fun t151 => (some t151)) else (some t150))
theorem b_asked.mono : ∀ a0 a1 a2 a3 a4 a5 a6 a7 k, LeO (b_asked.f k a0 a1 a2 a3 a4 a5 a6 a7) (b_asked.f (k + 1) a0 a1 a2 a3 a4 a5 a6 a7) := by
 intro a0 a1 a2 a3 a4 a5 a6 a7 k
 unfold b_asked.f
 repeat' first
   | (with_reducible exact b_Check.mono _ _ _ _ _ _ _ _)
   | (with_reducible exact LeO.refl _)
   | (with_reducible exact LeO.none _)
   | (with_reducible refine LeO.ite ?_ ?_)
   | (with_reducible refine LeO.bind ?_ (fun _ => ?_))
   | exact LeO.none _
   | refine LeO.ite ?_ ?_
   | refine LeO.bind ?_ (fun _ => ?_)
theorem b_asked.calls (k : Nat) (A0_0 : Option Addr) (c0_0 : Nat) (l0_0 : List ByteArray) (A0_1 : Option Addr) (c0_1 : Nat) (l0_1 : List (S70)) (A0_2 : Option Addr) (c0_2 : Nat) (l0_2 : List (S27)) (A0_3 : Option Addr) (c0_3 : Nat) (l0_3 : List (S89)) (a0_4 : Int) (a0_5 : Int) (a0_6 : Int) (A1 : Option Addr) (c1 : Nat) (l1 : List Int) (r : Int) (w : World) (hr0_0 : Kd.C Kd.string w A0_0 l0_0.length l0_0) (hc0_0 : l0_0.length ≤ c0_0) (hr0_1 : Kd.C k70 w A0_1 l0_1.length l0_1) (hc0_1 : l0_1.length ≤ c0_1) (hr0_2 : Kd.C k27 w A0_2 l0_2.length l0_2) (hc0_2 : l0_2.length ≤ c0_2) (hr0_3 : Kd.C k89 w A0_3 l0_3.length l0_3) (hc0_3 : l0_3.length ≤ c0_3) (hr1 : Kd.C (Kd.int .i64) w A1 l1.length l1) (hc1 : l1.length ≤ c1) (h : b_asked.f k l0_0 l0_1 l0_2 l0_3 a0_4 a0_5 a0_6 l1 = some r) :
  Calls Tryz.prog 50 #[.agg #[.slice A0_0 l0_0.length c0_0, .slice A0_1 l0_1.length c0_1, .slice A0_2 l0_2.length c0_2, .slice A0_3 l0_3.length c0_3, .int .i64 a0_4, .int .i64 a0_5, .int .i64 a0_6], .slice A1 l1.length c1] w fun e w' => e = .returned (.int .i64 r) ∧ Below w.heap.size w w' := by
 have hu29 := Tryz.underlying29; have HR0_0 := Sd.mk hr0_0; have HC0_0 := Sd.mk hc0_0; clear hr0_0 hc0_0; have HR0_1 := Sd.mk hr0_1; have HC0_1 := Sd.mk hc0_1; clear hr0_1 hc0_1; have HR0_2 := Sd.mk hr0_2; have HC0_2 := Sd.mk hc0_2; clear hr0_2 hc0_2; have HR0_3 := Sd.mk hr0_3; have HC0_3 := Sd.mk hc0_3; clear hr0_3 hc0_3; have HR1 := Sd.mk hr1; have HC1 := Sd.mk hc1; clear hr1 hc1; have HB := Sd.mk (Below.refl w.heap.size w)
 have H : ((b_Check.f k l0_0 l0_1 l0_2 l0_3 a0_4 a0_5 a0_6).bind fun t150 => (if t150 = 0 then ((b_checkRecipe.f l0_0 l0_1 l0_2 l0_3 a0_4 a0_5 a0_6 l1).bind fun t151 => (some t151)) else (some t150))) = some r := h
 clear h; replace H := Option.bind_eq_some_iff.mp H; obtain ⟨t150, A30, H⟩ := H
 try dsimp only at H
 have A3 := Sd.mk A30; clear A30
 by_cases c4 : t150 = 0
 ·rw [if_pos c4] at H
  have c4b0 : (t150 == 0) = true := beq_iff_eq.mpr c4
  have c4b1 : (t150 != 0) = false := bne_eq_false_iff_eq.mpr c4
  clear c4; replace H := Option.bind_eq_some_iff.mp H; obtain ⟨t151, A50, H⟩ := H
  try dsimp only at H
  have A5 := Sd.mk A50; clear A50; obtain rfl := Option.some.inj H
  go_enter Tryz.func50, Tryz.ntmps50
  go_wp2_with (first | ((with_reducible refine gate_dst (N := 2) rfl ?_); refine box_event ?hg (N := 2) ?hd (cs := #[.slice A0_0 l0_0.length c0_0, .slice A0_1 l0_1.length c0_1, .slice A0_2 l0_2.length c0_2, .slice A0_3 l0_3.length c0_3, .int .i64 a0_4, .int .i64 a0_5, .int .i64 a0_6]) (t := 29) ?hr ?_; (case hd => rfl); (case hg => rfl); (case hr => exact tG); intro gb149 hg w6 hbox hb; have BK149 := Sd.mk (hbox); have GW149 := Sd.mk (bSz hg (bBl HB.out)); have GE149 := Sd.mk (bSz hg (bBl HB.out)); replace HB := Sd.mk (below_step (bBl HB.out) hb); clear hb hbox hg; obtain ⟨u7_0, u7_1, u7_2, u7_3, u7_4, u7_5, u7_6, o7_0, o7_1, o7_2, o7_3, o7_4, o7_5, o7_6⟩ := bc7 (w := w6) BK149.out) | ((with_reducible refine gate_callee (f := 34) rfl ?_); refine goesL_ (some 7) rfl rfl Tryz.func34 (by kernel_rfl) rfl #[.agg #[.slice A0_0 l0_0.length c0_0, .slice A0_1 l0_1.length c0_1, .slice A0_2 l0_2.length c0_2, .slice A0_3 l0_3.length c0_3, .int .i64 a0_4, .int .i64 a0_5, .int .i64 a0_6]] rfl tM ?_; (with_reducible refine (b_Check.calls k _ _ l0_0 _ _ l0_1 _ _ l0_2 _ _ l0_3 a0_4 a0_5 a0_6 t150 _ (cS (Kd.C_below HR0_0.out HB.out)) HC0_0.out (cS (Kd.C_below HR0_1.out HB.out)) HC0_1.out (cS (Kd.C_below HR0_2.out HB.out)) HC0_2.out (cS (Kd.C_below HR0_3.out HB.out)) HC0_3.out A3.out).mono ?_); rintro e w8 ⟨rfl, hb⟩; refine ⟨_, rfl, ?_⟩; replace BK149 := Sd.mk (blk_below (bkA BK149.out) hb); replace HB := Sd.mk (below_step (bBl HB.out) hb); (try clear hb); (try clear hb2); (try clear hk); (try clear hi); obtain ⟨u9_0, u9_1, u9_2, u9_3, u9_4, u9_5, u9_6, o9_0, o9_1, o9_2, o9_3, o9_4, o9_5, o9_6⟩ := bc7 (w := w8) BK149.out) | ((with_reducible refine gate_callee (f := 134) rfl ?_); refine goesL_ (some 13) rfl rfl Tryz.func134 (by kernel_rfl) rfl #[.agg #[.slice A0_0 l0_0.length c0_0, .slice A0_1 l0_1.length c0_1, .slice A0_2 l0_2.length c0_2, .slice A0_3 l0_3.length c0_3, .int .i64 a0_4, .int .i64 a0_5, .int .i64 a0_6], .slice A1 l1.length c1] rfl tM ?_; (with_reducible refine (b_checkRecipe.calls _ _ l0_0 _ _ l0_1 _ _ l0_2 _ _ l0_3 a0_4 a0_5 a0_6 _ _ l1 t151 _ (cS (Kd.C_below HR0_0.out HB.out)) HC0_0.out (cS (Kd.C_below HR0_1.out HB.out)) HC0_1.out (cS (Kd.C_below HR0_2.out HB.out)) HC0_2.out (cS (Kd.C_below HR0_3.out HB.out)) HC0_3.out (cS (Kd.C_below HR1.out HB.out)) HC1.out A5.out).mono ?_); rintro e w10 ⟨rfl, hb⟩; refine ⟨_, rfl, ?_⟩; replace BK149 := Sd.mk (blk_below (bkA BK149.out) hb); replace HB := Sd.mk (below_step (bBl HB.out) hb); (try clear hb); (try clear hb2); (try clear hk); (try clear hi)))
  go_ret
  exact ⟨tE, bBl HB.out⟩
 ·rw [if_neg c4] at H
  have c4b0 : (t150 == 0) = false := beq_eq_false_iff_ne.mpr c4
  have c4b1 : (t150 != 0) = true := bne_iff_ne.mpr c4
  obtain rfl := Option.some.inj H
  go_enter Tryz.func50, Tryz.ntmps50
  go_wp2_with (first | ((with_reducible refine gate_dst (N := 2) rfl ?_); refine box_event ?hg (N := 2) ?hd (cs := #[.slice A0_0 l0_0.length c0_0, .slice A0_1 l0_1.length c0_1, .slice A0_2 l0_2.length c0_2, .slice A0_3 l0_3.length c0_3, .int .i64 a0_4, .int .i64 a0_5, .int .i64 a0_6]) (t := 29) ?hr ?_; (case hd => rfl); (case hg => rfl); (case hr => exact tG); intro gb149 hg w11 hbox hb; have BK149 := Sd.mk (hbox); have GW149 := Sd.mk (bSz hg (bBl HB.out)); have GE149 := Sd.mk (bSz hg (bBl HB.out)); replace HB := Sd.mk (below_step (bBl HB.out) hb); clear hb hbox hg; obtain ⟨u12_0, u12_1, u12_2, u12_3, u12_4, u12_5, u12_6, o12_0, o12_1, o12_2, o12_3, o12_4, o12_5, o12_6⟩ := bc7 (w := w11) BK149.out) | ((with_reducible refine gate_callee (f := 34) rfl ?_); refine goesL_ (some 7) rfl rfl Tryz.func34 (by kernel_rfl) rfl #[.agg #[.slice A0_0 l0_0.length c0_0, .slice A0_1 l0_1.length c0_1, .slice A0_2 l0_2.length c0_2, .slice A0_3 l0_3.length c0_3, .int .i64 a0_4, .int .i64 a0_5, .int .i64 a0_6]] rfl tM ?_; (with_reducible refine (b_Check.calls k _ _ l0_0 _ _ l0_1 _ _ l0_2 _ _ l0_3 a0_4 a0_5 a0_6 t150 _ (cS (Kd.C_below HR0_0.out HB.out)) HC0_0.out (cS (Kd.C_below HR0_1.out HB.out)) HC0_1.out (cS (Kd.C_below HR0_2.out HB.out)) HC0_2.out (cS (Kd.C_below HR0_3.out HB.out)) HC0_3.out A3.out).mono ?_); rintro e w13 ⟨rfl, hb⟩; refine ⟨_, rfl, ?_⟩; replace BK149 := Sd.mk (blk_below (bkA BK149.out) hb); replace HB := Sd.mk (below_step (bBl HB.out) hb); (try clear hb); (try clear hb2); (try clear hk); (try clear hi)))
  go_ret
  exact ⟨tE, bBl HB.out⟩
end
section
mutual
def b_grams.l0 : Nat → List Int → List (S27) → List (S70) → Int → Int → Option ((List (S27)))
 | 0, _, _, _, _, _ => none
 | k + 1, x1, x5, x15, x16, x17 => if x17 < x16 then (if 0 ≤ x17 then (if x17 < (x15.length : Int) then (b_grams.l1 k x1 x5 x17 x15 x16 x17 ((rd_T70 x15 x17).f6) (((rd_T70 x15 x17).f6).length : Int) 0) else (none)) else (none)) else (some x5)
def b_grams.l1 : Nat → List Int → List (S27) → Int → List (S70) → Int → Int → List (S27) → Int → Int → Option ((List (S27)))
 | 0, _, _, _, _, _, _, _, _, _ => none
 | k + 1, x1, x5, x6, x15, x16, x17, x23, x24, x25 => if x25 < x24 then (if 0 ≤ x25 then (if x25 < (x23.length : Int) then (if x25 < (x5.length : Int) then (if 0 ≤ x6 then (if x6 < (x1.length : Int) then ((some (x5.set (x25 : Int).toNat (⟨wrap64 (((rd_T27 x5 x25).f0) + (wrap64 ((rd x1 x6) * ((rd_T27 x23 x25).f0)))), (rd_T27 x5 x25).f1⟩ : S27) : List (S27))).bind fun y162 => (b_grams.l1 k x1 (y162.set (x25 : Int).toNat (⟨(rd_T27 y162 x25).f0, wrap64 (((rd_T27 y162 x25).f1) + (wrap64 ((rd x1 x6) * ((rd_T27 x23 x25).f1))))⟩ : S27)) x6 x15 x16 x17 x23 x24 (wrap64 (x25 + 1)))) else (none)) else (none)) else (none)) else (none)) else (none)) else (b_grams.l0 k x1 x5 x15 x16 (wrap64 (x17 + 1)))
end
def b_grams.f (k : Nat) (l0_0 : List ByteArray) (l0_1 : List (S70)) (l0_2 : List (S27)) (l0_3 : List (S89)) (a0_4 : Int) (a0_5 : Int) (a0_6 : Int) (l1 : List Int) : Option ((List (S27))) := if 0 ≤ (l0_0.length : Int) then (if ((l0_0.length : Int) : Int).toNat ≤ 17592186044416 then (b_grams.l0 k l1 (List.replicate ((l0_0.length : Int) : Int).toNat z27) l0_1 (l0_1.length : Int) 0) else (none)) else (none)
theorem b_grams.mono_l : ∀ k, (∀ y0 y1 y2 y3 y4, LeO (b_grams.l0 k y0 y1 y2 y3 y4) (b_grams.l0 (k + 1) y0 y1 y2 y3 y4)) ∧ (∀ y0 y1 y2 y3 y4 y5 y6 y7 y8, LeO (b_grams.l1 k y0 y1 y2 y3 y4 y5 y6 y7 y8) (b_grams.l1 (k + 1) y0 y1 y2 y3 y4 y5 y6 y7 y8))
 | 0 => ⟨fun _ _ _ _ _ r h => by simp [b_grams.l0] at h, fun _ _ _ _ _ _ _ _ _ r h => by simp [b_grams.l1] at h⟩
 | k + 1 => by
  obtain ⟨ih0, ih1⟩ := b_grams.mono_l k
  refine ⟨?_, ?_⟩
  ·intro y0 y1 y2 y3 y4
   unfold b_grams.l0
   repeat' first
   | (with_reducible exact ih0 _ _ _ _ _)
   | (with_reducible exact ih1 _ _ _ _ _ _ _ _ _)
   | (with_reducible exact LeO.refl _)
   | (with_reducible exact LeO.none _)
   | (with_reducible refine LeO.ite ?_ ?_)
   | (with_reducible refine LeO.bind ?_ (fun _ => ?_))
   | exact LeO.none _
   | refine LeO.ite ?_ ?_
   | refine LeO.bind ?_ (fun _ => ?_)
  ·intro y0 y1 y2 y3 y4 y5 y6 y7 y8
   unfold b_grams.l1
   repeat' first
   | (with_reducible exact ih0 _ _ _ _ _)
   | (with_reducible exact ih1 _ _ _ _ _ _ _ _ _)
   | (with_reducible exact LeO.refl _)
   | (with_reducible exact LeO.none _)
   | (with_reducible refine LeO.ite ?_ ?_)
   | (with_reducible refine LeO.bind ?_ (fun _ => ?_))
   | exact LeO.none _
   | refine LeO.ite ?_ ?_
   | refine LeO.bind ?_ (fun _ => ?_)
theorem b_grams.mono : ∀ a0 a1 a2 a3 a4 a5 a6 a7 k, LeO (b_grams.f k a0 a1 a2 a3 a4 a5 a6 a7) (b_grams.f (k + 1) a0 a1 a2 a3 a4 a5 a6 a7) := by
 intro a0 a1 a2 a3 a4 a5 a6 a7 k
 obtain ⟨ih0, ih1⟩ := b_grams.mono_l k
 unfold b_grams.f
 repeat' first
   | (with_reducible exact ih0 _ _ _ _ _)
   | (with_reducible exact ih1 _ _ _ _ _ _ _ _ _)
   | (with_reducible exact LeO.refl _)
   | (with_reducible exact LeO.none _)
   | (with_reducible refine LeO.ite ?_ ?_)
   | (with_reducible refine LeO.bind ?_ (fun _ => ?_))
   | exact LeO.none _
   | refine LeO.ite ?_ ?_
   | refine LeO.bind ?_ (fun _ => ?_)
def b_grams.T8 : Bool × List (List Nat × List Nat) := (true, [([], []), ([], []), ([0, 1], [0, 1]), ([2], [2]), ([3], [3]), ([], []), ([], []), ([5, 6], [5, 6]), ([7], [7]), ([], []), ([9], [9]), ([8, 10], [8, 10]), ([4, 11], [4, 11]), ([0, 1, 0, 1, 2, 3, 4, 5, 6, 7, 8, 9, 10, 11, 12], [0, 1]), ([13, 0, 1, 2, 3, 4, 5, 6, 7, 8, 9, 10, 11, 12], [13]), ([14, 12, 0, 1, 2, 3, 4, 5, 6, 7, 8, 9, 10, 11, 12], [12, 14])])
def b_grams.B8 : List Nat := [0, 0, 3, 7, 15, 0, 0, 96, 224, 0, 512, 2016, 4095, 8191, 16383, 32767]
theorem b_grams.tab8 : rtab .any (opsOf Tryz.f204 8) = b_grams.T8 := by kernel_rfl
theorem b_grams.bits8 : waitsOk b_grams.T8.2 b_grams.B8 = true := by kernel_rfl
def b_grams.T9 : Bool × List (List Nat × List Nat) := (true, [([], []), ([], []), ([0, 1], [0, 1]), ([2], [2]), ([3], [3]), ([], []), ([], []), ([5, 6], [5, 6]), ([7], [7]), ([], []), ([9], [9]), ([8, 10], [8, 10]), ([4, 11], [4, 11]), ([0, 1, 0, 1, 2, 3, 4, 5, 6, 7, 8, 9, 10, 11, 12], [0, 1]), ([13, 0, 1, 2, 3, 4, 5, 6, 7, 8, 9, 10, 11, 12], [13]), ([14, 12, 0, 1, 2, 3, 4, 5, 6, 7, 8, 9, 10, 11, 12], [12, 14])])
def b_grams.B9 : List Nat := [0, 0, 3, 7, 15, 0, 0, 96, 224, 0, 512, 2016, 4095, 8191, 16383, 32767]
theorem b_grams.tab9 : rtab .any (opsOf Tryz.f204 9) = b_grams.T9 := by kernel_rfl
theorem b_grams.bits9 : waitsOk b_grams.T9.2 b_grams.B9 = true := by kernel_rfl
theorem b_grams.calls (k : Nat) (A0_0 : Option Addr) (c0_0 : Nat) (l0_0 : List ByteArray) (A0_1 : Option Addr) (c0_1 : Nat) (l0_1 : List (S70)) (A0_2 : Option Addr) (c0_2 : Nat) (l0_2 : List (S27)) (A0_3 : Option Addr) (c0_3 : Nat) (l0_3 : List (S89)) (a0_4 : Int) (a0_5 : Int) (a0_6 : Int) (A1 : Option Addr) (c1 : Nat) (l1 : List Int) (r : List (S27)) (w : World) (hr0_0 : Kd.C Kd.string w A0_0 l0_0.length l0_0) (hc0_0 : l0_0.length ≤ c0_0) (hr0_1 : Kd.C k70 w A0_1 l0_1.length l0_1) (hc0_1 : l0_1.length ≤ c0_1) (hr0_2 : Kd.C k27 w A0_2 l0_2.length l0_2) (hc0_2 : l0_2.length ≤ c0_2) (hr0_3 : Kd.C k89 w A0_3 l0_3.length l0_3) (hc0_3 : l0_3.length ≤ c0_3) (hr1 : Kd.C (Kd.int .i64) w A1 l1.length l1) (hc1 : l1.length ≤ c1) (h : b_grams.f k l0_0 l0_1 l0_2 l0_3 a0_4 a0_5 a0_6 l1 = some r) :
  Calls Tryz.prog 204 #[.agg #[.slice A0_0 l0_0.length c0_0, .slice A0_1 l0_1.length c0_1, .slice A0_2 l0_2.length c0_2, .slice A0_3 l0_3.length c0_3, .int .i64 a0_4, .int .i64 a0_5, .int .i64 a0_6], .slice A1 l1.length c1] w fun e w' => ∃ v0_ : Value, e = .returned (v0_) ∧ Kd.R k27 27 w' w.heap.size (fun _ => True) v0_ r ∧ Below w.heap.size w w' := by
 have hu29 := Tryz.underlying29; have hu70 := Tryz.underlying70; have hu27 := Tryz.underlying27; have HR0_0 := Sd.mk hr0_0; have HC0_0 := Sd.mk hc0_0; clear hr0_0 hc0_0; have HR0_1 := Sd.mk hr0_1; have HC0_1 := Sd.mk hc0_1; clear hr0_1 hc0_1; have HR0_2 := Sd.mk hr0_2; have HC0_2 := Sd.mk hc0_2; clear hr0_2 hc0_2; have HR0_3 := Sd.mk hr0_3; have HC0_3 := Sd.mk hc0_3; clear hr0_3 hc0_3; have HR1 := Sd.mk hr1; have HC1 := Sd.mk hc1; clear hr1 hc1; have HB := Sd.mk (Below.refl w.heap.size w)
 have H : (if 0 ≤ (l0_0.length : Int) then (if ((l0_0.length : Int) : Int).toNat ≤ 17592186044416 then (b_grams.l0 k l1 (List.replicate ((l0_0.length : Int) : Int).toNat z27) l0_1 (l0_1.length : Int) 0) else (none)) else (none)) = some r := h
 clear h
 by_cases c3 : 0 ≤ (l0_0.length : Int)
 ·rw [if_pos c3] at H
  have c3b0 := eq_true c3
  have c3b1 : decide (0 ≤ (l0_0.length : Int)) = true := decide_eq_true c3
  clear c3
  by_cases c4 : ((l0_0.length : Int) : Int).toNat ≤ 17592186044416
  ·rw [if_pos c4] at H
   have c4b0 := eq_true c4
   have c4b1 : decide (((l0_0.length : Int) : Int).toNat ≤ 17592186044416) = true := decide_eq_true c4
   clear c4
   obtain ⟨y153, hy153⟩ : ∃ y_ : List (S27), y_ = (List.replicate ((l0_0.length : Int) : Int).toNat z27) := ⟨_, rfl⟩
   replace H : (b_grams.l0 k l1 y153 l0_1 (l0_1.length : Int) 0) = some r := by first | (rw [hy153]; with_reducible exact H) | (have H2_ := (Option.bind_some _ _).symm.trans H; rw [hy153]; with_reducible exact H2_) | (have H2_ := (Option.bind_some _ _).symm.trans H; with_reducible exact H2_) | with_reducible exact H | (rw [hy153]; exact H) | exact H
   have Ny153 := Sd.mk hy153; clear hy153; have H' := Sd.mk H; clear H
   go_enter Tryz.func204, Tryz.ntmps204
   go_wp2_with (first | ((with_reducible refine gate_dst (N := 2) rfl ?_); refine box_event ?hg (N := 2) ?hd (cs := #[.slice A0_0 l0_0.length c0_0, .slice A0_1 l0_1.length c0_1, .slice A0_2 l0_2.length c0_2, .slice A0_3 l0_3.length c0_3, .int .i64 a0_4, .int .i64 a0_5, .int .i64 a0_6]) (t := 29) ?hr ?_; (case hd => rfl); (case hg => rfl); (case hr => exact tG); intro gb152 hg w5 hbox hb; have BK152 := Sd.mk (hbox); have GW152 := Sd.mk (bSz hg (bBl HB.out)); have GE152 := Sd.mk (bSz hg (bBl HB.out)); replace HB := Sd.mk (below_step (bBl HB.out) hb); clear hb hbox hg; obtain ⟨u6_0, u6_1, u6_2, u6_3, u6_4, u6_5, u6_6, o6_0, o6_1, o6_2, o6_3, o6_4, o6_5, o6_6⟩ := bc7 (w := w5) BK152.out) | ((with_reducible refine gate_dst (N := 13) rfl ?_); refine Kd.R_make k27 _ 27 rfl (N := 13) rfl 24 _ _ rfl (l0_0.length : Int) rfl rfl Tryz.underlying24 (.agg #[(.int .i64 0), (.int .i64 0)]) 16 info27 rfl (by decide) (by omega) z27 (ok := fun _ => True) (okp := fun _ => True) (k27_mkM _ _ _ z27 ) (fun _ hk => hk) trivial (tB) (Nat.le_trans (Nat.mul_le_mul_right _ (tB : (l0_0.length : Int).toNat ≤ 17592186044416)) (by omega)) (Below.refl _ _) (Nat.le_refl _) ?_; intro v154 w7 ho8 hb hg_ hnew_; clear hg_ hnew_; (first | rw [← Ny153.out] at ho8 | (simp only [Int.reduceToNat] at ho8; rw [← Ny153.out] at ho8)); have HO155 := Sd.mk (Kd.R_lower ho8 (below_size (bBl HB.out))); replace BK152 := Sd.mk (blk_below (bkA BK152.out) hb); replace HB := Sd.mk (below_step (bBl HB.out) hb); clear hb ho8; obtain ⟨u9_0, u9_1, u9_2, u9_3, u9_4, u9_5, u9_6, o9_0, o9_1, o9_2, o9_3, o9_4, o9_5, o9_6⟩ := bc7 (w := w7) BK152.out))
   go_loopg [17] k (fun kq v17 w' => ∃ (x5_1 : List (S27)) (x17_1 : Int), v17 = .int .i64 x17_1 ∧ Sd (b_grams.l0 kq l1 x5_1 l0_1 (l0_1.length : Int) x17_1 = some r) ∧ Sd (kq ≤ k) ∧ Sd (Kd.R k27 27 w' w.heap.size (fun _ => True) v154 x5_1) ∧ Sd (w'.heap[gb152]? = some (.cells #[(.slice A0_0 l0_0.length c0_0), (.slice A0_1 l0_1.length c0_1), (.slice A0_2 l0_2.length c0_2), (.slice A0_3 l0_3.length c0_3), .int .i64 a0_4, .int .i64 a0_5, .int .i64 a0_6] 29 (0, 0))) ∧ Sd (Below w.heap.size w w'))
   case atStart => exact ⟨(y153), (0), tS, H', ⟨Nat.le_refl _⟩, ⟨by (with_reducible repeat (first | apply Kd.R_alloc | apply Kd.R_drewN | apply Kd.R_drew)); exact HO155.out⟩, ⟨bkA BK152.out⟩, ⟨bBl HB.out⟩⟩
   case round =>
    clear H'; (try clear c1); (try clear c2); (try clear p2); (try clear c3); (try clear c3b0); (try clear c3b1); (try clear c4); (try clear c4b0); (try clear c4b1); (try clear u6_0 u6_1 u6_2 u6_3 u6_4 u6_5 u6_6); (try clear u9_0 u9_1 u9_2 u9_3 u9_4 u9_5 u9_6); (try clear o6_0 o6_1 o6_2 o6_3 o6_4 o6_5 o6_6); (try clear o9_0 o9_1 o9_2 o9_3 o9_4 o9_5 o9_6); obtain ⟨x5_1, x17_1, rfl, HA, HK1, HO_5, BK152, HB⟩ := hrel
    cases gk with
    | zero => exact absurd HA.out (by simp [b_grams.l0])
    | succ k1 =>
     have H := HA.out; clear HA
     simp only [b_grams.l0] at H
     by_cases c10 : x17_1 < (l0_1.length : Int)
     ·rw [if_pos c10] at H
      have c10b0 : decide (x17_1 < (l0_1.length : Int)) = true := decide_eq_true c10
      clear c10
      by_cases c11 : 0 ≤ x17_1
      ·rw [if_pos c11] at H
       have c11b0 : decide (0 ≤ x17_1) = true := decide_eq_true c11
       clear c11
       by_cases c12 : x17_1 < (l0_1.length : Int)
       ·rw [if_pos c12] at H
        have c12b0 : decide (x17_1 < (l0_1.length : Int)) = true := decide_eq_true c12
        clear c12; have H' := Sd.mk H; clear H
        have p156 : 0 ≤ (x17_1 : Int) := tB
        have q156 : x17_1 < (l0_1.length : Int) := tB
        obtain ⟨ad156, A156_6, c156_6, e156, hx156_0, hx156_1, hx156_2, hx156_3, hx156_4, hx156_5, hx156_6, hl156_6, hi156_6⟩ := at_T70 HR0_1.out x17_1 p156 q156; cases e156; replace hx156_0 := cU HB hx156_0; replace hx156_1 := cU HB hx156_1; replace hx156_2 := cU HB hx156_2; replace hx156_3 := cU HB hx156_3; replace hx156_4 := cU HB hx156_4; replace hx156_5 := cU HB hx156_5; replace hx156_6 := cU HB hx156_6; have HR156_6 := Sd.mk hi156_6; have HC156_6 := Sd.mk hl156_6; clear hi156_6 hl156_6; replace p156 := eq_true p156; replace q156 := eq_true q156
        go_wp2_with (first | ((with_reducible refine gate_dst (N := 7) rfl ?_); refine box_event ?hg (N := 7) ?hd (cs := #[.string (⟨#[]⟩ : ByteArray), .int .i64 0, .int .i64 0, .int .i64 0, .int .i64 0, .int .i64 0, .slice none 0 0]) (t := 70) ?hr ?_; (case hd => rfl); (case hg => rfl); (case hr => exact tG); intro gb157 hg w13 hbox hb; replace HO_5 := Sd.mk (Kd.R_below (by (with_reducible repeat (first | apply Kd.R_alloc | apply Kd.R_drewN | apply Kd.R_drew)); exact HO_5.out) hb); have BK157 := Sd.mk (hbox); have GW157 := Sd.mk (bSz hg (bBl HB.out)); have GE157 := Sd.mk (bSz hg (bBl HB.out)); replace HB := Sd.mk (below_step (bBl HB.out) hb); have NB152_157 := Sd.mk (bNl hg (bkA BK152.out)); have NB157_152 := Sd.mk (bNg hg (bkA BK152.out)); replace BK152 := Sd.mk (blk_below (bkA BK152.out) hb); clear hb hbox hg; have hnb14 := NB157_152.out; have hnc14 := NB152_157.out; obtain ⟨u15_0, u15_1, u15_2, u15_3, u15_4, u15_5, u15_6, o15_0, o15_1, o15_2, o15_3, o15_4, o15_5, o15_6⟩ := bc7 (w := w13) BK157.out))
        go_loopg [25] k1 (fun kq v25 w' => ∃ (x5_2 : List (S27)) (x25_2 : Int), v25 = .int .i64 x25_2 ∧ Sd (b_grams.l1 kq l1 x5_2 x17_1 l0_1 (l0_1.length : Int) x17_1 ((rd_T70 l0_1 x17_1).f6) (((rd_T70 l0_1 x17_1).f6).length : Int) x25_2 = some r) ∧ Sd (kq ≤ k1) ∧ Sd (Kd.R k27 27 w' w.heap.size (fun _ => True) v154 x5_2) ∧ Sd (w'.heap[gb152]? = some (.cells #[(.slice A0_0 l0_0.length c0_0), (.slice (some ad156) l0_1.length c0_1), (.slice A0_2 l0_2.length c0_2), (.slice A0_3 l0_3.length c0_3), .int .i64 a0_4, .int .i64 a0_5, .int .i64 a0_6] 29 (0, 0))) ∧ Sd (w'.heap[gb157]? = some (.cells #[.string ((rd_T70 l0_1 x17_1).f0), .int .i64 ((rd_T70 l0_1 x17_1).f1), .int .i64 ((rd_T70 l0_1 x17_1).f2), .int .i64 ((rd_T70 l0_1 x17_1).f3), .int .i64 ((rd_T70 l0_1 x17_1).f4), .int .i64 ((rd_T70 l0_1 x17_1).f5), (.slice A156_6 ((rd_T70 l0_1 x17_1).f6).length c156_6)] 70 (0, 0))) ∧ Sd (Below w.heap.size w w'))
        case atStart => exact ⟨(x5_1), (0), tS, H', ⟨Nat.le_refl _⟩, ⟨by (with_reducible repeat (first | apply Kd.R_alloc | apply Kd.R_drewN | apply Kd.R_drew)); exact Kd.R_mono (Kd.R_far (p := ⟨gb157, 6, none⟩) (Kd.R_far (p := ⟨gb157, 5, none⟩) (Kd.R_far (p := ⟨gb157, 4, none⟩) (Kd.R_far (p := ⟨gb157, 3, none⟩) (Kd.R_far (p := ⟨gb157, 2, none⟩) (Kd.R_far (p := ⟨gb157, 1, none⟩) (Kd.R_far (p := ⟨gb157, 0, none⟩) (Kd.R_types HO_5.out BK157.out (by decide)) (fun _ hk => hk.2) (.string ((rd_T70 l0_1 x17_1).f0))) (fun _ hk => hk.2) (.int .i64 ((rd_T70 l0_1 x17_1).f1))) (fun _ hk => hk.2) (.int .i64 ((rd_T70 l0_1 x17_1).f2))) (fun _ hk => hk.2) (.int .i64 ((rd_T70 l0_1 x17_1).f3))) (fun _ hk => hk.2) (.int .i64 ((rd_T70 l0_1 x17_1).f4))) (fun _ hk => hk.2) (.int .i64 ((rd_T70 l0_1 x17_1).f5))) (fun _ hk => hk.2) (.slice A156_6 ((rd_T70 l0_1 x17_1).f6).length c156_6)) (fun _ hk => trivial)⟩, ⟨by refine bkZ ?_; refine blk_far ?_ NB152_157.out _; refine bkZ ?_; refine blk_far ?_ NB152_157.out _; refine bkZ ?_; refine blk_far ?_ NB152_157.out _; refine bkZ ?_; refine blk_far ?_ NB152_157.out _; refine bkZ ?_; refine blk_far ?_ NB152_157.out _; refine bkZ ?_; refine blk_far ?_ NB152_157.out _; refine bkZ ?_; refine blk_far ?_ NB152_157.out _; refine bkZ ?_; exact BK152.out⟩, ⟨by refine bkZ ?_; refine blk_put (cs := #[.string ((rd_T70 l0_1 x17_1).f0), .int .i64 ((rd_T70 l0_1 x17_1).f1), .int .i64 ((rd_T70 l0_1 x17_1).f2), .int .i64 ((rd_T70 l0_1 x17_1).f3), .int .i64 ((rd_T70 l0_1 x17_1).f4), .int .i64 ((rd_T70 l0_1 x17_1).f5), .slice none 0 0]) ?_ 6 _ rfl; refine bkZ ?_; refine blk_put (cs := #[.string ((rd_T70 l0_1 x17_1).f0), .int .i64 ((rd_T70 l0_1 x17_1).f1), .int .i64 ((rd_T70 l0_1 x17_1).f2), .int .i64 ((rd_T70 l0_1 x17_1).f3), .int .i64 ((rd_T70 l0_1 x17_1).f4), .int .i64 0, .slice none 0 0]) ?_ 5 _ rfl; refine bkZ ?_; refine blk_put (cs := #[.string ((rd_T70 l0_1 x17_1).f0), .int .i64 ((rd_T70 l0_1 x17_1).f1), .int .i64 ((rd_T70 l0_1 x17_1).f2), .int .i64 ((rd_T70 l0_1 x17_1).f3), .int .i64 0, .int .i64 0, .slice none 0 0]) ?_ 4 _ rfl; refine bkZ ?_; refine blk_put (cs := #[.string ((rd_T70 l0_1 x17_1).f0), .int .i64 ((rd_T70 l0_1 x17_1).f1), .int .i64 ((rd_T70 l0_1 x17_1).f2), .int .i64 0, .int .i64 0, .int .i64 0, .slice none 0 0]) ?_ 3 _ rfl; refine bkZ ?_; refine blk_put (cs := #[.string ((rd_T70 l0_1 x17_1).f0), .int .i64 ((rd_T70 l0_1 x17_1).f1), .int .i64 0, .int .i64 0, .int .i64 0, .int .i64 0, .slice none 0 0]) ?_ 2 _ rfl; refine bkZ ?_; refine blk_put (cs := #[.string ((rd_T70 l0_1 x17_1).f0), .int .i64 0, .int .i64 0, .int .i64 0, .int .i64 0, .int .i64 0, .slice none 0 0]) ?_ 1 _ rfl; refine bkZ ?_; refine blk_put (cs := #[.string (⟨#[]⟩ : ByteArray), .int .i64 0, .int .i64 0, .int .i64 0, .int .i64 0, .int .i64 0, .slice none 0 0]) ?_ 0 _ rfl; refine bkZ ?_; exact BK157.out⟩, ⟨bBl HB.out⟩⟩
        case round =>
         clear H'; (try clear c1); (try clear p1); (try clear q1); (try clear hx1); (try clear c2); (try clear p2 p2); (try clear c3); (try clear c3b0); (try clear c3b1); (try clear c4); (try clear c4b0); (try clear c4b1); (try clear c10); (try clear c10b0); (try clear c11); (try clear c11b0); (try clear c12); (try clear c12b0); (try clear c14); (try clear c15); (try clear p15); (try clear q15); (try clear hx15); (try clear u15_0 u15_1 u15_2 u15_3 u15_4 u15_5 u15_6); (try clear u6_0 u6_1 u6_2 u6_3 u6_4 u6_5 u6_6); (try clear u9_0 u9_1 u9_2 u9_3 u9_4 u9_5 u9_6); (try clear o15_0 o15_1 o15_2 o15_3 o15_4 o15_5 o15_6); (try clear o6_0 o6_1 o6_2 o6_3 o6_4 o6_5 o6_6); (try clear o9_0 o9_1 o9_2 o9_3 o9_4 o9_5 o9_6); (try clear hx156_0); (try clear hx156_1); (try clear hx156_2); (try clear hx156_3); (try clear hx156_4); (try clear hx156_5); (try clear hx156_6); (try clear p156); (try clear q156); obtain ⟨x5_2, x25_2, rfl, HA, HK2, HO_5, BK152, BK157, HB⟩ := hrel
         cases gk with
         | zero => exact absurd HA.out (by simp [b_grams.l1])
         | succ k2 =>
          have H := HA.out; clear HA
          simp only [b_grams.l1] at H
          by_cases c16 : x25_2 < (((rd_T70 l0_1 x17_1).f6).length : Int)
          ·rw [if_pos c16] at H
           have c16b0 : decide (x25_2 < (((rd_T70 l0_1 x17_1).f6).length : Int)) = true := decide_eq_true c16
           clear c16
           by_cases c17 : 0 ≤ x25_2
           ·rw [if_pos c17] at H
            have c17b0 : decide (0 ≤ x25_2) = true := decide_eq_true c17
            clear c17
            by_cases c18 : x25_2 < (((rd_T70 l0_1 x17_1).f6).length : Int)
            ·rw [if_pos c18] at H
             have c18b0 : decide (x25_2 < (((rd_T70 l0_1 x17_1).f6).length : Int)) = true := decide_eq_true c18
             clear c18
             by_cases c19 : x25_2 < (x5_2.length : Int)
             ·rw [if_pos c19] at H
              have c19b0 : decide (x25_2 < (x5_2.length : Int)) = true := decide_eq_true c19
              clear c19
              by_cases c20 : 0 ≤ x17_1
              ·rw [if_pos c20] at H
               have c20b0 : decide (0 ≤ x17_1) = true := decide_eq_true c20
               clear c20
               by_cases c21 : x17_1 < (l1.length : Int)
               ·rw [if_pos c21] at H
                have c21b0 : decide (x17_1 < (l1.length : Int)) = true := decide_eq_true c21
                clear c21
                obtain ⟨y162, hy162⟩ : ∃ y_ : List (S27), y_ = (x5_2.set (x25_2 : Int).toNat (⟨wrap64 (((rd_T27 x5_2 x25_2).f0) + (wrap64 ((rd l1 x17_1) * ((rd_T27 ((rd_T70 l0_1 x17_1).f6) x25_2).f0)))), (rd_T27 x5_2 x25_2).f1⟩ : S27)) := ⟨_, rfl⟩
                replace H : (b_grams.l1 k2 l1 (y162.set (x25_2 : Int).toNat (⟨(rd_T27 y162 x25_2).f0, wrap64 (((rd_T27 y162 x25_2).f1) + (wrap64 ((rd l1 x17_1) * ((rd_T27 ((rd_T70 l0_1 x17_1).f6) x25_2).f1))))⟩ : S27)) x17_1 l0_1 (l0_1.length : Int) x17_1 ((rd_T70 l0_1 x17_1).f6) (((rd_T70 l0_1 x17_1).f6).length : Int) (wrap64 (x25_2 + 1))) = some r := by first | (rw [hy162]; with_reducible exact H) | (have H2_ := (Option.bind_some _ _).symm.trans H; rw [hy162]; with_reducible exact H2_) | (have H2_ := (Option.bind_some _ _).symm.trans H; with_reducible exact H2_) | with_reducible exact H | (rw [hy162]; exact H) | exact H
                have Ny162 := Sd.mk hy162; clear hy162
                obtain ⟨y165, hy165⟩ : ∃ y_ : List (S27), y_ = (y162.set (x25_2 : Int).toNat (⟨(rd_T27 y162 x25_2).f0, wrap64 (((rd_T27 y162 x25_2).f1) + (wrap64 ((rd l1 x17_1) * ((rd_T27 ((rd_T70 l0_1 x17_1).f6) x25_2).f1))))⟩ : S27)) := ⟨_, rfl⟩
                replace H : (b_grams.l1 k2 l1 y165 x17_1 l0_1 (l0_1.length : Int) x17_1 ((rd_T70 l0_1 x17_1).f6) (((rd_T70 l0_1 x17_1).f6).length : Int) (wrap64 (x25_2 + 1))) = some r := by first | (rw [hy165]; with_reducible exact H) | (have H2_ := (Option.bind_some _ _).symm.trans H; rw [hy165]; with_reducible exact H2_) | (have H2_ := (Option.bind_some _ _).symm.trans H; with_reducible exact H2_) | with_reducible exact H | (rw [hy165]; exact H) | exact H
                have Ny165 := Sd.mk hy165; clear hy165; have H' := Sd.mk H; clear H
                have p158 : 0 ≤ (x25_2 : Int) := tB
                have q158 : x25_2 < (((rd_T70 l0_1 x17_1).f6).length : Int) := tB
                obtain ⟨ad158, e158, hx158_0, hx158_1⟩ := at_T27 HR156_6.out x25_2 p158 q158; cases e158; replace hx158_0 := cU HB hx158_0; replace hx158_1 := cU HB hx158_1; replace p158 := eq_true p158; replace q158 := eq_true q158
                try go_wp2_with (first | ((with_reducible refine gate_dst (N := 9) rfl ?_); refine box_event ?hg (N := 9) ?hd (cs := #[.int .i64 0, .int .i64 0]) (t := 27) ?hr ?_; (case hd => rfl); (case hg => rfl); (case hr => exact tG); intro gb159 hg w24 hbox hb; replace HO_5 := Sd.mk (Kd.R_below (Kd.R_elderB (by (with_reducible repeat (first | apply Kd.R_alloc | apply Kd.R_drewN | apply Kd.R_drew)); exact HO_5.out) gb159 (Nat.le_of_eq hg.symm)) hb); have BK159 := Sd.mk (hbox); have GW159 := Sd.mk (bSz hg (bBl HB.out)); have GE159 := Sd.mk (bSz hg (bBl HB.out)); replace HB := Sd.mk (below_step (bBl HB.out) hb); have NB152_159 := Sd.mk (bNl hg (bkA BK152.out)); have NB159_152 := Sd.mk (bNg hg (bkA BK152.out)); replace BK152 := Sd.mk (blk_below (bkA BK152.out) hb); have NB157_159 := Sd.mk (bNl hg (bkA BK157.out)); have NB159_157 := Sd.mk (bNg hg (bkA BK157.out)); replace BK157 := Sd.mk (blk_below (bkA BK157.out) hb); clear hb hbox hg; have hnb25 := NB159_152.out; have hnc25 := NB152_159.out; have hnb26 := NB159_157.out; have hnc26 := NB157_159.out; obtain ⟨u27_0, u27_1, o27_0, o27_1⟩ := bc2 (w := w24) BK159.out))
                have n0_ : Sd (Kd.R k27 27 ((w24.setCell ⟨gb159, 0, none⟩ (.int .i64 ((rd_T27 ((rd_T70 l0_1 x17_1).f6) x25_2).f0))).setCell ⟨gb159, 1, none⟩ (.int .i64 ((rd_T27 ((rd_T70 l0_1 x17_1).f6) x25_2).f1))) w.heap.size (fun k_ => k_ ≠ gb159) v154 x5_2) := ⟨by (with_reducible repeat (first | apply Kd.R_alloc | apply Kd.R_drewN | apply Kd.R_drew)); exact Kd.R_mono (Kd.R_far (p := ⟨gb159, 1, none⟩) (Kd.R_far (p := ⟨gb159, 0, none⟩) (Kd.R_mono HO_5.out (fun k_ hk => (⟨hk, hk.2⟩ : _ ∧ k_ ≠ gb159))) (fun _ hk => hk.2) (.int .i64 ((rd_T27 ((rd_T70 l0_1 x17_1).f6) x25_2).f0))) (fun _ hk => hk.2) (.int .i64 ((rd_T27 ((rd_T70 l0_1 x17_1).f6) x25_2).f1))) (fun _ hk => hk.1.2)⟩
                have n1_ : Sd (((w24.setCell ⟨gb159, 0, none⟩ (.int .i64 ((rd_T27 ((rd_T70 l0_1 x17_1).f6) x25_2).f0))).setCell ⟨gb159, 1, none⟩ (.int .i64 ((rd_T27 ((rd_T70 l0_1 x17_1).f6) x25_2).f1))).heap[gb152]? = some (.cells #[.slice A0_0 l0_0.length c0_0, .slice (some ad156) l0_1.length c0_1, .slice A0_2 l0_2.length c0_2, .slice A0_3 l0_3.length c0_3, .int .i64 a0_4, .int .i64 a0_5, .int .i64 a0_6] 29 (0, 0))) := ⟨by refine bkZ ?_; refine blk_far ?_ NB152_159.out _; refine bkZ ?_; refine blk_far ?_ NB152_159.out _; refine bkZ ?_; exact BK152.out⟩
                have n2_ : Sd (((w24.setCell ⟨gb159, 0, none⟩ (.int .i64 ((rd_T27 ((rd_T70 l0_1 x17_1).f6) x25_2).f0))).setCell ⟨gb159, 1, none⟩ (.int .i64 ((rd_T27 ((rd_T70 l0_1 x17_1).f6) x25_2).f1))).heap[gb157]? = some (.cells #[.string ((rd_T70 l0_1 x17_1).f0), .int .i64 ((rd_T70 l0_1 x17_1).f1), .int .i64 ((rd_T70 l0_1 x17_1).f2), .int .i64 ((rd_T70 l0_1 x17_1).f3), .int .i64 ((rd_T70 l0_1 x17_1).f4), .int .i64 ((rd_T70 l0_1 x17_1).f5), .slice (some ad158) ((rd_T70 l0_1 x17_1).f6).length c156_6] 70 (0, 0))) := ⟨by refine bkZ ?_; refine blk_far ?_ NB157_159.out _; refine bkZ ?_; refine blk_far ?_ NB157_159.out _; refine bkZ ?_; exact BK157.out⟩
                have n3_ : Sd (((w24.setCell ⟨gb159, 0, none⟩ (.int .i64 ((rd_T27 ((rd_T70 l0_1 x17_1).f6) x25_2).f0))).setCell ⟨gb159, 1, none⟩ (.int .i64 ((rd_T27 ((rd_T70 l0_1 x17_1).f6) x25_2).f1))).heap[gb159]? = some (.cells #[.int .i64 ((rd_T27 ((rd_T70 l0_1 x17_1).f6) x25_2).f0), .int .i64 ((rd_T27 ((rd_T70 l0_1 x17_1).f6) x25_2).f1)] 27 (0, 0))) := ⟨by refine bkZ ?_; refine blk_put (cs := #[.int .i64 ((rd_T27 ((rd_T70 l0_1 x17_1).f6) x25_2).f0), .int .i64 0]) ?_ 1 _ rfl; refine bkZ ?_; refine blk_put (cs := #[.int .i64 0, .int .i64 0]) ?_ 0 _ rfl; refine bkZ ?_; exact BK159.out⟩
                have n4_ : Sd (Below w.heap.size w ((w24.setCell ⟨gb159, 0, none⟩ (.int .i64 ((rd_T27 ((rd_T70 l0_1 x17_1).f6) x25_2).f0))).setCell ⟨gb159, 1, none⟩ (.int .i64 ((rd_T27 ((rd_T70 l0_1 x17_1).f6) x25_2).f1)))) := ⟨bBl HB.out⟩
                (try clear HO_5)
                (try clear BK152)
                (try clear BK157)
                (try clear BK159)
                (try clear HB)
                generalize ((w24.setCell ⟨gb159, 0, none⟩ (.int .i64 ((rd_T27 ((rd_T70 l0_1 x17_1).f6) x25_2).f0))).setCell ⟨gb159, 1, none⟩ (.int .i64 ((rd_T27 ((rd_T70 l0_1 x17_1).f6) x25_2).f1))) = w28 at n0_ n1_ n2_ n3_ n4_ ⊢
                have HO_5 := n0_; have BK152 := n1_; have BK157 := n2_; have BK159 := n3_; have HB := n4_; clear n0_ n1_ n2_ n3_ n4_; replace HO_5 := Sd.mk (Kd.R_drew HO_5.out); replace BK152 := Sd.mk (blk_drew BK152.out); replace BK157 := Sd.mk (blk_drew BK157.out); replace BK159 := Sd.mk (blk_drew BK159.out); replace HB := Sd.mk (below_drew1 HB.out); obtain ⟨Ao30, co30, eo30⟩ := Kd.R_slice HO_5.out
                (first | subst eo30 | (injection eo30 with f1_ f2_ f3_; have f4_ := f1_.symm; have f5_ := f3_.symm; clear f1_ f2_ f3_; subst f4_; subst f5_))
                have p160 : 0 ≤ (x25_2 : Int) := tB
                have q160 : x25_2 < (x5_2.length : Int) := tB
                obtain ⟨ad160, e160, hx160_0, hx160_1⟩ := at_T27 (Kd.R_reads' HO_5.out).2.2 x25_2 p160 q160; cases e160; replace p160 := eq_true p160; replace q160 := eq_true q160
                have p161 : 0 ≤ (x17_1 : Int) := tB
                have q161 : x17_1 < (l1.length : Int) := tB
                obtain ⟨ad161, e161, hx161_0⟩ := Kd.at_int HR1.out x17_1 p161 q161; have hw161_0 := hx161_0; cases e161; replace hx161_0 := cU HB hx161_0; replace p161 := eq_true p161; replace q161 := eq_true q161
                have p22 : 0 ≤ (x25_2 : Int) := tB
                have q22 : (x25_2 : Int) < ((x5_2.length : Int) : Int) := tB
                obtain ⟨go22, co22, eo22, gb22, gl22, cl22, HG22⟩ := Kd.R_form HO_5.out (by omega)
                (first | cases eo22 | (injection eo22 with ea_ en_ ec_; (first | subst ea_ | (injection ea_ with ea_; subst ea_)); subst ec_; clear en_))
                have GB22 := Sd.mk gb22; have GG22 := Sd.mk HG22; clear gb22 gl22 HG22
                (first | simp only [add_plain] at hx160_0 | skip)
                (first | simp only [add_plain] at hx160_1 | skip)
                obtain ⟨ce22, hcl22, hM22, hcc22, hfr22⟩ := Kd.R_elem HO_5.out z27 (x25_2 : Int) p22 q22; obtain rfl := k27_openM hM22
                have hx22_0 : World.cell? _ ⟨go22, (x25_2 : Int).toNat * 2, none⟩ = some (.int .i64 ((rd_T27 x5_2 x25_2).f0)) := hcc22 0 _ rfl
                have hx22_1 : World.cell? _ ⟨go22, (x25_2 : Int).toNat * 2 + 1, none⟩ = some (.int .i64 ((rd_T27 x5_2 x25_2).f1)) := hcc22 1 _ rfl
                have hf22_0 : World.frozen? _ ⟨go22, (x25_2 : Int).toNat * 2, none⟩ = false := hfr22 0
                have hf22_1 : World.frozen? _ ⟨go22, (x25_2 : Int).toNat * 2 + 1, none⟩ = false := hfr22 1
                clear hcl22 hcc22 hfr22 hM22; replace p22 := eq_true p22; replace q22 := eq_true q22
                obtain ⟨ce31, hcl31, hM31, hcc31, hfr31⟩ := Kd.R_elem HO_5.out z27 (x25_2 : Int) (tB) (by have h_ : (x25_2 : Int) < ((x5_2.length : Int) : Int) := tB; first | exact h_ | (have e_ := (Kd.R_reads' HO_5.out).1; omega) | simpa using h_)
                obtain rfl := k27_openM hM31
                have HP31 := (Kd.R_seg HO_5.out (x25_2 : Int) (tB) (by have h_ : (x25_2 : Int) < ((x5_2.length : Int) : Int) := tB; first | exact h_ | (have e_ := (Kd.R_reads' HO_5.out).1; omega) | simpa using h_) (seg := [.int .i64 (wrap64 (((rd_T27 x5_2 x25_2).f0) + (wrap64 ((rd l1 x17_1) * ((rd_T27 ((rd_T70 l0_1 x17_1).f6) x25_2).f0)))))]) (j := 0) hcl31 hcc31 (show 1 ≤ 2 from by decide) (x' := (⟨wrap64 (((rd_T27 x5_2 x25_2).f0) + (wrap64 ((rd l1 x17_1) * ((rd_T27 ((rd_T70 l0_1 x17_1).f6) x25_2).f0)))), (rd_T27 x5_2 x25_2).f1⟩ : S27)) (k27_mkM _ _ _ (⟨wrap64 (((rd_T27 x5_2 x25_2).f0) + (wrap64 ((rd l1 x17_1) * ((rd_T27 ((rd_T70 l0_1 x17_1).f6) x25_2).f0)))), (rd_T27 x5_2 x25_2).f1⟩ : S27) ) (fun _ hk => hk)).1
                rw [← Ny162.out] at HP31
                have HQ31 := Sd.mk HP31; clear hcl31 hcc31 hfr31 hM31 HP31
                refine start_ (n := 16) (S := fun w' => w'.cell? ⟨gb159, 0, none⟩ = some (.int .i64 ((rd_T27 ((rd_T70 l0_1 x17_1).f6) x25_2).f0)) ∧ w'.cell? ⟨gb159, 1, none⟩ = some (.int .i64 ((rd_T27 ((rd_T70 l0_1 x17_1).f6) x25_2).f1)) ∧ w'.cell? ⟨go22, ((x25_2).toNat * 2), none⟩ = some (.int .i64 ((rd_T27 x5_2 x25_2).f0)) ∧ w'.cell? ⟨go22, ((x25_2).toNat * 2) + 1, none⟩ = some (.int .i64 ((rd_T27 x5_2 x25_2).f1)) ∧ w'.cell? (ad161.add (x17_1).toNat) = some (.int .i64 (rd l1 x17_1))) (ds := [15]) (bA 16 0) (by kernel_rfl) rfl rfl ⟨(blk_cell BK159.out 0).trans rfl, (blk_cell BK159.out 1).trans rfl, hx160_0, hx160_1, (cU HB hw161_0)⟩ (fun hHeld => ?_); refine with_tabW b_grams.tab8 b_grams.bits8 (fun HT_ HW_ => ?_)
                generalize w28.drew = w29 at HO_5 BK152 BK157 BK159 HB GG22 HQ31 hf22_0 hf22_1 hx160_0 hx160_1 hx161_0 hx22_0 hx22_1 hHeld ⊢
                refine pQ 0 (some 30) (bA 16 1) ?_
                refine pQ 1 (some 31) (bA 16 3) ?_
                refine pQ 2 (some 32) (bA 16 7) ?_
                refine pQ 3 (some 33) (bA 16 15) ?_
                refine pQ 5 (some 35) (bA 16 47) ?_
                refine pQ 6 (some 36) (bA 16 111) ?_
                refine pQ 7 (some 37) (bA 16 239) ?_
                refine pQ 9 (some 39) (bA 16 751) ?_
                refine tQ 4 (some 34) (bA 16 767) ?_
                refine tQ 8 (some 38) (bA 16 1023) ?_
                refine tQ 10 (some 40) (bA 16 2047) ?_
                refine pQ 11 (some 41) (bA 16 4095) ?_
                refine pQ 12 (some 42) (bA 16 8191) ?_
                refine pQ 13 (some 43) (bA 16 16383) ?_
                refine pQ 14 (some 44) (bA 16 32767) ?_
                refine last_ (i := 15) (N := none) (bA 16 65535) rfl rfl (one_of HT_.out (by kernel_rfl)) (by decide) (fun K hK => ?_)
                refine skip_ (w1 := ?_) (by rfl) rfl ?_ ?_
                rotate_left
                ·go_simp
                 rfl
                refine hK.out _ _ ?_
                clear hK K
                refine done_ (done_of HT_.out (by kernel_rfl)) ?_
                try go_wp2
                have n0_ : Sd (Kd.R k27 27 (w29.setCell ⟨go22, (x25_2 : Int).toNat * 2, none⟩ (.int .i64 (wrap64 (((rd_T27 x5_2 x25_2).f0) + (wrap64 ((rd l1 x17_1) * ((rd_T27 ((rd_T70 l0_1 x17_1).f6) x25_2).f0))))))) w.heap.size (fun k_ => k_ ≠ gb159) (.slice (some ⟨go22, 0, none⟩) x5_2.length co30) y162) := ⟨by (with_reducible repeat (first | apply Kd.R_alloc | apply Kd.R_drewN | apply Kd.R_drew)); exact HQ31.out⟩
                have n1_ : Sd ((w29.setCell ⟨go22, (x25_2 : Int).toNat * 2, none⟩ (.int .i64 (wrap64 (((rd_T27 x5_2 x25_2).f0) + (wrap64 ((rd l1 x17_1) * ((rd_T27 ((rd_T70 l0_1 x17_1).f6) x25_2).f0))))))).heap[gb152]? = some (.cells #[.slice A0_0 l0_0.length c0_0, .slice (some ad156) l0_1.length c0_1, .slice A0_2 l0_2.length c0_2, .slice A0_3 l0_3.length c0_3, .int .i64 a0_4, .int .i64 a0_5, .int .i64 a0_6] 29 (0, 0))) := ⟨by refine bkZ ?_; refine blk_far ?_ (by have h_ := Kd.R_ne HO_5.out BK152.out (by decide); intro e_; exact h_ (by rw [e_]; rfl)) _; refine bkZ ?_; exact BK152.out⟩
                have n2_ : Sd ((w29.setCell ⟨go22, (x25_2 : Int).toNat * 2, none⟩ (.int .i64 (wrap64 (((rd_T27 x5_2 x25_2).f0) + (wrap64 ((rd l1 x17_1) * ((rd_T27 ((rd_T70 l0_1 x17_1).f6) x25_2).f0))))))).heap[gb157]? = some (.cells #[.string ((rd_T70 l0_1 x17_1).f0), .int .i64 ((rd_T70 l0_1 x17_1).f1), .int .i64 ((rd_T70 l0_1 x17_1).f2), .int .i64 ((rd_T70 l0_1 x17_1).f3), .int .i64 ((rd_T70 l0_1 x17_1).f4), .int .i64 ((rd_T70 l0_1 x17_1).f5), .slice (some ad158) ((rd_T70 l0_1 x17_1).f6).length c156_6] 70 (0, 0))) := ⟨by refine bkZ ?_; refine blk_far ?_ (by have h_ := Kd.R_ne HO_5.out BK157.out (by decide); intro e_; exact h_ (by rw [e_]; rfl)) _; refine bkZ ?_; exact BK157.out⟩
                have n3_ : Sd ((w29.setCell ⟨go22, (x25_2 : Int).toNat * 2, none⟩ (.int .i64 (wrap64 (((rd_T27 x5_2 x25_2).f0) + (wrap64 ((rd l1 x17_1) * ((rd_T27 ((rd_T70 l0_1 x17_1).f6) x25_2).f0))))))).heap[gb159]? = some (.cells #[.int .i64 ((rd_T27 ((rd_T70 l0_1 x17_1).f6) x25_2).f0), .int .i64 ((rd_T27 ((rd_T70 l0_1 x17_1).f6) x25_2).f1)] 27 (0, 0))) := ⟨by refine bkZ ?_; refine blk_far ?_ (by have h_ := Kd.R_away HO_5.out (fun _ hk => hk); intro e_; exact h_ (by rw [e_]; rfl)) _; refine bkZ ?_; exact BK159.out⟩
                have n4_ : Sd (Below w.heap.size w (w29.setCell ⟨go22, (x25_2 : Int).toNat * 2, none⟩ (.int .i64 (wrap64 (((rd_T27 x5_2 x25_2).f0) + (wrap64 ((rd l1 x17_1) * ((rd_T27 ((rd_T70 l0_1 x17_1).f6) x25_2).f0)))))))) := ⟨bBl HB.out⟩
                (try clear HO_5)
                (try clear BK152)
                (try clear BK157)
                (try clear BK159)
                (try clear HB)
                generalize (w29.setCell ⟨go22, (x25_2 : Int).toNat * 2, none⟩ (.int .i64 (wrap64 (((rd_T27 x5_2 x25_2).f0) + (wrap64 ((rd l1 x17_1) * ((rd_T27 ((rd_T70 l0_1 x17_1).f6) x25_2).f0))))))) = w32 at n0_ n1_ n2_ n3_ n4_ ⊢
                have HO_5 := n0_; have BK152 := n1_; have BK157 := n2_; have BK159 := n3_; have HB := n4_; clear n0_ n1_ n2_ n3_ n4_; replace HO_5 := Sd.mk (Kd.R_drew HO_5.out); replace BK152 := Sd.mk (blk_drew BK152.out); replace BK157 := Sd.mk (blk_drew BK157.out); replace BK159 := Sd.mk (blk_drew BK159.out); replace HB := Sd.mk (below_drew1 HB.out)
                have p163 : 0 ≤ (x25_2 : Int) := tB
                have q163 : x25_2 < (y162.length : Int) := (by have h_ : (x25_2 : Int) < ((x5_2.length : Int) : Int) := tB; first | (have e_ := (Kd.R_reads' HO_5.out).1; omega) | simpa only [Ny162.out, List.length_set] using h_)
                have ql163 : ((x25_2 : Int) < ((x5_2.length : Int) : Int)) = True := eq_true (tB)
                obtain ⟨ad163, e163, hx163_0, hx163_1⟩ := at_T27 (Kd.R_reads' HO_5.out).2.2 x25_2 p163 q163
                obtain rfl : (⟨go22, 0, none⟩ : Addr) = ad163 := (by injection e163)
                (first | simp only [add_plain] at hx163_0 | simp only [add_at] at hx163_0 | simp only [Addr.add, Nat.zero_add] at hx163_0 | skip)
                (first | simp only [add_plain] at hx163_1 | simp only [add_at] at hx163_1 | simp only [Addr.add, Nat.zero_add] at hx163_1 | skip)
                replace p163 := eq_true p163; replace q163 := eq_true q163
                have p164 : 0 ≤ (x17_1 : Int) := tB
                have q164 : x17_1 < (l1.length : Int) := tB
                obtain ⟨ad164, e164, hx164_0⟩ := Kd.at_int HR1.out x17_1 p164 q164; have hw164_0 := hx164_0
                obtain rfl : ad161 = ad164 := (by injection e164)
                replace hx164_0 := cU HB hx164_0; replace p164 := eq_true p164; replace q164 := eq_true q164
                have p23 : 0 ≤ (x25_2 : Int) := tB
                have q23 : (x25_2 : Int) < ((x5_2.length : Int) : Int) := tB
                obtain ⟨ce23, hcl23, hM23, hcc23, hfr23⟩ := Kd.R_elem HO_5.out z27 (x25_2 : Int) p23 q23; obtain rfl := k27_openM hM23
                have hx23_0 : World.cell? _ ⟨go22, (x25_2 : Int).toNat * 2, none⟩ = some (.int .i64 ((rd_T27 y162 x25_2).f0)) := hcc23 0 _ rfl
                have hx23_1 : World.cell? _ ⟨go22, (x25_2 : Int).toNat * 2 + 1, none⟩ = some (.int .i64 ((rd_T27 y162 x25_2).f1)) := hcc23 1 _ rfl
                have hf23_0 : World.frozen? _ ⟨go22, (x25_2 : Int).toNat * 2, none⟩ = false := hfr23 0
                have hf23_1 : World.frozen? _ ⟨go22, (x25_2 : Int).toNat * 2 + 1, none⟩ = false := hfr23 1
                clear hcl23 hcc23 hfr23 hM23; replace p23 := eq_true p23; replace q23 := eq_true q23
                obtain ⟨ce34, hcl34, hM34, hcc34, hfr34⟩ := Kd.R_elem HO_5.out z27 (x25_2 : Int) (tB) (by have h_ : (x25_2 : Int) < ((x5_2.length : Int) : Int) := tB; first | exact h_ | (have e_ := (Kd.R_reads' HO_5.out).1; omega) | simpa using h_)
                obtain rfl := k27_openM hM34
                have HP34 := (Kd.R_seg HO_5.out (x25_2 : Int) (tB) (by have h_ : (x25_2 : Int) < ((x5_2.length : Int) : Int) := tB; first | exact h_ | (have e_ := (Kd.R_reads' HO_5.out).1; omega) | simpa using h_) (seg := [.int .i64 (wrap64 (((rd_T27 y162 x25_2).f1) + (wrap64 ((rd l1 x17_1) * ((rd_T27 ((rd_T70 l0_1 x17_1).f6) x25_2).f1)))))]) (j := 1) hcl34 hcc34 (show 2 ≤ 2 from by decide) (x' := (⟨(rd_T27 y162 x25_2).f0, wrap64 (((rd_T27 y162 x25_2).f1) + (wrap64 ((rd l1 x17_1) * ((rd_T27 ((rd_T70 l0_1 x17_1).f6) x25_2).f1))))⟩ : S27)) (k27_mkM _ _ _ (⟨(rd_T27 y162 x25_2).f0, wrap64 (((rd_T27 y162 x25_2).f1) + (wrap64 ((rd l1 x17_1) * ((rd_T27 ((rd_T70 l0_1 x17_1).f6) x25_2).f1))))⟩ : S27) ) (fun _ hk => hk)).1
                rw [← Ny165.out] at HP34
                have HQ34 := Sd.mk HP34; clear hcl34 hcc34 hfr34 hM34 HP34
                refine start_ (n := 16) (S := fun w' => w'.cell? ⟨gb159, 0, none⟩ = some (.int .i64 ((rd_T27 ((rd_T70 l0_1 x17_1).f6) x25_2).f0)) ∧ w'.cell? ⟨gb159, 1, none⟩ = some (.int .i64 ((rd_T27 ((rd_T70 l0_1 x17_1).f6) x25_2).f1)) ∧ w'.cell? ⟨go22, (x25_2).toNat * 2, none⟩ = some (.int .i64 ((rd_T27 y162 x25_2).f0)) ∧ w'.cell? ⟨go22, (x25_2).toNat * 2 + 1, none⟩ = some (.int .i64 ((rd_T27 y162 x25_2).f1)) ∧ w'.cell? (ad161.add (x17_1).toNat) = some (.int .i64 (rd l1 x17_1))) (ds := [15]) (bA 16 0) (by kernel_rfl) rfl rfl ⟨(blk_cell BK159.out 0).trans rfl, (blk_cell BK159.out 1).trans rfl, hx163_0, hx163_1, (cU HB hw164_0)⟩ (fun hHeld => ?_); refine with_tabW b_grams.tab9 b_grams.bits9 (fun HT_ HW_ => ?_)
                generalize w32.drew = w33 at HO_5 BK152 BK157 BK159 HB HQ31 HQ34 hf23_0 hf23_1 hx163_0 hx163_1 hx164_0 hx23_0 hx23_1 hHeld ⊢
                refine pQ 0 (some 45) (bA 16 1) ?_
                refine pQ 1 (some 46) (bA 16 3) ?_
                refine pQ 2 (some 47) (bA 16 7) ?_
                refine pQ 3 (some 48) (bA 16 15) ?_
                refine pQ 5 (some 50) (bA 16 47) ?_
                refine pQ 6 (some 51) (bA 16 111) ?_
                refine pQ 7 (some 52) (bA 16 239) ?_
                refine pQ 9 (some 54) (bA 16 751) ?_
                refine tQ 4 (some 49) (bA 16 767) ?_
                refine tQ 8 (some 53) (bA 16 1023) ?_
                refine tQ 10 (some 55) (bA 16 2047) ?_
                refine pQ 11 (some 56) (bA 16 4095) ?_
                refine pQ 12 (some 57) (bA 16 8191) ?_
                refine pQ 13 (some 58) (bA 16 16383) ?_
                refine pQ 14 (some 59) (bA 16 32767) ?_
                refine last_ (i := 15) (N := none) (bA 16 65535) rfl rfl (one_of HT_.out (by kernel_rfl)) (by decide) (fun K hK => ?_)
                refine skip_ (w1 := ?_) (by rfl) rfl ?_ ?_
                rotate_left
                ·go_simp
                 rfl
                refine hK.out _ _ ?_
                clear hK K
                refine done_ (done_of HT_.out (by kernel_rfl)) ?_
                try go_wp2
                go_roundg k2
                case measure => have := HK1.out; have := HK2.out; omega
                case rel => exact ⟨(y165), (wrap64 (x25_2 + 1)), tS, H', ⟨by have := HK1.out; have := HK2.out; omega⟩, ⟨by (with_reducible repeat (first | apply Kd.R_alloc | apply Kd.R_drewN | apply Kd.R_drew)); exact Kd.R_mono HQ34.out (fun _ hk => trivial)⟩, ⟨by refine bkZ ?_; refine blk_far ?_ (by have h_ := Kd.R_ne HO_5.out BK152.out (by decide); intro e_; exact h_ (by rw [e_]; rfl)) _; refine bkZ ?_; exact BK152.out⟩, ⟨by refine bkZ ?_; refine blk_far ?_ (by have h_ := Kd.R_ne HO_5.out BK157.out (by decide); intro e_; exact h_ (by rw [e_]; rfl)) _; refine bkZ ?_; exact BK157.out⟩, ⟨bBl HB.out⟩⟩
               ·rw [if_neg c21] at H
                exact absurd H (by simp)
              ·rw [if_neg c20] at H
               exact absurd H (by simp)
             ·rw [if_neg c19] at H
              exact absurd H (by simp)
            ·rw [if_neg c18] at H
             exact absurd H (by simp)
           ·rw [if_neg c17] at H
            exact absurd H (by simp)
          ·rw [if_neg c16] at H
           have c16b0 : decide (x25_2 < (((rd_T70 l0_1 x17_1).f6).length : Int)) = false := decide_eq_false c16
           clear c16; have H' := Sd.mk H; clear H
           go_wp2
           go_roundg k2
           case measure => have := HK1.out; have := HK2.out; omega
           case rel => exact ⟨(x5_2), (wrap64 (x17_1 + 1)), tS, H', ⟨by have := HK1.out; have := HK2.out; omega⟩, ⟨by (with_reducible repeat (first | apply Kd.R_alloc | apply Kd.R_drewN | apply Kd.R_drew)); exact HO_5.out⟩, ⟨bkA BK152.out⟩, ⟨bBl HB.out⟩⟩
       ·rw [if_neg c12] at H
        exact absurd H (by simp)
      ·rw [if_neg c11] at H
       exact absurd H (by simp)
     ·rw [if_neg c10] at H
      have c10b0 : decide (x17_1 < (l0_1.length : Int)) = false := decide_eq_false c10
      clear c10; obtain rfl := Option.some.inj H
      go_wp2
      go_ret
      exact ⟨_, tE, by (with_reducible repeat (first | apply Kd.R_alloc | apply Kd.R_drewN | apply Kd.R_drew)); exact HO_5.out, bBl HB.out⟩
  ·rw [if_neg c4] at H
   exact absurd H (by simp)
 ·rw [if_neg c3] at H
  exact absurd H (by simp)
end
section
end
section
end
section
end
section
def recV (mt : List S70) (r : List Int) : Int := if r.length = mt.length then (if r.any (outside 0 10000) = true then 1 else 0) else 1
section
variable (o : List ByteArray) (mt : List S70) (s : List S27) (p : List S89) (a4 a5 a6 : Int) (r : List Int)
def askV : Int := if checkV o mt s p a4 a5 a6 = 0 then recV mt r else checkV o mt s p a4 a5 a6
theorem basked : Ev (fun k => b_asked.f k o mt s p a4 a5 a6 r) (askV o mt s p a4 a5 a6 r) := by
 unfold b_asked.f askV
 refine Ev.bind (bcheck o mt s p a4 a5 a6) ?_
 by_cases h : checkV o mt s p a4 a5 a6 = 0
 ·simp only [if_pos h, b_checkRecipe.f, x_kilos.f, Option.bind_some]
  unfold recV
  by_cases h1 : r.length = mt.length
  ·simp only [if_pos h1, if_pos (show (r.length : Int) = (mt.length : Int) by omega)]
   by_cases h2 : r.any (outside 0 10000) = true
   ·simp only [if_pos h2, Option.bind_some]; exact Ev.const _
   ·simp only [if_neg h2, Option.bind_some]; exact Ev.const _
  ·simp only [if_neg h1, if_neg (show ¬ (r.length : Int) = (mt.length : Int) by omega), Option.bind_some]; exact Ev.const _
 ·simp only [if_neg h]; exact Ev.const _
end
structure RecOk (mt : List S70) (r : List Int) : Prop where
 len : r.length = mt.length
 kilos : ∀ j : Nat, j < mt.length → 0 ≤ rd r (j : Int) ∧ rd r (j : Int) ≤ 10000
theorem ask_ok {o : List ByteArray} {mt : List S70} {s : List S27} {p : List S89} {a4 a5 a6 : Int} {r : List Int} (h : askV o mt s p a4 a5 a6 r = 0) : BatchOk o mt s p a4 a5 a6 ∧ RecOk mt r := by
 unfold askV at h
 by_cases h1 : checkV o mt s p a4 a5 a6 = 0
 ·rw [if_pos h1] at h
  refine ⟨check_ok h1, ?_⟩
  unfold recV at h
  by_cases h2 : r.length = mt.length
  ·rw [if_pos h2] at h
   by_cases h3 : r.any (outside 0 10000) = true
   ·rw [if_pos h3] at h; omega
   ·refine ⟨h2, fun j hj => ?_⟩
    have hm : rd r (j : Int) ∈ r := by
     have hlt : j < r.length := by omega
     have : rd r (j : Int) = r[j] := by simp [rd, hlt]
     rw [this]; exact List.getElem_mem hlt
    have hn : outside 0 10000 (rd r (j : Int)) = false := by
     cases ho : outside 0 10000 (rd r (j : Int)) with
     | false => rfl
     | true => exact absurd (List.any_eq_true.mpr ⟨_, hm, ho⟩) h3
    simp [outside] at hn; omega
  ·rw [if_neg h2] at h; omega
 ·rw [if_neg h1] at h; exact absurd h h1
section
variable {o : List ByteArray} {mt : List S70} {s : List S27} {p : List S89} {a4 a5 a6 : Int} {r : List Int}
end
end
section
def b_weight.l0 : Nat → List (S27) → Int → Int → Int → Int → Option (Int × Int)
 | 0, _, _, _, _, _ => none
 | k + 1, x6, x7, x8, x173q0, x173q1 => if x8 < x7 then (if 0 ≤ x8 then (if x8 < (x6.length : Int) then (b_weight.l0 k x6 x7 (wrap64 (x8 + 1)) (wrap64 (x173q0 + ((rd_T27 x6 x8).f0))) (wrap64 (x173q1 + ((rd_T27 x6 x8).f1)))) else (none)) else (none)) else (some (x173q0, x173q1))
def b_weight.f (k : Nat) (l0 : List (S27)) : Option (Int × Int) := b_weight.l0 k l0 (l0.length : Int) 0 0 0
theorem b_weight.mono_l : ∀ k, (∀ y0 y1 y2 y3 y4, LeO (b_weight.l0 k y0 y1 y2 y3 y4) (b_weight.l0 (k + 1) y0 y1 y2 y3 y4))
 | 0 => fun _ _ _ _ _ r h => by simp [b_weight.l0] at h
 | k + 1 => by
  have ih0 := b_weight.mono_l k
  ·intro y0 y1 y2 y3 y4
   unfold b_weight.l0
   repeat' first
   | (with_reducible exact ih0 _ _ _ _ _)
   | (with_reducible exact LeO.refl _)
   | (with_reducible exact LeO.none _)
   | (with_reducible refine LeO.ite ?_ ?_)
   | (with_reducible refine LeO.bind ?_ (fun _ => ?_))
   | exact LeO.none _
   | refine LeO.ite ?_ ?_
   | refine LeO.bind ?_ (fun _ => ?_)
theorem b_weight.mono : ∀ a0 k, LeO (b_weight.f k a0) (b_weight.f (k + 1) a0) := by
 intro a0 k
 have ih0 := b_weight.mono_l k
 unfold b_weight.f
 repeat' first
   | (with_reducible exact ih0 _ _ _ _ _)
   | (with_reducible exact LeO.refl _)
   | (with_reducible exact LeO.none _)
   | (with_reducible refine LeO.ite ?_ ?_)
   | (with_reducible refine LeO.bind ?_ (fun _ => ?_))
   | exact LeO.none _
   | refine LeO.ite ?_ ?_
   | refine LeO.bind ?_ (fun _ => ?_)
theorem b_weight.calls (k : Nat) (A0 : Option Addr) (c0 : Nat) (l0 : List (S27)) (r1 : Int) (r2 : Int) (w : World) (hr0 : Kd.C k27 w A0 l0.length l0) (hc0 : l0.length ≤ c0) (h : b_weight.f k l0 = some (r1, r2)) :
  Calls Tryz.prog 163 #[.slice A0 l0.length c0] w fun e w' => e = .returned (.agg #[.int .i64 r1, .int .i64 r2]) ∧ Below w.heap.size w w' := by
 have hu27 := Tryz.underlying27; have HR0 := Sd.mk hr0; have HC0 := Sd.mk hc0; clear hr0 hc0; have HB := Sd.mk (Below.refl w.heap.size w)
 have H : (b_weight.l0 k l0 (l0.length : Int) 0 0 0) = some (r1, r2) := h
 clear h; have H' := Sd.mk H; clear H
 go_enter Tryz.func163, Tryz.ntmps163
 go_wp2_with (first | ((with_reducible refine gate_dst (N := 2) rfl ?_); refine box_event ?hg (N := 2) ?hd (cs := #[.int .i64 0, .int .i64 0]) (t := 27) ?hr ?_; (case hd => rfl); (case hg => rfl); (case hr => exact tG); intro gb171 hg w2 hbox hb; have BK171 := Sd.mk (hbox); have GW171 := Sd.mk (bSz hg (bBl HB.out)); have GE171 := Sd.mk (bSz hg (bBl HB.out)); replace HB := Sd.mk (below_step (bBl HB.out) hb); clear hb hbox hg) | ((with_reducible refine gate_dst (N := 3) rfl ?_); refine box_event ?hg (N := 3) ?hd (cs := #[.int .i64 0, .int .i64 0]) (t := 27) ?hr ?_; (case hd => rfl); (case hg => rfl); (case hr => exact tG); intro gb172 hg w3 hbox hb; have BK172 := Sd.mk (hbox); have GW172 := Sd.mk (bSz hg (bBl HB.out)); have GE172 := Sd.mk (bSz hg (bBl HB.out)); replace HB := Sd.mk (below_step (bBl HB.out) hb); have NB171_172 := Sd.mk (bNl hg (bkA BK171.out)); have NB172_171 := Sd.mk (bNg hg (bkA BK171.out)); replace BK171 := Sd.mk (blk_below (bkA BK171.out) hb); clear hb hbox hg))
 go_loopg [8] k (fun kq v8 w' => ∃ (x8_1 : Int) (x173000_1 : Int) (x173001_1 : Int), v8 = .int .i64 x8_1 ∧ Sd (b_weight.l0 kq l0 (l0.length : Int) x8_1 x173000_1 x173001_1 = some (r1, r2)) ∧ Sd (kq ≤ k) ∧ Sd (w'.heap[gb171]? = some (.cells #[.int .i64 0, .int .i64 0] 27 (0, 0))) ∧ Sd (w'.heap[gb172]? = some (.cells #[.int .i64 x173000_1, .int .i64 x173001_1] 27 (0, 0))) ∧ Sd (Below w.heap.size w w'))
 case atStart => exact ⟨(0), (0), (0), tS, H', ⟨Nat.le_refl _⟩, ⟨bkA BK171.out⟩, ⟨bkA BK172.out⟩, ⟨bBl HB.out⟩⟩
 case round =>
  clear H'; (try clear c1); (try clear p2); obtain ⟨x8_1, x173000_1, x173001_1, rfl, HA, HK1, BK171, BK172, HB⟩ := hrel
  cases gk with
  | zero => exact absurd HA.out (by simp [b_weight.l0])
  | succ k1 =>
   have H := HA.out; clear HA
   simp only [b_weight.l0] at H
   by_cases c4 : x8_1 < (l0.length : Int)
   ·rw [if_pos c4] at H
    have c4b0 : decide (x8_1 < (l0.length : Int)) = true := decide_eq_true c4
    clear c4
    by_cases c5 : 0 ≤ x8_1
    ·rw [if_pos c5] at H
     have c5b0 : decide (0 ≤ x8_1) = true := decide_eq_true c5
     clear c5
     by_cases c6 : x8_1 < (l0.length : Int)
     ·rw [if_pos c6] at H
      have c6b0 : decide (x8_1 < (l0.length : Int)) = true := decide_eq_true c6
      clear c6; have H' := Sd.mk H; clear H
      have p173 : 0 ≤ (x8_1 : Int) := tB
      have q173 : x8_1 < (l0.length : Int) := tB
      obtain ⟨ad173, e173, hx173_0, hx173_1⟩ := at_T27 HR0.out x8_1 p173 q173; cases e173; replace hx173_0 := cU HB hx173_0; replace hx173_1 := cU HB hx173_1; replace p173 := eq_true p173; replace q173 := eq_true q173
      go_wp2_with (first | ((with_reducible refine gate_dst (N := 5) rfl ?_); refine box_event ?hg (N := 5) ?hd (cs := #[.int .i64 0, .int .i64 0]) (t := 27) ?hr ?_; (case hd => rfl); (case hg => rfl); (case hr => exact tG); intro gb174 hg w7 hbox hb; have BK174 := Sd.mk (hbox); have GW174 := Sd.mk (bSz hg (bBl HB.out)); have GE174 := Sd.mk (bSz hg (bBl HB.out)); replace HB := Sd.mk (below_step (bBl HB.out) hb); have NB171_174 := Sd.mk (bNl hg (bkA BK171.out)); have NB174_171 := Sd.mk (bNg hg (bkA BK171.out)); replace BK171 := Sd.mk (blk_below (bkA BK171.out) hb); have NB172_174 := Sd.mk (bNl hg (bkA BK172.out)); have NB174_172 := Sd.mk (bNg hg (bkA BK172.out)); replace BK172 := Sd.mk (blk_below (bkA BK172.out) hb); clear hb hbox hg; have hnb8 := NB174_171.out; have hnc8 := NB171_174.out; have hnb9 := NB174_172.out; have hnc9 := NB172_174.out; obtain ⟨u10_0, u10_1, o10_0, o10_1⟩ := bc2 (w := w7) BK174.out; have hnb11 := NB172_171.out; have hnc11 := NB171_172.out; obtain ⟨u12_0, u12_1, o12_0, o12_1⟩ := bc2 (w := w7) BK172.out))
      go_roundg k1
      case measure => have := HK1.out; omega
      case rel => exact ⟨(wrap64 (x8_1 + 1)), (wrap64 (x173000_1 + ((rd_T27 l0 x8_1).f0))), (wrap64 (x173001_1 + ((rd_T27 l0 x8_1).f1))), tS, H', ⟨by have := HK1.out; omega⟩, ⟨by refine bkZ ?_; refine blk_far ?_ NB171_172.out _; refine bkZ ?_; refine blk_far ?_ NB171_172.out _; refine bkZ ?_; refine blk_far ?_ NB171_174.out _; refine bkZ ?_; refine blk_far ?_ NB171_174.out _; refine bkZ ?_; exact BK171.out⟩, ⟨by refine bkZ ?_; refine blk_put (cs := #[.int .i64 (wrap64 (x173000_1 + ((rd_T27 l0 x8_1).f0))), .int .i64 x173001_1]) ?_ 1 _ rfl; refine bkZ ?_; refine blk_put (cs := #[.int .i64 x173000_1, .int .i64 x173001_1]) ?_ 0 _ rfl; refine bkZ ?_; refine blk_far ?_ NB172_174.out _; refine bkZ ?_; refine blk_far ?_ NB172_174.out _; refine bkZ ?_; exact BK172.out⟩, ⟨bBl HB.out⟩⟩
     ·rw [if_neg c6] at H
      exact absurd H (by simp)
    ·rw [if_neg c5] at H
     exact absurd H (by simp)
   ·rw [if_neg c4] at H
    have c4b0 : decide (x8_1 < (l0.length : Int)) = false := decide_eq_false c4
    clear c4
    simp only [Option.some.injEq, Prod.mk.injEq] at H
    obtain ⟨rfl, rfl⟩ := H; have hnb13 := NB172_171.out; have hnc13 := NB171_172.out; obtain ⟨u14_0, u14_1, o14_0, o14_1⟩ := bc2 (w := wr) BK172.out; obtain ⟨u15_0, u15_1, o15_0, o15_1⟩ := bc2 (w := wr) BK171.out
    go_wp2
    refine bodyPost_ret (results_cell_row rfl _ _ gb171 27 #[.int .i64 x173000_1, .int .i64 x173001_1] (0, 0) _ rfl (by refine bkZ ?_; refine blk_put (cs := #[.int .i64 x173000_1, .int .i64 0]) ?_ 1 _ rfl; refine bkZ ?_; refine blk_put (cs := #[.int .i64 0, .int .i64 0]) ?_ 0 _ rfl; refine bkZ ?_; exact BK171.out) Tryz.underlying27 rfl (by kernel_rfl)) rfl ?_
    exact ⟨tE, bBl HB.out⟩
end
section
end
section
end
section
end
section
end
section
theorem mx_max (a b : Int) : mx a b = max a b := by unfold mx; split <;> omega
theorem sumTo_zero : ∀ n, sumTo (fun _ => 0) n = 0 := by
 intro n
 induction n with
 | zero => rfl
 | succ n ih => simp only [sumTo, ih]; omega
structure GOk (l : List S27) : Prop where
 n12 : l.length ≤ 12
 at_ : ∀ j : Nat, j < l.length → 0 ≤ (rd_T27 l (j : Int)).f0 ∧ (rd_T27 l (j : Int)).f0 ≤ (rd_T27 l (j : Int)).f1 ∧ (rd_T27 l (j : Int)).f1 ≤ 120000000
def wS (F : S27 → Int) (l : List S27) (i : Nat) : Int := sumTo (fun j => F (rd_T27 l (j : Int))) i
theorem wS_bounds {l : List S27} (H : GOk l) : ∀ i, i ≤ l.length → (0 ≤ wS S27.f0 l i ∧ wS S27.f0 l i ≤ 120000000 * i) ∧ (0 ≤ wS S27.f1 l i ∧ wS S27.f1 l i ≤ 120000000 * i) ∧ wS S27.f0 l i ≤ wS S27.f1 l i := by
 intro i
 induction i with
 | zero => intro _; simp [wS, sumTo]
 | succ i ih => intro hi; have h1 := ih (by omega); have h2 := H.at_ i (by omega); simp only [wS, sumTo] at *; omega
structure CfOk (cf : Int → Int) (n : Nat) : Prop where
 at_ : ∀ j : Nat, j < n → -10000 ≤ cf (j : Int) ∧ cf (j : Int) ≤ 10000
theorem mulb {c x : Int} (h1 : -30000 ≤ c) (h2 : c ≤ 30000) (h3 : 0 ≤ x) (h4 : x ≤ 120000000) : -3600000000000 ≤ c * x ∧ c * x ≤ 3600000000000 := by
 have e1 := Int.mul_le_mul_of_nonneg_right h1 h3
 have e2 := Int.mul_le_mul_of_nonneg_right h2 h3
 omega
section
variable {cf : Int → Int} {l : List S27} {c : List Int} (H : GOk l) (C : CfOk cf l.length) (hp : 0 < wS S27.f0 l l.length) (hl : l.length ≤ c.length) (hc : ∀ j : Nat, j < l.length → rd c (j : Int) = cf (j : Int))
include H C hp hl hc
end
end
section
def b_Grams.f (k : Nat) (l0_0 : List ByteArray) (l0_1 : List (S70)) (l0_2 : List (S27)) (l0_3 : List (S89)) (a0_4 : Int) (a0_5 : Int) (a0_6 : Int) (l1 : List Int) : Option ((List (S27)) × Int) := (b_asked.f k l0_0 l0_1 l0_2 l0_3 a0_4 a0_5 a0_6 l1).bind fun t167 => (if t167 = 0 then ((b_grams.f k l0_0 l0_1 l0_2 l0_3 a0_4 a0_5 a0_6 l1).bind fun t168 => (some (t168, 0))) else (some (([] : List (S27)), t167)))
theorem b_Grams.mono : ∀ a0 a1 a2 a3 a4 a5 a6 a7 k, LeO (b_Grams.f k a0 a1 a2 a3 a4 a5 a6 a7) (b_Grams.f (k + 1) a0 a1 a2 a3 a4 a5 a6 a7) := by
 intro a0 a1 a2 a3 a4 a5 a6 a7 k
 unfold b_Grams.f
 repeat' first
   | (with_reducible exact b_asked.mono _ _ _ _ _ _ _ _ _)
   | (with_reducible exact b_grams.mono _ _ _ _ _ _ _ _ _)
   | (with_reducible exact LeO.refl _)
   | (with_reducible exact LeO.none _)
   | (with_reducible refine LeO.ite ?_ ?_)
   | (with_reducible refine LeO.bind ?_ (fun _ => ?_))
   | exact LeO.none _
   | refine LeO.ite ?_ ?_
   | refine LeO.bind ?_ (fun _ => ?_)
theorem b_Grams.calls (k : Nat) (A0_0 : Option Addr) (c0_0 : Nat) (l0_0 : List ByteArray) (A0_1 : Option Addr) (c0_1 : Nat) (l0_1 : List (S70)) (A0_2 : Option Addr) (c0_2 : Nat) (l0_2 : List (S27)) (A0_3 : Option Addr) (c0_3 : Nat) (l0_3 : List (S89)) (a0_4 : Int) (a0_5 : Int) (a0_6 : Int) (A1 : Option Addr) (c1 : Nat) (l1 : List Int) (r1 : List (S27)) (r2 : Int) (w : World) (hr0_0 : Kd.C Kd.string w A0_0 l0_0.length l0_0) (hc0_0 : l0_0.length ≤ c0_0) (hr0_1 : Kd.C k70 w A0_1 l0_1.length l0_1) (hc0_1 : l0_1.length ≤ c0_1) (hr0_2 : Kd.C k27 w A0_2 l0_2.length l0_2) (hc0_2 : l0_2.length ≤ c0_2) (hr0_3 : Kd.C k89 w A0_3 l0_3.length l0_3) (hc0_3 : l0_3.length ≤ c0_3) (hr1 : Kd.C (Kd.int .i64) w A1 l1.length l1) (hc1 : l1.length ≤ c1) (h : b_Grams.f k l0_0 l0_1 l0_2 l0_3 a0_4 a0_5 a0_6 l1 = some (r1, r2)) :
  Calls Tryz.prog 162 #[.agg #[.slice A0_0 l0_0.length c0_0, .slice A0_1 l0_1.length c0_1, .slice A0_2 l0_2.length c0_2, .slice A0_3 l0_3.length c0_3, .int .i64 a0_4, .int .i64 a0_5, .int .i64 a0_6], .slice A1 l1.length c1] w fun e w' => ∃ v0_ : Value, e = .returned (.tuple #[v0_, .int .i64 r2]) ∧ Kd.R k27 27 w' w.heap.size (fun _ => True) v0_ r1 ∧ Below w.heap.size w w' := by
 have hu29 := Tryz.underlying29; have HR0_0 := Sd.mk hr0_0; have HC0_0 := Sd.mk hc0_0; clear hr0_0 hc0_0; have HR0_1 := Sd.mk hr0_1; have HC0_1 := Sd.mk hc0_1; clear hr0_1 hc0_1; have HR0_2 := Sd.mk hr0_2; have HC0_2 := Sd.mk hc0_2; clear hr0_2 hc0_2; have HR0_3 := Sd.mk hr0_3; have HC0_3 := Sd.mk hc0_3; clear hr0_3 hc0_3; have HR1 := Sd.mk hr1; have HC1 := Sd.mk hc1; clear hr1 hc1; have HB := Sd.mk (Below.refl w.heap.size w)
 have H : ((b_asked.f k l0_0 l0_1 l0_2 l0_3 a0_4 a0_5 a0_6 l1).bind fun t167 => (if t167 = 0 then ((b_grams.f k l0_0 l0_1 l0_2 l0_3 a0_4 a0_5 a0_6 l1).bind fun t168 => (some (t168, 0))) else (some (([] : List (S27)), t167)))) = some (r1, r2) := h
 clear h; replace H := Option.bind_eq_some_iff.mp H; obtain ⟨t167, A30, H⟩ := H
 try dsimp only at H
 have A3 := Sd.mk A30; clear A30
 by_cases c4 : t167 = 0
 ·rw [if_pos c4] at H
  have c4b0 : (t167 == 0) = true := beq_iff_eq.mpr c4
  have c4b1 : (t167 != 0) = false := bne_eq_false_iff_eq.mpr c4
  clear c4; replace H := Option.bind_eq_some_iff.mp H; obtain ⟨t168, A50, H⟩ := H
  try dsimp only at H
  have A5 := Sd.mk A50; clear A50
  simp only [Option.some.injEq, Prod.mk.injEq] at H
  obtain ⟨rfl, rfl⟩ := H
  go_enter Tryz.func162, Tryz.ntmps162
  go_wp2_with (first | ((with_reducible refine gate_dst (N := 2) rfl ?_); refine box_event ?hg (N := 2) ?hd (cs := #[.slice A0_0 l0_0.length c0_0, .slice A0_1 l0_1.length c0_1, .slice A0_2 l0_2.length c0_2, .slice A0_3 l0_3.length c0_3, .int .i64 a0_4, .int .i64 a0_5, .int .i64 a0_6]) (t := 29) ?hr ?_; (case hd => rfl); (case hg => rfl); (case hr => exact tG); intro gb166 hg w6 hbox hb; have BK166 := Sd.mk (hbox); have GW166 := Sd.mk (bSz hg (bBl HB.out)); have GE166 := Sd.mk (bSz hg (bBl HB.out)); replace HB := Sd.mk (below_step (bBl HB.out) hb); clear hb hbox hg; obtain ⟨u7_0, u7_1, u7_2, u7_3, u7_4, u7_5, u7_6, o7_0, o7_1, o7_2, o7_3, o7_4, o7_5, o7_6⟩ := bc7 (w := w6) BK166.out) | ((with_reducible refine gate_callee (f := 50) rfl ?_); refine goesL_ (some 9) rfl rfl Tryz.func50 (by kernel_rfl) rfl #[.agg #[.slice A0_0 l0_0.length c0_0, .slice A0_1 l0_1.length c0_1, .slice A0_2 l0_2.length c0_2, .slice A0_3 l0_3.length c0_3, .int .i64 a0_4, .int .i64 a0_5, .int .i64 a0_6], .slice A1 l1.length c1] rfl tM ?_; (with_reducible refine (b_asked.calls k _ _ l0_0 _ _ l0_1 _ _ l0_2 _ _ l0_3 a0_4 a0_5 a0_6 _ _ l1 t167 _ (cS (Kd.C_below HR0_0.out HB.out)) HC0_0.out (cS (Kd.C_below HR0_1.out HB.out)) HC0_1.out (cS (Kd.C_below HR0_2.out HB.out)) HC0_2.out (cS (Kd.C_below HR0_3.out HB.out)) HC0_3.out (cS (Kd.C_below HR1.out HB.out)) HC1.out A3.out).mono ?_); rintro e w8 ⟨rfl, hb⟩; refine ⟨_, rfl, ?_⟩; replace BK166 := Sd.mk (blk_below (bkA BK166.out) hb); replace HB := Sd.mk (below_step (bBl HB.out) hb); (try clear hb); (try clear hb2); (try clear hk); (try clear hi); obtain ⟨u9_0, u9_1, u9_2, u9_3, u9_4, u9_5, u9_6, o9_0, o9_1, o9_2, o9_3, o9_4, o9_5, o9_6⟩ := bc7 (w := w8) BK166.out) | ((with_reducible refine gate_callee (f := 204) rfl ?_); refine goesL_ (some 15) rfl rfl Tryz.func204 (by kernel_rfl) rfl #[.agg #[.slice A0_0 l0_0.length c0_0, .slice A0_1 l0_1.length c0_1, .slice A0_2 l0_2.length c0_2, .slice A0_3 l0_3.length c0_3, .int .i64 a0_4, .int .i64 a0_5, .int .i64 a0_6], .slice A1 l1.length c1] rfl tM ?_; (with_reducible refine (b_grams.calls k _ _ l0_0 _ _ l0_1 _ _ l0_2 _ _ l0_3 a0_4 a0_5 a0_6 _ _ l1 t168 _ (cS (Kd.C_below HR0_0.out HB.out)) HC0_0.out (cS (Kd.C_below HR0_1.out HB.out)) HC0_1.out (cS (Kd.C_below HR0_2.out HB.out)) HC0_2.out (cS (Kd.C_below HR0_3.out HB.out)) HC0_3.out (cS (Kd.C_below HR1.out HB.out)) HC1.out A5.out).mono ?_); rintro e w10 ⟨v169, rfl, ho0, hb⟩; refine ⟨_, rfl, ?_⟩; have HO170 := Sd.mk (Kd.R_lower ho0 (below_size (bBl HB.out))); replace BK166 := Sd.mk (blk_below (bkA BK166.out) hb); replace HB := Sd.mk (below_step (bBl HB.out) hb); (try clear hb); (try clear hb2); (try clear hk); (try clear hi); (try clear ho0)))
  go_ret2
  exact ⟨_, tE, by (with_reducible repeat (first | apply Kd.R_alloc | apply Kd.R_drewN | apply Kd.R_drew)); exact HO170.out, bBl HB.out⟩
 ·rw [if_neg c4] at H
  have c4b0 : (t167 == 0) = false := beq_eq_false_iff_ne.mpr c4
  have c4b1 : (t167 != 0) = true := bne_iff_ne.mpr c4
  simp only [Option.some.injEq, Prod.mk.injEq] at H
  obtain ⟨rfl, rfl⟩ := H
  go_enter Tryz.func162, Tryz.ntmps162
  go_wp2_with (first | ((with_reducible refine gate_dst (N := 2) rfl ?_); refine box_event ?hg (N := 2) ?hd (cs := #[.slice A0_0 l0_0.length c0_0, .slice A0_1 l0_1.length c0_1, .slice A0_2 l0_2.length c0_2, .slice A0_3 l0_3.length c0_3, .int .i64 a0_4, .int .i64 a0_5, .int .i64 a0_6]) (t := 29) ?hr ?_; (case hd => rfl); (case hg => rfl); (case hr => exact tG); intro gb166 hg w11 hbox hb; have BK166 := Sd.mk (hbox); have GW166 := Sd.mk (bSz hg (bBl HB.out)); have GE166 := Sd.mk (bSz hg (bBl HB.out)); replace HB := Sd.mk (below_step (bBl HB.out) hb); clear hb hbox hg; obtain ⟨u12_0, u12_1, u12_2, u12_3, u12_4, u12_5, u12_6, o12_0, o12_1, o12_2, o12_3, o12_4, o12_5, o12_6⟩ := bc7 (w := w11) BK166.out) | ((with_reducible refine gate_callee (f := 50) rfl ?_); refine goesL_ (some 9) rfl rfl Tryz.func50 (by kernel_rfl) rfl #[.agg #[.slice A0_0 l0_0.length c0_0, .slice A0_1 l0_1.length c0_1, .slice A0_2 l0_2.length c0_2, .slice A0_3 l0_3.length c0_3, .int .i64 a0_4, .int .i64 a0_5, .int .i64 a0_6], .slice A1 l1.length c1] rfl tM ?_; (with_reducible refine (b_asked.calls k _ _ l0_0 _ _ l0_1 _ _ l0_2 _ _ l0_3 a0_4 a0_5 a0_6 _ _ l1 t167 _ (cS (Kd.C_below HR0_0.out HB.out)) HC0_0.out (cS (Kd.C_below HR0_1.out HB.out)) HC0_1.out (cS (Kd.C_below HR0_2.out HB.out)) HC0_2.out (cS (Kd.C_below HR0_3.out HB.out)) HC0_3.out (cS (Kd.C_below HR1.out HB.out)) HC1.out A3.out).mono ?_); rintro e w13 ⟨rfl, hb⟩; refine ⟨_, rfl, ?_⟩; replace BK166 := Sd.mk (blk_below (bkA BK166.out) hb); replace HB := Sd.mk (below_step (bBl HB.out) hb); (try clear hb); (try clear hb2); (try clear hk); (try clear hi)))
  go_ret2
  exact ⟨_, tE, by first | exact Kd.R_nil _ _ _ _ _ | exact Kd.N_nil _ _ _ _ _ | exact Kd.V_nil _ _ _ _ _ | exact Kd.Q_nil _ _ _ _ _ | exact Kd.S_nil _ _ _ _ _, bBl HB.out⟩
end
section
def x_glass.f (k : Nat) (l0_0 : List ByteArray) (l0_1 : List (S70)) (l0_2 : List (S27)) (l0_3 : List (S89)) (a0_4 : Int) (a0_5 : Int) (a0_6 : Int) (l1 : List Int) : Option ((List (S27)) × Int) := (b_Grams.f k l0_0 l0_1 l0_2 l0_3 a0_4 a0_5 a0_6 l1).bind fun p => if p.2 = 0 then ((b_weight.f k p.1).bind fun q => if q.1 = 0 then some ([], 8) else some (p.1, p.2)) else some (p.1, p.2)
theorem x_glass.mono : ∀ l0_0 l0_1 l0_2 l0_3 a0_4 a0_5 a0_6 l1 k, LeO (x_glass.f k l0_0 l0_1 l0_2 l0_3 a0_4 a0_5 a0_6 l1) (x_glass.f (k + 1) l0_0 l0_1 l0_2 l0_3 a0_4 a0_5 a0_6 l1) := by
  intro l0_0 l0_1 l0_2 l0_3 a0_4 a0_5 a0_6 l1 k
  unfold x_glass.f
  refine LeO.bind (b_Grams.mono _ _ _ _ _ _ _ _ _) fun p => ?_
  refine LeO.ite ?_ (LeO.refl _)
  refine LeO.bind (b_weight.mono _ _) fun q => ?_
  exact LeO.refl _
theorem field27_0 (w : World) (a b : Int) : (Instr.field 27 (.agg #[.int .i64 a, .int .i64 b]) 0).run Tryz.prog w = .ok (.int .i64 a) w := by kernel_rfl
theorem x_glass.calls (k : Nat) (A0_0 : Option Addr) (c0_0 : Nat) (l0_0 : List ByteArray) (A0_1 : Option Addr) (c0_1 : Nat) (l0_1 : List (S70)) (A0_2 : Option Addr) (c0_2 : Nat) (l0_2 : List (S27)) (A0_3 : Option Addr) (c0_3 : Nat) (l0_3 : List (S89)) (a0_4 : Int) (a0_5 : Int) (a0_6 : Int) (A1 : Option Addr) (c1 : Nat) (l1 : List Int) (r1 : List (S27)) (r2 : Int) (w : World) (hr0_0 : Kd.C Kd.string w A0_0 l0_0.length l0_0) (hc0_0 : l0_0.length ≤ c0_0) (hr0_1 : Kd.C k70 w A0_1 l0_1.length l0_1) (hc0_1 : l0_1.length ≤ c0_1) (hr0_2 : Kd.C k27 w A0_2 l0_2.length l0_2) (hc0_2 : l0_2.length ≤ c0_2) (hr0_3 : Kd.C k89 w A0_3 l0_3.length l0_3) (hc0_3 : l0_3.length ≤ c0_3) (hr1 : Kd.C (Kd.int .i64) w A1 l1.length l1) (hc1 : l1.length ≤ c1) (h : x_glass.f k l0_0 l0_1 l0_2 l0_3 a0_4 a0_5 a0_6 l1 = some (r1, r2)) :
    Calls Tryz.prog 83 #[.agg #[.slice A0_0 l0_0.length c0_0, .slice A0_1 l0_1.length c0_1, .slice A0_2 l0_2.length c0_2, .slice A0_3 l0_3.length c0_3, .int .i64 a0_4, .int .i64 a0_5, .int .i64 a0_6], .slice A1 l1.length c1] w fun e w' => ∃ v0_ : Value, e = .returned (.tuple #[v0_, .int .i64 r2]) ∧ Kd.R k27 27 w' w.heap.size (fun _ => True) v0_ r1 ∧ Below w.heap.size w w' := by
  unfold x_glass.f at h
  obtain ⟨p, hp, H⟩ := Option.bind_eq_some_iff.mp h
  have hG := fun (W : World) (hb : Below w.heap.size w W) => b_Grams.calls k A0_0 c0_0 l0_0 A0_1 c0_1 l0_1 A0_2 c0_2 l0_2 A0_3 c0_3 l0_3 a0_4 a0_5 a0_6 A1 c1 l1 p.1 p.2 W (Kd.C_below hr0_0 hb) hc0_0 (Kd.C_below hr0_1 hb) hc0_1 (Kd.C_below hr0_2 hb) hc0_2 (Kd.C_below hr0_3 hb) hc0_3 (Kd.C_below hr1 hb) hc1 hp
  have HG := Sd.mk hG
  clear hG h hp hr0_0 hr0_1 hr0_2 hr0_3 hr1
  obtain ⟨pl, pe⟩ := p
  dsimp only at H HG
  have hb0 : Below w.heap.size w (w.alloc (.cells #[.slice A0_0 l0_0.length c0_0, .slice A0_1 l0_1.length c0_1, .slice A0_2 l0_2.length c0_2, .slice A0_3 l0_3.length c0_3, .int .i64 a0_4, .int .i64 a0_5, .int .i64 a0_6] 29)) := below_alloc (Below.refl _ _) _
  have hgo := HG.out _ hb0
  have HB0 := Sd.mk hb0
  clear hb0 HG
  have HH := Sd.mk H
  clear H
  have hfld := field27_0
  go_enter Tryz.func83, Tryz.ntmps83
  go_wp2_with fail
  refine hgo.mono ?_
  clear hgo
  rintro e w1 ⟨v, rfl, hR, hb⟩
  have hR0 := Kd.R_lower (base' := w.heap.size) hR (by simp)
  obtain ⟨A, c, rfl, hlc, hC⟩ := Kd.R_reads hR
  have HR := Sd.mk hR0
  have HB := Sd.mk (below_trans' HB0.out hb)
  have HC := Sd.mk hC
  have H := HH.out
  clear hR hb HB0 hR0 hC HH
  by_cases he : pe = 0
  · rw [if_pos he] at H
    obtain ⟨q, hq, H⟩ := Option.bind_eq_some_iff.mp H
    have hW := fun (W : World) (hb : Below w1.heap.size w1 W) => b_weight.calls k A c pl q.1 q.2 W (Kd.C_below HC.out hb) hlc hq
    have HW := Sd.mk (hW w1 (Below.refl _ _))
    clear hW hq
    have heb : (pe == 0) = true := beq_iff_eq.mpr he
    obtain ⟨q1, q2⟩ := q
    dsimp only at H HW
    have HH := Sd.mk H
    have HE := Sd.mk he
    clear H he
    go_wp2_with fail
    refine HW.out.mono ?_
    clear HW
    rintro e w2 ⟨rfl, hb2⟩
    have HB2 := Sd.mk (below_trans' HB.out hb2)
    have HR2 := Sd.mk (Kd.R_below HR.out hb2)
    clear hb2 HR HB
    have H := HH.out
    by_cases hq0 : q1 = 0
    · rw [if_pos hq0] at H
      have hqb : (q1 == 0) = true := beq_iff_eq.mpr hq0
      simp only [Option.some.injEq, Prod.mk.injEq] at H
      obtain ⟨rfl, rfl⟩ := H
      clear hq0 HH
      go_wp2
      go_ret2
      exact ⟨_, rfl, Kd.R_nil _ _ _ _ _, HB2.out⟩
    · rw [if_neg hq0] at H
      have hqb : (q1 == 0) = false := beq_eq_false_iff_ne.mpr hq0
      simp only [Option.some.injEq, Prod.mk.injEq] at H
      obtain ⟨rfl, rfl⟩ := H
      clear hq0 HH
      go_wp2
      go_ret2
      exact ⟨_, rfl, HR2.out, HB2.out⟩
  · rw [if_neg he] at H
    have heb : (pe == 0) = false := beq_eq_false_iff_ne.mpr he
    simp only [Option.some.injEq, Prod.mk.injEq] at H
    obtain ⟨rfl, rfl⟩ := H
    go_wp2
    go_ret2
    exact ⟨_, rfl, HR.out, HB.out⟩
end
end Go.Proofs.YtljfljekcpdpiaaGreat.PB
