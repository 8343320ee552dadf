import Derived.Test.YtljfljekcpdpiaaGreatB5
import Derived.Lib.LazyBuf
import Derived.Shelf.Abstract
set_option linter.unusedVariables false
set_option linter.unusedSimpArgs false
set_option maxHeartbeats 8000000
set_option maxRecDepth 1000000
namespace Go.Proofs.YtljfljekcpdpiaaGreat.PB
open Go.RowKit Go.Proofs.YtljfljekcpdpiaaGreatW.PrintWords Go.Proofs.YtljfljekcpdpiaaGreatW.PrintLast Go.Proofs.YtljfljekcpdpiaaGreatW.PrintMore
section
theorem rTotal_l0 (r fs : List Int) (b : Int) (h1 : r.length ≤ fs.length) (h2 : r.length ≤ 1000000) : ∀ (m i : Nat), i + m = r.length → Ev (fun k => rf_Total.l0 k r (vW r fs i) (i : Int) fs b) (vW r fs r.length)
  | 0, i, hi => by
    apply Ev.step
    simp only [rf_Total.l0, if_neg (show ¬ (i : Int) < (r.length : Int) by omega)]
    rw [show i = r.length by omega]
    exact Ev.const _
  | m + 1, i, hi => by
    have ih := rTotal_l0 r fs b h1 h2 m (i + 1) (by omega)
    apply Ev.step
    simp only [rf_Total.l0, if_pos (show (i : Int) < (r.length : Int) by omega), if_pos (i_pos i), if_pos (show (i : Int) < (fs.length : Int) by omega), wrap_succ (i_pos i) (show (i : Int) ≤ 1000000000 by omega)]
    exact ih
theorem rTotal {mt : List S70} {r : List Int} {x : S168} (hm : mt.length ≤ 12) (hr : RecOk mt r) (hx : LineOk mt.length x) : Ev (fun k => rf_Total.f k x.f0 x.f1 r) (tot r x.f0 mt.length) := by
  have h := rTotal_l0 r x.f0 x.f1 (by rw [hr.len, hx.len]; exact Nat.le_refl _) (by rw [hr.len]; omega) r.length 0 (by omega)
  rw [hr.len, vW_tot hm hr hx mt.length (Nat.le_refl _)] at h
  exact h
theorem rKeeps_l0 {mt : List S70} {r : List Int} (L : List S168) (hm : mt.length ≤ 12) (hr : RecOk mt r) (hL : ∀ x ∈ L, LineOk mt.length x) (hl : L.length ≤ 1000000) :
    ∀ (m i : Nat), i + m = L.length → Ev (fun k => rf_Keeps.l0 k L r 1 (i : Int)) ((L.drop i).all fun x => decide (tot r x.f0 mt.length ≤ x.f1))
  | 0, i, hi => by
    apply Ev.step
    simp only [rf_Keeps.l0, if_neg (show ¬ (i : Int) < (L.length : Int) by omega)]
    rw [List.drop_of_length_le (by omega)]
    exact Ev.const _
  | m + 1, i, hi => by
    have ih := rKeeps_l0 L hm hr hL hl m (i + 1) (by omega)
    have hlt : i < L.length := by omega
    have hg : rd_T168 L (i : Int) = L[i] := by simp [rd_T168, hlt]
    have hx := hL L[i] (List.getElem_mem hlt)
    have hw : wrap64 (1 * L[i].f1) = L[i].f1 := by rw [wrap_id (x := 1 * L[i].f1) (by have := hx.b1; omega) (by have := hx.b0; omega), Int.one_mul]
    rw [List.drop_eq_getElem_cons hlt, List.all_cons]
    apply Ev.step
    simp only [rf_Keeps.l0, if_pos (show (i : Int) < (L.length : Int) by omega), if_pos (i_pos i), hg, hw, wrap_succ (i_pos i) (show (i : Int) ≤ 1000000000 by omega)]
    refine Ev.bind (rTotal hm hr hx) ?_
    by_cases hc : tot r L[i].f0 mt.length ≤ L[i].f1
    · simp only [if_neg (show ¬ tot r L[i].f0 mt.length > L[i].f1 by omega), decide_eq_true hc, Bool.true_and]; exact ih
    · simp only [if_pos (show tot r L[i].f0 mt.length > L[i].f1 by omega), decide_eq_false hc, Bool.false_and]; exact Ev.const _
section
variable (o : List ByteArray) (mt : List S70) (s : List S27) (p : List S89) (a4 a5 a6 : Int) (r : List Int)
theorem rKeeps (H : BatchOk o mt s p a4 a5 a6) (hr : RecOk mt r) : Ev (fun k => rf_Keeps.f k (linesV mt s p a4 a5 a6) r 1) (passB mt s p a4 a5 a6 r) := by
  have h := rKeeps_l0 (linesV mt s p a4 a5 a6) H.m12 hr (lines_ok H) (by rw [linesV_len]; have := H.o12; have := H.p6; have := H.slen; omega) (linesV mt s p a4 a5 a6).length 0 (by omega)
  rw [List.drop_zero] at h
  exact h
def cW (mt : List S70) (r : List Int) : Nat → Int
  | 0 => 0
  | i + 1 => wrap64 (cW mt r i + wrap64 (rd r (i : Int) * (rd_T70 mt (i : Int)).f1))
theorem bcost_l0 (hm : mt.length ≤ 12) (hrl : r.length = mt.length) : ∀ (m i : Nat), i + m = mt.length → Ev (fun k => b_cost.l0 k r (cW mt r i) mt (mt.length : Int) (i : Int)) (cW mt r mt.length)
  | 0, i, hi => by
    apply Ev.step
    simp only [b_cost.l0, if_neg (show ¬ (i : Int) < (mt.length : Int) by omega)]
    rw [show i = mt.length by omega]
    exact Ev.const _
  | m + 1, i, hi => by
    have ih := bcost_l0 hm hrl m (i + 1) (by omega)
    apply Ev.step
    simp only [b_cost.l0, if_pos (show (i : Int) < (mt.length : Int) by omega), if_pos (i_pos i), if_pos (show (i : Int) < (r.length : Int) by omega), wrap_succ (i_pos i) (show (i : Int) ≤ 1000000000 by omega)]
    exact ih
theorem rcost_l0 (hm : mt.length ≤ 12) (hrl : r.length = mt.length) : ∀ (m i : Nat), i + m = mt.length → Ev (fun k => rf_cost.l0 k r (cW mt r i) (i : Int) o mt s p a4 a5 a6) (cW mt r mt.length)
  | 0, i, hi => by
    apply Ev.step
    simp only [rf_cost.l0, if_neg (show ¬ (i : Int) < (r.length : Int) by omega)]
    rw [show i = mt.length by omega]
    exact Ev.const _
  | m + 1, i, hi => by
    have ih := rcost_l0 hm hrl m (i + 1) (by omega)
    apply Ev.step
    simp only [rf_cost.l0, if_pos (show (i : Int) < (mt.length : Int) by omega), if_pos (i_pos i), if_pos (show (i : Int) < (r.length : Int) by omega), wrap_succ (i_pos i) (show (i : Int) ≤ 1000000000 by omega)]
    exact ih
end
section
variable (o : List ByteArray) (mt : List S70) (s : List S27) (p : List S89) (a4 a5 a6 : Int) (r q : List Int) (n b3 b4 : Int) (l5 : List Int)
end
end
section
def b_few.l0 : Nat → Int → List (S70) → Int → Int → Option (Bool)
 | 0, _, _, _, _ => none
 | k + 1, x3, x7, x8, x9 => if x9 < x8 then (if 0 ≤ x9 then (if x9 < (x7.length : Int) then (if ((rd_T70 x7 x9).f5) = 0 then (none) else (if (wrap64 (x3 * (wrap64 ((wrap64 (Int.tdiv (wrap64 (((rd_T70 x7 x9).f4) - ((rd_T70 x7 x9).f3))) ((rd_T70 x7 x9).f5))) + 1)))) > 100000 then (some false) else (b_few.l0 k (wrap64 (x3 * (wrap64 ((wrap64 (Int.tdiv (wrap64 (((rd_T70 x7 x9).f4) - ((rd_T70 x7 x9).f3))) ((rd_T70 x7 x9).f5))) + 1)))) x7 x8 (wrap64 (x9 + 1))))) else (none)) else (none)) else (some true)
def b_few.f (k : Nat) (l00 : List ByteArray) (l01 : List (S70)) (l02 : List (S27)) (l03 : List (S89)) (a04 : Int) (a05 : Int) (a06 : Int) : Option (Bool) := b_few.l0 k 1 l01 (l01.length : Int) 0
theorem b_few.calls (k : Nat) (A00 : Option Addr) (c00 : Nat) (l00 : List ByteArray) (A01 : Option Addr) (c01 : Nat) (l01 : List (S70)) (A02 : Option Addr) (c02 : Nat) (l02 : List (S27)) (A03 : Option Addr) (c03 : Nat) (l03 : List (S89)) (a04 : Int) (a05 : Int) (a06 : Int) (r : Bool) (w : World) (hr00 : Kd.C Kd.string w A00 l00.length l00) (hc00 : l00.length ≤ c00) (hr01 : Kd.C k70 w A01 l01.length l01) (hc01 : l01.length ≤ c01) (hr02 : Kd.C k27 w A02 l02.length l02) (hc02 : l02.length ≤ c02) (hr03 : Kd.C k89 w A03 l03.length l03) (hc03 : l03.length ≤ c03) (h : b_few.f k l00 l01 l02 l03 a04 a05 a06 = some r) :
  Calls Tryz.prog 88 #[.agg #[.slice A00 l00.length c00, .slice A01 l01.length c01, .slice A02 l02.length c02, .slice A03 l03.length c03, .int .i64 a04, .int .i64 a05, .int .i64 a06]] w fun e w' => e = .returned (.bool r) ∧ Below w.heap.size w w' := by
 have hu29 := Tryz.underlying29; have hu70 := Tryz.underlying70; have HR00 := Sd.mk hr00; have HC00 := Sd.mk hc00; clear hr00 hc00; have HR01 := Sd.mk hr01; have HC01 := Sd.mk hc01; clear hr01 hc01; have HR02 := Sd.mk hr02; have HC02 := Sd.mk hc02; clear hr02 hc02; have HR03 := Sd.mk hr03; have HC03 := Sd.mk hc03; clear hr03 hc03; have HB := Sd.mk (Below.refl w.heap.size w)
 have H : (b_few.l0 k 1 l01 (l01.length : Int) 0) = some r := h
 clear h; have H' := Sd.mk H; clear H
 go_enter Tryz.func88, Tryz.ntmps88
 go_wp2_with (first | ((with_reducible refine gate_dst (N := 1) rfl ?_); refine box_event ?hg (N := 1) ?hd (cs := #[.slice A00 l00.length c00, .slice A01 l01.length c01, .slice A02 l02.length c02, .slice A03 l03.length c03, .int .i64 a04, .int .i64 a05, .int .i64 a06]) (t := 29) ?hr ?_; (case hd => rfl); (case hg => rfl); (case hr => exact tG); intro gb484 hg w2 hbox hb; have BK484 := Sd.mk (hbox); have GW484 := Sd.mk (bSz hg (bBl HB.out)); have GE484 := Sd.mk (bSz hg (bBl HB.out)); replace HB := Sd.mk (below_step (bBl HB.out) hb); clear hb hbox hg; obtain ⟨u3_0, u3_1, u3_2, u3_3, u3_4, u3_5, u3_6, o30, o31, o32, o33, o34, o35, o36⟩ := bc7 (w := w2) BK484.out))
 go_loopg [3, 9] k (fun kq v3 v9 w' => ∃ (x31 : Int) (x91 : Int), v3 = .int .i64 x31 ∧ v9 = .int .i64 x91 ∧ Sd (b_few.l0 kq x31 l01 (l01.length : Int) x91 = some r) ∧ Sd (kq ≤ k) ∧ Sd (w'.heap[gb484]? = some (.cells #[(.slice A00 l00.length c00), (.slice A01 l01.length c01), (.slice A02 l02.length c02), (.slice A03 l03.length c03), .int .i64 a04, .int .i64 a05, .int .i64 a06] 29 (0, 0))) ∧ Sd (Below w.heap.size w w'))
 case atStart => exact ⟨(1), (0), tS, tS, H', ⟨Nat.le_refl _⟩, ⟨bkA BK484.out⟩, ⟨bBl HB.out⟩⟩
 case round =>
  clear H'; (try clear p2); (try clear u3_0 u3_1 u3_2 u3_3 u3_4 u3_5 u3_6); (try clear o30 o31 o32 o33 o34 o35 o36); obtain ⟨x31, x91, rfl, rfl, HA, HK1, BK484, HB⟩ := hrel
  cases gk with
  | zero => exact absurd HA.out (by simp [b_few.l0])
  | succ k1 =>
   have H := HA.out; clear HA
   simp only [b_few.l0] at H
   by_cases c4 : x91 < (l01.length : Int)
   ·rw [if_pos c4] at H
    have c4b0 : decide (x91 < (l01.length : Int)) = true := decide_eq_true c4
    clear c4
    by_cases c5 : 0 ≤ x91
    ·rw [if_pos c5] at H
     have c5b0 : decide (0 ≤ x91) = true := decide_eq_true c5
     clear c5
     by_cases c6 : x91 < (l01.length : Int)
     ·rw [if_pos c6] at H
      have c6b0 : decide (x91 < (l01.length : Int)) = true := decide_eq_true c6
      clear c6
      by_cases c7 : ((rd_T70 l01 x91).f5) = 0
      ·rw [if_pos c7] at H
       exact absurd H (by simp)
      ·rw [if_neg c7] at H
       have c7b0 : (((rd_T70 l01 x91).f5) == 0) = false := beq_eq_false_iff_ne.mpr c7
       have c7b1 : (((rd_T70 l01 x91).f5) != 0) = true := bne_iff_ne.mpr c7
       by_cases c8 : (wrap64 (x31 * (wrap64 ((wrap64 (Int.tdiv (wrap64 (((rd_T70 l01 x91).f4) - ((rd_T70 l01 x91).f3))) ((rd_T70 l01 x91).f5))) + 1)))) > 100000
       ·rw [if_pos c8] at H
        have c8b0 : decide (100000 < (wrap64 (x31 * (wrap64 ((wrap64 (Int.tdiv (wrap64 (((rd_T70 l01 x91).f4) - ((rd_T70 l01 x91).f3))) ((rd_T70 l01 x91).f5))) + 1))))) = true := decide_eq_true c8
        clear c8; obtain rfl := Option.some.inj H
        have p485 : 0 ≤ (x91 : Int) := tB
        have q485 : x91 < (l01.length : Int) := tB
        obtain ⟨ad485, A4856, c4856, e485, hx4850, hx4851, hx4852, hx4853, hx4854, hx4855, hx4856, hl4856, hi4856⟩ := at_T70 HR01.out x91 p485 q485; cases e485; replace hx4850 := cU HB hx4850; replace hx4851 := cU HB hx4851; replace hx4852 := cU HB hx4852; replace hx4853 := cU HB hx4853; replace hx4854 := cU HB hx4854; replace hx4855 := cU HB hx4855; replace hx4856 := cU HB hx4856; have HR4856 := Sd.mk hi4856; have HC4856 := Sd.mk hl4856; clear hi4856 hl4856; replace p485 := eq_true p485; replace q485 := eq_true q485
        go_wp2_with (first | ((with_reducible refine gate_dst (N := 5) rfl ?_); refine box_event ?hg (N := 5) ?hd (cs := #[.string (⟨#[]⟩ : ByteArray), .int .i64 0, .int .i64 0, .int .i64 0, .int .i64 0, .int .i64 0, .slice none 0 0]) (t := 70) ?hr ?_; (case hd => rfl); (case hg => rfl); (case hr => exact tG); intro gb486 hg w9 hbox hb; have BK486 := Sd.mk (hbox); have GW486 := Sd.mk (bSz hg (bBl HB.out)); have GE486 := Sd.mk (bSz hg (bBl HB.out)); replace HB := Sd.mk (below_step (bBl HB.out) hb); have NB484486 := Sd.mk (bNl hg (bkA BK484.out)); have NB486484 := Sd.mk (bNg hg (bkA BK484.out)); replace BK484 := Sd.mk (blk_below (bkA BK484.out) hb); clear hb hbox hg; have hnb10 := NB486484.out; have hnc10 := NB484486.out; obtain ⟨u11_0, u11_1, u11_2, u11_3, u11_4, u11_5, u11_6, o110, o111, o112, o113, o114, o115, o116⟩ := bc7 (w := w9) BK486.out))
        go_ret
        exact ⟨tE, bBl HB.out⟩
       ·rw [if_neg c8] at H
        have c8b0 : decide (100000 < (wrap64 (x31 * (wrap64 ((wrap64 (Int.tdiv (wrap64 (((rd_T70 l01 x91).f4) - ((rd_T70 l01 x91).f3))) ((rd_T70 l01 x91).f5))) + 1))))) = false := decide_eq_false c8
        clear c8; have H' := Sd.mk H; clear H
        have p485 : 0 ≤ (x91 : Int) := tB
        have q485 : x91 < (l01.length : Int) := tB
        obtain ⟨ad485, A4856, c4856, e485, hx4850, hx4851, hx4852, hx4853, hx4854, hx4855, hx4856, hl4856, hi4856⟩ := at_T70 HR01.out x91 p485 q485; cases e485; replace hx4850 := cU HB hx4850; replace hx4851 := cU HB hx4851; replace hx4852 := cU HB hx4852; replace hx4853 := cU HB hx4853; replace hx4854 := cU HB hx4854; replace hx4855 := cU HB hx4855; replace hx4856 := cU HB hx4856; have HR4856 := Sd.mk hi4856; have HC4856 := Sd.mk hl4856; clear hi4856 hl4856; replace p485 := eq_true p485; replace q485 := eq_true q485
        go_wp2_with (first | ((with_reducible refine gate_dst (N := 5) rfl ?_); refine box_event ?hg (N := 5) ?hd (cs := #[.string (⟨#[]⟩ : ByteArray), .int .i64 0, .int .i64 0, .int .i64 0, .int .i64 0, .int .i64 0, .slice none 0 0]) (t := 70) ?hr ?_; (case hd => rfl); (case hg => rfl); (case hr => exact tG); intro gb486 hg w12 hbox hb; have BK486 := Sd.mk (hbox); have GW486 := Sd.mk (bSz hg (bBl HB.out)); have GE486 := Sd.mk (bSz hg (bBl HB.out)); replace HB := Sd.mk (below_step (bBl HB.out) hb); have NB484486 := Sd.mk (bNl hg (bkA BK484.out)); have NB486484 := Sd.mk (bNg hg (bkA BK484.out)); replace BK484 := Sd.mk (blk_below (bkA BK484.out) hb); clear hb hbox hg; have hnb13 := NB486484.out; have hnc13 := NB484486.out; obtain ⟨u14_0, u14_1, u14_2, u14_3, u14_4, u14_5, u14_6, o140, o141, o142, o143, o144, o145, o146⟩ := bc7 (w := w12) BK486.out))
        go_roundg k1
        case measure => have := HK1.out; omega
        case rel => exact ⟨(wrap64 (x31 * (wrap64 ((wrap64 (Int.tdiv (wrap64 (((rd_T70 l01 x91).f4) - ((rd_T70 l01 x91).f3))) ((rd_T70 l01 x91).f5))) + 1)))), (wrap64 (x91 + 1)), tS, tS, H', ⟨by have := HK1.out; omega⟩, ⟨by refine bkZ ?_; refine blk_far ?_ NB484486.out _; refine bkZ ?_; refine blk_far ?_ NB484486.out _; refine bkZ ?_; refine blk_far ?_ NB484486.out _; refine bkZ ?_; refine blk_far ?_ NB484486.out _; refine bkZ ?_; refine blk_far ?_ NB484486.out _; refine bkZ ?_; refine blk_far ?_ NB484486.out _; refine bkZ ?_; refine blk_far ?_ NB484486.out _; refine bkZ ?_; exact BK484.out⟩, ⟨bBl HB.out⟩⟩
     ·rw [if_neg c6] at H
      exact absurd H (by simp)
    ·rw [if_neg c5] at H
     exact absurd H (by simp)
   ·rw [if_neg c4] at H
    have c4b0 : decide (x91 < (l01.length : Int)) = false := decide_eq_false c4
    clear c4; obtain rfl := Option.some.inj H
    go_wp2
    go_ret
    exact ⟨tE, bBl HB.out⟩
end
section
theorem MatOk.b {n : Nat} {x : S70} (h : MatOk n x) : MatB x := ⟨h.least.1, h.most.1, h.most.2, h.step.1, h.step.2⟩
theorem mats_b {o : List ByteArray} {mt : List S70} {s : List S27} {p : List S89} {a4 a5 a6 : Int} (H : BatchOk o mt s p a4 a5 a6) : ∀ m ∈ mt, MatB m := by
 intro m hm
 obtain ⟨i, hi, rfl⟩ := List.getElem_of_mem hm
 have := (H.mats i hi).b
 simpa [rd_T70, hi] using this
theorem kilosF_mem (s : Int) (hs : 0 ≤ s) : ∀ (c : Nat) (k x : Int), x ∈ kilosF s c k → ∃ j : Nat, j < c ∧ x = k + (j : Int) * s
 | 0, _, _, h => by simp [kilosF] at h
 | c + 1, k, x, h => by
  rw [kilosF, List.mem_cons] at h
  rcases h with rfl | h
  ·exact ⟨0, by omega, by simp⟩
  ·obtain ⟨j, hj, rfl⟩ := kilosF_mem s hs c (k + s) x h
   exact ⟨j + 1, by omega, by push_cast; rw [Int.add_mul, Int.one_mul]; omega⟩
theorem kilosF_bd {m : S70} (M : MatB m) {x : Int} (h : x ∈ kilosF m.f5 (cntM m) m.f3) : m.f3 ≤ x ∧ x ≤ m.f4 ∧ Int.tmod (x - m.f3) m.f5 = 0 := by
 obtain ⟨j, hj, rfl⟩ := kilosF_mem m.f5 (by have := M.s1; omega) _ _ _ h
 have h1 := (cntM_last M).1
 have h2 : (j : Int) * m.f5 ≤ ((cntM m : Int) - 1) * m.f5 := Int.mul_le_mul_of_nonneg_right (by omega) (by have := M.s1; omega)
 have h3 : 0 ≤ (j : Int) * m.f5 := Int.mul_nonneg (by omega) (by have := M.s1; omega)
 refine ⟨by omega, by omega, ?_⟩
 rw [show m.f3 + (j : Int) * m.f5 - m.f3 = (j : Int) * m.f5 by omega]
 exact Int.mul_tmod_left _ _
theorem allR_rec : ∀ (mt : List S70), (∀ m ∈ mt, MatB m) → ∀ r ∈ allR mt, RecOk mt r
 | [], _, r, h => ⟨allR_len _ _ h, fun j hj => by simp at hj⟩
 | m :: ms, H, r, h => by
  have h' := h
  simp only [allR, List.mem_flatMap, List.mem_map] at h
  obtain ⟨k, hk, q, hq, rfl⟩ := h
  have ih := allR_rec ms (fun x hx => H x (List.mem_cons_of_mem _ hx)) q hq
  have M := H m List.mem_cons_self
  have hb := kilosF_bd M hk
  refine ⟨allR_len _ _ h', fun j hj => ?_⟩
  cases j with
  | zero => exact ⟨by have := M.lo; simp [rd]; omega, by have := M.hi; simp [rd]; omega⟩
  | succ j =>
   have := ih.kilos j (by simpa using hj)
   simpa [rd] using this
theorem rsAt_rec {mt : List S70} (H : ∀ m ∈ mt, MatB m) (k : Nat) (hk : k < (allR mt).length) : RecOk mt (rsAt mt k) := by
 unfold rsAt
 rw [getD_lt _ _ _ hk]
 exact allR_rec mt H _ (List.getElem_mem hk)
def bestV (mt : List S70) (s : List S27) (p : List S89) (a4 a5 a6 : Int) : List Int × Int × Bool :=
 (allR mt).foldl (chStep (passB mt s p a4 a5 a6) (fun r => cW mt r mt.length)) ([], 0, false)
theorem chF_best (mt : List S70) (s : List S27) (p : List S89) (a4 a5 a6 : Int) : chF (passB mt s p a4 a5 a6) (fun r => cW mt r mt.length) (rsAt mt) (allR mt).length = bestV mt s p a4 a5 a6 := by
 unfold chF bestV
 rw [rs_map]
def b_Best.f (k : Nat) (o : List ByteArray) (mt : List S70) (s : List S27) (p : List S89) (a4 a5 a6 : Int) : Option (List Int × Int × Bool × Int) :=
 (b_Check.f k o mt s p a4 a5 a6).bind fun e => if e = 0 then (b_few.f k o mt s p a4 a5 a6).bind fun b => if b = true then (if checkV o mt s p a4 a5 a6 = 0 then some ((bestV mt s p a4 a5 a6).1, (bestV mt s p a4 a5 a6).2.1, (bestV mt s p a4 a5 a6).2.2, 0) else none) else some ([], 0, false, 9) else some ([], 0, false, e)
theorem best1_calls (Bl : Nat) (Al : Option Addr) (cl : Nat) (ls : List S168) (A : Addr) (r : List Int) (b : Bool) (W : World) (hl : W.heap[Bl]? = some (.cells #[.slice Al ls.length cl] 100 (0, 0))) (hr : Kd.C k168 W Al ls.length ls) (hc : ls.length ≤ cl)
  (hri : Kd.C (Kd.int .i64) W (some A) r.length r) (h : x_keeps.f ls r 1 = some b) :
  Calls Tryz.prog 90 #[.slice (some A) r.length r.length, .pointer (some ⟨Bl, 0, none⟩)] W fun e W' => e = .returned (.bool b) ∧ Below W.heap.size W W' := by
 have hx : W.cell? ⟨Bl, 0, none⟩ = some (.slice Al ls.length cl) := (blk_cell hl 0).trans rfl
 have HC := x_keeps.calls Al cl ls (some A) r.length r 1 b W hr hc hri (Nat.le_refl _) h
 go_enter Tryz.func90, Tryz.ntmps90
 go_wp2_with (go_at_call 51; (with_reducible refine HC.mono ?_); rintro e w' ⟨rfl, hb⟩)
 go_ret
 exact ⟨rfl, hb⟩
theorem b_Best.calls (k : Nat) (A00 : Option Addr) (c00 : Nat) (l00 : List ByteArray) (A01 : Option Addr) (c01 : Nat) (l01 : List (S70)) (A02 : Option Addr) (c02 : Nat) (l02 : List (S27)) (A03 : Option Addr) (c03 : Nat) (l03 : List (S89)) (a04 : Int) (a05 : Int) (a06 : Int) (r1 : List Int) (r2 : Int) (r3 : Bool) (r4 : Int) (w : World) (hr00 : Kd.C Kd.string w A00 l00.length l00) (hc00 : l00.length ≤ c00) (hr01 : Kd.C k70 w A01 l01.length l01) (hc01 : l01.length ≤ c01) (hr02 : Kd.C k27 w A02 l02.length l02) (hc02 : l02.length ≤ c02) (hr03 : Kd.C k89 w A03 l03.length l03) (hc03 : l03.length ≤ c03) (h : b_Best.f k l00 l01 l02 l03 a04 a05 a06 = some (r1, r2, r3, r4)) :
  Calls Tryz.prog 28 #[.agg #[.slice A00 l00.length c00, .slice A01 l01.length c01, .slice A02 l02.length c02, .slice A03 l03.length c03, .int .i64 a04, .int .i64 a05, .int .i64 a06]] w fun e w' => ∃ v0_ : Value, e = .returned (.tuple #[v0_, .int .i64 r2, .bool r3, .int .i64 r4]) ∧ Kd.R (Kd.int .i64) 3 w' w.heap.size (fun _ => True) v0_ r1 ∧ Below w.heap.size w w' := by
 unfold b_Best.f at h
 obtain ⟨e0, he0, H⟩ := Option.bind_eq_some_iff.mp h
 clear h
 have BX := Sd.mk (blk_new w (.cells #[.slice A00 l00.length c00, .slice A01 l01.length c01, .slice A02 l02.length c02, .slice A03 l03.length c03, .int .i64 a04, .int .i64 a05, .int .i64 a06] 29))
 have HB := Sd.mk (below_alloc (Below.refl w.heap.size w) (.cells #[.slice A00 l00.length c00, .slice A01 l01.length c01, .slice A02 l02.length c02, .slice A03 l03.length c03, .int .i64 a04, .int .i64 a05, .int .i64 a06] 29))
 have HR := Sd.mk (And.intro hr00 (And.intro hr01 (And.intro hr02 hr03)))
 clear hr00 hr01 hr02 hr03
 have HE := Sd.mk he0
 have HH := Sd.mk H
 clear he0 H
 go_enter Tryz.func28, Tryz.ntmps28
 go_upto_region 1 with (fail)
 generalize w.alloc (.cells #[.slice A00 l00.length c00, .slice A01 l01.length c01, .slice A02 l02.length c02, .slice A03 l03.length c03, .int .i64 a04, .int .i64 a05, .int .i64 a06] 29) = W0 at BX HB ⊢
 obtain ⟨g0, g1, g2, g3, g4, g5, g6, _⟩ := bc7 BX.out
 go_upto_region 2 with (go_at_call 34; (refine (b_Check.calls k A00 c00 l00 A01 c01 l01 A02 c02 l02 A03 c03 l03 a04 a05 a06 e0 _ (Kd.C_below HR.out.1 HB.out) hc00 (Kd.C_below HR.out.2.1 HB.out) hc01 (Kd.C_below HR.out.2.2.1 HB.out) hc02 (Kd.C_below HR.out.2.2.2 HB.out) hc03 HE.out).mono ?_); rintro e W1 ⟨rfl, hb⟩; clear g0 g1 g2 g3 g4 g5 g6; replace BX := Sd.mk (blk_below BX.out hb); replace HB := Sd.mk (below_then HB.out HB.out.size hb); clear hb; obtain ⟨g0, g1, g2, g3, g4, g5, g6, _⟩ := bc7 BX.out)
 by_cases hz : e0 = 0
 ·have H := HH.out
  rw [if_pos hz] at H
  obtain ⟨b0, hb0, H⟩ := Option.bind_eq_some_iff.mp H
  have HF := Sd.mk hb0
  replace HH := Sd.mk H
  clear H hb0
  cases b0 with
  | false =>
   have H := HH.out
   simp only [Bool.false_eq_true, if_false, Option.some.injEq, Prod.mk.injEq] at H
   obtain ⟨rfl, rfl, rfl, rfl⟩ := H
   clear HH
   go_wp2_with (first | (go_at_call 88; (refine (b_few.calls k A00 c00 l00 A01 c01 l01 A02 c02 l02 A03 c03 l03 a04 a05 a06 _ _ (Kd.C_below HR.out.1 HB.out) hc00 (Kd.C_below HR.out.2.1 HB.out) hc01 (Kd.C_below HR.out.2.2.1 HB.out) hc02 (Kd.C_below HR.out.2.2.2 HB.out) hc03 HF.out).mono ?_); rintro e W2 ⟨rfl, hb⟩; clear g0 g1 g2 g3 g4 g5 g6; replace BX := Sd.mk (blk_below BX.out hb); replace HB := Sd.mk (below_then HB.out HB.out.size hb); clear hb; obtain ⟨g0, g1, g2, g3, g4, g5, g6, _⟩ := bc7 BX.out))
   refine bodyPost_ret (v := .tuple #[.slice none 0 0, .int .i64 0, .bool false, .int .i64 9]) (by simp [results, Tryz.results28]) rfl ?_
   exact ⟨_, rfl, Kd.R_nil _ _ _ _ _, HB.out⟩
  | true =>
   have H := HH.out
   rw [if_pos rfl] at H
   by_cases hck : checkV l00 l01 l02 l03 a04 a05 a06 = 0
   rotate_left
   ·rw [if_neg hck] at H; cases H
   rw [if_pos hck] at H
   simp only [Option.some.injEq, Prod.mk.injEq] at H
   obtain ⟨rfl, rfl, rfl, rfl⟩ := H
   have CKV := Sd.mk hck
   clear HH hck
   go_upto_region 7 with (first | (go_at_call 88; (refine (b_few.calls k A00 c00 l00 A01 c01 l01 A02 c02 l02 A03 c03 l03 a04 a05 a06 _ _ (Kd.C_below HR.out.1 HB.out) hc00 (Kd.C_below HR.out.2.1 HB.out) hc01 (Kd.C_below HR.out.2.2.1 HB.out) hc02 (Kd.C_below HR.out.2.2.2 HB.out) hc03 HF.out).mono ?_); rintro e W2 ⟨rfl, hb⟩; clear g0 g1 g2 g3 g4 g5 g6; replace BX := Sd.mk (blk_below BX.out hb); replace HB := Sd.mk (below_then HB.out HB.out.size hb); clear hb; obtain ⟨g0, g1, g2, g3, g4, g5, g6, _⟩ := bc7 BX.out) | (go_at_call 52; (refine (x_lines.calls A00 c00 l00 A01 c01 l01 A02 c02 l02 A03 c03 l03 a04 a05 a06 (linesV l01 l02 l03 a04 a05 a06) _ (Kd.C_below HR.out.1 HB.out) hc00 (Kd.C_below HR.out.2.1 HB.out) hc01 (Kd.C_below HR.out.2.2.1 HB.out) hc02 (Kd.C_below HR.out.2.2.2 HB.out) hc03 (by unfold x_lines.f; rw [if_pos CKV.out])).mono ?_); rintro e W3 ⟨v3, rfl, hl3, hb⟩; obtain ⟨A9, c9, rfl, hlc, hl9⟩ := Kd.R_reads hl3; have LN := Sd.mk (And.intro hlc hl9); clear hlc hl9 hl3; clear g0 g1 g2 g3 g4 g5 g6; replace BX := Sd.mk (blk_below BX.out hb); replace HB := Sd.mk (below_then HB.out HB.out.size hb); clear hb; obtain ⟨g0, g1, g2, g3, g4, g5, g6, _⟩ := bc7 BX.out))
   have BL := Sd.mk (blk_new W3 (.cells #[.slice A9 (linesV l01 l02 l03 a04 a05 a06).length c9] 100))
   have hb := below_alloc (Below.refl W3.heap.size W3) (.cells #[.slice A9 (linesV l01 l02 l03 a04 a05 a06).length c9] 100)
   replace LN := Sd.mk (And.intro LN.out.1 (Kd.C_below LN.out.2 hb))
   clear g0 g1 g2 g3 g4 g5 g6; replace BX := Sd.mk (blk_below BX.out hb); replace HB := Sd.mk (below_then HB.out HB.out.size hb); clear hb
   generalize W3.alloc (.cells #[.slice A9 (linesV l01 l02 l03 a04 a05 a06).length c9] 100) = W4 at BX HB BL LN ⊢
   generalize W3.heap.size = Bl at BL ⊢
   obtain ⟨g0, g1, g2, g3, g4, g5, g6, _⟩ := bc7 BX.out
   have HK := check_ok CKV.out
   have hBl := blk_lt BL.out
   have HC := cheapest_calls 90 #[.pointer (some ⟨Bl, 0, none⟩)] A00 A01 A02 A03 c00 c01 c02 c03 l00 l01 l02 l03 a04 a05 a06 (enters_of Tryz.func90 (by kernel_rfl) rfl) (passB l01 l02 l03 a04 a05 a06) (fun r => cW l01 r l01.length) (allR l01).length (rsAt l01) (fun W => Below W4.heap.size W4 W) W4 (by have := HK.m1; omega) HK.m12 hc00 hc01 hc02 hc03 (allR_pos l01) (rsAt_zero l01) (rsAt_len l01) (rsAt_next l01 (mats_b HK))
    (fun i hi => by
     obtain ⟨K, hK⟩ := bcost_l0 l01 (rsAt l01 i) HK.m12 (rsAt_len l01 i) l01.length 0 (by omega)
     exact ⟨K, hK K (Nat.le_refl _)⟩)
    (fun W W' hb h => h.trans hb)
    (fun W h => ⟨Kd.C_below (Kd.C_below HR.out.1 HB.out) h, Kd.C_below (Kd.C_below HR.out.2.1 HB.out) h, Kd.C_below (Kd.C_below HR.out.2.2.1 HB.out) h, Kd.C_below (Kd.C_below HR.out.2.2.2 HB.out) h⟩)
    (fun i hi W A h hs _ hri => by
     have hq := best1_calls Bl A9 c9 (linesV l01 l02 l03 a04 a05 a06) A (rsAt l01 i) (passB l01 l02 l03 a04 a05 a06 (rsAt l01 i)) W (blk_below BL.out h) (Kd.C_below LN.out.2 h) LN.out.1 hri (keeps_f l00 l01 l02 l03 a04 a05 a06 (rsAt l01 i) HK (rsAt_rec (mats_b HK) i hi))
     exact Calls.mono hq (fun e W' he => ⟨he.1, h.trans (he.2.mono hs), KeepHi.of_below he.2⟩))
    (Below.refl _ _)
   rw [chF_best] at HC
   go_wp2_with (go_at_call 89; (refine HC.mono ?_); rintro e W5 ⟨v5, rfl, hv5, hb5, hs5⟩)
   refine bodyPost_ret (v := .tuple #[v5, .int .i64 (bestV l01 l02 l03 a04 a05 a06).2.1, .bool (bestV l01 l02 l03 a04 a05 a06).2.2, .int .i64 0]) (by simp [results, Tryz.results28]) rfl ?_
   exact ⟨_, rfl, Kd.R_lower (Kd.R_mono hv5 (fun _ _ => trivial)) HB.out.size, below_then HB.out HB.out.size hb5⟩
 ·have H := HH.out
  rw [if_neg hz] at H
  simp only [Option.some.injEq, Prod.mk.injEq] at H
  obtain ⟨rfl, rfl, rfl, rfl⟩ := H
  clear HH
  go_wp2
  refine bodyPost_ret (v := .tuple #[.slice none 0 0, .int .i64 0, .bool false, .int .i64 e0]) (by simp [results, Tryz.results28]) rfl ?_
  exact ⟨_, rfl, Kd.R_nil _ _ _ _ _, HB.out⟩
end
section
def rf_Choices.l0 : Nat → Int → Int → List ByteArray → List (S70) → List (S27) → List (S89) → Int → Int → Int → Option (Int)
 | 0, _, _, _, _, _, _, _, _, _ => none
 | k + 1, x3, x4, x887q0, x887q1, x887q2, x887q3, x887q4, x887q5, x887q6 => if x4 < (x887q1.length : Int) then (if x3 ≤ 100000 then (if 0 ≤ x4 then (if ((rd_T70 x887q1 x4).f5) = 0 then (none) else (rf_Choices.l0 k (wrap64 (x3 * (wrap64 ((wrap64 (Int.tdiv (wrap64 (((rd_T70 x887q1 x4).f4) - ((rd_T70 x887q1 x4).f3))) ((rd_T70 x887q1 x4).f5))) + 1)))) (wrap64 (x4 + 1)) x887q0 x887q1 x887q2 x887q3 x887q4 x887q5 x887q6)) else (none)) else (some x3)) else (some x3)
def rf_Choices.f (k : Nat) (l00 : List ByteArray) (l01 : List (S70)) (l02 : List (S27)) (l03 : List (S89)) (a04 : Int) (a05 : Int) (a06 : Int) : Option (Int) := rf_Choices.l0 k 1 0 l00 l01 l02 l03 a04 a05 a06
theorem rf_Choices.calls (k : Nat) (A00 : Option Addr) (c00 : Nat) (l00 : List ByteArray) (A01 : Option Addr) (c01 : Nat) (l01 : List (S70)) (A02 : Option Addr) (c02 : Nat) (l02 : List (S27)) (A03 : Option Addr) (c03 : Nat) (l03 : List (S89)) (a04 : Int) (a05 : Int) (a06 : Int) (r : Int) (w : World) (hr00 : Kd.C Kd.string w A00 l00.length l00) (hc00 : l00.length ≤ c00) (hr01 : Kd.C k70 w A01 l01.length l01) (hc01 : l01.length ≤ c01) (hr02 : Kd.C k27 w A02 l02.length l02) (hc02 : l02.length ≤ c02) (hr03 : Kd.C k89 w A03 l03.length l03) (hc03 : l03.length ≤ c03) (h : rf_Choices.f k l00 l01 l02 l03 a04 a05 a06 = some r) :
  Calls Tryz.prog 87 #[.agg #[.slice A00 l00.length c00, .slice A01 l01.length c01, .slice A02 l02.length c02, .slice A03 l03.length c03, .int .i64 a04, .int .i64 a05, .int .i64 a06]] w fun e w' => e = .returned (.int .i64 r) ∧ Below w.heap.size w w' := by
 have hu29 := Tryz.underlying29; have hu70 := Tryz.underlying70; have HR00 := Sd.mk hr00; have HC00 := Sd.mk hc00; clear hr00 hc00; have HR01 := Sd.mk hr01; have HC01 := Sd.mk hc01; clear hr01 hc01; have HR02 := Sd.mk hr02; have HC02 := Sd.mk hc02; clear hr02 hc02; have HR03 := Sd.mk hr03; have HC03 := Sd.mk hc03; clear hr03 hc03; have HB := Sd.mk (Below.refl w.heap.size w)
 have H : (rf_Choices.l0 k 1 0 l00 l01 l02 l03 a04 a05 a06) = some r := h
 clear h; have H' := Sd.mk H; clear H
 go_enter Tryz.func87, Tryz.ntmps87
 go_wp2_with (first | ((with_reducible refine gate_dst (N := 1) rfl ?_); refine box_event ?hg (N := 1) ?hd (cs := #[.slice A00 l00.length c00, .slice A01 l01.length c01, .slice A02 l02.length c02, .slice A03 l03.length c03, .int .i64 a04, .int .i64 a05, .int .i64 a06]) (t := 29) ?hr ?_; (case hd => rfl); (case hg => rfl); (case hr => exact tG); intro gb886 hg w2 hbox hb; have BK886 := Sd.mk (hbox); have GW886 := Sd.mk (bSz hg (bBl HB.out)); have GE886 := Sd.mk (bSz hg (bBl HB.out)); replace HB := Sd.mk (below_step (bBl HB.out) hb); clear hb hbox hg))
 go_loopg [3, 4] k (fun kq v3 v4 w' => ∃ (x31 : Int) (x41 : Int), v3 = .int .i64 x31 ∧ v4 = .int .i64 x41 ∧ Sd (rf_Choices.l0 kq x31 x41 l00 l01 l02 l03 a04 a05 a06 = some r) ∧ Sd (kq ≤ k) ∧ Sd (w'.heap[gb886]? = some (.cells #[(.slice A00 l00.length c00), (.slice A01 l01.length c01), (.slice A02 l02.length c02), (.slice A03 l03.length c03), .int .i64 a04, .int .i64 a05, .int .i64 a06] 29 (0, 0))) ∧ Sd (Below w.heap.size w w'))
 case atStart => exact ⟨(1), (0), tS, tS, H', ⟨Nat.le_refl _⟩, ⟨bkA BK886.out⟩, ⟨bBl HB.out⟩⟩
 case round =>
  clear H'; (try clear p2); obtain ⟨x31, x41, rfl, rfl, HA, HK1, BK886, HB⟩ := hrel
  cases gk with
  | zero => exact absurd HA.out (by simp [rf_Choices.l0])
  | succ k1 =>
   have H := HA.out; clear HA
   simp only [rf_Choices.l0] at H
   by_cases c3 : x41 < (l01.length : Int)
   ·rw [if_pos c3] at H
    have c3b0 : decide (x41 < (l01.length : Int)) = true := decide_eq_true c3
    clear c3
    by_cases c4 : x31 ≤ 100000
    ·rw [if_pos c4] at H
     have c4b0 : decide (x31 ≤ 100000) = true := decide_eq_true c4
     clear c4
     by_cases c5 : 0 ≤ x41
     ·rw [if_pos c5] at H
      have c5b0 : decide (0 ≤ x41) = true := decide_eq_true c5
      clear c5
      by_cases c6 : ((rd_T70 l01 x41).f5) = 0
      ·rw [if_pos c6] at H
       exact absurd H (by simp)
      ·rw [if_neg c6] at H
       have c6b0 : (((rd_T70 l01 x41).f5) == 0) = false := beq_eq_false_iff_ne.mpr c6
       have c6b1 : (((rd_T70 l01 x41).f5) != 0) = true := bne_iff_ne.mpr c6
       have H' := Sd.mk H; clear H; obtain ⟨u7_0, u7_1, u7_2, u7_3, u7_4, u7_5, u7_6, o70, o71, o72, o73, o74, o75, o76⟩ := bc7 (w := wr) BK886.out
       have p887 : 0 ≤ (x41 : Int) := tB
       have q887 : x41 < (l01.length : Int) := tB
       obtain ⟨ad887, A8876, c8876, e887, hx8870, hx8871, hx8872, hx8873, hx8874, hx8875, hx8876, hl8876, hi8876⟩ := at_T70 HR01.out x41 p887 q887; cases e887; replace hx8870 := cU HB hx8870; replace hx8871 := cU HB hx8871; replace hx8872 := cU HB hx8872; replace hx8873 := cU HB hx8873; replace hx8874 := cU HB hx8874; replace hx8875 := cU HB hx8875; replace hx8876 := cU HB hx8876; have HR8876 := Sd.mk hi8876; have HC8876 := Sd.mk hl8876; clear hi8876 hl8876; replace p887 := eq_true p887; replace q887 := eq_true q887
       go_wp2_with (first | ((with_reducible refine gate_dst (N := 5) rfl ?_); refine box_event ?hg (N := 5) ?hd (cs := #[.string (⟨#[]⟩ : ByteArray), .int .i64 0, .int .i64 0, .int .i64 0, .int .i64 0, .int .i64 0, .slice none 0 0]) (t := 70) ?hr ?_; (case hd => rfl); (case hg => rfl); (case hr => exact tG); intro gb888 hg w8 hbox hb; have BK888 := Sd.mk (hbox); have GW888 := Sd.mk (bSz hg (bBl HB.out)); have GE888 := Sd.mk (bSz hg (bBl HB.out)); replace HB := Sd.mk (below_step (bBl HB.out) hb); have NB886888 := Sd.mk (bNl hg (bkA BK886.out)); have NB888886 := Sd.mk (bNg hg (bkA BK886.out)); replace BK886 := Sd.mk (blk_below (bkA BK886.out) hb); clear hb hbox hg; have hnb9 := NB888886.out; have hnc9 := NB886888.out; obtain ⟨u10_0, u10_1, u10_2, u10_3, u10_4, u10_5, u10_6, o100, o101, o102, o103, o104, o105, o106⟩ := bc7 (w := w8) BK888.out))
       go_roundg k1
       case measure => have := HK1.out; omega
       case rel => exact ⟨(wrap64 (x31 * (wrap64 ((wrap64 (Int.tdiv (wrap64 (((rd_T70 l01 x41).f4) - ((rd_T70 l01 x41).f3))) ((rd_T70 l01 x41).f5))) + 1)))), (wrap64 (x41 + 1)), tS, tS, H', ⟨by have := HK1.out; omega⟩, ⟨by refine bkZ ?_; refine blk_far ?_ NB886888.out _; refine bkZ ?_; refine blk_far ?_ NB886888.out _; refine bkZ ?_; refine blk_far ?_ NB886888.out _; refine bkZ ?_; refine blk_far ?_ NB886888.out _; refine bkZ ?_; refine blk_far ?_ NB886888.out _; refine bkZ ?_; refine blk_far ?_ NB886888.out _; refine bkZ ?_; refine blk_far ?_ NB886888.out _; refine bkZ ?_; exact BK886.out⟩, ⟨bBl HB.out⟩⟩
     ·rw [if_neg c5] at H
      exact absurd H (by simp)
    ·rw [if_neg c4] at H
     have c4b0 : decide (x31 ≤ 100000) = false := decide_eq_false c4
     clear c4; obtain rfl := Option.some.inj H; obtain ⟨u11_0, u11_1, u11_2, u11_3, u11_4, u11_5, u11_6, o110, o111, o112, o113, o114, o115, o116⟩ := bc7 (w := wr) BK886.out
     go_wp2
     go_ret
     exact ⟨tE, bBl HB.out⟩
   ·rw [if_neg c3] at H
    have c3b0 : decide (x41 < (l01.length : Int)) = false := decide_eq_false c3
    clear c3; obtain rfl := Option.some.inj H; obtain ⟨u12_0, u12_1, u12_2, u12_3, u12_4, u12_5, u12_6, o120, o121, o122, o123, o124, o125, o126⟩ := bc7 (w := wr) BK886.out
    go_wp2
    go_ret
    exact ⟨tE, bBl HB.out⟩
end
section
def lw_many.f (k : Nat) (l00 : List ByteArray) (l01 : List (S70)) (l02 : List (S27)) (l03 : List (S89)) (a04 : Int) (a05 : Int) (a06 : Int) : Option (Bool) := (rf_Check.f k l00 l01 l02 l03 a04 a05 a06).bind fun t890 => (if t890 = 0 then ((rf_Choices.f k l00 l01 l02 l03 a04 a05 a06).bind fun t891 => (if t891 > 3000 then (some (decide (t891 ≤ 100000))) else (some false))) else (some false))
theorem lw_many.calls (k : Nat) (A00 : Option Addr) (c00 : Nat) (l00 : List ByteArray) (A01 : Option Addr) (c01 : Nat) (l01 : List (S70)) (A02 : Option Addr) (c02 : Nat) (l02 : List (S27)) (A03 : Option Addr) (c03 : Nat) (l03 : List (S89)) (a04 : Int) (a05 : Int) (a06 : Int) (r : Bool) (w : World) (hr00 : Kd.C Kd.string w A00 l00.length l00) (hc00 : l00.length ≤ c00) (hr01 : Kd.C k70 w A01 l01.length l01) (hc01 : l01.length ≤ c01) (hr02 : Kd.C k27 w A02 l02.length l02) (hc02 : l02.length ≤ c02) (hr03 : Kd.C k89 w A03 l03.length l03) (hc03 : l03.length ≤ c03) (h : lw_many.f k l00 l01 l02 l03 a04 a05 a06 = some r) :
  Calls Tryz.prog 27 #[.agg #[.slice A00 l00.length c00, .slice A01 l01.length c01, .slice A02 l02.length c02, .slice A03 l03.length c03, .int .i64 a04, .int .i64 a05, .int .i64 a06]] w fun e w' => e = .returned (.bool r) ∧ Below w.heap.size w w' := by
 have hu29 := Tryz.underlying29; have HR00 := Sd.mk hr00; have HC00 := Sd.mk hc00; clear hr00 hc00; have HR01 := Sd.mk hr01; have HC01 := Sd.mk hc01; clear hr01 hc01; have HR02 := Sd.mk hr02; have HC02 := Sd.mk hc02; clear hr02 hc02; have HR03 := Sd.mk hr03; have HC03 := Sd.mk hc03; clear hr03 hc03; have HB := Sd.mk (Below.refl w.heap.size w)
 have H : ((rf_Check.f k l00 l01 l02 l03 a04 a05 a06).bind fun t890 => (if t890 = 0 then ((rf_Choices.f k l00 l01 l02 l03 a04 a05 a06).bind fun t891 => (if t891 > 3000 then (some (decide (t891 ≤ 100000))) else (some false))) else (some false))) = some r := h
 clear h; replace H := Option.bind_eq_some_iff.mp H; obtain ⟨t890, A20, H⟩ := H
 try dsimp only at H
 have A2 := Sd.mk A20; clear A20
 by_cases c3 : t890 = 0
 ·rw [if_pos c3] at H
  have c3b0 : (t890 == 0) = true := beq_iff_eq.mpr c3
  have c3b1 : (t890 != 0) = false := bne_eq_false_iff_eq.mpr c3
  clear c3; replace H := Option.bind_eq_some_iff.mp H; obtain ⟨t891, A40, H⟩ := H
  try dsimp only at H
  have A4 := Sd.mk A40; clear A40
  by_cases c5 : t891 > 3000
  ·rw [if_pos c5] at H
   have c5b0 : decide (3000 < t891) = true := decide_eq_true c5
   clear c5; obtain rfl := Option.some.inj H
   go_enter Tryz.func27, Tryz.ntmps27
   go_wp2_with (first | ((with_reducible refine gate_dst (N := 1) rfl ?_); refine box_event ?hg (N := 1) ?hd (cs := #[.slice A00 l00.length c00, .slice A01 l01.length c01, .slice A02 l02.length c02, .slice A03 l03.length c03, .int .i64 a04, .int .i64 a05, .int .i64 a06]) (t := 29) ?hr ?_; (case hd => rfl); (case hg => rfl); (case hr => exact tG); intro gb889 hg w6 hbox hb; have BK889 := Sd.mk (hbox); have GW889 := Sd.mk (bSz hg (bBl HB.out)); have GE889 := Sd.mk (bSz hg (bBl HB.out)); replace HB := Sd.mk (below_step (bBl HB.out) hb); clear hb hbox hg; obtain ⟨u7_0, u7_1, u7_2, u7_3, u7_4, u7_5, u7_6, o70, o71, o72, o73, o74, o75, o76⟩ := bc7 (w := w6) BK889.out) | ((with_reducible refine gate_callee (f := 86) rfl ?_); refine goesL_ (some 5) rfl rfl Tryz.func86 (by kernel_rfl) rfl #[.agg #[.slice A00 l00.length c00, .slice A01 l01.length c01, .slice A02 l02.length c02, .slice A03 l03.length c03, .int .i64 a04, .int .i64 a05, .int .i64 a06]] rfl tM ?_; (with_reducible refine (rf_Check.calls k _ _ l00 _ _ l01 _ _ l02 _ _ l03 a04 a05 a06 t890 _ (cS (Kd.C_below HR00.out HB.out)) HC00.out (cS (Kd.C_below HR01.out HB.out)) HC01.out (cS (Kd.C_below HR02.out HB.out)) HC02.out (cS (Kd.C_below HR03.out HB.out)) HC03.out A2.out).mono ?_); rintro e w8 ⟨rfl, hb⟩; refine ⟨_, rfl, ?_⟩; replace BK889 := Sd.mk (blk_below (bkA BK889.out) hb); replace HB := Sd.mk (below_step (bBl HB.out) hb); (try clear hb); (try clear hb2); (try clear hk); (try clear hi); obtain ⟨u9_0, u9_1, u9_2, u9_3, u9_4, u9_5, u9_6, o90, o91, o92, o93, o94, o95, o96⟩ := bc7 (w := w8) BK889.out) | ((with_reducible refine gate_callee (f := 87) rfl ?_); refine goesL_ (some 8) rfl rfl Tryz.func87 (by kernel_rfl) rfl #[.agg #[.slice A00 l00.length c00, .slice A01 l01.length c01, .slice A02 l02.length c02, .slice A03 l03.length c03, .int .i64 a04, .int .i64 a05, .int .i64 a06]] rfl tM ?_; (with_reducible refine (rf_Choices.calls k _ _ l00 _ _ l01 _ _ l02 _ _ l03 a04 a05 a06 t891 _ (cS (Kd.C_below HR00.out HB.out)) HC00.out (cS (Kd.C_below HR01.out HB.out)) HC01.out (cS (Kd.C_below HR02.out HB.out)) HC02.out (cS (Kd.C_below HR03.out HB.out)) HC03.out A4.out).mono ?_); rintro e w10 ⟨rfl, hb⟩; refine ⟨_, rfl, ?_⟩; replace BK889 := Sd.mk (blk_below (bkA BK889.out) hb); replace HB := Sd.mk (below_step (bBl HB.out) hb); (try clear hb); (try clear hb2); (try clear hk); (try clear hi)))
   go_ret
   exact ⟨tE, bBl HB.out⟩
  ·rw [if_neg c5] at H
   have c5b0 : decide (3000 < t891) = false := decide_eq_false c5
   clear c5; obtain rfl := Option.some.inj H
   go_enter Tryz.func27, Tryz.ntmps27
   go_wp2_with (first | ((with_reducible refine gate_dst (N := 1) rfl ?_); refine box_event ?hg (N := 1) ?hd (cs := #[.slice A00 l00.length c00, .slice A01 l01.length c01, .slice A02 l02.length c02, .slice A03 l03.length c03, .int .i64 a04, .int .i64 a05, .int .i64 a06]) (t := 29) ?hr ?_; (case hd => rfl); (case hg => rfl); (case hr => exact tG); intro gb889 hg w11 hbox hb; have BK889 := Sd.mk (hbox); have GW889 := Sd.mk (bSz hg (bBl HB.out)); have GE889 := Sd.mk (bSz hg (bBl HB.out)); replace HB := Sd.mk (below_step (bBl HB.out) hb); clear hb hbox hg; obtain ⟨u12_0, u12_1, u12_2, u12_3, u12_4, u12_5, u12_6, o120, o121, o122, o123, o124, o125, o126⟩ := bc7 (w := w11) BK889.out) | ((with_reducible refine gate_callee (f := 86) rfl ?_); refine goesL_ (some 5) rfl rfl Tryz.func86 (by kernel_rfl) rfl #[.agg #[.slice A00 l00.length c00, .slice A01 l01.length c01, .slice A02 l02.length c02, .slice A03 l03.length c03, .int .i64 a04, .int .i64 a05, .int .i64 a06]] rfl tM ?_; (with_reducible refine (rf_Check.calls k _ _ l00 _ _ l01 _ _ l02 _ _ l03 a04 a05 a06 t890 _ (cS (Kd.C_below HR00.out HB.out)) HC00.out (cS (Kd.C_below HR01.out HB.out)) HC01.out (cS (Kd.C_below HR02.out HB.out)) HC02.out (cS (Kd.C_below HR03.out HB.out)) HC03.out A2.out).mono ?_); rintro e w13 ⟨rfl, hb⟩; refine ⟨_, rfl, ?_⟩; replace BK889 := Sd.mk (blk_below (bkA BK889.out) hb); replace HB := Sd.mk (below_step (bBl HB.out) hb); (try clear hb); (try clear hb2); (try clear hk); (try clear hi); obtain ⟨u14_0, u14_1, u14_2, u14_3, u14_4, u14_5, u14_6, o140, o141, o142, o143, o144, o145, o146⟩ := bc7 (w := w13) BK889.out) | ((with_reducible refine gate_callee (f := 87) rfl ?_); refine goesL_ (some 8) rfl rfl Tryz.func87 (by kernel_rfl) rfl #[.agg #[.slice A00 l00.length c00, .slice A01 l01.length c01, .slice A02 l02.length c02, .slice A03 l03.length c03, .int .i64 a04, .int .i64 a05, .int .i64 a06]] rfl tM ?_; (with_reducible refine (rf_Choices.calls k _ _ l00 _ _ l01 _ _ l02 _ _ l03 a04 a05 a06 t891 _ (cS (Kd.C_below HR00.out HB.out)) HC00.out (cS (Kd.C_below HR01.out HB.out)) HC01.out (cS (Kd.C_below HR02.out HB.out)) HC02.out (cS (Kd.C_below HR03.out HB.out)) HC03.out A4.out).mono ?_); rintro e w15 ⟨rfl, hb⟩; refine ⟨_, rfl, ?_⟩; replace BK889 := Sd.mk (blk_below (bkA BK889.out) hb); replace HB := Sd.mk (below_step (bBl HB.out) hb); (try clear hb); (try clear hb2); (try clear hk); (try clear hi)))
   go_ret
   exact ⟨tE, bBl HB.out⟩
 ·rw [if_neg c3] at H
  have c3b0 : (t890 == 0) = false := beq_eq_false_iff_ne.mpr c3
  have c3b1 : (t890 != 0) = true := bne_iff_ne.mpr c3
  obtain rfl := Option.some.inj H
  go_enter Tryz.func27, Tryz.ntmps27
  go_wp2_with (first | ((with_reducible refine gate_dst (N := 1) rfl ?_); refine box_event ?hg (N := 1) ?hd (cs := #[.slice A00 l00.length c00, .slice A01 l01.length c01, .slice A02 l02.length c02, .slice A03 l03.length c03, .int .i64 a04, .int .i64 a05, .int .i64 a06]) (t := 29) ?hr ?_; (case hd => rfl); (case hg => rfl); (case hr => exact tG); intro gb889 hg w16 hbox hb; have BK889 := Sd.mk (hbox); have GW889 := Sd.mk (bSz hg (bBl HB.out)); have GE889 := Sd.mk (bSz hg (bBl HB.out)); replace HB := Sd.mk (below_step (bBl HB.out) hb); clear hb hbox hg; obtain ⟨u17_0, u17_1, u17_2, u17_3, u17_4, u17_5, u17_6, o170, o171, o172, o173, o174, o175, o176⟩ := bc7 (w := w16) BK889.out) | ((with_reducible refine gate_callee (f := 86) rfl ?_); refine goesL_ (some 5) rfl rfl Tryz.func86 (by kernel_rfl) rfl #[.agg #[.slice A00 l00.length c00, .slice A01 l01.length c01, .slice A02 l02.length c02, .slice A03 l03.length c03, .int .i64 a04, .int .i64 a05, .int .i64 a06]] rfl tM ?_; (with_reducible refine (rf_Check.calls k _ _ l00 _ _ l01 _ _ l02 _ _ l03 a04 a05 a06 t890 _ (cS (Kd.C_below HR00.out HB.out)) HC00.out (cS (Kd.C_below HR01.out HB.out)) HC01.out (cS (Kd.C_below HR02.out HB.out)) HC02.out (cS (Kd.C_below HR03.out HB.out)) HC03.out A2.out).mono ?_); rintro e w18 ⟨rfl, hb⟩; refine ⟨_, rfl, ?_⟩; replace BK889 := Sd.mk (blk_below (bkA BK889.out) hb); replace HB := Sd.mk (below_step (bBl HB.out) hb); (try clear hb); (try clear hb2); (try clear hk); (try clear hi)))
  go_ret
  exact ⟨tE, bBl HB.out⟩
end
section
def stepP (mt : List S70) (x : Int) (i : Nat) : Int := wrap64 (x * wrap64 (wrap64 (Int.tdiv (wrap64 ((rd_T70 mt (i : Int)).f4 - (rd_T70 mt (i : Int)).f3)) (rd_T70 mt (i : Int)).f5) + 1))
def fewW (mt : List S70) : Nat → Nat → Int → Bool
 | 0, _, _ => true
 | m + 1, i, x => if stepP mt x i > 100000 then false else fewW mt m (i + 1) (stepP mt x i)
def choW (mt : List S70) : Nat → Nat → Int → Int
 | 0, _, x => x
 | m + 1, i, x => if x ≤ 100000 then choW mt m (i + 1) (stepP mt x i) else x
theorem few_cho (mt : List S70) : ∀ (m i : Nat) (x : Int), x ≤ 100000 → fewW mt m i x = decide (choW mt m i x ≤ 100000)
 | 0, i, x, h => by simp [fewW, choW, h]
 | m + 1, i, x, h => by
  simp only [fewW, choW, if_pos h]
  by_cases h2 : stepP mt x i > 100000
  ·rw [if_pos h2]
   have : choW mt m (i + 1) (stepP mt x i) = stepP mt x i := by
    cases m with
    | zero => rfl
    | succ m => simp only [choW, if_neg (show ¬ stepP mt x i ≤ 100000 by omega)]
   rw [this, decide_eq_false (by omega)]
  ·rw [if_neg h2]; exact few_cho mt m (i + 1) _ (by omega)
section
variable (o : List ByteArray) (mt : List S70) (s : List S27) (p : List S89) (a4 a5 a6 : Int) (r : List Int)
theorem few_l0 (H : BatchOk o mt s p a4 a5 a6) : ∀ (m i : Nat) (x : Int), i + m = mt.length → Ev (fun k => b_few.l0 k x mt (mt.length : Int) (i : Int)) (fewW mt m i x)
 | 0, i, x, hi => by
  apply Ev.step
  simp only [b_few.l0, if_neg (show ¬ (i : Int) < (mt.length : Int) by omega), fewW]
  exact Ev.const _
 | m + 1, i, x, hi => by
  have ih := few_l0 H m (i + 1) (stepP mt x i) (by omega)
  have M := H.mats i (by omega)
  have hm := H.m12
  apply Ev.step
  simp only [b_few.l0, if_pos (show (i : Int) < (mt.length : Int) by omega), if_pos (i_pos i), if_neg (show ¬ (rd_T70 mt (i : Int)).f5 = 0 by have := M.step; omega), wrap_succ (i_pos i) (show (i : Int) ≤ 1000000000 by omega), fewW]
  show Ev (fun k => if stepP mt x i > 100000 then some false else b_few.l0 k (stepP mt x i) mt (mt.length : Int) ((i + 1 : Nat) : Int)) _
  by_cases h : stepP mt x i > 100000
  ·simp only [if_pos h]; exact Ev.const _
  ·simp only [if_neg h]; exact ih
theorem few_ev (H : BatchOk o mt s p a4 a5 a6) : Ev (fun k => b_few.f k o mt s p a4 a5 a6) (fewW mt mt.length 0 1) := by
 have := few_l0 o mt s p a4 a5 a6 H mt.length 0 1 (by omega)
 exact this
theorem cho_l0 (H : BatchOk o mt s p a4 a5 a6) : ∀ (m i : Nat) (x : Int), i + m = mt.length → Ev (fun k => rf_Choices.l0 k x (i : Int) o mt s p a4 a5 a6) (choW mt m i x)
 | 0, i, x, hi => by
  apply Ev.step
  simp only [rf_Choices.l0, if_neg (show ¬ (i : Int) < (mt.length : Int) by omega), choW]
  exact Ev.const _
 | m + 1, i, x, hi => by
  have ih := cho_l0 H m (i + 1) (stepP mt x i) (by omega)
  have M := H.mats i (by omega)
  have hm := H.m12
  apply Ev.step
  simp only [rf_Choices.l0, if_pos (show (i : Int) < (mt.length : Int) by omega), if_pos (i_pos i), if_neg (show ¬ (rd_T70 mt (i : Int)).f5 = 0 by have := M.step; omega), wrap_succ (i_pos i) (show (i : Int) ≤ 1000000000 by omega), choW]
  by_cases h : x ≤ 100000
  ·simp only [if_pos h]; exact ih
  ·simp only [if_neg h]; exact Ev.const _
theorem cho_ev (H : BatchOk o mt s p a4 a5 a6) : Ev (fun k => rf_Choices.f k o mt s p a4 a5 a6) (choW mt mt.length 0 1) := cho_l0 o mt s p a4 a5 a6 H mt.length 0 1 (by omega)
theorem many_ev : ∃ b, Ev (fun k => lw_many.f k o mt s p a4 a5 a6) b := by
 by_cases h : checkV o mt s p a4 a5 a6 = 0
 ·by_cases h2 : choW mt mt.length 0 1 > 3000
  ·refine ⟨decide (choW mt mt.length 0 1 ≤ 100000), ?_⟩
   unfold lw_many.f
   refine Ev.bind (rcheck o mt s p a4 a5 a6) ?_
   simp only [if_pos h]
   refine Ev.bind (cho_ev o mt s p a4 a5 a6 (check_ok h)) ?_
   simp only [if_pos h2]
   exact Ev.const _
  ·refine ⟨false, ?_⟩
   unfold lw_many.f
   refine Ev.bind (rcheck o mt s p a4 a5 a6) ?_
   simp only [if_pos h]
   refine Ev.bind (cho_ev o mt s p a4 a5 a6 (check_ok h)) ?_
   simp only [if_neg h2]
   exact Ev.const _
 ·refine ⟨false, ?_⟩
  unfold lw_many.f
  refine Ev.bind (rcheck o mt s p a4 a5 a6) ?_
  simp only [if_neg h]
  exact Ev.const _
def BestV : List Int × Int × Bool × Int :=
 if checkV o mt s p a4 a5 a6 = 0 then (if fewW mt mt.length 0 1 = true then ((bestV mt s p a4 a5 a6).1, (bestV mt s p a4 a5 a6).2.1, (bestV mt s p a4 a5 a6).2.2, 0) else ([], 0, false, 9)) else ([], 0, false, checkV o mt s p a4 a5 a6)
theorem best_ev : Ev (fun k => b_Best.f k o mt s p a4 a5 a6) (BestV o mt s p a4 a5 a6) := by
 unfold b_Best.f BestV
 refine Ev.bind (bcheck o mt s p a4 a5 a6) ?_
 by_cases h : checkV o mt s p a4 a5 a6 = 0
 ·simp only [if_pos h]
  refine Ev.bind (few_ev o mt s p a4 a5 a6 (check_ok h)) ?_
  by_cases h2 : fewW mt mt.length 0 1 = true
  ·simp only [if_pos h2]; exact Ev.const _
  ·simp only [if_neg h2]; exact Ev.const _
 ·simp only [if_neg h]; exact Ev.const _
end
structure ChQ (rt : List Int → Bool) (cst : List Int → Int) (L : List (List Int)) (st : List Int × Int × Bool) : Prop where
 no : st.2.2 = false → st = ([], 0, false) ∧ ∀ r ∈ L, rt r = false
 yes : st.2.2 = true → rt st.1 = true ∧ st.2.1 = cst st.1 ∧ ∃ L1 L2, L = L1 ++ st.1 :: L2 ∧ (∀ r ∈ L1, rt r = true → cst st.1 < cst r) ∧ (∀ r ∈ L2, rt r = true → cst st.1 ≤ cst r)
theorem ChQ.step {rt : List Int → Bool} {cst : List Int → Int} {L : List (List Int)} {st : List Int × Int × Bool} (h : ChQ rt cst L st) (r : List Int) : ChQ rt cst (L ++ [r]) (chStep rt cst st r) := by
 obtain ⟨b, n, f⟩ := st
 unfold chStep
 cases hr : rt r with
 | false =>
  simp only [Bool.and_false, Bool.false_eq_true, if_false]
  refine ⟨fun hf => ⟨(h.no hf).1, fun x hx => ?_⟩, fun hf => ?_⟩
  ·rcases List.mem_append.1 hx with hx | hx
   ·exact (h.no hf).2 x hx
   ·rw [List.mem_singleton.1 hx]; exact hr
  ·obtain ⟨h1, h2, L1, L2, h3, h4, h5⟩ := h.yes hf
   refine ⟨h1, h2, L1, L2 ++ [r], by rw [h3]; simp, h4, fun x hx hx2 => ?_⟩
   rcases List.mem_append.1 hx with hx | hx
   ·exact h5 x hx hx2
   ·rw [List.mem_singleton.1 hx, hr] at hx2; cases hx2
 | true =>
  simp only [Bool.and_true]
  by_cases hc : (!f || decide (cst r < n)) = true
  ·rw [if_pos hc]
   refine ⟨fun hf => (by cases hf), fun _ => ⟨hr, rfl, L, [], rfl, fun x hx hx2 => ?_, fun x hx => by cases hx⟩⟩
   cases f with
   | false => rw [(h.no rfl).2 x hx] at hx2; cases hx2
   | true =>
    simp at hc
    obtain ⟨h1, h2, L1, L2, h3, h4, h5⟩ := h.yes rfl
    simp only at h1 h2 h3 h4 h5
    rw [h3] at hx
    rcases List.mem_append.1 hx with hx | hx
    ·have := h4 x hx hx2; show cst r < cst x; omega
    ·rcases List.mem_cons.1 hx with rfl | hx
     ·show cst r < cst x; omega
     ·have := h5 x hx hx2; show cst r < cst x; omega
  ·rw [if_neg hc]
   cases f with
   | false => simp at hc
   | true =>
    simp at hc
    refine ⟨fun hf => (by cases hf), fun hf => ?_⟩
    obtain ⟨h1, h2, L1, L2, h3, h4, h5⟩ := h.yes hf
    simp only at h1 h2 h3 h4 h5
    refine ⟨h1, h2, L1, L2 ++ [r], by rw [h3]; simp, h4, fun x hx hx2 => ?_⟩
    rcases List.mem_append.1 hx with hx | hx
    ·exact h5 x hx hx2
    ·rw [List.mem_singleton.1 hx]; show cst b ≤ cst r; omega
theorem ChQ.fold {rt : List Int → Bool} {cst : List Int → Int} : ∀ (L pre : List (List Int)) (st : List Int × Int × Bool), ChQ rt cst pre st → ChQ rt cst (pre ++ L) (L.foldl (chStep rt cst) st)
 | [], pre, st, h => by simpa using h
 | r :: L, pre, st, h => by
  have := ChQ.fold L (pre ++ [r]) _ (h.step r)
  simpa using this
theorem best_q (mt : List S70) (s : List S27) (p : List S89) (a4 a5 a6 : Int) : ChQ (passB mt s p a4 a5 a6) (fun r => cW mt r mt.length) (allR mt) (bestV mt s p a4 a5 a6) := by
 have h : ChQ (passB mt s p a4 a5 a6) (fun r => cW mt r mt.length) [] ([], 0, false) := ⟨fun _ => ⟨rfl, fun r hr => by cases hr⟩, fun hf => by cases hf⟩
 exact ChQ.fold (allR mt) [] _ h
theorem kilosF_in (s : Int) : ∀ (c : Nat) (k : Int) (j : Nat), j < c → k + (j : Int) * s ∈ kilosF s c k
 | c + 1, k, 0, _ => by simp [kilosF]
 | c + 1, k, j + 1, h => by
  rw [kilosF, List.mem_cons]
  right
  have := kilosF_in s c (k + s) j (by omega)
  rwa [show k + ((j + 1 : Nat) : Int) * s = k + s + (j : Int) * s by push_cast; rw [Int.add_mul, Int.one_mul]; omega]
end
section
def keepV (L : List S168) (r : List Int) (t : Int) : Bool := !(L.any fun x => decide (wrap64 (t * x.f1) < vW r x.f0 x.f0.length))
def sumV (wr : List Int) (lots : Int) (r : List Int) : List Int := (List.range wr.length).map fun (i : Nat) => wrap64 (rd wr (i : Int) + wrap64 (lots * rd r (i : Int)))
theorem sumV_len (wr : List Int) (lots : Int) (r : List Int) : (sumV wr lots r).length = wr.length := by simp [sumV]
theorem rKeepsV_l0 {n : Nat} {r : List Int} (t : Int) (L : List S168) (hn : n ≤ 12) (hr : r.length = n) (hL : ∀ x ∈ L, x.f0.length = n) (hl : L.length ≤ 1000000) :
    ∀ (m i : Nat), i + m = L.length → Ev (fun k => rf_Keeps.l0 k L r t (i : Int)) (!((L.drop i).any fun x => decide (wrap64 (t * x.f1) < vW r x.f0 x.f0.length)))
  | 0, i, hi => by
    apply Ev.step
    simp only [rf_Keeps.l0, if_neg (show ¬ (i : Int) < (L.length : Int) by omega)]
    rw [List.drop_of_length_le (by omega)]
    exact Ev.const _
  | m + 1, i, hi => by
    have ih := rKeepsV_l0 t L hn hr hL hl m (i + 1) (by omega)
    have hlt : i < L.length := by omega
    have hg : rd_T168 L (i : Int) = L[i] := by simp [rd_T168, hlt]
    have hx := hL L[i] (List.getElem_mem hlt)
    have ht : Ev (fun k => rf_Total.f k L[i].f0 L[i].f1 r) (vW r L[i].f0 r.length) := rTotal_l0 r L[i].f0 L[i].f1 (by omega) (by omega) r.length 0 (by omega)
    rw [List.drop_eq_getElem_cons hlt, List.any_cons]
    apply Ev.step
    simp only [rf_Keeps.l0, if_pos (show (i : Int) < (L.length : Int) by omega), if_pos (i_pos i), hg, wrap_succ (i_pos i) (show (i : Int) ≤ 1000000000 by omega)]
    refine Ev.bind ht ?_
    rw [hx, ← hr]
    by_cases hc : vW r L[i].f0 r.length > wrap64 (t * L[i].f1)
    · simp only [if_pos hc, decide_eq_true (show wrap64 (t * L[i].f1) < vW r L[i].f0 r.length from hc), Bool.true_or, Bool.not_true]; exact Ev.const _
    · simp only [if_neg hc, decide_eq_false (show ¬ wrap64 (t * L[i].f1) < vW r L[i].f0 r.length from hc), Bool.false_or]; exact ih
theorem rKeepsV {n : Nat} {r : List Int} (t : Int) (L : List S168) (hn : n ≤ 12) (hr : r.length = n) (hL : ∀ x ∈ L, x.f0.length = n) (hl : L.length ≤ 1000000) : Ev (fun k => rf_Keeps.f k L r t) (keepV L r t) := by
  have h := rKeepsV_l0 t L hn hr hL hl L.length 0 (by omega)
  rw [List.drop_zero] at h
  exact h
theorem keepV_f {n : Nat} {r : List Int} (t : Int) (L : List S168) (hn : n ≤ 12) (hr : r.length = n) (hL : ∀ x ∈ L, x.f0.length = n) : x_keeps.f L r t = some (keepV L r t) := by
  unfold x_keeps.f keepV
  rw [if_pos (List.all_eq_true.2 fun x hx => by have h := hL x hx; simp only [Bool.and_eq_true, decide_eq_true_eq]; omega)]
def rStep (rt : List Int → Bool) (cst : List Int → Int) (st : Option (List Int)) (r : List Int) : Option (List Int) :=
  if (rt r && (match st with | none => true | some b => decide (cst r < cst b))) = true then some r else st
def firstV (rt : List Int → Bool) (cst : List Int → Int) (ms : List S70) (hv : List Int) (st : Option (List Int)) : Option (List Int) := ((allR ms).map (hv ++ ·)).foldl (rStep rt cst) st
theorem firstV_nil (rt : List Int → Bool) (cst : List Int → Int) (hv : List Int) (st : Option (List Int)) : firstV rt cst [] hv st = rStep rt cst st hv := by simp [firstV, allR]
theorem firstV_cons (rt : List Int → Bool) (cst : List Int → Int) (m : S70) (ms : List S70) (hv : List Int) (st : Option (List Int)) : firstV rt cst (m :: ms) hv st = (kilosF m.f5 (cntM m) m.f3).foldl (fun st k => firstV rt cst ms (hv ++ [k]) st) st := by
  unfold firstV
  rw [allR, List.map_flatMap, List.foldl_flatMap]
  congr 1
  funext st k
  rw [List.map_map]
  congr 2
  funext q
  simp
def toOpt (st : List Int × Int × Bool) : Option (List Int) := if st.2.2 = true then some st.1 else none
theorem fold_opt (rt : List Int → Bool) (cst : List Int → Int) : ∀ (L : List (List Int)) (st : List Int × Int × Bool), (st.2.2 = true → st.2.1 = cst st.1) → toOpt (L.foldl (chStep rt cst) st) = L.foldl (rStep rt cst) (toOpt st)
  | [], _, _ => rfl
  | r :: L, (b, n, f), h => by
    have hs : toOpt (chStep rt cst (b, n, f) r) = rStep rt cst (toOpt (b, n, f)) r ∧ ((chStep rt cst (b, n, f) r).2.2 = true → (chStep rt cst (b, n, f) r).2.1 = cst (chStep rt cst (b, n, f) r).1) := by
      unfold chStep rStep toOpt
      cases f with
      | false =>
        cases hr : rt r <;> simp
      | true =>
        have h2 : n = cst b := h rfl
        subst h2
        cases hr : rt r with
        | false => simp
        | true =>
          by_cases hc : cst r < cst b
          · simp [hc]
          · simp [hc]
    rw [List.foldl_cons, List.foldl_cons, fold_opt rt cst L _ hs.2, hs.1]
section
variable (mt : List S70) (s : List S27) (p : List S89) (a4 a5 a6 : Int)
def corrB (wr : List Int) (lots : Int) (r : List Int) : Bool := keepV (linesV mt s p a4 a5 a6) (sumV wr lots r) (wrap64 (lots + 1))
def corrV (wr : List Int) (lots : Int) : List Int × Int × Bool := (allR mt).foldl (chStep (corrB mt s p a4 a5 a6 wr lots) (fun r => cW mt r mt.length)) ([], 0, false)
theorem chF_corr (wr : List Int) (lots : Int) : chF (corrB mt s p a4 a5 a6 wr lots) (fun r => cW mt r mt.length) (rsAt mt) (allR mt).length = corrV mt s p a4 a5 a6 wr lots := by
  unfold chF corrV
  rw [rs_map]
theorem corr_q (wr : List Int) (lots : Int) : ChQ (corrB mt s p a4 a5 a6 wr lots) (fun r => cW mt r mt.length) (allR mt) (corrV mt s p a4 a5 a6 wr lots) := by
  have h : ChQ (corrB mt s p a4 a5 a6 wr lots) (fun r => cW mt r mt.length) [] ([], 0, false) := ⟨fun _ => ⟨rfl, fun r hr => by cases hr⟩, fun hf => by cases hf⟩
  exact ChQ.fold (allR mt) [] _ h
theorem best_opt : firstV (passB mt s p a4 a5 a6) (fun r => cW mt r mt.length) mt [] none = toOpt (bestV mt s p a4 a5 a6) := by
  unfold firstV bestV
  rw [fold_opt _ _ _ _ (fun h => by cases h)]
  simp [toOpt]
theorem corr_opt (wr : List Int) (lots : Int) : firstV (corrB mt s p a4 a5 a6 wr lots) (fun r => cW mt r mt.length) mt [] none = toOpt (corrV mt s p a4 a5 a6 wr lots) := by
  unfold firstV corrV
  rw [fold_opt _ _ _ _ (fun h => by cases h)]
  simp [toOpt]
end
theorem q_opt {rt : List Int → Bool} {cst : List Int → Int} {L : List (List Int)} {st : List Int × Int × Bool} (h : ChQ rt cst L st) : (toOpt st = none → st = ([], 0, false)) ∧ (∀ b, toOpt st = some b → st = (b, cst b, true) ∧ b ∈ L) := by
  obtain ⟨b, n, f⟩ := st
  cases f with
  | false => exact ⟨fun _ => (h.no rfl).1, fun b hb => by simp [toOpt] at hb⟩
  | true =>
    obtain ⟨h1, h2, L1, L2, h3, _, _⟩ := h.yes rfl
    simp only at h2 h3
    refine ⟨fun hb => by simp [toOpt] at hb, fun b' hb => ?_⟩
    simp only [toOpt, if_true, Option.some.injEq] at hb
    subst hb
    exact ⟨by rw [h2], by rw [h3]; simp⟩
section
variable (o : List ByteArray) (mt : List S70) (s : List S27) (p : List S89) (a4 a5 a6 : Int) (wr : List Int) (lots : Int)
def CorrV : List Int × Int × Bool × Int :=
  if askV o mt s p a4 a5 a6 wr = 0 then (if 1 ≤ lots ∧ lots ≤ 100 then (if fewW mt mt.length 0 1 = true then ((corrV mt s p a4 a5 a6 wr lots).1, (corrV mt s p a4 a5 a6 wr lots).2.1, (corrV mt s p a4 a5 a6 wr lots).2.2, 0) else ([], 0, false, 9)) else ([], 0, false, 1)) else ([], 0, false, askV o mt s p a4 a5 a6 wr)
end
theorem sum_step {n j : Nat} {xs s : List Int} (hx : xs.length = n) (hj : j < n) (h : ∀ i : Nat, i < j → rd xs (i : Int) = rd s (i : Int)) : ∀ i : Nat, i < j + 1 → rd (xs.set j (rd s (j : Int))) (i : Int) = rd s (i : Int) := by
  intro i hi
  by_cases e : i = j
  · subst e
    simp [rd, hx, hj]
  · have h1 := h i (by omega)
    simp only [rd, Int.toNat_natCast, List.getD_eq_getElem?_getD] at h1 ⊢
    rw [List.getElem?_set, if_neg (fun h => e h.symm)]
    exact h1
theorem sum_end {n : Nat} {xs s : List Int} (hx : xs.length = n) (hs : s.length = n) (h : ∀ i : Nat, i < n → rd xs (i : Int) = rd s (i : Int)) : xs = s := by
  apply List.ext_getElem (by omega)
  intro i h1 h2
  have := h i (by omega)
  simpa [rd, h1, h2] using this
theorem sumV_rd {wr r : List Int} {lots : Int} {j : Nat} (hj : j < wr.length) : rd (sumV wr lots r) (j : Int) = wrap64 (rd wr (j : Int) + wrap64 (lots * rd r (j : Int))) := by
  simp [sumV, rd, hj]
end
section
section
variable {P : Program} {ops : Array Oper} {Q : Exit → Act → World → Prop} {md : Region.Mode} {S : World → Prop} {ds : List Nat} {T : Bool × List (List Nat × List Nat)} {oi : Oper} {fuel : Nat} {l : Array Bool} {a a' : Act} {w : World}
theorem pN (i : Nat) (N : Option Tmp) (l' : Array Bool) (h : wpAnyLast P md ops Q S ds fuel l' a' w) (hT : Sd (rtab md ops = T) := by assumption) (hi : ops[i]? = some oi := by rfl) (hN : oi.dst = N := by rfl) (hc : anyT T l.toList l'.toList i = true := by kernel_rfl)
  (hQ : ∀ c a w, Q (.panic c) (a.put oi.dst undef) w → Q (.panic c) a w := by exact fun _ _ _ h => h) (h1 : Region.wanted oi (yielded ops a.tmps) = false := by rfl)
  (ha : a.put N undef = a' := by simp only [Act.put, List.setIfInBounds_toArray, List.set_cons_zero, List.set_cons_succ, i64_w, i32_w]; rfl) : wpAnyLast P md ops Q S ds (fuel + 1) l a w :=
 pure_ l' hi hN (any_of hT.out hc) hQ (Or.inr ⟨h1, rfl⟩) ha h
theorem nQ {N0 : Option Tmp} {v : Value} (N : Tmp) (h : wpAnyLast P md ops Q S ds fuel l a' w) (hN : N0 = some N := by rfl) (ha : a.put (some N) v = a' := by simp only [Act.put, List.setIfInBounds_toArray, List.set_cons_zero, List.set_cons_succ, i64_w, i32_w]; rfl) : wpAnyLast P md ops Q S ds fuel l (a.put N0 v) w := by
 subst hN
 subst ha
 exact h
theorem gQ {N : Option Tmp} {K : Act → World → Prop} {f : FuncId} {fn : Func} {as_ : Array Operand} {ts : Array TypeId} (hf : P.funcs[f]? = some fn) (args : Array Value) (h : Calls P f args w fun e w' => ∃ v, e = .returned v ∧ K (a.put N v) w')
  (hname : (fn.name == "runtime.NumGoroutine") = false := by kernel_rfl) (hb : fn.body.isSome = true := by rfl) (hw : Region.wanted oi (yielded ops a.tmps) = true := by (try simp only [Array.map_toArray, List.map_toArray, List.map_cons, List.map_nil]); rfl) (hN : oi.dst = N := by rfl) (hop : oi.op = .call { callee := .value (.func f), args := as_, argTypes := ts } := by rfl) (hargs : as_.map a.eval = args := by (try simp only [List.map_toArray, List.map_cons, List.map_nil]); first | done | rfl) : if Region.wanted oi (yielded ops a.tmps) = true then Oper.wp P oi a w K Q else K (a.put N undef) w :=
 goes_ hf hname hb args hw hN hop hargs h
end
def Cs7 (g : Nat) (w : World) (v0 v1 v2 v3 v4 v5 v6 : Value) : Prop := w.cell? ⟨g, 0, none⟩ = some v0 ∧ w.cell? ⟨g, 1, none⟩ = some v1 ∧ w.cell? ⟨g, 2, none⟩ = some v2 ∧ w.cell? ⟨g, 3, none⟩ = some v3 ∧ w.cell? ⟨g, 4, none⟩ = some v4 ∧ w.cell? ⟨g, 5, none⟩ = some v5 ∧ w.cell? ⟨g, 6, none⟩ = some v6
theorem ss7 {w : World} {g : Nat} {t : TypeId} {v0 v1 v2 v3 v4 v5 v6 : Value} (h : w.heap[g]? = some (.cells #[v0, v1, v2, v3, v4, v5, v6] t (0, 0))) : Cs7 g w v0 v1 v2 v3 v4 v5 v6 := by
 obtain ⟨g0, g1, g2, g3, g4, g5, g6, _⟩ := bc7 h
 exact ⟨g0, g1, g2, g3, g4, g5, g6⟩
theorem R_c {w : World} {B n c : Nat} {ok : Nat → Prop} {A : Option Addr} {r : List Int} (h : (Kd.int .i64).R 3 w B ok (.slice A n c) r) : Kd.C (Kd.int .i64) w A r.length r ∧ r.length ≤ c := by
 obtain ⟨h1, h2, h3⟩ := Kd.R_reads' h
 exact ⟨h3, h1 ▸ h2⟩
def OptR (w : World) (B n : Nat) (v : Value) : Option (List Int) → Prop
 | none => v = .slice none 0 0
 | some r => (Kd.int .i64).R 3 w B (fun _ => True) v r ∧ r.length = n ∧ ∃ A c, v = .slice (some A) n c
theorem OptR.below {w w' : World} {B n : Nat} {v : Value} {st : Option (List Int)} (h : OptR w B n v st) (hb : Below w.heap.size w w') : OptR w' B n v st := by
 cases st with
 | none => exact h
 | some r => exact ⟨Kd.R_below h.1 hb, h.2⟩
section
variable (A0 A1 A2 A3 AL : Option Addr) (c0 c1 c2 c3 cL : Nat) (l0 : List ByteArray) (mt : List S70) (l2 : List S27) (l3 : List S89) (b4 b5 b6 : Int) (L : List S168)
structure Rows5 (w : World) : Prop where
 r0 : Kd.C Kd.string w A0 l0.length l0
 r1 : Kd.C k70 w A1 mt.length mt
 r2 : Kd.C k27 w A2 l2.length l2
 r3 : Kd.C k89 w A3 l3.length l3
 rL : Kd.C k168 w AL L.length L
variable {A0 A1 A2 A3 AL l0 mt l2 l3 L} in
theorem Rows5.below {w w' : World} (h : Rows5 A0 A1 A2 A3 AL l0 mt l2 l3 L w) (hb : Below w.heap.size w w') : Rows5 A0 A1 A2 A3 AL l0 mt l2 l3 L w' :=
 ⟨Kd.C_below h.r0 hb, Kd.C_below h.r1 hb, Kd.C_below h.r2 hb, Kd.C_below h.r3 hb, Kd.C_below h.rL hb⟩
theorem store_step {P : Program} {ops : Array Oper} {o : Oper} {a : Act} {Q : Exit → Act → World → Prop} {Kc : Act → World → Prop} {N : Option Tmp} {W w1 : World} (hw : Region.wanted o (yielded ops a.tmps) = true) (hN : o.dst = none) (hrun : (execOp a.eval o).run P W = .ok .skip w1) (h : Kc a w1) : if Region.wanted o (yielded ops a.tmps) = true then Oper.wp P o a W Kc Q else Kc (a.put N undef) W := by
 rw [if_pos hw]
 unfold Oper.wp
 rw [hrun]
 show Kc (a.put o.dst undef) w1
 rw [hN]
 exact h
theorem wp_any {P : Program} {c : Code} {Q : Exit → Act → World → Prop} {a : Act} {w : World} (F : World → Prop) (hF : F w) (h : ∀ W, F W → c.wp P Q a W) : c.wp P Q a w := h w hF
theorem RI_len {w : World} {B n c i : Nat} {ok : Nat → Prop} {A : Option Addr} {r : List Int} (h : (Kd.int .i64).R 3 w B ok (.slice A n c) r) (hl : r.length = i) : Kd.C (Kd.int .i64) w A i r := hl ▸ (R_c h).1
theorem R_some {w : World} {B n c : Nat} {ok : Nat → Prop} {A : Option Addr} {r : List Int} (h : (Kd.int .i64).R 3 w B ok (.slice A n c) r) (hl : 0 < r.length) : ∃ ad, A = some ad := by
 obtain ⟨ad, h1, _⟩ := (R_c h).1.2.2 hl
 exact ⟨ad, h1⟩
def fr2T : Bool × List (List Nat × List Nat) := (true, [([], []), ([], []), ([0, 1], [0, 1]), ([2, 2], [2]), ([3], [3]), ([4, 3], [3, 4]), ([5, 3, 3], [3, 5]), ([6], [6]), ([6], [6]), ([7, 8, 6, 6], [6, 7, 8]), ([6], [6]), ([6], [6]), ([10, 11, 9, 6], [6, 10, 11]), ([9, 12, 6], [6, 9, 12]), ([6, 13, 3], [3, 6, 13]), ([3, 14], [3, 14])])
def fr2B : List Nat := [0, 0, 3, 7, 15, 31, 63, 127, 127, 511, 127, 127, 4095, 8191, 16383, 32767]
theorem fr2_tab : rtab .any (opsOf Tryz.f91 2) = fr2T := by kernel_rfl
theorem fr2_bits : waitsOk fr2T.2 fr2B = true := by kernel_rfl
theorem first_leaf (rt : List Int → Bool) (h00 : l0.length ≤ c0) (h01 : mt.length ≤ c1) (h02 : l2.length ≤ c2) (h03 : l3.length ≤ c3) (h0L : L.length ≤ cL) (hm12 : mt.length ≤ 12) (hC : ∀ r : List Int, r.length = mt.length → ∃ k, rf_cost.f k l0 mt l2 l3 b4 b5 b6 r = some (cW mt r mt.length)) (B : Nat) (Ah : Addr) (ch : Nat) (hv : List Int) (vb : Value) (st : Option (List Int)) (w : World) (hR : Rows5 A0 A1 A2 A3 AL l0 mt l2 l3 L w) (hlen : hv.length = mt.length)
  (hH : (Kd.int .i64).R 3 w B (fun _ => True) (.slice (some Ah) mt.length ch) hv) (hO : OptR w B mt.length vb st) (hK : ∃ k, rf_Keeps.f k L hv 1 = some (rt hv)) :
  Calls Tryz.prog 91 #[.agg #[.slice A0 l0.length c0, .slice A1 mt.length c1, .slice A2 l2.length c2, .slice A3 l3.length c3, .int .i64 b4, .int .i64 b5, .int .i64 b6], .slice AL L.length cL, .slice (some Ah) mt.length ch, vb] w fun e w' => ∃ v, e = .returned v ∧ OptR w' B mt.length v (rStep rt (fun r => cW mt r mt.length) st hv) ∧ Below w.heap.size w w' := by
 obtain ⟨k1, hk1⟩ := hK
 have HK := Sd.mk hk1
 have HC := Sd.mk hC
 have HR := Sd.mk hR
 have BX := Sd.mk (blk_new w (.cells #[.slice A0 l0.length c0, .slice A1 mt.length c1, .slice A2 l2.length c2, .slice A3 l3.length c3, .int .i64 b4, .int .i64 b5, .int .i64 b6] 29))
 have hb0 := below_alloc (Below.refl w.heap.size w) (.cells #[.slice A0 l0.length c0, .slice A1 mt.length c1, .slice A2 l2.length c2, .slice A3 l3.length c3, .int .i64 b4, .int .i64 b5, .int .i64 b6] 29)
 have HB := Sd.mk hb0
 have HH := Sd.mk (Kd.R_below hH hb0)
 have HO := Sd.mk (OptR.below hO hb0)
 clear hk1 hC hR hH hO hb0
 have hl : ((hv.length : Int) == (mt.length : Int)) = true := by simp [hlen]
 go_enter Tryz.func91, Tryz.ntmps91
 go_upto_region 1 with (fail)
 generalize w.alloc (.cells #[.slice A0 l0.length c0, .slice A1 mt.length c1, .slice A2 l2.length c2, .slice A3 l3.length c3, .int .i64 b4, .int .i64 b5, .int .i64 b6] 29) = WQ at BX HB HH HO ⊢
 obtain ⟨g0, g1, g2, g3, g4, g5, g6, _⟩ := bc7 BX.out
 go_upto_region 2 with (fail)
 clear g0 g1 g2 g3 g4 g5 g6
 refine start_ (n := 16) (S := fun w' => Cs7 w.heap.size w' (.slice A0 l0.length c0) (.slice A1 mt.length c1) (.slice A2 l2.length c2) (.slice A3 l3.length c3) (.int .i64 b4) (.int .i64 b5) (.int .i64 b6)) (ds := []) (bA 16 0) (by kernel_rfl) rfl rfl (ss7 BX.out) (fun hHeld => ?_)
 refine with_tabW fr2_tab fr2_bits (fun HT_ HW_ => ?_)
 replace BX := Sd.mk (blk_drew BX.out)
 replace HB := Sd.mk (below_drew1 HB.out)
 replace HH := Sd.mk (Kd.R_below HH.out (below_drew1 (Below.refl _ _)))
 replace HO := Sd.mk (OptR.below HO.out (below_drew1 (Below.refl _ _)))
 generalize WQ.drew = Wd at BX HB HH HO hHeld ⊢
 refine pQ 0 (some 17) (bA 16 1) ?_
 refine pQ 1 (some 18) (bA 16 3) ?_
 refine one_ (i := 2) (N := some 19) (bA 16 7) rfl rfl (one_of HT_.out (by kernel_rfl)) (by decide) (fun K hK => ?_)
 refine gQ Tryz.func54 #[.slice AL L.length cL, .slice (some Ah) mt.length ch, .int .i64 1] ?_
 have hq := rf_Keeps.calls k1 AL cL L (some Ah) ch hv 1 _ _ (Kd.C_below HR.out.rL HB.out) h0L (R_c HH.out).1 (R_c HH.out).2 HK.out
 rw [hlen] at hq
 refine hq.mono ?_
 clear hq
 rintro e wz ⟨rfl, hb⟩
 refine ⟨_, rfl, ?_⟩
 replace BX := Sd.mk (blk_below BX.out hb)
 replace HB := Sd.mk (below_then HB.out HB.out.size hb)
 replace HH := Sd.mk (Kd.R_below HH.out hb)
 replace HO := Sd.mk (OptR.below HO.out hb)
 clear hb
 refine hK.out _ _ (ss7 BX.out) (fun hHeld => ?_)
 clear hK K
 refine nQ 19 ?_
 cases hrt : rt hv with
 | false =>
  refine pQ 3 (some 20) (bA 16 15) ?_
  refine pN 4 (some 21) (bA 16 31) ?_
  refine pN 5 (some 22) (bA 16 63) ?_
  refine pN 6 (some 23) (bA 16 127) ?_
  refine pN 7 (some 24) (bA 16 255) ?_
  refine pN 8 (some 25) (bA 16 511) ?_
  refine pN 10 (some 27) (bA 16 1535) ?_
  refine pN 11 (some 28) (bA 16 3583) ?_
  refine pN 9 (some 26) (bA 16 4095) ?_
  refine pN 12 (some 29) (bA 16 8191) ?_
  refine pN 13 (some 30) (bA 16 16383) ?_
  refine pN 14 (some 31) (bA 16 32767) ?_
  refine pQ 15 (some 32) (bA 16 65535) ?_
  refine done_ (done_of HT_.out (by kernel_rfl)) ?_
  go_wp2
  go_ret
  refine ⟨_, rfl, ?_, HB.out⟩
  rw [show rStep rt (fun r => cW mt r mt.length) _ hv = st from by unfold rStep; simp [hrt]]
  exact HO.out
 | true =>
  cases st with
  | none =>
   obtain rfl : vb = .slice none 0 0 := HO.out
   have heq : ∀ W, (binOp .eql 30 (.slice none 0 0) (.slice none 0 0)).run Tryz.prog W = .ok (.bool true) W := fun W => run_eql_slice_nil W 30 3 none 0 0 (by rfl)
   refine pQ 3 (some 20) (bA 16 15) ?_
   refine pQ 4 (some 21) (bA 16 31) ?_
   refine pQ 5 (some 22) (bA 16 63) ?_
   refine pQ 6 (some 23) (bA 16 127) ?_
   refine pN 7 (some 24) (bA 16 255) ?_
   refine pN 8 (some 25) (bA 16 511) ?_
   refine pN 10 (some 27) (bA 16 1535) ?_
   refine pN 11 (some 28) (bA 16 3583) ?_
   refine pN 9 (some 26) (bA 16 4095) ?_
   refine pN 12 (some 29) (bA 16 8191) ?_
   refine pN 13 (some 30) (bA 16 16383) ?_
   refine pQ 14 (some 31) (bA 16 32767) ?_
   refine pQ 15 (some 32) (bA 16 65535) ?_
   refine done_ (done_of HT_.out (by kernel_rfl)) ?_
   go_wp2
   go_ret
   refine ⟨_, rfl, ?_, HB.out⟩
   rw [show rStep rt (fun r => cW mt r mt.length) _ hv = some hv from by unfold rStep; simp [hrt]]
   exact ⟨HH.out, hlen, _, _, rfl⟩
  | some bb =>
   obtain ⟨hbR, hbl, Ab, cb, rfl⟩ := HO.out
   have heq : ∀ W, (binOp .eql 30 (.slice (some Ab) mt.length cb) (.slice none 0 0)).run Tryz.prog W = .ok (.bool false) W := fun W => run_eql_slice_nil W 30 3 (some Ab) mt.length cb (by rfl)
   have HBR := Sd.mk hbR
   clear hbR
   obtain ⟨kc1, hc1⟩ := HC.out hv hlen
   obtain ⟨kc2, hc2⟩ := HC.out bb hbl
   have HC1 := Sd.mk hc1
   have HC2 := Sd.mk hc2
   clear hc1 hc2
   refine pQ 3 (some 20) (bA 16 15) ?_
   refine pQ 4 (some 21) (bA 16 31) ?_
   refine pQ 5 (some 22) (bA 16 63) ?_
   refine pQ 6 (some 23) (bA 16 127) ?_
   refine tQ 7 (some 24) (bA 16 255) ?_
   refine pQ 8 (some 25) (bA 16 511) ?_
   refine tQ 10 (some 27) (bA 16 1535) ?_
   refine pQ 11 (some 28) (bA 16 3583) ?_
   refine one_ (i := 9) (N := some 26) (bA 16 4095) rfl rfl (one_of HT_.out (by kernel_rfl)) (by decide) (fun K hK => ?_)
   refine gQ Tryz.func59 #[.agg #[.slice A0 l0.length c0, .slice A1 mt.length c1, .slice A2 l2.length c2, .slice A3 l3.length c3, .int .i64 b4, .int .i64 b5, .int .i64 b6], .slice (some Ah) mt.length ch] ?_
   have hq := rf_cost.calls _ A0 c0 l0 A1 c1 mt A2 c2 l2 A3 c3 l3 b4 b5 b6 (some Ah) ch hv _ _ (Kd.C_below HR.out.r0 HB.out) h00 (Kd.C_below HR.out.r1 HB.out) h01 (Kd.C_below HR.out.r2 HB.out) h02 (Kd.C_below HR.out.r3 HB.out) h03 (R_c HH.out).1 (R_c HH.out).2 HC1.out
   rw [hlen] at hq
   refine hq.mono ?_
   clear hq
   rintro e wz ⟨rfl, hb⟩
   refine ⟨_, rfl, ?_⟩
   replace BX := Sd.mk (blk_below BX.out hb)
   replace HB := Sd.mk (below_then HB.out HB.out.size hb)
   replace HH := Sd.mk (Kd.R_below HH.out hb)
   replace HO := Sd.mk (OptR.below HO.out hb)
   clear hb
   refine hK.out _ _ (ss7 BX.out) (fun hHeld => ?_)
   clear hK K
   refine nQ 26 ?_
   refine one_ (i := 12) (N := some 29) (bA 16 8191) rfl rfl (one_of HT_.out (by kernel_rfl)) (by decide) (fun K hK => ?_)
   refine gQ Tryz.func59 #[.agg #[.slice A0 l0.length c0, .slice A1 mt.length c1, .slice A2 l2.length c2, .slice A3 l3.length c3, .int .i64 b4, .int .i64 b5, .int .i64 b6], .slice (some Ab) mt.length cb] ?_
   have hq := rf_cost.calls _ A0 c0 l0 A1 c1 mt A2 c2 l2 A3 c3 l3 b4 b5 b6 (some Ab) cb bb _ _ (Kd.C_below HR.out.r0 HB.out) h00 (Kd.C_below HR.out.r1 HB.out) h01 (Kd.C_below HR.out.r2 HB.out) h02 (Kd.C_below HR.out.r3 HB.out) h03 (R_c HO.out.1).1 (R_c HO.out.1).2 HC2.out
   rw [hbl] at hq
   refine hq.mono ?_
   clear hq
   rintro e wz ⟨rfl, hb⟩
   refine ⟨_, rfl, ?_⟩
   replace BX := Sd.mk (blk_below BX.out hb)
   replace HB := Sd.mk (below_then HB.out HB.out.size hb)
   replace HH := Sd.mk (Kd.R_below HH.out hb)
   replace HO := Sd.mk (OptR.below HO.out hb)
   clear hb
   refine hK.out _ _ (ss7 BX.out) (fun hHeld => ?_)
   clear hK K
   refine nQ 29 ?_
   refine pQ 13 (some 30) (bA 16 16383) ?_
   refine pQ 14 (some 31) (bA 16 32767) ?_
   refine pQ 15 (some 32) (bA 16 65535) ?_
   refine done_ (done_of HT_.out (by kernel_rfl)) ?_
   by_cases hlt : cW mt hv mt.length < cW mt bb mt.length
   ·have hd : decide (cW mt hv mt.length < cW mt bb mt.length) = true := decide_eq_true hlt
    go_wp2
    go_ret
    refine ⟨_, rfl, ?_, HB.out⟩
    rw [show rStep rt (fun r => cW mt r mt.length) _ hv = some hv from by unfold rStep; simp [hrt, hlt]]
    exact ⟨HH.out, hlen, _, _, rfl⟩
   ·have hd : decide (cW mt hv mt.length < cW mt bb mt.length) = false := decide_eq_false hlt
    go_wp2
    go_ret
    refine ⟨_, rfl, ?_, HB.out⟩
    rw [show rStep rt (fun r => cW mt r mt.length) _ hv = some bb from by unfold rStep; simp only [hrt, Bool.true_and, hd, Bool.false_eq_true, if_false]]
    exact HO.out
def first_nodeRT : Bool × List (List Nat × List Nat) := (true, [([], []), ([], []), ([], []), ([2], [2]), ([], []), ([4], [4]), ([3, 5, 3], [3, 5]), ([], []), ([0, 1, 6, 7, 6], [0, 1, 6, 7]), ([8, 8, 0, 1, 2, 3, 4, 5, 6, 7, 8], [7, 8])])
def first_nodeRB : List Nat := [0, 0, 0, 4, 0, 16, 60, 0, 255, 511]
theorem first_nodeR_tab : rtab .any (opsOf Tryz.f91 9) = first_nodeRT := by kernel_rfl
theorem first_nodeR_bits : waitsOk first_nodeRT.2 first_nodeRB = true := by kernel_rfl
theorem first_node (m : S70) (F : Int → Option (List Int) → Option (List Int)) (h00 : l0.length ≤ c0) (h01 : mt.length ≤ c1) (h02 : l2.length ≤ c2) (h03 : l3.length ≤ c3) (h0L : L.length ≤ cL) (hm12 : mt.length ≤ 12) (M : MatB m) (B i : Nat) (hi : i < mt.length) (hm : rd_T70 mt (i : Int) = m) (Ah : Option Addr) (ch : Nat) (hv : List Int) (vb : Value) (st : Option (List Int)) (w : World) (hR : Rows5 A0 A1 A2 A3 AL l0 mt l2 l3 L w) (hlen : hv.length = i) (hB : B ≤ w.heap.size)
  (hH : (Kd.int .i64).R 3 w B (fun _ => True) (.slice Ah i ch) hv) (hO : OptR w B mt.length vb st)
  (hrec : ∀ (x : Int) (w1 : World) (A9 : Addr) (c9 : Nat) (vb1 : Value) (st1 : Option (List Int)), x ∈ kilosF m.f5 (cntM m) m.f3 → Below w.heap.size w w1 → (Kd.int .i64).R 3 w1 B (fun _ => True) (.slice (some A9) (i + 1) c9) (hv ++ [x]) → OptR w1 B mt.length vb1 st1 → Calls Tryz.prog 91 #[.agg #[.slice A0 l0.length c0, .slice A1 mt.length c1, .slice A2 l2.length c2, .slice A3 l3.length c3, .int .i64 b4, .int .i64 b5, .int .i64 b6], .slice AL L.length cL, .slice (some A9) (i + 1) c9, vb1] w1 fun e w' => ∃ v, e = .returned v ∧ OptR w' B mt.length v (F x st1) ∧ Below w1.heap.size w1 w') :
  Calls Tryz.prog 91 #[.agg #[.slice A0 l0.length c0, .slice A1 mt.length c1, .slice A2 l2.length c2, .slice A3 l3.length c3, .int .i64 b4, .int .i64 b5, .int .i64 b6], .slice AL L.length cL, .slice Ah i ch, vb] w fun e w' => ∃ v, e = .returned v ∧ OptR w' B mt.length v ((kilosF m.f5 (cntM m) m.f3).foldl (fun st x => F x st) st) ∧ Below w.heap.size w w' := by
 have hu29 := Tryz.underlying29
 have hu70 := Tryz.underlying70
 obtain ⟨ad, A6, c6, e9, hx0, hx1, hx2, hx3, hx4, hx5, hx6, hl6, hi6⟩ := at_T70 hR.r1 (i : Int) (by omega) (by omega)
 cases e9
 rw [hm] at hx0 hx1 hx2 hx3 hx4 hx5 hx6
 simp only [Int.toNat_natCast] at hx0 hx1 hx2 hx3 hx4 hx5 hx6
 have hb0 := below_alloc (Below.refl w.heap.size w) (.cells #[.slice A0 l0.length c0, .slice (some ad) mt.length c1, .slice A2 l2.length c2, .slice A3 l3.length c3, .int .i64 b4, .int .i64 b5, .int .i64 b6] 29)
 replace hx0 := (hb0.cell (World.block_lt_of_cell? w _ hx0)).trans hx0
 replace hx1 := (hb0.cell (World.block_lt_of_cell? w _ hx1)).trans hx1
 replace hx2 := (hb0.cell (World.block_lt_of_cell? w _ hx2)).trans hx2
 replace hx3 := (hb0.cell (World.block_lt_of_cell? w _ hx3)).trans hx3
 replace hx4 := (hb0.cell (World.block_lt_of_cell? w _ hx4)).trans hx4
 replace hx5 := (hb0.cell (World.block_lt_of_cell? w _ hx5)).trans hx5
 replace hx6 := (hb0.cell (World.block_lt_of_cell? w _ hx6)).trans hx6
 have BX := Sd.mk (blk_new w (.cells #[.slice A0 l0.length c0, .slice (some ad) mt.length c1, .slice A2 l2.length c2, .slice A3 l3.length c3, .int .i64 b4, .int .i64 b5, .int .i64 b6] 29))
 have HB := Sd.mk hb0
 have HR := Sd.mk hR
 have HH := Sd.mk (Kd.R_below hH hb0)
 have HO := Sd.mk (OptR.below hO hb0)
 have HREC := Sd.mk hrec
 clear hR hH hO hb0 hrec hl6 hi6
 have hl : ((i : Int) == (mt.length : Int)) = false := beq_eq_false_iff_ne.2 (by omega)
 have hp : decide (0 ≤ (i : Int)) = true := decide_eq_true (by omega)
 have hq : decide ((i : Int) < (mt.length : Int)) = true := decide_eq_true (by omega)
 go_enter Tryz.func91, Tryz.ntmps91
 go_upto_region 1 with (fail)
 generalize w.alloc (.cells #[.slice A0 l0.length c0, .slice (some ad) mt.length c1, .slice A2 l2.length c2, .slice A3 l3.length c3, .int .i64 b4, .int .i64 b5, .int .i64 b6] 29) = WQ at BX HB HH HO hx0 hx1 hx2 hx3 hx4 hx5 hx6 ⊢
 obtain ⟨g0, g1, g2, g3, g4, g5, g6, _⟩ := bc7 BX.out
 go_wp2_with (first | ((with_reducible refine gate_dst (N := 9) rfl ?_); refine box_event ?hg (N := 9) ?hd (cs := #[.string (⟨#[]⟩ : ByteArray), .int .i64 0, .int .i64 0, .int .i64 0, .int .i64 0, .int .i64 0, .slice none 0 0]) (t := 70) ?hr ?_; (case hd => rfl); (case hg => rfl); (case hr => first | (go_simp; done) | (go_simp; rfl)); intro gm hg wm hbox hb; have z0 : wm.cell? ⟨gm, 0, none⟩ = some (.string (⟨#[]⟩ : ByteArray)) := (blk_cell hbox 0).trans rfl; have y0 := blk_frozen hbox 0; have z1 : wm.cell? ⟨gm, 1, none⟩ = some (.int .i64 0) := (blk_cell hbox 1).trans rfl; have y1 := blk_frozen hbox 1; have z2 : wm.cell? ⟨gm, 2, none⟩ = some (.int .i64 0) := (blk_cell hbox 2).trans rfl; have y2 := blk_frozen hbox 2; have z3 : wm.cell? ⟨gm, 3, none⟩ = some (.int .i64 0) := (blk_cell hbox 3).trans rfl; have y3 := blk_frozen hbox 3; have z4 : wm.cell? ⟨gm, 4, none⟩ = some (.int .i64 0) := (blk_cell hbox 4).trans rfl; have y4 := blk_frozen hbox 4; have z5 : wm.cell? ⟨gm, 5, none⟩ = some (.int .i64 0) := (blk_cell hbox 5).trans rfl; have y5 := blk_frozen hbox 5; have z6 : wm.cell? ⟨gm, 6, none⟩ = some (.slice none 0 0) := (blk_cell hbox 6).trans rfl; have y6 := blk_frozen hbox 6; have HGM := Sd.mk hg; have HBX := Sd.mk hbox; have HBM := Sd.mk hb; clear hg hbox hb))
 refine wp_any (fun W => W.heap[gm]? = some (.cells #[.string m.f0, .int .i64 m.f1, .int .i64 m.f2, .int .i64 m.f3, .int .i64 m.f4, .int .i64 m.f5, .slice A6 m.f6.length c6] 70 (0, 0)) ∧ Below WQ.heap.size WQ W) ⟨blk_put (blk_put (blk_put (blk_put (blk_put (blk_put (blk_put HBX.out 0 _ rfl) 1 _ rfl) 2 _ rfl) 3 _ rfl) 4 _ rfl) 5 _ rfl) 6 _ rfl, ?_⟩ ?_
 ·exact ((((((HBM.out.setCell (p := ⟨gm, 0, none⟩) (Nat.le_of_eq HGM.out.symm) _).setCell (p := ⟨gm, 1, none⟩) (Nat.le_of_eq HGM.out.symm) _).setCell (p := ⟨gm, 2, none⟩) (Nat.le_of_eq HGM.out.symm) _).setCell (p := ⟨gm, 3, none⟩) (Nat.le_of_eq HGM.out.symm) _).setCell (p := ⟨gm, 4, none⟩) (Nat.le_of_eq HGM.out.symm) _).setCell (p := ⟨gm, 5, none⟩) (Nat.le_of_eq HGM.out.symm) _).setCell (p := ⟨gm, 6, none⟩) (Nat.le_of_eq HGM.out.symm) _
 rintro W5 ⟨bm, hb5⟩
 clear z0 z1 z2 z3 z4 z5 z6 y0 y1 y2 y3 y4 y5 y6 g0 g1 g2 g3 g4 g5 g6 hx0 hx1 hx2 hx3 hx4 hx5 hx6 HBX HBM HGM
 replace BX := Sd.mk (blk_below BX.out hb5)
 have HH5 := Sd.mk (Kd.R_below HH.out hb5)
 have HO5 := Sd.mk (OptR.below HO.out hb5)
 have HB5 := Sd.mk (below_then HB.out HB.out.size hb5)
 have BM := Sd.mk bm
 clear bm hb5 HH HO HB
 obtain ⟨FIN, hFIN⟩ : ∃ FIN, (kilosF m.f5 (cntM m) m.f3).foldl (fun st x => F x st) st = FIN := ⟨_, rfl⟩
 have HFIN := Sd.mk hFIN
 go_loopg [10, 3] (cntM m) (fun kq v10 v3 w' => ∃ (j : Nat) (st' : Option (List Int)), v10 = .int .i64 (m.f3 + (j : Int) * m.f5) ∧ Sd (j + kq = cntM m ∧ OptR w' B mt.length v3 st' ∧ (kilosF m.f5 kq (m.f3 + (j : Int) * m.f5)).foldl (fun st x => F x st) st' = FIN ∧ Below W5.heap.size W5 w'))
 case atStart => exact ⟨0, st, by simp, ⟨by omega, HO5.out, by simpa using hFIN, Below.refl _ _⟩⟩
 case round =>
  obtain ⟨j, st', rfl, HI⟩ := hrel
  clear HO5 hFIN
  have hcl := cntM_last M
  have bmr := blk_below BM.out HI.out.2.2.2
  have n4 : wr.cell? ⟨gm, 4, none⟩ = some (.int .i64 m.f4) := (blk_cell bmr 4).trans rfl
  have n5 : wr.cell? ⟨gm, 5, none⟩ = some (.int .i64 m.f5) := (blk_cell bmr 5).trans rfl
  clear bmr
  cases gk with
  | zero =>
   have hj := HI.out.1
   have hd : decide (m.f3 + (j : Int) * m.f5 ≤ m.f4) = false := decide_eq_false (by rw [show (j : Int) = (cntM m : Int) by omega]; omega)
   have hfin := HI.out.2.2.1
   simp only [kilosF, List.foldl_nil] at hfin
   have HFN := Sd.mk hfin
   clear hcl hj hfin
   go_wp2
   go_ret
   exact ⟨u3, rfl, by rw [HFIN.out, ← HFN.out]; exact HI.out.2.1, below_then HB5.out HB5.out.size HI.out.2.2.2⟩
  | succ k' =>
   have hj := HI.out.1
   have hle : (j : Int) * m.f5 ≤ ((cntM m : Int) - 1) * m.f5 := Int.mul_le_mul_of_nonneg_right (by omega) (by have := M.s1; omega)
   have hd : decide (m.f3 + (j : Int) * m.f5 ≤ m.f4) = true := decide_eq_true (by omega)
   have hkm : m.f3 + (j : Int) * m.f5 ∈ kilosF m.f5 (cntM m) m.f3 := kilosF_in m.f5 (cntM m) m.f3 j (by omega)
   have hwr : wrap64 (m.f3 + (j : Int) * m.f5 + m.f5) = m.f3 + ((j + 1 : Nat) : Int) * m.f5 := by
    have h0 := Int.mul_nonneg (show 0 ≤ (j : Int) by omega) (show 0 ≤ m.f5 by have := M.s1; omega)
    have := M.hi; have := M.lo; have := M.s2; have := M.s1
    rw [wrap_id (by omega) (by omega)]; push_cast; rw [Int.add_mul, Int.one_mul]; omega
   have HKM := Sd.mk hkm
   have HWR := Sd.mk hwr
   clear hcl hj hle hkm hwr
   go_upto_region 9 with (fail)
   refine start_ (n := 10) (S := fun w' => Cs7 w.heap.size w' (.slice A0 l0.length c0) (.slice (some ad) mt.length c1) (.slice A2 l2.length c2) (.slice A3 l3.length c3) (.int .i64 b4) (.int .i64 b5) (.int .i64 b6)) (ds := []) (bA 10 0) (by kernel_rfl) rfl rfl (ss7 (blk_drew (blk_below BX.out HI.out.2.2.2))) (fun hHeld => ?_)
   refine with_tabW first_nodeR_tab first_nodeR_bits (fun HT_ HW_ => ?_)
   have BXd := Sd.mk (blk_drew (blk_below BX.out HI.out.2.2.2))
   have HBd := Sd.mk (below_drew1 HI.out.2.2.2)
   have HHd := Sd.mk (Kd.R_below HH5.out HBd.out)
   have HOd := Sd.mk (OptR.below HI.out.2.1 (below_drew1 (Below.refl wr.heap.size wr)))
   have hn := n4
   clear hn
   have n5d : wr.drew.cell? ⟨gm, 5, none⟩ = some (.int .i64 m.f5) := (blk_cell (blk_drew (blk_below BM.out HI.out.2.2.2)) 5).trans rfl
   clear n4 n5
   generalize wr.drew = Wd at BXd HBd HHd HOd hHeld n5d ⊢
   refine tQ 0 (some 51) (bA 10 1) ?_
   refine pQ 1 (some 52) (bA 10 3) ?_
   refine pQ 2 (some 53) (bA 10 7) ?_
   refine pQ 4 (some 55) (bA 10 23) ?_
   refine pQ 7 (some 58) (bA 10 151) ?_
   refine join_ (σ := Value × Value) 3 (bA 10 191) (fun s_ => [(54, s_.1), (56, s_.2)]) (fun s_ w' => (Cs7 w.heap.size w' (.slice A0 l0.length c0) (.slice (some ad) mt.length c1) (.slice A2 l2.length c2) (.slice A3 l3.length c3) (.int .i64 b4) (.int .i64 b5) (.int .i64 b6)) ∧ (Kd.int .i64).R 3 w' Wd.heap.size (fun _ => True) s_.1 hv ∧ (Kd.int .i64).R 3 w' Wd.heap.size (fun _ => True) s_.2 [(m.f3 + (j : Int) * m.f5)] ∧ Below Wd.heap.size Wd w') ?_ ?_
   rotate_left
   ·intro hCont
    refine two_ (i := 3) (j := 5) (Ni := some 54) (Nj := some 56) (bA 10 159) (bA 10 183) rfl rfl rfl rfl (two_of HT_.out (by kernel_rfl)) (by decide) (by decide) (fun K hK => ?_) (fun K hK => ?_)
    ·refine Kd.R_append_rows_step (Kd.int .i64) (Rr := (Kd.int .i64).K Wd) (w0 := Wd) Wd.heap.size (by rfl) (.const (.slice none 0 0)) (.tmp 53) 30 3 (.int .i64 0) 8 rfl (by rfl) (by rfl) rfl (by decide) (by omega) (.slice none 0 0) [] hv Ah i ch (fun _ => True) (fun _ => False) rfl rfl (Kd.R_nil _ _ _ _ _) (RI_len (Kd.R_below HHd.out (Below.refl Wd.heap.size Wd)) hlen) (fun _ _ h => h) (fun k hk => hk.elim) (fun _ _ => trivial) (Below.refl Wd.heap.size Wd) (Nat.le_refl _) (by simp; omega) ?_
     intro v1 w1 ho1 hb1 hg1 hat1
     simp only [List.nil_append] at ho1
     clear hat1 hg1
     refine hK.out _ _ (ss7 (blk_below BXd.out hb1)) (fun hHeld => ?_)
     clear hK K
     refine nQ 54 ?_
     refine one_ (i := 5) (N := some 56) (bA 10 191) rfl rfl (one_of HT_.out (by kernel_rfl)) (by decide) (fun K hK => ?_)
     refine Kd.R_lit_step (Kd.int .i64) (w0 := Wd) Wd.heap.size 3 (by rfl) (N := 56) rfl (xs := [(m.f3 + (j : Int) * m.f5)]) (inner := [.int .i64 (m.f3 + (j : Int) * m.f5)]) (okp := fun _ => True) (ok := fun _ => True) ?hr ?hrep (fun _ h => h) trivial hb1 (hb1.size) (by simp) ?_
     (case hr => first | (go_simp; done) | (go_simp; rfl))
     (case hrep => exact ⟨rfl, fun j q hq => by cases j with | zero => (simp at hq; subst hq; rfl) | succ j => simp at hq⟩)
     intro v2 w2 ho2 hb2 hg2 hat2
     clear hat2
     refine hK.out _ _ (ss7 (blk_below BXd.out hb2)) (fun hHeld => ?_)
     clear hK K
     refine nQ 56 ?_
     exact norm_ (by simp only [putAll, Act.put, List.setIfInBounds_toArray, List.set_cons_zero, List.set_cons_succ]) (hCont (v1, v2) _ ⟨hHeld, Kd.R_grown ho1 hg2 (fun k _ => by simp), ho2, hb2⟩)
    ·refine Kd.R_lit_step (Kd.int .i64) (w0 := Wd) Wd.heap.size 3 (by rfl) (N := 56) rfl (xs := [(m.f3 + (j : Int) * m.f5)]) (inner := [.int .i64 (m.f3 + (j : Int) * m.f5)]) (okp := fun _ => True) (ok := fun _ => True) ?hr ?hrep (fun _ h => h) trivial (Below.refl Wd.heap.size Wd) (Nat.le_refl _) (by simp) ?_
     (case hr => first | (go_simp; done) | (go_simp; rfl))
     (case hrep => exact ⟨rfl, fun j q hq => by cases j with | zero => (simp at hq; subst hq; rfl) | succ j => simp at hq⟩)
     intro v2 w1 ho2 hb1 hg1 hat1
     clear hat1 hg1
     refine hK.out _ _ (ss7 (blk_below BXd.out hb1)) (fun hHeld => ?_)
     clear hK K
     refine nQ 56 ?_
     refine one_ (i := 3) (N := some 54) (bA 10 191) rfl rfl (one_of HT_.out (by kernel_rfl)) (by decide) (fun K hK => ?_)
     refine Kd.R_append_rows_step (Kd.int .i64) (Rr := (Kd.int .i64).K Wd) (w0 := Wd) Wd.heap.size (by rfl) (.const (.slice none 0 0)) (.tmp 53) 30 3 (.int .i64 0) 8 rfl (by rfl) (by rfl) rfl (by decide) (by omega) (.slice none 0 0) [] hv Ah i ch (fun _ => True) (fun _ => False) rfl rfl (Kd.R_nil _ _ _ _ _) (RI_len (Kd.R_below HHd.out hb1) hlen) (fun _ _ h => h) (fun k hk => hk.elim) (fun _ _ => trivial) hb1 (hb1.size) (by simp; omega) ?_
     intro v1 w2 ho1 hb2 hg2 hat2
     simp only [List.nil_append] at ho1
     clear hat2
     refine hK.out _ _ (ss7 (blk_below BXd.out hb2)) (fun hHeld => ?_)
     clear hK K
     refine nQ 54 ?_
     exact norm_ (by simp only [putAll, Act.put, List.setIfInBounds_toArray, List.set_cons_zero, List.set_cons_succ]) (hCont (v1, v2) _ ⟨hHeld, ho1, Kd.R_grown ho2 hg2 (fun k _ => by simp [Value.ownBlock]), hb2⟩)
   clear hHeld
   rintro ⟨v1, v2⟩ w2 ⟨hHeld, ho1, ho2, hb2⟩
   obtain ⟨Ax, cx', rfl, hc2, hC2⟩ := Kd.R_reads ho2
   simp only [putAll, Act.put, List.setIfInBounds_toArray, List.set_cons_zero, List.set_cons_succ]
   refine one_ (i := 6) (N := some 57) (bA 10 255) rfl rfl (one_of HT_.out (by kernel_rfl)) (by decide) (fun K hK => ?_)
   refine Kd.R_append_rows_step (Kd.int .i64) (Rr := (Kd.int .i64).K w2) (w0 := Wd) Wd.heap.size (by rfl) (.tmp 54) (.tmp 56) 30 3 (.int .i64 0) 8 rfl (by rfl) (by rfl) rfl (by decide) (by omega) v1 hv [(m.f3 + (j : Int) * m.f5)] Ax 1 cx' (fun _ => True) (fun _ => False) rfl rfl ho1 hC2 (fun _ _ h => h) (fun k hk => hk.elim) (fun _ _ => trivial) hb2 hb2.size (by rw [hlen]; omega) ?_
   intro v3 w3 ho3 hb3 hg3 hat3
   clear hat3 hg3 ho1 ho2 hc2 hC2 hb2
   refine hK.out _ _ (ss7 (blk_below BXd.out hb3)) (fun hHeld => ?_)
   clear hK K
   refine nQ 57 ?_
   obtain ⟨A9, c9, rfl⟩ := Kd.R_slice ho3
   have hlen2 : (hv ++ [(m.f3 + (j : Int) * m.f5)]).length = i + 1 := by simp [hlen]
   obtain ⟨Ad, rfl⟩ := R_some ho3 (by omega)
   rw [hlen2] at ho3 ⊢
   have hcall := HREC.out _ w3 Ad c9 u3 st' HKM.out (below_then HB5.out HB5.out.size (below_then HBd.out HBd.out.size hb3)) (Kd.R_lower ho3 (by have := HBd.out.size; have := HB5.out.size; omega)) (OptR.below HOd.out hb3)
   refine one_ (i := 8) (N := some 59) (bA 10 511) rfl rfl (one_of HT_.out (by kernel_rfl)) (by decide) (fun K hK => ?_)
   refine gQ Tryz.func91 #[.agg #[.slice A0 l0.length c0, .slice (some ad) mt.length c1, .slice A2 l2.length c2, .slice A3 l3.length c3, .int .i64 b4, .int .i64 b5, .int .i64 b6], .slice AL L.length cL, .slice (some Ad) (i + 1) c9, u3] ?_
   refine hcall.mono ?_
   clear hcall
   rintro e w4 ⟨v4, rfl, hO4, hb4⟩
   refine ⟨_, rfl, ?_⟩
   have hb4' := below_then hb3 hb3.size hb4
   refine hK.out _ _ (ss7 (blk_below BXd.out hb4')) (fun hHeld => ?_)
   clear hK K
   refine nQ 59 ?_
   refine pQ 9 (some 3) (bA 10 1023) ?_
   refine done_ (done_of HT_.out (by kernel_rfl)) ?_
   have n5e : w4.cell? ⟨gm, 5, none⟩ = some (.int .i64 m.f5) := (hb4'.cell (World.block_lt_of_cell? _ _ n5d)).trans n5d
   clear n5d
   have H4 := Sd.mk (And.intro hO4 hb4')
   clear hO4 hb4 hb4' ho3 hb3 hHeld
   go_wp2
   go_roundg k'
   case measure => exact Nat.lt_succ_self _
   case rel => exact ⟨j + 1, _, by rw [HWR.out], ⟨by have := HI.out.1; omega, H4.out.1, by have := HI.out.2.2.1; simp only [kilosF, List.foldl_cons] at this; rw [show m.f3 + ((j + 1 : Nat) : Int) * m.f5 = m.f3 + (j : Int) * m.f5 + m.f5 by push_cast; rw [Int.add_mul, Int.one_mul]; omega]; exact this, below_then HBd.out HBd.out.size H4.out.2⟩⟩
theorem first_calls (rt : List Int → Bool) (h00 : l0.length ≤ c0) (h01 : mt.length ≤ c1) (h02 : l2.length ≤ c2) (h03 : l3.length ≤ c3) (h0L : L.length ≤ cL) (hm12 : mt.length ≤ 12) (hC : ∀ r : List Int, r.length = mt.length → ∃ k, rf_cost.f k l0 mt l2 l3 b4 b5 b6 r = some (cW mt r mt.length)) (hM : ∀ m ∈ mt, MatB m) (hm1 : 1 ≤ mt.length) (hK : ∀ r ∈ allR mt, ∃ k, rf_Keeps.f k L r 1 = some (rt r)) (B : Nat) :
  ∀ (q i : Nat), i + q = mt.length → ∀ (Ah : Option Addr) (ch : Nat) (hv : List Int) (vb : Value) (st : Option (List Int)) (w : World), Rows5 A0 A1 A2 A3 AL l0 mt l2 l3 L w → hv.length = i → (∀ x ∈ allR (mt.drop i), hv ++ x ∈ allR mt) → B ≤ w.heap.size → (Kd.int .i64).R 3 w B (fun _ => True) (.slice Ah i ch) hv → OptR w B mt.length vb st →
   Calls Tryz.prog 91 #[.agg #[.slice A0 l0.length c0, .slice A1 mt.length c1, .slice A2 l2.length c2, .slice A3 l3.length c3, .int .i64 b4, .int .i64 b5, .int .i64 b6], .slice AL L.length cL, .slice Ah i ch, vb] w fun e w' => ∃ v, e = .returned v ∧ OptR w' B mt.length v (firstV rt (fun r => cW mt r mt.length) (mt.drop i) hv st) ∧ Below w.heap.size w w' := by
 intro q
 induction q with
 | zero =>
  intro i hi Ah ch hv vb st w hR hlen hall hB hH hO
  obtain rfl : i = mt.length := by omega
  obtain ⟨ad, rfl⟩ := R_some hH (by omega)
  have he : mt.drop mt.length = [] := List.drop_length
  have hin := hall [] (by rw [he]; simp [allR])
  rw [List.append_nil] at hin
  rw [he, firstV_nil]
  exact first_leaf A0 A1 A2 A3 AL c0 c1 c2 c3 cL l0 mt l2 l3 b4 b5 b6 L rt h00 h01 h02 h03 h0L hm12 hC B ad ch hv vb st w hR hlen hH hO (hK _ hin)
 | succ q ih =>
  intro i hi Ah ch hv vb st w hR hlen hall hB hH hO
  have hlt : i < mt.length := by omega
  have hd : mt.drop i = mt[i] :: mt.drop (i + 1) := List.drop_eq_getElem_cons hlt
  rw [hd, firstV_cons]
  refine first_node A0 A1 A2 A3 AL c0 c1 c2 c3 cL l0 mt l2 l3 b4 b5 b6 L mt[i] (fun k s => firstV rt (fun r => cW mt r mt.length) (mt.drop (i + 1)) (hv ++ [k]) s) h00 h01 h02 h03 h0L hm12 (hM _ (List.getElem_mem hlt)) B i hlt (by simp [rd_T70, hlt]) Ah ch hv vb st w hR hlen hB hH hO ?_
  intro x w1 A9 c9 vb1 st1 hx hb hH1 hO1
  exact ih (i + 1) (by omega) (some A9) c9 (hv ++ [x]) vb1 st1 w1 (hR.below hb) (by simp [hlen]) (fun y hy => by
   have := hall (x :: y) (by rw [hd]; simp only [allR, List.mem_flatMap, List.mem_map]; exact ⟨x, hx, y, hy, rfl⟩)
   simpa using this) (Nat.le_trans hB hb.size) hH1 hO1
def sr7T : Bool × List (List Nat × List Nat) := (true, [([], []), ([], []), ([], []), ([2], [2]), ([0, 1, 3], [0, 1, 3]), ([4, 4], [4]), ([5], [5]), ([6, 5], [5, 6]), ([7, 5, 5], [5, 7]), ([8], [8]), ([8], [8]), ([9, 10, 8, 8], [8, 9, 10]), ([8], [8]), ([8], [8]), ([12, 13, 11, 8], [8, 12, 13]), ([11, 14, 8], [8, 11, 14]), ([8, 15, 5], [5, 8, 15]), ([5, 16], [5, 16])])
def sr7B : List Nat := [0, 0, 0, 4, 15, 31, 63, 127, 255, 511, 511, 2047, 511, 511, 16383, 32767, 65535, 131071]
theorem sr7_tab : rtab .any (opsOf Tryz.f93 7) = sr7T := by kernel_rfl
theorem sr7_bits : waitsOk sr7T.2 sr7B = true := by kernel_rfl
def sr6T : Bool × List (List Nat × List Nat) := (true, [([], []), ([], []), ([], []), ([], []), ([2, 3], [2, 3]), ([4], [4]), ([], []), ([], []), ([], []), ([7, 8], [7, 8]), ([9], [9]), ([6, 10], [6, 10]), ([5, 11], [5, 11]), ([0, 1, 0, 1, 2, 3, 4, 5, 6, 7, 8, 9, 10, 11, 12], [0, 1]), ([13, 12, 0, 1, 2, 3, 4, 5, 6, 7, 8, 9, 10, 11, 12], [12, 13])])
def sr6B : List Nat := [0, 0, 0, 0, 12, 28, 0, 0, 0, 384, 896, 1984, 4092, 8191, 16383]
theorem sr6_tab : rtab .any (opsOf Tryz.f93 6) = sr6T := by kernel_rfl
theorem sr6_bits : waitsOk sr6T.2 sr6B = true := by kernel_rfl
theorem search_leaf (rt : List Int → Bool) (Aw : Option Addr) (cw : Nat) (wg : List Int) (lots : Int) (hcw : wg.length ≤ cw) (hwl : wg.length = mt.length) (h00 : l0.length ≤ c0) (h01 : mt.length ≤ c1) (h02 : l2.length ≤ c2) (h03 : l3.length ≤ c3) (h0L : L.length ≤ cL) (hm12 : mt.length ≤ 12) (hC : ∀ r : List Int, r.length = mt.length → ∃ k, rf_cost.f k l0 mt l2 l3 b4 b5 b6 r = some (cW mt r mt.length)) (B : Nat) (Ah : Addr) (ch : Nat) (hv : List Int) (vb : Value) (st : Option (List Int)) (w : World) (hR : Rows5 A0 A1 A2 A3 AL l0 mt l2 l3 L w) (hAw : Kd.C (Kd.int .i64) w Aw wg.length wg) (hlen : hv.length = mt.length)
  (hH : (Kd.int .i64).R 3 w B (fun _ => True) (.slice (some Ah) mt.length ch) hv) (hO : OptR w B mt.length vb st) (hK : ∃ k, rf_Keeps.f k L (sumV wg lots hv) (wrap64 (lots + 1)) = some (rt hv)) :
  Calls Tryz.prog 93 #[.agg #[.slice A0 l0.length c0, .slice A1 mt.length c1, .slice A2 l2.length c2, .slice A3 l3.length c3, .int .i64 b4, .int .i64 b5, .int .i64 b6], .slice AL L.length cL, .slice Aw mt.length cw, .int .i64 lots, .slice (some Ah) mt.length ch, vb] w fun e w' => ∃ v, e = .returned v ∧ OptR w' B mt.length v (rStep rt (fun r => cW mt r mt.length) st hv) ∧ Below w.heap.size w w' := by
 obtain ⟨k1, hk1⟩ := hK
 have hsl : (sumV wg lots hv).length = mt.length := by rw [sumV_len, hwl]
 have HK := Sd.mk hk1
 have HC := Sd.mk hC
 have HR := Sd.mk hR
 have HAW := Sd.mk hAw
 have HSL := Sd.mk hsl
 have HWL := Sd.mk hwl
 have BX := Sd.mk (blk_new w (.cells #[.slice A0 l0.length c0, .slice A1 mt.length c1, .slice A2 l2.length c2, .slice A3 l3.length c3, .int .i64 b4, .int .i64 b5, .int .i64 b6] 29))
 have hb0 := below_alloc (Below.refl w.heap.size w) (.cells #[.slice A0 l0.length c0, .slice A1 mt.length c1, .slice A2 l2.length c2, .slice A3 l3.length c3, .int .i64 b4, .int .i64 b5, .int .i64 b6] 29)
 have HB := Sd.mk hb0
 have HH := Sd.mk (Kd.R_below hH hb0)
 have HO := Sd.mk (OptR.below hO hb0)
 clear hk1 hC hR hAw hH hO hb0 hsl hwl
 have hl : ((hv.length : Int) == (mt.length : Int)) = true := by simp [hlen]
 have hmk := print_make_int (P := Tryz.prog) 30 3 (.int .i64 0) 8 (by rfl) (by rfl) rfl (by omega) (mt.length : Int) (by omega) (by simp; omega)
 go_enter Tryz.func93, Tryz.ntmps93
 go_upto_region 1 with (fail)
 generalize w.alloc (.cells #[.slice A0 l0.length c0, .slice A1 mt.length c1, .slice A2 l2.length c2, .slice A3 l3.length c3, .int .i64 b4, .int .i64 b5, .int .i64 b6] 29) = WQ at BX HB HH HO ⊢
 obtain ⟨g0, g1, g2, g3, g4, g5, g6, _⟩ := bc7 BX.out
 go_upto_region 3 with (fail)
 clear g0 g1 g2 g3 g4 g5 g6 hmk
 try simp only [Int.toNat_natCast]
 obtain ⟨xs0, hI0⟩ : ∃ xs0, IntsAt (WQ.alloc (.cells (madeCells #[.int .i64 0] mt.length) 3)) WQ.heap.size mt.length xs0 := ⟨List.replicate mt.length 0, by simp, Kd.R_of_own (enc := Value.int .i64) (own_made' WQ WQ.heap.size 3 .i64 mt.length (Nat.le_refl _) (by omega)) (fun k hk => by simpa [Value.ownBlock] using hk.symm)⟩
 have hbA := below_alloc (Below.refl WQ.heap.size WQ) (.cells (madeCells #[.int .i64 0] mt.length) 3)
 have HI0 := Sd.mk hI0
 have HBA := Sd.mk hbA
 clear hI0 hbA
 generalize WQ.alloc (.cells (madeCells #[.int .i64 0] mt.length) 3) = WA at HI0 HBA ⊢
 obtain ⟨S, hS⟩ : ∃ S, S = WQ.heap.size := ⟨_, rfl⟩
 rw [← hS] at HI0 HBA ⊢
 have HS := Sd.mk hS
 clear hS
 go_wp2
 go_loopg [14] mt.length (fun kq v14 w' => ∃ (j : Nat) (xs : List Int), v14 = .int .i64 (j : Int) ∧ Sd (j ≤ mt.length ∧ mt.length - j ≤ kq ∧ IntsAt w' S mt.length xs ∧ (∀ i : Nat, i < j → rd xs (i : Int) = rd (sumV wg lots hv) (i : Int)) ∧ Below S WQ w'))
 case atStart => exact ⟨0, xs0, by simp, ⟨by omega, by omega, HI0.out, fun i hi => by omega, HBA.out⟩⟩
 case round =>
  clear HI0 HBA
  obtain ⟨j, xs, rfl, HI⟩ := hrel
  by_cases hj : j < mt.length
  ·have hj1 : mt.length - (j + 1) < gk := by have := HI.out.2.1; omega
   have HJ1 := Sd.mk hj1
   clear hj1
   have hd : decide ((j : Int) < (mt.length : Int)) = true := decide_eq_true (by omega)
   have hp : decide (0 ≤ (j : Int)) = true := decide_eq_true (by omega)
   have hww : wrap64 ((j : Int) + 1) = ((j + 1 : Nat) : Int) := by rw [wrap_id (by omega) (by omega)]; omega
   obtain ⟨aw, ew, hxw⟩ := Kd.at_int HAW.out (j : Int) (Int.natCast_nonneg j) (by rw [HWL.out]; exact Int.ofNat_lt.2 hj)
   cases ew
   obtain ⟨ah, eh, hxh⟩ := Kd.at_int (R_c HH.out).1 (j : Int) (Int.natCast_nonneg j) (by rw [hlen]; exact Int.ofNat_lt.2 hj)
   cases eh
   replace hxw := (HB.out.cell (World.block_lt_of_cell? w _ hxw)).trans hxw
   replace hxw := (HI.out.2.2.2.2.cell (by rw [HS.out]; exact World.block_lt_of_cell? WQ _ hxw)).trans hxw
   replace hxh := (HI.out.2.2.2.2.cell (by rw [HS.out]; exact World.block_lt_of_cell? WQ _ hxh)).trans hxh
   simp only [Int.toNat_natCast] at hxw hxh
   obtain ⟨hq0, hq1⟩ := HI.out.2.2.1.cell j hj
   have HJ := Sd.mk hj
   have HWW := Sd.mk hww
   go_upto_region 6 with (fail)
   refine start_ (n := 15) (S := fun w' => w'.cell? (aw.add j) = some (.int .i64 (rd wg (j : Int))) ∧ w'.cell? (Ah.add j) = some (.int .i64 (rd hv (j : Int)))) (ds := [14]) (bA 15 0) (by kernel_rfl) rfl rfl ⟨hxw, hxh⟩ (fun hHeld => ?_)
   refine with_tabW sr6_tab sr6_bits (fun HT_ HW_ => ?_)
   refine pQ 0 (some 32) (bA 15 1) ?_
   refine pQ 1 (some 33) (bA 15 3) ?_
   refine pQ 2 (some 34) (bA 15 7) ?_
   refine pQ 3 (some 35) (bA 15 15) ?_
   refine pQ 4 (some 36) (bA 15 31) ?_
   refine tQ 5 (some 37) (bA 15 63) ?_
   refine pQ 6 (some 38) (bA 15 127) ?_
   refine pQ 7 (some 39) (bA 15 255) ?_
   refine pQ 8 (some 40) (bA 15 511) ?_
   refine pQ 9 (some 41) (bA 15 1023) ?_
   refine tQ 10 (some 42) (bA 15 2047) ?_
   refine pQ 11 (some 43) (bA 15 4095) ?_
   refine pQ 12 (some 44) (bA 15 8191) ?_
   refine pQ 13 (some 45) (bA 15 16383) ?_
   refine last_ (i := 14) (N := none) (bA 15 32767) rfl rfl (one_of HT_.out (by kernel_rfl)) (by decide) (fun K hK => ?_)
   refine store_step (by rfl) rfl (by first | (go_simp; done) | (go_simp; rfl)) ?_
   refine hK.out _ _ ?_
   clear hK K
   refine done_ (done_of HT_.out (by kernel_rfl)) ?_
   go_wp2
   go_roundg (mt.length - (j + 1))
   case measure => exact HJ1.out
   case rel => exact ⟨j + 1, _, by first | rw [HWW.out] | rfl | (push_cast; rfl), ⟨HJ.out, Nat.le_refl _, (HI.out.2.2.1.below (KeepHi.of_below (below_drew1 (Below.refl _ _)))).put j _, by have h := sum_step HI.out.2.2.1.1 HJ.out HI.out.2.2.2.1; rw [sumV_rd (by rw [HWL.out]; exact HJ.out)] at h; exact h, (below_drew1 HI.out.2.2.2.2).trans ((Below.refl _ _).setCell (p := ⟨S, j, none⟩) (Nat.le_refl _) _)⟩⟩
  ·have hd : decide ((j : Int) < (mt.length : Int)) = false := decide_eq_false (by omega)
   have hjn : j = mt.length := by have := HI.out.1; omega
   have hxs := sum_end HI.out.2.2.1.1 HSL.out (fun i hi => HI.out.2.2.2.1 i (by rw [hjn]; exact hi))
   have HAL := Sd.mk (show IntsAt wr S mt.length (sumV wg lots hv) from hxs ▸ HI.out.2.2.1)
   clear hxs
   have hbS : Below WQ.heap.size WQ wr := by rw [← HS.out]; exact HI.out.2.2.2.2
   replace BX := Sd.mk (blk_below BX.out hbS)
   replace HB := Sd.mk (below_then HB.out HB.out.size hbS)
   replace HH := Sd.mk (Kd.R_below HH.out hbS)
   replace HO := Sd.mk (OptR.below HO.out hbS)
   clear hbS hjn HI
   go_upto_region 7 with (fail)
   refine start_ (n := 18) (S := fun w' => Cs7 w.heap.size w' (.slice A0 l0.length c0) (.slice A1 mt.length c1) (.slice A2 l2.length c2) (.slice A3 l3.length c3) (.int .i64 b4) (.int .i64 b5) (.int .i64 b6)) (ds := []) (bA 18 0) (by kernel_rfl) rfl rfl (ss7 BX.out) (fun hHeld => ?_)
   refine with_tabW sr7_tab sr7_bits (fun HT_ HW_ => ?_)
   replace BX := Sd.mk (blk_drew BX.out)
   replace HB := Sd.mk (below_drew1 HB.out)
   replace HH := Sd.mk (Kd.R_below HH.out (below_drew1 (Below.refl _ _)))
   replace HO := Sd.mk (OptR.below HO.out (below_drew1 (Below.refl _ _)))
   replace HAL := Sd.mk (HAL.out.below (KeepHi.of_below (below_drew1 (Below.refl _ _))))
   generalize wr.drew = Wd at BX HB HH HO HAL hHeld ⊢
   refine pQ 0 (some 46) (bA 18 1) ?_
   refine pQ 1 (some 47) (bA 18 3) ?_
   refine pQ 2 (some 48) (bA 18 7) ?_
   refine pQ 3 (some 49) (bA 18 15) ?_
   refine one_ (i := 4) (N := some 50) (bA 18 31) rfl rfl (one_of HT_.out (by kernel_rfl)) (by decide) (fun K hK => ?_)
   refine gQ Tryz.func54 #[.slice AL L.length cL, .slice (some ⟨S, 0, none⟩) mt.length mt.length, .int .i64 (wrap64 (lots + 1))] ?_
   have hq := rf_Keeps.calls k1 AL cL L (some ⟨S, 0, none⟩) mt.length (sumV wg lots hv) (wrap64 (lots + 1)) _ _ (Kd.C_below HR.out.rL HB.out) h0L HAL.out.reads (Nat.le_of_eq HSL.out) HK.out
   rw [HSL.out] at hq
   refine hq.mono ?_
   clear hq
   rintro e wz ⟨rfl, hb⟩
   refine ⟨_, rfl, ?_⟩
   replace BX := Sd.mk (blk_below BX.out hb)
   replace HB := Sd.mk (below_then HB.out HB.out.size hb)
   replace HH := Sd.mk (Kd.R_below HH.out hb)
   replace HO := Sd.mk (OptR.below HO.out hb)
   replace HAL := Sd.mk (HAL.out.below (KeepHi.of_below hb))
   clear hb
   refine hK.out _ _ (ss7 BX.out) (fun hHeld => ?_)
   clear hK K
   refine nQ 50 ?_
   cases hrt : rt hv with
   | false =>
    refine pQ 5 (some 51) (bA 18 63) ?_
    refine pN 6 (some 52) (bA 18 127) ?_
    refine pN 7 (some 53) (bA 18 255) ?_
    refine pN 8 (some 54) (bA 18 511) ?_
    refine pN 9 (some 55) (bA 18 1023) ?_
    refine pN 10 (some 56) (bA 18 2047) ?_
    refine pN 12 (some 58) (bA 18 6143) ?_
    refine pN 13 (some 59) (bA 18 14335) ?_
    refine pN 11 (some 57) (bA 18 16383) ?_
    refine pN 14 (some 60) (bA 18 32767) ?_
    refine pN 15 (some 61) (bA 18 65535) ?_
    refine pN 16 (some 62) (bA 18 131071) ?_
    refine pQ 17 (some 63) (bA 18 262143) ?_
    refine done_ (done_of HT_.out (by kernel_rfl)) ?_
    go_wp2
    go_ret
    refine ⟨_, rfl, ?_, HB.out⟩
    rw [show rStep rt (fun r => cW mt r mt.length) _ hv = st from by unfold rStep; simp [hrt]]
    exact HO.out
   | true =>
    cases st with
    | none =>
     obtain rfl : vb = .slice none 0 0 := HO.out
     have heq : ∀ W, (binOp .eql 30 (.slice none 0 0) (.slice none 0 0)).run Tryz.prog W = .ok (.bool true) W := fun W => run_eql_slice_nil W 30 3 none 0 0 (by rfl)
     refine pQ 5 (some 51) (bA 18 63) ?_
     refine pQ 6 (some 52) (bA 18 127) ?_
     refine pQ 7 (some 53) (bA 18 255) ?_
     refine pQ 8 (some 54) (bA 18 511) ?_
     refine pN 9 (some 55) (bA 18 1023) ?_
     refine pN 10 (some 56) (bA 18 2047) ?_
     refine pN 12 (some 58) (bA 18 6143) ?_
     refine pN 13 (some 59) (bA 18 14335) ?_
     refine pN 11 (some 57) (bA 18 16383) ?_
     refine pN 14 (some 60) (bA 18 32767) ?_
     refine pN 15 (some 61) (bA 18 65535) ?_
     refine pQ 16 (some 62) (bA 18 131071) ?_
     refine pQ 17 (some 63) (bA 18 262143) ?_
     refine done_ (done_of HT_.out (by kernel_rfl)) ?_
     go_wp2
     go_ret
     refine ⟨_, rfl, ?_, HB.out⟩
     rw [show rStep rt (fun r => cW mt r mt.length) _ hv = some hv from by unfold rStep; simp [hrt]]
     exact ⟨HH.out, hlen, _, _, rfl⟩
    | some bb =>
     obtain ⟨hbR, hbl, Ab, cb, rfl⟩ := HO.out
     have heq : ∀ W, (binOp .eql 30 (.slice (some Ab) mt.length cb) (.slice none 0 0)).run Tryz.prog W = .ok (.bool false) W := fun W => run_eql_slice_nil W 30 3 (some Ab) mt.length cb (by rfl)
     have HBR := Sd.mk hbR
     clear hbR
     obtain ⟨kc1, hc1⟩ := HC.out hv hlen
     obtain ⟨kc2, hc2⟩ := HC.out bb hbl
     have HC1 := Sd.mk hc1
     have HC2 := Sd.mk hc2
     clear hc1 hc2
     refine pQ 5 (some 51) (bA 18 63) ?_
     refine pQ 6 (some 52) (bA 18 127) ?_
     refine pQ 7 (some 53) (bA 18 255) ?_
     refine pQ 8 (some 54) (bA 18 511) ?_
     refine tQ 9 (some 55) (bA 18 1023) ?_
     refine pQ 10 (some 56) (bA 18 2047) ?_
     refine tQ 12 (some 58) (bA 18 6143) ?_
     refine pQ 13 (some 59) (bA 18 14335) ?_
     refine one_ (i := 11) (N := some 57) (bA 18 16383) rfl rfl (one_of HT_.out (by kernel_rfl)) (by decide) (fun K hK => ?_)
     refine gQ Tryz.func59 #[.agg #[.slice A0 l0.length c0, .slice A1 mt.length c1, .slice A2 l2.length c2, .slice A3 l3.length c3, .int .i64 b4, .int .i64 b5, .int .i64 b6], .slice (some Ah) mt.length ch] ?_
     have hq := rf_cost.calls _ A0 c0 l0 A1 c1 mt A2 c2 l2 A3 c3 l3 b4 b5 b6 (some Ah) ch hv _ _ (Kd.C_below HR.out.r0 HB.out) h00 (Kd.C_below HR.out.r1 HB.out) h01 (Kd.C_below HR.out.r2 HB.out) h02 (Kd.C_below HR.out.r3 HB.out) h03 (R_c HH.out).1 (R_c HH.out).2 HC1.out
     rw [hlen] at hq
     refine hq.mono ?_
     clear hq
     rintro e wz ⟨rfl, hb⟩
     refine ⟨_, rfl, ?_⟩
     replace BX := Sd.mk (blk_below BX.out hb)
     replace HB := Sd.mk (below_then HB.out HB.out.size hb)
     replace HH := Sd.mk (Kd.R_below HH.out hb)
     replace HO := Sd.mk (OptR.below HO.out hb)
     replace HAL := Sd.mk (HAL.out.below (KeepHi.of_below hb))
     clear hb
     refine hK.out _ _ (ss7 BX.out) (fun hHeld => ?_)
     clear hK K
     refine nQ 57 ?_
     refine one_ (i := 14) (N := some 60) (bA 18 32767) rfl rfl (one_of HT_.out (by kernel_rfl)) (by decide) (fun K hK => ?_)
     refine gQ Tryz.func59 #[.agg #[.slice A0 l0.length c0, .slice A1 mt.length c1, .slice A2 l2.length c2, .slice A3 l3.length c3, .int .i64 b4, .int .i64 b5, .int .i64 b6], .slice (some Ab) mt.length cb] ?_
     have hq := rf_cost.calls _ A0 c0 l0 A1 c1 mt A2 c2 l2 A3 c3 l3 b4 b5 b6 (some Ab) cb bb _ _ (Kd.C_below HR.out.r0 HB.out) h00 (Kd.C_below HR.out.r1 HB.out) h01 (Kd.C_below HR.out.r2 HB.out) h02 (Kd.C_below HR.out.r3 HB.out) h03 (R_c HO.out.1).1 (R_c HO.out.1).2 HC2.out
     rw [hbl] at hq
     refine hq.mono ?_
     clear hq
     rintro e wz ⟨rfl, hb⟩
     refine ⟨_, rfl, ?_⟩
     replace BX := Sd.mk (blk_below BX.out hb)
     replace HB := Sd.mk (below_then HB.out HB.out.size hb)
     replace HH := Sd.mk (Kd.R_below HH.out hb)
     replace HO := Sd.mk (OptR.below HO.out hb)
     replace HAL := Sd.mk (HAL.out.below (KeepHi.of_below hb))
     clear hb
     refine hK.out _ _ (ss7 BX.out) (fun hHeld => ?_)
     clear hK K
     refine nQ 60 ?_
     refine pQ 15 (some 61) (bA 18 65535) ?_
     refine pQ 16 (some 62) (bA 18 131071) ?_
     refine pQ 17 (some 63) (bA 18 262143) ?_
     refine done_ (done_of HT_.out (by kernel_rfl)) ?_
     by_cases hlt : cW mt hv mt.length < cW mt bb mt.length
     ·have hd : decide (cW mt hv mt.length < cW mt bb mt.length) = true := decide_eq_true hlt
      go_wp2
      go_ret
      refine ⟨_, rfl, ?_, HB.out⟩
      rw [show rStep rt (fun r => cW mt r mt.length) _ hv = some hv from by unfold rStep; simp [hrt, hlt]]
      exact ⟨HH.out, hlen, _, _, rfl⟩
     ·have hd : decide (cW mt hv mt.length < cW mt bb mt.length) = false := decide_eq_false hlt
      go_wp2
      go_ret
      refine ⟨_, rfl, ?_, HB.out⟩
      rw [show rStep rt (fun r => cW mt r mt.length) _ hv = some bb from by unfold rStep; simp only [hrt, Bool.true_and, hd, Bool.false_eq_true, if_false]]
      exact HO.out
def search_nodeRT : Bool × List (List Nat × List Nat) := (true, [([], []), ([], []), ([], []), ([], []), ([], []), ([4], [4]), ([], []), ([6], [6]), ([5, 7, 5], [5, 7]), ([], []), ([0, 1, 2, 3, 8, 9, 8], [0, 1, 2, 3, 8, 9]), ([10, 10, 0, 1, 2, 3, 4, 5, 6, 7, 8, 9, 10], [9, 10])])
def search_nodeRB : List Nat := [0, 0, 0, 0, 0, 16, 0, 64, 240, 0, 1023, 2047]
theorem search_nodeR_tab : rtab .any (opsOf Tryz.f93 14) = search_nodeRT := by kernel_rfl
theorem search_nodeR_bits : waitsOk search_nodeRT.2 search_nodeRB = true := by kernel_rfl
theorem search_node (m : S70) (F : Int → Option (List Int) → Option (List Int)) (h00 : l0.length ≤ c0) (h01 : mt.length ≤ c1) (h02 : l2.length ≤ c2) (h03 : l3.length ≤ c3) (h0L : L.length ≤ cL) (hm12 : mt.length ≤ 12) (M : MatB m) (B i : Nat) (hi : i < mt.length) (hm : rd_T70 mt (i : Int) = m) (Ah : Option Addr) (ch : Nat) (hv : List Int) (vb : Value) (st : Option (List Int)) (w : World) (Aw : Option Addr) (cw : Nat) (wg : List Int) (lots : Int) (hR : Rows5 A0 A1 A2 A3 AL l0 mt l2 l3 L w) (hlen : hv.length = i) (hB : B ≤ w.heap.size)
  (hH : (Kd.int .i64).R 3 w B (fun _ => True) (.slice Ah i ch) hv) (hO : OptR w B mt.length vb st)
  (hrec : ∀ (x : Int) (w1 : World) (A9 : Addr) (c9 : Nat) (vb1 : Value) (st1 : Option (List Int)), x ∈ kilosF m.f5 (cntM m) m.f3 → Below w.heap.size w w1 → (Kd.int .i64).R 3 w1 B (fun _ => True) (.slice (some A9) (i + 1) c9) (hv ++ [x]) → OptR w1 B mt.length vb1 st1 → Calls Tryz.prog 93 #[.agg #[.slice A0 l0.length c0, .slice A1 mt.length c1, .slice A2 l2.length c2, .slice A3 l3.length c3, .int .i64 b4, .int .i64 b5, .int .i64 b6], .slice AL L.length cL, .slice Aw mt.length cw, .int .i64 lots, .slice (some A9) (i + 1) c9, vb1] w1 fun e w' => ∃ v, e = .returned v ∧ OptR w' B mt.length v (F x st1) ∧ Below w1.heap.size w1 w') :
  Calls Tryz.prog 93 #[.agg #[.slice A0 l0.length c0, .slice A1 mt.length c1, .slice A2 l2.length c2, .slice A3 l3.length c3, .int .i64 b4, .int .i64 b5, .int .i64 b6], .slice AL L.length cL, .slice Aw mt.length cw, .int .i64 lots, .slice Ah i ch, vb] w fun e w' => ∃ v, e = .returned v ∧ OptR w' B mt.length v ((kilosF m.f5 (cntM m) m.f3).foldl (fun st x => F x st) st) ∧ Below w.heap.size w w' := by
 have hu29 := Tryz.underlying29
 have hu70 := Tryz.underlying70
 obtain ⟨ad, A6, c6, e9, hx0, hx1, hx2, hx3, hx4, hx5, hx6, hl6, hi6⟩ := at_T70 hR.r1 (i : Int) (by omega) (by omega)
 cases e9
 rw [hm] at hx0 hx1 hx2 hx3 hx4 hx5 hx6
 simp only [Int.toNat_natCast] at hx0 hx1 hx2 hx3 hx4 hx5 hx6
 have hb0 := below_alloc (Below.refl w.heap.size w) (.cells #[.slice A0 l0.length c0, .slice (some ad) mt.length c1, .slice A2 l2.length c2, .slice A3 l3.length c3, .int .i64 b4, .int .i64 b5, .int .i64 b6] 29)
 replace hx0 := (hb0.cell (World.block_lt_of_cell? w _ hx0)).trans hx0
 replace hx1 := (hb0.cell (World.block_lt_of_cell? w _ hx1)).trans hx1
 replace hx2 := (hb0.cell (World.block_lt_of_cell? w _ hx2)).trans hx2
 replace hx3 := (hb0.cell (World.block_lt_of_cell? w _ hx3)).trans hx3
 replace hx4 := (hb0.cell (World.block_lt_of_cell? w _ hx4)).trans hx4
 replace hx5 := (hb0.cell (World.block_lt_of_cell? w _ hx5)).trans hx5
 replace hx6 := (hb0.cell (World.block_lt_of_cell? w _ hx6)).trans hx6
 have BX := Sd.mk (blk_new w (.cells #[.slice A0 l0.length c0, .slice (some ad) mt.length c1, .slice A2 l2.length c2, .slice A3 l3.length c3, .int .i64 b4, .int .i64 b5, .int .i64 b6] 29))
 have HB := Sd.mk hb0
 have HR := Sd.mk hR
 have HH := Sd.mk (Kd.R_below hH hb0)
 have HO := Sd.mk (OptR.below hO hb0)
 have HREC := Sd.mk hrec
 clear hR hH hO hb0 hrec hl6 hi6
 have hl : ((i : Int) == (mt.length : Int)) = false := beq_eq_false_iff_ne.2 (by omega)
 have hp : decide (0 ≤ (i : Int)) = true := decide_eq_true (by omega)
 have hq : decide ((i : Int) < (mt.length : Int)) = true := decide_eq_true (by omega)
 go_enter Tryz.func93, Tryz.ntmps93
 go_upto_region 1 with (fail)
 generalize w.alloc (.cells #[.slice A0 l0.length c0, .slice (some ad) mt.length c1, .slice A2 l2.length c2, .slice A3 l3.length c3, .int .i64 b4, .int .i64 b5, .int .i64 b6] 29) = WQ at BX HB HH HO hx0 hx1 hx2 hx3 hx4 hx5 hx6 ⊢
 obtain ⟨g0, g1, g2, g3, g4, g5, g6, _⟩ := bc7 BX.out
 go_wp2_with (first | ((with_reducible refine gate_dst (N := 15) rfl ?_); refine box_event ?hg (N := 15) ?hd (cs := #[.string (⟨#[]⟩ : ByteArray), .int .i64 0, .int .i64 0, .int .i64 0, .int .i64 0, .int .i64 0, .slice none 0 0]) (t := 70) ?hr ?_; (case hd => rfl); (case hg => rfl); (case hr => first | (go_simp; done) | (go_simp; rfl)); intro gm hg wm hbox hb; have z0 : wm.cell? ⟨gm, 0, none⟩ = some (.string (⟨#[]⟩ : ByteArray)) := (blk_cell hbox 0).trans rfl; have y0 := blk_frozen hbox 0; have z1 : wm.cell? ⟨gm, 1, none⟩ = some (.int .i64 0) := (blk_cell hbox 1).trans rfl; have y1 := blk_frozen hbox 1; have z2 : wm.cell? ⟨gm, 2, none⟩ = some (.int .i64 0) := (blk_cell hbox 2).trans rfl; have y2 := blk_frozen hbox 2; have z3 : wm.cell? ⟨gm, 3, none⟩ = some (.int .i64 0) := (blk_cell hbox 3).trans rfl; have y3 := blk_frozen hbox 3; have z4 : wm.cell? ⟨gm, 4, none⟩ = some (.int .i64 0) := (blk_cell hbox 4).trans rfl; have y4 := blk_frozen hbox 4; have z5 : wm.cell? ⟨gm, 5, none⟩ = some (.int .i64 0) := (blk_cell hbox 5).trans rfl; have y5 := blk_frozen hbox 5; have z6 : wm.cell? ⟨gm, 6, none⟩ = some (.slice none 0 0) := (blk_cell hbox 6).trans rfl; have y6 := blk_frozen hbox 6; have HGM := Sd.mk hg; have HBX := Sd.mk hbox; have HBM := Sd.mk hb; clear hg hbox hb))
 refine wp_any (fun W => W.heap[gm]? = some (.cells #[.string m.f0, .int .i64 m.f1, .int .i64 m.f2, .int .i64 m.f3, .int .i64 m.f4, .int .i64 m.f5, .slice A6 m.f6.length c6] 70 (0, 0)) ∧ Below WQ.heap.size WQ W) ⟨blk_put (blk_put (blk_put (blk_put (blk_put (blk_put (blk_put HBX.out 0 _ rfl) 1 _ rfl) 2 _ rfl) 3 _ rfl) 4 _ rfl) 5 _ rfl) 6 _ rfl, ?_⟩ ?_
 ·exact ((((((HBM.out.setCell (p := ⟨gm, 0, none⟩) (Nat.le_of_eq HGM.out.symm) _).setCell (p := ⟨gm, 1, none⟩) (Nat.le_of_eq HGM.out.symm) _).setCell (p := ⟨gm, 2, none⟩) (Nat.le_of_eq HGM.out.symm) _).setCell (p := ⟨gm, 3, none⟩) (Nat.le_of_eq HGM.out.symm) _).setCell (p := ⟨gm, 4, none⟩) (Nat.le_of_eq HGM.out.symm) _).setCell (p := ⟨gm, 5, none⟩) (Nat.le_of_eq HGM.out.symm) _).setCell (p := ⟨gm, 6, none⟩) (Nat.le_of_eq HGM.out.symm) _
 rintro W5 ⟨bm, hb5⟩
 clear z0 z1 z2 z3 z4 z5 z6 y0 y1 y2 y3 y4 y5 y6 g0 g1 g2 g3 g4 g5 g6 hx0 hx1 hx2 hx3 hx4 hx5 hx6 HBX HBM HGM
 replace BX := Sd.mk (blk_below BX.out hb5)
 have HH5 := Sd.mk (Kd.R_below HH.out hb5)
 have HO5 := Sd.mk (OptR.below HO.out hb5)
 have HB5 := Sd.mk (below_then HB.out HB.out.size hb5)
 have BM := Sd.mk bm
 clear bm hb5 HH HO HB
 obtain ⟨FIN, hFIN⟩ : ∃ FIN, (kilosF m.f5 (cntM m) m.f3).foldl (fun st x => F x st) st = FIN := ⟨_, rfl⟩
 have HFIN := Sd.mk hFIN
 go_loopg [16, 5] (cntM m) (fun kq v10 v3 w' => ∃ (j : Nat) (st' : Option (List Int)), v10 = .int .i64 (m.f3 + (j : Int) * m.f5) ∧ Sd (j + kq = cntM m ∧ OptR w' B mt.length v3 st' ∧ (kilosF m.f5 kq (m.f3 + (j : Int) * m.f5)).foldl (fun st x => F x st) st' = FIN ∧ Below W5.heap.size W5 w'))
 case atStart => exact ⟨0, st, by simp, ⟨by omega, HO5.out, by simpa using hFIN, Below.refl _ _⟩⟩
 case round =>
  obtain ⟨j, st', rfl, HI⟩ := hrel
  clear HO5 hFIN
  have hcl := cntM_last M
  have bmr := blk_below BM.out HI.out.2.2.2
  have n4 : wr.cell? ⟨gm, 4, none⟩ = some (.int .i64 m.f4) := (blk_cell bmr 4).trans rfl
  have n5 : wr.cell? ⟨gm, 5, none⟩ = some (.int .i64 m.f5) := (blk_cell bmr 5).trans rfl
  clear bmr
  cases gk with
  | zero =>
   have hj := HI.out.1
   have hd : decide (m.f3 + (j : Int) * m.f5 ≤ m.f4) = false := decide_eq_false (by rw [show (j : Int) = (cntM m : Int) by omega]; omega)
   have hfin := HI.out.2.2.1
   simp only [kilosF, List.foldl_nil] at hfin
   have HFN := Sd.mk hfin
   clear hcl hj hfin
   go_wp2
   go_ret
   exact ⟨u5, rfl, by rw [HFIN.out, ← HFN.out]; exact HI.out.2.1, below_then HB5.out HB5.out.size HI.out.2.2.2⟩
  | succ k' =>
   have hj := HI.out.1
   have hle : (j : Int) * m.f5 ≤ ((cntM m : Int) - 1) * m.f5 := Int.mul_le_mul_of_nonneg_right (by omega) (by have := M.s1; omega)
   have hd : decide (m.f3 + (j : Int) * m.f5 ≤ m.f4) = true := decide_eq_true (by omega)
   have hkm : m.f3 + (j : Int) * m.f5 ∈ kilosF m.f5 (cntM m) m.f3 := kilosF_in m.f5 (cntM m) m.f3 j (by omega)
   have hwr : wrap64 (m.f3 + (j : Int) * m.f5 + m.f5) = m.f3 + ((j + 1 : Nat) : Int) * m.f5 := by
    have h0 := Int.mul_nonneg (show 0 ≤ (j : Int) by omega) (show 0 ≤ m.f5 by have := M.s1; omega)
    have := M.hi; have := M.lo; have := M.s2; have := M.s1
    rw [wrap_id (by omega) (by omega)]; push_cast; rw [Int.add_mul, Int.one_mul]; omega
   have HKM := Sd.mk hkm
   have HWR := Sd.mk hwr
   clear hcl hj hle hkm hwr
   go_upto_region 14 with (fail)
   refine start_ (n := 12) (S := fun w' => Cs7 w.heap.size w' (.slice A0 l0.length c0) (.slice (some ad) mt.length c1) (.slice A2 l2.length c2) (.slice A3 l3.length c3) (.int .i64 b4) (.int .i64 b5) (.int .i64 b6)) (ds := []) (bA 12 0) (by kernel_rfl) rfl rfl (ss7 (blk_drew (blk_below BX.out HI.out.2.2.2))) (fun hHeld => ?_)
   refine with_tabW search_nodeR_tab search_nodeR_bits (fun HT_ HW_ => ?_)
   have BXd := Sd.mk (blk_drew (blk_below BX.out HI.out.2.2.2))
   have HBd := Sd.mk (below_drew1 HI.out.2.2.2)
   have HHd := Sd.mk (Kd.R_below HH5.out HBd.out)
   have HOd := Sd.mk (OptR.below HI.out.2.1 (below_drew1 (Below.refl wr.heap.size wr)))
   have hn := n4
   clear hn
   have n5d : wr.drew.cell? ⟨gm, 5, none⟩ = some (.int .i64 m.f5) := (blk_cell (blk_drew (blk_below BM.out HI.out.2.2.2)) 5).trans rfl
   clear n4 n5
   generalize wr.drew = Wd at BXd HBd HHd HOd hHeld n5d ⊢
   refine tQ 0 (some 82) (bA 12 1) ?_
   refine pQ 1 (some 83) (bA 12 3) ?_
   refine pQ 2 (some 84) (bA 12 7) ?_
   refine pQ 3 (some 85) (bA 12 15) ?_
   refine pQ 4 (some 86) (bA 12 31) ?_
   refine pQ 6 (some 88) (bA 12 95) ?_
   refine pQ 9 (some 91) (bA 12 607) ?_
   refine join_ (σ := Value × Value) 3 (bA 12 767) (fun s_ => [(87, s_.1), (89, s_.2)]) (fun s_ w' => (Cs7 w.heap.size w' (.slice A0 l0.length c0) (.slice (some ad) mt.length c1) (.slice A2 l2.length c2) (.slice A3 l3.length c3) (.int .i64 b4) (.int .i64 b5) (.int .i64 b6)) ∧ (Kd.int .i64).R 3 w' Wd.heap.size (fun _ => True) s_.1 hv ∧ (Kd.int .i64).R 3 w' Wd.heap.size (fun _ => True) s_.2 [(m.f3 + (j : Int) * m.f5)] ∧ Below Wd.heap.size Wd w') ?_ ?_
   rotate_left
   ·intro hCont
    refine two_ (i := 5) (j := 7) (Ni := some 87) (Nj := some 89) (bA 12 639) (bA 12 735) rfl rfl rfl rfl (two_of HT_.out (by kernel_rfl)) (by decide) (by decide) (fun K hK => ?_) (fun K hK => ?_)
    ·refine Kd.R_append_rows_step (Kd.int .i64) (Rr := (Kd.int .i64).K Wd) (w0 := Wd) Wd.heap.size (by rfl) (.const (.slice none 0 0)) (.tmp 86) 30 3 (.int .i64 0) 8 rfl (by rfl) (by rfl) rfl (by decide) (by omega) (.slice none 0 0) [] hv Ah i ch (fun _ => True) (fun _ => False) rfl rfl (Kd.R_nil _ _ _ _ _) (RI_len (Kd.R_below HHd.out (Below.refl Wd.heap.size Wd)) hlen) (fun _ _ h => h) (fun k hk => hk.elim) (fun _ _ => trivial) (Below.refl Wd.heap.size Wd) (Nat.le_refl _) (by simp; omega) ?_
     intro v1 w1 ho1 hb1 hg1 hat1
     simp only [List.nil_append] at ho1
     clear hat1 hg1
     refine hK.out _ _ (ss7 (blk_below BXd.out hb1)) (fun hHeld => ?_)
     clear hK K
     refine nQ 87 ?_
     refine one_ (i := 7) (N := some 89) (bA 12 767) rfl rfl (one_of HT_.out (by kernel_rfl)) (by decide) (fun K hK => ?_)
     refine Kd.R_lit_step (Kd.int .i64) (w0 := Wd) Wd.heap.size 3 (by rfl) (N := 89) rfl (xs := [(m.f3 + (j : Int) * m.f5)]) (inner := [.int .i64 (m.f3 + (j : Int) * m.f5)]) (okp := fun _ => True) (ok := fun _ => True) ?hr ?hrep (fun _ h => h) trivial hb1 (hb1.size) (by simp) ?_
     (case hr => first | (go_simp; done) | (go_simp; rfl))
     (case hrep => exact ⟨rfl, fun j q hq => by cases j with | zero => (simp at hq; subst hq; rfl) | succ j => simp at hq⟩)
     intro v2 w2 ho2 hb2 hg2 hat2
     clear hat2
     refine hK.out _ _ (ss7 (blk_below BXd.out hb2)) (fun hHeld => ?_)
     clear hK K
     refine nQ 89 ?_
     exact norm_ (by simp only [putAll, Act.put, List.setIfInBounds_toArray, List.set_cons_zero, List.set_cons_succ]) (hCont (v1, v2) _ ⟨hHeld, Kd.R_grown ho1 hg2 (fun k _ => by simp), ho2, hb2⟩)
    ·refine Kd.R_lit_step (Kd.int .i64) (w0 := Wd) Wd.heap.size 3 (by rfl) (N := 89) rfl (xs := [(m.f3 + (j : Int) * m.f5)]) (inner := [.int .i64 (m.f3 + (j : Int) * m.f5)]) (okp := fun _ => True) (ok := fun _ => True) ?hr ?hrep (fun _ h => h) trivial (Below.refl Wd.heap.size Wd) (Nat.le_refl _) (by simp) ?_
     (case hr => first | (go_simp; done) | (go_simp; rfl))
     (case hrep => exact ⟨rfl, fun j q hq => by cases j with | zero => (simp at hq; subst hq; rfl) | succ j => simp at hq⟩)
     intro v2 w1 ho2 hb1 hg1 hat1
     clear hat1 hg1
     refine hK.out _ _ (ss7 (blk_below BXd.out hb1)) (fun hHeld => ?_)
     clear hK K
     refine nQ 89 ?_
     refine one_ (i := 5) (N := some 87) (bA 12 767) rfl rfl (one_of HT_.out (by kernel_rfl)) (by decide) (fun K hK => ?_)
     refine Kd.R_append_rows_step (Kd.int .i64) (Rr := (Kd.int .i64).K Wd) (w0 := Wd) Wd.heap.size (by rfl) (.const (.slice none 0 0)) (.tmp 86) 30 3 (.int .i64 0) 8 rfl (by rfl) (by rfl) rfl (by decide) (by omega) (.slice none 0 0) [] hv Ah i ch (fun _ => True) (fun _ => False) rfl rfl (Kd.R_nil _ _ _ _ _) (RI_len (Kd.R_below HHd.out hb1) hlen) (fun _ _ h => h) (fun k hk => hk.elim) (fun _ _ => trivial) hb1 (hb1.size) (by simp; omega) ?_
     intro v1 w2 ho1 hb2 hg2 hat2
     simp only [List.nil_append] at ho1
     clear hat2
     refine hK.out _ _ (ss7 (blk_below BXd.out hb2)) (fun hHeld => ?_)
     clear hK K
     refine nQ 87 ?_
     exact norm_ (by simp only [putAll, Act.put, List.setIfInBounds_toArray, List.set_cons_zero, List.set_cons_succ]) (hCont (v1, v2) _ ⟨hHeld, ho1, Kd.R_grown ho2 hg2 (fun k _ => by simp [Value.ownBlock]), hb2⟩)
   clear hHeld
   rintro ⟨v1, v2⟩ w2 ⟨hHeld, ho1, ho2, hb2⟩
   obtain ⟨Ax, cx', rfl, hc2, hC2⟩ := Kd.R_reads ho2
   simp only [putAll, Act.put, List.setIfInBounds_toArray, List.set_cons_zero, List.set_cons_succ]
   refine one_ (i := 8) (N := some 90) (bA 12 1023) rfl rfl (one_of HT_.out (by kernel_rfl)) (by decide) (fun K hK => ?_)
   refine Kd.R_append_rows_step (Kd.int .i64) (Rr := (Kd.int .i64).K w2) (w0 := Wd) Wd.heap.size (by rfl) (.tmp 87) (.tmp 89) 30 3 (.int .i64 0) 8 rfl (by rfl) (by rfl) rfl (by decide) (by omega) v1 hv [(m.f3 + (j : Int) * m.f5)] Ax 1 cx' (fun _ => True) (fun _ => False) rfl rfl ho1 hC2 (fun _ _ h => h) (fun k hk => hk.elim) (fun _ _ => trivial) hb2 hb2.size (by rw [hlen]; omega) ?_
   intro v3 w3 ho3 hb3 hg3 hat3
   clear hat3 hg3 ho1 ho2 hc2 hC2 hb2
   refine hK.out _ _ (ss7 (blk_below BXd.out hb3)) (fun hHeld => ?_)
   clear hK K
   refine nQ 90 ?_
   obtain ⟨A9, c9, rfl⟩ := Kd.R_slice ho3
   have hlen2 : (hv ++ [(m.f3 + (j : Int) * m.f5)]).length = i + 1 := by simp [hlen]
   obtain ⟨Ad, rfl⟩ := R_some ho3 (by omega)
   rw [hlen2] at ho3 ⊢
   have hcall := HREC.out _ w3 Ad c9 u5 st' HKM.out (below_then HB5.out HB5.out.size (below_then HBd.out HBd.out.size hb3)) (Kd.R_lower ho3 (by have := HBd.out.size; have := HB5.out.size; omega)) (OptR.below HOd.out hb3)
   refine one_ (i := 10) (N := some 92) (bA 12 2047) rfl rfl (one_of HT_.out (by kernel_rfl)) (by decide) (fun K hK => ?_)
   refine gQ Tryz.func93 #[.agg #[.slice A0 l0.length c0, .slice (some ad) mt.length c1, .slice A2 l2.length c2, .slice A3 l3.length c3, .int .i64 b4, .int .i64 b5, .int .i64 b6], .slice AL L.length cL, .slice Aw mt.length cw, .int .i64 lots, .slice (some Ad) (i + 1) c9, u5] ?_
   refine hcall.mono ?_
   clear hcall
   rintro e w4 ⟨v4, rfl, hO4, hb4⟩
   refine ⟨_, rfl, ?_⟩
   have hb4' := below_then hb3 hb3.size hb4
   refine hK.out _ _ (ss7 (blk_below BXd.out hb4')) (fun hHeld => ?_)
   clear hK K
   refine nQ 92 ?_
   refine pQ 11 (some 5) (bA 12 4095) ?_
   refine done_ (done_of HT_.out (by kernel_rfl)) ?_
   have n5e : w4.cell? ⟨gm, 5, none⟩ = some (.int .i64 m.f5) := (hb4'.cell (World.block_lt_of_cell? _ _ n5d)).trans n5d
   clear n5d
   have H4 := Sd.mk (And.intro hO4 hb4')
   clear hO4 hb4 hb4' ho3 hb3 hHeld
   go_wp2
   go_roundg k'
   case measure => exact Nat.lt_succ_self _
   case rel => exact ⟨j + 1, _, by rw [HWR.out], ⟨by have := HI.out.1; omega, H4.out.1, by have := HI.out.2.2.1; simp only [kilosF, List.foldl_cons] at this; rw [show m.f3 + ((j + 1 : Nat) : Int) * m.f5 = m.f3 + (j : Int) * m.f5 + m.f5 by push_cast; rw [Int.add_mul, Int.one_mul]; omega]; exact this, below_then HBd.out HBd.out.size H4.out.2⟩⟩
theorem search_calls (rt : List Int → Bool) (Aw : Option Addr) (cw : Nat) (wg : List Int) (lots : Int) (hcw : wg.length ≤ cw) (hwl : wg.length = mt.length) (h00 : l0.length ≤ c0) (h01 : mt.length ≤ c1) (h02 : l2.length ≤ c2) (h03 : l3.length ≤ c3) (h0L : L.length ≤ cL) (hm12 : mt.length ≤ 12) (hC : ∀ r : List Int, r.length = mt.length → ∃ k, rf_cost.f k l0 mt l2 l3 b4 b5 b6 r = some (cW mt r mt.length)) (hM : ∀ m ∈ mt, MatB m) (hm1 : 1 ≤ mt.length) (hK : ∀ r ∈ allR mt, ∃ k, rf_Keeps.f k L (sumV wg lots r) (wrap64 (lots + 1)) = some (rt r)) (B : Nat) :
  ∀ (q i : Nat), i + q = mt.length → ∀ (Ah : Option Addr) (ch : Nat) (hv : List Int) (vb : Value) (st : Option (List Int)) (w : World), Rows5 A0 A1 A2 A3 AL l0 mt l2 l3 L w → Kd.C (Kd.int .i64) w Aw wg.length wg → hv.length = i → (∀ x ∈ allR (mt.drop i), hv ++ x ∈ allR mt) → B ≤ w.heap.size → (Kd.int .i64).R 3 w B (fun _ => True) (.slice Ah i ch) hv → OptR w B mt.length vb st →
   Calls Tryz.prog 93 #[.agg #[.slice A0 l0.length c0, .slice A1 mt.length c1, .slice A2 l2.length c2, .slice A3 l3.length c3, .int .i64 b4, .int .i64 b5, .int .i64 b6], .slice AL L.length cL, .slice Aw mt.length cw, .int .i64 lots, .slice Ah i ch, vb] w fun e w' => ∃ v, e = .returned v ∧ OptR w' B mt.length v (firstV rt (fun r => cW mt r mt.length) (mt.drop i) hv st) ∧ Below w.heap.size w w' := by
 intro q
 induction q with
 | zero =>
  intro i hi Ah ch hv vb st w hR hAw hlen hall hB hH hO
  obtain rfl : i = mt.length := by omega
  obtain ⟨ad, rfl⟩ := R_some hH (by omega)
  have he : mt.drop mt.length = [] := List.drop_length
  have hin := hall [] (by rw [he]; simp [allR])
  rw [List.append_nil] at hin
  rw [he, firstV_nil]
  exact search_leaf A0 A1 A2 A3 AL c0 c1 c2 c3 cL l0 mt l2 l3 b4 b5 b6 L rt Aw cw wg lots hcw hwl h00 h01 h02 h03 h0L hm12 hC B ad ch hv vb st w hR hAw hlen hH hO (hK _ hin)
 | succ q ih =>
  intro i hi Ah ch hv vb st w hR hAw hlen hall hB hH hO
  have hlt : i < mt.length := by omega
  have hd : mt.drop i = mt[i] :: mt.drop (i + 1) := List.drop_eq_getElem_cons hlt
  rw [hd, firstV_cons]
  refine search_node A0 A1 A2 A3 AL c0 c1 c2 c3 cL l0 mt l2 l3 b4 b5 b6 L mt[i] (fun k s => firstV rt (fun r => cW mt r mt.length) (mt.drop (i + 1)) (hv ++ [k]) s) h00 h01 h02 h03 h0L hm12 (hM _ (List.getElem_mem hlt)) B i hlt (by simp [rd_T70, hlt]) Ah ch hv vb st w Aw cw wg lots hR hlen hB hH hO ?_
  intro x w1 A9 c9 vb1 st1 hx hb hH1 hO1
  exact ih (i + 1) (by omega) (some A9) c9 (hv ++ [x]) vb1 st1 w1 (hR.below hb) (Kd.C_below hAw hb) (by simp [hlen]) (fun y hy => by
   have := hall (x :: y) (by rw [hd]; simp only [allR, List.mem_flatMap, List.mem_map]; exact ⟨x, hx, y, hy, rfl⟩)
   simpa using this) (Nat.le_trans hB hb.size) hH1 hO1
end
end
section
structure Near (S : Nat) (W W' : World) : Prop where
 b : Below S W W'
 k : ∀ g, g < W.heap.size → g ≠ S → W'.heap[g]? = W.heap[g]?
theorem Near.refl (S : Nat) (W : World) : Near S W W := ⟨Below.refl _ _, fun _ _ _ => rfl⟩
theorem Near.trans {S : Nat} {a b c : World} (h : Near S a b) (h2 : Near S b c) : Near S a c := ⟨h.b.trans h2.b, fun g h3 h4 => (h2.k g (Nat.lt_of_lt_of_le h3 h.b.size) h4).trans (h.k g h3 h4)⟩
theorem Near.of_below {S : Nat} {a b : World} (hs : S ≤ a.heap.size) (h : Below a.heap.size a b) : Near S a b := ⟨h.mono hs, fun g h3 _ => h.block g h3⟩
theorem Near.set {S : Nat} (W : World) (j : Nat) (v : Value) : Near S W (W.setCell ⟨S, j, none⟩ v) := ⟨(Below.refl _ _).setCell (p := ⟨S, j, none⟩) (Nat.le_refl _) _, fun g _ h => Below.heap_setCell W ⟨S, j, none⟩ v g h⟩
theorem Near.drewN {S : Nat} (W : World) (n : Nat) : Near S W (W.drewN n) := ⟨below_drewN' _ _ _, fun g h _ => (below_drewN' W.heap.size W n).block g h⟩
theorem Near.blk {S g : Nat} {W W' : World} {ob : Obj} (h : Near S W W') (hg : W.heap[g]? = some ob) (hn : g ≠ S) : W'.heap[g]? = some ob := (h.k g (blk_lt hg) hn).trans hg
theorem Near.cell {S : Nat} {W W' : World} (h : Near S W W') {a : Addr} {v : Value} (hc : W.cell? a = some v) (hn : a.block ≠ S) : W'.cell? a = some v := by
 have hb := h.k a.block (World.block_lt_of_cell? W _ hc) hn
 rw [← hc]
 unfold World.cell?
 rw [hb]
theorem below_near {n S : Nat} {W0 W W' : World} (h : Below n W0 W) (h2 : Near S W W') (hn : n ≤ S) : Below n W0 W' := h.trans (h2.b.mono hn)
def co4T : Bool × List (List Nat × List Nat) := (true, [([], []), ([], []), ([], []), ([], []), ([2, 3], [2, 3]), ([4], [4]), ([], []), ([], []), ([], []), ([7, 8], [7, 8]), ([9], [9]), ([6, 10], [6, 10]), ([5, 11], [5, 11]), ([0, 1, 0, 1, 2, 3, 4, 5, 6, 7, 8, 9, 10, 11, 12], [0, 1]), ([13, 12, 0, 1, 2, 3, 4, 5, 6, 7, 8, 9, 10, 11, 12], [12, 13])])
def co4B : List Nat := [0, 0, 0, 0, 12, 28, 0, 0, 0, 384, 896, 1984, 4092, 8191, 16383]
theorem co4_tab : rtab .any (opsOf Tryz.f92 4) = co4T := by kernel_rfl
theorem co4_bits : waitsOk co4T.2 co4B = true := by kernel_rfl
theorem corr1_calls (S Bs Bw Bl Bb : Nat) (Aw Al : Option Addr) (cw cl n : Nat) (wg : List Int) (lots : Int) (L : List S168) (A : Addr) (r : List Int) (W0 W : World) (b : Bool)
  (hn : n ≤ 12) (hwl : wg.length = n) (hrl : r.length = n) (hcl : L.length ≤ cl) (hS : W0.heap.size ≤ S) (hE : Below W0.heap.size W0 W) (hw : Kd.C (Kd.int .i64) W0 Aw wg.length wg) (hl : Kd.C k168 W0 Al L.length L)
  (bs : W.heap[Bs]? = some (.cells #[.slice (some ⟨S, 0, none⟩) n n] 30 (0, 0))) (bw : W.heap[Bw]? = some (.cells #[.slice Aw n cw] 30 (0, 0))) (bl : W.heap[Bl]? = some (.cells #[.int .i64 lots] 3 (0, 0))) (bb : W.heap[Bb]? = some (.cells #[.slice Al L.length cl] 100 (0, 0)))
  (ns : Bs ≠ S) (nw : Bw ≠ S) (nl : Bl ≠ S) (nb : Bb ≠ S) (nA : A.block ≠ S) (hri : Kd.C (Kd.int .i64) W (some A) r.length r) (hI : ∃ xs, IntsAt W S n xs) (hk : x_keeps.f L (sumV wg lots r) (wrap64 (lots + 1)) = some b) :
  Calls Tryz.prog 92 #[.slice (some A) n n, .pointer (some ⟨Bs, 0, none⟩), .pointer (some ⟨Bw, 0, none⟩), .pointer (some ⟨Bl, 0, none⟩), .pointer (some ⟨Bb, 0, none⟩)] W fun e W' => e = .returned (.bool b) ∧ Near S W W' ∧ ∃ xs, IntsAt W' S n xs := by
 obtain ⟨xs0, hI0⟩ := hI
 have HI0 := Sd.mk hI0
 have HF := Sd.mk (And.intro bs (And.intro bw (And.intro bl bb)))
 have HNE := Sd.mk (And.intro ns (And.intro nw (And.intro nl (And.intro nb nA))))
 have HE := Sd.mk hE
 have HW := Sd.mk (And.intro hw hl)
 have HRI := Sd.mk hri
 have HK := Sd.mk hk
 have HS := Sd.mk hS
 have HL := Sd.mk (And.intro hwl hrl)
 have h1 : W.cell? ⟨Bs, 0, none⟩ = some (.slice (some ⟨S, 0, none⟩) n n) := (blk_cell bs 0).trans rfl
 clear hI0 bs bw bl bb ns nw nl nb nA hE hw hl hri hk hS hwl hrl
 go_enter Tryz.func92, Tryz.ntmps92
 go_wp2
 clear h1
 go_loopg [10, 7] n (fun kq v10 v7 w' => ∃ (j : Nat) (xs : List Int), v10 = .int .i64 (j : Int) ∧ Sd (j ≤ n ∧ n - j ≤ kq ∧ IntsAt w' S n xs ∧ (∀ i : Nat, i < j → rd xs (i : Int) = rd (sumV wg lots r) (i : Int)) ∧ Near S W w'))
 case atStart => exact ⟨0, xs0, by simp, ⟨by omega, by omega, HI0.out, fun i hi => by omega, Near.refl _ _⟩⟩
 case round =>
  clear HI0
  obtain ⟨j, xs, rfl, HI⟩ := hrel
  have HB0 : Sd (Below W0.heap.size W0 wr) := ⟨below_near HE.out HI.out.2.2.2.2 HS.out⟩
  have q1 : wr.cell? ⟨Bs, 0, none⟩ = some (.slice (some ⟨S, 0, none⟩) n n) := (blk_cell (HI.out.2.2.2.2.blk HF.out.1 HNE.out.1) 0).trans rfl
  have q3 : wr.cell? ⟨Bl, 0, none⟩ = some (.int .i64 lots) := (blk_cell (HI.out.2.2.2.2.blk HF.out.2.2.1 HNE.out.2.2.1) 0).trans rfl
  by_cases hj : j < n
  ·have hj1 : n - (j + 1) < gk := by have := HI.out.2.1; omega
   have HJ1 := Sd.mk hj1
   clear hj1
   have hd : decide ((j : Int) < (n : Int)) = true := decide_eq_true (by omega)
   have hp : decide (0 ≤ (j : Int)) = true := decide_eq_true (by omega)
   have hww : wrap64 ((j : Int) + 1) = ((j + 1 : Nat) : Int) := by rw [wrap_id (by omega) (by omega)]; omega
   obtain ⟨aw, ew, hxw⟩ := Kd.at_int HW.out.1 (j : Int) (Int.natCast_nonneg j) (by rw [HL.out.1]; exact Int.ofNat_lt.2 hj)
   cases ew
   have q2 : wr.cell? ⟨Bw, 0, none⟩ = some (.slice (some aw) n cw) := (blk_cell (HI.out.2.2.2.2.blk HF.out.2.1 HNE.out.2.1) 0).trans rfl
   obtain ⟨ah, eh, hxh⟩ := Kd.at_int HRI.out (j : Int) (Int.natCast_nonneg j) (by rw [HL.out.2]; exact Int.ofNat_lt.2 hj)
   cases eh
   replace hxw := (HB0.out.cell (World.block_lt_of_cell? W0 _ hxw)).trans hxw
   replace hxh := HI.out.2.2.2.2.cell hxh (by rw [add_block]; exact HNE.out.2.2.2.2)
   simp only [Int.toNat_natCast] at hxw hxh
   obtain ⟨hq0, hq1⟩ := HI.out.2.2.1.cell j hj
   have HJ := Sd.mk hj
   have HWW := Sd.mk hww
   go_upto_region 4 with (fail)
   refine start_ (n := 15) (S := fun w' => w'.cell? ⟨Bs, 0, none⟩ = some (.slice (some ⟨S, 0, none⟩) n n) ∧ w'.cell? ⟨Bw, 0, none⟩ = some (.slice (some aw) n cw) ∧ w'.cell? (aw.add j) = some (.int .i64 (rd wg (j : Int))) ∧ w'.cell? ⟨Bl, 0, none⟩ = some (.int .i64 lots) ∧ w'.cell? (A.add j) = some (.int .i64 (rd r (j : Int)))) (ds := [14]) (bA 15 0) (by kernel_rfl) rfl rfl ⟨q1, q2, hxw, q3, hxh⟩ (fun hHeld => ?_)
   refine with_tabW co4_tab co4_bits (fun HT_ HW_ => ?_)
   refine tQ 0 (some 13) (bA 15 1) ?_
   refine pQ 1 (some 14) (bA 15 3) ?_
   refine tQ 2 (some 15) (bA 15 7) ?_
   refine pQ 3 (some 16) (bA 15 15) ?_
   refine pQ 4 (some 17) (bA 15 31) ?_
   refine tQ 5 (some 18) (bA 15 63) ?_
   refine tQ 6 (some 19) (bA 15 127) ?_
   refine pQ 7 (some 20) (bA 15 255) ?_
   refine pQ 8 (some 21) (bA 15 511) ?_
   refine pQ 9 (some 22) (bA 15 1023) ?_
   refine tQ 10 (some 23) (bA 15 2047) ?_
   refine pQ 11 (some 24) (bA 15 4095) ?_
   refine pQ 12 (some 25) (bA 15 8191) ?_
   refine pQ 13 (some 26) (bA 15 16383) ?_
   refine last_ (i := 14) (N := none) (bA 15 32767) rfl rfl (one_of HT_.out (by kernel_rfl)) (by decide) (fun K hK => ?_)
   refine store_step (by rfl) rfl (by first | (go_simp; done) | (go_simp; rfl)) ?_
   refine hK.out _ _ ?_
   clear hK K
   refine done_ (done_of HT_.out (by kernel_rfl)) ?_
   go_wp2
   go_roundg (n - (j + 1))
   case measure => exact HJ1.out
   case rel => exact ⟨j + 1, _, by first | rw [HWW.out] | rfl | (push_cast; rfl), ⟨HJ.out, Nat.le_refl _, (HI.out.2.2.1.below (KeepHi.of_below (below_drew1 (Below.refl _ _)))).put j _, by have h := sum_step HI.out.2.2.1.1 HJ.out HI.out.2.2.2.1; rw [sumV_rd (by rw [HL.out.1]; exact HJ.out)] at h; exact h, HI.out.2.2.2.2.trans ((Near.of_below (Nat.le_of_lt HI.out.2.2.1.lt) (below_drew1 (Below.refl _ _))).trans (Near.set _ _ _))⟩⟩
  ·have hd : decide ((j : Int) < (n : Int)) = false := decide_eq_false (by omega)
   have hsl : (sumV wg lots r).length = n := by rw [sumV_len]; exact HL.out.1
   have hjn : j = n := by have := HI.out.1; omega
   have hxs := sum_end HI.out.2.2.1.1 hsl (fun i hi => HI.out.2.2.2.1 i (by rw [hjn]; exact hi))
   have HAL := Sd.mk (show IntsAt wr S n (sumV wg lots r) from hxs ▸ HI.out.2.2.1)
   have q4 : wr.cell? ⟨Bb, 0, none⟩ = some (.slice Al L.length cl) := (blk_cell (HI.out.2.2.2.2.blk HF.out.2.2.2 HNE.out.2.2.2.1) 0).trans rfl
   have hq := x_keeps.calls Al cl L (some ⟨S, 0, none⟩) n (sumV wg lots r) (wrap64 (lots + 1)) b wr (Kd.C_below HW.out.2 HB0.out) hcl HAL.out.reads (Nat.le_of_eq hsl) HK.out
   rw [hsl] at hq
   have HQ := Sd.mk hq
   clear hq hxs hjn hsl
   go_wp2_with (go_at_call 51; (with_reducible refine HQ.out.mono ?_); rintro e w9 ⟨rfl, hb⟩)
   go_ret
   exact ⟨rfl, HI.out.2.2.2.2.trans (Near.of_below (Nat.le_of_lt HI.out.2.2.1.lt) hb), _, HAL.out.below (KeepHi.of_below hb)⟩
theorem ints_low {W W' : World} {S n N : Nat} {xs : List Int} (h : IntsAt W S n xs) (hb : Below N W W') (hS : S < N) : IntsAt W' S n xs :=
 ⟨h.1, Kd.R_step h.2 (fun k hk _ => hb.block k (by rw [hk]; exact hS))⟩
theorem near_low {W0 W W' : World} {S : Nat} (h : Near S W0 W) (hb : Below W0.heap.size W W') (hS : S < W0.heap.size) : Near S W0 W' :=
 ⟨h.b.trans (hb.mono (Nat.le_of_lt hS)), fun g hg hn => (hb.block g hg).trans (h.k g hg hn)⟩
def b_Correct.f (k : Nat) (o : List ByteArray) (mt : List S70) (s : List S27) (p : List S89) (a4 a5 a6 : Int) (wg : List Int) (lots : Int) : Option (List Int × Int × Bool × Int) := some (CorrV o mt s p a4 a5 a6 wg lots)
theorem b_Correct.calls (k : Nat) (A00 : Option Addr) (c00 : Nat) (l00 : List ByteArray) (A01 : Option Addr) (c01 : Nat) (l01 : List (S70)) (A02 : Option Addr) (c02 : Nat) (l02 : List (S27)) (A03 : Option Addr) (c03 : Nat) (l03 : List (S89)) (a04 : Int) (a05 : Int) (a06 : Int) (A1 : Option Addr) (c1 : Nat) (l1 : List Int) (a2 : Int) (r1 : List Int) (r2 : Int) (r3 : Bool) (r4 : Int) (w : World) (hr00 : Kd.C Kd.string w A00 l00.length l00) (hc00 : l00.length ≤ c00) (hr01 : Kd.C k70 w A01 l01.length l01) (hc01 : l01.length ≤ c01) (hr02 : Kd.C k27 w A02 l02.length l02) (hc02 : l02.length ≤ c02) (hr03 : Kd.C k89 w A03 l03.length l03) (hc03 : l03.length ≤ c03) (hr1 : Kd.C (Kd.int .i64) w A1 l1.length l1) (hc1 : l1.length ≤ c1) (h : b_Correct.f k l00 l01 l02 l03 a04 a05 a06 l1 a2 = some (r1, r2, r3, r4)) :
  Calls Tryz.prog 31 #[.agg #[.slice A00 l00.length c00, .slice A01 l01.length c01, .slice A02 l02.length c02, .slice A03 l03.length c03, .int .i64 a04, .int .i64 a05, .int .i64 a06], .slice A1 l1.length c1, .int .i64 a2] w fun e w' => ∃ v0_ : Value, e = .returned (.tuple #[v0_, .int .i64 r2, .bool r3, .int .i64 r4]) ∧ Kd.R (Kd.int .i64) 3 w' w.heap.size (fun _ => True) v0_ r1 ∧ Below w.heap.size w w' := by
 have hV : CorrV l00 l01 l02 l03 a04 a05 a06 l1 a2 = (r1, r2, r3, r4) := Option.some.inj h
 clear h
 have HV := Sd.mk hV
 clear hV
 obtain ⟨q0, q1, q2, hb0, _⟩ := blk_three w (.cells #[.slice A00 l00.length c00, .slice A01 l01.length c01, .slice A02 l02.length c02, .slice A03 l03.length c03, .int .i64 a04, .int .i64 a05, .int .i64 a06] 29) (.cells #[.slice A1 l1.length c1] 30) (.cells #[.int .i64 a2] 3)
 have BX := Sd.mk (And.intro q0 (And.intro q1 q2))
 have HB := Sd.mk hb0
 have HR := Sd.mk (And.intro hr00 (And.intro hr01 (And.intro hr02 (And.intro hr03 hr1))))
 clear q0 q1 q2 hb0 hr00 hr01 hr02 hr03 hr1
 obtain ⟨ka, hka⟩ := basked l00 l01 l02 l03 a04 a05 a06 l1
 have HA := Sd.mk (hka ka (Nat.le_refl _))
 clear hka
 go_enter Tryz.func31, Tryz.ntmps31
 go_upto_region 1 with (fail)
 obtain ⟨B3, e3⟩ : ∃ B, B = w.heap.size := ⟨_, rfl⟩
 obtain ⟨B4, e4⟩ : ∃ B, B = w.heap.size + 1 := ⟨_, rfl⟩
 obtain ⟨B5, e5⟩ : ∃ B, B = w.heap.size + 1 + 1 := ⟨_, rfl⟩
 generalize ((w.alloc (.cells #[.slice A00 l00.length c00, .slice A01 l01.length c01, .slice A02 l02.length c02, .slice A03 l03.length c03, .int .i64 a04, .int .i64 a05, .int .i64 a06] 29)).alloc (.cells #[.slice A1 l1.length c1] 30)).alloc (.cells #[.int .i64 a2] 3) = W0 at BX HB ⊢
 rw [← e5, ← e4, ← e3] at BX ⊢
 have E3 := Sd.mk (And.intro e3 (And.intro e4 e5))
 clear e3 e4 e5
 obtain ⟨g0, g1, g2, g3, g4, g5, g6, _⟩ := bc7 BX.out.1; have g7 : W0.cell? ⟨B4, 0, none⟩ = some (.slice A1 l1.length c1) := (blk_cell BX.out.2.1 0).trans rfl; have g8 : W0.cell? ⟨B5, 0, none⟩ = some (.int .i64 a2) := (blk_cell BX.out.2.2 0).trans rfl
 go_upto_region 2 with (first | (go_at_call 50; (refine (b_asked.calls _ A00 c00 l00 A01 c01 l01 A02 c02 l02 A03 c03 l03 a04 a05 a06 A1 c1 l1 _ _ (Kd.C_below HR.out.1 HB.out) hc00 (Kd.C_below HR.out.2.1 HB.out) hc01 (Kd.C_below HR.out.2.2.1 HB.out) hc02 (Kd.C_below HR.out.2.2.2.1 HB.out) hc03 (Kd.C_below HR.out.2.2.2.2 HB.out) hc1 HA.out).mono ?_); rintro e W1 ⟨rfl, hb⟩; clear g0 g1 g2 g3 g4 g5 g6 g7 g8; replace BX := Sd.mk (And.intro (blk_below BX.out.1 hb) (And.intro (blk_below BX.out.2.1 hb) (blk_below BX.out.2.2 hb))); replace HB := Sd.mk (below_then HB.out HB.out.size hb); clear hb; obtain ⟨g0, g1, g2, g3, g4, g5, g6, _⟩ := bc7 BX.out.1; have g7 : W1.cell? ⟨B4, 0, none⟩ = some (.slice A1 l1.length c1) := (blk_cell BX.out.2.1 0).trans rfl; have g8 : W1.cell? ⟨B5, 0, none⟩ = some (.int .i64 a2) := (blk_cell BX.out.2.2 0).trans rfl))
 by_cases hz : askV l00 l01 l02 l03 a04 a05 a06 l1 = 0
 rotate_left
 ·have hV := HV.out
  unfold CorrV at hV
  rw [if_neg hz] at hV
  simp only [Prod.mk.injEq] at hV
  obtain ⟨rfl, rfl, rfl, rfl⟩ := hV
  clear HV
  have d1 : (askV l00 l01 l02 l03 a04 a05 a06 l1 == 0) = false := beq_eq_false_iff_ne.2 hz
  have d2 : (askV l00 l01 l02 l03 a04 a05 a06 l1 != 0) = true := by simp [hz]
  go_wp2
  refine bodyPost_ret (v := .tuple #[.slice none 0 0, .int .i64 0, .bool false, .int .i64 (askV l00 l01 l02 l03 a04 a05 a06 l1)]) (by simp [results, Tryz.results31]) rfl ?_
  exact ⟨_, rfl, Kd.R_nil _ _ _ _ _, HB.out⟩
 obtain ⟨H, hrec⟩ := ask_ok hz
 have CKV := Sd.mk (ask_check l00 l01 l02 l03 a04 a05 a06 l1 hz)
 have HK := Sd.mk H
 have HREC := Sd.mk hrec
 have hV := HV.out
 clear HV
 unfold CorrV at hV
 rw [if_pos hz] at hV
 rw [hz]
 have hwi := within_f a2 1 100
 rw [← Bool.decide_and] at hwi
 have HWI := Sd.mk hwi
 clear hwi
 clear hz H hrec HA
 by_cases hl : 1 ≤ a2 ∧ a2 ≤ 100
 rotate_left
 ·rw [if_neg hl] at hV
  simp only [Prod.mk.injEq] at hV
  obtain ⟨rfl, rfl, rfl, rfl⟩ := hV
  rw [decide_eq_false hl] at HWI
  go_wp2_with (first | (go_at_call 56; (refine (b_within.calls _ _ _ _ _ HWI.out).mono ?_); rintro e W2 ⟨rfl, hd⟩; have hb := hd.below; clear hd; clear g0 g1 g2 g3 g4 g5 g6 g7 g8; replace BX := Sd.mk (And.intro (blk_below BX.out.1 hb) (And.intro (blk_below BX.out.2.1 hb) (blk_below BX.out.2.2 hb))); replace HB := Sd.mk (below_then HB.out HB.out.size hb); clear hb; obtain ⟨g0, g1, g2, g3, g4, g5, g6, _⟩ := bc7 BX.out.1; have g7 : W2.cell? ⟨B4, 0, none⟩ = some (.slice A1 l1.length c1) := (blk_cell BX.out.2.1 0).trans rfl; have g8 : W2.cell? ⟨B5, 0, none⟩ = some (.int .i64 a2) := (blk_cell BX.out.2.2 0).trans rfl))
  refine bodyPost_ret (v := .tuple #[.slice none 0 0, .int .i64 0, .bool false, .int .i64 1]) (by simp [results, Tryz.results31]) rfl ?_
  exact ⟨_, rfl, Kd.R_nil _ _ _ _ _, HB.out⟩
 rw [if_pos hl] at hV
 rw [decide_eq_true hl] at HWI
 go_upto_region 6 with (first | (go_at_call 56; (refine (b_within.calls _ _ _ _ _ HWI.out).mono ?_); rintro e W2 ⟨rfl, hd⟩; have hb := hd.below; clear hd; clear g0 g1 g2 g3 g4 g5 g6 g7 g8; replace BX := Sd.mk (And.intro (blk_below BX.out.1 hb) (And.intro (blk_below BX.out.2.1 hb) (blk_below BX.out.2.2 hb))); replace HB := Sd.mk (below_then HB.out HB.out.size hb); clear hb; obtain ⟨g0, g1, g2, g3, g4, g5, g6, _⟩ := bc7 BX.out.1; have g7 : W2.cell? ⟨B4, 0, none⟩ = some (.slice A1 l1.length c1) := (blk_cell BX.out.2.1 0).trans rfl; have g8 : W2.cell? ⟨B5, 0, none⟩ = some (.int .i64 a2) := (blk_cell BX.out.2.2 0).trans rfl))
 obtain ⟨kf, hkf⟩ := few_ev l00 l01 l02 l03 a04 a05 a06 HK.out
 have HF := Sd.mk (hkf kf (Nat.le_refl _))
 clear hkf
 cases hf : fewW l01 l01.length 0 1 with
 | false =>
  rw [hf] at hV HF
  simp only [Bool.false_eq_true, if_false, Prod.mk.injEq] at hV
  obtain ⟨rfl, rfl, rfl, rfl⟩ := hV
  go_wp2_with (first | (go_at_call 88; (refine (b_few.calls _ A00 c00 l00 A01 c01 l01 A02 c02 l02 A03 c03 l03 a04 a05 a06 _ _ (Kd.C_below HR.out.1 HB.out) hc00 (Kd.C_below HR.out.2.1 HB.out) hc01 (Kd.C_below HR.out.2.2.1 HB.out) hc02 (Kd.C_below HR.out.2.2.2.1 HB.out) hc03 HF.out).mono ?_); rintro e W3 ⟨rfl, hb⟩; clear g0 g1 g2 g3 g4 g5 g6 g7 g8; replace BX := Sd.mk (And.intro (blk_below BX.out.1 hb) (And.intro (blk_below BX.out.2.1 hb) (blk_below BX.out.2.2 hb))); replace HB := Sd.mk (below_then HB.out HB.out.size hb); clear hb; obtain ⟨g0, g1, g2, g3, g4, g5, g6, _⟩ := bc7 BX.out.1; have g7 : W3.cell? ⟨B4, 0, none⟩ = some (.slice A1 l1.length c1) := (blk_cell BX.out.2.1 0).trans rfl; have g8 : W3.cell? ⟨B5, 0, none⟩ = some (.int .i64 a2) := (blk_cell BX.out.2.2 0).trans rfl))
  refine bodyPost_ret (v := .tuple #[.slice none 0 0, .int .i64 0, .bool false, .int .i64 9]) (by simp [results, Tryz.results31]) rfl ?_
  exact ⟨_, rfl, Kd.R_nil _ _ _ _ _, HB.out⟩
 | true =>
  rw [hf] at hV HF
  simp only [if_true, Prod.mk.injEq] at hV
  obtain ⟨rfl, rfl, rfl, rfl⟩ := hV
  go_upto_region 9 with (first | (go_at_call 88; (refine (b_few.calls _ A00 c00 l00 A01 c01 l01 A02 c02 l02 A03 c03 l03 a04 a05 a06 _ _ (Kd.C_below HR.out.1 HB.out) hc00 (Kd.C_below HR.out.2.1 HB.out) hc01 (Kd.C_below HR.out.2.2.1 HB.out) hc02 (Kd.C_below HR.out.2.2.2.1 HB.out) hc03 HF.out).mono ?_); rintro e W3 ⟨rfl, hb⟩; clear g0 g1 g2 g3 g4 g5 g6 g7 g8; replace BX := Sd.mk (And.intro (blk_below BX.out.1 hb) (And.intro (blk_below BX.out.2.1 hb) (blk_below BX.out.2.2 hb))); replace HB := Sd.mk (below_then HB.out HB.out.size hb); clear hb; obtain ⟨g0, g1, g2, g3, g4, g5, g6, _⟩ := bc7 BX.out.1; have g7 : W3.cell? ⟨B4, 0, none⟩ = some (.slice A1 l1.length c1) := (blk_cell BX.out.2.1 0).trans rfl; have g8 : W3.cell? ⟨B5, 0, none⟩ = some (.int .i64 a2) := (blk_cell BX.out.2.2 0).trans rfl) | (go_at_call 52; (refine (x_lines.calls A00 c00 l00 A01 c01 l01 A02 c02 l02 A03 c03 l03 a04 a05 a06 (linesV l01 l02 l03 a04 a05 a06) _ (Kd.C_below HR.out.1 HB.out) hc00 (Kd.C_below HR.out.2.1 HB.out) hc01 (Kd.C_below HR.out.2.2.1 HB.out) hc02 (Kd.C_below HR.out.2.2.2.1 HB.out) hc03 (by unfold x_lines.f; rw [if_pos CKV.out])).mono ?_); rintro e W4 ⟨v3, rfl, hl3, hb⟩; obtain ⟨A9, c9, rfl, hlc, hl9⟩ := Kd.R_reads hl3; have LN := Sd.mk (And.intro hlc hl9); clear hlc hl9 hl3; clear g0 g1 g2 g3 g4 g5 g6 g7 g8; replace BX := Sd.mk (And.intro (blk_below BX.out.1 hb) (And.intro (blk_below BX.out.2.1 hb) (blk_below BX.out.2.2 hb))); replace HB := Sd.mk (below_then HB.out HB.out.size hb); clear hb; obtain ⟨g0, g1, g2, g3, g4, g5, g6, _⟩ := bc7 BX.out.1; have g7 : W4.cell? ⟨B4, 0, none⟩ = some (.slice A1 l1.length c1) := (blk_cell BX.out.2.1 0).trans rfl; have g8 : W4.cell? ⟨B5, 0, none⟩ = some (.int .i64 a2) := (blk_cell BX.out.2.2 0).trans rfl))
  have BL := Sd.mk (blk_new W4 (.cells #[.slice A9 (linesV l01 l02 l03 a04 a05 a06).length c9] 100))
  have hb := below_alloc (Below.refl W4.heap.size W4) (.cells #[.slice A9 (linesV l01 l02 l03 a04 a05 a06).length c9] 100)
  replace LN := Sd.mk (And.intro LN.out.1 (Kd.C_below LN.out.2 hb))
  clear g0 g1 g2 g3 g4 g5 g6 g7 g8; replace BX := Sd.mk (And.intro (blk_below BX.out.1 hb) (And.intro (blk_below BX.out.2.1 hb) (blk_below BX.out.2.2 hb))); replace HB := Sd.mk (below_then HB.out HB.out.size hb); clear hb
  generalize W4.alloc (.cells #[.slice A9 (linesV l01 l02 l03 a04 a05 a06).length c9] 100) = W5 at BX HB BL LN ⊢
  generalize W4.heap.size = Bb at BL ⊢
  obtain ⟨g0, g1, g2, g3, g4, g5, g6, _⟩ := bc7 BX.out.1; have g7 : W5.cell? ⟨B4, 0, none⟩ = some (.slice A1 l1.length c1) := (blk_cell BX.out.2.1 0).trans rfl; have g8 : W5.cell? ⟨B5, 0, none⟩ = some (.int .i64 a2) := (blk_cell BX.out.2.2 0).trans rfl
  have hm12 := HK.out.m12
  have hwl := HREC.out.len
  have HM12 := Sd.mk hm12
  have hmk := print_make_int (P := Tryz.prog) 30 3 (.int .i64 0) 8 (by rfl) (by rfl) rfl (by omega) (l1.length : Int) (by omega) (by simp; omega)
  have HWL := Sd.mk hwl
  clear hm12 hwl
  go_upto_region 10 with (fail)
  clear g0 g1 g2 g3 g4 g5 g6 g7 g8 hmk
  try simp only [Int.toNat_natCast]
  obtain ⟨xs0, hI0⟩ : ∃ xs0, IntsAt (W5.alloc (.cells (madeCells #[.int .i64 0] l1.length) 3)) W5.heap.size l1.length xs0 := ⟨List.replicate l1.length 0, by simp, Kd.R_of_own (enc := Value.int .i64) (own_made' W5 W5.heap.size 3 .i64 l1.length (Nat.le_refl _) (by have := HWL.out; have := HM12.out; omega)) (fun k hk => by simpa [Value.ownBlock] using hk.symm)⟩
  have hbA := below_alloc (Below.refl W5.heap.size W5) (.cells (madeCells #[.int .i64 0] l1.length) 3)
  have hbB := below_alloc (Below.refl (W5.alloc (.cells (madeCells #[.int .i64 0] l1.length) 3)).heap.size (W5.alloc (.cells (madeCells #[.int .i64 0] l1.length) 3))) (.cells #[.slice (some ⟨W5.heap.size, 0, none⟩) l1.length l1.length] 30)
  have hsB := blk_new (W5.alloc (.cells (madeCells #[.int .i64 0] l1.length) 3)) (.cells #[.slice (some ⟨W5.heap.size, 0, none⟩) l1.length l1.length] 30)
  have hI1 := hI0.below (KeepHi.of_below hbB)
  have hbC := below_then hbA hbA.size hbB
  simp only [World.size_alloc] at hsB
  have HI1 := Sd.mk hI1
  have HSB := Sd.mk hsB
  have HBC := Sd.mk hbC
  clear hI0 hI1 hbA hbB hsB hbC
  generalize (W5.alloc (.cells (madeCells #[.int .i64 0] l1.length) 3)).alloc (.cells #[.slice (some ⟨W5.heap.size, 0, none⟩) l1.length l1.length] 30) = W6 at HI1 HSB HBC ⊢
  obtain ⟨S, eS⟩ : ∃ S, S = W5.heap.size := ⟨_, rfl⟩
  rw [← eS] at HI1 HSB ⊢
  have ES := Sd.mk eS
  clear eS
  have hLT := Sd.mk (And.intro (blk_lt BX.out.1) (And.intro (blk_lt BX.out.2.1) (And.intro (blk_lt BX.out.2.2) (blk_lt BL.out))))
  have hb := HBC.out
  replace BL := Sd.mk (blk_below BL.out hb)
  have LN5 := LN
  replace BX := Sd.mk (And.intro (blk_below BX.out.1 hb) (And.intro (blk_below BX.out.2.1 hb) (blk_below BX.out.2.2 hb)))
  have HB5 := HB
  replace HB := Sd.mk (below_then HB.out HB.out.size hb)
  clear hb
  obtain ⟨g0, g1, g2, g3, g4, g5, g6, _⟩ := bc7 BX.out.1; have g7 : W6.cell? ⟨B4, 0, none⟩ = some (.slice A1 l1.length c1) := (blk_cell BX.out.2.1 0).trans rfl; have g8 : W6.cell? ⟨B5, 0, none⟩ = some (.int .i64 a2) := (blk_cell BX.out.2.2 0).trans rfl
  have HC := cheapest_calls 92 #[.pointer (some ⟨S + 1, 0, none⟩), .pointer (some ⟨B4, 0, none⟩), .pointer (some ⟨B5, 0, none⟩), .pointer (some ⟨Bb, 0, none⟩)] A00 A01 A02 A03 c00 c01 c02 c03 l00 l01 l02 l03 a04 a05 a06 (enters_of Tryz.func92 (by kernel_rfl) rfl) (corrB l01 l02 l03 a04 a05 a06 l1 a2) (fun r => cW l01 r l01.length) (allR l01).length (rsAt l01) (fun W => (∃ xs, IntsAt W S l1.length xs) ∧ Near S W6 W) W6 (by have := HK.out.m1; omega) HM12.out hc00 hc01 hc02 hc03 (allR_pos l01) (rsAt_zero l01) (rsAt_len l01) (rsAt_next l01 (mats_b HK.out))
   (fun i hi => by
    obtain ⟨K, hK⟩ := bcost_l0 l01 (rsAt l01 i) HM12.out (rsAt_len l01 i) l01.length 0 (by omega)
    exact ⟨K, hK K (Nat.le_refl _)⟩)
   (fun W W' hb h => ⟨h.1.imp (fun xs h1 => ints_low h1 hb HI1.out.lt), near_low h.2 hb HI1.out.lt⟩)
   (fun W h => by
    have hbw : Below w.heap.size w W := below_near HB.out h.2 (by rw [ES.out]; exact HB5.out.size)
    exact ⟨Kd.C_below HR.out.1 hbw, Kd.C_below HR.out.2.1 hbw, Kd.C_below HR.out.2.2.1 hbw, Kd.C_below HR.out.2.2.2.1 hbw⟩)
   (fun i hi W A h hs hA hri => by
    have hn := rsAt_len l01 i
    have hS6 := HI1.out.lt
    have hq := corr1_calls S (S + 1) B4 B5 Bb A1 A9 c1 c9 l1.length l1 a2 (linesV l01 l02 l03 a04 a05 a06) A (rsAt l01 i) W5 W (corrB l01 l02 l03 a04 a05 a06 l1 a2 (rsAt l01 i)) (by rw [HREC.out.len]; exact HM12.out) rfl (by rw [hn, HREC.out.len]) LN.out.1 (Nat.le_of_eq ES.out.symm) (below_near HBC.out h.2 (Nat.le_of_eq ES.out.symm)) (Kd.C_below HR.out.2.2.2.2 HB5.out) LN5.out.2 (h.2.blk HSB.out (by omega)) (h.2.blk BX.out.2.1 (by rw [ES.out]; exact Nat.ne_of_lt hLT.out.2.1)) (h.2.blk BX.out.2.2 (by rw [ES.out]; exact Nat.ne_of_lt hLT.out.2.2.1)) (h.2.blk BL.out (by rw [ES.out]; exact Nat.ne_of_lt hLT.out.2.2.2)) (by omega) (by rw [ES.out]; exact Nat.ne_of_lt hLT.out.2.1) (by rw [ES.out]; exact Nat.ne_of_lt hLT.out.2.2.1) (by rw [ES.out]; exact Nat.ne_of_lt hLT.out.2.2.2) (by omega) hri h.1 (by unfold corrB; exact keepV_f (n := l01.length) _ _ HM12.out (by rw [sumV_len, HREC.out.len]) (fun x hx => (lines_ok HK.out x hx).len))
    rw [HREC.out.len] at hq
    rw [hn]
    refine Calls.mono hq (fun e W' he => ⟨he.1, ⟨by rw [HREC.out.len]; exact he.2.2, h.2.trans he.2.1⟩, ⟨he.2.1.b.size, fun g hg hl => he.2.1.k g hl (by omega)⟩⟩))
   ⟨⟨xs0, HI1.out⟩, Near.refl _ _⟩
  rw [chF_corr] at HC
  have HC' := Sd.mk HC
  clear HC
  go_wp2_with (go_at_call 89; (refine HC'.out.mono ?_); rintro e W7 ⟨v7, rfl, hv7, hri7, hs7⟩)
  refine bodyPost_ret (v := .tuple #[v7, .int .i64 (corrV l01 l02 l03 a04 a05 a06 l1 a2).2.1, .bool (corrV l01 l02 l03 a04 a05 a06 l1 a2).2.2, .int .i64 0]) (by simp [results, Tryz.results31]) rfl ?_
  exact ⟨_, rfl, Kd.R_lower (Kd.R_mono hv7 (fun _ _ => trivial)) HB.out.size, below_near HB.out hri7.2 (by rw [ES.out]; exact HB5.out.size)⟩
end
section
def Best_rT : Bool × List (List Nat × List Nat) := (true, [([], []), ([], []), ([1], [1]), ([0, 2, 2], [0, 2]), ([3, 3, 0, 1, 2, 3], [3])])
def Best_rB : List Nat := [0, 0, 2, 7, 15]
theorem Best_r_tab : rtab .any (opsOf Tryz.f29 6) = Best_rT := by kernel_rfl
theorem Best_r_bits : waitsOk Best_rT.2 Best_rB = true := by kernel_rfl
def rf_Best.f (k : Nat) (o : List ByteArray) (mt : List S70) (s : List S27) (p : List S89) (a4 a5 a6 : Int) : Option (List Int × Int × Bool × Int) := some (BestV o mt s p a4 a5 a6)
theorem rf_Best.calls (k : Nat) (A0 : Option Addr) (c0 : Nat) (l0 : List ByteArray) (A1 : Option Addr) (c1 : Nat) (mt : List S70) (A2 : Option Addr) (c2 : Nat) (l2 : List S27) (A3 : Option Addr) (c3 : Nat) (l3 : List S89) (b4 b5 b6 : Int) (r1 : List Int) (r2 : Int) (r3 : Bool) (r4 : Int) (w : World) (hr0 : Kd.C Kd.string w A0 l0.length l0) (h00 : l0.length ≤ c0) (hr1 : Kd.C k70 w A1 mt.length mt) (h01 : mt.length ≤ c1) (hr2 : Kd.C k27 w A2 l2.length l2) (h02 : l2.length ≤ c2) (hr3 : Kd.C k89 w A3 l3.length l3) (h03 : l3.length ≤ c3) (h : rf_Best.f k l0 mt l2 l3 b4 b5 b6 = some (r1, r2, r3, r4)) :
  Calls Tryz.prog 29 #[.agg #[.slice A0 l0.length c0, .slice A1 mt.length c1, .slice A2 l2.length c2, .slice A3 l3.length c3, .int .i64 b4, .int .i64 b5, .int .i64 b6]] w fun e w' => ∃ v0_ : Value, e = .returned (.tuple #[v0_, .int .i64 r2, .bool r3, .int .i64 r4]) ∧ Kd.R (Kd.int .i64) 3 w' w.heap.size (fun _ => True) v0_ r1 ∧ Below w.heap.size w w' := by
 have hV : BestV l0 mt l2 l3 b4 b5 b6 = (r1, r2, r3, r4) := Option.some.inj h
 clear h
 have HV := Sd.mk hV
 clear hV
 have BX := Sd.mk (blk_new w (.cells #[.slice A0 l0.length c0, .slice A1 mt.length c1, .slice A2 l2.length c2, .slice A3 l3.length c3, .int .i64 b4, .int .i64 b5, .int .i64 b6] 29))
 have HB := Sd.mk (below_alloc (Below.refl w.heap.size w) (.cells #[.slice A0 l0.length c0, .slice A1 mt.length c1, .slice A2 l2.length c2, .slice A3 l3.length c3, .int .i64 b4, .int .i64 b5, .int .i64 b6] 29))
 have HR := Sd.mk (And.intro hr0 (And.intro hr1 (And.intro hr2 (And.intro hr3 trivial))))
 clear hr0 hr1 hr2 hr3
 obtain ⟨ka, hka⟩ := rcheck l0 mt l2 l3 b4 b5 b6
 have HA := Sd.mk (hka ka (Nat.le_refl _))
 clear hka
 go_enter Tryz.func29, Tryz.ntmps29
 go_upto_region 1 with (fail)
 generalize w.alloc (.cells #[.slice A0 l0.length c0, .slice A1 mt.length c1, .slice A2 l2.length c2, .slice A3 l3.length c3, .int .i64 b4, .int .i64 b5, .int .i64 b6] 29) = W0 at BX HB ⊢
 obtain ⟨g0, g1, g2, g3, g4, g5, g6, _⟩ := bc7 BX.out
 go_upto_region 2 with (first | (go_at_call 86; (refine (rf_Check.calls _ A0 c0 l0 A1 c1 mt A2 c2 l2 A3 c3 l3 b4 b5 b6 _ _ (Kd.C_below HR.out.1 HB.out) h00 (Kd.C_below HR.out.2.1 HB.out) h01 (Kd.C_below HR.out.2.2.1 HB.out) h02 (Kd.C_below HR.out.2.2.2.1 HB.out) h03 HA.out).mono ?_); rintro e W1 ⟨rfl, hb⟩; clear g0 g1 g2 g3 g4 g5 g6; replace BX := Sd.mk (blk_below BX.out hb); replace HB := Sd.mk (below_then HB.out HB.out.size hb); clear hb; obtain ⟨g0, g1, g2, g3, g4, g5, g6, _⟩ := bc7 BX.out))
 by_cases hz : checkV l0 mt l2 l3 b4 b5 b6 = 0
 rotate_left
 ·have hV := HV.out
  unfold BestV at hV
  rw [if_neg hz] at hV
  simp only [Prod.mk.injEq] at hV
  obtain ⟨rfl, rfl, rfl, rfl⟩ := hV
  clear HV
  have d1 : (checkV l0 mt l2 l3 b4 b5 b6 == 0) = false := beq_eq_false_iff_ne.2 hz
  have d2 : (checkV l0 mt l2 l3 b4 b5 b6 != 0) = true := by simp [hz]
  go_wp2
  refine bodyPost_ret (v := .tuple #[.slice none 0 0, .int .i64 0, .bool false, .int .i64 (checkV l0 mt l2 l3 b4 b5 b6)]) (by simp [results, Tryz.results29]) rfl ?_
  exact ⟨_, rfl, Kd.R_nil _ _ _ _ _, HB.out⟩
 have CKV := Sd.mk hz
 have HK := Sd.mk (check_ok hz)
 have hV := HV.out
 clear HV
 unfold BestV at hV
 rw [if_pos hz] at hV
 rw [hz]
 clear hz HA
 obtain ⟨kf, hkf⟩ := cho_ev l0 mt l2 l3 b4 b5 b6 HK.out
 have HF := Sd.mk (hkf kf (Nat.le_refl _))
 have hfc := few_cho mt mt.length 0 1 (by omega)
 clear hkf
 cases hf : fewW mt mt.length 0 1 with
 | false =>
  rw [hf] at hV hfc
  simp only [Bool.false_eq_true, if_false, Prod.mk.injEq] at hV
  obtain ⟨rfl, rfl, rfl, rfl⟩ := hV
  have d9 : decide (100000 < choW mt mt.length 0 1) = true := decide_eq_true (by have := of_decide_eq_false hfc.symm; omega)
  clear hfc
  go_wp2_with (first | (go_at_call 87; (refine (rf_Choices.calls _ A0 c0 l0 A1 c1 mt A2 c2 l2 A3 c3 l3 b4 b5 b6 _ _ (Kd.C_below HR.out.1 HB.out) h00 (Kd.C_below HR.out.2.1 HB.out) h01 (Kd.C_below HR.out.2.2.1 HB.out) h02 (Kd.C_below HR.out.2.2.2.1 HB.out) h03 HF.out).mono ?_); rintro e W2 ⟨rfl, hb⟩; clear g0 g1 g2 g3 g4 g5 g6; replace BX := Sd.mk (blk_below BX.out hb); replace HB := Sd.mk (below_then HB.out HB.out.size hb); clear hb; obtain ⟨g0, g1, g2, g3, g4, g5, g6, _⟩ := bc7 BX.out))
  refine bodyPost_ret (v := .tuple #[.slice none 0 0, .int .i64 0, .bool false, .int .i64 9]) (by simp [results, Tryz.results29]) rfl ?_
  exact ⟨_, rfl, Kd.R_nil _ _ _ _ _, HB.out⟩
 | true =>
  rw [hf] at hV hfc
  simp only [if_true, Prod.mk.injEq] at hV
  obtain ⟨rfl, rfl, rfl, rfl⟩ := hV
  have d9 : decide (100000 < choW mt mt.length 0 1) = false := decide_eq_false (by have := of_decide_eq_true hfc.symm; omega)
  clear hfc
  go_upto_region 6 with (first | (go_at_call 87; (refine (rf_Choices.calls _ A0 c0 l0 A1 c1 mt A2 c2 l2 A3 c3 l3 b4 b5 b6 _ _ (Kd.C_below HR.out.1 HB.out) h00 (Kd.C_below HR.out.2.1 HB.out) h01 (Kd.C_below HR.out.2.2.1 HB.out) h02 (Kd.C_below HR.out.2.2.2.1 HB.out) h03 HF.out).mono ?_); rintro e W2 ⟨rfl, hb⟩; clear g0 g1 g2 g3 g4 g5 g6; replace BX := Sd.mk (blk_below BX.out hb); replace HB := Sd.mk (below_then HB.out HB.out.size hb); clear hb; obtain ⟨g0, g1, g2, g3, g4, g5, g6, _⟩ := bc7 BX.out))
  clear d9
  clear g0 g1 g2 g3 g4 g5 g6
  skip
  refine start_ (n := 5) (S := fun w' => Cs7 w.heap.size w' (.slice A0 l0.length c0) (.slice A1 mt.length c1) (.slice A2 l2.length c2) (.slice A3 l3.length c3) (.int .i64 b4) (.int .i64 b5) (.int .i64 b6)) (ds := []) (bA 5 0) (by kernel_rfl) rfl rfl (ss7 BX.out) (fun hHeld => ?_)
  refine with_tabW Best_r_tab Best_r_bits (fun HT_ HW_ => ?_)
  replace BX := Sd.mk (blk_drew BX.out)
  replace HB := Sd.mk (below_drew1 HB.out)
  generalize W2.drew = Wd at BX HB hHeld ⊢
  refine tQ 0 (some 16) (bA 5 1) ?_
  refine tQ 1 (some 17) (bA 5 3) ?_
  refine one_ (i := 2) (N := some 18) (bA 5 7) rfl rfl (one_of HT_.out (by kernel_rfl)) (by decide) (fun K hK => ?_)
  refine gQ Tryz.func55 #[.agg #[.slice A0 l0.length c0, .slice A1 mt.length c1, .slice A2 l2.length c2, .slice A3 l3.length c3, .int .i64 b4, .int .i64 b5, .int .i64 b6]] ?_
  refine (x_AllLines.calls A0 c0 l0 A1 c1 mt A2 c2 l2 A3 c3 l3 b4 b5 b6 (linesV mt l2 l3 b4 b5 b6) _ (Kd.C_below HR.out.1 HB.out) h00 (Kd.C_below HR.out.2.1 HB.out) h01 (Kd.C_below HR.out.2.2.1 HB.out) h02 (Kd.C_below HR.out.2.2.2.1 HB.out) h03 (by unfold x_AllLines.f; rw [if_pos CKV.out])).mono ?_
  rintro e W3 ⟨v3, rfl, hl3, hb⟩
  refine ⟨_, rfl, ?_⟩
  obtain ⟨A9, c9, rfl, hlc, hl9⟩ := Kd.R_reads hl3
  have LN := Sd.mk (And.intro hlc hl9)
  clear hlc hl9 hl3
  replace BX := Sd.mk (blk_below BX.out hb)
  replace HB := Sd.mk (below_then HB.out HB.out.size hb)
  clear hb
  refine hK.out _ _ (ss7 BX.out) (fun hHeld => ?_)
  clear hK K
  refine nQ 18 ?_
  have hR5 : Rows5 A0 A1 A2 A3 A9 l0 mt l2 l3 (linesV mt l2 l3 b4 b5 b6) W3 := ⟨Kd.C_below HR.out.1 HB.out, Kd.C_below HR.out.2.1 HB.out, Kd.C_below HR.out.2.2.1 HB.out, Kd.C_below HR.out.2.2.2.1 HB.out, LN.out.2⟩
  have hC : ∀ r : List Int, r.length = mt.length → ∃ k, rf_cost.f k l0 mt l2 l3 b4 b5 b6 r = some (cW mt r mt.length) := fun r hr => by
   obtain ⟨K, hK⟩ := rcost_l0 l0 mt l2 l3 b4 b5 b6 r HK.out.m12 hr mt.length 0 (by omega)
   exact ⟨K, hK K (Nat.le_refl _)⟩
  have hq := first_calls A0 A1 A2 A3 A9 c0 c1 c2 c3 c9 l0 mt l2 l3 b4 b5 b6 (linesV mt l2 l3 b4 b5 b6) (passB mt l2 l3 b4 b5 b6) h00 h01 h02 h03 LN.out.1 HK.out.m12 hC (mats_b HK.out) (by have := HK.out.m1; omega) (fun r hr => by
    obtain ⟨K, hK⟩ := rKeeps l0 mt l2 l3 b4 b5 b6 r HK.out (allR_rec mt (mats_b HK.out) r hr)
    exact ⟨K, hK K (Nat.le_refl _)⟩) W3.heap.size mt.length 0 (by omega) none 0 [] (.slice none 0 0) none W3 hR5 rfl (fun x hx => by simpa using hx) (Nat.le_refl _) (Kd.R_nil _ _ _ _ _) rfl
  rw [List.drop_zero, best_opt mt l2 l3 b4 b5 b6] at hq
  have HQ := Sd.mk hq
  have HC := Sd.mk hC
  clear hq hR5 hC
  refine one_ (i := 3) (N := some 19) (bA 5 15) rfl rfl (one_of HT_.out (by kernel_rfl)) (by decide) (fun K hK => ?_)
  refine gQ Tryz.func91 #[.agg #[.slice A0 l0.length c0, .slice A1 mt.length c1, .slice A2 l2.length c2, .slice A3 l3.length c3, .int .i64 b4, .int .i64 b5, .int .i64 b6], .slice A9 (linesV mt l2 l3 b4 b5 b6).length c9, .slice none 0 0, .slice none 0 0] ?_
  refine (show Calls _ _ _ _ _ from HQ.out).mono ?_
  rintro e W4 ⟨v4, rfl, hO4, hb⟩
  refine ⟨_, rfl, ?_⟩
  replace BX := Sd.mk (blk_below BX.out hb)
  have hB4 := HB.out.size
  replace HB := Sd.mk (below_then HB.out HB.out.size hb)
  clear hb
  refine hK.out _ _ (ss7 BX.out) (fun hHeld => ?_)
  clear hK K
  refine nQ 19 ?_
  refine pQ 4 (some 7) (bA 5 31) ?_
  refine done_ (done_of HT_.out (by kernel_rfl)) ?_
  clear hHeld HQ
  obtain ⟨g0, g1, g2, g3, g4, g5, g6, _⟩ := bc7 BX.out
  have hQ := q_opt (best_q mt l2 l3 b4 b5 b6)
  cases hto : toOpt (bestV mt l2 l3 b4 b5 b6) with
  | none =>
   rw [hto] at hO4
   have hv : v4 = .slice none 0 0 := hO4
   subst hv
   have HBV := Sd.mk (hQ.1 hto)
   have heq : ∀ W, (binOp .eql 30 (.slice none 0 0) (.slice none 0 0)).run Tryz.prog W = .ok (.bool true) W := fun W => run_eql_slice_nil W 30 3 none 0 0 (by rfl)
   clear hQ hO4
   go_wp2
   refine bodyPost_ret (v := .tuple #[.slice none 0 0, .int .i64 0, .bool false, .int .i64 0]) (by simp [results, Tryz.results29]) rfl ?_
   rw [HBV.out]
   exact ⟨_, rfl, Kd.R_nil _ _ _ _ _, HB.out⟩
  | some bb =>
   rw [hto] at hO4
   obtain ⟨hbR, hbl, Ab, cb, rfl⟩ := hO4
   obtain ⟨hst, hbm⟩ := hQ.2 bb hto
   have HBV := Sd.mk hst
   obtain ⟨kc, hkc⟩ := HC.out bb hbl
   have HBR := Sd.mk hbR
   have HKC := Sd.mk hkc
   have heq : ∀ W, (binOp .eql 30 (.slice (some Ab) mt.length cb) (.slice none 0 0)).run Tryz.prog W = .ok (.bool false) W := fun W => run_eql_slice_nil W 30 3 (some Ab) mt.length cb (by rfl)
   have hcc := rf_cost.calls _ A0 c0 l0 A1 c1 mt A2 c2 l2 A3 c3 l3 b4 b5 b6 (some Ab) cb bb _ W4 (Kd.C_below HR.out.1 HB.out) h00 (Kd.C_below HR.out.2.1 HB.out) h01 (Kd.C_below HR.out.2.2.1 HB.out) h02 (Kd.C_below HR.out.2.2.2.1 HB.out) h03 (R_c HBR.out).1 (R_c HBR.out).2 HKC.out
   rw [hbl] at hcc
   have HCC := Sd.mk hcc
   clear hQ hst hbm hbR hkc hcc hto hbl
   go_wp2_with (go_at_call 59; (refine HCC.out.mono ?_); rintro e W5 ⟨rfl, hb⟩)
   refine bodyPost_ret (v := .tuple #[.slice (some Ab) mt.length cb, .int .i64 (cW mt bb mt.length), .bool true, .int .i64 0]) (by simp [results, Tryz.results29]) rfl ?_
   rw [HBV.out]
   exact ⟨_, rfl, Kd.R_lower (Kd.R_below HBR.out hb) hB4, below_then HB.out HB.out.size hb⟩
def Correct_rT : Bool × List (List Nat × List Nat) := (true, [([], []), ([], []), ([1], [1]), ([], []), ([], []), ([0, 2, 3, 4, 2], [0, 2, 3, 4]), ([5, 5, 0, 1, 2, 3, 4, 5], [5])])
def Correct_rB : List Nat := [0, 0, 2, 0, 0, 31, 63]
theorem Correct_r_tab : rtab .any (opsOf Tryz.f32 8) = Correct_rT := by kernel_rfl
theorem Correct_r_bits : waitsOk Correct_rT.2 Correct_rB = true := by kernel_rfl
def rf_Correct.f (k : Nat) (o : List ByteArray) (mt : List S70) (s : List S27) (p : List S89) (a4 a5 a6 : Int) (wg : List Int) (lots : Int) : Option (List Int × Int × Bool × Int) := some (CorrV o mt s p a4 a5 a6 wg lots)
theorem rf_Correct.calls (k : Nat) (A0 : Option Addr) (c0 : Nat) (l0 : List ByteArray) (A1 : Option Addr) (c1 : Nat) (mt : List S70) (A2 : Option Addr) (c2 : Nat) (l2 : List S27) (A3 : Option Addr) (c3 : Nat) (l3 : List S89) (b4 b5 b6 : Int) (Aw : Option Addr) (cw : Nat) (wg : List Int) (lots : Int) (r1 : List Int) (r2 : Int) (r3 : Bool) (r4 : Int) (w : World) (hr0 : Kd.C Kd.string w A0 l0.length l0) (h00 : l0.length ≤ c0) (hr1 : Kd.C k70 w A1 mt.length mt) (h01 : mt.length ≤ c1) (hr2 : Kd.C k27 w A2 l2.length l2) (h02 : l2.length ≤ c2) (hr3 : Kd.C k89 w A3 l3.length l3) (h03 : l3.length ≤ c3) (hrw : Kd.C (Kd.int .i64) w Aw wg.length wg) (hcw : wg.length ≤ cw) (h : rf_Correct.f k l0 mt l2 l3 b4 b5 b6 wg lots = some (r1, r2, r3, r4)) :
  Calls Tryz.prog 32 #[.agg #[.slice A0 l0.length c0, .slice A1 mt.length c1, .slice A2 l2.length c2, .slice A3 l3.length c3, .int .i64 b4, .int .i64 b5, .int .i64 b6], .slice Aw wg.length cw, .int .i64 lots] w fun e w' => ∃ v0_ : Value, e = .returned (.tuple #[v0_, .int .i64 r2, .bool r3, .int .i64 r4]) ∧ Kd.R (Kd.int .i64) 3 w' w.heap.size (fun _ => True) v0_ r1 ∧ Below w.heap.size w w' := by
 have hV : CorrV l0 mt l2 l3 b4 b5 b6 wg lots = (r1, r2, r3, r4) := Option.some.inj h
 clear h
 have HV := Sd.mk hV
 clear hV
 have BX := Sd.mk (blk_new w (.cells #[.slice A0 l0.length c0, .slice A1 mt.length c1, .slice A2 l2.length c2, .slice A3 l3.length c3, .int .i64 b4, .int .i64 b5, .int .i64 b6] 29))
 have HB := Sd.mk (below_alloc (Below.refl w.heap.size w) (.cells #[.slice A0 l0.length c0, .slice A1 mt.length c1, .slice A2 l2.length c2, .slice A3 l3.length c3, .int .i64 b4, .int .i64 b5, .int .i64 b6] 29))
 have HR := Sd.mk (And.intro hr0 (And.intro hr1 (And.intro hr2 (And.intro hr3 hrw))))
 clear hr0 hr1 hr2 hr3 hrw
 obtain ⟨ka, hka⟩ := rasked l0 mt l2 l3 b4 b5 b6 wg
 have HA := Sd.mk (hka ka (Nat.le_refl _))
 clear hka
 go_enter Tryz.func32, Tryz.ntmps32
 go_upto_region 1 with (fail)
 generalize w.alloc (.cells #[.slice A0 l0.length c0, .slice A1 mt.length c1, .slice A2 l2.length c2, .slice A3 l3.length c3, .int .i64 b4, .int .i64 b5, .int .i64 b6] 29) = W0 at BX HB ⊢
 obtain ⟨g0, g1, g2, g3, g4, g5, g6, _⟩ := bc7 BX.out
 go_upto_region 2 with (first | (go_at_call 53; (refine (rf_asked.calls _ A0 c0 l0 A1 c1 mt A2 c2 l2 A3 c3 l3 b4 b5 b6 Aw cw wg _ _ (Kd.C_below HR.out.1 HB.out) h00 (Kd.C_below HR.out.2.1 HB.out) h01 (Kd.C_below HR.out.2.2.1 HB.out) h02 (Kd.C_below HR.out.2.2.2.1 HB.out) h03 (Kd.C_below HR.out.2.2.2.2 HB.out) hcw HA.out).mono ?_); rintro e W1 ⟨rfl, hb⟩; clear g0 g1 g2 g3 g4 g5 g6; replace BX := Sd.mk (blk_below BX.out hb); replace HB := Sd.mk (below_then HB.out HB.out.size hb); clear hb; obtain ⟨g0, g1, g2, g3, g4, g5, g6, _⟩ := bc7 BX.out))
 by_cases hz : askV l0 mt l2 l3 b4 b5 b6 wg = 0
 rotate_left
 ·have hV := HV.out
  unfold CorrV at hV
  rw [if_neg hz] at hV
  simp only [Prod.mk.injEq] at hV
  obtain ⟨rfl, rfl, rfl, rfl⟩ := hV
  clear HV
  have d1 : (askV l0 mt l2 l3 b4 b5 b6 wg == 0) = false := beq_eq_false_iff_ne.2 hz
  have d2 : (askV l0 mt l2 l3 b4 b5 b6 wg != 0) = true := by simp [hz]
  go_wp2
  refine bodyPost_ret (v := .tuple #[.slice none 0 0, .int .i64 0, .bool false, .int .i64 (askV l0 mt l2 l3 b4 b5 b6 wg)]) (by simp [results, Tryz.results32]) rfl ?_
  exact ⟨_, rfl, Kd.R_nil _ _ _ _ _, HB.out⟩
 obtain ⟨H, hrec⟩ := ask_ok hz
 have CKV := Sd.mk (ask_check l0 mt l2 l3 b4 b5 b6 wg hz)
 have HK := Sd.mk H
 have HWL := Sd.mk hrec.len
 clear H hrec
 have hV := HV.out
 clear HV
 unfold CorrV at hV
 rw [if_pos hz] at hV
 rw [hz]
 clear hz HA
 by_cases hl : 1 ≤ lots ∧ lots ≤ 100
 rotate_left
 ·rw [if_neg hl] at hV
  simp only [Prod.mk.injEq] at hV
  obtain ⟨rfl, rfl, rfl, rfl⟩ := hV
  by_cases p0 : lots < 1
  ·have d0 : decide (lots < 1) = true := decide_eq_true p0
   go_wp2
   refine bodyPost_ret (v := .tuple #[.slice none 0 0, .int .i64 0, .bool false, .int .i64 1]) (by simp [results, Tryz.results32]) rfl ?_
   exact ⟨_, rfl, Kd.R_nil _ _ _ _ _, HB.out⟩
  ·have d0 : decide (lots < 1) = false := decide_eq_false p0
   have d1 : decide (100 < lots) = true := decide_eq_true (by omega)
   go_wp2
   refine bodyPost_ret (v := .tuple #[.slice none 0 0, .int .i64 0, .bool false, .int .i64 1]) (by simp [results, Tryz.results32]) rfl ?_
   exact ⟨_, rfl, Kd.R_nil _ _ _ _ _, HB.out⟩
 rw [if_pos hl] at hV
 have d0 : decide (lots < 1) = false := decide_eq_false (by omega)
 have d1 : decide (100 < lots) = false := decide_eq_false (by omega)
 clear hl
 obtain ⟨kf, hkf⟩ := cho_ev l0 mt l2 l3 b4 b5 b6 HK.out
 have HF := Sd.mk (hkf kf (Nat.le_refl _))
 have hfc := few_cho mt mt.length 0 1 (by omega)
 clear hkf
 cases hf : fewW mt mt.length 0 1 with
 | false =>
  rw [hf] at hV hfc
  simp only [Bool.false_eq_true, if_false, Prod.mk.injEq] at hV
  obtain ⟨rfl, rfl, rfl, rfl⟩ := hV
  have d9 : decide (100000 < choW mt mt.length 0 1) = true := decide_eq_true (by have := of_decide_eq_false hfc.symm; omega)
  clear hfc
  go_wp2_with (first | (go_at_call 87; (refine (rf_Choices.calls _ A0 c0 l0 A1 c1 mt A2 c2 l2 A3 c3 l3 b4 b5 b6 _ _ (Kd.C_below HR.out.1 HB.out) h00 (Kd.C_below HR.out.2.1 HB.out) h01 (Kd.C_below HR.out.2.2.1 HB.out) h02 (Kd.C_below HR.out.2.2.2.1 HB.out) h03 HF.out).mono ?_); rintro e W2 ⟨rfl, hb⟩; clear g0 g1 g2 g3 g4 g5 g6; replace BX := Sd.mk (blk_below BX.out hb); replace HB := Sd.mk (below_then HB.out HB.out.size hb); clear hb; obtain ⟨g0, g1, g2, g3, g4, g5, g6, _⟩ := bc7 BX.out))
  refine bodyPost_ret (v := .tuple #[.slice none 0 0, .int .i64 0, .bool false, .int .i64 9]) (by simp [results, Tryz.results32]) rfl ?_
  exact ⟨_, rfl, Kd.R_nil _ _ _ _ _, HB.out⟩
 | true =>
  rw [hf] at hV hfc
  simp only [if_true, Prod.mk.injEq] at hV
  obtain ⟨rfl, rfl, rfl, rfl⟩ := hV
  have d9 : decide (100000 < choW mt mt.length 0 1) = false := decide_eq_false (by have := of_decide_eq_true hfc.symm; omega)
  clear hfc
  go_upto_region 8 with (first | (go_at_call 87; (refine (rf_Choices.calls _ A0 c0 l0 A1 c1 mt A2 c2 l2 A3 c3 l3 b4 b5 b6 _ _ (Kd.C_below HR.out.1 HB.out) h00 (Kd.C_below HR.out.2.1 HB.out) h01 (Kd.C_below HR.out.2.2.1 HB.out) h02 (Kd.C_below HR.out.2.2.2.1 HB.out) h03 HF.out).mono ?_); rintro e W2 ⟨rfl, hb⟩; clear g0 g1 g2 g3 g4 g5 g6; replace BX := Sd.mk (blk_below BX.out hb); replace HB := Sd.mk (below_then HB.out HB.out.size hb); clear hb; obtain ⟨g0, g1, g2, g3, g4, g5, g6, _⟩ := bc7 BX.out))
  clear d9 d0 d1
  clear g0 g1 g2 g3 g4 g5 g6
  skip
  refine start_ (n := 7) (S := fun w' => Cs7 w.heap.size w' (.slice A0 l0.length c0) (.slice A1 mt.length c1) (.slice A2 l2.length c2) (.slice A3 l3.length c3) (.int .i64 b4) (.int .i64 b5) (.int .i64 b6)) (ds := []) (bA 7 0) (by kernel_rfl) rfl rfl (ss7 BX.out) (fun hHeld => ?_)
  refine with_tabW Correct_r_tab Correct_r_bits (fun HT_ HW_ => ?_)
  replace BX := Sd.mk (blk_drew BX.out)
  replace HB := Sd.mk (below_drew1 HB.out)
  generalize W2.drew = Wd at BX HB hHeld ⊢
  refine tQ 0 (some 27) (bA 7 1) ?_
  refine tQ 1 (some 28) (bA 7 3) ?_
  refine pQ 3 (some 30) (bA 7 11) ?_
  refine pQ 4 (some 31) (bA 7 27) ?_
  refine one_ (i := 2) (N := some 29) (bA 7 31) rfl rfl (one_of HT_.out (by kernel_rfl)) (by decide) (fun K hK => ?_)
  refine gQ Tryz.func55 #[.agg #[.slice A0 l0.length c0, .slice A1 mt.length c1, .slice A2 l2.length c2, .slice A3 l3.length c3, .int .i64 b4, .int .i64 b5, .int .i64 b6]] ?_
  refine (x_AllLines.calls A0 c0 l0 A1 c1 mt A2 c2 l2 A3 c3 l3 b4 b5 b6 (linesV mt l2 l3 b4 b5 b6) _ (Kd.C_below HR.out.1 HB.out) h00 (Kd.C_below HR.out.2.1 HB.out) h01 (Kd.C_below HR.out.2.2.1 HB.out) h02 (Kd.C_below HR.out.2.2.2.1 HB.out) h03 (by unfold x_AllLines.f; rw [if_pos CKV.out])).mono ?_
  rintro e W3 ⟨v3, rfl, hl3, hb⟩
  refine ⟨_, rfl, ?_⟩
  obtain ⟨A9, c9, rfl, hlc, hl9⟩ := Kd.R_reads hl3
  have LN := Sd.mk (And.intro hlc hl9)
  clear hlc hl9 hl3
  replace BX := Sd.mk (blk_below BX.out hb)
  replace HB := Sd.mk (below_then HB.out HB.out.size hb)
  clear hb
  refine hK.out _ _ (ss7 BX.out) (fun hHeld => ?_)
  clear hK K
  refine nQ 29 ?_
  have hR5 : Rows5 A0 A1 A2 A3 A9 l0 mt l2 l3 (linesV mt l2 l3 b4 b5 b6) W3 := ⟨Kd.C_below HR.out.1 HB.out, Kd.C_below HR.out.2.1 HB.out, Kd.C_below HR.out.2.2.1 HB.out, Kd.C_below HR.out.2.2.2.1 HB.out, LN.out.2⟩
  have hC : ∀ r : List Int, r.length = mt.length → ∃ k, rf_cost.f k l0 mt l2 l3 b4 b5 b6 r = some (cW mt r mt.length) := fun r hr => by
   obtain ⟨K, hK⟩ := rcost_l0 l0 mt l2 l3 b4 b5 b6 r HK.out.m12 hr mt.length 0 (by omega)
   exact ⟨K, hK K (Nat.le_refl _)⟩
  have hq := search_calls A0 A1 A2 A3 A9 c0 c1 c2 c3 c9 l0 mt l2 l3 b4 b5 b6 (linesV mt l2 l3 b4 b5 b6) (corrB mt l2 l3 b4 b5 b6 wg lots) Aw cw wg lots hcw HWL.out h00 h01 h02 h03 LN.out.1 HK.out.m12 hC (mats_b HK.out) (by have := HK.out.m1; omega) (fun r hr => by
    obtain ⟨K, hK⟩ := rKeepsV (n := mt.length) (wrap64 (lots + 1)) (linesV mt l2 l3 b4 b5 b6) HK.out.m12 (r := sumV wg lots r) (by rw [sumV_len, HWL.out]) (fun x hx => (lines_ok HK.out x hx).len) (by rw [linesV_len]; have := HK.out.o12; have := HK.out.p6; have := HK.out.slen; omega)
    exact ⟨K, hK K (Nat.le_refl _)⟩) W3.heap.size mt.length 0 (by omega) none 0 [] (.slice none 0 0) none W3 hR5 (Kd.C_below HR.out.2.2.2.2 HB.out) rfl (fun x hx => by simpa using hx) (Nat.le_refl _) (Kd.R_nil _ _ _ _ _) rfl
  rw [List.drop_zero, corr_opt mt l2 l3 b4 b5 b6 wg lots] at hq
  rw [show Value.slice Aw mt.length cw = Value.slice Aw wg.length cw from by rw [HWL.out]] at hq
  have HQ := Sd.mk hq
  have HC := Sd.mk hC
  clear hq hR5 hC
  refine one_ (i := 5) (N := some 32) (bA 7 63) rfl rfl (one_of HT_.out (by kernel_rfl)) (by decide) (fun K hK => ?_)
  refine gQ Tryz.func93 #[.agg #[.slice A0 l0.length c0, .slice A1 mt.length c1, .slice A2 l2.length c2, .slice A3 l3.length c3, .int .i64 b4, .int .i64 b5, .int .i64 b6], .slice A9 (linesV mt l2 l3 b4 b5 b6).length c9, .slice Aw wg.length cw, .int .i64 lots, .slice none 0 0, .slice none 0 0] ?_
  refine HQ.out.mono ?_
  rintro e W4 ⟨v4, rfl, hO4, hb⟩
  refine ⟨_, rfl, ?_⟩
  replace BX := Sd.mk (blk_below BX.out hb)
  have hB4 := HB.out.size
  replace HB := Sd.mk (below_then HB.out HB.out.size hb)
  clear hb
  refine hK.out _ _ (ss7 BX.out) (fun hHeld => ?_)
  clear hK K
  refine nQ 32 ?_
  refine pQ 6 (some 11) (bA 7 127) ?_
  refine done_ (done_of HT_.out (by kernel_rfl)) ?_
  clear hHeld HQ
  obtain ⟨g0, g1, g2, g3, g4, g5, g6, _⟩ := bc7 BX.out
  have hQ := q_opt (corr_q mt l2 l3 b4 b5 b6 wg lots)
  cases hto : toOpt (corrV mt l2 l3 b4 b5 b6 wg lots) with
  | none =>
   rw [hto] at hO4
   have hv : v4 = .slice none 0 0 := hO4
   subst hv
   have HBV := Sd.mk (hQ.1 hto)
   have heq : ∀ W, (binOp .eql 30 (.slice none 0 0) (.slice none 0 0)).run Tryz.prog W = .ok (.bool true) W := fun W => run_eql_slice_nil W 30 3 none 0 0 (by rfl)
   clear hQ hO4
   go_wp2
   refine bodyPost_ret (v := .tuple #[.slice none 0 0, .int .i64 0, .bool false, .int .i64 0]) (by simp [results, Tryz.results32]) rfl ?_
   rw [HBV.out]
   exact ⟨_, rfl, Kd.R_nil _ _ _ _ _, HB.out⟩
  | some bb =>
   rw [hto] at hO4
   obtain ⟨hbR, hbl, Ab, cb, rfl⟩ := hO4
   obtain ⟨hst, hbm⟩ := hQ.2 bb hto
   have HBV := Sd.mk hst
   obtain ⟨kc, hkc⟩ := HC.out bb hbl
   have HBR := Sd.mk hbR
   have HKC := Sd.mk hkc
   have heq : ∀ W, (binOp .eql 30 (.slice (some Ab) mt.length cb) (.slice none 0 0)).run Tryz.prog W = .ok (.bool false) W := fun W => run_eql_slice_nil W 30 3 (some Ab) mt.length cb (by rfl)
   have hcc := rf_cost.calls _ A0 c0 l0 A1 c1 mt A2 c2 l2 A3 c3 l3 b4 b5 b6 (some Ab) cb bb _ W4 (Kd.C_below HR.out.1 HB.out) h00 (Kd.C_below HR.out.2.1 HB.out) h01 (Kd.C_below HR.out.2.2.1 HB.out) h02 (Kd.C_below HR.out.2.2.2.1 HB.out) h03 (R_c HBR.out).1 (R_c HBR.out).2 HKC.out
   rw [hbl] at hcc
   have HCC := Sd.mk hcc
   clear hQ hst hbm hbR hkc hcc hto hbl
   go_wp2_with (go_at_call 59; (refine HCC.out.mono ?_); rintro e W5 ⟨rfl, hb⟩)
   refine bodyPost_ret (v := .tuple #[.slice (some Ab) mt.length cb, .int .i64 (cW mt bb mt.length), .bool true, .int .i64 0]) (by simp [results, Tryz.results32]) rfl ?_
   rw [HBV.out]
   exact ⟨_, rfl, Kd.R_lower (Kd.R_below HBR.out hb) hB4, below_then HB.out HB.out.size hb⟩
end
section
theorem q_len {rt : List Int → Bool} {cst : List Int → Int} {L : List (List Int)} {st : List Int × Int × Bool} (h : ChQ rt cst L st) (hL : ∀ r ∈ L, r.length ≤ 1000) : st.1.length ≤ 1000 := by
 cases ht : toOpt st with
 | none => rw [(q_opt h).1 ht]; simp
 | some b =>
  obtain ⟨h1, h2⟩ := (q_opt h).2 b ht
  rw [h1]
  exact hL b h2
section
variable (o : List ByteArray) (mt : List S70) (s : List S27) (p : List S89) (a4 a5 a6 : Int) (r : List Int) (n : Int)
theorem allR_short (h : checkV o mt s p a4 a5 a6 = 0) : ∀ x ∈ allR mt, x.length ≤ 1000 := fun x hx => by
 have := allR_len mt x hx
 have := (check_ok h).m12
 omega
theorem BestV_short : (BestV o mt s p a4 a5 a6).1.length ≤ 1000 := by
 unfold BestV
 by_cases h : checkV o mt s p a4 a5 a6 = 0
 ·rw [if_pos h]
  split
  ·exact q_len (best_q mt s p a4 a5 a6) (allR_short o mt s p a4 a5 a6 h)
  ·simp
 ·rw [if_neg h]; simp
theorem CorrV_short : (CorrV o mt s p a4 a5 a6 r n).1.length ≤ 1000 := by
 unfold CorrV
 by_cases h : askV o mt s p a4 a5 a6 r = 0
 ·rw [if_pos h]
  split
  ·split
   ·exact q_len (corr_q mt s p a4 a5 a6 r n) (allR_short o mt s p a4 a5 a6 (ask_check o mt s p a4 a5 a6 r h))
   ·simp
  ·simp
 ·rw [if_neg h]; simp
end
theorem bests_walk (A0 : Option Addr) (c0 : Nat) (l0 : List ByteArray) (A1 : Option Addr) (c1 : Nat) (mt : List S70) (A2 : Option Addr) (c2 : Nat) (l2 : List S27) (A3 : Option Addr) (c3 : Nat) (l3 : List S89) (b4 b5 b6 : Int) (B0 : Option Addr) (x0 : Nat) (m0 : List Int) (B1 : Option Addr) (x1 : Nat) (m1 : List Int) (n2 n3 n4 : Int) (B5 : Option Addr) (x5 : Nat) (m5 : List Int) (w : World)
  (hr0 : Kd.C Kd.string w A0 l0.length l0) (h00 : l0.length ≤ c0) (hr1 : Kd.C k70 w A1 mt.length mt) (h01 : mt.length ≤ c1) (hr2 : Kd.C k27 w A2 l2.length l2) (h02 : l2.length ≤ c2) (hr3 : Kd.C k89 w A3 l3.length l3) (h03 : l3.length ≤ c3)
  (s0 : Kd.C (Kd.int .i64) w B0 m0.length m0) (k0 : m0.length ≤ x0) (s1 : Kd.C (Kd.int .i64) w B1 m1.length m1) (k1 : m1.length ≤ x1) (s5 : Kd.C (Kd.int .i64) w B5 m5.length m5) (k5 : m5.length ≤ x5) :
  Calls Tryz.prog 6 #[.agg #[.slice A0 l0.length c0, .slice A1 mt.length c1, .slice A2 l2.length c2, .slice A3 l3.length c3, .int .i64 b4, .int .i64 b5, .int .i64 b6], .agg #[.slice B0 m0.length x0, .slice B1 m1.length x1, .int .i64 n2, .int .i64 n3, .int .i64 n4, .slice B5 m5.length x5]] w fun e w' => e = .returned (.bool true) ∧ Below w.heap.size w w' := by
 obtain ⟨q1, q2, hb0, _⟩ := blk_two w (.cells #[.slice A0 l0.length c0, .slice A1 mt.length c1, .slice A2 l2.length c2, .slice A3 l3.length c3, .int .i64 b4, .int .i64 b5, .int .i64 b6] 29) (.cells #[.slice B0 m0.length x0, .slice B1 m1.length x1, .int .i64 n2, .int .i64 n3, .int .i64 n4, .slice B5 m5.length x5] 34)
 have BX := Sd.mk q1
 have BY := Sd.mk q2
 have HB := Sd.mk hb0
 have HR := Sd.mk (And.intro hr0 (And.intro hr1 (And.intro hr2 (And.intro hr3 (And.intro s0 (And.intro s1 s5))))))
 clear q1 q2 hb0 hr0 hr1 hr2 hr3 s0 s1 s5
 obtain ⟨bg, kg, hg⟩ := great l0 mt l2 l3 b4 b5 b6
 have HG := Sd.mk (hg kg (Nat.le_refl _))
 obtain ⟨bw, hw⟩ := wide_ev m0 m1 n2 n3 n4 m5
 have HW := Sd.mk hw
 obtain ⟨bm, km, hm⟩ := many_ev l0 mt l2 l3 b4 b5 b6
 have HM := Sd.mk (hm km (Nat.le_refl _))
 obtain ⟨kl, hl⟩ := lives_ev
 have HL := Sd.mk (hl kl (Nat.le_refl _))
 clear hg hw hm hl
 go_enter Tryz.func6, Tryz.ntmps6
 go_upto_region 1 with (fail)
 generalize (w.alloc (.cells #[.slice A0 l0.length c0, .slice A1 mt.length c1, .slice A2 l2.length c2, .slice A3 l3.length c3, .int .i64 b4, .int .i64 b5, .int .i64 b6] 29)).alloc (.cells #[.slice B0 m0.length x0, .slice B1 m1.length x1, .int .i64 n2, .int .i64 n3, .int .i64 n4, .slice B5 m5.length x5] 34) = W0 at BX BY HB ⊢
 obtain ⟨g0, g1, g2, g3, g4, g5, g6, _⟩ := bc7 BX.out; obtain ⟨y0, y1, y2, y3, y4, y5, _⟩ := bc6 BY.out
 by_cases hall : (bg || bw || bm) = true
 ·cases bg <;> cases bw <;> cases bm <;> first
   | exact absurd hall (by decide)
   | (clear hall; go_wp2_with (first | (go_at_call 10; (refine (lw_Great.calls _ A0 c0 l0 A1 c1 mt A2 c2 l2 A3 c3 l3 b4 b5 b6 _ _ (Kd.C_below HR.out.1 HB.out) h00 (Kd.C_below HR.out.2.1 HB.out) h01 (Kd.C_below HR.out.2.2.1 HB.out) h02 (Kd.C_below HR.out.2.2.2.1 HB.out) h03 HG.out).mono ?_); rintro e W1 ⟨rfl, hb⟩; clear g0 g1 g2 g3 g4 g5 g6 y0 y1 y2 y3 y4 y5; replace BX := Sd.mk (blk_below BX.out hb); replace BY := Sd.mk (blk_below BY.out hb); replace HB := Sd.mk (below_then HB.out HB.out.size hb); clear hb; obtain ⟨g0, g1, g2, g3, g4, g5, g6, _⟩ := bc7 BX.out; obtain ⟨y0, y1, y2, y3, y4, y5, _⟩ := bc6 BY.out) | (go_at_call 11; (refine (lw_wide.calls B0 x0 m0 B1 x1 m1 n2 n3 n4 B5 x5 m5 _ _ (Kd.C_below HR.out.2.2.2.2.1 HB.out) k0 (Kd.C_below HR.out.2.2.2.2.2.1 HB.out) k1 (Kd.C_below HR.out.2.2.2.2.2.2 HB.out) k5 HW.out).mono ?_); rintro e W2 ⟨rfl, hb⟩; clear g0 g1 g2 g3 g4 g5 g6 y0 y1 y2 y3 y4 y5; replace BX := Sd.mk (blk_below BX.out hb); replace BY := Sd.mk (blk_below BY.out hb); replace HB := Sd.mk (below_then HB.out HB.out.size hb); clear hb; obtain ⟨g0, g1, g2, g3, g4, g5, g6, _⟩ := bc7 BX.out; obtain ⟨y0, y1, y2, y3, y4, y5, _⟩ := bc6 BY.out) | (go_at_call 27; (refine (lw_many.calls _ A0 c0 l0 A1 c1 mt A2 c2 l2 A3 c3 l3 b4 b5 b6 _ _ (Kd.C_below HR.out.1 HB.out) h00 (Kd.C_below HR.out.2.1 HB.out) h01 (Kd.C_below HR.out.2.2.1 HB.out) h02 (Kd.C_below HR.out.2.2.2.1 HB.out) h03 HM.out).mono ?_); rintro e W3 ⟨rfl, hb⟩; clear g0 g1 g2 g3 g4 g5 g6 y0 y1 y2 y3 y4 y5; replace BX := Sd.mk (blk_below BX.out hb); replace BY := Sd.mk (blk_below BY.out hb); replace HB := Sd.mk (below_then HB.out HB.out.size hb); clear hb; obtain ⟨g0, g1, g2, g3, g4, g5, g6, _⟩ := bc7 BX.out; obtain ⟨y0, y1, y2, y3, y4, y5, _⟩ := bc6 BY.out) | (go_at_call 12; (refine (lw_lives.calls _ _ _ HL.out).mono ?_); rintro e W9 ⟨rfl, hb⟩; clear g0 g1 g2 g3 g4 g5 g6 y0 y1 y2 y3 y4 y5; replace BX := Sd.mk (blk_below BX.out hb); replace BY := Sd.mk (blk_below BY.out hb); replace HB := Sd.mk (below_then HB.out HB.out.size hb); clear hb; obtain ⟨g0, g1, g2, g3, g4, g5, g6, _⟩ := bc7 BX.out; obtain ⟨y0, y1, y2, y3, y4, y5, _⟩ := bc6 BY.out)); go_ret; exact ⟨rfl, HB.out⟩)
 ·obtain ⟨rfl, rfl, rfl⟩ : bg = false ∧ bw = false ∧ bm = false := by cases bg <;> cases bw <;> cases bm <;> simp_all
  clear hall
  obtain ⟨kb, hkb⟩ := best_ev l0 mt l2 l3 b4 b5 b6
  have hbv := hkb kb (Nat.le_refl _)
  have hbs := BestV_short l0 mt l2 l3 b4 b5 b6
  have hcs := CorrV_short l0 mt l2 l3 b4 b5 b6 m0 n3
  have hrv : rf_Best.f 0 l0 mt l2 l3 b4 b5 b6 = some (BestV l0 mt l2 l3 b4 b5 b6) := rfl
  have hcv : b_Correct.f 0 l0 mt l2 l3 b4 b5 b6 m0 n3 = some (CorrV l0 mt l2 l3 b4 b5 b6 m0 n3) := rfl
  have hcr : rf_Correct.f 0 l0 mt l2 l3 b4 b5 b6 m0 n3 = some (CorrV l0 mt l2 l3 b4 b5 b6 m0 n3) := rfl
  generalize BestV l0 mt l2 l3 b4 b5 b6 = vb at hbv hbs hrv
  generalize CorrV l0 mt l2 l3 b4 b5 b6 m0 n3 = vc at hcv hcs hcr
  obtain ⟨v1, v2, v3, v4⟩ := vb
  obtain ⟨z1, z2, z3, z4⟩ := vc
  obtain ⟨ks, hks⟩ := ints_refl v1 hbs
  obtain ⟨kt, hkt⟩ := ints_refl z1 hcs
  have HBV := Sd.mk hbv
  have HRV := Sd.mk hrv
  have HCV := Sd.mk hcv
  have HCR := Sd.mk hcr
  have HS := Sd.mk (hks ks (Nat.le_refl _))
  have HT := Sd.mk (hkt kt (Nat.le_refl _))
  clear hkb hbv hbs hcs hrv hcv hcr hks hkt
  go_upto_region 4 with (first | (go_at_call 10; (refine (lw_Great.calls _ A0 c0 l0 A1 c1 mt A2 c2 l2 A3 c3 l3 b4 b5 b6 _ _ (Kd.C_below HR.out.1 HB.out) h00 (Kd.C_below HR.out.2.1 HB.out) h01 (Kd.C_below HR.out.2.2.1 HB.out) h02 (Kd.C_below HR.out.2.2.2.1 HB.out) h03 HG.out).mono ?_); rintro e W1 ⟨rfl, hb⟩; clear g0 g1 g2 g3 g4 g5 g6 y0 y1 y2 y3 y4 y5; replace BX := Sd.mk (blk_below BX.out hb); replace BY := Sd.mk (blk_below BY.out hb); replace HB := Sd.mk (below_then HB.out HB.out.size hb); clear hb; obtain ⟨g0, g1, g2, g3, g4, g5, g6, _⟩ := bc7 BX.out; obtain ⟨y0, y1, y2, y3, y4, y5, _⟩ := bc6 BY.out) | (go_at_call 11; (refine (lw_wide.calls B0 x0 m0 B1 x1 m1 n2 n3 n4 B5 x5 m5 _ _ (Kd.C_below HR.out.2.2.2.2.1 HB.out) k0 (Kd.C_below HR.out.2.2.2.2.2.1 HB.out) k1 (Kd.C_below HR.out.2.2.2.2.2.2 HB.out) k5 HW.out).mono ?_); rintro e W2 ⟨rfl, hb⟩; clear g0 g1 g2 g3 g4 g5 g6 y0 y1 y2 y3 y4 y5; replace BX := Sd.mk (blk_below BX.out hb); replace BY := Sd.mk (blk_below BY.out hb); replace HB := Sd.mk (below_then HB.out HB.out.size hb); clear hb; obtain ⟨g0, g1, g2, g3, g4, g5, g6, _⟩ := bc7 BX.out; obtain ⟨y0, y1, y2, y3, y4, y5, _⟩ := bc6 BY.out) | (go_at_call 27; (refine (lw_many.calls _ A0 c0 l0 A1 c1 mt A2 c2 l2 A3 c3 l3 b4 b5 b6 _ _ (Kd.C_below HR.out.1 HB.out) h00 (Kd.C_below HR.out.2.1 HB.out) h01 (Kd.C_below HR.out.2.2.1 HB.out) h02 (Kd.C_below HR.out.2.2.2.1 HB.out) h03 HM.out).mono ?_); rintro e W3 ⟨rfl, hb⟩; clear g0 g1 g2 g3 g4 g5 g6 y0 y1 y2 y3 y4 y5; replace BX := Sd.mk (blk_below BX.out hb); replace BY := Sd.mk (blk_below BY.out hb); replace HB := Sd.mk (below_then HB.out HB.out.size hb); clear hb; obtain ⟨g0, g1, g2, g3, g4, g5, g6, _⟩ := bc7 BX.out; obtain ⟨y0, y1, y2, y3, y4, y5, _⟩ := bc6 BY.out) | (go_at_call 28; (refine (b_Best.calls _ A0 c0 l0 A1 c1 mt A2 c2 l2 A3 c3 l3 b4 b5 b6 v1 v2 v3 v4 _ (Kd.C_below HR.out.1 HB.out) h00 (Kd.C_below HR.out.2.1 HB.out) h01 (Kd.C_below HR.out.2.2.1 HB.out) h02 (Kd.C_below HR.out.2.2.2.1 HB.out) h03 HBV.out).mono ?_); rintro e W4 ⟨vp, rfl, hvp, hb⟩; obtain ⟨Ap, cp, rfl, hcp, hCp⟩ := Kd.R_reads hvp; have Hp := Sd.mk (And.intro hcp hCp); clear hcp hCp hvp; clear g0 g1 g2 g3 g4 g5 g6 y0 y1 y2 y3 y4 y5; replace BX := Sd.mk (blk_below BX.out hb); replace BY := Sd.mk (blk_below BY.out hb); replace HB := Sd.mk (below_then HB.out HB.out.size hb); clear hb; obtain ⟨g0, g1, g2, g3, g4, g5, g6, _⟩ := bc7 BX.out; obtain ⟨y0, y1, y2, y3, y4, y5, _⟩ := bc6 BY.out))
  go_upto_region 5 with (first | (go_at_call 29; (refine (rf_Best.calls 0 A0 c0 l0 A1 c1 mt A2 c2 l2 A3 c3 l3 b4 b5 b6 v1 v2 v3 v4 _ (Kd.C_below HR.out.1 HB.out) h00 (Kd.C_below HR.out.2.1 HB.out) h01 (Kd.C_below HR.out.2.2.1 HB.out) h02 (Kd.C_below HR.out.2.2.2.1 HB.out) h03 HRV.out).mono ?_); rintro e W5 ⟨vq, rfl, hvq, hb⟩; obtain ⟨Aq, cq, rfl, hcq, hCq⟩ := Kd.R_reads hvq; have Hq := Sd.mk (And.intro hcq hCq); clear hcq hCq hvq; replace Hp := Sd.mk (And.intro Hp.out.1 (Kd.C_below Hp.out.2 hb)); clear g0 g1 g2 g3 g4 g5 g6 y0 y1 y2 y3 y4 y5; replace BX := Sd.mk (blk_below BX.out hb); replace BY := Sd.mk (blk_below BY.out hb); replace HB := Sd.mk (below_then HB.out HB.out.size hb); clear hb; obtain ⟨g0, g1, g2, g3, g4, g5, g6, _⟩ := bc7 BX.out; obtain ⟨y0, y1, y2, y3, y4, y5, _⟩ := bc6 BY.out))
  go_upto_region 7 with (first | (go_at_call 30; (refine (lw_SameInts.calls _ Ap cp v1 Aq cq v1 true _ Hp.out.2 Hp.out.1 Hq.out.2 Hq.out.1 HS.out).mono ?_); rintro e W8 ⟨rfl, hd⟩; have hb := hd.below; clear hd; clear g0 g1 g2 g3 g4 g5 g6 y0 y1 y2 y3 y4 y5; replace BX := Sd.mk (blk_below BX.out hb); replace BY := Sd.mk (blk_below BY.out hb); replace HB := Sd.mk (below_then HB.out HB.out.size hb); clear hb; obtain ⟨g0, g1, g2, g3, g4, g5, g6, _⟩ := bc7 BX.out; obtain ⟨y0, y1, y2, y3, y4, y5, _⟩ := bc6 BY.out))
  go_upto_region 8 with (first | (go_at_call 31; (refine (b_Correct.calls 0 A0 c0 l0 A1 c1 mt A2 c2 l2 A3 c3 l3 b4 b5 b6 B0 x0 m0 n3 z1 z2 z3 z4 _ (Kd.C_below HR.out.1 HB.out) h00 (Kd.C_below HR.out.2.1 HB.out) h01 (Kd.C_below HR.out.2.2.1 HB.out) h02 (Kd.C_below HR.out.2.2.2.1 HB.out) h03 (Kd.C_below HR.out.2.2.2.2.1 HB.out) k0 HCV.out).mono ?_); rintro e W6 ⟨vr, rfl, hvr, hb⟩; obtain ⟨Ar, cr, rfl, hcr, hCr⟩ := Kd.R_reads hvr; have Hr := Sd.mk (And.intro hcr hCr); clear hcr hCr hvr; clear g0 g1 g2 g3 g4 g5 g6 y0 y1 y2 y3 y4 y5; replace BX := Sd.mk (blk_below BX.out hb); replace BY := Sd.mk (blk_below BY.out hb); replace HB := Sd.mk (below_then HB.out HB.out.size hb); clear hb; obtain ⟨g0, g1, g2, g3, g4, g5, g6, _⟩ := bc7 BX.out; obtain ⟨y0, y1, y2, y3, y4, y5, _⟩ := bc6 BY.out))
  go_wp2_with (first | (go_at_call 32; (refine (rf_Correct.calls 0 A0 c0 l0 A1 c1 mt A2 c2 l2 A3 c3 l3 b4 b5 b6 B0 x0 m0 n3 z1 z2 z3 z4 _ (Kd.C_below HR.out.1 HB.out) h00 (Kd.C_below HR.out.2.1 HB.out) h01 (Kd.C_below HR.out.2.2.1 HB.out) h02 (Kd.C_below HR.out.2.2.2.1 HB.out) h03 (Kd.C_below HR.out.2.2.2.2.1 HB.out) k0 HCR.out).mono ?_); rintro e W7 ⟨vs, rfl, hvs, hb⟩; obtain ⟨As, cs, rfl, hcs, hCs⟩ := Kd.R_reads hvs; have Hs := Sd.mk (And.intro hcs hCs); clear hcs hCs hvs; replace Hr := Sd.mk (And.intro Hr.out.1 (Kd.C_below Hr.out.2 hb)); clear g0 g1 g2 g3 g4 g5 g6 y0 y1 y2 y3 y4 y5; replace BX := Sd.mk (blk_below BX.out hb); replace BY := Sd.mk (blk_below BY.out hb); replace HB := Sd.mk (below_then HB.out HB.out.size hb); clear hb; obtain ⟨g0, g1, g2, g3, g4, g5, g6, _⟩ := bc7 BX.out; obtain ⟨y0, y1, y2, y3, y4, y5, _⟩ := bc6 BY.out) | (go_at_call 30; (refine (lw_SameInts.calls _ Ar cr z1 As cs z1 true _ Hr.out.2 Hr.out.1 Hs.out.2 Hs.out.1 HT.out).mono ?_); rintro e W10 ⟨rfl, hd⟩; have hb := hd.below; clear hd; clear g0 g1 g2 g3 g4 g5 g6 y0 y1 y2 y3 y4 y5; replace BX := Sd.mk (blk_below BX.out hb); replace BY := Sd.mk (blk_below BY.out hb); replace HB := Sd.mk (below_then HB.out HB.out.size hb); clear hb; obtain ⟨g0, g1, g2, g3, g4, g5, g6, _⟩ := bc7 BX.out; obtain ⟨y0, y1, y2, y3, y4, y5, _⟩ := bc6 BY.out) | (go_at_call 12; (refine (lw_lives.calls _ _ _ HL.out).mono ?_); rintro e W9 ⟨rfl, hb⟩; clear g0 g1 g2 g3 g4 g5 g6 y0 y1 y2 y3 y4 y5; replace BX := Sd.mk (blk_below BX.out hb); replace BY := Sd.mk (blk_below BY.out hb); replace HB := Sd.mk (below_then HB.out HB.out.size hb); clear hb; obtain ⟨g0, g1, g2, g3, g4, g5, g6, _⟩ := bc7 BX.out; obtain ⟨y0, y1, y2, y3, y4, y5, _⟩ := bc6 BY.out))
  go_ret
  exact ⟨rfl, HB.out⟩
end
end Go.Proofs.YtljfljekcpdpiaaGreat.PB
