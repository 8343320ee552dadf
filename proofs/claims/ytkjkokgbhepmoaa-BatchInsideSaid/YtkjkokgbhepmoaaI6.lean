import Derived.Test.YtkjkokgbhepmoaaI5
set_option linter.unusedVariables false
set_option linter.unusedSimpArgs false
namespace Go.Proofs.Ytkjkokgbhepmoaa.PB
open Go.RowKit Go.Proofs.YtkjkokgbhepmoaaW.PrintWords Go.Proofs.YtkjkokgbhepmoaaW.PrintLast Go.Proofs.YtkjkokgbhepmoaaW.PrintMore
section
variable (o : List ByteArray) (mt : List S63) (s : List S27) (p : List S65) (a4 a5 a6 : Int) (r q : List Int) (n b3 b4 : Int) (l5 : List Int) (y : List (List Int))
variable (H : BatchOk o mt s p a4 a5 a6) (hr : RecOk mt r) (hy : RealOk y) (hp : 0 < lowW o.length mt r) (is : Bool) (K : Kept o mt s p a4 a5 a6 r is)
def rLo : Int := (redT mt r (LO o.length mt r) (HI o.length mt r)).1
def rHi : Int := (redT mt r (LO o.length mt r) (HI o.length mt r)).2.1
include H hr hy hp in
theorem WT_pos : 0 < WT o mt r y ∧ WT o mt r y ≤ 144000000000 := by
  have h1 := (WT_at o mt s p a4 a5 a6 r y H hr hy).1
  have h2 := (WT_small o mt s p a4 a5 a6 r y H hr hy o.length (Nat.le_refl _)).2
  have h3 : 0 < LO o.length mt r := hp
  unfold WT at *
  omega
include H hr in
theorem rd_small : -1000000000000000 ≤ rdS mt r mt.length ∧ rdS mt r mt.length ≤ 1000000000000000 := by
  have hb := rdS_bound H hr mt.length (Nat.le_refl _)
  have hm := H.m12
  omega
include H hr hy hp in
theorem less_lo {m : Int} (hm : m ≤ rLo o mt r) (hm1 : -1000000000000000 ≤ m) : LessOk m (WT o mt r y) 100000000 (rdS mt r mt.length) := by
  have hs := red_small o mt s p a4 a5 a6 r H hr hp
  have w := WT_at o mt s p a4 a5 a6 r y H hr hy
  have wp := WT_pos o mt s p a4 a5 a6 r y H hr hy hp
  have h0 : 0 < LO o.length mt r := hp
  have hhl := LO_HI H hr
  unfold rLo at hm
  have e1 := Int.mul_le_mul_of_nonneg_right hm (show 0 ≤ LO o.length mt r by omega)
  have e2 := Int.mul_le_mul_of_nonneg_right hm (show 0 ≤ HI o.length mt r by omega)
  have h := red_lo (m := m) (X := 1000000 * rdS mt r mt.length) (lo := LO o.length mt r) (hi := HI o.length mt r) (w := WT o mt r y) (by omega) (by omega) w.1 w.2
  have b := rd_small o mt s p a4 a5 a6 r H hr
  exact ⟨by omega, by omega, by omega, b, by omega⟩
include H hr hy hp in
theorem less_hi {m : Int} (hm : rHi o mt r ≤ m) (hm1 : m ≤ 1000000000000000) : LessOk (-m) (WT o mt r y) 100000000 (-rdS mt r mt.length) := by
  have hs := red_small o mt s p a4 a5 a6 r H hr hp
  have w := WT_at o mt s p a4 a5 a6 r y H hr hy
  have wp := WT_pos o mt s p a4 a5 a6 r y H hr hy hp
  have h0 : 0 < LO o.length mt r := hp
  have hhl := LO_HI H hr
  unfold rHi at hm
  have e1 := Int.mul_le_mul_of_nonneg_right hm (show 0 ≤ LO o.length mt r by omega)
  have e2 := Int.mul_le_mul_of_nonneg_right hm (show 0 ≤ HI o.length mt r by omega)
  have h := red_hi (m := m) (X := 1000000 * rdS mt r mt.length) (lo := LO o.length mt r) (hi := HI o.length mt r) (w := WT o mt r y) (by omega) (by omega) w.1 w.2
  have b := rd_small o mt s p a4 a5 a6 r H hr
  exact ⟨by omega, by omega, by omega, by omega, by rw [Int.neg_mul]; omega⟩
include H hr hy hp K in
theorem inside_j9 : Ev (fun k => lw_BatchInside.j9 k is (WT o mt r y) (rdS mt r mt.length) false o mt s p a4 a5 a6) true := by
  have hx := H.redox
  have b := rd_small o mt s p a4 a5 a6 r H hr
  apply Ev.step
  simp only [lw_BatchInside.j9, Bool.false_eq_true, if_false]
  cases is with
  | false => simp only [Bool.false_eq_true, if_false]; exact Ev.bind lives_ev (Ev.const _)
  | true =>
    simp only [if_true]
    have k := K.r rfl
    refine Ev.bind (less_ev (less_lo o mt s p a4 a5 a6 r y H hr hy hp k.1 (by omega))) ?_
    simp only [if_true, wrap_id (x := -a5) (by omega) (by omega), wrap_id (x := -rdS mt r mt.length) (by omega) (by omega)]
    refine Ev.bind (less_ev (less_hi o mt s p a4 a5 a6 r y H hr hy hp k.2 (by omega))) ?_
    simp only [if_true]
    exact Ev.bind lives_ev (Ev.const _)
include H hr hy hp K in
theorem inside_l3_end : Ev (fun k => (lw_less.f k (rLo o mt r) (WT o mt r y) 100000000 (rdS mt r mt.length)).bind fun t574 => (if t574 = true then ((lw_less.f k (wrap64 (-(rHi o mt r))) (WT o mt r y) 100000000 (wrap64 (-(rdS mt r mt.length)))).bind fun t575 => (lw_BatchInside.j9 k is (WT o mt r y) (rdS mt r mt.length) (!t575) o mt s p a4 a5 a6)) else (lw_BatchInside.j9 k is (WT o mt r y) (rdS mt r mt.length) true o mt s p a4 a5 a6))) true := by
  have hs := red_small o mt s p a4 a5 a6 r H hr hp
  have b := rd_small o mt s p a4 a5 a6 r H hr
  refine Ev.bind (less_ev (less_lo o mt s p a4 a5 a6 r y H hr hy hp (Int.le_refl _) hs.2.2.1.1)) ?_
  have e : wrap64 (-(rHi o mt r)) = -(rHi o mt r) := wrap_id (by unfold rHi; omega) (by unfold rHi; omega)
  simp only [if_true, e, wrap_id (x := -rdS mt r mt.length) (by omega) (by omega)]
  refine Ev.bind (less_ev (less_hi o mt s p a4 a5 a6 r y H hr hy hp (Int.le_refl _) hs.2.2.2.2)) ?_
  exact inside_j9 o mt s p a4 a5 a6 r y H hr hy hp is K
theorem coef_pro {i : Nat} : coefOf s p (s.length + i) = rd (rd_T65 p (i : Int)).f1 := by
  unfold coefOf
  rw [if_neg (by omega), Nat.add_sub_cancel_left]
theorem tg_pro {i : Nat} : tgOf s p (s.length + i) = (rd_T65 p (i : Int)).f2 := by
  unfold tgOf
  rw [if_neg (by omega), Nat.add_sub_cancel_left]
include H hr hy hp K in
theorem inside_l4 (i : Nat) (hi : i < p.length) (hv : Ev (fun k => lw_BatchInside.l3 k is (gL o mt r y) (WT o mt r y) (rdS mt r mt.length) ((i + 1 : Nat) : Int) o mt s p a4 a5 a6 r q n b3 b4 l5 (rLo o mt r) (rHi o mt r)) true) :
    ∀ (m j : Nat), j + m = o.length → Ev (fun k => lw_BatchInside.l4 k is (gL o mt r y) (WT o mt r y) (rdS mt r mt.length) (i : Int) (cG (rd (rd_T65 p (i : Int)).f1) (rG mt r y) j) (j : Int) o mt s p a4 a5 a6 r q n b3 b4 l5 (rLo o mt r) (rHi o mt r) (rd_T65 p (i : Int)).f0 (rd_T65 p (i : Int)).f1 (rd_T65 p (i : Int)).f2.f0 (rd_T65 p (i : Int)).f2.f1 (meanLo (rd (rd_T65 p (i : Int)).f1) (gramL o.length mt r)) (meanHi (rd (rd_T65 p (i : Int)).f1) (gramL o.length mt r))) true
  | 0, j, hj => by
    obtain rfl : j = o.length := by omega
    have hp6 := H.p6
    have hl := gL_len o mt r y
    have hG := gramL_ok H hr
    have C : CfOk (rd (rd_T65 p (i : Int)).f1) (gramL o.length mt r).length := by rw [gramL_len]; exact (pro_cf H ⟨i_pos i, by omega⟩).1
    have hg := rG_at o mt s p a4 a5 a6 r y H hr hy
    have s1 := span_lo hG C hp hg (Int.le_refl _)
    have s2 := span_hi hG C hp hg (Int.le_refl _)
    have w := WT_pos o mt s p a4 a5 a6 r y H hr hy hp
    have mr := mean_range hG C hp
    rw [gramL_len] at s1 s2
    have b1 := mulw mr.1.1 mr.1.2 (show 0 ≤ WT o mt r y by omega) w.2
    have b2 := mulw mr.2.1 mr.2.2 (show 0 ≤ WT o mt r y by omega) w.2
    have tg := (H.pros i hi).target
    have b3' := mulw tg.1 (by omega) (show 0 ≤ WT o mt r y by omega) w.2
    have b4' := mulw (show -10000 ≤ (rd_T65 p (i : Int)).f2.f1 by omega) tg.2.2 (show 0 ≤ WT o mt r y by omega) w.2
    have e1 : WT o mt r y = wG (rG mt r y) o.length := rfl
    rw [← e1] at s1 s2
    apply Ev.step
    simp only [lw_BatchInside.l4, hl, if_neg (show ¬ (o.length : Int) < (o.length : Int) by omega), wrap_succ (i_pos i) (show (i : Int) ≤ 1000000000 by omega),
      wrap_id (x := meanLo (rd (rd_T65 p (i : Int)).f1) (gramL o.length mt r) * WT o mt r y) (by omega) (by omega), wrap_id (x := meanHi (rd (rd_T65 p (i : Int)).f1) (gramL o.length mt r) * WT o mt r y) (by omega) (by omega),
      wrap_id (x := (rd_T65 p (i : Int)).f2.f0 * WT o mt r y) (by omega) (by omega), wrap_id (x := (rd_T65 p (i : Int)).f2.f1 * WT o mt r y) (by omega) (by omega)]
    simp only [if_neg (show ¬ cG (rd (rd_T65 p (i : Int)).f1) (rG mt r y) o.length < meanLo (rd (rd_T65 p (i : Int)).f1) (gramL o.length mt r) * WT o mt r y by omega), if_neg (show ¬ cG (rd (rd_T65 p (i : Int)).f1) (rG mt r y) o.length > meanHi (rd (rd_T65 p (i : Int)).f1) (gramL o.length mt r) * WT o mt r y by omega)]
    cases is with
    | false => simp only [Bool.false_eq_true, if_false]; exact hv
    | true =>
      have k := K.f rfl (s.length + i) (by omega)
      rw [coef_pro, tg_pro] at k
      have t1 := span_lo hG C hp hg k.1
      have t2 := span_hi hG C hp hg k.2
      rw [gramL_len, ← e1] at t1 t2
      simp only [if_true, if_neg (show ¬ cG (rd (rd_T65 p (i : Int)).f1) (rG mt r y) o.length < (rd_T65 p (i : Int)).f2.f0 * WT o mt r y by omega), if_neg (show ¬ cG (rd (rd_T65 p (i : Int)).f1) (rG mt r y) o.length > (rd_T65 p (i : Int)).f2.f1 * WT o mt r y by omega)]
      exact hv
  | m + 1, j, hj => by
    have ih := inside_l4 i hi hv m (j + 1) (by omega)
    have ho := H.o12
    have hp6 := H.p6
    have hl := gL_len o mt r y
    have hc := pro_cf H (n := (i : Int)) ⟨i_pos i, by omega⟩
    have hcl := hc.2
    have hca := hc.1.at_ j (by omega)
    have hg := rG_small o mt s p a4 a5 a6 r y H hr hy j (by omega)
    have m1 : ∀ k, k < o.length → -120000000000000 ≤ rd (rd_T65 p (i : Int)).f1 (k : Int) * rG mt r y k ∧ rd (rd_T65 p (i : Int)).f1 (k : Int) * rG mt r y k ≤ 120000000000000 := by
      intro k hk
      have c := hc.1.at_ k hk
      have g := rG_small o mt s p a4 a5 a6 r y H hr hy k hk
      have e1 := Int.mul_le_mul_of_nonneg_right c.1 g.1
      have e2 := Int.mul_le_mul_of_nonneg_right c.2 g.1
      omega
    have b1 := m1 j (by omega)
    have b2 := sumTo_bound (f := fun k => rd (rd_T65 p (i : Int)).f1 (k : Int) * rG mt r y k) (M := 120000000000000) (n := o.length) m1 (j + 1) (by omega)
    have b3' : -120000000000000 * 12 ≤ cG (rd (rd_T65 p (i : Int)).f1) (rG mt r y) (j + 1) ∧ cG (rd (rd_T65 p (i : Int)).f1) (rG mt r y) (j + 1) ≤ 120000000000000 * 12 := by unfold cG; omega
    have e : cG (rd (rd_T65 p (i : Int)).f1) (rG mt r y) j + rd (rd_T65 p (i : Int)).f1 (j : Int) * rG mt r y j = cG (rd (rd_T65 p (i : Int)).f1) (rG mt r y) (j + 1) := rfl
    apply Ev.step
    simp only [lw_BatchInside.l4, hl, gL_get o mt r y j (show j < o.length by omega), if_pos (show (j : Int) < (o.length : Int) by omega), if_pos (i_pos j), if_pos (show (j : Int) < ((rd_T65 p (i : Int)).f1.length : Int) by omega), wrap_succ (i_pos j) (show (j : Int) ≤ 1000000000 by omega)]
    rw [wrap_id (x := rd (rd_T65 p (i : Int)).f1 (j : Int) * rG mt r y j) (by omega) (by omega), e, wrap_id (by omega) (by omega)]
    exact ih
include H hr hy hp K in
theorem inside_l3 (ha : askV o mt s p a4 a5 a6 r = 0) : ∀ (m i : Nat), i + m = p.length → Ev (fun k => lw_BatchInside.l3 k is (gL o mt r y) (WT o mt r y) (rdS mt r mt.length) (i : Int) o mt s p a4 a5 a6 r q n b3 b4 l5 (rLo o mt r) (rHi o mt r)) true
  | 0, i, hi => by
    obtain rfl : i = p.length := by omega
    apply Ev.step
    simp only [lw_BatchInside.l3, if_neg (show ¬ (p.length : Int) < (p.length : Int) by omega)]
    exact inside_l3_end o mt s p a4 a5 a6 r y H hr hy hp is K
  | m + 1, i, hi => by
    have ih := inside_l3 ha m (i + 1) (by omega)
    have hV : ValV o mt s p a4 a5 a6 r (i : Int) = (meanLo (rd (rd_T65 p (i : Int)).f1) (gramL o.length mt r), meanHi (rd (rd_T65 p (i : Int)).f1) (gramL o.length mt r), 0) := by
      unfold ValV
      rw [if_pos ha, if_pos ⟨i_pos i, by omega⟩, if_neg (by omega)]
    have h := inside_l4 o mt s p a4 a5 a6 r q n b3 b4 l5 y H hr hy hp is K i (by omega) ih o.length 0 (by omega)
    apply Ev.step
    simp only [lw_BatchInside.l3, if_pos (show (i : Int) < (p.length : Int) by omega), if_pos (i_pos i)]
    refine Ev.bind (bValue o mt s p a4 a5 a6 r (i : Int)) ?_
    rw [hV]
    simp only [if_true]
    exact h
include H hr hy hp K in
theorem inside_l2 (ha : askV o mt s p a4 a5 a6 r = 0) : ∀ (m i : Nat), i + m = o.length → Ev (fun k => lw_BatchInside.l2 k (meansOf (gramL o.length mt r) o.length) is (gL o mt r y) (WT o mt r y) (rdS mt r mt.length) (i : Int) o mt s p a4 a5 a6 r q n b3 b4 l5 (rLo o mt r) (rHi o mt r)) true
  | 0, i, hi => by
    obtain rfl : i = o.length := by omega
    have hl := gL_len o mt r y
    apply Ev.step
    simp only [lw_BatchInside.l2, hl, if_neg (show ¬ (o.length : Int) < (o.length : Int) by omega)]
    exact inside_l3 o mt s p a4 a5 a6 r q n b3 b4 l5 y H hr hy hp is K ha p.length 0 (by omega)
  | m + 1, i, hi => by
    have ih := inside_l2 ha m (i + 1) (by omega)
    have ho := H.o12
    have hs := H.slen
    have hio : i < o.length := by omega
    have his : i < s.length := by omega
    have hl := gL_len o mt r y
    have hml := meansOf_len (gramL o.length mt r) o.length
    have hG := gramL_ok H hr
    have C : CfOk (unitC i) (gramL o.length mt r).length := unit_ok i _
    have hg := rG_at o mt s p a4 a5 a6 r y H hr hy
    have s1 := span_lo hG C hp hg (Int.le_refl _)
    have s2 := span_hi hG C hp hg (Int.le_refl _)
    have w := WT_pos o mt s p a4 a5 a6 r y H hr hy hp
    have mr := mean_range hG C hp
    have e1 : WT o mt r y = wG (rG mt r y) o.length := rfl
    have eu := cG_unit (rG mt r y) i o.length
    rw [if_pos hio] at eu
    rw [gramL_len, ← e1, eu] at s1 s2
    have b1 := mulw mr.1.1 mr.1.2 (show 0 ≤ WT o mt r y by omega) w.2
    have b2 := mulw mr.2.1 mr.2.2 (show 0 ≤ WT o mt r y by omega) w.2
    have tg := H.shares i his
    have b3' := mulw (show -10000 ≤ (rd_T27 s (i : Int)).f0 by omega) (by omega) (show 0 ≤ WT o mt r y by omega) w.2
    have b4' := mulw (show -10000 ≤ (rd_T27 s (i : Int)).f1 by omega) (by omega) (show 0 ≤ WT o mt r y by omega) w.2
    have gs := rG_small o mt s p a4 a5 a6 r y H hr hy i hio
    have hm : rd_T27 (meansOf (gramL o.length mt r) o.length) (i : Int) = ⟨meanLo (unitC i) (gramL o.length mt r), meanHi (unitC i) (gramL o.length mt r)⟩ := by
      simp [rd_T27, meansOf, List.getD, hio]
    have key : Ev (fun k => lw_BatchInside.j6 k (meansOf (gramL o.length mt r) o.length) is (gL o mt r y) (WT o mt r y) (rdS mt r mt.length) (i : Int) false o mt s p a4 a5 a6 r q n b3 b4 l5 (rLo o mt r) (rHi o mt r)) true := by
      apply Ev.step
      simp only [lw_BatchInside.j6, Bool.false_eq_true, if_false, hl, gL_get o mt r y i hio, if_pos (i_pos i), if_pos (show (i : Int) < (o.length : Int) by omega), if_pos (show (i : Int) < (s.length : Int) by omega), wrap_succ (i_pos i) (show (i : Int) ≤ 1000000000 by omega),
        wrap_id (x := 1000 * rG mt r y i) (by omega) (by omega), wrap_id (x := (rd_T27 s (i : Int)).f0 * WT o mt r y) (by omega) (by omega), wrap_id (x := (rd_T27 s (i : Int)).f1 * WT o mt r y) (by omega) (by omega)]
      cases is with
      | false => simp only [Bool.false_eq_true, if_false]; exact ih
      | true =>
        have k := K.f rfl i (by omega)
        rw [coefOf_unit his] at k
        unfold tgOf at k
        rw [if_pos his] at k
        have t1 := span_lo hG C hp hg k.1
        have t2 := span_hi hG C hp hg k.2
        rw [gramL_len, ← e1, eu] at t1 t2
        simp only [if_true, if_neg (show ¬ 1000 * rG mt r y i < (rd_T27 s (i : Int)).f0 * WT o mt r y by omega), if_neg (show ¬ 1000 * rG mt r y i > (rd_T27 s (i : Int)).f1 * WT o mt r y by omega)]
        exact ih
    apply Ev.step
    simp only [lw_BatchInside.l2, hl, hml, hm, gL_get o mt r y i hio, if_pos (show (i : Int) < (o.length : Int) by omega), if_pos (i_pos i), wrap_id (x := 1000 * rG mt r y i) (by omega) (by omega), wrap_id (x := meanLo (unitC i) (gramL o.length mt r) * WT o mt r y) (by omega) (by omega), wrap_id (x := meanHi (unitC i) (gramL o.length mt r) * WT o mt r y) (by omega) (by omega)]
    simp only [if_neg (show ¬ 1000 * rG mt r y i < meanLo (unitC i) (gramL o.length mt r) * WT o mt r y by omega), decide_eq_false (show ¬ 1000 * rG mt r y i > meanHi (unitC i) (gramL o.length mt r) * WT o mt r y by omega)]
    exact key
include H hr hy hp K in
theorem inside_l1 (ha : askV o mt s p a4 a5 a6 r = 0) : ∀ (m i : Nat), i + m = mt.length → Ev (fun k => lw_BatchInside.l1 k (meansOf (gramL o.length mt r) o.length) is (gL o mt r y) (WT o mt r y) (rdS mt r i) (i : Int) o mt s p a4 a5 a6 r q n b3 b4 l5 (rLo o mt r) (rHi o mt r)) true
  | 0, i, hi => by
    obtain rfl : i = mt.length := by omega
    have hrl := hr.len
    have w := WT_pos o mt s p a4 a5 a6 r y H hr hy hp
    have wa := (WT_at o mt s p a4 a5 a6 r y H hr hy).1
    have hw := H.wanted
    have key : Ev (fun k => lw_BatchInside.j4 k (meansOf (gramL o.length mt r) o.length) is (gL o mt r y) (WT o mt r y) (rdS mt r mt.length) false o mt s p a4 a5 a6 r q n b3 b4 l5 (rLo o mt r) (rHi o mt r)) true := by
      apply Ev.step
      simp only [lw_BatchInside.j4, Bool.false_eq_true, if_false]
      exact inside_l2 o mt s p a4 a5 a6 r q n b3 b4 l5 y H hr hy hp is K ha o.length 0 (by omega)
    apply Ev.step
    simp only [lw_BatchInside.l1, if_neg (show ¬ (mt.length : Int) < (r.length : Int) by omega), if_neg (show ¬ WT o mt r y < 1 by omega), wrap_id (x := 100000 * a6) (by omega) (by omega)]
    cases is with
    | false => simp only [Bool.false_eq_true, if_false]; exact key
    | true =>
      have k := K.w rfl
      have e : LO o.length mt r = lowW o.length mt r := rfl
      simp only [if_true, decide_eq_false (show ¬ WT o mt r y < 100000 * a6 by omega)]
      exact key
  | m + 1, i, hi => by
    have ih := inside_l1 ha m (i + 1) (by omega)
    have hrl := hr.len
    have hm := H.m12
    have b1 := red_at H hr (show i < mt.length by omega)
    have b2 := rdS_bound H hr (i + 1) (by omega)
    have e : rdS mt r i + rd r (i : Int) * (rd_T63 mt (i : Int)).f2 = rdS mt r (i + 1) := rfl
    apply Ev.step
    simp only [lw_BatchInside.l1, if_pos (show (i : Int) < (r.length : Int) by omega), if_pos (i_pos i), if_pos (show (i : Int) < (mt.length : Int) by omega), wrap_succ (i_pos i) (show (i : Int) ≤ 1000000000 by omega)]
    rw [wrap_id (x := rd r (i : Int) * (rd_T63 mt (i : Int)).f2) (by omega) (by omega), e, wrap_id (by omega) (by omega)]
    exact ih
include H hr hy hp K in
theorem inside_l0 (ha : askV o mt s p a4 a5 a6 r = 0) : ∀ (m i : Nat), i + m = o.length → Ev (fun k => lw_BatchInside.l0 k (meansOf (gramL o.length mt r) o.length) is (gL o mt r y) (wG (rG mt r y) i) 0 (i : Int) o mt s p a4 a5 a6 r q n b3 b4 l5 (rLo o mt r) (rHi o mt r)) true
  | 0, i, hi => by
    obtain rfl : i = o.length := by omega
    have hl := gL_len o mt r y
    apply Ev.step
    simp only [lw_BatchInside.l0, hl, if_neg (show ¬ (o.length : Int) < (o.length : Int) by omega)]
    exact inside_l1 o mt s p a4 a5 a6 r q n b3 b4 l5 y H hr hy hp is K ha mt.length 0 (by omega)
  | m + 1, i, hi => by
    have ih := inside_l0 ha m (i + 1) (by omega)
    have ho := H.o12
    have hl := gL_len o mt r y
    have b := WT_small o mt s p a4 a5 a6 r y H hr hy (i + 1) (by omega)
    have e : wG (rG mt r y) i + rG mt r y i = wG (rG mt r y) (i + 1) := rfl
    apply Ev.step
    simp only [lw_BatchInside.l0, hl, gL_get o mt r y i (show i < o.length by omega), if_pos (show (i : Int) < (o.length : Int) by omega), if_pos (i_pos i), wrap_succ (i_pos i) (show (i : Int) ≤ 1000000000 by omega), e]
    rw [wrap_id (by omega) (by omega)]
    exact ih
end
section
variable (o : List ByteArray) (mt : List S63) (s : List S27) (p : List S65) (a4 a5 a6 : Int) (r q : List Int) (n b3 b4 : Int) (l5 : List Int) (y : List (List Int)) (hy : RealOk y)
include hy in
theorem inside_j0 (b : Bool) : Ev (fun k => lw_BatchInside.j0 k b o mt s p a4 a5 a6 r q n b3 b4 l5 y) true := by
  apply Ev.step
  cases b with
  | true => simp only [lw_BatchInside.j0, if_true]; exact Ev.bind lives_ev (Ev.const _)
  | false =>
    simp only [lw_BatchInside.j0, Bool.false_eq_true, if_false]
    refine Ev.bind (bGlass o mt s p a4 a5 a6 r) ?_
    unfold GlassV
    by_cases ha : askV o mt s p a4 a5 a6 r = 0
    · obtain ⟨H, hr⟩ := ask_ok ha
      simp only [if_pos ha]
      by_cases h0 : lowW o.length mt r = 0
      · simp only [if_pos h0, if_neg (show ¬ (8 : Int) = 0 by decide), List.length_nil, if_pos (show ((0 : Nat) : Int) = 0 by rfl)]
        exact Ev.bind lives_ev (Ev.const _)
      · have hp : 0 < lowW o.length mt r := lowW_pos H hr h0
        obtain ⟨v, hv1, hv2⟩ := reals o mt s p a4 a5 a6 r y H hr hy
        have hP : PassV o mt s p a4 a5 a6 r = (passB mt s p a4 a5 a6 r, 0) := by unfold PassV; rw [if_pos ha]
        have hR : RedV o mt s p a4 a5 a6 r = redT mt r (LO o.length mt r) (HI o.length mt r) := by
          unfold RedV
          rw [if_pos ha, if_neg h0]
          rfl
        have h22 : (redT mt r (LO o.length mt r) (HI o.length mt r)).2.2 = 0 := rfl
        simp only [if_neg h0, if_true]
        refine Ev.bind (bPasses o mt s p a4 a5 a6 r) (Ev.bind (bRedox o mt s p a4 a5 a6 r) (Ev.bind hv1 ?_))
        rw [hP, hR]
        cases hv : v.2 with
        | false => simp only [Bool.false_eq_true, if_false]; exact Ev.bind lives_ev (Ev.const _)
        | true =>
          simp only [if_true, h22, hv2 hv, gL_len, meansOf_len, bne_self_eq_false]
          have h := inside_l0 o mt s p a4 a5 a6 r q n b3 b4 l5 y H hr hy hp (passB mt s p a4 a5 a6 r) (kept_of o mt s p a4 a5 a6 r H hr hp) ha o.length 0 (by omega)
          apply Ev.step
          simp only [lw_BatchInside.j1, Bool.false_eq_true, if_false]
          exact h
    · have hn : ¬ askV o mt s p a4 a5 a6 r = 0 := ha
      simp only [if_neg ha, List.length_nil, if_pos (show ((0 : Nat) : Int) = 0 by rfl)]
      exact Ev.bind lives_ev (Ev.const _)
include hy in
theorem BatchInside_true : ∃ k, lw_BatchInside.f k o mt s p a4 a5 a6 r q n b3 b4 l5 y = some true := by
  obtain ⟨b, hb⟩ := great o mt s p a4 a5 a6
  obtain ⟨w, hw⟩ := wide_ev r q n b3 b4 l5
  have h : Ev (fun k => lw_BatchInside.f k o mt s p a4 a5 a6 r q n b3 b4 l5 y) true := by
    unfold lw_BatchInside.f
    refine Ev.bind hb ?_
    cases b with
    | true => simp only [if_true]; exact inside_j0 o mt s p a4 a5 a6 r q n b3 b4 l5 y hy true
    | false =>
      simp only [Bool.false_eq_true, if_false, hw, Option.bind_some]
      cases w with
      | true => simp only [if_true]; exact inside_j0 o mt s p a4 a5 a6 r q n b3 b4 l5 y hy true
      | false => simp only [Bool.false_eq_true, if_false]; exact inside_j0 o mt s p a4 a5 a6 r q n b3 b4 l5 y hy _
  obtain ⟨K, hK⟩ := h
  exact ⟨K, hK K (Nat.le_refl _)⟩
end
end Go.Proofs.Ytkjkokgbhepmoaa.PB

