import Derived.Test.YtkjkokgbhepmoaaG5
import Derived.KernelRfl
set_option linter.unusedVariables false
set_option linter.unusedSimpArgs false
namespace Go.Proofs.Ytkjkokgbhepmoaa.PB
open Go.RowKit Go.Proofs.YtkjkokgbhepmoaaW.PrintWords Go.Proofs.YtkjkokgbhepmoaaW.PrintLast Go.Proofs.YtkjkokgbhepmoaaW.PrintMore
section
variable (o : List ByteArray) (mt : List S63) (s : List S27) (p : List S65) (a4 a5 a6 : Int)
def endV : Int := if -10000 ≤ a4 ∧ a4 ≤ a5 ∧ a5 ≤ 10000 then (if 1 ≤ a6 ∧ a6 ≤ 10000 then 0 else 1) else 1
def proV : Int := if p.length > 6 then 3 else if proE p o.length p.length 0 = 0 then endV a4 a5 a6 else proE p o.length p.length 0
def shaV : Int := if s.length = o.length then (if s.any badSpan = true then 1 else proV o p a4 a5 a6) else 1
def matV : Int := if mt.length > 12 then 3 else if mt.length = 0 then 1 else if matE mt o.length mt.length 0 = 0 then shaV o s p a4 a5 a6 else matE mt o.length mt.length 0
def checkV : Int := if o.length > 12 then 3 else if o.length = 0 then 1 else if oxE o o.length 0 = 0 then matV o mt s p a4 a5 a6 else oxE o o.length 0
theorem bend : Ev (fun _ => (batch_span.f a4 a5 (-10000) 10000).bind fun t147 => (if t147 = true then ((batch_within.f a6 1 10000).bind fun t148 => (if t148 = true then (some 0) else (some 1))) else (some 1))) (endV a4 a5 a6) := by
  simp only [span_f, within_f, Option.bind_some, Bool.and_eq_true, decide_eq_true_eq]
  unfold endV
  by_cases h2 : -10000 ≤ a4 ∧ a4 ≤ a5 ∧ a5 ≤ 10000
  · have h2' : (-10000 ≤ a4 ∧ a4 ≤ a5) ∧ a5 ≤ 10000 := by omega
    simp only [if_pos h2', if_pos h2]
    by_cases h3 : 1 ≤ a6 ∧ a6 ≤ 10000
    · simp only [if_pos h3]; exact Ev.const _
    · simp only [if_neg h3]; exact Ev.const _
  · have h2' : ¬ ((-10000 ≤ a4 ∧ a4 ≤ a5) ∧ a5 ≤ 10000) := by omega
    simp only [if_neg h2', if_neg h2]; exact Ev.const _
theorem rend : Ev (fun _ => (rf_within.f a4 a5 (-10000) 10000).bind fun t264 => (if t264 = true then (if a6 < 1 then (some 1) else (if a6 > 10000 then (some 1) else (some 0))) else (some 1))) (endV a4 a5 a6) := by
  simp only [rwithin_f, Option.bind_some, Bool.and_eq_true, decide_eq_true_eq]
  unfold endV
  by_cases h2 : -10000 ≤ a4 ∧ a4 ≤ a5 ∧ a5 ≤ 10000
  · have h2' : (-10000 ≤ a4 ∧ a4 ≤ a5) ∧ a5 ≤ 10000 := by omega
    simp only [if_pos h2', if_pos h2]
    by_cases h3 : a6 < 1
    · simp only [if_pos h3]; exact (Ev.const _).cast (by rw [if_neg]; omega)
    · by_cases h4 : a6 > 10000
      · simp only [if_neg h3, if_pos h4]; exact (Ev.const _).cast (by rw [if_neg]; omega)
      · simp only [if_neg h3, if_neg h4]; exact (Ev.const _).cast (by rw [if_pos]; omega)
  · have h2' : ¬ ((-10000 ≤ a4 ∧ a4 ≤ a5) ∧ a5 ≤ 10000) := by omega
    simp only [if_neg h2', if_neg h2]; exact Ev.const _
theorem bj0 (b : Bool) : Ev (fun k => batch_Check.j0 k b o mt s p a4 a5 a6) (if b = true then 1 else proV o p a4 a5 a6) := by
  apply Ev.step
  simp only [batch_Check.j0]
  cases b with
  | true => simp only [if_true]; exact Ev.const _
  | false =>
    simp only [Bool.false_eq_true, if_false]
    unfold proV
    by_cases h : p.length > 6
    · simp only [if_pos h, if_pos (show (p.length : Int) > 6 by omega)]; exact Ev.const _
    · simp only [if_neg h, if_neg (show ¬ (p.length : Int) > 6 by omega)]
      exact bpros_l0 o mt s p a4 a5 a6 (by omega) _ (bend a4 a5 a6) p.length 0 (by omega)
theorem bcheck : Ev (fun k => batch_Check.f k o mt s p a4 a5 a6) (checkV o mt s p a4 a5 a6) := by
  unfold batch_Check.f
  refine Ev.bind (box_f o mt s p a4 a5 a6) ?_
  unfold checkV
  by_cases h : o.length > 12
  · simp only [if_pos h]; exact Ev.const _
  · by_cases h' : o.length = 0
    · simp only [if_neg h, if_pos h']; exact Ev.const _
    · simp only [if_neg h, if_neg h']
      by_cases h2 : oxE o o.length 0 = 0
      · simp only [if_pos h2]
        refine Ev.bind (bmats o mt s p a4 a5 a6 (by omega)) ?_
        unfold matV
        by_cases h3 : mt.length > 12
        · simp only [if_pos h3]; exact Ev.const _
        · by_cases h4 : mt.length = 0
          · simp only [if_neg h3, if_pos h4]; exact Ev.const _
          · simp only [if_neg h3, if_neg h4]
            by_cases h5 : matE mt o.length mt.length 0 = 0
            · simp only [if_pos h5]
              unfold shaV
              by_cases h6 : s.length = o.length
              · simp only [if_pos h6, if_pos (show (s.length : Int) = (o.length : Int) by omega), x_spans.f, Option.bind_some]
                exact bj0 o mt s p a4 a5 a6 _
              · simp only [if_neg h6, if_neg (show ¬ (s.length : Int) = (o.length : Int) by omega)]
                exact (bj0 o mt s p a4 a5 a6 true).cast (by simp)
            · simp only [if_neg h5]; exact Ev.const _
      · simp only [if_neg h2]; exact Ev.const _
theorem rsha_l2 (ho : s.length ≤ 12) (P : Int) (hP : Ev (fun k => if (p.length : Int) > 6 then some 3 else rf_Check.l3 k [] 0 o mt s p a4 a5 a6) P) :
    ∀ (m i : Nat), i + m = s.length → Ev (fun k => rf_Check.l2 k (i : Int) o mt s p a4 a5 a6) (if (s.drop i).any badSpan = true then 1 else P)
  | 0, i, hi => by
    apply Ev.step
    simp only [rf_Check.l2, if_neg (show ¬ (i : Int) < (s.length : Int) by omega)]
    have h3 : (s.drop i).any badSpan = false := by rw [List.drop_eq_nil_of_le (by omega)]; rfl
    exact hP.cast (by rw [h3]; simp)
  | m + 1, i, hi => by
    have ih := rsha_l2 ho P hP m (i + 1) (by omega)
    have hlt : i < s.length := by omega
    have hr : rd_T27 s (i : Int) = s[i] := by simp [rd_T27, hlt]
    apply Ev.step
    simp only [rf_Check.l2, if_pos (show (i : Int) < (s.length : Int) by omega), if_pos (i_pos i), wrap_succ (i_pos i) (show (i : Int) ≤ 1000000000 by omega), rwithin_bad, Option.bind_some, hr]
    rw [List.drop_eq_getElem_cons hlt, List.any_cons]
    cases h : badSpan s[i] with
    | true => simp only [Bool.not_true, Bool.false_eq_true, if_false, Bool.true_or, if_true]; exact Ev.const _
    | false => simp only [Bool.not_false, if_true, Bool.false_or]; exact ih
theorem rcheck : Ev (fun k => rf_Check.f k o mt s p a4 a5 a6) (checkV o mt s p a4 a5 a6) := by
  unfold rf_Check.f checkV
  by_cases h : o.length > 12
  · simp only [if_pos h, if_pos (show (o.length : Int) > 12 by omega)]; exact Ev.const _
  · by_cases h' : o.length = 0
    · simp only [if_neg h, if_neg (show ¬ (o.length : Int) > 12 by omega), if_pos h', if_pos (show (o.length : Int) = 0 by omega)]; exact Ev.const _
    · simp only [if_neg h, if_neg (show ¬ (o.length : Int) > 12 by omega), if_neg h', if_neg (show ¬ (o.length : Int) = 0 by omega)]
      refine rox_l0 o mt s p a4 a5 a6 (by omega) _ ?_ o.length 0 (by omega)
      unfold matV
      by_cases h3 : mt.length > 12
      · simp only [if_pos h3, if_pos (show (mt.length : Int) > 12 by omega)]; exact Ev.const _
      · by_cases h4 : mt.length = 0
        · simp only [if_neg h3, if_neg (show ¬ (mt.length : Int) > 12 by omega), if_pos h4, if_pos (show (mt.length : Int) = 0 by omega)]; exact Ev.const _
        · simp only [if_neg h3, if_neg (show ¬ (mt.length : Int) > 12 by omega), if_neg h4, if_neg (show ¬ (mt.length : Int) = 0 by omega)]
          refine rmats_l1 o mt s p a4 a5 a6 (by omega) (by omega) _ ?_ mt.length 0 (by omega)
          unfold shaV
          by_cases h6 : s.length = o.length
          · simp only [if_pos h6, if_pos (show (s.length : Int) = (o.length : Int) by omega)]
            refine (rsha_l2 o mt s p a4 a5 a6 (by omega) _ ?_ s.length 0 (by omega)).cast (by rw [List.drop_zero])
            unfold proV
            by_cases h7 : p.length > 6
            · simp only [if_pos h7, if_pos (show (p.length : Int) > 6 by omega)]; exact Ev.const _
            · simp only [if_neg h7, if_neg (show ¬ (p.length : Int) > 6 by omega)]
              exact rpros_l3 o mt s p a4 a5 a6 (by omega) (by omega) _ (rend a4 a5 a6) p.length 0 (by omega)
          · simp only [if_neg h6, if_neg (show ¬ (s.length : Int) = (o.length : Int) by omega)]; exact Ev.const _
end
theorem conE_ok (l : List S27) : ∀ (m i : Nat) (acc : Int), i + m = l.length → conE l m i acc = 0 → ∀ j : Nat, i ≤ j → j < l.length → badSpan (rd_T27 l (j : Int)) = false
  | 0, i, acc, hi, h, j, h1, h2 => by omega
  | m + 1, i, acc, hi, h, j, h1, h2 => by
    unfold conE at h
    by_cases hb : badSpan (rd_T27 l (i : Int)) = true
    · rw [if_pos hb] at h; omega
    · rw [if_neg hb] at h
      by_cases hj : j = i
      · subst hj; simpa using hb
      · exact conE_ok l m (i + 1) _ (by omega) h j (by omega) h2
structure MatOk (n : Nat) (x : S63) : Prop where
  price : 0 ≤ x.f1 ∧ x.f1 ≤ 10000
  redox : -1000 ≤ x.f2 ∧ x.f2 ≤ 1000
  least : 0 ≤ x.f3 ∧ x.f3 ≤ 10000
  most : x.f3 ≤ x.f4 ∧ x.f4 ≤ 10000
  step : 1 ≤ x.f5 ∧ x.f5 ≤ 10000
  len : x.f6.length = n
  con : ∀ j : Nat, j < n → 0 ≤ (rd_T27 x.f6 (j : Int)).f0 ∧ (rd_T27 x.f6 (j : Int)).f0 ≤ (rd_T27 x.f6 (j : Int)).f1 ∧ (rd_T27 x.f6 (j : Int)).f1 ≤ 1000
theorem matC_ok {n : Nat} {x : S63} (h : matC n x = 0) : MatOk n x := by
  unfold matC at h
  by_cases hc : (0 ≤ x.f1 ∧ x.f1 ≤ 10000) ∧ (-1000 ≤ x.f2 ∧ x.f2 ≤ 1000) ∧ (0 ≤ x.f3 ∧ x.f3 ≤ 10000) ∧ (x.f3 ≤ x.f4 ∧ x.f4 ≤ 10000) ∧ (1 ≤ x.f5 ∧ x.f5 ≤ 10000) ∧ x.f6.length = n
  · rw [if_pos hc] at h
    obtain ⟨h1, h2, h3, h4, h5, h6⟩ := hc
    exact ⟨h1, h2, h3, h4, h5, h6, fun j hj => bad_false (conE_ok x.f6 _ 0 0 (by omega) h j (by omega) (by omega))⟩
  · rw [if_neg hc] at h; omega
theorem matE_ok (mt : List S63) (n : Nat) : ∀ (m i : Nat), matE mt n m i = 0 → ∀ j : Nat, i ≤ j → j < i + m → MatOk n (rd_T63 mt (j : Int))
  | 0, i, h, j, h1, h2 => by omega
  | m + 1, i, h, j, h1, h2 => by
    unfold matE at h
    by_cases ha : nameOk (rd_T63 mt (i : Int)).f0 = true
    · rw [if_pos ha] at h
      by_cases hb : ((mt.take i).any fun x => x.f0.toList == (rd_T63 mt (i : Int)).f0.toList) = true
      · rw [if_pos hb] at h; omega
      · rw [if_neg hb] at h
        by_cases hc : matC n (rd_T63 mt (i : Int)) = 0
        · rw [if_pos hc] at h
          by_cases hj : j = i
          · subst hj; exact matC_ok hc
          · exact matE_ok mt n m (i + 1) h j (by omega) (by omega)
        · rw [if_neg hc] at h; exact absurd h hc
    · rw [if_neg ha] at h; omega
structure ProOk (n : Nat) (x : S65) : Prop where
  len : x.f1.length = n
  coef : ∀ j : Nat, j < n → -10000 ≤ rd x.f1 (j : Int) ∧ rd x.f1 (j : Int) ≤ 10000
  target : -10000 ≤ x.f2.f0 ∧ x.f2.f0 ≤ x.f2.f1 ∧ x.f2.f1 ≤ 10000
theorem proC_ok {n : Nat} {x : S65} (h : proC n x = 0) : ProOk n x := by
  unfold proC at h
  by_cases h1 : x.f1.length = n
  · rw [if_pos h1] at h
    by_cases h2 : x.f1.any (outside (-10000) 10000) = true
    · rw [if_pos h2] at h; omega
    · rw [if_neg h2] at h
      by_cases h3 : -10000 ≤ x.f2.f0 ∧ x.f2.f0 ≤ x.f2.f1 ∧ x.f2.f1 ≤ 10000
      · refine ⟨h1, fun j hj => ?_, h3⟩
        have hm : rd x.f1 (j : Int) ∈ x.f1 := by
          have hlt : j < x.f1.length := by omega
          have : rd x.f1 (j : Int) = x.f1[j] := by simp [rd, hlt]
          rw [this]; exact List.getElem_mem hlt
        have hn : outside (-10000) 10000 (rd x.f1 (j : Int)) = false := by
          cases ho : outside (-10000) 10000 (rd x.f1 (j : Int)) with
          | false => rfl
          | true => exact absurd (List.any_eq_true.mpr ⟨_, hm, ho⟩) h2
        simp [outside] at hn; omega
      · rw [if_neg h3] at h; omega
  · rw [if_neg h1] at h; omega
theorem proE_ok (p : List S65) (n : Nat) : ∀ (m i : Nat), proE p n m i = 0 → ∀ j : Nat, i ≤ j → j < i + m → ProOk n (rd_T65 p (j : Int))
  | 0, i, h, j, h1, h2 => by omega
  | m + 1, i, h, j, h1, h2 => by
    unfold proE at h
    by_cases ha : nameOk (rd_T65 p (i : Int)).f0 = true
    · rw [if_pos ha] at h
      by_cases hb : ((p.take i).any fun x => x.f0.toList == (rd_T65 p (i : Int)).f0.toList) = true
      · rw [if_pos hb] at h; omega
      · rw [if_neg hb] at h
        by_cases hc : proC n (rd_T65 p (i : Int)) = 0
        · rw [if_pos hc] at h
          by_cases hj : j = i
          · subst hj; exact proC_ok hc
          · exact proE_ok p n m (i + 1) h j (by omega) (by omega)
        · rw [if_neg hc] at h; exact absurd h hc
    · rw [if_neg ha] at h; omega
structure BatchOk (o : List ByteArray) (mt : List S63) (s : List S27) (p : List S65) (a4 a5 a6 : Int) : Prop where
  o12 : o.length ≤ 12
  o1 : o.length ≠ 0
  m12 : mt.length ≤ 12
  m1 : mt.length ≠ 0
  mats : ∀ j : Nat, j < mt.length → MatOk o.length (rd_T63 mt (j : Int))
  slen : s.length = o.length
  shares : ∀ j : Nat, j < s.length → 0 ≤ (rd_T27 s (j : Int)).f0 ∧ (rd_T27 s (j : Int)).f0 ≤ (rd_T27 s (j : Int)).f1 ∧ (rd_T27 s (j : Int)).f1 ≤ 1000
  p6 : p.length ≤ 6
  pros : ∀ j : Nat, j < p.length → ProOk o.length (rd_T65 p (j : Int))
  redox : -10000 ≤ a4 ∧ a4 ≤ a5 ∧ a5 ≤ 10000
  wanted : 1 ≤ a6 ∧ a6 ≤ 10000
theorem check_ok {o : List ByteArray} {mt : List S63} {s : List S27} {p : List S65} {a4 a5 a6 : Int} (h : checkV o mt s p a4 a5 a6 = 0) : BatchOk o mt s p a4 a5 a6 := by
  unfold checkV at h
  by_cases h1 : o.length > 12
  · rw [if_pos h1] at h; omega
  rw [if_neg h1] at h
  by_cases h2 : o.length = 0
  · rw [if_pos h2] at h; omega
  rw [if_neg h2] at h
  by_cases h3 : oxE o o.length 0 = 0
  rotate_left
  · rw [if_neg h3] at h; exact absurd h h3
  rw [if_pos h3] at h
  unfold matV at h
  by_cases h4 : mt.length > 12
  · rw [if_pos h4] at h; omega
  rw [if_neg h4] at h
  by_cases h5 : mt.length = 0
  · rw [if_pos h5] at h; omega
  rw [if_neg h5] at h
  by_cases h6 : matE mt o.length mt.length 0 = 0
  rotate_left
  · rw [if_neg h6] at h; exact absurd h h6
  rw [if_pos h6] at h
  unfold shaV at h
  by_cases h7 : s.length = o.length
  rotate_left
  · rw [if_neg h7] at h; omega
  rw [if_pos h7] at h
  by_cases h8 : s.any badSpan = true
  · rw [if_pos h8] at h; omega
  rw [if_neg h8] at h
  unfold proV at h
  by_cases h9 : p.length > 6
  · rw [if_pos h9] at h; omega
  rw [if_neg h9] at h
  by_cases h10 : proE p o.length p.length 0 = 0
  rotate_left
  · rw [if_neg h10] at h; exact absurd h h10
  rw [if_pos h10] at h
  unfold endV at h
  by_cases h11 : -10000 ≤ a4 ∧ a4 ≤ a5 ∧ a5 ≤ 10000
  rotate_left
  · rw [if_neg h11] at h; omega
  rw [if_pos h11] at h
  by_cases h12 : 1 ≤ a6 ∧ a6 ≤ 10000
  rotate_left
  · rw [if_neg h12] at h; omega
  refine ⟨by omega, h2, by omega, h5, fun j hj => matE_ok mt _ _ 0 h6 j (by omega) (by omega), h7, fun j hj => ?_, by omega, fun j hj => proE_ok p _ _ 0 h10 j (by omega) (by omega), h11, h12⟩
  have hlt : j < s.length := hj
  have hr : rd_T27 s (j : Int) = s[j] := by simp [rd_T27, hlt]
  rw [hr]
  apply bad_false
  cases hb : badSpan s[j] with
  | false => rfl
  | true => exact absurd (List.any_eq_true.mpr ⟨_, List.getElem_mem hlt, hb⟩) h8
end Go.Proofs.Ytkjkokgbhepmoaa.PB

namespace Go.Proofs.Ytkjkokgbhepmoaa.PB
open Go.RowKit Go.Proofs.YtkjkokgbhepmoaaW.PrintWords Go.Proofs.YtkjkokgbhepmoaaW.PrintLast Go.Proofs.YtkjkokgbhepmoaaW.PrintMore
def recV (mt : List S63) (r : List Int) : Int := if r.length = mt.length then (if r.any (outside 0 10000) = true then 1 else 0) else 1
theorem rrec_l0 (l : List Int) (hl : l.length ≤ 12) : ∀ (m i : Nat), i + m = l.length → Ev (fun k => rf_Recipe.l0 k l (i : Int)) (if (l.drop i).any (outside 0 10000) = true then 1 else 0)
  | 0, i, hi => by
    apply Ev.step
    simp only [rf_Recipe.l0, if_neg (show ¬ (i : Int) < (l.length : Int) by omega)]
    have h3 : (l.drop i).any (outside 0 10000) = false := by rw [List.drop_eq_nil_of_le (by omega)]; rfl
    rw [h3]
    exact Ev.const _
  | m + 1, i, hi => by
    have ih := rrec_l0 l hl m (i + 1) (by omega)
    have hlt : i < l.length := by omega
    have hr : rd l (i : Int) = l[i] := by simp [rd, hlt]
    apply Ev.step
    simp only [rf_Recipe.l0, if_pos (show (i : Int) < (l.length : Int) by omega), if_pos (i_pos i), wrap_succ (i_pos i) (show (i : Int) ≤ 1000000000 by omega), hr]
    rw [List.drop_eq_getElem_cons hlt, List.any_cons]
    by_cases h1 : l[i] < 0
    · simp only [if_pos h1]
      have hb : outside 0 10000 l[i] = true := by simp [outside]; omega
      exact (Ev.const _).cast (by rw [hb]; rfl)
    · simp only [if_neg h1]
      by_cases h2 : l[i] > 10000
      · simp only [if_pos h2]
        have hb : outside 0 10000 l[i] = true := by simp [outside]; omega
        exact (Ev.const _).cast (by rw [hb]; rfl)
      · simp only [if_neg h2]
        have hb : outside 0 10000 l[i] = false := by simp [outside]; omega
        exact ih.cast (by rw [hb, Bool.false_or])
section
variable (o : List ByteArray) (mt : List S63) (s : List S27) (p : List S65) (a4 a5 a6 : Int) (r : List Int)
def askV : Int := if checkV o mt s p a4 a5 a6 = 0 then recV mt r else checkV o mt s p a4 a5 a6
theorem basked : Ev (fun k => batch_asked.f k o mt s p a4 a5 a6 r) (askV o mt s p a4 a5 a6 r) := by
  unfold batch_asked.f askV
  refine Ev.bind (bcheck o mt s p a4 a5 a6) ?_
  by_cases h : checkV o mt s p a4 a5 a6 = 0
  · simp only [if_pos h, batch_checkRecipe.f, x_kilos.f, Option.bind_some]
    unfold recV
    by_cases h1 : r.length = mt.length
    · simp only [if_pos h1, if_pos (show (r.length : Int) = (mt.length : Int) by omega)]
      by_cases h2 : r.any (outside 0 10000) = true
      · simp only [if_pos h2, Option.bind_some]; exact Ev.const _
      · simp only [if_neg h2, Option.bind_some]; exact Ev.const _
    · simp only [if_neg h1, if_neg (show ¬ (r.length : Int) = (mt.length : Int) by omega), Option.bind_some]; exact Ev.const _
  · simp only [if_neg h]; exact Ev.const _
theorem rasked : Ev (fun k => rf_asked.f k o mt s p a4 a5 a6 r) (askV o mt s p a4 a5 a6 r) := by
  unfold rf_asked.f askV
  refine Ev.bind (rcheck o mt s p a4 a5 a6) ?_
  by_cases h : checkV o mt s p a4 a5 a6 = 0
  · simp only [if_pos h]
    have hb := check_ok h
    refine Ev.bind (v := recV mt r) ?_ (Ev.const _)
    unfold rf_Recipe.f recV
    by_cases h1 : r.length = mt.length
    · simp only [if_pos h1, if_pos (show (r.length : Int) = (mt.length : Int) by omega)]
      exact (rrec_l0 r (by have := hb.m12; omega) r.length 0 (by omega)).cast (by rw [List.drop_zero])
    · simp only [if_neg h1, if_neg (show ¬ (r.length : Int) = (mt.length : Int) by omega)]; exact Ev.const _
  · simp only [if_neg h]; exact Ev.const _
end
structure RecOk (mt : List S63) (r : List Int) : Prop where
  len : r.length = mt.length
  kilos : ∀ j : Nat, j < mt.length → 0 ≤ rd r (j : Int) ∧ rd r (j : Int) ≤ 10000
theorem ask_ok {o : List ByteArray} {mt : List S63} {s : List S27} {p : List S65} {a4 a5 a6 : Int} {r : List Int} (h : askV o mt s p a4 a5 a6 r = 0) : BatchOk o mt s p a4 a5 a6 ∧ RecOk mt r := by
  unfold askV at h
  by_cases h1 : checkV o mt s p a4 a5 a6 = 0
  · rw [if_pos h1] at h
    refine ⟨check_ok h1, ?_⟩
    unfold recV at h
    by_cases h2 : r.length = mt.length
    · rw [if_pos h2] at h
      by_cases h3 : r.any (outside 0 10000) = true
      · rw [if_pos h3] at h; omega
      · refine ⟨h2, fun j hj => ?_⟩
        have hm : rd r (j : Int) ∈ r := by
          have hlt : j < r.length := by omega
          have : rd r (j : Int) = r[j] := by simp [rd, hlt]
          rw [this]; exact List.getElem_mem hlt
        have hn : outside 0 10000 (rd r (j : Int)) = false := by
          cases ho : outside 0 10000 (rd r (j : Int)) with
          | false => rfl
          | true => exact absurd (List.any_eq_true.mpr ⟨_, hm, ho⟩) h3
        simp [outside] at hn; omega
    · rw [if_neg h2] at h; omega
  · rw [if_neg h1] at h; exact absurd h h1
def gS (F : S27 → Int) (mt : List S63) (r : List Int) (j : Nat) : Nat → Int
  | 0 => 0
  | n + 1 => gS F mt r j n + rd r (n : Int) * F (rd_T27 (rd_T63 mt (n : Int)).f6 (j : Int))
def stL (n : Nat) (mt : List S63) (r : List Int) (i jj : Nat) : List S27 := (List.range n).map fun j => if j < jj then ⟨gS S27.f0 mt r j (i + 1), gS S27.f1 mt r j (i + 1)⟩ else ⟨gS S27.f0 mt r j i, gS S27.f1 mt r j i⟩
theorem stL_len (n : Nat) (mt : List S63) (r : List Int) (i jj : Nat) : (stL n mt r i jj).length = n := by simp [stL]
theorem stL_get (n : Nat) (mt : List S63) (r : List Int) (i jj j : Nat) (h : j < n) : rd_T27 (stL n mt r i jj) (j : Int) = if j < jj then ⟨gS S27.f0 mt r j (i + 1), gS S27.f1 mt r j (i + 1)⟩ else ⟨gS S27.f0 mt r j i, gS S27.f1 mt r j i⟩ := by
  simp [rd_T27, stL, List.getD, h]
theorem stL_zero (n : Nat) (mt : List S63) (r : List Int) : List.replicate n z27 = stL n mt r 0 0 := by
  apply List.ext_getElem
  · simp [stL]
  · intro i h1 h2; simp [stL, gS, z27]
theorem stL_next (n : Nat) (mt : List S63) (r : List Int) (i : Nat) : stL n mt r i n = stL n mt r (i + 1) 0 := by
  apply List.ext_getElem
  · simp [stL]
  · intro j h1 h2
    have hj : j < n := by simpa [stL] using h1
    simp [stL, hj]
theorem stL_set (n : Nat) (mt : List S63) (r : List Int) (i jj : Nat) (h : jj < n) (x : S27) : ((stL n mt r i jj).set jj x).set jj ⟨gS S27.f0 mt r jj (i + 1), gS S27.f1 mt r jj (i + 1)⟩ = stL n mt r i (jj + 1) := by
  rw [List.set_set]
  apply List.ext_getElem
  · simp [stL]
  · intro j h1 h2
    have hj : j < n := by simpa [stL] using h1
    rw [List.getElem_set]
    by_cases hc : jj = j
    · subst hc; simp [stL]
    · have : j < jj ↔ j < jj + 1 := by omega
      simp [stL, hc, this]
theorem rd_T27_set (l : List S27) (j : Nat) (x : S27) (h : j < l.length) : rd_T27 (l.set j x) (j : Int) = x := by simp [rd_T27, List.getD, h]
theorem mul_bound {a b : Int} (h0 : 0 ≤ a) (h1 : a ≤ 10000) (h2 : 0 ≤ b) (h3 : b ≤ 1000) : 0 ≤ a * b ∧ a * b ≤ 10000000 := by
  have e1 := Int.mul_nonneg h0 h2
  have e2 := Int.mul_le_mul_of_nonneg_right h1 h2
  omega
theorem gS_bound {F : S27 → Int} {mt : List S63} {r : List Int} {n j : Nat} (hr : RecOk mt r) (hF : ∀ i : Nat, i < mt.length → 0 ≤ F (rd_T27 (rd_T63 mt (i : Int)).f6 (j : Int)) ∧ F (rd_T27 (rd_T63 mt (i : Int)).f6 (j : Int)) ≤ 1000) :
    ∀ n, n ≤ mt.length → 0 ≤ gS F mt r j n ∧ gS F mt r j n ≤ 10000000 * n := by
  intro n
  induction n with
  | zero => intro _; simp [gS]
  | succ n ih =>
    intro hn
    have h1 := ih (by omega)
    have h2 := hr.kilos n (by omega)
    have h3 := hF n (by omega)
    have h4 := mul_bound h2.1 h2.2 h3.1 h3.2
    simp only [gS]
    omega
section
variable {o : List ByteArray} {mt : List S63} {s : List S27} {p : List S65} {a4 a5 a6 : Int} {r : List Int}
theorem gram_new {F : S27 → Int} (hb : mt.length ≤ 12) (hr : RecOk mt r) {j : Nat} (hF : ∀ i : Nat, i < mt.length → 0 ≤ F (rd_T27 (rd_T63 mt (i : Int)).f6 (j : Int)) ∧ F (rd_T27 (rd_T63 mt (i : Int)).f6 (j : Int)) ≤ 1000) (i : Nat) (hi : i < mt.length) :
    wrap64 (gS F mt r j i + wrap64 (rd r (i : Int) * F (rd_T27 (rd_T63 mt (i : Int)).f6 (j : Int)))) = gS F mt r j (i + 1) := by
  have h1 := gS_bound (n := 0) hr hF i (by omega)
  have h2 := hr.kilos i hi
  have h3 := hF i hi
  have h4 := mul_bound h2.1 h2.2 h3.1 h3.2
  rw [wrap_id (x := rd r (i : Int) * F (rd_T27 (rd_T63 mt (i : Int)).f6 (j : Int))) (by omega) (by omega), wrap_id (by omega) (by omega)]
  rfl
theorem con0 (H : BatchOk o mt s p a4 a5 a6) {j : Nat} (hj : j < o.length) : ∀ i : Nat, i < mt.length → 0 ≤ S27.f0 (rd_T27 (rd_T63 mt (i : Int)).f6 (j : Int)) ∧ S27.f0 (rd_T27 (rd_T63 mt (i : Int)).f6 (j : Int)) ≤ 1000 := by
  intro i hi
  have := (H.mats i hi).con j hj
  omega
theorem con1 (H : BatchOk o mt s p a4 a5 a6) {j : Nat} (hj : j < o.length) : ∀ i : Nat, i < mt.length → 0 ≤ S27.f1 (rd_T27 (rd_T63 mt (i : Int)).f6 (j : Int)) ∧ S27.f1 (rd_T27 (rd_T63 mt (i : Int)).f6 (j : Int)) ≤ 1000 := by
  intro i hi
  have := (H.mats i hi).con j hj
  omega
def gramL (n : Nat) (mt : List S63) (r : List Int) : List S27 := stL n mt r mt.length 0
theorem bgram_l1 (H : BatchOk o mt s p a4 a5 a6) (hr : RecOk mt r) (i : Nat) (hi : i < mt.length) (ih : Ev (fun k => batch_grams.l0 k r (stL o.length mt r (i + 1) 0) mt (mt.length : Int) ((i + 1 : Nat) : Int)) (gramL o.length mt r)) :
    ∀ (m jj : Nat), jj + m = o.length → Ev (fun k => batch_grams.l1 k r (stL o.length mt r i jj) (i : Int) mt (mt.length : Int) (i : Int) (rd_T63 mt (i : Int)).f6 ((rd_T63 mt (i : Int)).f6.length : Int) (jj : Int)) (gramL o.length mt r)
  | 0, jj, hj => by
    have hl := (H.mats i hi).len
    have hm := H.m12
    apply Ev.step
    simp only [batch_grams.l1, if_neg (show ¬ (jj : Int) < ((rd_T63 mt (i : Int)).f6.length : Int) by omega), wrap_succ (i_pos i) (show (i : Int) ≤ 1000000000 by omega)]
    rw [show jj = o.length by omega, stL_next]
    exact ih
  | m + 1, jj, hj => by
    have hl := (H.mats i hi).len
    have hm := H.m12
    have ho := H.o12
    have hrl := hr.len
    have hlt : jj < o.length := by omega
    have ih' := bgram_l1 H hr i hi ih m (jj + 1) (by omega)
    apply Ev.step
    simp only [batch_grams.l1, if_pos (show (jj : Int) < ((rd_T63 mt (i : Int)).f6.length : Int) by omega), if_pos (i_pos jj), stL_len, if_pos (show (jj : Int) < (o.length : Int) by omega), if_pos (i_pos i), if_pos (show (i : Int) < (r.length : Int) by omega), Option.bind_some, Int.toNat_natCast,
      wrap_succ (i_pos jj) (show (jj : Int) ≤ 1000000000 by omega)]
    rw [rd_T27_set _ _ _ (by rw [stL_len]; exact hlt), stL_get _ _ _ _ _ _ hlt, if_neg (Nat.lt_irrefl jj)]
    dsimp only
    rw [gram_new hm hr (con0 H hlt) i hi, gram_new hm hr (con1 H hlt) i hi, stL_set _ _ _ _ _ hlt]
    exact ih'
theorem bgram_l0 (H : BatchOk o mt s p a4 a5 a6) (hr : RecOk mt r) : ∀ (m i : Nat), i + m = mt.length → Ev (fun k => batch_grams.l0 k r (stL o.length mt r i 0) mt (mt.length : Int) (i : Int)) (gramL o.length mt r)
  | 0, i, hi => by
    apply Ev.step
    simp only [batch_grams.l0, if_neg (show ¬ (i : Int) < (mt.length : Int) by omega)]
    rw [show i = mt.length by omega]
    exact Ev.const _
  | m + 1, i, hi => by
    have ih := bgram_l0 H hr m (i + 1) (by omega)
    apply Ev.step
    simp only [batch_grams.l0, if_pos (show (i : Int) < (mt.length : Int) by omega), if_pos (i_pos i)]
    exact bgram_l1 H hr i (by omega) ih o.length 0 (by omega)
theorem bgrams (H : BatchOk o mt s p a4 a5 a6) (hr : RecOk mt r) : Ev (fun k => batch_grams.f k o mt s p a4 a5 a6 r) (gramL o.length mt r) := by
  have ho := H.o12
  unfold batch_grams.f
  simp only [if_pos (i_pos o.length), Int.toNat_natCast, if_pos (show o.length ≤ 17592186044416 by omega)]
  rw [stL_zero o.length mt r]
  exact bgram_l0 H hr mt.length 0 (by omega)
theorem rgram_l1 (H : BatchOk o mt s p a4 a5 a6) (hr : RecOk mt r) (i : Nat) (hi : i < mt.length) (ih : Ev (fun k => rf_Brings.l0 k r (stL o.length mt r (i + 1) 0) ((i + 1 : Nat) : Int) o mt s p a4 a5 a6) (gramL o.length mt r)) :
    ∀ (m jj : Nat), jj + m = o.length → Ev (fun k => rf_Brings.l1 k r (stL o.length mt r i jj) (i : Int) (jj : Int) o mt s p a4 a5 a6) (gramL o.length mt r)
  | 0, jj, hj => by
    have hl := (H.mats i hi).len
    have hm := H.m12
    apply Ev.step
    simp only [rf_Brings.l1, stL_len, if_neg (show ¬ (jj : Int) < (o.length : Int) by omega), wrap_succ (i_pos i) (show (i : Int) ≤ 1000000000 by omega)]
    rw [show jj = o.length by omega, stL_next]
    exact ih
  | m + 1, jj, hj => by
    have hl := (H.mats i hi).len
    have hm := H.m12
    have ho := H.o12
    have hrl := hr.len
    have hlt : jj < o.length := by omega
    have ih' := rgram_l1 H hr i hi ih m (jj + 1) (by omega)
    apply Ev.step
    simp only [rf_Brings.l1, stL_len, if_pos (show (jj : Int) < ((rd_T63 mt (i : Int)).f6.length : Int) by omega), if_pos (i_pos jj), if_pos (show (jj : Int) < (o.length : Int) by omega), if_pos (i_pos i), if_pos (show (i : Int) < (r.length : Int) by omega), if_pos (show (i : Int) < (mt.length : Int) by omega), Option.bind_some, Int.toNat_natCast,
      wrap_succ (i_pos jj) (show (jj : Int) ≤ 1000000000 by omega)]
    rw [rd_T27_set _ _ _ (by rw [stL_len]; exact hlt), stL_get _ _ _ _ _ _ hlt, if_neg (Nat.lt_irrefl jj)]
    dsimp only
    rw [gram_new hm hr (con0 H hlt) i hi, gram_new hm hr (con1 H hlt) i hi, stL_set _ _ _ _ _ hlt]
    exact ih'
theorem rgram_l0 (H : BatchOk o mt s p a4 a5 a6) (hr : RecOk mt r) : ∀ (m i : Nat), i + m = mt.length → Ev (fun k => rf_Brings.l0 k r (stL o.length mt r i 0) (i : Int) o mt s p a4 a5 a6) (gramL o.length mt r)
  | 0, i, hi => by
    have hrl := hr.len
    apply Ev.step
    simp only [rf_Brings.l0, if_neg (show ¬ (i : Int) < (r.length : Int) by omega)]
    rw [show i = mt.length by omega]
    exact Ev.const _
  | m + 1, i, hi => by
    have hrl := hr.len
    have ih := rgram_l0 H hr m (i + 1) (by omega)
    apply Ev.step
    simp only [rf_Brings.l0, if_pos (show (i : Int) < (r.length : Int) by omega)]
    exact rgram_l1 H hr i (by omega) ih o.length 0 (by omega)
theorem rbrings (H : BatchOk o mt s p a4 a5 a6) (hr : RecOk mt r) : Ev (fun k => rf_Brings.f k o mt s p a4 a5 a6 r) (gramL o.length mt r) := by
  have ho := H.o12
  unfold rf_Brings.f
  simp only [if_pos (i_pos o.length), Int.toNat_natCast, if_pos (show o.length ≤ 17592186044416 by omega)]
  rw [stL_zero o.length mt r]
  exact rgram_l0 H hr mt.length 0 (by omega)
theorem gramL_len (n : Nat) (mt : List S63) (r : List Int) : (gramL n mt r).length = n := stL_len _ _ _ _ _
theorem gramL_get (n : Nat) (mt : List S63) (r : List Int) (j : Nat) (h : j < n) : rd_T27 (gramL n mt r) (j : Int) = ⟨gS S27.f0 mt r j mt.length, gS S27.f1 mt r j mt.length⟩ := by
  unfold gramL; rw [stL_get _ _ _ _ _ _ h, if_neg (Nat.not_lt_zero _)]
theorem gS_le (H : BatchOk o mt s p a4 a5 a6) (hr : RecOk mt r) {j : Nat} (hj : j < o.length) : ∀ n, n ≤ mt.length → gS S27.f0 mt r j n ≤ gS S27.f1 mt r j n := by
  intro n
  induction n with
  | zero => intro _; simp [gS]
  | succ n ih =>
    intro hn
    have h1 := ih (by omega)
    have h2 := hr.kilos n (by omega)
    have h3 := (H.mats n (by omega)).con j hj
    have h4 := Int.mul_le_mul_of_nonneg_left h3.2.1 h2.1
    simp only [gS]
    omega
theorem gram_bounds (H : BatchOk o mt s p a4 a5 a6) (hr : RecOk mt r) {j : Nat} (hj : j < o.length) :
    0 ≤ (rd_T27 (gramL o.length mt r) (j : Int)).f0 ∧ (rd_T27 (gramL o.length mt r) (j : Int)).f0 ≤ (rd_T27 (gramL o.length mt r) (j : Int)).f1 ∧ (rd_T27 (gramL o.length mt r) (j : Int)).f1 ≤ 120000000 := by
  have hm := H.m12
  have h1 := gS_bound (n := 0) hr (con0 H hj) mt.length (Nat.le_refl _)
  have h2 := gS_bound (n := 0) hr (con1 H hj) mt.length (Nat.le_refl _)
  have h3 := gS_le H hr hj mt.length (Nat.le_refl _)
  rw [gramL_get _ _ _ _ hj]
  dsimp only
  omega
end
end Go.Proofs.Ytkjkokgbhepmoaa.PB

namespace Go.Proofs.Ytkjkokgbhepmoaa.PB
open Go.RowKit Go.Proofs.YtkjkokgbhepmoaaW.PrintWords Go.Proofs.YtkjkokgbhepmoaaW.PrintLast Go.Proofs.YtkjkokgbhepmoaaW.PrintMore
theorem mx_max (a b : Int) : mx a b = max a b := by unfold mx; split <;> omega
theorem sumTo_congr {f g : Nat → Int} : ∀ n, (∀ j, j < n → f j = g j) → sumTo f n = sumTo g n := by
  intro n
  induction n with
  | zero => intro _; rfl
  | succ n ih => intro h; simp only [sumTo]; rw [ih fun j hj => h j (by omega), h n (by omega)]
theorem sumTo_le {f g : Nat → Int} : ∀ n, (∀ j, j < n → f j ≤ g j) → sumTo f n ≤ sumTo g n := by
  intro n
  induction n with
  | zero => intro _; exact Int.le_refl _
  | succ n ih => intro h; have := ih fun j hj => h j (by omega); have := h n (by omega); simp only [sumTo]; omega
theorem sumTo_zero : ∀ n, sumTo (fun _ => 0) n = 0 := by
  intro n
  induction n with
  | zero => rfl
  | succ n ih => simp only [sumTo, ih]; omega
theorem iotaA_at {n j : Nat} (h : j < n) : (iotaA n)[j]! = (j : Int) := by
  rw [getElem!_pos _ j (by rw [iotaA_size]; exact h)]; simp [iotaA]
theorem lsum_sumTo (f : Int → Int) (n : Nat) : MeanMath.lsum f (iotaA n).toList = sumTo (fun j => f (j : Int)) n := by
  have h := sumTo_lsum f (iotaA n) n (by rw [iotaA_size]; exact Nat.le_refl _)
  rw [List.take_of_length_le (by rw [Array.length_toList, iotaA_size]; exact Nat.le_refl _)] at h
  rw [← h]
  exact sumTo_congr n fun j hj => by rw [iotaA_at hj]
structure GOk (l : List S27) : Prop where
  n12 : l.length ≤ 12
  at_ : ∀ j : Nat, j < l.length → 0 ≤ (rd_T27 l (j : Int)).f0 ∧ (rd_T27 l (j : Int)).f0 ≤ (rd_T27 l (j : Int)).f1 ∧ (rd_T27 l (j : Int)).f1 ≤ 120000000
def wS (F : S27 → Int) (l : List S27) (i : Nat) : Int := sumTo (fun j => F (rd_T27 l (j : Int))) i
theorem wS_lsum (l : List S27) : wS S27.f0 l l.length = MeanMath.lsum S27.f0 l := by
  rw [← lsum_iota (fun k => (rd_T27 l k).f0) l (fun _ _ => rfl), lsum_sumTo]
  rfl
theorem wS_bounds {l : List S27} (H : GOk l) : ∀ i, i ≤ l.length → (0 ≤ wS S27.f0 l i ∧ wS S27.f0 l i ≤ 120000000 * i) ∧ (0 ≤ wS S27.f1 l i ∧ wS S27.f1 l i ≤ 120000000 * i) ∧ wS S27.f0 l i ≤ wS S27.f1 l i := by
  intro i
  induction i with
  | zero => intro _; simp [wS, sumTo]
  | succ i ih => intro hi; have h1 := ih (by omega); have h2 := H.at_ i (by omega); simp only [wS, sumTo] at *; omega
theorem bweight_l0 {l : List S27} (H : GOk l) : ∀ (m i : Nat), i + m = l.length → Ev (fun k => batch_weight.l0 k l (l.length : Int) (i : Int) (wS S27.f0 l i) (wS S27.f1 l i)) (wS S27.f0 l l.length, wS S27.f1 l l.length)
  | 0, i, hi => by
    apply Ev.step
    simp only [batch_weight.l0, if_neg (show ¬ (i : Int) < (l.length : Int) by omega)]
    rw [show i = l.length by omega]
    exact Ev.const _
  | m + 1, i, hi => by
    have ih := bweight_l0 H m (i + 1) (by omega)
    have hn := H.n12
    have hb := wS_bounds H i (by omega)
    have hc := H.at_ i (by omega)
    apply Ev.step
    simp only [batch_weight.l0, if_pos (show (i : Int) < (l.length : Int) by omega), if_pos (i_pos i), wrap_succ (i_pos i) (show (i : Int) ≤ 1000000000 by omega)]
    rw [wrap_id (x := wS S27.f0 l i + (rd_T27 l (i : Int)).f0) (by omega) (by omega), wrap_id (x := wS S27.f1 l i + (rd_T27 l (i : Int)).f1) (by omega) (by omega)]
    exact ih
theorem bweight {l : List S27} (H : GOk l) : Ev (fun k => batch_weight.f k l) (wS S27.f0 l l.length, wS S27.f1 l l.length) := bweight_l0 H l.length 0 (by omega)
theorem rsums_l0 {l : List S27} (H : GOk l) : ∀ (m i : Nat), i + m = l.length → Ev (fun k => rf_sums.l0 k l (wS S27.f0 l i) (wS S27.f1 l i) (i : Int)) (wS S27.f0 l l.length, wS S27.f1 l l.length)
  | 0, i, hi => by
    apply Ev.step
    simp only [rf_sums.l0, if_neg (show ¬ (i : Int) < (l.length : Int) by omega)]
    rw [show i = l.length by omega]
    exact Ev.const _
  | m + 1, i, hi => by
    have ih := rsums_l0 H m (i + 1) (by omega)
    have hn := H.n12
    have hb := wS_bounds H i (by omega)
    have hc := H.at_ i (by omega)
    apply Ev.step
    simp only [rf_sums.l0, if_pos (show (i : Int) < (l.length : Int) by omega), if_pos (i_pos i), wrap_succ (i_pos i) (show (i : Int) ≤ 1000000000 by omega)]
    rw [wrap_id (x := wS S27.f0 l i + (rd_T27 l (i : Int)).f0) (by omega) (by omega), wrap_id (x := wS S27.f1 l i + (rd_T27 l (i : Int)).f1) (by omega) (by omega)]
    exact ih
theorem rsums {l : List S27} (H : GOk l) : Ev (fun k => rf_sums.f k l) (wS S27.f0 l l.length, wS S27.f1 l l.length) := rsums_l0 H l.length 0 (by omega)
structure CfOk (cf : Int → Int) (n : Nat) : Prop where
  at_ : ∀ j : Nat, j < n → -10000 ≤ cf (j : Int) ∧ cf (j : Int) ≤ 10000
theorem meanOk_of {cf : Int → Int} {l : List S27} (H : GOk l) (C : CfOk cf l.length) (hp : 0 < wS S27.f0 l l.length) : MeanOk cf l := by
  have key : ∀ k : Int, 0 ≤ k → k < l.length → ∃ j : Nat, j < l.length ∧ k = j := fun k h0 h1 => ⟨k.toNat, by omega, by omega⟩
  refine ⟨H.n12, ?_, ?_, ?_, ?_, ?_, by rw [← wS_lsum]; exact hp⟩ <;> intro k h0 hl <;> obtain ⟨j, hj, rfl⟩ := key k h0 hl <;> have h1 := H.at_ j hj <;> have h2 := C.at_ j hj <;> omega
def bT (cf : Int → Int) (l : List S27) (m : Int) (j : Nat) : Int := max ((m - cf j) * (rd_T27 l (j : Int)).f0) ((m - cf j) * (rd_T27 l (j : Int)).f1)
theorem belowS_sum (cf : Int → Int) (l : List S27) (m : Int) : belowS cf l m = sumTo (bT cf l m) l.length := lsum_sumTo _ _
def aT (cf : Int → Int) (l : List S27) (m : Int) (j : Nat) : Int := max ((cf j - m) * (rd_T27 l (j : Int)).f0) ((cf j - m) * (rd_T27 l (j : Int)).f1)
theorem aboveS_sum (cf : Int → Int) (l : List S27) (m : Int) : aboveS cf l m = sumTo (aT cf l m) l.length := by
  refine (lsum_sumTo _ _).trans (sumTo_congr _ fun j _ => ?_)
  unfold aT loF hiF
  dsimp only
  rw [show -m - -cf (j : Int) = cf (j : Int) - m by omega]
theorem mulb {c x : Int} (h1 : -30000 ≤ c) (h2 : c ≤ 30000) (h3 : 0 ≤ x) (h4 : x ≤ 120000000) : -3600000000000 ≤ c * x ∧ c * x ≤ 3600000000000 := by
  have e1 := Int.mul_le_mul_of_nonneg_right h1 h3
  have e2 := Int.mul_le_mul_of_nonneg_right h2 h3
  omega
theorem bT_bound {cf : Int → Int} {l : List S27} (H : GOk l) (C : CfOk cf l.length) {m : Int} (h1 : -10001 ≤ m) (h2 : m ≤ 10001) : ∀ j, j < l.length → -3600000000000 ≤ bT cf l m j ∧ bT cf l m j ≤ 3600000000000 := by
  intro j hj
  have a1 := H.at_ j hj
  have a2 := C.at_ j hj
  have b1 := mulb (c := m - cf j) (x := (rd_T27 l (j : Int)).f0) (by omega) (by omega) (by omega) (by omega)
  have b2 := mulb (c := m - cf j) (x := (rd_T27 l (j : Int)).f1) (by omega) (by omega) (by omega) (by omega)
  unfold bT
  omega
theorem aT_bound {cf : Int → Int} {l : List S27} (H : GOk l) (C : CfOk cf l.length) {m : Int} (h1 : -10001 ≤ m) (h2 : m ≤ 10001) : ∀ j, j < l.length → -3600000000000 ≤ aT cf l m j ∧ aT cf l m j ≤ 3600000000000 := by
  intro j hj
  have a1 := H.at_ j hj
  have a2 := C.at_ j hj
  have b1 := mulb (c := cf j - m) (x := (rd_T27 l (j : Int)).f0) (by omega) (by omega) (by omega) (by omega)
  have b2 := mulb (c := cf j - m) (x := (rd_T27 l (j : Int)).f1) (by omega) (by omega) (by omega) (by omega)
  unfold aT
  omega
theorem rbelow_l0 {cf : Int → Int} {l : List S27} {c : List Int} (H : GOk l) (C : CfOk cf l.length) (hl : l.length ≤ c.length) (hc : ∀ j : Nat, j < l.length → rd c (j : Int) = cf (j : Int)) {m : Int} (h1 : -10001 ≤ m) (h2 : m ≤ 10001) :
    ∀ (n i : Nat), i + n = l.length → Ev (fun k => rf_below.l0 k c l m (sumTo (bT cf l m) i) (i : Int)) (belowS cf l m)
  | 0, i, hi => by
    apply Ev.step
    simp only [rf_below.l0, if_neg (show ¬ (i : Int) < (l.length : Int) by omega)]
    rw [show i = l.length by omega, belowS_sum]
    exact Ev.const _
  | n + 1, i, hi => by
    have ih := rbelow_l0 H C hl hc h1 h2 n (i + 1) (by omega)
    have hn := H.n12
    have hlt : i < l.length := by omega
    have a1 := H.at_ i hlt
    have a2 := C.at_ i hlt
    have b1 := mulb (c := m - cf i) (x := (rd_T27 l (i : Int)).f0) (by omega) (by omega) (by omega) (by omega)
    have b2 := mulb (c := m - cf i) (x := (rd_T27 l (i : Int)).f1) (by omega) (by omega) (by omega) (by omega)
    have b3 := bT_bound H C h1 h2 i hlt
    have b4 := sumTo_bound (f := bT cf l m) (M := 3600000000000) (n := l.length) (bT_bound H C h1 h2) i (by omega)
    have e : wrap64 (sumTo (bT cf l m) i + mx (wrap64 (wrap64 (m - rd c (i : Int)) * (rd_T27 l (i : Int)).f0)) (wrap64 (wrap64 (m - rd c (i : Int)) * (rd_T27 l (i : Int)).f1))) = sumTo (bT cf l m) (i + 1) := by
      rw [hc i hlt, wrap_id (x := m - cf i) (by omega) (by omega), wrap_id (x := (m - cf i) * (rd_T27 l (i : Int)).f0) (by omega) (by omega), wrap_id (x := (m - cf i) * (rd_T27 l (i : Int)).f1) (by omega) (by omega), mx_max]
      show wrap64 (sumTo (bT cf l m) i + bT cf l m i) = _
      rw [wrap_id (by omega) (by omega)]
      rfl
    apply Ev.step
    simp only [rf_below.l0, if_pos (show (i : Int) < (l.length : Int) by omega), if_pos (i_pos i), if_pos (show (i : Int) < (c.length : Int) by omega), wrap_succ (i_pos i) (show (i : Int) ≤ 1000000000 by omega), e]
    exact ih
theorem rabove_l0 {cf : Int → Int} {l : List S27} {c : List Int} (H : GOk l) (C : CfOk cf l.length) (hl : l.length ≤ c.length) (hc : ∀ j : Nat, j < l.length → rd c (j : Int) = cf (j : Int)) {m : Int} (h1 : -10001 ≤ m) (h2 : m ≤ 10001) :
    ∀ (n i : Nat), i + n = l.length → Ev (fun k => rf_above.l0 k c l m (sumTo (aT cf l m) i) (i : Int)) (aboveS cf l m)
  | 0, i, hi => by
    apply Ev.step
    simp only [rf_above.l0, if_neg (show ¬ (i : Int) < (l.length : Int) by omega)]
    rw [show i = l.length by omega, aboveS_sum]
    exact Ev.const _
  | n + 1, i, hi => by
    have ih := rabove_l0 H C hl hc h1 h2 n (i + 1) (by omega)
    have hn := H.n12
    have hlt : i < l.length := by omega
    have a1 := H.at_ i hlt
    have a2 := C.at_ i hlt
    have b1 := mulb (c := cf i - m) (x := (rd_T27 l (i : Int)).f0) (by omega) (by omega) (by omega) (by omega)
    have b2 := mulb (c := cf i - m) (x := (rd_T27 l (i : Int)).f1) (by omega) (by omega) (by omega) (by omega)
    have b3 := aT_bound H C h1 h2 i hlt
    have b4 := sumTo_bound (f := aT cf l m) (M := 3600000000000) (n := l.length) (aT_bound H C h1 h2) i (by omega)
    have e : wrap64 (sumTo (aT cf l m) i + mx (wrap64 (wrap64 (rd c (i : Int) - m) * (rd_T27 l (i : Int)).f0)) (wrap64 (wrap64 (rd c (i : Int) - m) * (rd_T27 l (i : Int)).f1))) = sumTo (aT cf l m) (i + 1) := by
      rw [hc i hlt, wrap_id (x := cf i - m) (by omega) (by omega), wrap_id (x := (cf i - m) * (rd_T27 l (i : Int)).f0) (by omega) (by omega), wrap_id (x := (cf i - m) * (rd_T27 l (i : Int)).f1) (by omega) (by omega), mx_max]
      show wrap64 (sumTo (aT cf l m) i + aT cf l m i) = _
      rw [wrap_id (by omega) (by omega)]
      rfl
    apply Ev.step
    simp only [rf_above.l0, if_pos (show (i : Int) < (l.length : Int) by omega), if_pos (i_pos i), if_pos (show (i : Int) < (c.length : Int) by omega), wrap_succ (i_pos i) (show (i : Int) ≤ 1000000000 by omega), e]
    exact ih
theorem mean_range {cf : Int → Int} {l : List S27} (H : GOk l) (C : CfOk cf l.length) (hp : 0 < wS S27.f0 l l.length) : (-10000 ≤ meanLo cf l ∧ meanLo cf l ≤ 10000) ∧ (-10000 ≤ meanHi cf l ∧ meanHi cf l ≤ 10000) := by
  have M := meanOk_of H C hp
  have one : ∀ (c x : Int), 1 ≤ c → 0 ≤ x → x ≤ c * x := by
    intro c x h1 h2
    have := Int.mul_le_mul_of_nonneg_right h1 h2
    omega
  have neg : ∀ (c x : Int), c ≤ 0 → 0 ≤ x → c * x ≤ 0 := by
    intro c x h1 h2
    have := Int.mul_le_mul_of_nonneg_right h1 h2
    omega
  refine ⟨⟨?_, ?_⟩, ?_, ?_⟩
  · refine (meanLo_iff M _).1 ?_
    rw [belowS_sum, ← sumTo_zero l.length]
    refine sumTo_le _ fun j hj => ?_
    have a1 := H.at_ j hj
    have a2 := C.at_ j hj
    have b1 := neg (-10000 - cf j) (rd_T27 l (j : Int)).f0 (by omega) (by omega)
    have b2 := neg (-10000 - cf j) (rd_T27 l (j : Int)).f1 (by omega) (by omega)
    unfold bT; omega
  · apply Int.not_lt.1
    intro h
    have h1 := (meanLo_iff M 10001).2 (by omega)
    rw [belowS_sum] at h1
    have h2 : wS S27.f0 l l.length ≤ sumTo (bT cf l 10001) l.length := by
      refine sumTo_le _ fun j hj => ?_
      have a1 := H.at_ j hj
      have a2 := C.at_ j hj
      have b1 := one (10001 - cf j) (rd_T27 l (j : Int)).f0 (by omega) (by omega)
      unfold bT; omega
    omega
  · apply Int.not_lt.1
    intro h
    have h1 := (meanHi_iff M (-10001)).2 (by omega)
    rw [aboveS_sum] at h1
    have h2 : wS S27.f0 l l.length ≤ sumTo (aT cf l (-10001)) l.length := by
      refine sumTo_le _ fun j hj => ?_
      have a1 := H.at_ j hj
      have a2 := C.at_ j hj
      have b1 := one (cf j - -10001) (rd_T27 l (j : Int)).f0 (by omega) (by omega)
      unfold aT; omega
    omega
  · refine (meanHi_iff M _).1 ?_
    rw [aboveS_sum, ← sumTo_zero l.length]
    refine sumTo_le _ fun j hj => ?_
    have a1 := H.at_ j hj
    have a2 := C.at_ j hj
    have b1 := neg (cf j - 10000) (rd_T27 l (j : Int)).f0 (by omega) (by omega)
    have b2 := neg (cf j - 10000) (rd_T27 l (j : Int)).f1 (by omega) (by omega)
    unfold aT; omega
section
variable {cf : Int → Int} {l : List S27} {c : List Int} (H : GOk l) (C : CfOk cf l.length) (hp : 0 < wS S27.f0 l l.length) (hl : l.length ≤ c.length) (hc : ∀ j : Nat, j < l.length → rd c (j : Int) = cf (j : Int))
include H C hp hl hc
theorem rbounds_l1 (lo : Int) : ∀ (m : Nat) (hi : Int), hi = meanHi cf l + m → hi ≤ 10000 → Ev (fun k => rf_bounds.l1 k c l lo hi) (lo, meanHi cf l)
  | m, hi, he, h10 => by
    have M := meanOk_of H C hp
    have R := mean_range H C hp
    apply Ev.step
    by_cases h1 : hi > -10000
    · simp only [rf_bounds.l1, if_pos h1]
      rw [wrap_id (x := hi - 1) (by omega) (by omega)]
      refine Ev.bind (v := aboveS cf l (hi - 1)) (rabove_l0 H C hl hc (by omega) (by omega) l.length 0 (by omega)) ?_
      by_cases h2 : aboveS cf l (hi - 1) ≤ 0
      · simp only [if_pos h2]
        have h3 := (meanHi_iff M _).1 h2
        match m, he with
        | 0, he => omega
        | m + 1, he => exact rbounds_l1 lo m (hi - 1) (by omega) (by omega)
      · simp only [if_neg h2]
        have h3 : ¬ meanHi cf l ≤ hi - 1 := fun h => h2 ((meanHi_iff M _).2 h)
        exact (Ev.const _).cast (by rw [show hi = meanHi cf l by omega])
    · simp only [rf_bounds.l1, if_neg h1]
      exact (Ev.const _).cast (by rw [show hi = meanHi cf l by omega])
theorem rbounds_l0 : ∀ (m : Nat) (lo : Int), lo + m = meanLo cf l → -10000 ≤ lo → Ev (fun k => rf_bounds.l0 k c l lo 10000) (meanLo cf l, meanHi cf l)
  | m, lo, he, h10 => by
    have M := meanOk_of H C hp
    have R := mean_range H C hp
    have hj : lo = meanLo cf l → Ev (fun k => rf_bounds.j1 k c l lo 10000) (meanLo cf l, meanHi cf l) := by
      intro e
      apply Ev.step
      simp only [rf_bounds.j1]
      rw [e]
      exact rbounds_l1 H C hp hl hc (meanLo cf l) (10000 - meanHi cf l).toNat 10000 (by omega) (by omega)
    apply Ev.step
    by_cases h1 : lo < 10000
    · simp only [rf_bounds.l0, if_pos h1]
      rw [wrap_id (x := lo + 1) (by omega) (by omega)]
      refine Ev.bind (v := belowS cf l (lo + 1)) (rbelow_l0 H C hl hc (by omega) (by omega) l.length 0 (by omega)) ?_
      by_cases h2 : belowS cf l (lo + 1) ≤ 0
      · simp only [if_pos h2]
        have h3 := (meanLo_iff M _).1 h2
        match m, he with
        | 0, he => omega
        | m + 1, he => exact rbounds_l0 m (lo + 1) (by omega) (by omega)
      · simp only [if_neg h2]
        have h3 : ¬ lo + 1 ≤ meanLo cf l := fun h => h2 ((meanLo_iff M _).2 h)
        exact hj (by omega)
    · simp only [rf_bounds.l0, if_neg h1]
      exact hj (by omega)
theorem rbounds : Ev (fun k => rf_bounds.f k c l) (meanLo cf l, meanHi cf l) := by
  have R := mean_range H C hp
  exact rbounds_l0 H C hp hl hc (meanLo cf l + 10000).toNat (-10000) (by omega) (by omega)
end
end Go.Proofs.Ytkjkokgbhepmoaa.PB

namespace Go.Proofs.Ytkjkokgbhepmoaa.PB
open Go.RowKit Go.Proofs.YtkjkokgbhepmoaaW.PrintWords Go.Proofs.YtkjkokgbhepmoaaW.PrintLast Go.Proofs.YtkjkokgbhepmoaaW.PrintMore
theorem Ev.of_mono {α : Type} {f : Nat → Option α} {v : α} (hm : ∀ k, LeO (f k) (f (k + 1))) {K : Nat} (h : f K = some v) : Ev f v := by
  refine ⟨K, fun k hk => ?_⟩
  obtain ⟨d, rfl⟩ : ∃ d, k = K + d := ⟨k - K, by omega⟩
  induction d with
  | zero => exact h
  | succ d ih => exact hm (K + d) v (ih (by omega))
theorem unit_ok (j n : Nat) : CfOk (unitC j) n := ⟨fun i _ => by unfold unitC; split <;> omega⟩
theorem rfloor_f (n d : Int) (hd : 0 < d) (hd2 : d ≤ 1000000000000000000) (hn1 : -1000000000000000000 ≤ n) (hn2 : n ≤ 1000000000000000000) : rf_floor.f n d = some (n / d) := by
  have hb := down_f n d hd hn1 hn2
  unfold batch_down.f at hb
  unfold rf_floor.f
  rw [if_neg (by omega)] at hb ⊢
  rw [← hb]
  have e1 := Int.mul_tdiv_add_tmod n d
  have e2 := Int.tmod_lt_of_pos n hd
  have e3 : -d < Int.tmod n d := by
    have h := Int.tmod_lt_of_pos (-n) hd
    rw [Int.neg_tmod] at h
    omega
  have e4 : -1000000000000000000 ≤ Int.tdiv n d ∧ Int.tdiv n d ≤ 1000000000000000000 := by
    have hq : Int.tdiv n d = if 0 ≤ n then n / d else -((-n) / d) := by
      split
      · rename_i h; exact Int.tdiv_eq_ediv_of_nonneg h
      · rename_i h
        have := Int.neg_tdiv (a := -n) (b := d)
        rw [Int.neg_neg] at this
        rw [this, Int.tdiv_eq_ediv_of_nonneg (by omega)]
    rw [hq]
    split
    · rename_i h
      have a1 := Int.ediv_le_self d h
      have a2 := Int.ediv_nonneg h (show 0 ≤ d by omega)
      omega
    · rename_i h
      have a1 := Int.ediv_le_self d (show 0 ≤ -n by omega)
      have a2 := Int.ediv_nonneg (show 0 ≤ -n by omega) (show 0 ≤ d by omega)
      omega
  have e5 : Int.tdiv n d * d = d * Int.tdiv n d := Int.mul_comm ..
  rw [wrap_id (x := Int.tdiv n d) (by omega) (by omega), wrap_id (x := Int.tdiv n d * d) (by omega) (by omega)]
  by_cases h : Int.tmod n d < 0
  · rw [if_pos h, if_pos (by omega)]
  · rw [if_neg h, if_neg (by omega)]
theorem quo_range {n d : Int} (hd : 0 < d) (hn1 : -1000000000000000000 ≤ n) (hn2 : n ≤ 1000000000000000000) : -1000000000000000000 ≤ n / d ∧ n / d ≤ 1000000000000000000 := by
  constructor
  · exact (Int.le_ediv_iff_mul_le hd).2 (by have := Int.mul_le_mul_of_nonpos_left (show (-1000000000000000000 : Int) ≤ 0 by omega) (show (1:Int) ≤ d by omega); omega)
  · by_cases hm : 0 ≤ n
    · exact Int.le_trans (Int.ediv_le_self _ hm) hn2
    · have : n / d < 0 := Int.ediv_neg_of_neg_of_pos (by omega) hd
      omega
theorem rceil_f (n d : Int) (hd : 0 < d) (hd2 : d ≤ 1000000000000000000) (hn1 : -1000000000000000000 ≤ n) (hn2 : n ≤ 1000000000000000000) : rf_ceiling.f n d = some (-((-n) / d)) := by
  have h := quo_range (n := -n) hd (by omega) (by omega)
  unfold rf_ceiling.f
  rw [wrap_id (x := -n) (by omega) (by omega), rfloor_f (-n) d hd hd2 (by omega) (by omega)]
  simp only [Option.bind_some]
  rw [wrap_id (by omega) (by omega)]
section
variable (o : List ByteArray) (mt : List S63) (s : List S27) (p : List S65) (a4 a5 a6 : Int) (r : List Int)
def gramsV : List S27 × Int := if askV o mt s p a4 a5 a6 r = 0 then (gramL o.length mt r, 0) else ([], askV o mt s p a4 a5 a6 r)
theorem bGrams : Ev (fun k => batch_Grams.f k o mt s p a4 a5 a6 r) (gramsV o mt s p a4 a5 a6 r) := by
  unfold batch_Grams.f gramsV
  refine Ev.bind (basked o mt s p a4 a5 a6 r) ?_
  by_cases h : askV o mt s p a4 a5 a6 r = 0
  · simp only [if_pos h]
    obtain ⟨H, hr⟩ := ask_ok h
    exact Ev.bind (bgrams H hr) (Ev.const _)
  · simp only [if_neg h]; exact Ev.const _
theorem rGrams : Ev (fun k => rf_Grams.f k o mt s p a4 a5 a6 r) (gramsV o mt s p a4 a5 a6 r) := by
  unfold rf_Grams.f gramsV
  refine Ev.bind (rasked o mt s p a4 a5 a6 r) ?_
  by_cases h : askV o mt s p a4 a5 a6 r = 0
  · simp only [if_pos h]
    obtain ⟨H, hr⟩ := ask_ok h
    exact Ev.bind (rbrings H hr) (Ev.const _)
  · simp only [if_neg h]; exact Ev.const _
end
section
variable {o : List ByteArray} {mt : List S63} {s : List S27} {p : List S65} {a4 a5 a6 : Int} {r : List Int}
theorem gramL_ok (H : BatchOk o mt s p a4 a5 a6) (hr : RecOk mt r) : GOk (gramL o.length mt r) :=
  ⟨by rw [gramL_len]; exact H.o12, fun j hj => by rw [gramL_len] at hj; exact gram_bounds H hr hj⟩
def lowW (n : Nat) (mt : List S63) (r : List Int) : Int := wS S27.f0 (gramL n mt r) (gramL n mt r).length
def weighV (n : Nat) (mt : List S63) (r : List Int) : List S27 × Int := if lowW n mt r = 0 then ([], 8) else (gramL n mt r, 0)
theorem rweighed (H : BatchOk o mt s p a4 a5 a6) (hr : RecOk mt r) : Ev (fun k => rf_weighed.f k o mt s p a4 a5 a6 r) (weighV o.length mt r) := by
  unfold rf_weighed.f weighV
  refine Ev.bind (rbrings H hr) (Ev.bind (rsums (gramL_ok H hr)) ?_)
  by_cases h : lowW o.length mt r = 0
  · simp only [if_pos h, if_pos (show wS S27.f0 (gramL o.length mt r) (gramL o.length mt r).length = 0 from h)]; exact Ev.const _
  · simp only [if_neg h, if_neg (show ¬ wS S27.f0 (gramL o.length mt r) (gramL o.length mt r).length = 0 from h)]; exact Ev.const _
theorem lowW_pos (H : BatchOk o mt s p a4 a5 a6) (hr : RecOk mt r) (h : ¬ lowW o.length mt r = 0) : 0 < wS S27.f0 (gramL o.length mt r) (gramL o.length mt r).length := by
  have := wS_bounds (gramL_ok H hr) (gramL o.length mt r).length (Nat.le_refl _)
  unfold lowW at h
  omega
end
section
variable (o : List ByteArray) (mt : List S63) (s : List S27) (p : List S65) (a4 a5 a6 : Int) (r : List Int)
def glassV : List S27 × Int := if askV o mt s p a4 a5 a6 r = 0 then weighV o.length mt r else ([], askV o mt s p a4 a5 a6 r)
theorem bglass : Ev (fun k => x_glass.f k o mt s p a4 a5 a6 r) (glassV o mt s p a4 a5 a6 r) := by
  unfold x_glass.f glassV
  refine Ev.bind (bGrams o mt s p a4 a5 a6 r) ?_
  unfold gramsV
  by_cases h : askV o mt s p a4 a5 a6 r = 0
  · obtain ⟨H, hr⟩ := ask_ok h
    simp only [if_pos h, if_true]
    refine Ev.bind (bweight (gramL_ok H hr)) ?_
    unfold weighV
    by_cases h2 : lowW o.length mt r = 0
    · simp only [if_pos h2, if_pos (show wS S27.f0 (gramL o.length mt r) (gramL o.length mt r).length = 0 from h2)]; exact Ev.const _
    · simp only [if_neg h2, if_neg (show ¬ wS S27.f0 (gramL o.length mt r) (gramL o.length mt r).length = 0 from h2)]; exact Ev.const _
  · simp only [if_neg h]; exact Ev.const _
def GlassV : List S27 × Int := if askV o mt s p a4 a5 a6 r = 0 then (if lowW o.length mt r = 0 then ([], 8) else (meansOf (gramL o.length mt r) o.length, 0)) else ([], askV o mt s p a4 a5 a6 r)
theorem bGlass : Ev (fun k => x_Glass.f k o mt s p a4 a5 a6 r) (GlassV o mt s p a4 a5 a6 r) := by
  unfold x_Glass.f GlassV
  refine Ev.bind (bglass o mt s p a4 a5 a6 r) ?_
  unfold glassV
  by_cases h : askV o mt s p a4 a5 a6 r = 0
  · obtain ⟨H, hr⟩ := ask_ok h
    simp only [if_pos h]
    unfold weighV
    by_cases h2 : lowW o.length mt r = 0
    · simp only [if_pos h2, if_neg (show ¬ (8 : Int) = 0 by decide)]; exact Ev.const _
    · simp only [if_neg h2, if_true]
      have ho := H.o12
      have hs := H.slen
      have hp := H.p6
      have hall : (List.range (gramL o.length mt r).length).all (fun j => meanOkB (unitC j) (gramL o.length mt r)) = true := by
        rw [List.all_eq_true]
        intro j _
        exact meanOkB_iff.2 (meanOk_of (gramL_ok H hr) (unit_ok j _) (lowW_pos H hr h2))
      rw [if_pos ⟨by rw [gramL_len]; omega, by omega, hall⟩, gramL_len]
      exact Ev.const _
  · simp only [if_neg h]; exact Ev.const _
end
def formL (n : Nat) (s : List S27) (i : Nat) : List S65 := (List.range i).map fun j : Nat => ⟨(⟨#[]⟩ : ByteArray), (List.replicate n 0).set j 1000, ⟨(rd_T27 s (j : Int)).f0, (rd_T27 s (j : Int)).f1⟩⟩
theorem formL_succ (n : Nat) (s : List S27) (i : Nat) : formL n s (i + 1) = formL n s i ++ [⟨(⟨#[]⟩ : ByteArray), (List.replicate n 0).set i 1000, ⟨(rd_T27 s (i : Int)).f0, (rd_T27 s (i : Int)).f1⟩⟩] := by simp [formL, List.range_succ]
theorem formL_len (n : Nat) (s : List S27) (i : Nat) : (formL n s i).length = i := by simp [formL]
theorem formL_get (n : Nat) (s : List S27) (p : List S65) (j : Nat) (h : j < n) : (rd_T65 (formL n s n ++ p) (j : Int)).f1 = (List.replicate n 0).set j 1000 := by
  simp [rd_T65, List.getD, formL, List.getElem?_append, h]
theorem unit_rd (n i j : Nat) (hj : j < n) : rd ((List.replicate n 0).set i 1000) (j : Int) = unitC i (j : Int) := by
  unfold rd unitC
  by_cases h : i = j
  · subst h; simp [List.getD, hj]
  · have : ¬ ((j : Int) = (i : Int)) := by omega
    simp [List.getD, List.getElem?_set, h, hj, this]
section
variable {o : List ByteArray} {mt : List S63} {s : List S27} {p : List S65} {a4 a5 a6 : Int} {r : List Int}
theorem rforms_l0 (H : BatchOk o mt s p a4 a5 a6) : ∀ (m i : Nat), i + m = o.length → Ev (fun k => rf_Forms.l0 k (formL o.length s i) (i : Int) o mt s p a4 a5 a6) (formL o.length s o.length ++ p)
  | 0, i, hi => by
    have ho := H.o12
    have hp := H.p6
    have hl := formL_len o.length s i
    apply Ev.step
    simp only [rf_Forms.l0, if_neg (show ¬ (i : Int) < (o.length : Int) by omega), if_pos (show (formL o.length s i).length + p.length < 2513169434916 by omega)]
    rw [show i = o.length by omega]
    exact Ev.const _
  | m + 1, i, hi => by
    have ih := rforms_l0 H m (i + 1) (by omega)
    have ho := H.o12
    have hs := H.slen
    have hl := formL_len o.length s i
    apply Ev.step
    simp only [rf_Forms.l0, if_pos (show (i : Int) < (o.length : Int) by omega), if_pos (i_pos o.length), Int.toNat_natCast, if_pos (show o.length ≤ 35184372088832 by omega), Option.bind_some, if_pos (i_pos i), if_pos (show (i : Int) < (s.length : Int) by omega), List.length_replicate,
      if_pos (show (formL o.length s i).length < 2513169434916 by omega), wrap_succ (i_pos i) (show (i : Int) ≤ 1000000000 by omega)]
    rw [formL_succ] at ih
    exact ih
theorem rforms (H : BatchOk o mt s p a4 a5 a6) : Ev (fun k => rf_Forms.f k o mt s p a4 a5 a6) (formL o.length s o.length ++ p) := rforms_l0 H o.length 0 (by omega)
theorem rGlass_l0 (H : BatchOk o mt s p a4 a5 a6) {G : List S27} (hG : GOk G) (hn : G.length = o.length) (hw : 0 < wS S27.f0 G G.length) : ∀ (m i : Nat), i + m = o.length → Ev (fun k => rf_Glass.l0 k G (meansOf G i) (formL o.length s o.length ++ p) (i : Int) o mt s p a4 a5 a6) (meansOf G o.length, 0)
  | 0, i, hi => by
    apply Ev.step
    simp only [rf_Glass.l0, if_neg (show ¬ (i : Int) < (o.length : Int) by omega)]
    rw [show i = o.length by omega]
    exact Ev.const _
  | m + 1, i, hi => by
    have ih := rGlass_l0 H hG hn hw m (i + 1) (by omega)
    have ho := H.o12
    have hl := formL_len o.length s o.length
    have hm := meansOf_len G i
    have hlt : i < o.length := by omega
    apply Ev.step
    simp only [rf_Glass.l0, if_pos (show (i : Int) < (o.length : Int) by omega), if_pos (i_pos i), List.length_append, if_pos (show (i : Int) < (((formL o.length s o.length).length + p.length : Nat) : Int) by omega), formL_get o.length s p i hlt, wrap_succ (i_pos i) (show (i : Int) ≤ 1000000000 by omega),
      if_pos (show (meansOf G i).length < 8796093022208 by omega)]
    refine Ev.bind (rbounds (cf := unitC i) hG (unit_ok i _) hw (by simp; omega) (fun j hj => unit_rd _ _ _ (by omega))) ?_
    rw [meansOf_succ] at ih
    exact ih
end
section
variable (o : List ByteArray) (mt : List S63) (s : List S27) (p : List S65) (a4 a5 a6 : Int) (r : List Int)
theorem rGlass : Ev (fun k => rf_Glass.f k o mt s p a4 a5 a6 r) (GlassV o mt s p a4 a5 a6 r) := by
  unfold rf_Glass.f GlassV
  refine Ev.bind (rasked o mt s p a4 a5 a6 r) ?_
  by_cases h : askV o mt s p a4 a5 a6 r = 0
  · obtain ⟨H, hr⟩ := ask_ok h
    simp only [if_pos h]
    refine Ev.bind (rweighed H hr) ?_
    unfold weighV
    by_cases h2 : lowW o.length mt r = 0
    · simp only [if_pos h2, if_neg (show ¬ (8 : Int) = 0 by decide)]; exact Ev.const _
    · simp only [if_neg h2, if_true]
      exact Ev.bind (rforms H) (rGlass_l0 H (gramL_ok H hr) (gramL_len _ _ _) (lowW_pos H hr h2) o.length 0 (by omega))
  · simp only [if_neg h]; exact Ev.const _
def ValV (n : Int) : Int × Int × Int := if askV o mt s p a4 a5 a6 r = 0 then (if 0 ≤ n ∧ n < (p.length : Int) then (if lowW o.length mt r = 0 then (0, 0, 8) else (meanLo (rd (rd_T65 p n).f1) (gramL o.length mt r), meanHi (rd (rd_T65 p n).f1) (gramL o.length mt r), 0)) else (0, 0, 7)) else (0, 0, askV o mt s p a4 a5 a6 r)
theorem pro_cf {o : List ByteArray} {mt : List S63} {s : List S27} {p : List S65} {a4 a5 a6 : Int} (H : BatchOk o mt s p a4 a5 a6) {n : Int} (hn : 0 ≤ n ∧ n < (p.length : Int)) : CfOk (rd (rd_T65 p n).f1) o.length ∧ (rd_T65 p n).f1.length = o.length := by
  obtain ⟨j, hj, rfl⟩ : ∃ j : Nat, j < p.length ∧ n = j := ⟨n.toNat, by omega, by omega⟩
  have h := H.pros j hj
  exact ⟨⟨h.coef⟩, h.len⟩
theorem bValue (n : Int) : Ev (fun k => x_Value.f k o mt s p a4 a5 a6 r n) (ValV o mt s p a4 a5 a6 r n) := by
  unfold x_Value.f ValV
  refine Ev.bind (basked o mt s p a4 a5 a6 r) ?_
  by_cases h : askV o mt s p a4 a5 a6 r = 0
  · obtain ⟨H, hr⟩ := ask_ok h
    have hp := H.p6
    simp only [if_pos h, within_f, Option.bind_some, Bool.and_eq_true, decide_eq_true_eq]
    rw [wrap_id (x := (p.length : Int) - 1) (by omega) (by omega)]
    by_cases h1 : 0 ≤ n ∧ n < (p.length : Int)
    · obtain ⟨C, hl⟩ := pro_cf H h1
      simp only [if_pos h1, if_pos (show 0 ≤ n ∧ n ≤ (p.length : Int) - 1 by omega)]
      refine Ev.bind (bglass o mt s p a4 a5 a6 r) ?_
      unfold glassV
      rw [if_pos h]
      unfold weighV
      by_cases h2 : lowW o.length mt r = 0
      · simp only [if_pos h2, if_neg (show ¬ (8 : Int) = 0 by decide)]; exact Ev.const _
      · simp only [if_neg h2, if_true]
        have hg := gramL_len o.length mt r
        rw [if_pos ⟨h1.1, h1.2, by omega, meanOkB_iff.2 (meanOk_of (gramL_ok H hr) (by rw [hg]; exact C) (lowW_pos H hr h2))⟩]
        exact Ev.const _
    · simp only [if_neg h1, if_neg (show ¬ (0 ≤ n ∧ n ≤ (p.length : Int) - 1) by omega)]
      exact Ev.const _
  · simp only [if_neg h]; exact Ev.const _
theorem rValue (n : Int) : Ev (fun k => rf_Value.f k o mt s p a4 a5 a6 r n) (ValV o mt s p a4 a5 a6 r n) := by
  unfold rf_Value.f ValV
  refine Ev.bind (rasked o mt s p a4 a5 a6 r) ?_
  by_cases h : askV o mt s p a4 a5 a6 r = 0
  · obtain ⟨H, hr⟩ := ask_ok h
    simp only [if_pos h]
    by_cases h1 : 0 ≤ n ∧ n < (p.length : Int)
    · obtain ⟨C, hl⟩ := pro_cf H h1
      simp only [if_pos h1, if_neg (show ¬ n < 0 by omega), show decide (n ≥ (p.length : Int)) = false by simp; omega]
      apply Ev.step
      simp only [rf_Value.j0, Bool.false_eq_true, if_false]
      refine Ev.bind (rweighed H hr) ?_
      unfold weighV
      by_cases h2 : lowW o.length mt r = 0
      · simp only [if_pos h2, if_neg (show ¬ (8 : Int) = 0 by decide)]; exact Ev.const _
      · have hg := gramL_len o.length mt r
        simp only [if_neg h2, if_true, if_pos h1.1, if_pos h1.2]
        exact Ev.bind (rbounds (gramL_ok H hr) (by rw [hg]; exact C) (lowW_pos H hr h2) (by omega) (fun j hj => rfl)) (Ev.const _)
    · rw [if_neg h1]
      by_cases h3 : n < 0
      · simp only [if_pos h3]
        apply Ev.step
        simp only [rf_Value.j0, if_true]
        exact Ev.const _
      · simp only [if_neg h3, show decide (n ≥ (p.length : Int)) = true by simp; omega]
        apply Ev.step
        simp only [rf_Value.j0, if_true]
        exact Ev.const _
  · simp only [if_neg h]; exact Ev.const _
end
end Go.Proofs.Ytkjkokgbhepmoaa.PB

namespace Go.Proofs.Ytkjkokgbhepmoaa.PB
open Go.RowKit Go.Proofs.YtkjkokgbhepmoaaW.PrintWords Go.Proofs.YtkjkokgbhepmoaaW.PrintLast Go.Proofs.YtkjkokgbhepmoaaW.PrintMore
def rdS (mt : List S63) (r : List Int) : Nat → Int
  | 0 => 0
  | i + 1 => rdS mt r i + rd r (i : Int) * (rd_T63 mt (i : Int)).f2
section
variable {o : List ByteArray} {mt : List S63} {s : List S27} {p : List S65} {a4 a5 a6 : Int} {r : List Int}
theorem red_at (H : BatchOk o mt s p a4 a5 a6) (hr : RecOk mt r) {i : Nat} (hi : i < mt.length) : -10000000 ≤ rd r (i : Int) * (rd_T63 mt (i : Int)).f2 ∧ rd r (i : Int) * (rd_T63 mt (i : Int)).f2 ≤ 10000000 := by
  have h1 := hr.kilos i hi
  have h2 := (H.mats i hi).redox
  have e1 := Int.mul_le_mul_of_nonneg_left h2.2 h1.1
  have e2 := Int.mul_le_mul_of_nonneg_left h2.1 h1.1
  omega
theorem rdS_bound (H : BatchOk o mt s p a4 a5 a6) (hr : RecOk mt r) : ∀ i, i ≤ mt.length → -(10000000 * i) ≤ rdS mt r i ∧ rdS mt r i ≤ 10000000 * i := by
  intro i
  induction i with
  | zero => intro _; simp [rdS]
  | succ i ih => intro hi; have h1 := ih (by omega); have h2 := red_at H hr (i := i) (by omega); simp only [rdS]; omega
def redT (mt : List S63) (r : List Int) (lo hi : Int) : Int × Int × Int := (mn (1000000 * rdS mt r mt.length / lo) (1000000 * rdS mt r mt.length / hi), mx (-(-(1000000 * rdS mt r mt.length) / lo)) (-(-(1000000 * rdS mt r mt.length) / hi)), 0)
theorem bredox_l0 (H : BatchOk o mt s p a4 a5 a6) (hr : RecOk mt r) {G : List S27} (hG : GOk G) (hw : 0 < wS S27.f0 G G.length) : ∀ (m i : Nat), i + m = mt.length → Ev (fun k => batch_Redox.l0 k r G (1000000 * rdS mt r i) mt (mt.length : Int) (i : Int)) (redT mt r (wS S27.f0 G G.length) (wS S27.f1 G G.length))
  | 0, i, hi => by
    have hm := H.m12
    have hb := rdS_bound H hr mt.length (Nat.le_refl _)
    have hwb := wS_bounds hG G.length (Nat.le_refl _)
    apply Ev.step
    simp only [batch_Redox.l0, if_neg (show ¬ (i : Int) < (mt.length : Int) by omega)]
    rw [show i = mt.length by omega]
    refine Ev.bind (bweight hG) ?_
    simp only [down_f (1000000 * rdS mt r mt.length) (wS S27.f0 G G.length) (by omega) (by omega) (by omega), down_f (1000000 * rdS mt r mt.length) (wS S27.f1 G G.length) (by omega) (by omega) (by omega),
      up_f (1000000 * rdS mt r mt.length) (wS S27.f0 G G.length) (by omega) (by omega) (by omega), up_f (1000000 * rdS mt r mt.length) (wS S27.f1 G G.length) (by omega) (by omega) (by omega), Option.bind_some]
    exact Ev.const _
  | m + 1, i, hi => by
    have ih := bredox_l0 H hr hG hw m (i + 1) (by omega)
    have hm := H.m12
    have hrl := hr.len
    have hb := rdS_bound H hr i (by omega)
    have ha := red_at H hr (i := i) (by omega)
    have hk := hr.kilos i (by omega)
    have e : wrap64 (1000000 * rdS mt r i + wrap64 (wrap64 (1000000 * rd r (i : Int)) * (rd_T63 mt (i : Int)).f2)) = 1000000 * rdS mt r (i + 1) := by
      have h0 : 1000000 * rd r (i : Int) * (rd_T63 mt (i : Int)).f2 = 1000000 * (rd r (i : Int) * (rd_T63 mt (i : Int)).f2) := Int.mul_assoc ..
      have h1 : 1000000 * rdS mt r (i + 1) = 1000000 * rdS mt r i + 1000000 * (rd r (i : Int) * (rd_T63 mt (i : Int)).f2) := Int.mul_add ..
      rw [wrap_id (x := 1000000 * rd r (i : Int)) (by omega) (by omega), h0, wrap_id (x := 1000000 * (rd r (i : Int) * (rd_T63 mt (i : Int)).f2)) (by omega) (by omega), wrap_id (by omega) (by omega), h1]
    apply Ev.step
    simp only [batch_Redox.l0, if_pos (show (i : Int) < (mt.length : Int) by omega), if_pos (i_pos i), if_pos (show (i : Int) < (r.length : Int) by omega), wrap_succ (i_pos i) (show (i : Int) ≤ 1000000000 by omega), e]
    exact ih
theorem rredox_l0 (H : BatchOk o mt s p a4 a5 a6) (hr : RecOk mt r) {lo hi : Int} (h1 : 0 < lo) (h2 : lo ≤ hi) (h3 : hi ≤ 2000000000) : ∀ (m i : Nat), i + m = mt.length → Ev (fun k => rf_Redox.l0 k r lo hi (rdS mt r i) (i : Int) o mt s p a4 a5 a6) (redT mt r lo hi)
  | 0, i, hi_ => by
    have hm := H.m12
    have hrl := hr.len
    have hb := rdS_bound H hr mt.length (Nat.le_refl _)
    apply Ev.step
    simp only [rf_Redox.l0, if_neg (show ¬ (i : Int) < (r.length : Int) by omega)]
    rw [show i = mt.length by omega, wrap_id (x := 1000000 * rdS mt r mt.length) (by omega) (by omega)]
    simp only [rfloor_f (1000000 * rdS mt r mt.length) lo (by omega) (by omega) (by omega) (by omega), rfloor_f (1000000 * rdS mt r mt.length) hi (by omega) (by omega) (by omega) (by omega),
      rceil_f (1000000 * rdS mt r mt.length) lo (by omega) (by omega) (by omega) (by omega), rceil_f (1000000 * rdS mt r mt.length) hi (by omega) (by omega) (by omega) (by omega), Option.bind_some]
    exact Ev.const _
  | m + 1, i, hi_ => by
    have ih := rredox_l0 H hr h1 h2 h3 m (i + 1) (by omega)
    have hm := H.m12
    have hrl := hr.len
    have hb := rdS_bound H hr i (by omega)
    have ha := red_at H hr (i := i) (by omega)
    have e : wrap64 (rdS mt r i + wrap64 (rd r (i : Int) * (rd_T63 mt (i : Int)).f2)) = rdS mt r (i + 1) := by
      rw [wrap_id (x := rd r (i : Int) * (rd_T63 mt (i : Int)).f2) (by omega) (by omega), wrap_id (by omega) (by omega)]
      rfl
    apply Ev.step
    simp only [rf_Redox.l0, if_pos (show (i : Int) < (mt.length : Int) by omega), if_pos (i_pos i), if_pos (show (i : Int) < (r.length : Int) by omega), wrap_succ (i_pos i) (show (i : Int) ≤ 1000000000 by omega), e]
    exact ih
end
section
variable (o : List ByteArray) (mt : List S63) (s : List S27) (p : List S65) (a4 a5 a6 : Int) (r : List Int)
def RedV : Int × Int × Int := if askV o mt s p a4 a5 a6 r = 0 then (if lowW o.length mt r = 0 then (0, 0, 8) else redT mt r (wS S27.f0 (gramL o.length mt r) (gramL o.length mt r).length) (wS S27.f1 (gramL o.length mt r) (gramL o.length mt r).length)) else (0, 0, askV o mt s p a4 a5 a6 r)
theorem bRedox : Ev (fun k => batch_Redox.f k o mt s p a4 a5 a6 r) (RedV o mt s p a4 a5 a6 r) := by
  unfold batch_Redox.f RedV
  refine Ev.bind (bglass o mt s p a4 a5 a6 r) ?_
  unfold glassV
  by_cases h : askV o mt s p a4 a5 a6 r = 0
  · obtain ⟨H, hr⟩ := ask_ok h
    simp only [if_pos h]
    unfold weighV
    by_cases h2 : lowW o.length mt r = 0
    · simp only [if_pos h2, if_neg (show ¬ (8 : Int) = 0 by decide)]; exact Ev.const _
    · simp only [if_neg h2, if_true]
      exact bredox_l0 H hr (gramL_ok H hr) (lowW_pos H hr h2) mt.length 0 (by omega)
  · simp only [if_neg h]; exact Ev.const _
theorem rRedox : Ev (fun k => rf_Redox.f k o mt s p a4 a5 a6 r) (RedV o mt s p a4 a5 a6 r) := by
  unfold rf_Redox.f RedV
  refine Ev.bind (rasked o mt s p a4 a5 a6 r) ?_
  by_cases h : askV o mt s p a4 a5 a6 r = 0
  · obtain ⟨H, hr⟩ := ask_ok h
    simp only [if_pos h]
    refine Ev.bind (rweighed H hr) ?_
    unfold weighV
    by_cases h2 : lowW o.length mt r = 0
    · simp only [if_pos h2, if_neg (show ¬ (8 : Int) = 0 by decide)]; exact Ev.const _
    · simp only [if_neg h2, if_true]
      have hp := lowW_pos H hr h2
      have hw := wS_bounds (gramL_ok H hr) (gramL o.length mt r).length (Nat.le_refl _)
      have hn := (gramL_ok H hr).n12
      exact Ev.bind (rsums (gramL_ok H hr)) (rredox_l0 H hr (by omega) (by omega) (by omega) mt.length 0 (by omega))
  · simp only [if_neg h]; exact Ev.const _
end
theorem same_l0 (l : List S27) (hl : l.length ≤ 1000) : ∀ (m i : Nat), i + m = l.length → Ev (fun k => lw_SameSpans.l0 k l l (i : Int)) true
  | 0, i, hi => by
    apply Ev.step
    simp only [lw_SameSpans.l0, if_neg (show ¬ (i : Int) < (l.length : Int) by omega)]
    exact Ev.const _
  | m + 1, i, hi => by
    have ih := same_l0 l hl m (i + 1) (by omega)
    apply Ev.step
    simp only [lw_SameSpans.l0, if_pos (show (i : Int) < (l.length : Int) by omega), if_pos (i_pos i), wrap_succ (i_pos i) (show (i : Int) ≤ 1000000000 by omega), BEq.rfl, Bool.not_true, Bool.or_self, Bool.false_eq_true, if_false]
    exact ih
theorem same_refl (l : List S27) (hl : l.length ≤ 1000) : Ev (fun k => lw_SameSpans.f k l l) true := by
  unfold lw_SameSpans.f
  simp only [if_true]
  exact same_l0 l hl l.length 0 (by omega)
section
variable (o : List ByteArray) (mt : List S63) (s : List S27) (p : List S65) (a4 a5 a6 : Int)
theorem great_l2 (hp : p.length ≤ 20) : ∀ (m i : Nat) (x : Int), i + m = p.length → ∃ b, Ev (fun k => lw_Great.l2 k x (i : Int) o mt s p a4 a5 a6) b
  | 0, i, x, hi => by
    refine ⟨decide (x > 2000), ?_⟩
    apply Ev.step
    simp only [lw_Great.l2, if_neg (show ¬ (i : Int) < (p.length : Int) by omega)]
    exact Ev.const _
  | m + 1, i, x, hi => by
    obtain ⟨b, ih⟩ := great_l2 hp m (i + 1) (wrap64 (x + ((rd_T65 p (i : Int)).f0.size : Int))) (by omega)
    by_cases h : (((rd_T65 p (i : Int)).f1).length : Int) > 20
    · refine ⟨true, ?_⟩
      apply Ev.step
      simp only [lw_Great.l2, if_pos (show (i : Int) < (p.length : Int) by omega), if_pos (i_pos i), if_pos h]
      exact Ev.const _
    · refine ⟨b, ?_⟩
      apply Ev.step
      simp only [lw_Great.l2, if_pos (show (i : Int) < (p.length : Int) by omega), if_pos (i_pos i), if_neg h, wrap_succ (i_pos i) (show (i : Int) ≤ 1000000000 by omega)]
      exact ih
theorem great_l1 (hm : mt.length ≤ 20) (hp : p.length ≤ 20) : ∀ (m i : Nat) (x : Int), i + m = mt.length → ∃ b, Ev (fun k => lw_Great.l1 k x (i : Int) o mt s p a4 a5 a6) b
  | 0, i, x, hi => by
    obtain ⟨b, hb⟩ := great_l2 o mt s p a4 a5 a6 hp p.length 0 x (by omega)
    refine ⟨b, ?_⟩
    apply Ev.step
    simp only [lw_Great.l1, if_neg (show ¬ (i : Int) < (mt.length : Int) by omega)]
    exact hb
  | m + 1, i, x, hi => by
    obtain ⟨b, ih⟩ := great_l1 hm hp m (i + 1) (wrap64 (x + ((rd_T63 mt (i : Int)).f0.size : Int))) (by omega)
    by_cases h : (((rd_T63 mt (i : Int)).f6).length : Int) > 20
    · refine ⟨true, ?_⟩
      apply Ev.step
      simp only [lw_Great.l1, if_pos (show (i : Int) < (mt.length : Int) by omega), if_pos (i_pos i), if_pos h]
      exact Ev.const _
    · refine ⟨b, ?_⟩
      apply Ev.step
      simp only [lw_Great.l1, if_pos (show (i : Int) < (mt.length : Int) by omega), if_pos (i_pos i), if_neg h, wrap_succ (i_pos i) (show (i : Int) ≤ 1000000000 by omega)]
      exact ih
theorem great_l0 (ho : o.length ≤ 20) (hm : mt.length ≤ 20) (hp : p.length ≤ 20) : ∀ (m i : Nat) (x : Int), i + m = o.length → ∃ b, Ev (fun k => lw_Great.l0 k x (i : Int) o mt s p a4 a5 a6) b
  | 0, i, x, hi => by
    obtain ⟨b, hb⟩ := great_l1 o mt s p a4 a5 a6 hm hp mt.length 0 x (by omega)
    refine ⟨b, ?_⟩
    apply Ev.step
    simp only [lw_Great.l0, if_neg (show ¬ (i : Int) < (o.length : Int) by omega)]
    exact hb
  | m + 1, i, x, hi => by
    obtain ⟨b, ih⟩ := great_l0 ho hm hp m (i + 1) (wrap64 (x + ((rdOf ByteArray.empty o (i : Int)).size : Int))) (by omega)
    refine ⟨b, ?_⟩
    apply Ev.step
    simp only [lw_Great.l0, if_pos (show (i : Int) < (o.length : Int) by omega), if_pos (i_pos i), wrap_succ (i_pos i) (show (i : Int) ≤ 1000000000 by omega)]
    exact ih
theorem great : ∃ b, Ev (fun k => lw_Great.f k o mt s p a4 a5 a6) b := by
  have ht : Ev (fun k => lw_Great.j0 k true o mt s p a4 a5 a6) true := by
    apply Ev.step
    simp only [lw_Great.j0, if_true]
    exact Ev.const _
  unfold lw_Great.f
  by_cases h1 : (o.length : Int) > 20
  · simp only [if_pos h1]; exact ⟨_, ht⟩
  by_cases h2 : (mt.length : Int) > 20
  · simp only [if_neg h1, if_pos h2]; exact ⟨_, ht⟩
  by_cases h3 : (s.length : Int) > 20
  · simp only [if_neg h1, if_neg h2, if_pos h3]; exact ⟨_, ht⟩
  simp only [if_neg h1, if_neg h2, if_neg h3]
  by_cases h4 : (p.length : Int) > 20
  · rw [show decide ((p.length : Int) > 20) = true by simpa using h4]; exact ⟨_, ht⟩
  · rw [show decide ((p.length : Int) > 20) = false by simpa using h4]
    obtain ⟨b, hb⟩ := great_l0 o mt s p a4 a5 a6 (by omega) (by omega) (by omega) o.length 0 0 (by omega)
    refine ⟨b, ?_⟩
    apply Ev.step
    simp only [lw_Great.j0, Bool.false_eq_true, if_false]
    exact hb
theorem wide_ev (l0 l1 : List Int) (a2 a3 a4 : Int) (l5 : List Int) : ∃ b, lw_wide.f l0 l1 a2 a3 a4 l5 = some b := by
  unfold lw_wide.f
  split
  · exact ⟨_, rfl⟩
  · split <;> exact ⟨_, rfl⟩
end
theorem lives_ev : Ev (fun k => lw_lives.f k) true := by
  refine Ev.of_mono (f := fun k => lw_lives.f k) (K := 60) (fun k => lw_lives.mono k) ?_
  kernel_rfl
section
variable (o : List ByteArray) (mt : List S63) (s : List S27) (p : List S65) (a4 a5 a6 : Int) (r l1 : List Int) (n b3 b4 : Int) (l5 : List Int)
theorem law_j3 : Ev (fun k => lw_BatchGlasses.j3 k false o mt s p a4 a5 a6 r l1 n b3 b4 l5) true := by
  apply Ev.step
  simp only [lw_BatchGlasses.j3, Bool.false_eq_true, if_false]
  refine Ev.bind (bRedox o mt s p a4 a5 a6 r) (Ev.bind (rRedox o mt s p a4 a5 a6 r) ?_)
  simp only [if_true, BEq.rfl, Bool.and_self]
  exact Ev.bind lives_ev (Ev.const _)
theorem law_j2 : Ev (fun k => lw_BatchGlasses.j2 k false o mt s p a4 a5 a6 r l1 n b3 b4 l5) true := by
  apply Ev.step
  simp only [lw_BatchGlasses.j2, Bool.false_eq_true, if_false]
  refine Ev.bind (bValue o mt s p a4 a5 a6 r n) (Ev.bind (rValue o mt s p a4 a5 a6 r n) ?_)
  simp only [if_true, BEq.rfl, Bool.not_true, Bool.or_self]
  exact law_j3 o mt s p a4 a5 a6 r l1 n b3 b4 l5
theorem GlassV_len : (GlassV o mt s p a4 a5 a6 r).1.length ≤ 1000 := by
  unfold GlassV
  by_cases h : askV o mt s p a4 a5 a6 r = 0
  · obtain ⟨H, hr⟩ := ask_ok h
    have := H.o12
    rw [if_pos h]
    split
    · simp
    · simp only [meansOf_len]; omega
  · rw [if_neg h]; simp
theorem gramsV_len : (gramsV o mt s p a4 a5 a6 r).1.length ≤ 1000 := by
  unfold gramsV
  by_cases h : askV o mt s p a4 a5 a6 r = 0
  · obtain ⟨H, hr⟩ := ask_ok h
    have := H.o12
    rw [if_pos h]
    simp only [gramL_len]; omega
  · rw [if_neg h]; simp
theorem law_j1 : Ev (fun k => lw_BatchGlasses.j1 k false o mt s p a4 a5 a6 r l1 n b3 b4 l5) true := by
  apply Ev.step
  simp only [lw_BatchGlasses.j1, Bool.false_eq_true, if_false]
  refine Ev.bind (bGlass o mt s p a4 a5 a6 r) (Ev.bind (rGlass o mt s p a4 a5 a6 r) ?_)
  simp only [if_true]
  refine Ev.bind (same_refl _ (GlassV_len o mt s p a4 a5 a6 r)) ?_
  exact law_j2 o mt s p a4 a5 a6 r l1 n b3 b4 l5
theorem law_j0 (b : Bool) : Ev (fun k => lw_BatchGlasses.j0 k b o mt s p a4 a5 a6 r l1 n b3 b4 l5) true := by
  apply Ev.step
  cases b with
  | true =>
    simp only [lw_BatchGlasses.j0, if_true]
    exact Ev.bind lives_ev (Ev.const _)
  | false =>
    simp only [lw_BatchGlasses.j0, Bool.false_eq_true, if_false]
    refine Ev.bind (bGrams o mt s p a4 a5 a6 r) (Ev.bind (rGrams o mt s p a4 a5 a6 r) ?_)
    simp only [if_true]
    refine Ev.bind (same_refl _ (gramsV_len o mt s p a4 a5 a6 r)) ?_
    exact law_j1 o mt s p a4 a5 a6 r l1 n b3 b4 l5
theorem BatchGlasses_true : ∃ k, lw_BatchGlasses.f k o mt s p a4 a5 a6 r l1 n b3 b4 l5 = some true := by
  obtain ⟨b, hb⟩ := great o mt s p a4 a5 a6
  obtain ⟨w, hw⟩ := wide_ev r l1 n b3 b4 l5
  have h : Ev (fun k => lw_BatchGlasses.f k o mt s p a4 a5 a6 r l1 n b3 b4 l5) true := by
    unfold lw_BatchGlasses.f
    refine Ev.bind hb ?_
    cases b with
    | true => simp only [if_true]; exact law_j0 o mt s p a4 a5 a6 r l1 n b3 b4 l5 true
    | false =>
      simp only [Bool.false_eq_true, if_false, hw, Option.bind_some]
      exact law_j0 o mt s p a4 a5 a6 r l1 n b3 b4 l5 w
  obtain ⟨K, hK⟩ := h
  exact ⟨K, hK K (Nat.le_refl _)⟩
end
end Go.Proofs.Ytkjkokgbhepmoaa.PB

