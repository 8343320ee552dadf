import Derived.Test.YtkjkokgbhepmoaaL3
import Derived.KernelRfl
import Derived.Shelf.Abstract
import Derived.Laws.EntriesVeiled
set_option linter.unusedVariables false
set_option linter.unusedSimpArgs false
namespace Go.Proofs.Ytkjkokgbhepmoaa.PB
open Go.RowKit Go.Proofs.YtkjkokgbhepmoaaW.PrintWords Go.Proofs.YtkjkokgbhepmoaaW.PrintLast Go.Proofs.YtkjkokgbhepmoaaW.PrintMore
def proC (n : Nat) (x : S65) : Int := if x.f1.length = n then (if x.f1.any (outside (-10000) 10000) = true then 1 else if -10000 ≤ x.f2.f0 ∧ x.f2.f0 ≤ x.f2.f1 ∧ x.f2.f1 ≤ 10000 then 0 else 1) else 1
def proE (p : List S65) (n : Nat) : Nat → Nat → Int
  | 0, _ => 0
  | m + 1, i => if nameOk (rd_T65 p (i : Int)).f0 = true then (if ((p.take i).any fun x => x.f0.toList == (rd_T65 p (i : Int)).f0.toList) = true then 6 else (if proC n (rd_T65 p (i : Int)) = 0 then proE p n m (i + 1) else proC n (rd_T65 p (i : Int)))) else 5
def matE (mt : List S63) (n : Nat) : Nat → Nat → Int
  | 0, _ => 0
  | m + 1, i => if nameOk (rd_T63 mt (i : Int)).f0 = true then (if ((mt.take i).any fun x => x.f0.toList == (rd_T63 mt (i : Int)).f0.toList) = true then 6 else (if matC n (rd_T63 mt (i : Int)) = 0 then matE mt n m (i + 1) else matC n (rd_T63 mt (i : Int)))) else 5
section
variable (o : List ByteArray) (mt : List S63) (s : List S27) (p : List S65) (a4 a5 a6 : Int)
theorem bpro (x : S65) : Ev (fun _ => batch_checkProperty.f o mt s p a4 a5 a6 x.f0 x.f1 x.f2.f0 x.f2.f1) (proC o.length x) := by
  unfold batch_checkProperty.f proC
  by_cases h : x.f1.length = o.length
  · simp only [if_pos h, if_pos (show (x.f1.length : Int) = (o.length : Int) by omega), x_coefs.f, Option.bind_some, span_f, Bool.and_eq_true, decide_eq_true_eq]
    by_cases h' : x.f1.any (outside (-10000) 10000) = true
    · simp only [if_pos h']; exact Ev.const _
    · simp only [if_neg h']
      by_cases h2 : -10000 ≤ x.f2.f0 ∧ x.f2.f0 ≤ x.f2.f1 ∧ x.f2.f1 ≤ 10000
      · rw [if_pos (by omega), if_pos h2]; exact Ev.const _
      · rw [if_neg (by omega), if_neg h2]; exact Ev.const _
  · simp only [if_neg h, if_neg (show ¬ (x.f1.length : Int) = (o.length : Int) by omega)]; exact Ev.const _
theorem bmats_l0 (ho : o.length ≤ 12) (hm : mt.length ≤ 12) : ∀ (m i : Nat), i + m = mt.length → Ev (fun k => batch_checkMaterials.l0 k mt (mt.length : Int) (i : Int) o mt s p a4 a5 a6) (matE mt o.length m i)
  | 0, i, hi => by
    apply Ev.step
    simp only [batch_checkMaterials.l0, if_neg (show ¬ (i : Int) < (mt.length : Int) by omega)]
    exact Ev.const _
  | m + 1, i, hi => by
    have ih := bmats_l0 ho hm m (i + 1) (by omega)
    apply Ev.step
    simp only [batch_checkMaterials.l0, if_pos (show (i : Int) < (mt.length : Int) by omega), if_pos (i_pos i), wrap_succ (i_pos i) (show (i : Int) ≤ 1000000000 by omega), x_twiceM.f, Int.toNat_natCast, Option.bind_some]
    refine Ev.bind (bname _) ?_
    unfold matE
    by_cases h : nameOk (rd_T63 mt (i : Int)).f0 = true
    · simp only [if_pos h]
      by_cases h' : ((mt.take i).any fun x => x.f0.toList == (rd_T63 mt (i : Int)).f0.toList) = true
      · simp only [if_pos h']; exact Ev.const _
      · simp only [if_neg h']
        refine Ev.bind (bmat o mt s p a4 a5 a6 ho _) ?_
        by_cases h2 : matC o.length (rd_T63 mt (i : Int)) = 0
        · simp only [if_pos h2]; exact ih
        · simp only [if_neg h2]; exact Ev.const _
    · simp only [if_neg h]; exact Ev.const _
theorem bmats (ho : o.length ≤ 12) : Ev (fun k => batch_checkMaterials.f k o mt s p a4 a5 a6) (if mt.length > 12 then 3 else if mt.length = 0 then 1 else matE mt o.length mt.length 0) := by
  unfold batch_checkMaterials.f
  by_cases h : mt.length > 12
  · simp only [if_pos h, if_pos (show (mt.length : Int) > 12 by omega)]; exact Ev.const _
  · by_cases h' : mt.length = 0
    · simp only [if_neg h, if_neg (show ¬ (mt.length : Int) > 12 by omega), if_pos h', if_pos (show (mt.length : Int) = 0 by omega)]; exact Ev.const _
    · simp only [if_neg h, if_neg (show ¬ (mt.length : Int) > 12 by omega), if_neg h', if_neg (show ¬ (mt.length : Int) = 0 by omega)]
      exact bmats_l0 o mt s p a4 a5 a6 ho (by omega) mt.length 0 (by omega)
theorem bpros_l0 (hp : p.length ≤ 6) (R : Int) (hR : Ev (fun _ => (batch_span.f a4 a5 (-10000) 10000).bind fun t147 => (if t147 = true then ((batch_within.f a6 1 10000).bind fun t148 => (if t148 = true then (some 0) else (some 1))) else (some 1))) R) :
    ∀ (m i : Nat), i + m = p.length → Ev (fun k => batch_Check.l0 k p (p.length : Int) (i : Int) o mt s p a4 a5 a6) (if proE p o.length m i = 0 then R else proE p o.length m i)
  | 0, i, hi => by
    apply Ev.step
    simp only [batch_Check.l0, if_neg (show ¬ (i : Int) < (p.length : Int) by omega)]
    exact hR.cast (by simp [proE])
  | m + 1, i, hi => by
    have ih := bpros_l0 hp R hR m (i + 1) (by omega)
    apply Ev.step
    simp only [batch_Check.l0, if_pos (show (i : Int) < (p.length : Int) by omega), if_pos (i_pos i), wrap_succ (i_pos i) (show (i : Int) ≤ 1000000000 by omega), x_twiceP.f, Int.toNat_natCast, Option.bind_some]
    refine Ev.bind (bname _) ?_
    unfold proE
    by_cases h : nameOk (rd_T65 p (i : Int)).f0 = true
    · simp only [if_pos h]
      by_cases h' : ((p.take i).any fun x => x.f0.toList == (rd_T65 p (i : Int)).f0.toList) = true
      · simp only [if_pos h']; exact (Ev.const _).cast (by simp)
      · simp only [if_neg h']
        refine Ev.bind (bpro o mt s p a4 a5 a6 _) ?_
        by_cases h2 : proC o.length (rd_T65 p (i : Int)) = 0
        · simp only [if_pos h2]; exact ih
        · simp only [if_neg h2]; exact Ev.const _
    · simp only [if_neg h]; exact (Ev.const _).cast (by simp)
end
end Go.Proofs.Ytkjkokgbhepmoaa.PB

namespace Go.Proofs.Ytkjkokgbhepmoaa.PB
open Go.RowKit Go.Proofs.YtkjkokgbhepmoaaW.PrintWords Go.Proofs.YtkjkokgbhepmoaaW.PrintLast Go.Proofs.YtkjkokgbhepmoaaW.PrintMore
section
variable (o : List ByteArray) (mt : List S63) (s : List S27) (p : List S65) (a4 a5 a6 : Int)
def endV : Int := if -10000 ≤ a4 ∧ a4 ≤ a5 ∧ a5 ≤ 10000 then (if 1 ≤ a6 ∧ a6 ≤ 10000 then 0 else 1) else 1
def proV : Int := if p.length > 6 then 3 else if proE p o.length p.length 0 = 0 then endV a4 a5 a6 else proE p o.length p.length 0
def shaV : Int := if s.length = o.length then (if s.any badSpan = true then 1 else proV o p a4 a5 a6) else 1
def matV : Int := if mt.length > 12 then 3 else if mt.length = 0 then 1 else if matE mt o.length mt.length 0 = 0 then shaV o s p a4 a5 a6 else matE mt o.length mt.length 0
def checkV : Int := if o.length > 12 then 3 else if o.length = 0 then 1 else if oxE o o.length 0 = 0 then matV o mt s p a4 a5 a6 else oxE o o.length 0
theorem bend : Ev (fun _ => (batch_span.f a4 a5 (-10000) 10000).bind fun t147 => (if t147 = true then ((batch_within.f a6 1 10000).bind fun t148 => (if t148 = true then (some 0) else (some 1))) else (some 1))) (endV a4 a5 a6) := by
  simp only [span_f, within_f, Option.bind_some, Bool.and_eq_true, decide_eq_true_eq]
  unfold endV
  by_cases h2 : -10000 ≤ a4 ∧ a4 ≤ a5 ∧ a5 ≤ 10000
  · have h2' : (-10000 ≤ a4 ∧ a4 ≤ a5) ∧ a5 ≤ 10000 := by omega
    simp only [if_pos h2', if_pos h2]
    by_cases h3 : 1 ≤ a6 ∧ a6 ≤ 10000
    · simp only [if_pos h3]; exact Ev.const _
    · simp only [if_neg h3]; exact Ev.const _
  · have h2' : ¬ ((-10000 ≤ a4 ∧ a4 ≤ a5) ∧ a5 ≤ 10000) := by omega
    simp only [if_neg h2', if_neg h2]; exact Ev.const _
theorem bj0 (b : Bool) : Ev (fun k => batch_Check.j0 k b o mt s p a4 a5 a6) (if b = true then 1 else proV o p a4 a5 a6) := by
  apply Ev.step
  simp only [batch_Check.j0]
  cases b with
  | true => simp only [if_true]; exact Ev.const _
  | false =>
    simp only [Bool.false_eq_true, if_false]
    unfold proV
    by_cases h : p.length > 6
    · simp only [if_pos h, if_pos (show (p.length : Int) > 6 by omega)]; exact Ev.const _
    · simp only [if_neg h, if_neg (show ¬ (p.length : Int) > 6 by omega)]
      exact bpros_l0 o mt s p a4 a5 a6 (by omega) _ (bend a4 a5 a6) p.length 0 (by omega)
theorem bcheck : Ev (fun k => batch_Check.f k o mt s p a4 a5 a6) (checkV o mt s p a4 a5 a6) := by
  unfold batch_Check.f
  refine Ev.bind (box_f o mt s p a4 a5 a6) ?_
  unfold checkV
  by_cases h : o.length > 12
  · simp only [if_pos h]; exact Ev.const _
  · by_cases h' : o.length = 0
    · simp only [if_neg h, if_pos h']; exact Ev.const _
    · simp only [if_neg h, if_neg h']
      by_cases h2 : oxE o o.length 0 = 0
      · simp only [if_pos h2]
        refine Ev.bind (bmats o mt s p a4 a5 a6 (by omega)) ?_
        unfold matV
        by_cases h3 : mt.length > 12
        · simp only [if_pos h3]; exact Ev.const _
        · by_cases h4 : mt.length = 0
          · simp only [if_neg h3, if_pos h4]; exact Ev.const _
          · simp only [if_neg h3, if_neg h4]
            by_cases h5 : matE mt o.length mt.length 0 = 0
            · simp only [if_pos h5]
              unfold shaV
              by_cases h6 : s.length = o.length
              · simp only [if_pos h6, if_pos (show (s.length : Int) = (o.length : Int) by omega), x_spans.f, Option.bind_some]
                exact bj0 o mt s p a4 a5 a6 _
              · simp only [if_neg h6, if_neg (show ¬ (s.length : Int) = (o.length : Int) by omega)]
                exact (bj0 o mt s p a4 a5 a6 true).cast (by simp)
            · simp only [if_neg h5]; exact Ev.const _
      · simp only [if_neg h2]; exact Ev.const _
end
theorem conE_ok (l : List S27) : ∀ (m i : Nat) (acc : Int), i + m = l.length → conE l m i acc = 0 → ∀ j : Nat, i ≤ j → j < l.length → badSpan (rd_T27 l (j : Int)) = false
  | 0, i, acc, hi, h, j, h1, h2 => by omega
  | m + 1, i, acc, hi, h, j, h1, h2 => by
    unfold conE at h
    by_cases hb : badSpan (rd_T27 l (i : Int)) = true
    · rw [if_pos hb] at h; omega
    · rw [if_neg hb] at h
      by_cases hj : j = i
      · subst hj; simpa using hb
      · exact conE_ok l m (i + 1) _ (by omega) h j (by omega) h2
structure MatOk (n : Nat) (x : S63) : Prop where
  price : 0 ≤ x.f1 ∧ x.f1 ≤ 10000
  redox : -1000 ≤ x.f2 ∧ x.f2 ≤ 1000
  least : 0 ≤ x.f3 ∧ x.f3 ≤ 10000
  most : x.f3 ≤ x.f4 ∧ x.f4 ≤ 10000
  step : 1 ≤ x.f5 ∧ x.f5 ≤ 10000
  len : x.f6.length = n
  con : ∀ j : Nat, j < n → 0 ≤ (rd_T27 x.f6 (j : Int)).f0 ∧ (rd_T27 x.f6 (j : Int)).f0 ≤ (rd_T27 x.f6 (j : Int)).f1 ∧ (rd_T27 x.f6 (j : Int)).f1 ≤ 1000
theorem matC_ok {n : Nat} {x : S63} (h : matC n x = 0) : MatOk n x := by
  unfold matC at h
  by_cases hc : (0 ≤ x.f1 ∧ x.f1 ≤ 10000) ∧ (-1000 ≤ x.f2 ∧ x.f2 ≤ 1000) ∧ (0 ≤ x.f3 ∧ x.f3 ≤ 10000) ∧ (x.f3 ≤ x.f4 ∧ x.f4 ≤ 10000) ∧ (1 ≤ x.f5 ∧ x.f5 ≤ 10000) ∧ x.f6.length = n
  · rw [if_pos hc] at h
    obtain ⟨h1, h2, h3, h4, h5, h6⟩ := hc
    exact ⟨h1, h2, h3, h4, h5, h6, fun j hj => bad_false (conE_ok x.f6 _ 0 0 (by omega) h j (by omega) (by omega))⟩
  · rw [if_neg hc] at h; omega
theorem matE_ok (mt : List S63) (n : Nat) : ∀ (m i : Nat), matE mt n m i = 0 → ∀ j : Nat, i ≤ j → j < i + m → MatOk n (rd_T63 mt (j : Int))
  | 0, i, h, j, h1, h2 => by omega
  | m + 1, i, h, j, h1, h2 => by
    unfold matE at h
    by_cases ha : nameOk (rd_T63 mt (i : Int)).f0 = true
    · rw [if_pos ha] at h
      by_cases hb : ((mt.take i).any fun x => x.f0.toList == (rd_T63 mt (i : Int)).f0.toList) = true
      · rw [if_pos hb] at h; omega
      · rw [if_neg hb] at h
        by_cases hc : matC n (rd_T63 mt (i : Int)) = 0
        · rw [if_pos hc] at h
          by_cases hj : j = i
          · subst hj; exact matC_ok hc
          · exact matE_ok mt n m (i + 1) h j (by omega) (by omega)
        · rw [if_neg hc] at h; exact absurd h hc
    · rw [if_neg ha] at h; omega
structure ProOk (n : Nat) (x : S65) : Prop where
  len : x.f1.length = n
  coef : ∀ j : Nat, j < n → -10000 ≤ rd x.f1 (j : Int) ∧ rd x.f1 (j : Int) ≤ 10000
  target : -10000 ≤ x.f2.f0 ∧ x.f2.f0 ≤ x.f2.f1 ∧ x.f2.f1 ≤ 10000
theorem proC_ok {n : Nat} {x : S65} (h : proC n x = 0) : ProOk n x := by
  unfold proC at h
  by_cases h1 : x.f1.length = n
  · rw [if_pos h1] at h
    by_cases h2 : x.f1.any (outside (-10000) 10000) = true
    · rw [if_pos h2] at h; omega
    · rw [if_neg h2] at h
      by_cases h3 : -10000 ≤ x.f2.f0 ∧ x.f2.f0 ≤ x.f2.f1 ∧ x.f2.f1 ≤ 10000
      · refine ⟨h1, fun j hj => ?_, h3⟩
        have hm : rd x.f1 (j : Int) ∈ x.f1 := by
          have hlt : j < x.f1.length := by omega
          have : rd x.f1 (j : Int) = x.f1[j] := by simp [rd, hlt]
          rw [this]; exact List.getElem_mem hlt
        have hn : outside (-10000) 10000 (rd x.f1 (j : Int)) = false := by
          cases ho : outside (-10000) 10000 (rd x.f1 (j : Int)) with
          | false => rfl
          | true => exact absurd (List.any_eq_true.mpr ⟨_, hm, ho⟩) h2
        simp [outside] at hn; omega
      · rw [if_neg h3] at h; omega
  · rw [if_neg h1] at h; omega
theorem proE_ok (p : List S65) (n : Nat) : ∀ (m i : Nat), proE p n m i = 0 → ∀ j : Nat, i ≤ j → j < i + m → ProOk n (rd_T65 p (j : Int))
  | 0, i, h, j, h1, h2 => by omega
  | m + 1, i, h, j, h1, h2 => by
    unfold proE at h
    by_cases ha : nameOk (rd_T65 p (i : Int)).f0 = true
    · rw [if_pos ha] at h
      by_cases hb : ((p.take i).any fun x => x.f0.toList == (rd_T65 p (i : Int)).f0.toList) = true
      · rw [if_pos hb] at h; omega
      · rw [if_neg hb] at h
        by_cases hc : proC n (rd_T65 p (i : Int)) = 0
        · rw [if_pos hc] at h
          by_cases hj : j = i
          · subst hj; exact proC_ok hc
          · exact proE_ok p n m (i + 1) h j (by omega) (by omega)
        · rw [if_neg hc] at h; exact absurd h hc
    · rw [if_neg ha] at h; omega
structure BatchOk (o : List ByteArray) (mt : List S63) (s : List S27) (p : List S65) (a4 a5 a6 : Int) : Prop where
  o12 : o.length ≤ 12
  o1 : o.length ≠ 0
  m12 : mt.length ≤ 12
  m1 : mt.length ≠ 0
  mats : ∀ j : Nat, j < mt.length → MatOk o.length (rd_T63 mt (j : Int))
  slen : s.length = o.length
  shares : ∀ j : Nat, j < s.length → 0 ≤ (rd_T27 s (j : Int)).f0 ∧ (rd_T27 s (j : Int)).f0 ≤ (rd_T27 s (j : Int)).f1 ∧ (rd_T27 s (j : Int)).f1 ≤ 1000
  p6 : p.length ≤ 6
  pros : ∀ j : Nat, j < p.length → ProOk o.length (rd_T65 p (j : Int))
  redox : -10000 ≤ a4 ∧ a4 ≤ a5 ∧ a5 ≤ 10000
  wanted : 1 ≤ a6 ∧ a6 ≤ 10000
theorem check_ok {o : List ByteArray} {mt : List S63} {s : List S27} {p : List S65} {a4 a5 a6 : Int} (h : checkV o mt s p a4 a5 a6 = 0) : BatchOk o mt s p a4 a5 a6 := by
  unfold checkV at h
  by_cases h1 : o.length > 12
  · rw [if_pos h1] at h; omega
  rw [if_neg h1] at h
  by_cases h2 : o.length = 0
  · rw [if_pos h2] at h; omega
  rw [if_neg h2] at h
  by_cases h3 : oxE o o.length 0 = 0
  rotate_left
  · rw [if_neg h3] at h; exact absurd h h3
  rw [if_pos h3] at h
  unfold matV at h
  by_cases h4 : mt.length > 12
  · rw [if_pos h4] at h; omega
  rw [if_neg h4] at h
  by_cases h5 : mt.length = 0
  · rw [if_pos h5] at h; omega
  rw [if_neg h5] at h
  by_cases h6 : matE mt o.length mt.length 0 = 0
  rotate_left
  · rw [if_neg h6] at h; exact absurd h h6
  rw [if_pos h6] at h
  unfold shaV at h
  by_cases h7 : s.length = o.length
  rotate_left
  · rw [if_neg h7] at h; omega
  rw [if_pos h7] at h
  by_cases h8 : s.any badSpan = true
  · rw [if_pos h8] at h; omega
  rw [if_neg h8] at h
  unfold proV at h
  by_cases h9 : p.length > 6
  · rw [if_pos h9] at h; omega
  rw [if_neg h9] at h
  by_cases h10 : proE p o.length p.length 0 = 0
  rotate_left
  · rw [if_neg h10] at h; exact absurd h h10
  rw [if_pos h10] at h
  unfold endV at h
  by_cases h11 : -10000 ≤ a4 ∧ a4 ≤ a5 ∧ a5 ≤ 10000
  rotate_left
  · rw [if_neg h11] at h; omega
  rw [if_pos h11] at h
  by_cases h12 : 1 ≤ a6 ∧ a6 ≤ 10000
  rotate_left
  · rw [if_neg h12] at h; omega
  refine ⟨by omega, h2, by omega, h5, fun j hj => matE_ok mt _ _ 0 h6 j (by omega) (by omega), h7, fun j hj => ?_, by omega, fun j hj => proE_ok p _ _ 0 h10 j (by omega) (by omega), h11, h12⟩
  have hlt : j < s.length := hj
  have hr : rd_T27 s (j : Int) = s[j] := by simp [rd_T27, hlt]
  rw [hr]
  apply bad_false
  cases hb : badSpan s[j] with
  | false => rfl
  | true => exact absurd (List.any_eq_true.mpr ⟨_, List.getElem_mem hlt, hb⟩) h8
end Go.Proofs.Ytkjkokgbhepmoaa.PB

namespace Go.Proofs.Ytkjkokgbhepmoaa.PB
open Go.RowKit Go.Proofs.YtkjkokgbhepmoaaW.PrintWords Go.Proofs.YtkjkokgbhepmoaaW.PrintLast Go.Proofs.YtkjkokgbhepmoaaW.PrintMore
def recV (mt : List S63) (r : List Int) : Int := if r.length = mt.length then (if r.any (outside 0 10000) = true then 1 else 0) else 1
section
variable (o : List ByteArray) (mt : List S63) (s : List S27) (p : List S65) (a4 a5 a6 : Int) (r : List Int)
def askV : Int := if checkV o mt s p a4 a5 a6 = 0 then recV mt r else checkV o mt s p a4 a5 a6
theorem basked : Ev (fun k => batch_asked.f k o mt s p a4 a5 a6 r) (askV o mt s p a4 a5 a6 r) := by
  unfold batch_asked.f askV
  refine Ev.bind (bcheck o mt s p a4 a5 a6) ?_
  by_cases h : checkV o mt s p a4 a5 a6 = 0
  · simp only [if_pos h, batch_checkRecipe.f, x_kilos.f, Option.bind_some]
    unfold recV
    by_cases h1 : r.length = mt.length
    · simp only [if_pos h1, if_pos (show (r.length : Int) = (mt.length : Int) by omega)]
      by_cases h2 : r.any (outside 0 10000) = true
      · simp only [if_pos h2, Option.bind_some]; exact Ev.const _
      · simp only [if_neg h2, Option.bind_some]; exact Ev.const _
    · simp only [if_neg h1, if_neg (show ¬ (r.length : Int) = (mt.length : Int) by omega), Option.bind_some]; exact Ev.const _
  · simp only [if_neg h]; exact Ev.const _
end
structure RecOk (mt : List S63) (r : List Int) : Prop where
  len : r.length = mt.length
  kilos : ∀ j : Nat, j < mt.length → 0 ≤ rd r (j : Int) ∧ rd r (j : Int) ≤ 10000
theorem ask_ok {o : List ByteArray} {mt : List S63} {s : List S27} {p : List S65} {a4 a5 a6 : Int} {r : List Int} (h : askV o mt s p a4 a5 a6 r = 0) : BatchOk o mt s p a4 a5 a6 ∧ RecOk mt r := by
  unfold askV at h
  by_cases h1 : checkV o mt s p a4 a5 a6 = 0
  · rw [if_pos h1] at h
    refine ⟨check_ok h1, ?_⟩
    unfold recV at h
    by_cases h2 : r.length = mt.length
    · rw [if_pos h2] at h
      by_cases h3 : r.any (outside 0 10000) = true
      · rw [if_pos h3] at h; omega
      · refine ⟨h2, fun j hj => ?_⟩
        have hm : rd r (j : Int) ∈ r := by
          have hlt : j < r.length := by omega
          have : rd r (j : Int) = r[j] := by simp [rd, hlt]
          rw [this]; exact List.getElem_mem hlt
        have hn : outside 0 10000 (rd r (j : Int)) = false := by
          cases ho : outside 0 10000 (rd r (j : Int)) with
          | false => rfl
          | true => exact absurd (List.any_eq_true.mpr ⟨_, hm, ho⟩) h3
        simp [outside] at hn; omega
    · rw [if_neg h2] at h; omega
  · rw [if_neg h1] at h; exact absurd h h1
def gS (F : S27 → Int) (mt : List S63) (r : List Int) (j : Nat) : Nat → Int
  | 0 => 0
  | n + 1 => gS F mt r j n + rd r (n : Int) * F (rd_T27 (rd_T63 mt (n : Int)).f6 (j : Int))
def stL (n : Nat) (mt : List S63) (r : List Int) (i jj : Nat) : List S27 := (List.range n).map fun j => if j < jj then ⟨gS S27.f0 mt r j (i + 1), gS S27.f1 mt r j (i + 1)⟩ else ⟨gS S27.f0 mt r j i, gS S27.f1 mt r j i⟩
theorem stL_len (n : Nat) (mt : List S63) (r : List Int) (i jj : Nat) : (stL n mt r i jj).length = n := by simp [stL]
theorem stL_get (n : Nat) (mt : List S63) (r : List Int) (i jj j : Nat) (h : j < n) : rd_T27 (stL n mt r i jj) (j : Int) = if j < jj then ⟨gS S27.f0 mt r j (i + 1), gS S27.f1 mt r j (i + 1)⟩ else ⟨gS S27.f0 mt r j i, gS S27.f1 mt r j i⟩ := by
  simp [rd_T27, stL, List.getD, h]
theorem stL_zero (n : Nat) (mt : List S63) (r : List Int) : List.replicate n z27 = stL n mt r 0 0 := by
  apply List.ext_getElem
  · simp [stL]
  · intro i h1 h2; simp [stL, gS, z27]
theorem stL_next (n : Nat) (mt : List S63) (r : List Int) (i : Nat) : stL n mt r i n = stL n mt r (i + 1) 0 := by
  apply List.ext_getElem
  · simp [stL]
  · intro j h1 h2
    have hj : j < n := by simpa [stL] using h1
    simp [stL, hj]
theorem stL_set (n : Nat) (mt : List S63) (r : List Int) (i jj : Nat) (h : jj < n) (x : S27) : ((stL n mt r i jj).set jj x).set jj ⟨gS S27.f0 mt r jj (i + 1), gS S27.f1 mt r jj (i + 1)⟩ = stL n mt r i (jj + 1) := by
  rw [List.set_set]
  apply List.ext_getElem
  · simp [stL]
  · intro j h1 h2
    have hj : j < n := by simpa [stL] using h1
    rw [List.getElem_set]
    by_cases hc : jj = j
    · subst hc; simp [stL]
    · have : j < jj ↔ j < jj + 1 := by omega
      simp [stL, hc, this]
theorem rd_T27_set (l : List S27) (j : Nat) (x : S27) (h : j < l.length) : rd_T27 (l.set j x) (j : Int) = x := by simp [rd_T27, List.getD, h]
theorem mul_bound {a b : Int} (h0 : 0 ≤ a) (h1 : a ≤ 10000) (h2 : 0 ≤ b) (h3 : b ≤ 1000) : 0 ≤ a * b ∧ a * b ≤ 10000000 := by
  have e1 := Int.mul_nonneg h0 h2
  have e2 := Int.mul_le_mul_of_nonneg_right h1 h2
  omega
theorem gS_bound {F : S27 → Int} {mt : List S63} {r : List Int} {n j : Nat} (hr : RecOk mt r) (hF : ∀ i : Nat, i < mt.length → 0 ≤ F (rd_T27 (rd_T63 mt (i : Int)).f6 (j : Int)) ∧ F (rd_T27 (rd_T63 mt (i : Int)).f6 (j : Int)) ≤ 1000) :
    ∀ n, n ≤ mt.length → 0 ≤ gS F mt r j n ∧ gS F mt r j n ≤ 10000000 * n := by
  intro n
  induction n with
  | zero => intro _; simp [gS]
  | succ n ih =>
    intro hn
    have h1 := ih (by omega)
    have h2 := hr.kilos n (by omega)
    have h3 := hF n (by omega)
    have h4 := mul_bound h2.1 h2.2 h3.1 h3.2
    simp only [gS]
    omega
section
variable {o : List ByteArray} {mt : List S63} {s : List S27} {p : List S65} {a4 a5 a6 : Int} {r : List Int}
theorem gram_new {F : S27 → Int} (hb : mt.length ≤ 12) (hr : RecOk mt r) {j : Nat} (hF : ∀ i : Nat, i < mt.length → 0 ≤ F (rd_T27 (rd_T63 mt (i : Int)).f6 (j : Int)) ∧ F (rd_T27 (rd_T63 mt (i : Int)).f6 (j : Int)) ≤ 1000) (i : Nat) (hi : i < mt.length) :
    wrap64 (gS F mt r j i + wrap64 (rd r (i : Int) * F (rd_T27 (rd_T63 mt (i : Int)).f6 (j : Int)))) = gS F mt r j (i + 1) := by
  have h1 := gS_bound (n := 0) hr hF i (by omega)
  have h2 := hr.kilos i hi
  have h3 := hF i hi
  have h4 := mul_bound h2.1 h2.2 h3.1 h3.2
  rw [wrap_id (x := rd r (i : Int) * F (rd_T27 (rd_T63 mt (i : Int)).f6 (j : Int))) (by omega) (by omega), wrap_id (by omega) (by omega)]
  rfl
theorem con0 (H : BatchOk o mt s p a4 a5 a6) {j : Nat} (hj : j < o.length) : ∀ i : Nat, i < mt.length → 0 ≤ S27.f0 (rd_T27 (rd_T63 mt (i : Int)).f6 (j : Int)) ∧ S27.f0 (rd_T27 (rd_T63 mt (i : Int)).f6 (j : Int)) ≤ 1000 := by
  intro i hi
  have := (H.mats i hi).con j hj
  omega
theorem con1 (H : BatchOk o mt s p a4 a5 a6) {j : Nat} (hj : j < o.length) : ∀ i : Nat, i < mt.length → 0 ≤ S27.f1 (rd_T27 (rd_T63 mt (i : Int)).f6 (j : Int)) ∧ S27.f1 (rd_T27 (rd_T63 mt (i : Int)).f6 (j : Int)) ≤ 1000 := by
  intro i hi
  have := (H.mats i hi).con j hj
  omega
def gramL (n : Nat) (mt : List S63) (r : List Int) : List S27 := stL n mt r mt.length 0
theorem bgram_l1 (H : BatchOk o mt s p a4 a5 a6) (hr : RecOk mt r) (i : Nat) (hi : i < mt.length) (ih : Ev (fun k => batch_grams.l0 k r (stL o.length mt r (i + 1) 0) mt (mt.length : Int) ((i + 1 : Nat) : Int)) (gramL o.length mt r)) :
    ∀ (m jj : Nat), jj + m = o.length → Ev (fun k => batch_grams.l1 k r (stL o.length mt r i jj) (i : Int) mt (mt.length : Int) (i : Int) (rd_T63 mt (i : Int)).f6 ((rd_T63 mt (i : Int)).f6.length : Int) (jj : Int)) (gramL o.length mt r)
  | 0, jj, hj => by
    have hl := (H.mats i hi).len
    have hm := H.m12
    apply Ev.step
    simp only [batch_grams.l1, if_neg (show ¬ (jj : Int) < ((rd_T63 mt (i : Int)).f6.length : Int) by omega), wrap_succ (i_pos i) (show (i : Int) ≤ 1000000000 by omega)]
    rw [show jj = o.length by omega, stL_next]
    exact ih
  | m + 1, jj, hj => by
    have hl := (H.mats i hi).len
    have hm := H.m12
    have ho := H.o12
    have hrl := hr.len
    have hlt : jj < o.length := by omega
    have ih' := bgram_l1 H hr i hi ih m (jj + 1) (by omega)
    apply Ev.step
    simp only [batch_grams.l1, if_pos (show (jj : Int) < ((rd_T63 mt (i : Int)).f6.length : Int) by omega), if_pos (i_pos jj), stL_len, if_pos (show (jj : Int) < (o.length : Int) by omega), if_pos (i_pos i), if_pos (show (i : Int) < (r.length : Int) by omega), Option.bind_some, Int.toNat_natCast,
      wrap_succ (i_pos jj) (show (jj : Int) ≤ 1000000000 by omega)]
    rw [rd_T27_set _ _ _ (by rw [stL_len]; exact hlt), stL_get _ _ _ _ _ _ hlt, if_neg (Nat.lt_irrefl jj)]
    dsimp only
    rw [gram_new hm hr (con0 H hlt) i hi, gram_new hm hr (con1 H hlt) i hi, stL_set _ _ _ _ _ hlt]
    exact ih'
theorem bgram_l0 (H : BatchOk o mt s p a4 a5 a6) (hr : RecOk mt r) : ∀ (m i : Nat), i + m = mt.length → Ev (fun k => batch_grams.l0 k r (stL o.length mt r i 0) mt (mt.length : Int) (i : Int)) (gramL o.length mt r)
  | 0, i, hi => by
    apply Ev.step
    simp only [batch_grams.l0, if_neg (show ¬ (i : Int) < (mt.length : Int) by omega)]
    rw [show i = mt.length by omega]
    exact Ev.const _
  | m + 1, i, hi => by
    have ih := bgram_l0 H hr m (i + 1) (by omega)
    apply Ev.step
    simp only [batch_grams.l0, if_pos (show (i : Int) < (mt.length : Int) by omega), if_pos (i_pos i)]
    exact bgram_l1 H hr i (by omega) ih o.length 0 (by omega)
theorem bgrams (H : BatchOk o mt s p a4 a5 a6) (hr : RecOk mt r) : Ev (fun k => batch_grams.f k o mt s p a4 a5 a6 r) (gramL o.length mt r) := by
  have ho := H.o12
  unfold batch_grams.f
  simp only [if_pos (i_pos o.length), Int.toNat_natCast, if_pos (show o.length ≤ 17592186044416 by omega)]
  rw [stL_zero o.length mt r]
  exact bgram_l0 H hr mt.length 0 (by omega)
theorem rgram_l1 (H : BatchOk o mt s p a4 a5 a6) (hr : RecOk mt r) (i : Nat) (hi : i < mt.length) (ih : Ev (fun k => rf_Brings.l0 k r (stL o.length mt r (i + 1) 0) ((i + 1 : Nat) : Int) o mt s p a4 a5 a6) (gramL o.length mt r)) :
    ∀ (m jj : Nat), jj + m = o.length → Ev (fun k => rf_Brings.l1 k r (stL o.length mt r i jj) (i : Int) (jj : Int) o mt s p a4 a5 a6) (gramL o.length mt r)
  | 0, jj, hj => by
    have hl := (H.mats i hi).len
    have hm := H.m12
    apply Ev.step
    simp only [rf_Brings.l1, stL_len, if_neg (show ¬ (jj : Int) < (o.length : Int) by omega), wrap_succ (i_pos i) (show (i : Int) ≤ 1000000000 by omega)]
    rw [show jj = o.length by omega, stL_next]
    exact ih
  | m + 1, jj, hj => by
    have hl := (H.mats i hi).len
    have hm := H.m12
    have ho := H.o12
    have hrl := hr.len
    have hlt : jj < o.length := by omega
    have ih' := rgram_l1 H hr i hi ih m (jj + 1) (by omega)
    apply Ev.step
    simp only [rf_Brings.l1, stL_len, if_pos (show (jj : Int) < ((rd_T63 mt (i : Int)).f6.length : Int) by omega), if_pos (i_pos jj), if_pos (show (jj : Int) < (o.length : Int) by omega), if_pos (i_pos i), if_pos (show (i : Int) < (r.length : Int) by omega), if_pos (show (i : Int) < (mt.length : Int) by omega), Option.bind_some, Int.toNat_natCast,
      wrap_succ (i_pos jj) (show (jj : Int) ≤ 1000000000 by omega)]
    rw [rd_T27_set _ _ _ (by rw [stL_len]; exact hlt), stL_get _ _ _ _ _ _ hlt, if_neg (Nat.lt_irrefl jj)]
    dsimp only
    rw [gram_new hm hr (con0 H hlt) i hi, gram_new hm hr (con1 H hlt) i hi, stL_set _ _ _ _ _ hlt]
    exact ih'
theorem rgram_l0 (H : BatchOk o mt s p a4 a5 a6) (hr : RecOk mt r) : ∀ (m i : Nat), i + m = mt.length → Ev (fun k => rf_Brings.l0 k r (stL o.length mt r i 0) (i : Int) o mt s p a4 a5 a6) (gramL o.length mt r)
  | 0, i, hi => by
    have hrl := hr.len
    apply Ev.step
    simp only [rf_Brings.l0, if_neg (show ¬ (i : Int) < (r.length : Int) by omega)]
    rw [show i = mt.length by omega]
    exact Ev.const _
  | m + 1, i, hi => by
    have hrl := hr.len
    have ih := rgram_l0 H hr m (i + 1) (by omega)
    apply Ev.step
    simp only [rf_Brings.l0, if_pos (show (i : Int) < (r.length : Int) by omega)]
    exact rgram_l1 H hr i (by omega) ih o.length 0 (by omega)
theorem rbrings (H : BatchOk o mt s p a4 a5 a6) (hr : RecOk mt r) : Ev (fun k => rf_Brings.f k o mt s p a4 a5 a6 r) (gramL o.length mt r) := by
  have ho := H.o12
  unfold rf_Brings.f
  simp only [if_pos (i_pos o.length), Int.toNat_natCast, if_pos (show o.length ≤ 17592186044416 by omega)]
  rw [stL_zero o.length mt r]
  exact rgram_l0 H hr mt.length 0 (by omega)
theorem gramL_len (n : Nat) (mt : List S63) (r : List Int) : (gramL n mt r).length = n := stL_len _ _ _ _ _
theorem gramL_get (n : Nat) (mt : List S63) (r : List Int) (j : Nat) (h : j < n) : rd_T27 (gramL n mt r) (j : Int) = ⟨gS S27.f0 mt r j mt.length, gS S27.f1 mt r j mt.length⟩ := by
  unfold gramL; rw [stL_get _ _ _ _ _ _ h, if_neg (Nat.not_lt_zero _)]
theorem gS_le (H : BatchOk o mt s p a4 a5 a6) (hr : RecOk mt r) {j : Nat} (hj : j < o.length) : ∀ n, n ≤ mt.length → gS S27.f0 mt r j n ≤ gS S27.f1 mt r j n := by
  intro n
  induction n with
  | zero => intro _; simp [gS]
  | succ n ih =>
    intro hn
    have h1 := ih (by omega)
    have h2 := hr.kilos n (by omega)
    have h3 := (H.mats n (by omega)).con j hj
    have h4 := Int.mul_le_mul_of_nonneg_left h3.2.1 h2.1
    simp only [gS]
    omega
theorem gram_bounds (H : BatchOk o mt s p a4 a5 a6) (hr : RecOk mt r) {j : Nat} (hj : j < o.length) :
    0 ≤ (rd_T27 (gramL o.length mt r) (j : Int)).f0 ∧ (rd_T27 (gramL o.length mt r) (j : Int)).f0 ≤ (rd_T27 (gramL o.length mt r) (j : Int)).f1 ∧ (rd_T27 (gramL o.length mt r) (j : Int)).f1 ≤ 120000000 := by
  have hm := H.m12
  have h1 := gS_bound (n := 0) hr (con0 H hj) mt.length (Nat.le_refl _)
  have h2 := gS_bound (n := 0) hr (con1 H hj) mt.length (Nat.le_refl _)
  have h3 := gS_le H hr hj mt.length (Nat.le_refl _)
  rw [gramL_get _ _ _ _ hj]
  dsimp only
  omega
end
end Go.Proofs.Ytkjkokgbhepmoaa.PB

namespace Go.Proofs.Ytkjkokgbhepmoaa.PB
open Go.RowKit Go.Proofs.YtkjkokgbhepmoaaW.PrintWords Go.Proofs.YtkjkokgbhepmoaaW.PrintLast Go.Proofs.YtkjkokgbhepmoaaW.PrintMore
theorem mx_max (a b : Int) : mx a b = max a b := by unfold mx; split <;> omega
theorem sumTo_congr {f g : Nat → Int} : ∀ n, (∀ j, j < n → f j = g j) → sumTo f n = sumTo g n := by
  intro n
  induction n with
  | zero => intro _; rfl
  | succ n ih => intro h; simp only [sumTo]; rw [ih fun j hj => h j (by omega), h n (by omega)]
theorem sumTo_zero : ∀ n, sumTo (fun _ => 0) n = 0 := by
  intro n
  induction n with
  | zero => rfl
  | succ n ih => simp only [sumTo, ih]; omega
theorem iotaA_at {n j : Nat} (h : j < n) : (iotaA n)[j]! = (j : Int) := by
  rw [getElem!_pos _ j (by rw [iotaA_size]; exact h)]; simp [iotaA]
theorem lsum_sumTo (f : Int → Int) (n : Nat) : MeanMath.lsum f (iotaA n).toList = sumTo (fun j => f (j : Int)) n := by
  have h := sumTo_lsum f (iotaA n) n (by rw [iotaA_size]; exact Nat.le_refl _)
  rw [List.take_of_length_le (by rw [Array.length_toList, iotaA_size]; exact Nat.le_refl _)] at h
  rw [← h]
  exact sumTo_congr n fun j hj => by rw [iotaA_at hj]
structure GOk (l : List S27) : Prop where
  n12 : l.length ≤ 12
  at_ : ∀ j : Nat, j < l.length → 0 ≤ (rd_T27 l (j : Int)).f0 ∧ (rd_T27 l (j : Int)).f0 ≤ (rd_T27 l (j : Int)).f1 ∧ (rd_T27 l (j : Int)).f1 ≤ 120000000
def wS (F : S27 → Int) (l : List S27) (i : Nat) : Int := sumTo (fun j => F (rd_T27 l (j : Int))) i
theorem wS_lsum (l : List S27) : wS S27.f0 l l.length = MeanMath.lsum S27.f0 l := by
  rw [← lsum_iota (fun k => (rd_T27 l k).f0) l (fun _ _ => rfl), lsum_sumTo]
  rfl
theorem wS_bounds {l : List S27} (H : GOk l) : ∀ i, i ≤ l.length → (0 ≤ wS S27.f0 l i ∧ wS S27.f0 l i ≤ 120000000 * i) ∧ (0 ≤ wS S27.f1 l i ∧ wS S27.f1 l i ≤ 120000000 * i) ∧ wS S27.f0 l i ≤ wS S27.f1 l i := by
  intro i
  induction i with
  | zero => intro _; simp [wS, sumTo]
  | succ i ih => intro hi; have h1 := ih (by omega); have h2 := H.at_ i (by omega); simp only [wS, sumTo] at *; omega
theorem bweight_l0 {l : List S27} (H : GOk l) : ∀ (m i : Nat), i + m = l.length → Ev (fun k => batch_weight.l0 k l (l.length : Int) (i : Int) (wS S27.f0 l i) (wS S27.f1 l i)) (wS S27.f0 l l.length, wS S27.f1 l l.length)
  | 0, i, hi => by
    apply Ev.step
    simp only [batch_weight.l0, if_neg (show ¬ (i : Int) < (l.length : Int) by omega)]
    rw [show i = l.length by omega]
    exact Ev.const _
  | m + 1, i, hi => by
    have ih := bweight_l0 H m (i + 1) (by omega)
    have hn := H.n12
    have hb := wS_bounds H i (by omega)
    have hc := H.at_ i (by omega)
    apply Ev.step
    simp only [batch_weight.l0, if_pos (show (i : Int) < (l.length : Int) by omega), if_pos (i_pos i), wrap_succ (i_pos i) (show (i : Int) ≤ 1000000000 by omega)]
    rw [wrap_id (x := wS S27.f0 l i + (rd_T27 l (i : Int)).f0) (by omega) (by omega), wrap_id (x := wS S27.f1 l i + (rd_T27 l (i : Int)).f1) (by omega) (by omega)]
    exact ih
theorem bweight {l : List S27} (H : GOk l) : Ev (fun k => batch_weight.f k l) (wS S27.f0 l l.length, wS S27.f1 l l.length) := bweight_l0 H l.length 0 (by omega)
structure CfOk (cf : Int → Int) (n : Nat) : Prop where
  at_ : ∀ j : Nat, j < n → -10000 ≤ cf (j : Int) ∧ cf (j : Int) ≤ 10000
theorem meanOk_of {cf : Int → Int} {l : List S27} (H : GOk l) (C : CfOk cf l.length) (hp : 0 < wS S27.f0 l l.length) : MeanOk cf l := by
  have key : ∀ k : Int, 0 ≤ k → k < l.length → ∃ j : Nat, j < l.length ∧ k = j := fun k h0 h1 => ⟨k.toNat, by omega, by omega⟩
  refine ⟨H.n12, ?_, ?_, ?_, ?_, ?_, by rw [← wS_lsum]; exact hp⟩ <;> intro k h0 hl <;> obtain ⟨j, hj, rfl⟩ := key k h0 hl <;> have h1 := H.at_ j hj <;> have h2 := C.at_ j hj <;> omega
def bT (cf : Int → Int) (l : List S27) (m : Int) (j : Nat) : Int := max ((m - cf j) * (rd_T27 l (j : Int)).f0) ((m - cf j) * (rd_T27 l (j : Int)).f1)
theorem belowS_sum (cf : Int → Int) (l : List S27) (m : Int) : belowS cf l m = sumTo (bT cf l m) l.length := lsum_sumTo _ _
def aT (cf : Int → Int) (l : List S27) (m : Int) (j : Nat) : Int := max ((cf j - m) * (rd_T27 l (j : Int)).f0) ((cf j - m) * (rd_T27 l (j : Int)).f1)
theorem aboveS_sum (cf : Int → Int) (l : List S27) (m : Int) : aboveS cf l m = sumTo (aT cf l m) l.length := by
  refine (lsum_sumTo _ _).trans (sumTo_congr _ fun j _ => ?_)
  unfold aT loF hiF
  dsimp only
  rw [show -m - -cf (j : Int) = cf (j : Int) - m by omega]
theorem mulb {c x : Int} (h1 : -30000 ≤ c) (h2 : c ≤ 30000) (h3 : 0 ≤ x) (h4 : x ≤ 120000000) : -3600000000000 ≤ c * x ∧ c * x ≤ 3600000000000 := by
  have e1 := Int.mul_le_mul_of_nonneg_right h1 h3
  have e2 := Int.mul_le_mul_of_nonneg_right h2 h3
  omega
section
variable {cf : Int → Int} {l : List S27} {c : List Int} (H : GOk l) (C : CfOk cf l.length) (hp : 0 < wS S27.f0 l l.length) (hl : l.length ≤ c.length) (hc : ∀ j : Nat, j < l.length → rd c (j : Int) = cf (j : Int))
include H C hp hl hc
end
end Go.Proofs.Ytkjkokgbhepmoaa.PB

namespace Go.Proofs.Ytkjkokgbhepmoaa.PB
open Go.RowKit Go.Proofs.YtkjkokgbhepmoaaW.PrintWords Go.Proofs.YtkjkokgbhepmoaaW.PrintLast Go.Proofs.YtkjkokgbhepmoaaW.PrintMore
theorem Ev.of_mono {α : Type} {f : Nat → Option α} {v : α} (hm : ∀ k, LeO (f k) (f (k + 1))) {K : Nat} (h : f K = some v) : Ev f v := by
  refine ⟨K, fun k hk => ?_⟩
  obtain ⟨d, rfl⟩ : ∃ d, k = K + d := ⟨k - K, by omega⟩
  induction d with
  | zero => exact h
  | succ d ih => exact hm (K + d) v (ih (by omega))
theorem unit_ok (j n : Nat) : CfOk (unitC j) n := ⟨fun i _ => by unfold unitC; split <;> omega⟩
section
variable (o : List ByteArray) (mt : List S63) (s : List S27) (p : List S65) (a4 a5 a6 : Int) (r : List Int)
def gramsV : List S27 × Int := if askV o mt s p a4 a5 a6 r = 0 then (gramL o.length mt r, 0) else ([], askV o mt s p a4 a5 a6 r)
theorem bGrams : Ev (fun k => batch_Grams.f k o mt s p a4 a5 a6 r) (gramsV o mt s p a4 a5 a6 r) := by
  unfold batch_Grams.f gramsV
  refine Ev.bind (basked o mt s p a4 a5 a6 r) ?_
  by_cases h : askV o mt s p a4 a5 a6 r = 0
  · simp only [if_pos h]
    obtain ⟨H, hr⟩ := ask_ok h
    exact Ev.bind (bgrams H hr) (Ev.const _)
  · simp only [if_neg h]; exact Ev.const _
end
section
variable {o : List ByteArray} {mt : List S63} {s : List S27} {p : List S65} {a4 a5 a6 : Int} {r : List Int}
theorem gramL_ok (H : BatchOk o mt s p a4 a5 a6) (hr : RecOk mt r) : GOk (gramL o.length mt r) :=
  ⟨by rw [gramL_len]; exact H.o12, fun j hj => by rw [gramL_len] at hj; exact gram_bounds H hr hj⟩
def lowW (n : Nat) (mt : List S63) (r : List Int) : Int := wS S27.f0 (gramL n mt r) (gramL n mt r).length
def weighV (n : Nat) (mt : List S63) (r : List Int) : List S27 × Int := if lowW n mt r = 0 then ([], 8) else (gramL n mt r, 0)
theorem lowW_pos (H : BatchOk o mt s p a4 a5 a6) (hr : RecOk mt r) (h : ¬ lowW o.length mt r = 0) : 0 < wS S27.f0 (gramL o.length mt r) (gramL o.length mt r).length := by
  have := wS_bounds (gramL_ok H hr) (gramL o.length mt r).length (Nat.le_refl _)
  unfold lowW at h
  omega
end
section
variable (o : List ByteArray) (mt : List S63) (s : List S27) (p : List S65) (a4 a5 a6 : Int) (r : List Int)
def glassV : List S27 × Int := if askV o mt s p a4 a5 a6 r = 0 then weighV o.length mt r else ([], askV o mt s p a4 a5 a6 r)
theorem bglass : Ev (fun k => x_glass.f k o mt s p a4 a5 a6 r) (glassV o mt s p a4 a5 a6 r) := by
  unfold x_glass.f glassV
  refine Ev.bind (bGrams o mt s p a4 a5 a6 r) ?_
  unfold gramsV
  by_cases h : askV o mt s p a4 a5 a6 r = 0
  · obtain ⟨H, hr⟩ := ask_ok h
    simp only [if_pos h, if_true]
    refine Ev.bind (bweight (gramL_ok H hr)) ?_
    unfold weighV
    by_cases h2 : lowW o.length mt r = 0
    · simp only [if_pos h2, if_pos (show wS S27.f0 (gramL o.length mt r) (gramL o.length mt r).length = 0 from h2)]; exact Ev.const _
    · simp only [if_neg h2, if_neg (show ¬ wS S27.f0 (gramL o.length mt r) (gramL o.length mt r).length = 0 from h2)]; exact Ev.const _
  · simp only [if_neg h]; exact Ev.const _
def GlassV : List S27 × Int := if askV o mt s p a4 a5 a6 r = 0 then (if lowW o.length mt r = 0 then ([], 8) else (meansOf (gramL o.length mt r) o.length, 0)) else ([], askV o mt s p a4 a5 a6 r)
theorem bGlass : Ev (fun k => x_Glass.f k o mt s p a4 a5 a6 r) (GlassV o mt s p a4 a5 a6 r) := by
  unfold x_Glass.f GlassV
  refine Ev.bind (bglass o mt s p a4 a5 a6 r) ?_
  unfold glassV
  by_cases h : askV o mt s p a4 a5 a6 r = 0
  · obtain ⟨H, hr⟩ := ask_ok h
    simp only [if_pos h]
    unfold weighV
    by_cases h2 : lowW o.length mt r = 0
    · simp only [if_pos h2, if_neg (show ¬ (8 : Int) = 0 by decide)]; exact Ev.const _
    · simp only [if_neg h2, if_true]
      have ho := H.o12
      have hs := H.slen
      have hp := H.p6
      have hall : (List.range (gramL o.length mt r).length).all (fun j => meanOkB (unitC j) (gramL o.length mt r)) = true := by
        rw [List.all_eq_true]
        intro j _
        exact meanOkB_iff.2 (meanOk_of (gramL_ok H hr) (unit_ok j _) (lowW_pos H hr h2))
      rw [if_pos ⟨by rw [gramL_len]; omega, by omega, hall⟩, gramL_len]
      exact Ev.const _
  · simp only [if_neg h]; exact Ev.const _
end
section
variable {o : List ByteArray} {mt : List S63} {s : List S27} {p : List S65} {a4 a5 a6 : Int} {r : List Int}
end
section
variable (o : List ByteArray) (mt : List S63) (s : List S27) (p : List S65) (a4 a5 a6 : Int) (r : List Int)
def ValV (n : Int) : Int × Int × Int := if askV o mt s p a4 a5 a6 r = 0 then (if 0 ≤ n ∧ n < (p.length : Int) then (if lowW o.length mt r = 0 then (0, 0, 8) else (meanLo (rd (rd_T65 p n).f1) (gramL o.length mt r), meanHi (rd (rd_T65 p n).f1) (gramL o.length mt r), 0)) else (0, 0, 7)) else (0, 0, askV o mt s p a4 a5 a6 r)
theorem pro_cf {o : List ByteArray} {mt : List S63} {s : List S27} {p : List S65} {a4 a5 a6 : Int} (H : BatchOk o mt s p a4 a5 a6) {n : Int} (hn : 0 ≤ n ∧ n < (p.length : Int)) : CfOk (rd (rd_T65 p n).f1) o.length ∧ (rd_T65 p n).f1.length = o.length := by
  obtain ⟨j, hj, rfl⟩ : ∃ j : Nat, j < p.length ∧ n = j := ⟨n.toNat, by omega, by omega⟩
  have h := H.pros j hj
  exact ⟨⟨h.coef⟩, h.len⟩
theorem bValue (n : Int) : Ev (fun k => x_Value.f k o mt s p a4 a5 a6 r n) (ValV o mt s p a4 a5 a6 r n) := by
  unfold x_Value.f ValV
  refine Ev.bind (basked o mt s p a4 a5 a6 r) ?_
  by_cases h : askV o mt s p a4 a5 a6 r = 0
  · obtain ⟨H, hr⟩ := ask_ok h
    have hp := H.p6
    simp only [if_pos h, within_f, Option.bind_some, Bool.and_eq_true, decide_eq_true_eq]
    rw [wrap_id (x := (p.length : Int) - 1) (by omega) (by omega)]
    by_cases h1 : 0 ≤ n ∧ n < (p.length : Int)
    · obtain ⟨C, hl⟩ := pro_cf H h1
      simp only [if_pos h1, if_pos (show 0 ≤ n ∧ n ≤ (p.length : Int) - 1 by omega)]
      refine Ev.bind (bglass o mt s p a4 a5 a6 r) ?_
      unfold glassV
      rw [if_pos h]
      unfold weighV
      by_cases h2 : lowW o.length mt r = 0
      · simp only [if_pos h2, if_neg (show ¬ (8 : Int) = 0 by decide)]; exact Ev.const _
      · simp only [if_neg h2, if_true]
        have hg := gramL_len o.length mt r
        rw [if_pos ⟨h1.1, h1.2, by omega, meanOkB_iff.2 (meanOk_of (gramL_ok H hr) (by rw [hg]; exact C) (lowW_pos H hr h2))⟩]
        exact Ev.const _
    · simp only [if_neg h1, if_neg (show ¬ (0 ≤ n ∧ n ≤ (p.length : Int) - 1) by omega)]
      exact Ev.const _
  · simp only [if_neg h]; exact Ev.const _
end
end Go.Proofs.Ytkjkokgbhepmoaa.PB

namespace Go.Proofs.Ytkjkokgbhepmoaa.PB
open Go.RowKit Go.Proofs.YtkjkokgbhepmoaaW.PrintWords Go.Proofs.YtkjkokgbhepmoaaW.PrintLast Go.Proofs.YtkjkokgbhepmoaaW.PrintMore
def rdS (mt : List S63) (r : List Int) : Nat → Int
  | 0 => 0
  | i + 1 => rdS mt r i + rd r (i : Int) * (rd_T63 mt (i : Int)).f2
section
variable {o : List ByteArray} {mt : List S63} {s : List S27} {p : List S65} {a4 a5 a6 : Int} {r : List Int}
theorem red_at (H : BatchOk o mt s p a4 a5 a6) (hr : RecOk mt r) {i : Nat} (hi : i < mt.length) : -10000000 ≤ rd r (i : Int) * (rd_T63 mt (i : Int)).f2 ∧ rd r (i : Int) * (rd_T63 mt (i : Int)).f2 ≤ 10000000 := by
  have h1 := hr.kilos i hi
  have h2 := (H.mats i hi).redox
  have e1 := Int.mul_le_mul_of_nonneg_left h2.2 h1.1
  have e2 := Int.mul_le_mul_of_nonneg_left h2.1 h1.1
  omega
theorem rdS_bound (H : BatchOk o mt s p a4 a5 a6) (hr : RecOk mt r) : ∀ i, i ≤ mt.length → -(10000000 * i) ≤ rdS mt r i ∧ rdS mt r i ≤ 10000000 * i := by
  intro i
  induction i with
  | zero => intro _; simp [rdS]
  | succ i ih => intro hi; have h1 := ih (by omega); have h2 := red_at H hr (i := i) (by omega); simp only [rdS]; omega
def redT (mt : List S63) (r : List Int) (lo hi : Int) : Int × Int × Int := (mn (1000000 * rdS mt r mt.length / lo) (1000000 * rdS mt r mt.length / hi), mx (-(-(1000000 * rdS mt r mt.length) / lo)) (-(-(1000000 * rdS mt r mt.length) / hi)), 0)
theorem bredox_l0 (H : BatchOk o mt s p a4 a5 a6) (hr : RecOk mt r) {G : List S27} (hG : GOk G) (hw : 0 < wS S27.f0 G G.length) : ∀ (m i : Nat), i + m = mt.length → Ev (fun k => batch_Redox.l0 k r G (1000000 * rdS mt r i) mt (mt.length : Int) (i : Int)) (redT mt r (wS S27.f0 G G.length) (wS S27.f1 G G.length))
  | 0, i, hi => by
    have hm := H.m12
    have hb := rdS_bound H hr mt.length (Nat.le_refl _)
    have hwb := wS_bounds hG G.length (Nat.le_refl _)
    apply Ev.step
    simp only [batch_Redox.l0, if_neg (show ¬ (i : Int) < (mt.length : Int) by omega)]
    rw [show i = mt.length by omega]
    refine Ev.bind (bweight hG) ?_
    simp only [down_f (1000000 * rdS mt r mt.length) (wS S27.f0 G G.length) (by omega) (by omega) (by omega), down_f (1000000 * rdS mt r mt.length) (wS S27.f1 G G.length) (by omega) (by omega) (by omega),
      up_f (1000000 * rdS mt r mt.length) (wS S27.f0 G G.length) (by omega) (by omega) (by omega), up_f (1000000 * rdS mt r mt.length) (wS S27.f1 G G.length) (by omega) (by omega) (by omega), Option.bind_some]
    exact Ev.const _
  | m + 1, i, hi => by
    have ih := bredox_l0 H hr hG hw m (i + 1) (by omega)
    have hm := H.m12
    have hrl := hr.len
    have hb := rdS_bound H hr i (by omega)
    have ha := red_at H hr (i := i) (by omega)
    have hk := hr.kilos i (by omega)
    have e : wrap64 (1000000 * rdS mt r i + wrap64 (wrap64 (1000000 * rd r (i : Int)) * (rd_T63 mt (i : Int)).f2)) = 1000000 * rdS mt r (i + 1) := by
      have h0 : 1000000 * rd r (i : Int) * (rd_T63 mt (i : Int)).f2 = 1000000 * (rd r (i : Int) * (rd_T63 mt (i : Int)).f2) := Int.mul_assoc ..
      have h1 : 1000000 * rdS mt r (i + 1) = 1000000 * rdS mt r i + 1000000 * (rd r (i : Int) * (rd_T63 mt (i : Int)).f2) := Int.mul_add ..
      rw [wrap_id (x := 1000000 * rd r (i : Int)) (by omega) (by omega), h0, wrap_id (x := 1000000 * (rd r (i : Int) * (rd_T63 mt (i : Int)).f2)) (by omega) (by omega), wrap_id (by omega) (by omega), h1]
    apply Ev.step
    simp only [batch_Redox.l0, if_pos (show (i : Int) < (mt.length : Int) by omega), if_pos (i_pos i), if_pos (show (i : Int) < (r.length : Int) by omega), wrap_succ (i_pos i) (show (i : Int) ≤ 1000000000 by omega), e]
    exact ih
end
section
variable (o : List ByteArray) (mt : List S63) (s : List S27) (p : List S65) (a4 a5 a6 : Int) (r : List Int)
def RedV : Int × Int × Int := if askV o mt s p a4 a5 a6 r = 0 then (if lowW o.length mt r = 0 then (0, 0, 8) else redT mt r (wS S27.f0 (gramL o.length mt r) (gramL o.length mt r).length) (wS S27.f1 (gramL o.length mt r) (gramL o.length mt r).length)) else (0, 0, askV o mt s p a4 a5 a6 r)
theorem bRedox : Ev (fun k => batch_Redox.f k o mt s p a4 a5 a6 r) (RedV o mt s p a4 a5 a6 r) := by
  unfold batch_Redox.f RedV
  refine Ev.bind (bglass o mt s p a4 a5 a6 r) ?_
  unfold glassV
  by_cases h : askV o mt s p a4 a5 a6 r = 0
  · obtain ⟨H, hr⟩ := ask_ok h
    simp only [if_pos h]
    unfold weighV
    by_cases h2 : lowW o.length mt r = 0
    · simp only [if_pos h2, if_neg (show ¬ (8 : Int) = 0 by decide)]; exact Ev.const _
    · simp only [if_neg h2, if_true]
      exact bredox_l0 H hr (gramL_ok H hr) (lowW_pos H hr h2) mt.length 0 (by omega)
  · simp only [if_neg h]; exact Ev.const _
end
section
variable (o : List ByteArray) (mt : List S63) (s : List S27) (p : List S65) (a4 a5 a6 : Int)
theorem great_l2 (hp : p.length ≤ 20) : ∀ (m i : Nat) (x : Int), i + m = p.length → ∃ b, Ev (fun k => lw_Great.l2 k x (i : Int) o mt s p a4 a5 a6) b
  | 0, i, x, hi => by
    refine ⟨decide (x > 2000), ?_⟩
    apply Ev.step
    simp only [lw_Great.l2, if_neg (show ¬ (i : Int) < (p.length : Int) by omega)]
    exact Ev.const _
  | m + 1, i, x, hi => by
    obtain ⟨b, ih⟩ := great_l2 hp m (i + 1) (wrap64 (x + ((rd_T65 p (i : Int)).f0.size : Int))) (by omega)
    by_cases h : (((rd_T65 p (i : Int)).f1).length : Int) > 20
    · refine ⟨true, ?_⟩
      apply Ev.step
      simp only [lw_Great.l2, if_pos (show (i : Int) < (p.length : Int) by omega), if_pos (i_pos i), if_pos h]
      exact Ev.const _
    · refine ⟨b, ?_⟩
      apply Ev.step
      simp only [lw_Great.l2, if_pos (show (i : Int) < (p.length : Int) by omega), if_pos (i_pos i), if_neg h, wrap_succ (i_pos i) (show (i : Int) ≤ 1000000000 by omega)]
      exact ih
theorem great_l1 (hm : mt.length ≤ 20) (hp : p.length ≤ 20) : ∀ (m i : Nat) (x : Int), i + m = mt.length → ∃ b, Ev (fun k => lw_Great.l1 k x (i : Int) o mt s p a4 a5 a6) b
  | 0, i, x, hi => by
    obtain ⟨b, hb⟩ := great_l2 o mt s p a4 a5 a6 hp p.length 0 x (by omega)
    refine ⟨b, ?_⟩
    apply Ev.step
    simp only [lw_Great.l1, if_neg (show ¬ (i : Int) < (mt.length : Int) by omega)]
    exact hb
  | m + 1, i, x, hi => by
    obtain ⟨b, ih⟩ := great_l1 hm hp m (i + 1) (wrap64 (x + ((rd_T63 mt (i : Int)).f0.size : Int))) (by omega)
    by_cases h : (((rd_T63 mt (i : Int)).f6).length : Int) > 20
    · refine ⟨true, ?_⟩
      apply Ev.step
      simp only [lw_Great.l1, if_pos (show (i : Int) < (mt.length : Int) by omega), if_pos (i_pos i), if_pos h]
      exact Ev.const _
    · refine ⟨b, ?_⟩
      apply Ev.step
      simp only [lw_Great.l1, if_pos (show (i : Int) < (mt.length : Int) by omega), if_pos (i_pos i), if_neg h, wrap_succ (i_pos i) (show (i : Int) ≤ 1000000000 by omega)]
      exact ih
theorem great_l0 (ho : o.length ≤ 20) (hm : mt.length ≤ 20) (hp : p.length ≤ 20) : ∀ (m i : Nat) (x : Int), i + m = o.length → ∃ b, Ev (fun k => lw_Great.l0 k x (i : Int) o mt s p a4 a5 a6) b
  | 0, i, x, hi => by
    obtain ⟨b, hb⟩ := great_l1 o mt s p a4 a5 a6 hm hp mt.length 0 x (by omega)
    refine ⟨b, ?_⟩
    apply Ev.step
    simp only [lw_Great.l0, if_neg (show ¬ (i : Int) < (o.length : Int) by omega)]
    exact hb
  | m + 1, i, x, hi => by
    obtain ⟨b, ih⟩ := great_l0 ho hm hp m (i + 1) (wrap64 (x + ((rdOf ByteArray.empty o (i : Int)).size : Int))) (by omega)
    refine ⟨b, ?_⟩
    apply Ev.step
    simp only [lw_Great.l0, if_pos (show (i : Int) < (o.length : Int) by omega), if_pos (i_pos i), wrap_succ (i_pos i) (show (i : Int) ≤ 1000000000 by omega)]
    exact ih
theorem great : ∃ b, Ev (fun k => lw_Great.f k o mt s p a4 a5 a6) b := by
  have ht : Ev (fun k => lw_Great.j0 k true o mt s p a4 a5 a6) true := by
    apply Ev.step
    simp only [lw_Great.j0, if_true]
    exact Ev.const _
  unfold lw_Great.f
  by_cases h1 : (o.length : Int) > 20
  · simp only [if_pos h1]; exact ⟨_, ht⟩
  by_cases h2 : (mt.length : Int) > 20
  · simp only [if_neg h1, if_pos h2]; exact ⟨_, ht⟩
  by_cases h3 : (s.length : Int) > 20
  · simp only [if_neg h1, if_neg h2, if_pos h3]; exact ⟨_, ht⟩
  simp only [if_neg h1, if_neg h2, if_neg h3]
  by_cases h4 : (p.length : Int) > 20
  · rw [show decide ((p.length : Int) > 20) = true by simpa using h4]; exact ⟨_, ht⟩
  · rw [show decide ((p.length : Int) > 20) = false by simpa using h4]
    obtain ⟨b, hb⟩ := great_l0 o mt s p a4 a5 a6 (by omega) (by omega) (by omega) o.length 0 0 (by omega)
    refine ⟨b, ?_⟩
    apply Ev.step
    simp only [lw_Great.j0, Bool.false_eq_true, if_false]
    exact hb
theorem wide_ev (l0 l1 : List Int) (a2 a3 a4 : Int) (l5 : List Int) : ∃ b, lw_wide.f l0 l1 a2 a3 a4 l5 = some b := by
  unfold lw_wide.f
  split
  · exact ⟨_, rfl⟩
  · split <;> exact ⟨_, rfl⟩
end
theorem lives_ev : Ev (fun k => lw_lives.f k) true := by
  refine Ev.of_mono (f := fun k => lw_lives.f k) (K := 60) (fun k => lw_lives.mono k) ?_
  kernel_rfl
section
variable (o : List ByteArray) (mt : List S63) (s : List S27) (p : List S65) (a4 a5 a6 : Int) (r l1 : List Int) (n b3 b4 : Int) (l5 : List Int)
end
end Go.Proofs.Ytkjkokgbhepmoaa.PB

namespace Go.Proofs.Ytkjkokgbhepmoaa.PB
open Go.RowKit Go.Proofs.YtkjkokgbhepmoaaW.PrintWords Go.Proofs.YtkjkokgbhepmoaaW.PrintLast Go.Proofs.YtkjkokgbhepmoaaW.PrintMore
attribute [local go_sem] max2_int min2_int max_two min_two max_three min_three max_four min_four
def batch_ends.l0 : Nat → Int → Int → List (S27) → Int → Int → Option (Int × Int)
 | 0, _, _, _, _, _ => none
 | k + 1, x2, x3, x7, x8, x9 => if x9 < x8 then (if 0 ≤ x9 then (if x9 < (x7.length : Int) then (batch_ends.l0 k (wrap64 (x2 + ((rd_T27 x7 x9).f0))) (wrap64 (x3 + ((rd_T27 x7 x9).f1))) x7 x8 (wrap64 (x9 + 1))) else (none)) else (none)) else (some (x2, x3))
def batch_ends.f (k : Nat) (a0_0 : ByteArray) (a0_1 : Int) (a0_2 : Int) (a0_3 : Int) (a0_4 : Int) (a0_5 : Int) (l0_6 : List (S27)) : Option (Int × Int) := batch_ends.l0 k 0 0 l0_6 (l0_6.length : Int) 0
set_option maxHeartbeats 8000000 in
set_option maxRecDepth 100000 in
theorem batch_ends.calls (k : Nat) (a0_0 : ByteArray) (a0_1 : Int) (a0_2 : Int) (a0_3 : Int) (a0_4 : Int) (a0_5 : Int) (A0_6 : Option Addr) (c0_6 : Nat) (l0_6 : List (S27)) (r1 : Int) (r2 : Int) (w : World) (hr0_6 : Kd.C k27 w A0_6 l0_6.length l0_6) (hc0_6 : l0_6.length ≤ c0_6) (h : batch_ends.f k a0_0 a0_1 a0_2 a0_3 a0_4 a0_5 l0_6 = some (r1, r2)) :
  Calls Try.prog 119 #[.agg #[.string a0_0, .int .i64 a0_1, .int .i64 a0_2, .int .i64 a0_3, .int .i64 a0_4, .int .i64 a0_5, .slice A0_6 l0_6.length c0_6]] w fun e w' => e = .returned (.tuple #[.int .i64 r1, .int .i64 r2]) ∧ Below w.heap.size w w' := by
 have hu63 := Try.underlying63; have hu27 := Try.underlying27; have HR0_6 := Sd.mk hr0_6; have HC0_6 := Sd.mk hc0_6; clear hr0_6 hc0_6; have HB := Sd.mk (Below.refl w.heap.size w)
 have H : (batch_ends.l0 k 0 0 l0_6 (l0_6.length : Int) 0) = some (r1, r2) := h
 clear h; have H' := Sd.mk H; clear H
 go_enter Try.func119, Try.ntmps119
 go_wp2_with (first | ((with_reducible refine gate_dst (N := 1) rfl ?_); refine box_event ?hg (N := 1) ?hd (cs := #[.string a0_0, .int .i64 a0_1, .int .i64 a0_2, .int .i64 a0_3, .int .i64 a0_4, .int .i64 a0_5, .slice A0_6 l0_6.length c0_6]) (t := 63) ?hr ?_; (case hd => rfl); (case hg => rfl); (case hr => exact tG); intro gb621 hg w2 hbox hb; have BK621 := Sd.mk (hbox); have GW621 := Sd.mk (bSz hg (bBl HB.out)); have GE621 := Sd.mk (bSz hg (bBl HB.out)); replace HB := Sd.mk (below_step (bBl HB.out) hb); clear hb hbox hg; obtain ⟨u3_0, u3_1, u3_2, u3_3, u3_4, u3_5, u3_6, o3_0, o3_1, o3_2, o3_3, o3_4, o3_5, o3_6⟩ := bc7 (w := w2) BK621.out))
 go_loopg [2, 3, 9] k (fun kq v2 v3 v9 w' => ∃ (x2_1 : Int) (x3_1 : Int) (x9_1 : Int), v2 = .int .i64 x2_1 ∧ v3 = .int .i64 x3_1 ∧ v9 = .int .i64 x9_1 ∧ Sd (batch_ends.l0 kq x2_1 x3_1 l0_6 (l0_6.length : Int) x9_1 = some (r1, r2)) ∧ Sd (kq ≤ k) ∧ Sd (w'.heap[gb621]? = some (.cells #[.string a0_0, .int .i64 a0_1, .int .i64 a0_2, .int .i64 a0_3, .int .i64 a0_4, .int .i64 a0_5, (.slice A0_6 l0_6.length c0_6)] 63 (0, 0))) ∧ Sd (Below w.heap.size w w'))
 case atStart => exact ⟨(0), (0), (0), tS, tS, tS, H', ⟨Nat.le_refl _⟩, ⟨bkA BK621.out⟩, ⟨bBl HB.out⟩⟩
 case round =>
  clear H'; (try clear c1); (try clear p2); (try clear u3_0 u3_1 u3_2 u3_3 u3_4 u3_5 u3_6); (try clear o3_0 o3_1 o3_2 o3_3 o3_4 o3_5 o3_6); obtain ⟨x2_1, x3_1, x9_1, rfl, rfl, rfl, HA, HK1, BK621, HB⟩ := hrel
  cases gk with
  | zero => exact absurd HA.out (by simp [batch_ends.l0])
  | succ k1 =>
   have H := HA.out; clear HA
   simp only [batch_ends.l0] at H
   by_cases c4 : x9_1 < (l0_6.length : Int)
   ·rw [if_pos c4] at H
    have c4b0 : decide (x9_1 < (l0_6.length : Int)) = true := decide_eq_true c4
    clear c4
    by_cases c5 : 0 ≤ x9_1
    ·rw [if_pos c5] at H
     have c5b0 : decide (0 ≤ x9_1) = true := decide_eq_true c5
     clear c5
     by_cases c6 : x9_1 < (l0_6.length : Int)
     ·rw [if_pos c6] at H
      have c6b0 : decide (x9_1 < (l0_6.length : Int)) = true := decide_eq_true c6
      clear c6; have H' := Sd.mk H; clear H
      have p622 : 0 ≤ (x9_1 : Int) := tB
      have q622 : x9_1 < (l0_6.length : Int) := tB
      obtain ⟨ad622, e622, hx622_0, hx622_1⟩ := at_T27 HR0_6.out x9_1 p622 q622; cases e622; replace hx622_0 := cU HB hx622_0; replace hx622_1 := cU HB hx622_1; replace p622 := eq_true p622; replace q622 := eq_true q622
      go_wp2_with (first | ((with_reducible refine gate_dst (N := 5) rfl ?_); refine box_event ?hg (N := 5) ?hd (cs := #[.int .i64 0, .int .i64 0]) (t := 27) ?hr ?_; (case hd => rfl); (case hg => rfl); (case hr => exact tG); intro gb623 hg w7 hbox hb; have BK623 := Sd.mk (hbox); have GW623 := Sd.mk (bSz hg (bBl HB.out)); have GE623 := Sd.mk (bSz hg (bBl HB.out)); replace HB := Sd.mk (below_step (bBl HB.out) hb); have NB621_623 := Sd.mk (bNl hg (bkA BK621.out)); have NB623_621 := Sd.mk (bNg hg (bkA BK621.out)); replace BK621 := Sd.mk (blk_below (bkA BK621.out) hb); clear hb hbox hg; have hnb8 := NB623_621.out; have hnc8 := NB621_623.out; obtain ⟨u9_0, u9_1, o9_0, o9_1⟩ := bc2 (w := w7) BK623.out))
      go_roundg k1
      case measure => have := HK1.out; omega
      case rel => exact ⟨(wrap64 (x2_1 + ((rd_T27 l0_6 x9_1).f0))), (wrap64 (x3_1 + ((rd_T27 l0_6 x9_1).f1))), (wrap64 (x9_1 + 1)), tS, tS, tS, H', ⟨by have := HK1.out; omega⟩, ⟨by (with_reducible repeat (first | refine blk_drewN ?_ _ | refine blk_drew ?_ | refine blk_alloc ?_ _)); refine blk_far ?_ NB621_623.out _; (with_reducible repeat (first | refine blk_drewN ?_ _ | refine blk_drew ?_ | refine blk_alloc ?_ _)); refine blk_far ?_ NB621_623.out _; (with_reducible repeat (first | refine blk_drewN ?_ _ | refine blk_drew ?_ | refine blk_alloc ?_ _)); exact BK621.out⟩, ⟨bBl HB.out⟩⟩
     ·rw [if_neg c6] at H
      exact absurd H (by simp)
    ·rw [if_neg c5] at H
     exact absurd H (by simp)
   ·rw [if_neg c4] at H
    have c4b0 : decide (x9_1 < (l0_6.length : Int)) = false := decide_eq_false c4
    clear c4
    simp only [Option.some.injEq, Prod.mk.injEq] at H
    obtain ⟨rfl, rfl⟩ := H
    go_wp2
    go_ret2
    exact ⟨tE, bBl HB.out⟩
end Go.Proofs.Ytkjkokgbhepmoaa.PB

namespace Go.Proofs.Ytkjkokgbhepmoaa.PB
open Go.RowKit Go.Proofs.YtkjkokgbhepmoaaW.PrintWords Go.Proofs.YtkjkokgbhepmoaaW.PrintLast Go.Proofs.YtkjkokgbhepmoaaW.PrintMore
attribute [local go_sem] max2_int min2_int max_two min_two
set_option maxHeartbeats 1000000 in
theorem l122_calls (F g : Nat) (lb : Array Value) (cf : Int → Int) (N t0 t1 : Int) (w W : World) (eg : ∀ args w, (callFunc g args).run Try.prog w = .ok (.enter g args) w)
    (hq : CoefQ g lb cf N w) (hb : Below w.heap.size w W) (hF : W.heap[F]? = some (.cells #[.func (.func g) #[] lb, .int .i64 t0, .int .i64 t1] 105 (0, 0))) (x : Int) (hx0 : 0 ≤ x) (hx1 : x < N)
    (hw : wrap64 (cf x - t1) = cf x - t1) :
    Calls Try.prog 122 #[.int .i64 x, .pointer (some ⟨F, 0, none⟩)] W fun e w' => e = .returned (.int .i64 (cf x - t1)) ∧ ∃ q, w' = W.drewN q := by
  have h1 : ∀ n, Calls Try.prog g (#[.int .i64 x] ++ lb) (W.drewN n) fun e w' => e = .returned (.int .i64 (cf x)) ∧ ∃ q, w' = (W.drewN n).drewN q := fun n => hq _ (pw_below_drewN hb n) x hx0 hx1
  have H1 : Sd _ := ⟨h1⟩
  have HW := Sd.mk hw
  have c0 : W.cell? ⟨F, 0, none⟩ = some (.func (.func g) #[] lb) := (blk_cell hF 0).trans rfl
  have c2 : W.cell? ⟨F, 0 + 1 + 1, none⟩ = some (.int .i64 t1) := (blk_cell hF 2).trans rfl
  clear h1 hq hb hw hF
  generalize cf x = cx at *
  go_enter Try.func122, Try.ntmps122
  go_wp2_with fail
  go_quiet (first | (go_at_fn g; exact Calls.quiet_of (H1.out _)))
  go_wp2
  go_ret
  exact ⟨by show Ending.returned (.int .i64 (wrap64 (cx - t1))) = _; rw [HW.out], _, rfl⟩
set_option maxHeartbeats 1000000 in
theorem l124_calls (F g : Nat) (lb : Array Value) (cf : Int → Int) (N t0 t1 : Int) (w W : World) (eg : ∀ args w, (callFunc g args).run Try.prog w = .ok (.enter g args) w)
    (hq : CoefQ g lb cf N w) (hb : Below w.heap.size w W) (hF : W.heap[F]? = some (.cells #[.func (.func g) #[] lb, .int .i64 t0, .int .i64 t1] 105 (0, 0))) (x : Int) (hx0 : 0 ≤ x) (hx1 : x < N)
    (hw : wrap64 (t0 - cf x) = t0 - cf x) :
    Calls Try.prog 124 #[.int .i64 x, .pointer (some ⟨F, 0, none⟩)] W fun e w' => e = .returned (.int .i64 (t0 - cf x)) ∧ ∃ q, w' = W.drewN q := by
  have h1 : ∀ n, Calls Try.prog g (#[.int .i64 x] ++ lb) (W.drewN n) fun e w' => e = .returned (.int .i64 (cf x)) ∧ ∃ q, w' = (W.drewN n).drewN q := fun n => hq _ (pw_below_drewN hb n) x hx0 hx1
  have H1 : Sd _ := ⟨h1⟩
  have HW := Sd.mk hw
  have c0 : W.cell? ⟨F, 0, none⟩ = some (.func (.func g) #[] lb) := (blk_cell hF 0).trans rfl
  have c2 : W.cell? ⟨F, 0 + 1, none⟩ = some (.int .i64 t0) := (blk_cell hF 1).trans rfl
  clear h1 hq hb hw hF
  generalize cf x = cx at *
  go_enter Try.func124, Try.ntmps124
  go_wp2_with fail
  go_quiet (first | (go_at_fn g; exact Calls.quiet_of (H1.out _)))
  go_wp2
  go_ret
  exact ⟨by show Ending.returned (.int .i64 (wrap64 (t0 - cx))) = _; rw [HW.out], _, rfl⟩
def gT (df : Int → Int) (l : List S27) (j : Nat) : Int := max (df (j : Int) * (rd_T27 l (j : Int)).f0) (df (j : Int) * (rd_T27 l (j : Int)).f1)
def gTS (df : Int → Int) (l : List S27) (n : Nat) : Int := sumTo (gT df l) n
structure DfOk (df : Int → Int) (n : Nat) : Prop where
  at_ : ∀ j : Nat, j < n → -20000 ≤ df (j : Int) ∧ df (j : Int) ≤ 20000
theorem gT_bound {df : Int → Int} {l : List S27} (H : GOk l) (C : DfOk df l.length) : ∀ j, j < l.length → -3600000000000 ≤ gT df l j ∧ gT df l j ≤ 3600000000000 := by
  intro j hj
  have a1 := H.at_ j hj
  have a2 := C.at_ j hj
  have b1 := mulb (c := df j) (x := (rd_T27 l (j : Int)).f0) (by omega) (by omega) (by omega) (by omega)
  have b2 := mulb (c := df j) (x := (rd_T27 l (j : Int)).f1) (by omega) (by omega) (by omega) (by omega)
  unfold gT
  omega
theorem gTS_step {df : Int → Int} {l : List S27} (H : GOk l) (C : DfOk df l.length) {k : Nat} (hk : k < l.length) :
    wrap64 (gTS df l k + mx (wrap64 (df (k : Int) * (rd_T27 l (k : Int)).f0)) (wrap64 (df (k : Int) * (rd_T27 l (k : Int)).f1))) = gTS df l (k + 1) := by
  have hn := H.n12
  have a1 := H.at_ k hk
  have a2 := C.at_ k hk
  have b1 := mulb (c := df k) (x := (rd_T27 l (k : Int)).f0) (by omega) (by omega) (by omega) (by omega)
  have b2 := mulb (c := df k) (x := (rd_T27 l (k : Int)).f1) (by omega) (by omega) (by omega) (by omega)
  have b3 := gT_bound H C k hk
  have b4 := sumTo_bound (f := gT df l) (M := 3600000000000) (n := l.length) (gT_bound H C) k (by omega)
  rw [wrap_id (x := df k * (rd_T27 l (k : Int)).f0) (by omega) (by omega), wrap_id (x := df k * (rd_T27 l (k : Int)).f1) (by omega) (by omega), mx_max]
  show wrap64 (gTS df l k + gT df l k) = _
  unfold gTS
  rw [wrap_id (by omega) (by omega)]
  rfl
set_option maxHeartbeats 2000000 in
theorem greatest_calls (x : S63) (A : Option Addr) (c g : Nat) (lb : Array Value) (df : Int → Int) (w : World) (eg : ∀ args w, (callFunc g args).run Try.prog w = .ok (.enter g args) w)
    (hq : CoefQ g lb df x.f6.length w) (hC : Kd.C k27 w A x.f6.length x.f6) (hc : x.f6.length ≤ c) (hG : GOk x.f6) (hd : DfOk df x.f6.length) :
    Calls Try.prog 121 #[.agg #[.string x.f0, .int .i64 x.f1, .int .i64 x.f2, .int .i64 x.f3, .int .i64 x.f4, .int .i64 x.f5, .slice A x.f6.length c], .func (.func g) #[] lb] w fun e w' => e = .returned (.int .i64 (gTS df x.f6 x.f6.length)) ∧ Below w.heap.size w w' := by
  have hb0 : Below w.heap.size w (w.alloc (.cells #[.string x.f0, .int .i64 x.f1, .int .i64 x.f2, .int .i64 x.f3, .int .i64 x.f4, .int .i64 x.f5, .slice A x.f6.length c] 63)) := below_alloc (Below.refl _ _) _
  have HB := Sd.mk hb0
  have hbk := blk_new w (.cells #[.string x.f0, .int .i64 x.f1, .int .i64 x.f2, .int .i64 x.f3, .int .i64 x.f4, .int .i64 x.f5, .slice A x.f6.length c] 63)
  have HBK := Sd.mk hbk
  have HQ := Sd.mk hq
  have HC := Sd.mk hC
  have HG := Sd.mk hG
  have HD := Sd.mk hd
  clear hq hC hc hG hd hb0
  go_enter Try.func121, Try.ntmps121
  have hc6 : (w.alloc (.cells #[.string x.f0, .int .i64 x.f1, .int .i64 x.f2, .int .i64 x.f3, .int .i64 x.f4, .int .i64 x.f5, .slice A x.f6.length c] 63)).cell? ⟨w.heap.size, 0 + 6, none⟩ = some (.slice A x.f6.length c) := (blk_cell hbk 6).trans rfl
  go_wp2
  have hl12 : x.f6.length ≤ 12 := HG.out.n12
  have HL12 := Sd.mk hl12
  clear hc6 hbk hl12
  generalize w.alloc (.cells #[.string x.f0, .int .i64 x.f1, .int .i64 x.f2, .int .i64 x.f3, .int .i64 x.f4, .int .i64 x.f5, .slice A x.f6.length c] 63) = w0 at HB HBK ⊢
  go_loopg [11, 5] x.f6.length (fun gq v11 v5 wr => ∃ k : Nat, v11 = .int .i64 k ∧ v5 = .int .i64 (gTS df x.f6 k) ∧ k ≤ x.f6.length ∧ x.f6.length - k ≤ gq ∧ Sd (Below w.heap.size w wr))
  case atStart => exact ⟨0, rfl, rfl, Nat.zero_le _, by omega, HB⟩
  case round =>
    clear HB HBK
    obtain ⟨k, rfl, rfl, hk, hgk, HB⟩ := hrel
    have hl12 := HL12.out
    by_cases hlt : k < x.f6.length
    · have hltz : (k : Int) < (x.f6.length : Int) := by omega
      obtain ⟨ad, rfl, hx0, hx1⟩ := at_T27 (Kd.C_below HC.out HB.out) (k : Int) (by omega) hltz
      simp only [Int.toNat_natCast] at hx0 hx1
      have HB2 := Sd.mk (below_alloc HB.out (.cells #[.int .i64 (rd_T27 x.f6 (k : Int)).f0, .int .i64 (rd_T27 x.f6 (k : Int)).f1] 27))
      have hbk := blk_new wr (.cells #[.int .i64 (rd_T27 x.f6 (k : Int)).f0, .int .i64 (rd_T27 x.f6 (k : Int)).f1] 27)
      have HSTEP := Sd.mk (gTS_step HG.out HD.out hlt)
      have h0 : (wr.alloc (.cells #[.int .i64 (rd_T27 x.f6 (k : Int)).f0, .int .i64 (rd_T27 x.f6 (k : Int)).f1] 27)).cell? ⟨wr.heap.size, 0, none⟩ = some (.int .i64 (rd_T27 x.f6 (k : Int)).f0) := (blk_cell hbk 0).trans rfl
      have h1 : (wr.alloc (.cells #[.int .i64 (rd_T27 x.f6 (k : Int)).f0, .int .i64 (rd_T27 x.f6 (k : Int)).f1] 27)).cell? ⟨wr.heap.size, 0 + 1, none⟩ = some (.int .i64 (rd_T27 x.f6 (k : Int)).f1) := (blk_cell hbk 1).trans rfl
      have HH0 := Sd.mk h0
      have HH1 := Sd.mk h1
      have hcoef : ∀ W, Below wr.heap.size wr W → Calls Try.prog g (#[.int .i64 (k : Int)] ++ lb) W fun e w' => e = .returned (.int .i64 (df k)) ∧ ∃ q, w' = W.drewN q := fun W hW => HQ.out W (below_then HB.out HB.out.size hW) _ (by omega) hltz
      have HCF := Sd.mk hcoef
      clear hbk h0 h1 hcoef
      go_upto_region 5 with (fail)
      generalize gTS df x.f6 k = acc at *
      have H1 : Sd (∀ n, Calls Try.prog g (#[.int .i64 (k : Int)] ++ lb) ((wr.alloc (.cells #[.int .i64 (rd_T27 x.f6 (k : Int)).f0, .int .i64 (rd_T27 x.f6 (k : Int)).f1] 27)).drewN n) fun e w' => e = .returned (.int .i64 (df k)) ∧ ∃ q, w' = ((wr.alloc (.cells #[.int .i64 (rd_T27 x.f6 (k : Int)).f0, .int .i64 (rd_T27 x.f6 (k : Int)).f1] 27)).drewN n).drewN q) := ⟨fun n => HCF.out _ (pw_below_drewN (below_alloc (Below.refl _ _) _) n)⟩
      generalize wr.alloc (.cells #[.int .i64 (rd_T27 x.f6 (k : Int)).f0, .int .i64 (rd_T27 x.f6 (k : Int)).f1] 27) = wa at *
      have h0 := HH0.out
      have h1 := HH1.out
      go_quiet (first | (go_at_fn g; exact Calls.quiet_of (H1.out _)))
      clear h0 h1 HH0 HH1 H1
      go_wp2
      all_goals
        go_roundg (x.f6.length - (k + 1))
        case measure => omega
        case rel => exact ⟨k + 1, rfl, by rw [← HSTEP.out]; unfold mx; first | rw [if_pos (by assumption)] | rw [if_neg (Int.not_lt.2 (by assumption))], by omega, by omega, ⟨by repeat (first | (with_reducible first | exact HB2.out | apply pw_below_drewN | apply below_drew1) | exact HB2.out)⟩⟩
    · have hltz : ¬ (k : Int) < (x.f6.length : Int) := by omega
      obtain rfl : k = x.f6.length := by omega
      go_wp2
      go_ret
      exact ⟨rfl, HB.out⟩
def lowM (x : S63) : Int := wS S27.f0 x.f6 x.f6.length
def highM (x : S63) : Int := wS S27.f1 x.f6 x.f6.length
theorem ends_l0 {l : List S27} (H : GOk l) : ∀ (m i : Nat), i + m = l.length → Ev (fun k => batch_ends.l0 k (wS S27.f0 l i) (wS S27.f1 l i) l (l.length : Int) (i : Int)) (wS S27.f0 l l.length, wS S27.f1 l l.length)
  | 0, i, hi => by
    apply Ev.step
    simp only [batch_ends.l0, if_neg (show ¬ (i : Int) < (l.length : Int) by omega)]
    rw [show i = l.length by omega]
    exact Ev.const _
  | m + 1, i, hi => by
    have ih := ends_l0 H m (i + 1) (by omega)
    have hn := H.n12
    have hb := wS_bounds H i (by omega)
    have hc := H.at_ i (by omega)
    apply Ev.step
    simp only [batch_ends.l0, if_pos (show (i : Int) < (l.length : Int) by omega), if_pos (i_pos i), wrap_succ (i_pos i) (show (i : Int) ≤ 1000000000 by omega)]
    rw [wrap_id (x := wS S27.f0 l i + (rd_T27 l (i : Int)).f0) (by omega) (by omega), wrap_id (x := wS S27.f1 l i + (rd_T27 l (i : Int)).f1) (by omega) (by omega)]
    exact ih
theorem ends_calls (x : S63) (A : Option Addr) (c : Nat) (w : World) (hC : Kd.C k27 w A x.f6.length x.f6) (hc : x.f6.length ≤ c) (hG : GOk x.f6) :
    Calls Try.prog 119 #[.agg #[.string x.f0, .int .i64 x.f1, .int .i64 x.f2, .int .i64 x.f3, .int .i64 x.f4, .int .i64 x.f5, .slice A x.f6.length c]] w fun e w' => e = .returned (.tuple #[.int .i64 (lowM x), .int .i64 (highM x)]) ∧ Below w.heap.size w w' := by
  obtain ⟨K, hK⟩ := ends_l0 hG x.f6.length 0 (by omega)
  exact batch_ends.calls K x.f0 x.f1 x.f2 x.f3 x.f4 x.f5 A c x.f6 (lowM x) (highM x) w hC hc (hK K (Nat.le_refl _))
theorem lowM_bound {x : S63} (H : GOk x.f6) : 0 ≤ lowM x ∧ lowM x ≤ highM x ∧ highM x ≤ 1440000000 := by
  have h := wS_bounds H x.f6.length (Nat.le_refl _)
  have hn := H.n12
  unfold lowM highM
  omega
set_option maxHeartbeats 1000000 in
theorem l118_calls (x : S63) (A : Option Addr) (c : Nat) (w : World) (hC : Kd.C k27 w A x.f6.length x.f6) (hc : x.f6.length ≤ c) (hG : GOk x.f6) :
    Calls Try.prog 118 #[.agg #[.string x.f0, .int .i64 x.f1, .int .i64 x.f2, .int .i64 x.f3, .int .i64 x.f4, .int .i64 x.f5, .slice A x.f6.length c]] w fun e w' => e = .returned (.int .i64 (-lowM x)) ∧ Below w.heap.size w w' := by
  have hb0 : Below w.heap.size w (w.alloc (.cells #[.string x.f0, .int .i64 x.f1, .int .i64 x.f2, .int .i64 x.f3, .int .i64 x.f4, .int .i64 x.f5, .slice A x.f6.length c] 63)) := below_alloc (Below.refl _ _) _
  have hgo := ends_calls x A c (w.alloc (.cells #[.string x.f0, .int .i64 x.f1, .int .i64 x.f2, .int .i64 x.f3, .int .i64 x.f4, .int .i64 x.f5, .slice A x.f6.length c] 63)) (Kd.C_below hC hb0) hc hG
  have HLB := Sd.mk (lowM_bound hG)
  have HB := Sd.mk hb0
  clear hC hc hG hb0
  go_enter Try.func118, Try.ntmps118
  go_wp2_with fail
  generalize w.alloc (.cells #[.string x.f0, .int .i64 x.f1, .int .i64 x.f2, .int .i64 x.f3, .int .i64 x.f4, .int .i64 x.f5, .slice A x.f6.length c] 63) = w0 at *
  refine hgo.mono ?_
  clear hgo
  rintro e w1 ⟨rfl, hb⟩
  have hlb := HLB.out
  go_wp2
  go_ret
  exact ⟨rfl, below_trans' HB.out hb⟩
set_option maxHeartbeats 1000000 in
theorem l120_calls (x : S63) (A : Option Addr) (c F g : Nat) (lb : Array Value) (cf : Int → Int) (t0 t1 : Int) (w W : World) (eg : ∀ args w, (callFunc g args).run Try.prog w = .ok (.enter g args) w)
    (hq : CoefQ g lb cf x.f6.length w) (hb : Below w.heap.size w W) (hF : W.heap[F]? = some (.cells #[.func (.func g) #[] lb, .int .i64 t0, .int .i64 t1] 105 (0, 0)))
    (hC : Kd.C k27 W A x.f6.length x.f6) (hc : x.f6.length ≤ c) (hG : GOk x.f6) (hcf : CfOk cf x.f6.length) (ht : (-10000 ≤ t0 ∧ t0 ≤ 10000) ∧ -10000 ≤ t1 ∧ t1 ≤ 10000) :
    Calls Try.prog 120 (#[.agg #[.string x.f0, .int .i64 x.f1, .int .i64 x.f2, .int .i64 x.f3, .int .i64 x.f4, .int .i64 x.f5, .slice A x.f6.length c]] ++ #[.pointer (some ⟨F, 0, none⟩)]) W fun e w' => e = .returned (.int .i64 (gTS (fun k => cf k - t1) x.f6 x.f6.length)) ∧ Below W.heap.size W w' := by
  have hb0 : Below W.heap.size W (W.alloc (.cells #[.string x.f0, .int .i64 x.f1, .int .i64 x.f2, .int .i64 x.f3, .int .i64 x.f4, .int .i64 x.f5, .slice A x.f6.length c] 63)) := below_alloc (Below.refl _ _) _
  have hq2 : CoefQ 122 #[.pointer (some ⟨F, 0, none⟩)] (fun k => cf k - t1) x.f6.length (W.alloc (.cells #[.string x.f0, .int .i64 x.f1, .int .i64 x.f2, .int .i64 x.f3, .int .i64 x.f4, .int .i64 x.f5, .slice A x.f6.length c] 63)) := by
    intro W' hW' y hy0 hy1
    obtain ⟨j, hj, rfl⟩ : ∃ j : Nat, j < x.f6.length ∧ y = j := ⟨y.toNat, by omega, by omega⟩
    have h1 := hcf.at_ j hj
    exact l122_calls F g lb cf x.f6.length t0 t1 w W' eg hq (below_trans' hb (below_trans' hb0 hW')) (blk_below hF (below_trans' hb0 hW')) (j : Int) hy0 hy1 (wrap_id (by omega) (by omega))
  have hgo := greatest_calls x A c 122 #[.pointer (some ⟨F, 0, none⟩)] (fun k => cf k - t1) (W.alloc (.cells #[.string x.f0, .int .i64 x.f1, .int .i64 x.f2, .int .i64 x.f3, .int .i64 x.f4, .int .i64 x.f5, .slice A x.f6.length c] 63)) (enters_of Try.func122 (by kernel_rfl) rfl) hq2 (Kd.C_below hC hb0) hc hG ⟨fun j hj => by have h1 := hcf.at_ j hj; omega⟩
  have HB := Sd.mk hb0
  clear hC hc hG hb0 hq2 hq hb hF
  show Calls Try.prog 120 #[.agg #[.string x.f0, .int .i64 x.f1, .int .i64 x.f2, .int .i64 x.f3, .int .i64 x.f4, .int .i64 x.f5, .slice A x.f6.length c], .pointer (some ⟨F, 0, none⟩)] W _
  go_enter Try.func120, Try.ntmps120
  go_wp2_with fail
  generalize W.alloc (.cells #[.string x.f0, .int .i64 x.f1, .int .i64 x.f2, .int .i64 x.f3, .int .i64 x.f4, .int .i64 x.f5, .slice A x.f6.length c] 63) = w0 at *
  refine hgo.mono ?_
  clear hgo
  rintro e w1 ⟨rfl, hb⟩
  go_wp2
  go_ret
  exact ⟨rfl, below_trans' HB.out hb⟩
set_option maxHeartbeats 1000000 in
theorem l123_calls (x : S63) (A : Option Addr) (c F g : Nat) (lb : Array Value) (cf : Int → Int) (t0 t1 : Int) (w W : World) (eg : ∀ args w, (callFunc g args).run Try.prog w = .ok (.enter g args) w)
    (hq : CoefQ g lb cf x.f6.length w) (hb : Below w.heap.size w W) (hF : W.heap[F]? = some (.cells #[.func (.func g) #[] lb, .int .i64 t0, .int .i64 t1] 105 (0, 0)))
    (hC : Kd.C k27 W A x.f6.length x.f6) (hc : x.f6.length ≤ c) (hG : GOk x.f6) (hcf : CfOk cf x.f6.length) (ht : (-10000 ≤ t0 ∧ t0 ≤ 10000) ∧ -10000 ≤ t1 ∧ t1 ≤ 10000) :
    Calls Try.prog 123 (#[.agg #[.string x.f0, .int .i64 x.f1, .int .i64 x.f2, .int .i64 x.f3, .int .i64 x.f4, .int .i64 x.f5, .slice A x.f6.length c]] ++ #[.pointer (some ⟨F, 0, none⟩)]) W fun e w' => e = .returned (.int .i64 (gTS (fun k => t0 - cf k) x.f6 x.f6.length)) ∧ Below W.heap.size W w' := by
  have hb0 : Below W.heap.size W (W.alloc (.cells #[.string x.f0, .int .i64 x.f1, .int .i64 x.f2, .int .i64 x.f3, .int .i64 x.f4, .int .i64 x.f5, .slice A x.f6.length c] 63)) := below_alloc (Below.refl _ _) _
  have hq2 : CoefQ 124 #[.pointer (some ⟨F, 0, none⟩)] (fun k => t0 - cf k) x.f6.length (W.alloc (.cells #[.string x.f0, .int .i64 x.f1, .int .i64 x.f2, .int .i64 x.f3, .int .i64 x.f4, .int .i64 x.f5, .slice A x.f6.length c] 63)) := by
    intro W' hW' y hy0 hy1
    obtain ⟨j, hj, rfl⟩ : ∃ j : Nat, j < x.f6.length ∧ y = j := ⟨y.toNat, by omega, by omega⟩
    have h1 := hcf.at_ j hj
    exact l124_calls F g lb cf x.f6.length t0 t1 w W' eg hq (below_trans' hb (below_trans' hb0 hW')) (blk_below hF (below_trans' hb0 hW')) (j : Int) hy0 hy1 (wrap_id (by omega) (by omega))
  have hgo := greatest_calls x A c 124 #[.pointer (some ⟨F, 0, none⟩)] (fun k => t0 - cf k) (W.alloc (.cells #[.string x.f0, .int .i64 x.f1, .int .i64 x.f2, .int .i64 x.f3, .int .i64 x.f4, .int .i64 x.f5, .slice A x.f6.length c] 63)) (enters_of Try.func124 (by kernel_rfl) rfl) hq2 (Kd.C_below hC hb0) hc hG ⟨fun j hj => by have h1 := hcf.at_ j hj; omega⟩
  have HB := Sd.mk hb0
  clear hC hc hG hb0 hq2 hq hb hF
  show Calls Try.prog 123 #[.agg #[.string x.f0, .int .i64 x.f1, .int .i64 x.f2, .int .i64 x.f3, .int .i64 x.f4, .int .i64 x.f5, .slice A x.f6.length c], .pointer (some ⟨F, 0, none⟩)] W _
  go_enter Try.func123, Try.ntmps123
  go_wp2_with fail
  generalize W.alloc (.cells #[.string x.f0, .int .i64 x.f1, .int .i64 x.f2, .int .i64 x.f3, .int .i64 x.f4, .int .i64 x.f5, .slice A x.f6.length c] 63) = w0 at *
  refine hgo.mono ?_
  clear hgo
  rintro e w1 ⟨rfl, hb⟩
  go_wp2
  go_ret
  exact ⟨rfl, below_trans' HB.out hb⟩
def rUp (u : Int) (x : S63) : Int := 1000000 * x.f2 - mn (u * lowM x) (u * highM x)
def rDn (t : Int) (x : S63) : Int := mx (t * lowM x) (t * highM x) - 1000000 * x.f2
theorem mulr {c x : Int} (h1 : -10000 ≤ c) (h2 : c ≤ 10000) (h3 : 0 ≤ x) (h4 : x ≤ 1440000000) : -14400000000000 ≤ c * x ∧ c * x ≤ 14400000000000 := by
  have e1 := Int.mul_le_mul_of_nonneg_right h1 h3
  have e2 := Int.mul_le_mul_of_nonneg_right h2 h3
  omega
set_option maxHeartbeats 1000000 in
theorem l125_calls (x : S63) (A : Option Addr) (c U : Nat) (u : Int) (W : World) (hU : W.heap[U]? = some (.cells #[.int .i64 u] 3 (0, 0)))
    (hC : Kd.C k27 W A x.f6.length x.f6) (hc : x.f6.length ≤ c) (hG : GOk x.f6) (hu : -10000 ≤ u ∧ u ≤ 10000) (hr : -1000 ≤ x.f2 ∧ x.f2 ≤ 1000) :
    Calls Try.prog 125 (#[.agg #[.string x.f0, .int .i64 x.f1, .int .i64 x.f2, .int .i64 x.f3, .int .i64 x.f4, .int .i64 x.f5, .slice A x.f6.length c]] ++ #[.pointer (some ⟨U, 0, none⟩)]) W fun e w' => e = .returned (.int .i64 (rUp u x)) ∧ Below W.heap.size W w' := by
  have hb0 : Below W.heap.size W (W.alloc (.cells #[.string x.f0, .int .i64 x.f1, .int .i64 x.f2, .int .i64 x.f3, .int .i64 x.f4, .int .i64 x.f5, .slice A x.f6.length c] 63)) := below_alloc (Below.refl _ _) _
  have hgo := ends_calls x A c (W.alloc (.cells #[.string x.f0, .int .i64 x.f1, .int .i64 x.f2, .int .i64 x.f3, .int .i64 x.f4, .int .i64 x.f5, .slice A x.f6.length c] 63)) (Kd.C_below hC hb0) hc hG
  have hlb := lowM_bound hG
  have hp1 := mulr hu.1 hu.2 hlb.1 (Int.le_trans hlb.2.1 hlb.2.2)
  have hp2 := mulr hu.1 hu.2 (Int.le_trans hlb.1 hlb.2.1) hlb.2.2
  have HP1 := Sd.mk hp1
  have HP2 := Sd.mk hp2
  have HR := Sd.mk hr
  have HB := Sd.mk hb0
  have BU := Sd.mk (blk_below hU hb0)
  have BM := Sd.mk (blk_new W (.cells #[.string x.f0, .int .i64 x.f1, .int .i64 x.f2, .int .i64 x.f3, .int .i64 x.f4, .int .i64 x.f5, .slice A x.f6.length c] 63))
  clear hC hc hG hb0 hu hr hlb hp1 hp2 hU
  show Calls Try.prog 125 #[.agg #[.string x.f0, .int .i64 x.f1, .int .i64 x.f2, .int .i64 x.f3, .int .i64 x.f4, .int .i64 x.f5, .slice A x.f6.length c], .pointer (some ⟨U, 0, none⟩)] W _
  go_enter Try.func125, Try.ntmps125
  go_wp2_with fail
  generalize W.alloc (.cells #[.string x.f0, .int .i64 x.f1, .int .i64 x.f2, .int .i64 x.f3, .int .i64 x.f4, .int .i64 x.f5, .slice A x.f6.length c] 63) = w0 at *
  refine hgo.mono ?_
  clear hgo
  rintro e w1 ⟨rfl, hb⟩
  have HB1 := Sd.mk hb
  have hm2 : w1.cell? ⟨W.heap.size, 0 + 2, none⟩ = some (.int .i64 x.f2) := (blk_cell (blk_below BM.out hb) 2).trans rfl
  have hu0 : w1.cell? ⟨U, 0, none⟩ = some (.int .i64 u) := (blk_cell (blk_below BU.out hb) 0).trans rfl
  obtain ⟨hp1, hp1'⟩ := HP1.out
  obtain ⟨hp2, hp2'⟩ := HP2.out
  obtain ⟨hr1, hr2⟩ := HR.out
  clear hb
  go_wp2
  all_goals
    go_ret
    refine ⟨?_, below_trans' HB.out HB1.out⟩
    unfold rUp mn
    first | rw [if_pos (by assumption)] | rw [if_neg (Int.not_lt.2 (by assumption))]
    try rfl
set_option maxHeartbeats 1000000 in
theorem l126_calls (x : S63) (A : Option Addr) (c U : Nat) (u : Int) (W : World) (hU : W.heap[U]? = some (.cells #[.int .i64 u] 3 (0, 0)))
    (hC : Kd.C k27 W A x.f6.length x.f6) (hc : x.f6.length ≤ c) (hG : GOk x.f6) (hu : -10000 ≤ u ∧ u ≤ 10000) (hr : -1000 ≤ x.f2 ∧ x.f2 ≤ 1000) :
    Calls Try.prog 126 (#[.agg #[.string x.f0, .int .i64 x.f1, .int .i64 x.f2, .int .i64 x.f3, .int .i64 x.f4, .int .i64 x.f5, .slice A x.f6.length c]] ++ #[.pointer (some ⟨U, 0, none⟩)]) W fun e w' => e = .returned (.int .i64 (rDn u x)) ∧ Below W.heap.size W w' := by
  have hb0 : Below W.heap.size W (W.alloc (.cells #[.string x.f0, .int .i64 x.f1, .int .i64 x.f2, .int .i64 x.f3, .int .i64 x.f4, .int .i64 x.f5, .slice A x.f6.length c] 63)) := below_alloc (Below.refl _ _) _
  have hgo := ends_calls x A c (W.alloc (.cells #[.string x.f0, .int .i64 x.f1, .int .i64 x.f2, .int .i64 x.f3, .int .i64 x.f4, .int .i64 x.f5, .slice A x.f6.length c] 63)) (Kd.C_below hC hb0) hc hG
  have hlb := lowM_bound hG
  have hp1 := mulr hu.1 hu.2 hlb.1 (Int.le_trans hlb.2.1 hlb.2.2)
  have hp2 := mulr hu.1 hu.2 (Int.le_trans hlb.1 hlb.2.1) hlb.2.2
  have HP1 := Sd.mk hp1
  have HP2 := Sd.mk hp2
  have HR := Sd.mk hr
  have HB := Sd.mk hb0
  have BU := Sd.mk (blk_below hU hb0)
  have BM := Sd.mk (blk_new W (.cells #[.string x.f0, .int .i64 x.f1, .int .i64 x.f2, .int .i64 x.f3, .int .i64 x.f4, .int .i64 x.f5, .slice A x.f6.length c] 63))
  clear hC hc hG hb0 hu hr hlb hp1 hp2 hU
  show Calls Try.prog 126 #[.agg #[.string x.f0, .int .i64 x.f1, .int .i64 x.f2, .int .i64 x.f3, .int .i64 x.f4, .int .i64 x.f5, .slice A x.f6.length c], .pointer (some ⟨U, 0, none⟩)] W _
  go_enter Try.func126, Try.ntmps126
  go_wp2_with fail
  generalize W.alloc (.cells #[.string x.f0, .int .i64 x.f1, .int .i64 x.f2, .int .i64 x.f3, .int .i64 x.f4, .int .i64 x.f5, .slice A x.f6.length c] 63) = w0 at *
  refine hgo.mono ?_
  clear hgo
  rintro e w1 ⟨rfl, hb⟩
  have HB1 := Sd.mk hb
  have hm2 : w1.cell? ⟨W.heap.size, 0 + 2, none⟩ = some (.int .i64 x.f2) := (blk_cell (blk_below BM.out hb) 2).trans rfl
  have hu0 : w1.cell? ⟨U, 0, none⟩ = some (.int .i64 u) := (blk_cell (blk_below BU.out hb) 0).trans rfl
  obtain ⟨hp1, hp1'⟩ := HP1.out
  obtain ⟨hp2, hp2'⟩ := HP2.out
  obtain ⟨hr1, hr2⟩ := HR.out
  clear hb
  go_wp2
  all_goals
    go_ret
    refine ⟨?_, below_trans' HB.out HB1.out⟩
    unfold rDn mx
    first | rw [if_pos (by assumption)] | rw [if_neg (Int.not_lt.2 (by assumption))]
    try rfl
end Go.Proofs.Ytkjkokgbhepmoaa.PB

namespace Go.Proofs.Ytkjkokgbhepmoaa.PB
open Go.RowKit Go.Proofs.YtkjkokgbhepmoaaW.PrintWords Go.Proofs.YtkjkokgbhepmoaaW.PrintLast Go.Proofs.YtkjkokgbhepmoaaW.PrintMore
attribute [local go_sem] max2_int min2_int max_two min_two
theorem goesV_ {P : Program} {ops : Array Oper} {Q : Exit → Act → World → Prop} {oi : Oper} {N : Option Tmp} {a : Act} {w : World} {K : Act → World → Prop} (f : FuncId) (lb : Array Value) (eg : ∀ args w, (callFunc f args).run P w = .ok (.enter f args) w)
    {t : Tmp} {as_ : Array Operand} {ts : Array TypeId} (args : Array Value) (hw : Region.wanted oi (yielded ops a.tmps) = true) (hN : oi.dst = N) (hop : oi.op = .call { callee := .value (.tmp t), args := as_, argTypes := ts })
    (ht : a.eval (.tmp t) = .func (.func f) #[] lb) (hargs : as_.map a.eval = args) (h : Calls P f (args ++ lb) w fun e w' => ∃ v, e = .returned v ∧ K (a.put N v) w') : if Region.wanted oi (yielded ops a.tmps) = true then Oper.wp P oi a w K Q else K (a.put N undef) w := by
  refine call_ f (args ++ lb) hw hN ?_ h
  have he := eg (args ++ lb) w
  have ht' : a.tmps.getD t undef = .func (.func f) #[] lb := ht
  unfold execOp
  simp [hop, resolve, Deferred.ofValue, invoke, Act.eval, ht', ht, hargs, he]
def FacQ (g : Nat) (lb : Array Value) (fc : S63 → Int) (mt : List S63) (w : World) : Prop :=
  ∀ W, Below w.heap.size w W → ∀ i : Nat, i < mt.length → ∀ A c, Kd.C k27 W A (rd_T63 mt (i : Int)).f6.length (rd_T63 mt (i : Int)).f6 → (rd_T63 mt (i : Int)).f6.length ≤ c →
    Calls Try.prog g (#[.agg #[.string (rd_T63 mt (i : Int)).f0, .int .i64 (rd_T63 mt (i : Int)).f1, .int .i64 (rd_T63 mt (i : Int)).f2, .int .i64 (rd_T63 mt (i : Int)).f3, .int .i64 (rd_T63 mt (i : Int)).f4, .int .i64 (rd_T63 mt (i : Int)).f5, .slice A (rd_T63 mt (i : Int)).f6.length c]] ++ lb) W fun e w' => e = .returned (.int .i64 (fc (rd_T63 mt (i : Int)))) ∧ Below W.heap.size W w'
def lineT : Bool × List (List Nat × List Nat) := (true, [([], []), ([0], [0]), ([], []), ([], []), ([2, 3], [2, 3]), ([4], [4]), ([1, 5, 4], [1, 5]), ([0, 1, 2, 3, 4, 5, 6], []), ([7, 6, 6, 0, 1, 2, 3, 4, 5, 6], [6, 7])])
def lineB : List Nat := [0, 1, 0, 0, 12, 28, 63, 127, 255]
theorem line_tab : rtab .any (opsOf Try.f117 5) = lineT := by kernel_rfl
theorem line_bits : waitsOk lineT.2 lineB = true := by kernel_rfl
structure LineW (w W : World) (b : Int) (fl : List Int) : Prop where
  below : Below w.heap.size w W
  res : W.heap[w.heap.size + 1]? = some (.cells #[.slice none 0 0, .int .i64 0] 51 (0, 0))
  out : ∃ A c, W.heap[w.heap.size + 2]? = some (.cells #[.slice A fl.length c, .int .i64 b] 51 (0, 0)) ∧ Kd.R (Kd.int .i64) 3 W w.heap.size (fun _ => True) (.slice A fl.length c) fl
set_option maxHeartbeats 4000000 in
set_option maxRecDepth 100000 in
theorem line_calls (A0 A1 A2 A3 : Option Addr) (n0 c0 c1 n2 c2 n3 c3 : Nat) (mt : List S63) (a4 a5 a6 b : Int) (g : Nat) (lb : Array Value) (fc : S63 → Int) (w : World)
    (eg : ∀ args w, (callFunc g args).run Try.prog w = .ok (.enter g args) w) (hq : FacQ g lb fc mt w) (hC : Kd.C k63 w A1 mt.length mt) (hm : mt.length ≤ 12) :
    Calls Try.prog 117 #[.agg #[.slice A0 n0 c0, .slice A1 mt.length c1, .slice A2 n2 c2, .slice A3 n3 c3, .int .i64 a4, .int .i64 a5, .int .i64 a6], .int .i64 b, .func (.func g) #[] lb] w fun e w' =>
      ∃ v, e = .returned (.agg #[v, .int .i64 b]) ∧ Kd.R (Kd.int .i64) 3 w' w.heap.size (fun _ => True) v (mt.map fc) ∧ Below w.heap.size w w' := by
  have hlw : LineW w (((w.alloc (.cells #[.slice A0 n0 c0, .slice A1 mt.length c1, .slice A2 n2 c2, .slice A3 n3 c3, .int .i64 a4, .int .i64 a5, .int .i64 a6] 29)).alloc (.cells #[.slice none 0 0, .int .i64 0] 51)).alloc (.cells #[.slice none 0 0, .int .i64 b] 51)) b (List.map fc (mt.take 0)) := by
    refine ⟨below_alloc (below_alloc (below_alloc (Below.refl _ _) _) _) _, ?_, none, 0, ?_, ?_⟩
    · have := blk_alloc (blk_new (w.alloc (.cells #[.slice A0 n0 c0, .slice A1 mt.length c1, .slice A2 n2 c2, .slice A3 n3 c3, .int .i64 a4, .int .i64 a5, .int .i64 a6] 29)) (.cells #[.slice none 0 0, .int .i64 0] 51)) (.cells #[.slice none 0 0, .int .i64 b] 51)
      simpa using this
    · have := blk_new ((w.alloc (.cells #[.slice A0 n0 c0, .slice A1 mt.length c1, .slice A2 n2 c2, .slice A3 n3 c3, .int .i64 a4, .int .i64 a5, .int .i64 a6] 29)).alloc (.cells #[.slice none 0 0, .int .i64 0] 51)) (.cells #[.slice none 0 0, .int .i64 b] 51)
      simpa using this
    · exact Kd.R_nil _ _ _ _ _
  have HQ := Sd.mk hq
  have HC := Sd.mk hC
  have HM := Sd.mk hm
  have HLW := Sd.mk hlw
  have hc1 : (((w.alloc (.cells #[.slice A0 n0 c0, .slice A1 mt.length c1, .slice A2 n2 c2, .slice A3 n3 c3, .int .i64 a4, .int .i64 a5, .int .i64 a6] 29)).alloc (.cells #[.slice none 0 0, .int .i64 0] 51)).alloc (.cells #[.slice none 0 0, .int .i64 b] 51)).cell? ⟨w.heap.size, 0 + 1, none⟩ = some (.slice A1 mt.length c1) := (blk_cell (blk_alloc (blk_alloc (blk_new w _) _) _) 1).trans rfl
  clear hq hC hlw
  go_enter Try.func117, Try.ntmps117
  go_wp2
  clear hc1
  generalize ((w.alloc (.cells #[.slice A0 n0 c0, .slice A1 mt.length c1, .slice A2 n2 c2, .slice A3 n3 c3, .int .i64 a4, .int .i64 a5, .int .i64 a6] 29)).alloc (.cells #[.slice none 0 0, .int .i64 0] 51)).alloc (.cells #[.slice none 0 0, .int .i64 b] 51) = w0 at HLW ⊢
  go_loopg [15] mt.length (fun gq v15 wr => ∃ k : Nat, v15 = .int .i64 k ∧ k ≤ mt.length ∧ mt.length - k ≤ gq ∧ Sd (LineW w wr b (List.map fc (mt.take k))))
  case atStart => exact ⟨0, rfl, Nat.zero_le _, by omega, HLW⟩
  case round =>
    clear HLW
    obtain ⟨k, rfl, hk, hgk, HW⟩ := hrel
    have hm12 := HM.out
    by_cases hlt : k < mt.length
    · have hltz : (k : Int) < (mt.length : Int) := by omega
      obtain ⟨A, c, hO, hR⟩ := HW.out.out
      obtain ⟨ad, A6, c6, rfl, hx0, hx1, hx2, hx3, hx4, hx5, hx6, hl6, hi6⟩ := at_T63 (Kd.C_below HC.out HW.out.below) (k : Int) (by omega) hltz
      simp only [Int.toNat_natCast] at hx0 hx1 hx2 hx3 hx4 hx5 hx6
      have BM := Sd.mk (blk_new wr (.cells #[.string (rd_T63 mt (k : Int)).f0, .int .i64 (rd_T63 mt (k : Int)).f1, .int .i64 (rd_T63 mt (k : Int)).f2, .int .i64 (rd_T63 mt (k : Int)).f3, .int .i64 (rd_T63 mt (k : Int)).f4, .int .i64 (rd_T63 mt (k : Int)).f5, .slice A6 (rd_T63 mt (k : Int)).f6.length c6] 63))
      have BO := Sd.mk (blk_alloc hO (.cells #[.string (rd_T63 mt (k : Int)).f0, .int .i64 (rd_T63 mt (k : Int)).f1, .int .i64 (rd_T63 mt (k : Int)).f2, .int .i64 (rd_T63 mt (k : Int)).f3, .int .i64 (rd_T63 mt (k : Int)).f4, .int .i64 (rd_T63 mt (k : Int)).f5, .slice A6 (rd_T63 mt (k : Int)).f6.length c6] 63))
      have BR := Sd.mk (blk_alloc HW.out.res (.cells #[.string (rd_T63 mt (k : Int)).f0, .int .i64 (rd_T63 mt (k : Int)).f1, .int .i64 (rd_T63 mt (k : Int)).f2, .int .i64 (rd_T63 mt (k : Int)).f3, .int .i64 (rd_T63 mt (k : Int)).f4, .int .i64 (rd_T63 mt (k : Int)).f5, .slice A6 (rd_T63 mt (k : Int)).f6.length c6] 63))
      have HB := Sd.mk (below_alloc HW.out.below (.cells #[.string (rd_T63 mt (k : Int)).f0, .int .i64 (rd_T63 mt (k : Int)).f1, .int .i64 (rd_T63 mt (k : Int)).f2, .int .i64 (rd_T63 mt (k : Int)).f3, .int .i64 (rd_T63 mt (k : Int)).f4, .int .i64 (rd_T63 mt (k : Int)).f5, .slice A6 (rd_T63 mt (k : Int)).f6.length c6] 63))
      have HR := Sd.mk (Kd.R_alloc hR (.cells #[.string (rd_T63 mt (k : Int)).f0, .int .i64 (rd_T63 mt (k : Int)).f1, .int .i64 (rd_T63 mt (k : Int)).f2, .int .i64 (rd_T63 mt (k : Int)).f3, .int .i64 (rd_T63 mt (k : Int)).f4, .int .i64 (rd_T63 mt (k : Int)).f5, .slice A6 (rd_T63 mt (k : Int)).f6.length c6] 63))
      have NXO := Sd.mk (show w.heap.size + 2 ≠ wr.heap.size from Nat.ne_of_lt (blk_lt hO))
      have hfl : (List.map fc (mt.take k)).length = k := by simp; omega
      have HFL := Sd.mk hfl
      have HSTEP : Sd (List.map fc (mt.take k) ++ [fc (rd_T63 mt (k : Int))] = List.map fc (mt.take (k + 1))) := ⟨by rw [List.take_succ_eq_append_getElem hlt, List.map_append]; simp [rd_T63, hlt]⟩
      have HCALL := Sd.mk (fun W hW => HQ.out W hW k hlt A6 c6)
      have HL6 := Sd.mk hl6
      have HI6 := Sd.mk (Kd.C_alloc hi6 (.cells #[.string (rd_T63 mt (k : Int)).f0, .int .i64 (rd_T63 mt (k : Int)).f1, .int .i64 (rd_T63 mt (k : Int)).f2, .int .i64 (rd_T63 mt (k : Int)).f3, .int .i64 (rd_T63 mt (k : Int)).f4, .int .i64 (rd_T63 mt (k : Int)).f5, .slice A6 (rd_T63 mt (k : Int)).f6.length c6] 63))
      clear hO hR HW hfl hl6 hi6
      go_upto_region 5 with (fail)
      clear hx0 hx1 hx2 hx3 hx4 hx5 hx6
      generalize hfv : List.map fc (mt.take k) = fl at *
      clear hfv
      generalize hWX : wr.alloc (.cells #[.string (rd_T63 mt (k : Int)).f0, .int .i64 (rd_T63 mt (k : Int)).f1, .int .i64 (rd_T63 mt (k : Int)).f2, .int .i64 (rd_T63 mt (k : Int)).f3, .int .i64 (rd_T63 mt (k : Int)).f4, .int .i64 (rd_T63 mt (k : Int)).f5, .slice A6 (rd_T63 mt (k : Int)).f6.length c6] 63) = WX at *
      clear hWX
      generalize hXX : wr.heap.size = X at *
      generalize hOO : w.heap.size + 2 = O at *
      refine start_ (n := 9) (S := fun w' => w'.cell? ⟨O, 0, none⟩ = some (.slice A fl.length c) ∧ w'.cell? ⟨X, 0, none⟩ = some (.string (rd_T63 mt (k : Int)).f0) ∧ w'.cell? ⟨X, 1, none⟩ = some (.int .i64 (rd_T63 mt (k : Int)).f1) ∧ w'.cell? ⟨X, 2, none⟩ = some (.int .i64 (rd_T63 mt (k : Int)).f2) ∧ w'.cell? ⟨X, 3, none⟩ = some (.int .i64 (rd_T63 mt (k : Int)).f3) ∧ w'.cell? ⟨X, 4, none⟩ = some (.int .i64 (rd_T63 mt (k : Int)).f4) ∧ w'.cell? ⟨X, 5, none⟩ = some (.int .i64 (rd_T63 mt (k : Int)).f5) ∧ w'.cell? ⟨X, 6, none⟩ = some (.slice A6 (rd_T63 mt (k : Int)).f6.length c6)) (ds := [8]) #[false, false, false, false, false, false, false, false, false] (by kernel_rfl) rfl rfl ⟨(blk_cell BO.out 0).trans rfl, (blk_cell BM.out 0).trans rfl, (blk_cell BM.out 1).trans rfl, (blk_cell BM.out 2).trans rfl, (blk_cell BM.out 3).trans rfl, (blk_cell BM.out 4).trans rfl, (blk_cell BM.out 5).trans rfl, (blk_cell BM.out 6).trans rfl⟩ (fun hHeld => ?_); refine with_tabW line_tab line_bits (fun HT_ HW_ => ?_)
      replace BM := Sd.mk (blk_drew BM.out)
      replace BO := Sd.mk (blk_drew BO.out)
      replace BR := Sd.mk (blk_drew BR.out)
      replace HB := Sd.mk (below_drew1 HB.out)
      replace HI6 := Sd.mk (Kd.C_drew HI6.out)
      replace HR := Sd.mk (Kd.R_drew HR.out)
      generalize WX.drew = W0 at BM BO BR HB HI6 HR hHeld ⊢
      refine pure_ (i := 0) (N := some 19) (v := ?_) (a' := ?_) #[true, false, false, false, false, false, false, false, false] rfl rfl (any_of HT_.out (by kernel_rfl)) (fun _ _ _ h => h) (Or.inl ⟨by rfl, ?_⟩) ?_ ?_
      rotate_left
      · intro w'
        go_simp
        with_reducible rfl
      rotate_left
      · simp only [Act.put, List.setIfInBounds_toArray, List.set_cons_zero, List.set_cons_succ, i64_w, i32_w]
        rfl
      refine take_ (i := 1) (N := some 20) (v := ?_) (a' := ?_) #[true, true, false, false, false, false, false, false, false] rfl rfl (take_ofW HT_.out HW_.out (by kernel_rfl)) (fun _ _ _ h => h) (Or.inl ⟨by rfl, ?_⟩) hHeld ?_ ?_
      rotate_left
      · rintro w' ⟨s0, s1, s2, s3, s4, s5, s6, s7⟩
        go_simp
        with_reducible rfl
      rotate_left
      · simp only [Act.put, List.setIfInBounds_toArray, List.set_cons_zero, List.set_cons_succ, i64_w, i32_w]
        rfl
      refine pure_ (i := 2) (N := some 21) (v := ?_) (a' := ?_) #[true, true, true, false, false, false, false, false, false] rfl rfl (any_of HT_.out (by kernel_rfl)) (fun _ _ _ h => h) (Or.inl ⟨by rfl, ?_⟩) ?_ ?_
      rotate_left
      · intro w'
        go_simp
        with_reducible rfl
      rotate_left
      · simp only [Act.put, List.setIfInBounds_toArray, List.set_cons_zero, List.set_cons_succ, i64_w, i32_w]
        rfl
      refine take_ (i := 3) (N := some 22) (v := ?_) (a' := ?_) #[true, true, true, true, false, false, false, false, false] rfl rfl (take_ofW HT_.out HW_.out (by kernel_rfl)) (fun _ _ _ h => h) (Or.inl ⟨by rfl, ?_⟩) hHeld ?_ ?_
      rotate_left
      · rintro w' ⟨s0, s1, s2, s3, s4, s5, s6, s7⟩
        go_simp
        with_reducible rfl
      rotate_left
      · simp only [Act.put, List.setIfInBounds_toArray, List.set_cons_zero, List.set_cons_succ, i64_w, i32_w]
        rfl
      refine one_ (i := 4) (N := some 23) #[true, true, true, true, true, false, false, false, false] rfl rfl (one_of HT_.out (by kernel_rfl)) (by decide) (fun K hK => ?_)
      refine goesV_ g lb eg #[.agg #[.string (rd_T63 mt (k : Int)).f0, .int .i64 (rd_T63 mt (k : Int)).f1, .int .i64 (rd_T63 mt (k : Int)).f2, .int .i64 (rd_T63 mt (k : Int)).f3, .int .i64 (rd_T63 mt (k : Int)).f4, .int .i64 (rd_T63 mt (k : Int)).f5, .slice A6 (rd_T63 mt (k : Int)).f6.length c6]] (by rfl) rfl rfl (by rfl) (by (try simp only [List.map_toArray, List.map_cons, List.map_nil]); first | done | rfl) ?_
      refine (HCALL.out W0 HB.out HI6.out HL6.out).mono ?_
      rintro e w4 ⟨rfl, hb⟩
      refine ⟨_, rfl, ?_⟩
      replace BM := Sd.mk (blk_below BM.out hb)
      replace BO := Sd.mk (blk_below BO.out hb)
      replace BR := Sd.mk (blk_below BR.out hb)
      replace HB := Sd.mk (below_step HB.out hb)
      replace HR := Sd.mk (Kd.R_below HR.out hb)
      clear hb HI6 HCALL
      refine hK.out _ _ ⟨(blk_cell BO.out 0).trans rfl, (blk_cell BM.out 0).trans rfl, (blk_cell BM.out 1).trans rfl, (blk_cell BM.out 2).trans rfl, (blk_cell BM.out 3).trans rfl, (blk_cell BM.out 4).trans rfl, (blk_cell BM.out 5).trans rfl, (blk_cell BM.out 6).trans rfl⟩ (fun hHeld => ?_)
      clear hK K
      refine norm_ (a' := ?_) ?_ ?_
      rotate_left
      · show Act.put _ (some 23) _ = _
        simp only [Act.put, List.setIfInBounds_toArray, List.set_cons_zero, List.set_cons_succ, i64_w, i32_w]
        rfl
      refine one_ (i := 5) (N := some 24) #[true, true, true, true, true, true, false, false, false] rfl rfl (one_of HT_.out (by kernel_rfl)) (by decide) (fun K hK => ?_)
      refine value_ (w1 := ?_) (v := ?_) (by rfl) rfl ?_ ?_
      rotate_left 2
      · go_simp
        constructor
        · rfl
        · rfl
      refine hK.out _ _ ⟨(blk_cell (blk_alloc BO.out _) 0).trans rfl, (blk_cell (blk_alloc BM.out _) 0).trans rfl, (blk_cell (blk_alloc BM.out _) 1).trans rfl, (blk_cell (blk_alloc BM.out _) 2).trans rfl, (blk_cell (blk_alloc BM.out _) 3).trans rfl, (blk_cell (blk_alloc BM.out _) 4).trans rfl, (blk_cell (blk_alloc BM.out _) 5).trans rfl, (blk_cell (blk_alloc BM.out _) 6).trans rfl⟩ (fun hHeld => ?_)
      clear hK K
      refine norm_ (a' := ?_) ?_ ?_
      rotate_left
      · show Act.put _ (some 24) _ = _
        simp only [Act.put, List.setIfInBounds_toArray, List.set_cons_zero, List.set_cons_succ, i64_w, i32_w]
        rfl
      refine one_ (i := 6) (N := some 25) #[true, true, true, true, true, true, true, false, false] rfl rfl (one_of HT_.out (by kernel_rfl)) (by decide) (fun K hK => ?_)
      refine Kd.R_append_step (Kd.int .i64) (w0 := w) w.heap.size (by rfl) (.tmp 20) (.tmp 24) 30 3 (.int .i64 0) 8 rfl Try.underlying30 info3 rfl (by decide) (by omega) (.slice A fl.length c) fl (fc (rd_T63 mt (k : Int))) [.int .i64 (fc (rd_T63 mt (k : Int)))] (fun _ => True) (fun _ => False) rfl rfl ?aP (fun _ hk => hk.elim) ?aF ?aO ?aB ?aS ?aL ?_
      (case aP => exact rfl)
      (case aB => exact (by repeat (first | (with_reducible first | exact HB.out | apply below_alloc | apply pw_below_drewN | apply below_drew1) | exact HB.out)))
      (case aF => exact (fun _ _ => trivial))
      (case aO => exact (by (with_reducible repeat (first | apply Kd.R_alloc | apply Kd.R_drewN | apply Kd.R_drew)); exact HR.out))
      (case aS => exact below_size HB.out)
      (case aL => exact (by rw [HFL.out]; exact Nat.le_trans (Nat.mul_le_mul_right 8 (show k + 1 ≤ 13 by omega)) (by decide)))
      intro v1 w5 ho hb hg hat
      have HB2 := Sd.mk hb
      have HO := Sd.mk ho
      have BO2 := Sd.mk (blk_grown BO.out hg (Kd.R_ne HR.out BO.out (by decide)))
      have BM2 := Sd.mk (blk_grown BM.out hg (Kd.R_ne HR.out BM.out (by decide)))
      have BR2 := Sd.mk (blk_grown BR.out hg (Kd.R_ne HR.out BR.out (by decide)))
      clear HB HR BO BM BR hb ho hat hg
      refine hK.out _ _ ⟨(blk_cell BO2.out 0).trans rfl, (blk_cell BM2.out 0).trans rfl, (blk_cell BM2.out 1).trans rfl, (blk_cell BM2.out 2).trans rfl, (blk_cell BM2.out 3).trans rfl, (blk_cell BM2.out 4).trans rfl, (blk_cell BM2.out 5).trans rfl, (blk_cell BM2.out 6).trans rfl⟩ (fun hHeld => ?_)
      clear hK K
      refine norm_ (a' := ?_) ?_ ?_
      rotate_left
      · show Act.put _ (some 25) _ = _
        simp only [Act.put, List.setIfInBounds_toArray, List.set_cons_zero, List.set_cons_succ, i64_w, i32_w]
        rfl
      refine pure_ (i := 7) (N := some 26) (v := ?_) (a' := ?_) #[true, true, true, true, true, true, true, true, false] rfl rfl (any_of HT_.out (by kernel_rfl)) (fun _ _ _ h => h) (Or.inl ⟨by rfl, ?_⟩) ?_ ?_
      rotate_left
      · intro w'
        go_simp
        with_reducible rfl
      rotate_left
      · simp only [Act.put, List.setIfInBounds_toArray, List.set_cons_zero, List.set_cons_succ, i64_w, i32_w]
        rfl
      have HO' := Sd.mk (Kd.R_types (t := 51) HO.out BO2.out (by decide))
      clear HO
      obtain ⟨A1', c1', rfl⟩ := Kd.R_slice HO'.out
      have hw0 : w5.cell? ⟨O, 0, none⟩ = some (.slice A fl.length c) := (blk_cell BO2.out 0).trans rfl
      have hwf := blk_frozen BO2.out 0
      refine last_ (i := 8) (N := none) #[true, true, true, true, true, true, true, true, true] rfl rfl (one_of HT_.out (by kernel_rfl)) (by decide) (fun K hK => ?_)
      refine skip_ (w1 := ?_) (by rfl) rfl ?_ ?_
      rotate_left
      · go_simp
        rfl
      refine hK.out _ _ ?_
      clear hK K
      refine done_ (done_of HT_.out (by kernel_rfl)) ?_
      clear hw0 hwf
      go_wp2
      go_roundg (mt.length - (k + 1))
      case measure => omega
      case rel =>
        subst hOO
        refine ⟨k + 1, rfl, by omega, by omega, ⟨?_⟩⟩
        rw [← HSTEP.out]
        refine ⟨below_set HB2.out (by omega), blk_far BR2.out (p := ⟨w.heap.size + 2, 0, none⟩) (by simp) _, A1', c1', ?_, ?_⟩
        · have h_ := blk_put (cs := #[.slice A fl.length c, .int .i64 b]) BO2.out 0 (.slice A1' (fl.length + 1) c1') rfl
          simpa using h_
        · have h_ := Kd.R_mono (ok' := fun _ => True) (Kd.R_far HO'.out (fun _ hk => hk.2) (.slice A1' (fl.length + 1) c1') (p := ⟨w.heap.size + 2, 0, none⟩)) (fun _ _ => trivial)
          simpa using h_
    · have hltz : ¬ (k : Int) < (mt.length : Int) := by omega
      obtain rfl : k = mt.length := by omega
      obtain ⟨A, c, hO, hR⟩ := HW.out.out
      have hT : List.map fc (mt.take mt.length) = List.map fc mt := by rw [List.take_length]
      rw [hT] at hO hR
      rw [List.length_map] at hO hR
      have HR := Sd.mk (Kd.R_types (t := 51) hR hO (by decide))
      have HR2 := Sd.mk (Kd.R_types (t := 51) hR HW.out.res (by decide))
      have c0 : wr.cell? ⟨w.heap.size + 2, 0, none⟩ = some (.slice A mt.length c) := (blk_cell hO 0).trans rfl
      have c1 : wr.cell? ⟨w.heap.size + 2, 1, none⟩ = some (.int .i64 b) := (blk_cell hO 1).trans rfl
      have r0 : wr.cell? ⟨w.heap.size + 1, 0, none⟩ = some (.slice none 0 0) := (blk_cell HW.out.res 0).trans rfl
      have r1 : wr.cell? ⟨w.heap.size + 1, 1, none⟩ = some (.int .i64 0) := (blk_cell HW.out.res 1).trans rfl
      have f0 := blk_frozen HW.out.res 0
      have f1 := blk_frozen HW.out.res 1
      clear hO hR hT
      go_wp2
      refine bodyPost_ret (results_cell_row rfl _ _ (w.heap.size + 1) 51 #[.slice A mt.length c, .int .i64 b] (0, 0) _ rfl (blk_put (cs := #[.slice A mt.length c, .int .i64 0]) (blk_put (cs := #[.slice none 0 0, .int .i64 0]) HW.out.res 0 _ rfl) 1 _ rfl) Try.underlying51 (by decide) (by kernel_rfl)) rfl ?_
      refine ⟨_, rfl, ?_, below_set (below_set HW.out.below (by omega)) (by omega)⟩
      exact Kd.R_mono (Kd.R_far (Kd.R_far HR2.out (fun _ hk => hk.2) _) (fun _ hk => hk.2) _) (fun _ _ => trivial)
end Go.Proofs.Ytkjkokgbhepmoaa.PB

namespace Go.Proofs.Ytkjkokgbhepmoaa.PB
open Go.RowKit Go.Proofs.YtkjkokgbhepmoaaW.PrintWords Go.Proofs.YtkjkokgbhepmoaaW.PrintLast Go.Proofs.YtkjkokgbhepmoaaW.PrintMore
attribute [local go_sem] max2_int min2_int max_two min_two
def tgOf (s : List S27) (p : List S65) (j : Nat) : S27 := if j < s.length then rd_T27 s (j : Int) else (rd_T65 p ((j - s.length : Nat) : Int)).f2
def upF (s : List S27) (p : List S65) (j : Nat) (x : S63) : Int := gTS (fun k => coefOf s p j k - (tgOf s p j).f1) x.f6 x.f6.length
def dnF (s : List S27) (p : List S65) (j : Nat) (x : S63) : Int := gTS (fun k => (tgOf s p j).f0 - coefOf s p j k) x.f6 x.f6.length
def pairL (mt : List S63) (s : List S27) (p : List S65) (j : Nat) : List S51 := [⟨mt.map (upF s p j), 0⟩, ⟨mt.map (dnF s p j), 0⟩]
def headL (mt : List S63) (s : List S27) (p : List S65) (a6 : Int) : Nat → List S51
  | 0 => [⟨mt.map (fun x => -lowM x), -1000 * a6⟩]
  | n + 1 => headL mt s p a6 n ++ pairL mt s p n
def linesV (mt : List S63) (s : List S27) (p : List S65) (a4 a5 a6 : Int) : List S51 := headL mt s p a6 (s.length + p.length) ++ [⟨mt.map (rUp a5), 0⟩, ⟨mt.map (rDn a4), 0⟩]
theorem headL_len (mt : List S63) (s : List S27) (p : List S65) (a6 : Int) : ∀ n, (headL mt s p a6 n).length = 1 + 2 * n
  | 0 => rfl
  | n + 1 => by simp only [headL, List.length_append, headL_len mt s p a6 n, pairL, List.length_cons, List.length_nil]; omega
section
variable {o : List ByteArray} {mt : List S63} {s : List S27} {p : List S65} {a4 a5 a6 : Int}
theorem mat_gok (H : BatchOk o mt s p a4 a5 a6) {i : Nat} (hi : i < mt.length) : GOk (rd_T63 mt (i : Int)).f6 := by
  have M := H.mats i hi
  refine ⟨by rw [M.len]; exact H.o12, fun j hj => ?_⟩
  have := M.con j (by rw [← M.len]; exact hj)
  omega
theorem coef_cfok (H : BatchOk o mt s p a4 a5 a6) {j : Nat} (hj : j < s.length + p.length) : CfOk (coefOf s p j) o.length := by
  refine ⟨fun i hi => ?_⟩
  unfold coefOf
  by_cases h : j < s.length
  · rw [if_pos h]; split <;> omega
  · rw [if_neg h]
    exact (H.pros (j - s.length) (by omega)).coef i hi
theorem tg_ok (H : BatchOk o mt s p a4 a5 a6) {j : Nat} (hj : j < s.length + p.length) : (-10000 ≤ (tgOf s p j).f0 ∧ (tgOf s p j).f0 ≤ 10000) ∧ -10000 ≤ (tgOf s p j).f1 ∧ (tgOf s p j).f1 ≤ 10000 := by
  unfold tgOf
  by_cases h : j < s.length
  · rw [if_pos h]
    have := H.shares j h
    omega
  · rw [if_neg h]
    have := (H.pros (j - s.length) (by omega)).target
    omega
theorem form_tg {w W : World} {j : Nat} {f : F105} (h : FormAt w W s p j f) : f.tg = tgOf s p j := by
  unfold tgOf
  by_cases hj : j < s.length
  · obtain ⟨I, e, _⟩ := h.1 hj
    rw [if_pos hj, e]
  · obtain ⟨P, A, c, e, _⟩ := h.2 (by omega)
    rw [if_neg hj, e]
theorem form_enters {w W : World} {j : Nat} {f : F105} (h : FormAt w W s p j f) : ∀ args w, (callFunc f.fn args).run Try.prog w = .ok (.enter f.fn args) w := by
  by_cases hj : j < s.length
  · obtain ⟨I, e, _⟩ := h.1 hj
    rw [e]
    exact enters_of Try.func111 (by kernel_rfl) rfl
  · obtain ⟨P, A, c, e, _⟩ := h.2 (by omega)
    rw [e]
    exact enters_of Try.func112 (by kernel_rfl) rfl
theorem facQ118 (H : BatchOk o mt s p a4 a5 a6) (w : World) : FacQ 118 #[] (fun x => -lowM x) mt w := by
  intro W hW i hi A c hC hc
  have h := l118_calls (rd_T63 mt (i : Int)) A c W hC hc (mat_gok H hi)
  simpa using h
theorem facQ_form (H : BatchOk o mt s p a4 a5 a6) {w W0 W1 : World} {j F : Nat} {f : F105} (hF : FormAt w W0 s p j f) (hj : j < s.length + p.length) (hb : Below w.heap.size w W0)
    (hFc : W1.heap[F]? = some (.cells #[.func (.func f.fn) #[] f.lb, .int .i64 f.tg.f0, .int .i64 f.tg.f1] 105 (0, 0))) (hb1 : Below W0.heap.size W0 W1) :
    FacQ 120 #[.pointer (some ⟨F, 0, none⟩)] (upF s p j) mt W1 ∧ FacQ 123 #[.pointer (some ⟨F, 0, none⟩)] (dnF s p j) mt W1 := by
  have T := tg_ok H hj
  have hco : ∀ i : Nat, i < mt.length → CoefQ f.fn f.lb (coefOf s p j) (rd_T63 mt (i : Int)).f6.length W0 ∧ CfOk (coefOf s p j) (rd_T63 mt (i : Int)).f6.length := by
    intro i hi
    have M := H.mats i hi
    refine ⟨hF.coef hb _ (fun hh => ?_), by rw [M.len]; exact coef_cfok H hj⟩
    have := (H.pros (j - s.length) (by omega)).len
    rw [M.len, this]
    exact Int.le_refl _
  constructor
  · intro W hW i hi A c hC hc
    have h := l120_calls (rd_T63 mt (i : Int)) A c F f.fn f.lb (coefOf s p j) f.tg.f0 f.tg.f1 W0 W (form_enters hF) (hco i hi).1 (below_trans' hb1 hW) (blk_below hFc hW) hC hc (mat_gok H hi) (hco i hi).2 (by rw [form_tg hF]; exact T)
    rw [form_tg hF] at h
    exact h
  · intro W hW i hi A c hC hc
    have h := l123_calls (rd_T63 mt (i : Int)) A c F f.fn f.lb (coefOf s p j) f.tg.f0 f.tg.f1 W0 W (form_enters hF) (hco i hi).1 (below_trans' hb1 hW) (blk_below hFc hW) hC hc (mat_gok H hi) (hco i hi).2 (by rw [form_tg hF]; exact T)
    rw [form_tg hF] at h
    exact h
theorem facQ125 (H : BatchOk o mt s p a4 a5 a6) {W1 : World} {U : Nat} {u : Int} (hu : -10000 ≤ u ∧ u ≤ 10000) (hU : W1.heap[U]? = some (.cells #[.int .i64 u] 3 (0, 0))) :
    FacQ 125 #[.pointer (some ⟨U, 0, none⟩)] (rUp u) mt W1 ∧ FacQ 126 #[.pointer (some ⟨U, 0, none⟩)] (rDn u) mt W1 :=
  ⟨fun W hW i hi A c hC hc => l125_calls (rd_T63 mt (i : Int)) A c U u W (blk_below hU hW) hC hc (mat_gok H hi) hu (H.mats i hi).redox,
   fun W hW i hi A c hC hc => l126_calls (rd_T63 mt (i : Int)) A c U u W (blk_below hU hW) hC hc (mat_gok H hi) hu (H.mats i hi).redox⟩
end
theorem R_litW {α : Type} (d : Kd α) (base e : Nat) {W : World} {xs : List α} {inner : List Value} {ok okp : Nat → Prop} (hrep : Reps (d.M W base okp) d.sz xs inner) (hok : ∀ k, okp k → ok k) (hfresh : ok W.heap.size) (hbase : base ≤ W.heap.size) (hm : xs.length ≤ 9223372036854775807) :
    d.R e (W.alloc (.cells inner.toArray e)) base ok (.slice (some ⟨W.heap.size, 0, none⟩) xs.length xs.length) xs := by
  refine ⟨fun k hk => ?_, inner, ?_, ?_⟩
  · have : W.heap.size = k := by simpa [Value.ownBlock] using hk
    subst this
    exact hfresh
  · have h2 := World.ownsRow_lit (base := base) (e := e) (size := d.sz) W inner.toArray xs.length hbase (by simpa [maxLen] using hm) (by simpa using hrep.1)
    simpa using h2
  · refine hrep.imp_ (fun p c hp => d.M_mono (fun k hk => ⟨hok k hk.1, fun he => ?_⟩) (Kd.M_below (d.M_bound hp) (below_alloc (Below.refl _ _) _)))
    have h3 : k = W.heap.size := by simpa [Value.ownBlock] using he
    have := hk.2.2.1
    omega
theorem R_one51 {W : World} {base : Nat} {v : Value} {x : S51} (h : (Kd.int .i64).R 3 W base (fun _ => True) v x.f0) (hbase : base ≤ W.heap.size) :
    k51.R 51 (W.alloc (.cells #[v, .int .i64 x.f1] 51)) base (fun _ => True) (.slice (some ⟨W.heap.size, 0, none⟩) 1 1) [x] := by
  have hr : Reps (k51.M W base (fun _ => True)) k51.sz [x] [v, .int .i64 x.f1] := Reps.snoc (Reps.none _ _) (k51_mkM W base _ x h) rfl
  exact R_litW k51 base 51 hr (fun _ h => h) trivial hbase (by simp)
theorem pair_reads {W : World} {base : Nat} {v3 v1 v2 : Value} {xs : List S51} {x x' : S51} (HL : k51.R 51 W base (fun _ => True) v3 xs) (hx : 0 < xs.length) (h1 : (Kd.int .i64).R 3 W base (fun _ => True) v1 x.f0) (h2 : (Kd.int .i64).R 3 W base (fun _ => True) v2 x'.f0) (hbase : base ≤ W.heap.size) :
    ReadsRow (k51.M (W.alloc (.cells #[v1, .int .i64 x.f1, v2, .int .i64 x'.f1] 51)) base (fun j => some j ≠ v3.ownBlock)) k51.sz (W.alloc (.cells #[v1, .int .i64 x.f1, v2, .int .i64 x'.f1] 51)) (some ⟨W.heap.size, 0, none⟩) 2 [x, x'] := by
  obtain ⟨g, cap, rfl, _, hlt, cells, hg⟩ := Kd.R_form HL hx
  have e : ∀ j, j ≠ g → some j ≠ (Value.slice (some ⟨g, 0, none⟩) xs.length cap).ownBlock := by
    intro j hj he
    have : g = j := by simpa [Value.ownBlock] using he.symm
    exact hj this.symm
  have r1 := Kd.R_mono (Kd.R_types (t := 51) h1 hg (by decide)) (fun j hj => e j hj.2)
  have r2 := Kd.R_mono (Kd.R_types (t := 51) h2 hg (by decide)) (fun j hj => e j hj.2)
  have hr : Reps (k51.M W base (fun j => some j ≠ (Value.slice (some ⟨g, 0, none⟩) xs.length cap).ownBlock)) k51.sz [x, x'] [v1, .int .i64 x.f1, v2, .int .i64 x'.f1] := Reps.snoc (Reps.snoc (Reps.none _ _) (k51_mkM W base _ x r1) rfl) (k51_mkM W base _ x' r2) rfl
  have r := R_litW k51 base 51 hr (fun _ h => h) (e _ (Nat.ne_of_gt hlt)) hbase (by simp)
  obtain ⟨A, c, he, _, hrd⟩ := OwnRow.reads r.2
  cases he
  exact ReadsRow.imp_ hrd (Below.refl _ _) (fun _ _ hp => k51.M_mono (fun _ hk => hk.1) hp)
theorem info51 : (Try.prog.info? 51).map (fun i => (i.zero, i.size, i.bytes)) = some (some (.agg #[.slice none 0 0, .int .i64 0]), 2, 32) := by kernel_rfl
structure LinesW (w W : World) (cs : Array Value) (xs : List S51) (v : Value) : Prop where
  below : Below w.heap.size w W
  box : W.heap[w.heap.size]? = some (.cells cs 29 (0, 0))
  list : k51.R 51 W w.heap.size (fun _ => True) v xs
theorem LinesW.later {w W W' : World} {cs : Array Value} {xs : List S51} {v : Value} (h : LinesW w W cs xs v) (hb : Below W.heap.size W W') : LinesW w W' cs xs v :=
  ⟨below_step h.below hb, blk_below h.box hb, Kd.R_below h.list hb⟩
structure FormsOk (w W : World) (s : List S27) (p : List S65) (A : Option Addr) (c : Nat) (fs : List F105) : Prop where
  row : k105.R 105 W w.heap.size (fun _ => True) (.slice A fs.length c) fs
  at_ : ∀ j (hj : j < fs.length), FormAt w W s p j fs[j]
theorem FormsOk.reads {w W : World} {s : List S27} {p : List S65} {A : Option Addr} {c : Nat} {fs : List F105} (h : FormsOk w W s p A c fs) : Kd.C k105 W A fs.length fs := by
  obtain ⟨A', c', he, _, hC⟩ := Kd.R_reads h.row
  cases he
  exact hC
theorem FormsOk.later {w W W' : World} {s : List S27} {p : List S65} {A : Option Addr} {c : Nat} {fs : List F105} (h : FormsOk w W s p A c fs) (hb : Below W.heap.size W W') : FormsOk w W' s p A c fs :=
  ⟨Kd.R_below h.row hb, fun j hj => (h.at_ j hj).below hb⟩
theorem FormsOk.grown {w W W' : World} {s : List S27} {p : List S65} {A : Option Addr} {c : Nat} {fs : List F105} {base : Nat} {v3 : Value} {xs : List S51} (h : FormsOk w W s p A c fs) (HL : k51.R 51 W base (fun _ => True) v3 xs) (hx : 0 < xs.length) (hg : W.grownBy W' v3.ownBlock) : FormsOk w W' s p A c fs := by
  refine ⟨?_, fun j hj => ⟨fun hh => ?_, fun hh => ?_⟩⟩
  · obtain ⟨g, cap, rfl, _, hlt, cells, hgb⟩ := Kd.R_form HL hx
    refine Kd.R_mono (Kd.R_grown (Kd.R_types (t := 51) h.row hgb (by decide)) hg (fun k hk he => hk.2 ?_)) (fun _ _ => trivial)
    have : g = k := by simpa [Value.ownBlock] using he.symm
    exact this.symm
  · obtain ⟨I, e, hI⟩ := (h.at_ j hj).1 hh
    exact ⟨I, e, blk_grown hI hg (Kd.R_ne HL hI (by decide))⟩
  · obtain ⟨P, A1, c1, e, hP, hC⟩ := (h.at_ j hj).2 hh
    exact ⟨P, A1, c1, e, blk_grown hP hg (Kd.R_ne HL hP (by decide)), hC⟩
def linesT : Bool × List (List Nat × List Nat) := (true, [([], []), ([], []), ([], []), ([1, 2], [1, 2]), ([], []), ([], []), ([4, 5, 3], [4, 5]), ([3, 6], [3, 6]), ([0, 7, 6], [0, 7]), ([8, 8, 0, 1, 2, 3, 4, 5, 6, 7, 8], [0, 8])])
def linesB : List Nat := [0, 0, 0, 6, 0, 0, 62, 126, 255, 511]
theorem lines_tab : rtab .any (opsOf Try.f63 5) = linesT := by kernel_rfl
theorem lines_bits : waitsOk linesT.2 linesB = true := by kernel_rfl
def lines7T : Bool × List (List Nat × List Nat) := (true, [([], []), ([0], [0]), ([1], [1]), ([], []), ([3], [3]), ([4], [4]), ([], []), ([], []), ([6, 2, 0, 1, 2, 6, 7], [2, 6]), ([7, 5, 8, 0, 1, 2, 3, 4, 5, 6, 7, 8], [5, 7])])
def lines7B : List Nat := [0, 1, 3, 0, 8, 24, 0, 0, 199, 511]
theorem lines7_tab : rtab .any (opsOf Try.f63 7) = lines7T := by kernel_rfl
theorem lines7_bits : waitsOk lines7T.2 lines7B = true := by kernel_rfl
def lines8T : Bool × List (List Nat × List Nat) := (true, [([], []), ([], []), ([], []), ([1, 2], [1, 2]), ([], []), ([], []), ([4, 5, 3], [4, 5]), ([3, 6], [3, 6]), ([0, 7, 6], [0, 7]), ([8, 8, 0, 1, 2, 3, 4, 5, 6, 7, 8], [8])])
theorem lines8_tab : rtab .any (opsOf Try.f63 8) = lines8T := by kernel_rfl
theorem lines8_bits : waitsOk lines8T.2 linesB = true := by kernel_rfl
set_option maxHeartbeats 8000000 in
set_option maxRecDepth 100000 in
theorem lines_calls (A0_0 : Option Addr) (c0_0 : Nat) (l0_0 : List ByteArray) (A0_1 : Option Addr) (c0_1 : Nat) (l0_1 : List (S63)) (A0_2 : Option Addr) (c0_2 : Nat) (l0_2 : List (S27)) (A0_3 : Option Addr) (c0_3 : Nat) (l0_3 : List (S65)) (a0_4 : Int) (a0_5 : Int) (a0_6 : Int) (w : World) (hr0_0 : Kd.C Kd.string w A0_0 l0_0.length l0_0) (hc0_0 : l0_0.length ≤ c0_0) (hr0_1 : Kd.C k63 w A0_1 l0_1.length l0_1) (hc0_1 : l0_1.length ≤ c0_1) (hr0_2 : Kd.C k27 w A0_2 l0_2.length l0_2) (hc0_2 : l0_2.length ≤ c0_2) (hr0_3 : Kd.C k65 w A0_3 l0_3.length l0_3) (hc0_3 : l0_3.length ≤ c0_3)
    (H : BatchOk l0_0 l0_1 l0_2 l0_3 a0_4 a0_5 a0_6) :
    Calls Try.prog 63 #[.agg #[.slice A0_0 l0_0.length c0_0, .slice A0_1 l0_1.length c0_1, .slice A0_2 l0_2.length c0_2, .slice A0_3 l0_3.length c0_3, .int .i64 a0_4, .int .i64 a0_5, .int .i64 a0_6]] w fun e w' => ∃ v0_ : Value, e = .returned v0_ ∧ Kd.R k51 51 w' w.heap.size (fun _ => True) v0_ (linesV l0_1 l0_2 l0_3 a0_4 a0_5 a0_6) ∧ Below w.heap.size w w' := by
  have hb0 : Below w.heap.size w (w.alloc (.cells #[.slice A0_0 l0_0.length c0_0, .slice A0_1 l0_1.length c0_1, .slice A0_2 l0_2.length c0_2, .slice A0_3 l0_3.length c0_3, .int .i64 a0_4, .int .i64 a0_5, .int .i64 a0_6] 29)) := below_alloc (Below.refl _ _) _
  have hbk := blk_new w (.cells #[.slice A0_0 l0_0.length c0_0, .slice A0_1 l0_1.length c0_1, .slice A0_2 l0_2.length c0_2, .slice A0_3 l0_3.length c0_3, .int .i64 a0_4, .int .i64 a0_5, .int .i64 a0_6] 29)
  have hgo := line_calls A0_0 A0_1 A0_2 A0_3 l0_0.length c0_0 c0_1 l0_2.length c0_2 l0_3.length c0_3 l0_1 a0_4 a0_5 a0_6 (-1000 * a0_6) 118 #[] (fun x => -lowM x) (w.alloc (.cells #[.slice A0_0 l0_0.length c0_0, .slice A0_1 l0_1.length c0_1, .slice A0_2 l0_2.length c0_2, .slice A0_3 l0_3.length c0_3, .int .i64 a0_4, .int .i64 a0_5, .int .i64 a0_6] 29)) (enters_of Try.func118 (by kernel_rfl) rfl) (facQ118 H _) (Kd.C_below hr0_1 hb0) H.m12
  have HR0 := Sd.mk hr0_0
  have HC0 := Sd.mk hc0_0
  have HR1 := Sd.mk hr0_1
  have HC1 := Sd.mk hc0_1
  have HR2 := Sd.mk hr0_2
  have HC2 := Sd.mk hc0_2
  have HR3 := Sd.mk hr0_3
  have HC3 := Sd.mk hc0_3
  have HH := Sd.mk H
  have HB := Sd.mk hb0
  have BK := Sd.mk hbk
  have hw6 := H.wanted
  obtain ⟨hw6a, hw6b⟩ := hw6
  have k0 : (w.alloc (.cells #[.slice A0_0 l0_0.length c0_0, .slice A0_1 l0_1.length c0_1, .slice A0_2 l0_2.length c0_2, .slice A0_3 l0_3.length c0_3, .int .i64 a0_4, .int .i64 a0_5, .int .i64 a0_6] 29)).cell? ⟨w.heap.size, 0, none⟩ = some (.slice A0_0 l0_0.length c0_0) := (blk_cell hbk 0).trans rfl
  have k1 : (w.alloc (.cells #[.slice A0_0 l0_0.length c0_0, .slice A0_1 l0_1.length c0_1, .slice A0_2 l0_2.length c0_2, .slice A0_3 l0_3.length c0_3, .int .i64 a0_4, .int .i64 a0_5, .int .i64 a0_6] 29)).cell? ⟨w.heap.size, 1, none⟩ = some (.slice A0_1 l0_1.length c0_1) := (blk_cell hbk 1).trans rfl
  have k2 : (w.alloc (.cells #[.slice A0_0 l0_0.length c0_0, .slice A0_1 l0_1.length c0_1, .slice A0_2 l0_2.length c0_2, .slice A0_3 l0_3.length c0_3, .int .i64 a0_4, .int .i64 a0_5, .int .i64 a0_6] 29)).cell? ⟨w.heap.size, 2, none⟩ = some (.slice A0_2 l0_2.length c0_2) := (blk_cell hbk 2).trans rfl
  have k3 : (w.alloc (.cells #[.slice A0_0 l0_0.length c0_0, .slice A0_1 l0_1.length c0_1, .slice A0_2 l0_2.length c0_2, .slice A0_3 l0_3.length c0_3, .int .i64 a0_4, .int .i64 a0_5, .int .i64 a0_6] 29)).cell? ⟨w.heap.size, 3, none⟩ = some (.slice A0_3 l0_3.length c0_3) := (blk_cell hbk 3).trans rfl
  have k4 : (w.alloc (.cells #[.slice A0_0 l0_0.length c0_0, .slice A0_1 l0_1.length c0_1, .slice A0_2 l0_2.length c0_2, .slice A0_3 l0_3.length c0_3, .int .i64 a0_4, .int .i64 a0_5, .int .i64 a0_6] 29)).cell? ⟨w.heap.size, 4, none⟩ = some (.int .i64 a0_4) := (blk_cell hbk 4).trans rfl
  have k5 : (w.alloc (.cells #[.slice A0_0 l0_0.length c0_0, .slice A0_1 l0_1.length c0_1, .slice A0_2 l0_2.length c0_2, .slice A0_3 l0_3.length c0_3, .int .i64 a0_4, .int .i64 a0_5, .int .i64 a0_6] 29)).cell? ⟨w.heap.size, 5, none⟩ = some (.int .i64 a0_5) := (blk_cell hbk 5).trans rfl
  have k6 : (w.alloc (.cells #[.slice A0_0 l0_0.length c0_0, .slice A0_1 l0_1.length c0_1, .slice A0_2 l0_2.length c0_2, .slice A0_3 l0_3.length c0_3, .int .i64 a0_4, .int .i64 a0_5, .int .i64 a0_6] 29)).cell? ⟨w.heap.size, 6, none⟩ = some (.int .i64 a0_6) := (blk_cell hbk 6).trans rfl
  have k6' : (w.alloc (.cells #[.slice A0_0 l0_0.length c0_0, .slice A0_1 l0_1.length c0_1, .slice A0_2 l0_2.length c0_2, .slice A0_3 l0_3.length c0_3, .int .i64 a0_4, .int .i64 a0_5, .int .i64 a0_6] 29)).cell? ⟨w.heap.size, 0 + 6, none⟩ = some (.int .i64 a0_6) := (blk_cell hbk 6).trans rfl
  clear hr0_0 hc0_0 hr0_1 hc0_1 hr0_2 hc0_2 hr0_3 hc0_3 H hb0 hbk
  go_enter Try.func63, Try.ntmps63
  go_wp2_with fail
  clear k0 k1 k2 k3 k4 k5 k6 k6' hw6a hw6b
  generalize w.alloc (.cells #[.slice A0_0 l0_0.length c0_0, .slice A0_1 l0_1.length c0_1, .slice A0_2 l0_2.length c0_2, .slice A0_3 l0_3.length c0_3, .int .i64 a0_4, .int .i64 a0_5, .int .i64 a0_6] 29) = w0 at *
  refine hgo.mono ?_
  clear hgo
  rintro e w1 ⟨v, rfl, hR, hb⟩
  have hlw : LinesW w (w1.alloc (.cells #[v, .int .i64 (-1000 * a0_6)] 51)) #[.slice A0_0 l0_0.length c0_0, .slice A0_1 l0_1.length c0_1, .slice A0_2 l0_2.length c0_2, .slice A0_3 l0_3.length c0_3, .int .i64 a0_4, .int .i64 a0_5, .int .i64 a0_6] (headL l0_1 l0_2 l0_3 a0_6 0) (.slice (some ⟨w1.heap.size, 0, none⟩) 1 1) :=
    ⟨below_alloc (below_step HB.out hb) _, blk_alloc (blk_below BK.out hb) _, R_one51 (x := ⟨List.map (fun x => -lowM x) l0_1, -1000 * a0_6⟩) (Kd.R_lower hR (below_size HB.out)) (below_size (below_step HB.out hb))⟩
  have HLW := Sd.mk hlw
  have hbA : Below w.heap.size w (w1.alloc (.cells #[v, .int .i64 (-1000 * a0_6)] 51)) := hlw.below
  have H := HH.out
  have hsz : (l0_2.length + l0_3.length + 1) * 24 ≤ 140737488355328 := Nat.le_trans (Nat.mul_le_mul_right 24 (show l0_2.length + l0_3.length + 1 ≤ 19 by have := H.slen; have := H.o12; have := H.p6; omega)) (by decide)
  have hgo := forms_calls A0_0 c0_0 l0_0 A0_1 c0_1 l0_1 A0_2 c0_2 l0_2 A0_3 c0_3 l0_3 a0_4 a0_5 a0_6 w (w1.alloc (.cells #[v, .int .i64 (-1000 * a0_6)] 51)) hbA (Kd.C_below HR0.out hbA) HC0.out (Kd.C_below HR1.out hbA) HC1.out (Kd.C_below HR2.out hbA) HC2.out HR3.out HC3.out hsz
  have k0 : (w1.alloc (.cells #[v, .int .i64 (-1000 * a0_6)] 51)).cell? ⟨w.heap.size, 0, none⟩ = some (.slice A0_0 l0_0.length c0_0) := (blk_cell hlw.box 0).trans rfl
  have k1 : (w1.alloc (.cells #[v, .int .i64 (-1000 * a0_6)] 51)).cell? ⟨w.heap.size, 1, none⟩ = some (.slice A0_1 l0_1.length c0_1) := (blk_cell hlw.box 1).trans rfl
  have k2 : (w1.alloc (.cells #[v, .int .i64 (-1000 * a0_6)] 51)).cell? ⟨w.heap.size, 2, none⟩ = some (.slice A0_2 l0_2.length c0_2) := (blk_cell hlw.box 2).trans rfl
  have k3 : (w1.alloc (.cells #[v, .int .i64 (-1000 * a0_6)] 51)).cell? ⟨w.heap.size, 3, none⟩ = some (.slice A0_3 l0_3.length c0_3) := (blk_cell hlw.box 3).trans rfl
  have k4 : (w1.alloc (.cells #[v, .int .i64 (-1000 * a0_6)] 51)).cell? ⟨w.heap.size, 4, none⟩ = some (.int .i64 a0_4) := (blk_cell hlw.box 4).trans rfl
  have k5 : (w1.alloc (.cells #[v, .int .i64 (-1000 * a0_6)] 51)).cell? ⟨w.heap.size, 5, none⟩ = some (.int .i64 a0_5) := (blk_cell hlw.box 5).trans rfl
  have k6 : (w1.alloc (.cells #[v, .int .i64 (-1000 * a0_6)] 51)).cell? ⟨w.heap.size, 6, none⟩ = some (.int .i64 a0_6) := (blk_cell hlw.box 6).trans rfl
  clear hlw hbA H hsz hR hb HB BK
  go_wp2_with fail
  clear k0 k1 k2 k3 k4 k5 k6
  generalize w1.alloc (.cells #[v, .int .i64 (-1000 * a0_6)] 51) = wA at *
  refine hgo.mono ?_
  clear hgo
  rintro e w2 ⟨Af, cf, fs, rfl, hfc, hfC, hfl, hF, hb2, hfR⟩
  have HLW2 := Sd.mk (HLW.out.later hb2)
  have HFO := Sd.mk (FormsOk.mk (Kd.R_lower hfR (below_size HLW.out.below)) hF)
  have HFL := Sd.mk hfl
  have hfz : (fs.length : Int) < 9223372036854775807 := by have H := HH.out; have := H.slen; have := H.o12; have := H.p6; omega
  have HFZ := Sd.mk hfz
  clear HLW hb2 hfC hfl hF hfR
  go_wp2
  clear hfc hfz
  go_loopg [3, 17] fs.length (fun gq v3 v17 wr => ∃ k : Nat, v17 = .int .i64 k ∧ k ≤ fs.length ∧ fs.length - k ≤ gq ∧ Sd (LinesW w wr #[.slice A0_0 l0_0.length c0_0, .slice A0_1 l0_1.length c0_1, .slice A0_2 l0_2.length c0_2, .slice A0_3 l0_3.length c0_3, .int .i64 a0_4, .int .i64 a0_5, .int .i64 a0_6] (headL l0_1 l0_2 l0_3 a0_6 k) v3) ∧ Sd (FormsOk w wr l0_2 l0_3 Af cf fs))
  case atStart => exact ⟨0, rfl, Nat.zero_le _, by omega, HLW2, HFO⟩
  case round =>
    clear HLW2 HFO
    obtain ⟨k, rfl, hk, hgk, HW, HFO⟩ := hrel
    have hfz := HFZ.out
    by_cases hlt : k < fs.length
    · have hltz : (k : Int) < (fs.length : Int) := by omega
      obtain ⟨ad, rfl, hx0, hx1, hx2⟩ := at_T105 HFO.out.reads k hlt
      have HFK := Sd.mk (HFO.out.at_ k hlt)
      generalize hff : fs[k] = f at *
      clear hff
      have HLX := Sd.mk (HW.out.later (below_alloc (Below.refl _ _) (.cells #[.func (.func f.fn) #[] f.lb, .int .i64 f.tg.f0, .int .i64 f.tg.f1] 105)))
      have BF := Sd.mk (blk_new wr (.cells #[.func (.func f.fn) #[] f.lb, .int .i64 f.tg.f0, .int .i64 f.tg.f1] 105))
      have H := HH.out
      have hkl : k < l0_2.length + l0_3.length := by have := HFL.out; omega
      have hfq := facQ_form H (F := wr.heap.size) (W1 := wr.alloc (.cells #[.func (.func f.fn) #[] f.lb, .int .i64 f.tg.f0, .int .i64 f.tg.f1] 105)) HFK.out hkl HW.out.below (blk_new wr (.cells #[.func (.func f.fn) #[] f.lb, .int .i64 f.tg.f0, .int .i64 f.tg.f1] 105)) (below_alloc (Below.refl _ _) _)
      have HQ := Sd.mk hfq
      have HFY := Sd.mk (HFO.out.later (below_alloc (Below.refl _ _) (.cells #[.func (.func f.fn) #[] f.lb, .int .i64 f.tg.f0, .int .i64 f.tg.f1] 105)))
      have HKL := Sd.mk hkl
      have HK := Sd.mk hgk
      have HLT := Sd.mk hlt
      have HM12 := Sd.mk H.m12
      clear HW HFO H hkl hfq hgk hlt
      go_upto_region 5 with (fail)
      clear hx0 hx1 hx2
      generalize wr.alloc (.cells #[.func (.func f.fn) #[] f.lb, .int .i64 f.tg.f0, .int .i64 f.tg.f1] 105) = WX at *
      generalize hXX : wr.heap.size = X at *
      clear hXX
      have HB := Sd.mk HLX.out.below
      have BK := Sd.mk HLX.out.box
      have HL := Sd.mk HLX.out.list
      have HBZ := Sd.mk (Below.refl WX.heap.size WX)
      clear HLX BF
      refine start_ (n := 10) (S := fun w' => w'.cell? ⟨w.heap.size, 0, none⟩ = some (.slice A0_0 l0_0.length c0_0) ∧ w'.cell? ⟨w.heap.size, 1, none⟩ = some (.slice A0_1 l0_1.length c0_1) ∧ w'.cell? ⟨w.heap.size, 2, none⟩ = some (.slice A0_2 l0_2.length c0_2) ∧ w'.cell? ⟨w.heap.size, 3, none⟩ = some (.slice A0_3 l0_3.length c0_3) ∧ w'.cell? ⟨w.heap.size, 4, none⟩ = some (.int .i64 a0_4) ∧ w'.cell? ⟨w.heap.size, 5, none⟩ = some (.int .i64 a0_5) ∧ w'.cell? ⟨w.heap.size, 6, none⟩ = some (.int .i64 a0_6)) (ds := []) #[false, false, false, false, false, false, false, false, false, false] (by kernel_rfl) rfl rfl ⟨(blk_cell BK.out 0).trans rfl, (blk_cell BK.out 1).trans rfl, (blk_cell BK.out 2).trans rfl, (blk_cell BK.out 3).trans rfl, (blk_cell BK.out 4).trans rfl, (blk_cell BK.out 5).trans rfl, (blk_cell BK.out 6).trans rfl⟩ (fun hHeld => ?_); refine with_tabW lines_tab lines_bits (fun HT_ HW_ => ?_)
      replace BK := Sd.mk (blk_drew BK.out)
      replace HL := Sd.mk (Kd.R_drew HL.out)
      replace HB := Sd.mk (below_drew1 HB.out)
      replace HBZ := Sd.mk (below_drew1 HBZ.out)
      replace HFY := Sd.mk (HFY.out.later (below_drew1 (Below.refl WX.heap.size WX)))
      generalize WX.drew = W0 at BK HL HB HBZ HFY hHeld ⊢
      refine pure_ (i := 0) (N := some 21) (v := ?_) (a' := ?_) #[true, false, false, false, false, false, false, false, false, false] rfl rfl (any_of HT_.out (by kernel_rfl)) (fun _ _ _ h => h) (Or.inl ⟨by rfl, ?_⟩) ?_ ?_
      rotate_left
      · intro w'
        go_simp
        with_reducible rfl
      rotate_left
      · simp only [Act.put, List.setIfInBounds_toArray, List.set_cons_zero, List.set_cons_succ, i64_w, i32_w]
        rfl
      refine take_ (i := 1) (N := some 22) (v := ?_) (a' := ?_) #[true, true, false, false, false, false, false, false, false, false] rfl rfl (take_ofW HT_.out HW_.out (by kernel_rfl)) (fun _ _ _ h => h) (Or.inl ⟨by rfl, ?_⟩) hHeld ?_ ?_
      rotate_left
      · rintro w' ⟨s0, s1, s2, s3, s4, s5, s6⟩
        go_simp
        with_reducible rfl
      rotate_left
      · simp only [Act.put, List.setIfInBounds_toArray, List.set_cons_zero, List.set_cons_succ, i64_w, i32_w]
        rfl
      refine pure_ (i := 2) (N := some 23) (v := ?_) (a' := ?_) #[true, true, true, false, false, false, false, false, false, false] rfl rfl (any_of HT_.out (by kernel_rfl)) (fun _ _ _ h => h) (Or.inl ⟨by rfl, ?_⟩) ?_ ?_
      rotate_left
      · intro w'
        go_simp
        with_reducible rfl
      rotate_left
      · simp only [Act.put, List.setIfInBounds_toArray, List.set_cons_zero, List.set_cons_succ, i64_w, i32_w]
        rfl
      refine take_ (i := 4) (N := some 25) (v := ?_) (a' := ?_) #[true, true, true, false, true, false, false, false, false, false] rfl rfl (take_ofW HT_.out HW_.out (by kernel_rfl)) (fun _ _ _ h => h) (Or.inl ⟨by rfl, ?_⟩) hHeld ?_ ?_
      rotate_left
      · rintro w' ⟨s0, s1, s2, s3, s4, s5, s6⟩
        go_simp
        with_reducible rfl
      rotate_left
      · simp only [Act.put, List.setIfInBounds_toArray, List.set_cons_zero, List.set_cons_succ, i64_w, i32_w]
        rfl
      refine pure_ (i := 5) (N := some 26) (v := ?_) (a' := ?_) #[true, true, true, false, true, true, false, false, false, false] rfl rfl (any_of HT_.out (by kernel_rfl)) (fun _ _ _ h => h) (Or.inl ⟨by rfl, ?_⟩) ?_ ?_
      rotate_left
      · intro w'
        go_simp
        with_reducible rfl
      rotate_left
      · simp only [Act.put, List.setIfInBounds_toArray, List.set_cons_zero, List.set_cons_succ, i64_w, i32_w]
        rfl
      refine one_ (i := 3) (N := some 24) #[true, true, true, true, true, true, false, false, false, false] rfl rfl (one_of HT_.out (by kernel_rfl)) (by decide) (fun K hK => ?_)
      refine goes_ Try.func117 (by kernel_rfl) rfl #[.agg #[.slice A0_0 l0_0.length c0_0, .slice A0_1 l0_1.length c0_1, .slice A0_2 l0_2.length c0_2, .slice A0_3 l0_3.length c0_3, .int .i64 a0_4, .int .i64 a0_5, .int .i64 a0_6], .int .i64 0, .func (.func 120) #[] #[.pointer (some ⟨X, 0, none⟩)]] (by rfl) rfl rfl (by (try simp only [List.map_toArray, List.map_cons, List.map_nil]); first | done | rfl) ?_
      refine (line_calls A0_0 A0_1 A0_2 A0_3 l0_0.length c0_0 c0_1 l0_2.length c0_2 l0_3.length c0_3 l0_1 a0_4 a0_5 a0_6 0 120 #[.pointer (some ⟨X, 0, none⟩)] (upF l0_2 l0_3 k) _ (enters_of Try.func120 (by kernel_rfl) rfl) (fun W hW => HQ.out.1 W (below_trans' HBZ.out hW)) (Kd.C_below HR1.out HB.out) HM12.out).mono ?_
      rintro e w4 ⟨v1, rfl, hR, hb⟩
      refine ⟨_, rfl, ?_⟩
      have Hv1 := Sd.mk (Kd.R_lower hR (below_size HB.out))
      replace BK := Sd.mk (blk_below BK.out hb)
      replace HL := Sd.mk (Kd.R_below HL.out hb)
      replace HBZ := Sd.mk (below_step HBZ.out hb)
      replace HFY := Sd.mk (HFY.out.later hb)
      replace HB := Sd.mk (below_step HB.out hb)
      clear hb hR
      refine hK.out _ _ ⟨(blk_cell BK.out 0).trans rfl, (blk_cell BK.out 1).trans rfl, (blk_cell BK.out 2).trans rfl, (blk_cell BK.out 3).trans rfl, (blk_cell BK.out 4).trans rfl, (blk_cell BK.out 5).trans rfl, (blk_cell BK.out 6).trans rfl⟩ (fun hHeld => ?_)
      clear hK K
      refine norm_ (a' := ?_) ?_ ?_
      rotate_left
      · show Act.put _ (some 24) _ = _
        simp only [Act.put, List.setIfInBounds_toArray, List.set_cons_zero, List.set_cons_succ, i64_w, i32_w]
        rfl
      refine one_ (i := 6) (N := some 27) #[true, true, true, true, true, true, true, false, false, false] rfl rfl (one_of HT_.out (by kernel_rfl)) (by decide) (fun K hK => ?_)
      refine goes_ Try.func117 (by kernel_rfl) rfl #[.agg #[.slice A0_0 l0_0.length c0_0, .slice A0_1 l0_1.length c0_1, .slice A0_2 l0_2.length c0_2, .slice A0_3 l0_3.length c0_3, .int .i64 a0_4, .int .i64 a0_5, .int .i64 a0_6], .int .i64 0, .func (.func 123) #[] #[.pointer (some ⟨X, 0, none⟩)]] (by rfl) rfl rfl (by (try simp only [List.map_toArray, List.map_cons, List.map_nil]); first | done | rfl) ?_
      refine (line_calls A0_0 A0_1 A0_2 A0_3 l0_0.length c0_0 c0_1 l0_2.length c0_2 l0_3.length c0_3 l0_1 a0_4 a0_5 a0_6 0 123 #[.pointer (some ⟨X, 0, none⟩)] (dnF l0_2 l0_3 k) _ (enters_of Try.func123 (by kernel_rfl) rfl) (fun W hW => HQ.out.2 W (below_trans' HBZ.out hW)) (Kd.C_below HR1.out HB.out) HM12.out).mono ?_
      rintro e w4 ⟨v2, rfl, hR, hb⟩
      refine ⟨_, rfl, ?_⟩
      have Hv2 := Sd.mk (Kd.R_lower hR (below_size HB.out))
      replace Hv1 := Sd.mk (Kd.R_below Hv1.out hb)
      replace BK := Sd.mk (blk_below BK.out hb)
      replace HL := Sd.mk (Kd.R_below HL.out hb)
      replace HBZ := Sd.mk (below_step HBZ.out hb)
      replace HFY := Sd.mk (HFY.out.later hb)
      replace HB := Sd.mk (below_step HB.out hb)
      clear hb hR
      refine hK.out _ _ ⟨(blk_cell BK.out 0).trans rfl, (blk_cell BK.out 1).trans rfl, (blk_cell BK.out 2).trans rfl, (blk_cell BK.out 3).trans rfl, (blk_cell BK.out 4).trans rfl, (blk_cell BK.out 5).trans rfl, (blk_cell BK.out 6).trans rfl⟩ (fun hHeld => ?_)
      clear hK K
      refine norm_ (a' := ?_) ?_ ?_
      rotate_left
      · show Act.put _ (some 27) _ = _
        simp only [Act.put, List.setIfInBounds_toArray, List.set_cons_zero, List.set_cons_succ, i64_w, i32_w]
        rfl
      refine one_ (i := 7) (N := some 28) #[true, true, true, true, true, true, true, true, false, false] rfl rfl (one_of HT_.out (by kernel_rfl)) (by decide) (fun K hK => ?_)
      refine value_ (w1 := ?_) (v := ?_) (by rfl) rfl ?_ ?_
      rotate_left 2
      · go_simp
        constructor
        · rfl
        · rfl
      refine hK.out _ _ ⟨(blk_cell (blk_alloc BK.out _) 0).trans rfl, (blk_cell (blk_alloc BK.out _) 1).trans rfl, (blk_cell (blk_alloc BK.out _) 2).trans rfl, (blk_cell (blk_alloc BK.out _) 3).trans rfl, (blk_cell (blk_alloc BK.out _) 4).trans rfl, (blk_cell (blk_alloc BK.out _) 5).trans rfl, (blk_cell (blk_alloc BK.out _) 6).trans rfl⟩ (fun hHeld => ?_)
      clear hK K
      refine norm_ (a' := ?_) ?_ ?_
      rotate_left
      · show Act.put _ (some 28) _ = _
        simp only [Act.put, List.setIfInBounds_toArray, List.set_cons_zero, List.set_cons_succ, i64_w, i32_w]
        rfl
      refine one_ (i := 8) (N := some 29) #[true, true, true, true, true, true, true, true, true, false] rfl rfl (one_of HT_.out (by kernel_rfl)) (by decide) (fun K hK => ?_)
      refine Kd.R_append_rows_step k51 (w0 := w) w.heap.size (by rfl) (.tmp 21) (.tmp 28) 46 51 (.agg #[.slice none 0 0, .int .i64 0]) 32 rfl Try.underlying46 info51 rfl (by decide) (by omega) u3 (headL l0_1 l0_2 l0_3 a0_6 k) (pairL l0_1 l0_2 l0_3 k) (some ⟨_, 0, none⟩) 2 2 (fun _ => True) (fun j => some j ≠ u3.ownBlock) rfl rfl (Kd.R_alloc HL.out _) (pair_reads HL.out (by rw [headL_len]; omega) Hv1.out Hv2.out (below_size HB.out)) (fun _ _ hp => hp) (fun _ hk => ⟨trivial, hk⟩) (fun _ _ => trivial) (below_alloc HB.out _) ?aS ?aL ?_
      (case aS => exact below_size (below_alloc HB.out _))
      (case aL => exact (by rw [headL_len]; exact Nat.le_trans (Nat.mul_le_mul_right 32 (show 1 + 2 * k + 2 ≤ 100 by have := HKL.out; have H := HH.out; have := H.slen; have := H.o12; have := H.p6; omega)) (by decide)))
      intro v5 w5 ho hb hg hat
      have BK2 := Sd.mk (blk_grown (blk_alloc BK.out _) hg (Kd.R_ne HL.out BK.out (by decide)))
      have HLW := Sd.mk (LinesW.mk hb BK2.out ho)
      have HFX := Sd.mk ((HFY.out.later (below_alloc (Below.refl _ _) _)).grown (Kd.R_alloc HL.out _) (by rw [headL_len]; omega) hg)
      clear BK HL HB Hv1 Hv2 HFY hb ho hat hg
      refine hK.out _ _ ⟨(blk_cell BK2.out 0).trans rfl, (blk_cell BK2.out 1).trans rfl, (blk_cell BK2.out 2).trans rfl, (blk_cell BK2.out 3).trans rfl, (blk_cell BK2.out 4).trans rfl, (blk_cell BK2.out 5).trans rfl, (blk_cell BK2.out 6).trans rfl⟩ (fun hHeld => ?_)
      clear hK K
      refine norm_ (a' := ?_) ?_ ?_
      rotate_left
      · show Act.put _ (some 29) _ = _
        simp only [Act.put, List.setIfInBounds_toArray, List.set_cons_zero, List.set_cons_succ, i64_w, i32_w]
        rfl
      refine pure_ (i := 9) (N := some 3) (v := ?_) (a' := ?_) #[true, true, true, true, true, true, true, true, true, true] rfl rfl (any_of HT_.out (by kernel_rfl)) (fun _ _ _ h => h) (Or.inl ⟨by rfl, ?_⟩) ?_ ?_
      rotate_left
      · intro w'
        go_simp
        with_reducible rfl
      rotate_left
      · simp only [Act.put, List.setIfInBounds_toArray, List.set_cons_zero, List.set_cons_succ, i64_w, i32_w]
        rfl
      refine done_ (done_of HT_.out (by kernel_rfl)) ?_
      have hfz := HFZ.out
      have hlt := HLT.out
      have hgk := HK.out
      go_wp2
      go_roundg (fs.length - (k + 1))
      case measure => omega
      case rel => exact ⟨k + 1, by first | rfl | (rw [wrap_id (by omega) (by omega)]; rfl), by omega, by omega, HLW, HFX⟩
    · have H := HH.out
      have hkn : k = l0_2.length + l0_3.length := by have := HFL.out; omega
      have hltz : ¬ (k : Int) < (fs.length : Int) := by omega
      have HB := Sd.mk HW.out.below
      have BK := Sd.mk HW.out.box
      have HL := Sd.mk HW.out.list
      have HM12 := Sd.mk H.m12
      have HRX := Sd.mk H.redox
      have HKN := Sd.mk hkn
      have HSZ := Sd.mk (show 1 + 2 * k + 2 ≤ 100 by have := H.slen; have := H.o12; have := H.p6; omega)
      clear HW HFO H hkn hgk
      go_upto_region 7 with (fail)
      refine start_ (n := 10) (S := fun w' => w'.cell? ⟨w.heap.size, 0, none⟩ = some (.slice A0_0 l0_0.length c0_0) ∧ w'.cell? ⟨w.heap.size, 1, none⟩ = some (.slice A0_1 l0_1.length c0_1) ∧ w'.cell? ⟨w.heap.size, 2, none⟩ = some (.slice A0_2 l0_2.length c0_2) ∧ w'.cell? ⟨w.heap.size, 3, none⟩ = some (.slice A0_3 l0_3.length c0_3) ∧ w'.cell? ⟨w.heap.size, 4, none⟩ = some (.int .i64 a0_4) ∧ w'.cell? ⟨w.heap.size, 5, none⟩ = some (.int .i64 a0_5) ∧ w'.cell? ⟨w.heap.size, 6, none⟩ = some (.int .i64 a0_6)) (ds := []) #[false, false, false, false, false, false, false, false, false, false] (by kernel_rfl) rfl rfl ⟨(blk_cell BK.out 0).trans rfl, (blk_cell BK.out 1).trans rfl, (blk_cell BK.out 2).trans rfl, (blk_cell BK.out 3).trans rfl, (blk_cell BK.out 4).trans rfl, (blk_cell BK.out 5).trans rfl, (blk_cell BK.out 6).trans rfl⟩ (fun hHeld => ?_); refine with_tabW lines7_tab lines7_bits (fun HT_ HW_ => ?_)
      replace BK := Sd.mk (blk_drew BK.out)
      replace HL := Sd.mk (Kd.R_drew HL.out)
      replace HB := Sd.mk (below_drew1 HB.out)
      generalize wr.drew = W0 at BK HL HB hHeld ⊢
      refine pure_ (i := 0) (N := some 31) (v := ?_) (a' := ?_) #[true, false, false, false, false, false, false, false, false, false] rfl rfl (any_of HT_.out (by kernel_rfl)) (fun _ _ _ h => h) (Or.inl ⟨by rfl, ?_⟩) ?_ ?_
      rotate_left
      · intro w'
        go_simp
        with_reducible rfl
      rotate_left
      · simp only [Act.put, List.setIfInBounds_toArray, List.set_cons_zero, List.set_cons_succ, i64_w, i32_w]
        rfl
      refine pure_ (i := 1) (N := some 32) (v := ?_) (a' := ?_) #[true, true, false, false, false, false, false, false, false, false] rfl rfl (any_of HT_.out (by kernel_rfl)) (fun _ _ _ h => h) (Or.inl ⟨by rfl, ?_⟩) ?_ ?_
      rotate_left
      · intro w'
        go_simp
        with_reducible rfl
      rotate_left
      · simp only [Act.put, List.setIfInBounds_toArray, List.set_cons_zero, List.set_cons_succ, i64_w, i32_w]
        rfl
      refine take_ (i := 2) (N := some 33) (v := ?_) (a' := ?_) #[true, true, true, false, false, false, false, false, false, false] rfl rfl (take_ofW HT_.out HW_.out (by kernel_rfl)) (fun _ _ _ h => h) (Or.inl ⟨by rfl, ?_⟩) hHeld ?_ ?_
      rotate_left
      · rintro w' ⟨s0, s1, s2, s3, s4, s5, s6⟩
        go_simp
        with_reducible rfl
      rotate_left
      · simp only [Act.put, List.setIfInBounds_toArray, List.set_cons_zero, List.set_cons_succ, i64_w, i32_w]
        rfl
      refine pure_ (i := 3) (N := some 34) (v := ?_) (a' := ?_) #[true, true, true, true, false, false, false, false, false, false] rfl rfl (any_of HT_.out (by kernel_rfl)) (fun _ _ _ h => h) (Or.inl ⟨by rfl, ?_⟩) ?_ ?_
      rotate_left
      · intro w'
        go_simp
        with_reducible rfl
      rotate_left
      · simp only [Act.put, List.setIfInBounds_toArray, List.set_cons_zero, List.set_cons_succ, i64_w, i32_w]
        rfl
      refine pure_ (i := 4) (N := some 35) (v := ?_) (a' := ?_) #[true, true, true, true, true, false, false, false, false, false] rfl rfl (any_of HT_.out (by kernel_rfl)) (fun _ _ _ h => h) (Or.inl ⟨by rfl, ?_⟩) ?_ ?_
      rotate_left
      · intro w'
        go_simp
        with_reducible rfl
      rotate_left
      · simp only [Act.put, List.setIfInBounds_toArray, List.set_cons_zero, List.set_cons_succ, i64_w, i32_w]
        rfl
      refine take_ (i := 5) (N := some 36) (v := ?_) (a' := ?_) #[true, true, true, true, true, true, false, false, false, false] rfl rfl (take_ofW HT_.out HW_.out (by kernel_rfl)) (fun _ _ _ h => h) (Or.inl ⟨by rfl, ?_⟩) hHeld ?_ ?_
      rotate_left
      · rintro w' ⟨s0, s1, s2, s3, s4, s5, s6⟩
        go_simp
        with_reducible rfl
      rotate_left
      · simp only [Act.put, List.setIfInBounds_toArray, List.set_cons_zero, List.set_cons_succ, i64_w, i32_w]
        rfl
      refine join_ (σ := Nat × Nat) 2 #[true, true, true, true, true, true, true, true, false, false] (fun s_ => [(6, .pointer (some ⟨s_.1, 0, none⟩)), (7, .pointer (some ⟨s_.2, 0, none⟩))]) (fun s_ w' => (w'.cell? ⟨w.heap.size, 0, none⟩ = some (.slice A0_0 l0_0.length c0_0) ∧ w'.cell? ⟨w.heap.size, 1, none⟩ = some (.slice A0_1 l0_1.length c0_1) ∧ w'.cell? ⟨w.heap.size, 2, none⟩ = some (.slice A0_2 l0_2.length c0_2) ∧ w'.cell? ⟨w.heap.size, 3, none⟩ = some (.slice A0_3 l0_3.length c0_3) ∧ w'.cell? ⟨w.heap.size, 4, none⟩ = some (.int .i64 a0_4) ∧ w'.cell? ⟨w.heap.size, 5, none⟩ = some (.int .i64 a0_5) ∧ w'.cell? ⟨w.heap.size, 6, none⟩ = some (.int .i64 a0_6)) ∧ Below w.heap.size w w' ∧ w'.heap[w.heap.size]? = some (.cells #[.slice A0_0 l0_0.length c0_0, .slice A0_1 l0_1.length c0_1, .slice A0_2 l0_2.length c0_2, .slice A0_3 l0_3.length c0_3, .int .i64 a0_4, .int .i64 a0_5, .int .i64 a0_6] 29 (0, 0)) ∧ k51.R 51 w' w.heap.size (fun j => j ≠ s_.1 ∧ j ≠ s_.2) u3 (headL l0_1 l0_2 l0_3 a0_6 k) ∧ w'.heap[s_.1]? = some (.cells #[.int .i64 0] 3 (0, 0)) ∧ w'.heap[s_.2]? = some (.cells #[.int .i64 0] 3 (0, 0)) ∧ s_.1 ≠ s_.2 ∧ w.heap.size < s_.1 ∧ w.heap.size < s_.2) ?_ ?_
      rotate_left
      · skip
        intro hCont
        refine two_ (i := 6) (j := 7) (Ni := some 6) (Nj := some 7) #[true, true, true, true, true, true, true, false, false, false] #[true, true, true, true, true, true, false, true, false, false] rfl rfl rfl rfl (two_of HT_.out (by kernel_rfl)) (by decide) (by decide) (fun K hK => ?_) (fun K hK => ?_)
        · skip
          refine box_step ?hg (N := 6) ?hd (cs := #[.int .i64 0]) (t := 3) ?hr ?_; (case hd => rfl); (case hg => rfl); (case hr => first | (go_simp; done) | (go_simp; rfl))
          intro U6 hg6 w6 hbox6 hb6
          have BK6 := Sd.mk (blk_below BK.out hb6)
          refine hK.out _ _ ⟨(blk_cell BK6.out 0).trans rfl, (blk_cell BK6.out 1).trans rfl, (blk_cell BK6.out 2).trans rfl, (blk_cell BK6.out 3).trans rfl, (blk_cell BK6.out 4).trans rfl, (blk_cell BK6.out 5).trans rfl, (blk_cell BK6.out 6).trans rfl⟩ (fun hHeld => ?_)
          clear hK K
          refine norm_ (a' := ?_) ?_ ?_
          rotate_left
          · show Act.put _ (some 6) _ = _
            simp only [Act.put, List.setIfInBounds_toArray, List.set_cons_zero, List.set_cons_succ, i64_w, i32_w]
            rfl
          refine one_ (i := 7) (N := some 7) #[true, true, true, true, true, true, true, true, false, false] rfl rfl (one_of HT_.out (by kernel_rfl)) (by decide) (fun K hK => ?_)
          refine box_step ?hg (N := 7) ?hd (cs := #[.int .i64 0]) (t := 3) ?hr ?_; (case hd => rfl); (case hg => rfl); (case hr => first | (go_simp; done) | (go_simp; rfl))
          intro U7 hg7 w7 hbox7 hb7
          have BK7 := Sd.mk (blk_below BK6.out hb7)
          refine hK.out _ _ ⟨(blk_cell BK7.out 0).trans rfl, (blk_cell BK7.out 1).trans rfl, (blk_cell BK7.out 2).trans rfl, (blk_cell BK7.out 3).trans rfl, (blk_cell BK7.out 4).trans rfl, (blk_cell BK7.out 5).trans rfl, (blk_cell BK7.out 6).trans rfl⟩ (fun hHeld => ?_)
          clear hK K
          refine norm_ (a' := ?_) ?_ ?_
          rotate_left
          · show Act.put _ (some 7) _ = _
            simp only [Act.put, List.setIfInBounds_toArray, List.set_cons_zero, List.set_cons_succ, i64_w, i32_w]
            rfl
          have hl1 := blk_lt BK.out
          have hl2 := blk_lt hbox6
          have hokk : ∀ j, (True ∧ w.heap.size ≤ j ∧ j < W0.heap.size ∧ ∃ q, q ∈ 51 :: k51.E ∧ ∃ cells, W0.heap[j]? = some (.cells cells q (0, 0))) → j ≠ U6 ∧ j ≠ U7 := fun j hj => ⟨by have := hj.2.2.1; omega, by have := hj.2.2.1; omega⟩
          exact norm_ (by simp only [putAll, Act.put, List.setIfInBounds_toArray, List.set_cons_zero, List.set_cons_succ]) (hCont (U6, U7) _ ⟨⟨(blk_cell BK7.out 0).trans rfl, (blk_cell BK7.out 1).trans rfl, (blk_cell BK7.out 2).trans rfl, (blk_cell BK7.out 3).trans rfl, (blk_cell BK7.out 4).trans rfl, (blk_cell BK7.out 5).trans rfl, (blk_cell BK7.out 6).trans rfl⟩, below_step (below_step HB.out hb6) hb7, BK7.out, Kd.R_below (Kd.R_below (Kd.R_mono (Kd.R_bound HL.out) hokk) hb6) hb7, blk_below hbox6 hb7, hbox7, by omega, by have := hb6.size; omega, by have := hb6.size; omega⟩)
        · skip
          refine box_step ?hg (N := 7) ?hd (cs := #[.int .i64 0]) (t := 3) ?hr ?_; (case hd => rfl); (case hg => rfl); (case hr => first | (go_simp; done) | (go_simp; rfl))
          intro U7 hg7 w7 hbox7 hb7
          have BK7 := Sd.mk (blk_below BK.out hb7)
          refine hK.out _ _ ⟨(blk_cell BK7.out 0).trans rfl, (blk_cell BK7.out 1).trans rfl, (blk_cell BK7.out 2).trans rfl, (blk_cell BK7.out 3).trans rfl, (blk_cell BK7.out 4).trans rfl, (blk_cell BK7.out 5).trans rfl, (blk_cell BK7.out 6).trans rfl⟩ (fun hHeld => ?_)
          clear hK K
          refine norm_ (a' := ?_) ?_ ?_
          rotate_left
          · show Act.put _ (some 7) _ = _
            simp only [Act.put, List.setIfInBounds_toArray, List.set_cons_zero, List.set_cons_succ, i64_w, i32_w]
            rfl
          refine one_ (i := 6) (N := some 6) #[true, true, true, true, true, true, true, true, false, false] rfl rfl (one_of HT_.out (by kernel_rfl)) (by decide) (fun K hK => ?_)
          refine box_step ?hg (N := 6) ?hd (cs := #[.int .i64 0]) (t := 3) ?hr ?_; (case hd => rfl); (case hg => rfl); (case hr => first | (go_simp; done) | (go_simp; rfl))
          intro U6 hg6 w6 hbox6 hb6
          have BK6 := Sd.mk (blk_below BK7.out hb6)
          refine hK.out _ _ ⟨(blk_cell BK6.out 0).trans rfl, (blk_cell BK6.out 1).trans rfl, (blk_cell BK6.out 2).trans rfl, (blk_cell BK6.out 3).trans rfl, (blk_cell BK6.out 4).trans rfl, (blk_cell BK6.out 5).trans rfl, (blk_cell BK6.out 6).trans rfl⟩ (fun hHeld => ?_)
          clear hK K
          refine norm_ (a' := ?_) ?_ ?_
          rotate_left
          · show Act.put _ (some 6) _ = _
            simp only [Act.put, List.setIfInBounds_toArray, List.set_cons_zero, List.set_cons_succ, i64_w, i32_w]
            rfl
          have hl1 := blk_lt BK.out
          have hl2 := blk_lt hbox7
          have hokk : ∀ j, (True ∧ w.heap.size ≤ j ∧ j < W0.heap.size ∧ ∃ q, q ∈ 51 :: k51.E ∧ ∃ cells, W0.heap[j]? = some (.cells cells q (0, 0))) → j ≠ U6 ∧ j ≠ U7 := fun j hj => ⟨by have := hj.2.2.1; omega, by have := hj.2.2.1; omega⟩
          exact norm_ (by simp only [putAll, Act.put, List.setIfInBounds_toArray, List.set_cons_zero, List.set_cons_succ]) (hCont (U6, U7) _ ⟨⟨(blk_cell BK6.out 0).trans rfl, (blk_cell BK6.out 1).trans rfl, (blk_cell BK6.out 2).trans rfl, (blk_cell BK6.out 3).trans rfl, (blk_cell BK6.out 4).trans rfl, (blk_cell BK6.out 5).trans rfl, (blk_cell BK6.out 6).trans rfl⟩, below_step (below_step HB.out hb7) hb6, BK6.out, Kd.R_below (Kd.R_below (Kd.R_mono (Kd.R_bound HL.out) hokk) hb7) hb6, hbox6, blk_below hbox7 hb6, by omega, by have := hb7.size; omega, by have := hb7.size; omega⟩)
      rintro ⟨U6, U7⟩ w7 ⟨hS_, hB, hBK, hL, h6, h7, hne, hg6, hg7⟩
      dsimp only at hB hBK hL h6 h7 hne hg6 hg7
      clear HB BK HL
      refine norm_ (a' := ?_) ?_ ?_
      rotate_left
      · simp only [putAll, Act.put, List.setIfInBounds_toArray, List.set_cons_zero, List.set_cons_succ]
        rfl
      have h60 : w7.cell? ⟨U6, 0, none⟩ = some (.int .i64 0) := (blk_cell h6 0).trans rfl
      have f60 := blk_frozen h6 0
      refine one_ (i := 8) (N := none) #[true, true, true, true, true, true, true, true, true, false] rfl rfl (one_of HT_.out (by kernel_rfl)) (by decide) (fun K hK => ?_)
      refine skip_ (w1 := ?_) (by rfl) rfl ?_ ?_
      rotate_left
      · go_simp
        rfl
      have hBK8 := blk_far hBK (p := ⟨U6, 0, none⟩) (show w.heap.size ≠ U6 by omega) (.int .i64 a0_4)
      have hL8 := Kd.R_far hL (p := ⟨U6, 0, none⟩) (fun j hj => hj.1) (.int .i64 a0_4)
      have hB8 := below_set (j := 0) (v := .int .i64 a0_4) hB (show w.heap.size ≤ U6 by omega)
      have h68 := blk_put (cs := #[.int .i64 0]) h6 0 (.int .i64 a0_4) rfl
      have h78 := blk_far h7 (p := ⟨U6, 0, none⟩) (Ne.symm hne) (.int .i64 a0_4)
      refine hK.out _ _ ⟨(blk_cell hBK8 0).trans rfl, (blk_cell hBK8 1).trans rfl, (blk_cell hBK8 2).trans rfl, (blk_cell hBK8 3).trans rfl, (blk_cell hBK8 4).trans rfl, (blk_cell hBK8 5).trans rfl, (blk_cell hBK8 6).trans rfl⟩ (fun hHeld => ?_)
      clear hK K h60 f60
      have h70 : (w7.setCell ⟨U6, 0, none⟩ (.int .i64 a0_4)).cell? ⟨U7, 0, none⟩ = some (.int .i64 0) := (blk_cell h78 0).trans rfl
      have f70 := blk_frozen h78 0
      refine one_ (i := 9) (N := none) #[true, true, true, true, true, true, true, true, true, true] rfl rfl (one_of HT_.out (by kernel_rfl)) (by decide) (fun K hK => ?_)
      refine skip_ (w1 := ?_) (by rfl) rfl ?_ ?_
      rotate_left
      · go_simp
        rfl
      have BK := Sd.mk (blk_far hBK8 (p := ⟨U7, 0, none⟩) (show w.heap.size ≠ U7 by omega) (.int .i64 a0_5))
      have HL := Sd.mk (Kd.R_mono (ok' := fun _ => True) (Kd.R_far hL8 (p := ⟨U7, 0, none⟩) (fun j hj => hj.2) (.int .i64 a0_5)) (fun _ _ => trivial))
      have HB := Sd.mk (below_set (j := 0) (v := .int .i64 a0_5) hB8 (show w.heap.size ≤ U7 by omega))
      have B6 := Sd.mk (blk_far h68 (p := ⟨U7, 0, none⟩) hne (.int .i64 a0_5))
      have B7 := Sd.mk (blk_put (cs := #[.int .i64 0]) h78 0 (.int .i64 a0_5) rfl)
      refine hK.out _ _ ⟨(blk_cell BK.out 0).trans rfl, (blk_cell BK.out 1).trans rfl, (blk_cell BK.out 2).trans rfl, (blk_cell BK.out 3).trans rfl, (blk_cell BK.out 4).trans rfl, (blk_cell BK.out 5).trans rfl, (blk_cell BK.out 6).trans rfl⟩ (fun hHeld => ?_)
      clear hK K h70 f70 hBK8 hL8 hB8 h68 h78 hB hBK hL h6 h7 hne hg6 hg7 hS_
      refine done_ (done_of HT_.out (by kernel_rfl)) ?_
      go_upto_region 8 with (fail)
      generalize ((w7.setCell ⟨U6, 0, none⟩ (.int .i64 a0_4)).setCell ⟨U7, 0, none⟩ (.int .i64 a0_5)) = WX at *
      have H := HH.out
      have hr := HRX.out
      have HQ5 := Sd.mk (facQ125 H (u := a0_5) (by omega) B7.out).1
      have HQ6 := Sd.mk (facQ125 H (u := a0_4) (by omega) B6.out).2
      have HBZ := Sd.mk (Below.refl WX.heap.size WX)
      clear B6 B7 H hr
      refine start_ (n := 10) (S := fun w' => w'.cell? ⟨w.heap.size, 0, none⟩ = some (.slice A0_0 l0_0.length c0_0) ∧ w'.cell? ⟨w.heap.size, 1, none⟩ = some (.slice A0_1 l0_1.length c0_1) ∧ w'.cell? ⟨w.heap.size, 2, none⟩ = some (.slice A0_2 l0_2.length c0_2) ∧ w'.cell? ⟨w.heap.size, 3, none⟩ = some (.slice A0_3 l0_3.length c0_3) ∧ w'.cell? ⟨w.heap.size, 4, none⟩ = some (.int .i64 a0_4) ∧ w'.cell? ⟨w.heap.size, 5, none⟩ = some (.int .i64 a0_5) ∧ w'.cell? ⟨w.heap.size, 6, none⟩ = some (.int .i64 a0_6)) (ds := []) #[false, false, false, false, false, false, false, false, false, false] (by kernel_rfl) rfl rfl ⟨(blk_cell BK.out 0).trans rfl, (blk_cell BK.out 1).trans rfl, (blk_cell BK.out 2).trans rfl, (blk_cell BK.out 3).trans rfl, (blk_cell BK.out 4).trans rfl, (blk_cell BK.out 5).trans rfl, (blk_cell BK.out 6).trans rfl⟩ (fun hHeld => ?_); refine with_tabW lines8_tab lines8_bits (fun HT_ HW_ => ?_)
      replace BK := Sd.mk (blk_drew BK.out)
      replace HL := Sd.mk (Kd.R_drew HL.out)
      replace HB := Sd.mk (below_drew1 HB.out)
      replace HBZ := Sd.mk (below_drew1 HBZ.out)
      generalize WX.drew = W9 at BK HL HB HBZ hHeld ⊢
      refine pure_ (i := 0) (N := some 37) (v := ?_) (a' := ?_) #[true, false, false, false, false, false, false, false, false, false] rfl rfl (any_of HT_.out (by kernel_rfl)) (fun _ _ _ h => h) (Or.inl ⟨by rfl, ?_⟩) ?_ ?_
      rotate_left
      · intro w'
        go_simp
        with_reducible rfl
      rotate_left
      · simp only [Act.put, List.setIfInBounds_toArray, List.set_cons_zero, List.set_cons_succ, i64_w, i32_w]
        rfl
      refine take_ (i := 1) (N := some 38) (v := ?_) (a' := ?_) #[true, true, false, false, false, false, false, false, false, false] rfl rfl (take_ofW HT_.out HW_.out (by kernel_rfl)) (fun _ _ _ h => h) (Or.inl ⟨by rfl, ?_⟩) hHeld ?_ ?_
      rotate_left
      · rintro w' ⟨s0, s1, s2, s3, s4, s5, s6⟩
        go_simp
        with_reducible rfl
      rotate_left
      · simp only [Act.put, List.setIfInBounds_toArray, List.set_cons_zero, List.set_cons_succ, i64_w, i32_w]
        rfl
      refine pure_ (i := 2) (N := some 39) (v := ?_) (a' := ?_) #[true, true, true, false, false, false, false, false, false, false] rfl rfl (any_of HT_.out (by kernel_rfl)) (fun _ _ _ h => h) (Or.inl ⟨by rfl, ?_⟩) ?_ ?_
      rotate_left
      · intro w'
        go_simp
        with_reducible rfl
      rotate_left
      · simp only [Act.put, List.setIfInBounds_toArray, List.set_cons_zero, List.set_cons_succ, i64_w, i32_w]
        rfl
      refine take_ (i := 4) (N := some 41) (v := ?_) (a' := ?_) #[true, true, true, false, true, false, false, false, false, false] rfl rfl (take_ofW HT_.out HW_.out (by kernel_rfl)) (fun _ _ _ h => h) (Or.inl ⟨by rfl, ?_⟩) hHeld ?_ ?_
      rotate_left
      · rintro w' ⟨s0, s1, s2, s3, s4, s5, s6⟩
        go_simp
        with_reducible rfl
      rotate_left
      · simp only [Act.put, List.setIfInBounds_toArray, List.set_cons_zero, List.set_cons_succ, i64_w, i32_w]
        rfl
      refine pure_ (i := 5) (N := some 42) (v := ?_) (a' := ?_) #[true, true, true, false, true, true, false, false, false, false] rfl rfl (any_of HT_.out (by kernel_rfl)) (fun _ _ _ h => h) (Or.inl ⟨by rfl, ?_⟩) ?_ ?_
      rotate_left
      · intro w'
        go_simp
        with_reducible rfl
      rotate_left
      · simp only [Act.put, List.setIfInBounds_toArray, List.set_cons_zero, List.set_cons_succ, i64_w, i32_w]
        rfl
      refine one_ (i := 3) (N := some 40) #[true, true, true, true, true, true, false, false, false, false] rfl rfl (one_of HT_.out (by kernel_rfl)) (by decide) (fun K hK => ?_)
      refine goes_ Try.func117 (by kernel_rfl) rfl #[.agg #[.slice A0_0 l0_0.length c0_0, .slice A0_1 l0_1.length c0_1, .slice A0_2 l0_2.length c0_2, .slice A0_3 l0_3.length c0_3, .int .i64 a0_4, .int .i64 a0_5, .int .i64 a0_6], .int .i64 0, .func (.func 125) #[] #[.pointer (some ⟨U7, 0, none⟩)]] (by rfl) rfl rfl (by (try simp only [List.map_toArray, List.map_cons, List.map_nil]); first | done | rfl) ?_
      refine (line_calls A0_0 A0_1 A0_2 A0_3 l0_0.length c0_0 c0_1 l0_2.length c0_2 l0_3.length c0_3 l0_1 a0_4 a0_5 a0_6 0 125 #[.pointer (some ⟨U7, 0, none⟩)] (rUp a0_5) _ (enters_of Try.func125 (by kernel_rfl) rfl) (fun W hW => HQ5.out W (below_trans' HBZ.out hW)) (Kd.C_below HR1.out HB.out) HM12.out).mono ?_
      rintro e w4 ⟨v1, rfl, hR, hb⟩
      refine ⟨_, rfl, ?_⟩
      have Hv1 := Sd.mk (Kd.R_lower hR (below_size HB.out))
      replace BK := Sd.mk (blk_below BK.out hb)
      replace HL := Sd.mk (Kd.R_below HL.out hb)
      replace HBZ := Sd.mk (below_step HBZ.out hb)
      replace HB := Sd.mk (below_step HB.out hb)
      clear hb hR
      refine hK.out _ _ ⟨(blk_cell BK.out 0).trans rfl, (blk_cell BK.out 1).trans rfl, (blk_cell BK.out 2).trans rfl, (blk_cell BK.out 3).trans rfl, (blk_cell BK.out 4).trans rfl, (blk_cell BK.out 5).trans rfl, (blk_cell BK.out 6).trans rfl⟩ (fun hHeld => ?_)
      clear hK K
      refine norm_ (a' := ?_) ?_ ?_
      rotate_left
      · show Act.put _ (some 40) _ = _
        simp only [Act.put, List.setIfInBounds_toArray, List.set_cons_zero, List.set_cons_succ, i64_w, i32_w]
        rfl
      refine one_ (i := 6) (N := some 43) #[true, true, true, true, true, true, true, false, false, false] rfl rfl (one_of HT_.out (by kernel_rfl)) (by decide) (fun K hK => ?_)
      refine goes_ Try.func117 (by kernel_rfl) rfl #[.agg #[.slice A0_0 l0_0.length c0_0, .slice A0_1 l0_1.length c0_1, .slice A0_2 l0_2.length c0_2, .slice A0_3 l0_3.length c0_3, .int .i64 a0_4, .int .i64 a0_5, .int .i64 a0_6], .int .i64 0, .func (.func 126) #[] #[.pointer (some ⟨U6, 0, none⟩)]] (by rfl) rfl rfl (by (try simp only [List.map_toArray, List.map_cons, List.map_nil]); first | done | rfl) ?_
      refine (line_calls A0_0 A0_1 A0_2 A0_3 l0_0.length c0_0 c0_1 l0_2.length c0_2 l0_3.length c0_3 l0_1 a0_4 a0_5 a0_6 0 126 #[.pointer (some ⟨U6, 0, none⟩)] (rDn a0_4) _ (enters_of Try.func126 (by kernel_rfl) rfl) (fun W hW => HQ6.out W (below_trans' HBZ.out hW)) (Kd.C_below HR1.out HB.out) HM12.out).mono ?_
      rintro e w4 ⟨v2, rfl, hR, hb⟩
      refine ⟨_, rfl, ?_⟩
      have Hv2 := Sd.mk (Kd.R_lower hR (below_size HB.out))
      replace Hv1 := Sd.mk (Kd.R_below Hv1.out hb)
      replace BK := Sd.mk (blk_below BK.out hb)
      replace HL := Sd.mk (Kd.R_below HL.out hb)
      replace HBZ := Sd.mk (below_step HBZ.out hb)
      replace HB := Sd.mk (below_step HB.out hb)
      clear hb hR
      refine hK.out _ _ ⟨(blk_cell BK.out 0).trans rfl, (blk_cell BK.out 1).trans rfl, (blk_cell BK.out 2).trans rfl, (blk_cell BK.out 3).trans rfl, (blk_cell BK.out 4).trans rfl, (blk_cell BK.out 5).trans rfl, (blk_cell BK.out 6).trans rfl⟩ (fun hHeld => ?_)
      clear hK K
      refine norm_ (a' := ?_) ?_ ?_
      rotate_left
      · show Act.put _ (some 43) _ = _
        simp only [Act.put, List.setIfInBounds_toArray, List.set_cons_zero, List.set_cons_succ, i64_w, i32_w]
        rfl
      refine one_ (i := 7) (N := some 44) #[true, true, true, true, true, true, true, true, false, false] rfl rfl (one_of HT_.out (by kernel_rfl)) (by decide) (fun K hK => ?_)
      refine value_ (w1 := ?_) (v := ?_) (by rfl) rfl ?_ ?_
      rotate_left 2
      · go_simp
        constructor
        · rfl
        · rfl
      refine hK.out _ _ ⟨(blk_cell (blk_alloc BK.out _) 0).trans rfl, (blk_cell (blk_alloc BK.out _) 1).trans rfl, (blk_cell (blk_alloc BK.out _) 2).trans rfl, (blk_cell (blk_alloc BK.out _) 3).trans rfl, (blk_cell (blk_alloc BK.out _) 4).trans rfl, (blk_cell (blk_alloc BK.out _) 5).trans rfl, (blk_cell (blk_alloc BK.out _) 6).trans rfl⟩ (fun hHeld => ?_)
      clear hK K
      refine norm_ (a' := ?_) ?_ ?_
      rotate_left
      · show Act.put _ (some 44) _ = _
        simp only [Act.put, List.setIfInBounds_toArray, List.set_cons_zero, List.set_cons_succ, i64_w, i32_w]
        rfl
      refine one_ (i := 8) (N := some 45) #[true, true, true, true, true, true, true, true, true, false] rfl rfl (one_of HT_.out (by kernel_rfl)) (by decide) (fun K hK => ?_)
      refine Kd.R_append_rows_step k51 (w0 := w) w.heap.size (by rfl) (.tmp 37) (.tmp 44) 46 51 (.agg #[.slice none 0 0, .int .i64 0]) 32 rfl Try.underlying46 info51 rfl (by decide) (by omega) u3 (headL l0_1 l0_2 l0_3 a0_6 k) [⟨l0_1.map (rUp a0_5), 0⟩, ⟨l0_1.map (rDn a0_4), 0⟩] (some ⟨_, 0, none⟩) 2 2 (fun _ => True) (fun j => some j ≠ u3.ownBlock) rfl rfl (Kd.R_alloc HL.out _) (pair_reads (x := ⟨l0_1.map (rUp a0_5), 0⟩) (x' := ⟨l0_1.map (rDn a0_4), 0⟩) HL.out (by rw [headL_len]; omega) Hv1.out Hv2.out (below_size HB.out)) (fun _ _ hp => hp) (fun _ hk => ⟨trivial, hk⟩) (fun _ _ => trivial) (below_alloc HB.out _) ?aS ?aL ?_
      (case aS => exact below_size (below_alloc HB.out _))
      (case aL => exact (by rw [headL_len]; exact Nat.le_trans (Nat.mul_le_mul_right 32 HSZ.out) (by decide)))
      intro v5 w5 ho hb hg hat
      have BK2 := Sd.mk (blk_grown (blk_alloc BK.out _) hg (Kd.R_ne HL.out BK.out (by decide)))
      have HO := Sd.mk ho
      have HB2 := Sd.mk hb
      clear BK HL HB Hv1 Hv2 hb ho hat hg
      refine hK.out _ _ ⟨(blk_cell BK2.out 0).trans rfl, (blk_cell BK2.out 1).trans rfl, (blk_cell BK2.out 2).trans rfl, (blk_cell BK2.out 3).trans rfl, (blk_cell BK2.out 4).trans rfl, (blk_cell BK2.out 5).trans rfl, (blk_cell BK2.out 6).trans rfl⟩ (fun hHeld => ?_)
      clear hK K
      refine norm_ (a' := ?_) ?_ ?_
      rotate_left
      · show Act.put _ (some 45) _ = _
        simp only [Act.put, List.setIfInBounds_toArray, List.set_cons_zero, List.set_cons_succ, i64_w, i32_w]
        rfl
      refine pure_ (i := 9) (N := some 2) (v := ?_) (a' := ?_) #[true, true, true, true, true, true, true, true, true, true] rfl rfl (any_of HT_.out (by kernel_rfl)) (fun _ _ _ h => h) (Or.inl ⟨by rfl, ?_⟩) ?_ ?_
      rotate_left
      · intro w'
        go_simp
        with_reducible rfl
      rotate_left
      · simp only [Act.put, List.setIfInBounds_toArray, List.set_cons_zero, List.set_cons_succ, i64_w, i32_w]
        rfl
      refine done_ (done_of HT_.out (by kernel_rfl)) ?_
      go_wp2
      go_ret
      have hkn := HKN.out
      subst hkn
      exact ⟨v5, rfl, HO.out, HB2.out⟩
end Go.Proofs.Ytkjkokgbhepmoaa.PB

namespace Go.Proofs.Ytkjkokgbhepmoaa.PB
open Go.RowKit Go.Proofs.YtkjkokgbhepmoaaW.PrintWords Go.Proofs.YtkjkokgbhepmoaaW.PrintLast Go.Proofs.YtkjkokgbhepmoaaW.PrintMore
def x_lines.f (l0_0 : List ByteArray) (l0_1 : List (S63)) (l0_2 : List (S27)) (l0_3 : List (S65)) (a0_4 : Int) (a0_5 : Int) (a0_6 : Int) : Option (List S51) :=
  if checkV l0_0 l0_1 l0_2 l0_3 a0_4 a0_5 a0_6 = 0 then some (linesV l0_1 l0_2 l0_3 a0_4 a0_5 a0_6) else none
theorem x_lines.calls (A0_0 : Option Addr) (c0_0 : Nat) (l0_0 : List ByteArray) (A0_1 : Option Addr) (c0_1 : Nat) (l0_1 : List (S63)) (A0_2 : Option Addr) (c0_2 : Nat) (l0_2 : List (S27)) (A0_3 : Option Addr) (c0_3 : Nat) (l0_3 : List (S65)) (a0_4 : Int) (a0_5 : Int) (a0_6 : Int) (r : List S51) (w : World) (hr0_0 : Kd.C Kd.string w A0_0 l0_0.length l0_0) (hc0_0 : l0_0.length ≤ c0_0) (hr0_1 : Kd.C k63 w A0_1 l0_1.length l0_1) (hc0_1 : l0_1.length ≤ c0_1) (hr0_2 : Kd.C k27 w A0_2 l0_2.length l0_2) (hc0_2 : l0_2.length ≤ c0_2) (hr0_3 : Kd.C k65 w A0_3 l0_3.length l0_3) (hc0_3 : l0_3.length ≤ c0_3) (h : x_lines.f l0_0 l0_1 l0_2 l0_3 a0_4 a0_5 a0_6 = some r) :
    Calls Try.prog 63 #[.agg #[.slice A0_0 l0_0.length c0_0, .slice A0_1 l0_1.length c0_1, .slice A0_2 l0_2.length c0_2, .slice A0_3 l0_3.length c0_3, .int .i64 a0_4, .int .i64 a0_5, .int .i64 a0_6]] w fun e w' => ∃ v0_ : Value, e = .returned v0_ ∧ Kd.R k51 51 w' w.heap.size (fun _ => True) v0_ r ∧ Below w.heap.size w w' := by
  unfold x_lines.f at h
  by_cases hc : checkV l0_0 l0_1 l0_2 l0_3 a0_4 a0_5 a0_6 = 0
  · rw [if_pos hc] at h
    obtain rfl := Option.some.inj h
    exact lines_calls A0_0 c0_0 l0_0 A0_1 c0_1 l0_1 A0_2 c0_2 l0_2 A0_3 c0_3 l0_3 a0_4 a0_5 a0_6 w hr0_0 hc0_0 hr0_1 hc0_1 hr0_2 hc0_2 hr0_3 hc0_3 (check_ok hc)
  · rw [if_neg hc] at h; cases h
end Go.Proofs.Ytkjkokgbhepmoaa.PB

namespace Go.Proofs.Ytkjkokgbhepmoaa.PB
open Go.RowKit Go.Proofs.YtkjkokgbhepmoaaW.PrintWords Go.Proofs.YtkjkokgbhepmoaaW.PrintLast Go.Proofs.YtkjkokgbhepmoaaW.PrintMore
attribute [local go_sem] max2_int min2_int max_two min_two max_three min_three max_four min_four
def batch_value.l0 : Nat → List Int → Int → List Int → Int → Int → Option (Int)
 | 0, _, _, _, _, _ => none
 | k + 1, x1, x5, x9, x10, x11 => if x11 < x10 then (if 0 ≤ x11 then (if x11 < (x9.length : Int) then (if x11 < (x1.length : Int) then (batch_value.l0 k x1 (wrap64 (x5 + (wrap64 ((rd x1 x11) * (rd x9 x11))))) x9 x10 (wrap64 (x11 + 1))) else (none)) else (none)) else (none)) else (some x5)
def batch_value.f (k : Nat) (l0_0 : List Int) (a0_1 : Int) (l1 : List Int) : Option (Int) := batch_value.l0 k l1 0 l0_0 (l0_0.length : Int) 0
set_option maxHeartbeats 8000000 in
set_option maxRecDepth 100000 in
theorem batch_value.calls (k : Nat) (A0_0 : Option Addr) (c0_0 : Nat) (l0_0 : List Int) (a0_1 : Int) (A1 : Option Addr) (c1 : Nat) (l1 : List Int) (r : Int) (w : World) (hr0_0 : Kd.C (Kd.int .i64) w A0_0 l0_0.length l0_0) (hc0_0 : l0_0.length ≤ c0_0) (hr1 : Kd.C (Kd.int .i64) w A1 l1.length l1) (hc1 : l1.length ≤ c1) (h : batch_value.f k l0_0 a0_1 l1 = some r) :
  Calls Try.prog 137 #[.agg #[.slice A0_0 l0_0.length c0_0, .int .i64 a0_1], .slice A1 l1.length c1] w fun e w' => e = .returned (.int .i64 r) ∧ Below w.heap.size w w' := by
 have hu51 := Try.underlying51; have HR0_0 := Sd.mk hr0_0; have HC0_0 := Sd.mk hc0_0; clear hr0_0 hc0_0; have HR1 := Sd.mk hr1; have HC1 := Sd.mk hc1; clear hr1 hc1; have HB := Sd.mk (Below.refl w.heap.size w)
 have H : (batch_value.l0 k l1 0 l0_0 (l0_0.length : Int) 0) = some r := h
 clear h; have H' := Sd.mk H; clear H
 go_enter Try.func137, Try.ntmps137
 go_wp2_with (first | ((with_reducible refine gate_dst (N := 2) rfl ?_); refine box_event ?hg (N := 2) ?hd (cs := #[.slice A0_0 l0_0.length c0_0, .int .i64 a0_1]) (t := 51) ?hr ?_; (case hd => rfl); (case hg => rfl); (case hr => exact tG); intro gb624 hg w3 hbox hb; have BK624 := Sd.mk (hbox); have GW624 := Sd.mk (bSz hg (bBl HB.out)); have GE624 := Sd.mk (bSz hg (bBl HB.out)); replace HB := Sd.mk (below_step (bBl HB.out) hb); clear hb hbox hg; obtain ⟨u4_0, u4_1, o4_0, o4_1⟩ := bc2 (w := w3) BK624.out))
 go_loopg [5, 11] k (fun kq v5 v11 w' => ∃ (x5_1 : Int) (x11_1 : Int), v5 = .int .i64 x5_1 ∧ v11 = .int .i64 x11_1 ∧ Sd (batch_value.l0 kq l1 x5_1 l0_0 (l0_0.length : Int) x11_1 = some r) ∧ Sd (kq ≤ k) ∧ Sd (w'.heap[gb624]? = some (.cells #[(.slice A0_0 l0_0.length c0_0), .int .i64 a0_1] 51 (0, 0))) ∧ Sd (Below w.heap.size w w'))
 case atStart => exact ⟨(0), (0), tS, tS, H', ⟨Nat.le_refl _⟩, ⟨bkA BK624.out⟩, ⟨bBl HB.out⟩⟩
 case round =>
  clear H'; (try clear c1); (try clear p2); (try clear u4_0 u4_1); (try clear o4_0 o4_1); obtain ⟨x5_1, x11_1, rfl, rfl, HA, HK1, BK624, HB⟩ := hrel
  cases gk with
  | zero => exact absurd HA.out (by simp [batch_value.l0])
  | succ k1 =>
   have H := HA.out; clear HA
   simp only [batch_value.l0] at H
   by_cases c5 : x11_1 < (l0_0.length : Int)
   ·rw [if_pos c5] at H
    have c5b0 : decide (x11_1 < (l0_0.length : Int)) = true := decide_eq_true c5
    clear c5
    by_cases c6 : 0 ≤ x11_1
    ·rw [if_pos c6] at H
     have c6b0 : decide (0 ≤ x11_1) = true := decide_eq_true c6
     clear c6
     by_cases c7 : x11_1 < (l0_0.length : Int)
     ·rw [if_pos c7] at H
      have c7b0 : decide (x11_1 < (l0_0.length : Int)) = true := decide_eq_true c7
      clear c7
      by_cases c8 : x11_1 < (l1.length : Int)
      ·rw [if_pos c8] at H
       have c8b0 : decide (x11_1 < (l1.length : Int)) = true := decide_eq_true c8
       clear c8; have H' := Sd.mk H; clear H
       have p625 : 0 ≤ (x11_1 : Int) := tB
       have q625 : x11_1 < (l0_0.length : Int) := tB
       obtain ⟨ad625, e625, hx625_0⟩ := Kd.at_int HR0_0.out x11_1 p625 q625; cases e625; replace hx625_0 := cU HB hx625_0; replace p625 := eq_true p625; replace q625 := eq_true q625
       have p626 : 0 ≤ (x11_1 : Int) := tB
       have q626 : x11_1 < (l1.length : Int) := tB
       obtain ⟨ad626, e626, hx626_0⟩ := Kd.at_int HR1.out x11_1 p626 q626; cases e626; replace hx626_0 := cU HB hx626_0; replace p626 := eq_true p626; replace q626 := eq_true q626
       go_wp2
       go_roundg k1
       case measure => have := HK1.out; omega
       case rel => exact ⟨(wrap64 (x5_1 + (wrap64 ((rd l1 x11_1) * (rd l0_0 x11_1))))), (wrap64 (x11_1 + 1)), tS, tS, H', ⟨by have := HK1.out; omega⟩, ⟨bkA BK624.out⟩, ⟨bBl HB.out⟩⟩
      ·rw [if_neg c8] at H
       exact absurd H (by simp)
     ·rw [if_neg c7] at H
      exact absurd H (by simp)
    ·rw [if_neg c6] at H
     exact absurd H (by simp)
   ·rw [if_neg c5] at H
    have c5b0 : decide (x11_1 < (l0_0.length : Int)) = false := decide_eq_false c5
    clear c5; obtain rfl := Option.some.inj H
    go_wp2
    go_ret
    exact ⟨tE, bBl HB.out⟩
end Go.Proofs.Ytkjkokgbhepmoaa.PB

namespace Go.Proofs.Ytkjkokgbhepmoaa.PB
open Go.RowKit Go.Proofs.YtkjkokgbhepmoaaW.PrintWords Go.Proofs.YtkjkokgbhepmoaaW.PrintLast Go.Proofs.YtkjkokgbhepmoaaW.PrintMore
def vW (r fs : List Int) : Nat → Int
  | 0 => 0
  | i + 1 => wrap64 (vW r fs i + wrap64 (rd r (i : Int) * rd fs (i : Int)))
theorem value_l0 (r fs : List Int) (h1 : fs.length ≤ r.length) (h2 : fs.length ≤ 1000000) : ∀ (m i : Nat), i + m = fs.length → Ev (fun k => batch_value.l0 k r (vW r fs i) fs (fs.length : Int) (i : Int)) (vW r fs fs.length)
  | 0, i, hi => by
    apply Ev.step
    simp only [batch_value.l0, if_neg (show ¬ (i : Int) < (fs.length : Int) by omega)]
    rw [show i = fs.length by omega]
    exact Ev.const _
  | m + 1, i, hi => by
    have ih := value_l0 r fs h1 h2 m (i + 1) (by omega)
    apply Ev.step
    simp only [batch_value.l0, if_pos (show (i : Int) < (fs.length : Int) by omega), if_pos (i_pos i), if_pos (show (i : Int) < (r.length : Int) by omega), wrap_succ (i_pos i) (show (i : Int) ≤ 1000000000 by omega)]
    exact ih
theorem value_calls (x : S51) (r : List Int) (Ax A1 : Option Addr) (cx c1 : Nat) (w : World) (hx : Kd.C (Kd.int .i64) w Ax x.f0.length x.f0) (hcx : x.f0.length ≤ cx) (hr : Kd.C (Kd.int .i64) w A1 r.length r) (hc1 : r.length ≤ c1) (h1 : x.f0.length ≤ r.length) (h2 : x.f0.length ≤ 1000000) :
    Calls Try.prog 137 (#[.agg #[.slice Ax x.f0.length cx, .int .i64 x.f1]] ++ #[.slice A1 r.length c1]) w fun e w' => e = .returned (.int .i64 (vW r x.f0 x.f0.length)) ∧ Below w.heap.size w w' := by
  obtain ⟨K, hK⟩ := value_l0 r x.f0 h1 h2 x.f0.length 0 (by omega)
  exact batch_value.calls K Ax cx x.f0 x.f1 A1 c1 r _ w hx hcx hr hc1 (hK K (Nat.le_refl _))
def keepT : Bool × List (List Nat × List Nat) := (true, [([], []), ([], []), ([0, 1], [0, 1]), ([], []), ([], []), ([4], [4]), ([3, 5], [3, 5]), ([2, 6], [2, 6]), ([7, 2, 0, 1, 2, 3, 4, 5, 6, 7], [7])])
def keepB : List Nat := [0, 0, 3, 0, 0, 16, 56, 127, 255]
theorem keep_tab : rtab .any (opsOf Try.f136 1) = keepT := by kernel_rfl
theorem keep_bits : waitsOk keepT.2 keepB = true := by kernel_rfl
set_option maxHeartbeats 2000000 in
set_option maxRecDepth 100000 in
theorem k136_calls (x : S51) (r : List Int) (Ax A1 : Option Addr) (cx c1 R T_ : Nat) (t : Int) (w : World) (hx : Kd.C (Kd.int .i64) w Ax x.f0.length x.f0) (hcx : x.f0.length ≤ cx) (hr : Kd.C (Kd.int .i64) w A1 r.length r) (hc1 : r.length ≤ c1) (h1 : x.f0.length ≤ r.length) (h2 : x.f0.length ≤ 1000000)
    (hR : w.heap[R]? = some (.cells #[.slice A1 r.length c1] 30 (0, 0))) (hT : w.heap[T_]? = some (.cells #[.int .i64 t] 3 (0, 0))) :
    Calls Try.prog 136 #[.agg #[.slice Ax x.f0.length cx, .int .i64 x.f1], .pointer (some ⟨R, 0, none⟩), .pointer (some ⟨T_, 0, none⟩)] w fun e w' => e = .returned (.bool (decide (wrap64 (t * x.f1) < vW r x.f0 x.f0.length))) ∧ Below w.heap.size w w' := by
  have hb0 : Below w.heap.size w (w.alloc (.cells #[.slice Ax x.f0.length cx, .int .i64 x.f1] 51)) := below_alloc (Below.refl _ _) _
  have HB := Sd.mk hb0
  have BX := Sd.mk (blk_new w (.cells #[.slice Ax x.f0.length cx, .int .i64 x.f1] 51))
  have BR := Sd.mk (blk_below hR hb0)
  have BT := Sd.mk (blk_below hT hb0)
  have HX := Sd.mk (Kd.C_below hx hb0)
  have HR := Sd.mk (Kd.C_below hr hb0)
  have HCX := Sd.mk hcx
  have HC1 := Sd.mk hc1
  have H1 := Sd.mk h1
  have H2 := Sd.mk h2
  clear hx hcx hr hc1 h1 h2 hR hT hb0
  go_enter Try.func136, Try.ntmps136
  go_upto_region 1 with (fail)
  generalize w.alloc (.cells #[.slice Ax x.f0.length cx, .int .i64 x.f1] 51) = WX at *
  generalize hXX : w.heap.size = X at BX ⊢
  generalize hv : vW r x.f0 x.f0.length = v at *
  refine start_ (n := 9) (S := fun w' => w'.cell? ⟨X, 0, none⟩ = some (.slice Ax x.f0.length cx) ∧ w'.cell? ⟨X, 1, none⟩ = some (.int .i64 x.f1) ∧ w'.cell? ⟨R, 0, none⟩ = some (.slice A1 r.length c1) ∧ w'.cell? ⟨T_, 0, none⟩ = some (.int .i64 t)) (ds := []) #[false, false, false, false, false, false, false, false, false] (by kernel_rfl) rfl rfl ⟨(blk_cell BX.out 0).trans rfl, (blk_cell BX.out 1).trans rfl, (blk_cell BR.out 0).trans rfl, (blk_cell BT.out 0).trans rfl⟩ (fun hHeld => ?_); refine with_tabW keep_tab keep_bits (fun HT_ HW_ => ?_)
  replace BX := Sd.mk (blk_drew BX.out)
  replace BR := Sd.mk (blk_drew BR.out)
  replace BT := Sd.mk (blk_drew BT.out)
  replace HX := Sd.mk (Kd.C_drew HX.out)
  replace HR := Sd.mk (Kd.C_drew HR.out)
  replace HB := Sd.mk (below_drew1 HB.out)
  generalize WX.drew = W0 at BX BR BT HX HR HB hHeld ⊢
  refine take_ (i := 0) (N := some 5) (v := ?_) (a' := ?_) #[true, false, false, false, false, false, false, false, false] rfl rfl (take_ofW HT_.out HW_.out (by kernel_rfl)) (fun _ _ _ h => h) (Or.inl ⟨by rfl, ?_⟩) hHeld ?_ ?_
  rotate_left
  · rintro w' ⟨s0, s1, s2, s3⟩
    go_simp
    with_reducible rfl
  rotate_left
  · simp only [Act.put, List.setIfInBounds_toArray, List.set_cons_zero, List.set_cons_succ, i64_w, i32_w]
    rfl
  refine take_ (i := 1) (N := some 6) (v := ?_) (a' := ?_) #[true, true, false, false, false, false, false, false, false] rfl rfl (take_ofW HT_.out HW_.out (by kernel_rfl)) (fun _ _ _ h => h) (Or.inl ⟨by rfl, ?_⟩) hHeld ?_ ?_
  rotate_left
  · rintro w' ⟨s0, s1, s2, s3⟩
    go_simp
    with_reducible rfl
  rotate_left
  · simp only [Act.put, List.setIfInBounds_toArray, List.set_cons_zero, List.set_cons_succ, i64_w, i32_w]
    rfl
  refine take_ (i := 3) (N := some 8) (v := ?_) (a' := ?_) #[true, true, false, true, false, false, false, false, false] rfl rfl (take_ofW HT_.out HW_.out (by kernel_rfl)) (fun _ _ _ h => h) (Or.inl ⟨by rfl, ?_⟩) hHeld ?_ ?_
  rotate_left
  · rintro w' ⟨s0, s1, s2, s3⟩
    go_simp
    with_reducible rfl
  rotate_left
  · simp only [Act.put, List.setIfInBounds_toArray, List.set_cons_zero, List.set_cons_succ, i64_w, i32_w]
    rfl
  refine pure_ (i := 4) (N := some 9) (v := ?_) (a' := ?_) #[true, true, false, true, true, false, false, false, false] rfl rfl (any_of HT_.out (by kernel_rfl)) (fun _ _ _ h => h) (Or.inl ⟨by rfl, ?_⟩) ?_ ?_
  rotate_left
  · intro w'
    go_simp
    with_reducible rfl
  rotate_left
  · simp only [Act.put, List.setIfInBounds_toArray, List.set_cons_zero, List.set_cons_succ, i64_w, i32_w]
    rfl
  refine take_ (i := 5) (N := some 10) (v := ?_) (a' := ?_) #[true, true, false, true, true, true, false, false, false] rfl rfl (take_ofW HT_.out HW_.out (by kernel_rfl)) (fun _ _ _ h => h) (Or.inl ⟨by rfl, ?_⟩) hHeld ?_ ?_
  rotate_left
  · rintro w' ⟨s0, s1, s2, s3⟩
    go_simp
    with_reducible rfl
  rotate_left
  · simp only [Act.put, List.setIfInBounds_toArray, List.set_cons_zero, List.set_cons_succ, i64_w, i32_w]
    rfl
  refine pure_ (i := 6) (N := some 11) (v := ?_) (a' := ?_) #[true, true, false, true, true, true, true, false, false] rfl rfl (any_of HT_.out (by kernel_rfl)) (fun _ _ _ h => h) (Or.inl ⟨by rfl, ?_⟩) ?_ ?_
  rotate_left
  · intro w'
    go_simp
    with_reducible rfl
  rotate_left
  · simp only [Act.put, List.setIfInBounds_toArray, List.set_cons_zero, List.set_cons_succ, i64_w, i32_w]
    rfl
  refine one_ (i := 2) (N := some 7) #[true, true, true, true, true, true, true, false, false] rfl rfl (one_of HT_.out (by kernel_rfl)) (by decide) (fun K hK => ?_)
  refine goes_ Try.func137 (by kernel_rfl) rfl (#[.agg #[.slice Ax x.f0.length cx, .int .i64 x.f1]] ++ #[.slice A1 r.length c1]) (by rfl) rfl rfl (by (try simp only [List.map_toArray, List.map_cons, List.map_nil]); first | done | rfl) ?_
  refine (value_calls x r Ax A1 cx c1 W0 HX.out HCX.out HR.out HC1.out H1.out H2.out).mono ?_
  rintro e w4 ⟨rfl, hb⟩
  refine ⟨_, rfl, ?_⟩
  replace BX := Sd.mk (blk_below BX.out hb)
  replace BR := Sd.mk (blk_below BR.out hb)
  replace BT := Sd.mk (blk_below BT.out hb)
  replace HB := Sd.mk (below_step HB.out hb)
  clear hb HX HR
  refine hK.out _ _ ⟨(blk_cell BX.out 0).trans rfl, (blk_cell BX.out 1).trans rfl, (blk_cell BR.out 0).trans rfl, (blk_cell BT.out 0).trans rfl⟩ (fun hHeld => ?_)
  clear hK K
  refine norm_ (a' := ?_) ?_ ?_
  rotate_left
  · show Act.put _ (some 7) _ = _
    simp only [Act.put, List.setIfInBounds_toArray, List.set_cons_zero, List.set_cons_succ, i64_w, i32_w]
    rfl
  refine pure_ (i := 7) (N := some 12) (v := ?_) (a' := ?_) #[true, true, true, true, true, true, true, true, false] rfl rfl (any_of HT_.out (by kernel_rfl)) (fun _ _ _ h => h) (Or.inl ⟨by rfl, ?_⟩) ?_ ?_
  rotate_left
  · intro w'
    go_simp
    with_reducible rfl
  rotate_left
  · simp only [Act.put, List.setIfInBounds_toArray, List.set_cons_zero, List.set_cons_succ, i64_w, i32_w]
    rfl
  refine pure_ (i := 8) (N := some 4) (v := ?_) (a' := ?_) #[true, true, true, true, true, true, true, true, true] rfl rfl (any_of HT_.out (by kernel_rfl)) (fun _ _ _ h => h) (Or.inl ⟨by rfl, ?_⟩) ?_ ?_
  rotate_left
  · intro w'
    go_simp
    with_reducible rfl
  rotate_left
  · simp only [Act.put, List.setIfInBounds_toArray, List.set_cons_zero, List.set_cons_succ, i64_w, i32_w]
    rfl
  refine done_ (done_of HT_.out (by kernel_rfl)) ?_
  go_wp2
  go_ret
  subst hv
  exact ⟨by first | rfl | simp, HB.out⟩
def TellsL (g : Nat) (lb : Array Value) (x : S51) (b : Bool) (w : World) : Prop :=
  ∀ W, Below w.heap.size w W → ∀ (Ax : Option Addr) (cx : Nat), Kd.C (Kd.int .i64) W Ax x.f0.length x.f0 → x.f0.length ≤ cx →
    Calls Try.prog g (#[.agg #[.slice Ax x.f0.length cx, .int .i64 x.f1]] ++ lb) W fun e W' => e = .returned (.bool b) ∧ Below W.heap.size W W'
set_option maxHeartbeats 1000000 in
theorem indexFunc_line (p : S51 → Bool) (g : Nat) (lb : Array Value) (eg : ∀ args w, (callFunc g args).run Try.prog w = .ok (.enter g args) w)
    (A : Option Addr) (c : Nat) (l : List S51) (w : World) (hr : Kd.C k51 w A l.length l) (hg : ∀ x ∈ l, TellsL g lb x (p x) w) :
    Calls Try.prog 158 #[.slice A l.length c, .func (.func g) #[] lb] w fun e w' => e = .returned (.int .i64 (idxFrom p l 0)) ∧ Below w.heap.size w w' := by
  have HR := Sd.mk hr
  have HG := Sd.mk hg
  have hmax := Kd.C_max hr
  clear hr hg
  go_enter Try.func158, Try.ntmps158
  go_wp2
  go_loopg [5, 8] l.length (fun kq _ v8 w' => ∃ k : Nat, v8 = .int .i64 k ∧ k ≤ l.length ∧ Sd (l.length - k ≤ kq) ∧ Sd (idxFrom p l 0 = idxFrom p (l.drop k) k) ∧ Sd (Below w.heap.size w w'))
  case atStart => exact ⟨0, rfl, Nat.zero_le _, ⟨by omega⟩, ⟨rfl⟩, ⟨Below.refl _ _⟩⟩
  case round =>
    obtain ⟨k, rfl, hk, HM, HI, HB⟩ := hrel
    by_cases hlt : k < l.length
    · have hltz : (k : Int) < (l.length : Int) := by omega
      obtain ⟨ad, Ax, cx, e, hc0, hc1, hlx, hix⟩ := at_T51 (Kd.C_below HR.out HB.out) (k : Int) (by omega) hltz
      cases e
      have HD := idxFrom_drop p z51 l k hlt k
      have hx : rd_T51 l (k : Int) = l.getD k z51 := by simp [rd_T51]
      have hmem : l.getD k z51 ∈ l := by
        rw [List.getD_eq_getElem?_getD, List.getElem?_eq_getElem hlt]; exact List.getElem_mem hlt
      rw [hx] at hc0 hc1 hlx hix
      have hcall := HG.out _ hmem _ HB.out Ax cx hix hlx
      generalize hxx : l.getD k z51 = x at hc0 hc1 hcall HD
      have HX := Sd.mk hxx
      have HD' := Sd.mk HD
      clear hxx HD hx hmem hlx hix
      simp only [Int.toNat_natCast] at hc0 hc1
      cases hp : p x with
      | true =>
        rw [hp] at hcall
        have HP := Sd.mk hp
        clear hp
        go_wp2_with (go_at_fn g; refine (hcall).mono ?_; rintro e w1 ⟨rfl, hb1⟩)
        go_ret
        exact ⟨by rw [HI.out, HD'.out, if_pos HP.out]; rfl, below_trans' HB.out hb1⟩
      | false =>
        rw [hp] at hcall
        have HP := Sd.mk hp
        clear hp
        go_wp2_with (go_at_fn g; refine (hcall).mono ?_; rintro e w1 ⟨rfl, hb1⟩)
        go_roundg (l.length - (k + 1))
        case measure => have := HM.out; omega
        case rel =>
          exact ⟨k + 1, by go_num, by omega, ⟨by omega⟩, ⟨by rw [HI.out, HD'.out, if_neg (by rw [HP.out]; simp)]; simp⟩, ⟨below_trans' HB.out hb1⟩⟩
    · have hltz : ¬ (k : Int) < (l.length : Int) := by omega
      go_wp2
      go_ret
      exact ⟨by rw [HI.out, List.drop_eq_nil_of_le (by omega)]; rfl, HB.out⟩
set_option maxHeartbeats 400000 in
theorem containsFunc_line (p : S51 → Bool) (g : Nat) (lb : Array Value) (eg : ∀ args w, (callFunc g args).run Try.prog w = .ok (.enter g args) w)
    (A : Option Addr) (c : Nat) (l : List S51) (w : World) (hr : Kd.C k51 w A l.length l) (hg : ∀ x ∈ l, TellsL g lb x (p x) w) :
    Calls Try.prog 135 #[.slice A l.length c, .func (.func g) #[] lb] w fun e w' => e = .returned (.bool (l.any p)) ∧ Below w.heap.size w w' := by
  have H := indexFunc_line p g lb eg A c l w hr hg
  have HA := Sd.mk (idxFrom_any p l 0 (Int.le_refl 0))
  clear hr hg eg
  go_enter Try.func135, Try.ntmps135
  go_wp2_with (go_at_call 158; refine H.mono ?_; rintro e w1 ⟨rfl, hb1⟩)
  go_ret
  exact ⟨by rw [← HA.out]; rfl, hb1⟩
def x_keeps.f (l : List S51) (r : List Int) (t : Int) : Option Bool :=
  if (l.all fun x => decide (x.f0.length ≤ r.length) && decide (x.f0.length ≤ 1000000)) = true then some (!(l.any fun x => decide (wrap64 (t * x.f1) < vW r x.f0 x.f0.length))) else none
set_option maxHeartbeats 1000000 in
theorem x_keeps.calls (A0 : Option Addr) (c0 : Nat) (l0 : List S51) (A1 : Option Addr) (c1 : Nat) (l1 : List Int) (a2 : Int) (r : Bool) (w : World) (hr0 : Kd.C k51 w A0 l0.length l0) (hc0 : l0.length ≤ c0) (hr1 : Kd.C (Kd.int .i64) w A1 l1.length l1) (hc1 : l1.length ≤ c1) (h : x_keeps.f l0 l1 a2 = some r) :
    Calls Try.prog 79 #[.slice A0 l0.length c0, .slice A1 l1.length c1, .int .i64 a2] w fun e w' => e = .returned (.bool r) ∧ Below w.heap.size w w' := by
  unfold x_keeps.f at h
  by_cases hall : (l0.all fun x => decide (x.f0.length ≤ l1.length) && decide (x.f0.length ≤ 1000000)) = true
  · rw [if_pos hall] at h
    obtain rfl := Option.some.inj h
    have hb0 : Below w.heap.size w ((w.alloc (.cells #[.slice A1 l1.length c1] 30)).alloc (.cells #[.int .i64 a2] 3)) := below_alloc (below_alloc (Below.refl _ _) _) _
    have hR : ((w.alloc (.cells #[.slice A1 l1.length c1] 30)).alloc (.cells #[.int .i64 a2] 3)).heap[w.heap.size]? = some (.cells #[.slice A1 l1.length c1] 30 (0, 0)) := blk_alloc (blk_new w _) _
    have hT : ((w.alloc (.cells #[.slice A1 l1.length c1] 30)).alloc (.cells #[.int .i64 a2] 3)).heap[w.heap.size + 1]? = some (.cells #[.int .i64 a2] 3 (0, 0)) := by
      have := blk_new (w.alloc (.cells #[.slice A1 l1.length c1] 30)) (.cells #[.int .i64 a2] 3)
      simpa using this
    have hgo := containsFunc_line (fun x => decide (wrap64 (a2 * x.f1) < vW l1 x.f0 x.f0.length)) 136 #[.pointer (some ⟨w.heap.size, 0, none⟩), .pointer (some ⟨w.heap.size + 1, 0, none⟩)] (enters_of Try.func136 (by kernel_rfl) rfl) A0 c0 l0 _ (Kd.C_below hr0 hb0) (fun x hx W hW Ax cx hix hlx => by
      have hh := List.all_eq_true.1 hall x hx
      simp only [Bool.and_eq_true, decide_eq_true_eq] at hh
      exact k136_calls x l1 Ax A1 cx c1 w.heap.size (w.heap.size + 1) a2 W hix hlx (Kd.C_below (Kd.C_below hr1 hb0) hW) hc1 hh.1 hh.2 (blk_below hR hW) (blk_below hT hW))
    have HB := Sd.mk hb0
    clear hb0 hR hT hr0 hr1 hc0 hc1 h hall
    go_enter Try.func79, Try.ntmps79
    go_wp2_with (go_at_call 135; refine hgo.mono ?_; rintro e w1 ⟨rfl, hb1⟩)
    go_ret
    exact ⟨by first | rfl | simp, below_trans' HB.out hb1⟩
  · rw [if_neg hall] at h; cases h
end Go.Proofs.Ytkjkokgbhepmoaa.PB

namespace Go.Proofs.Ytkjkokgbhepmoaa.PB
open Go.RowKit Go.Proofs.YtkjkokgbhepmoaaW.PrintWords Go.Proofs.YtkjkokgbhepmoaaW.PrintLast Go.Proofs.YtkjkokgbhepmoaaW.PrintMore
attribute [local go_sem] max2_int min2_int max_two min_two max_three min_three max_four min_four
def batch_Passes.f (k : Nat) (l0_0 : List ByteArray) (l0_1 : List (S63)) (l0_2 : List (S27)) (l0_3 : List (S65)) (a0_4 : Int) (a0_5 : Int) (a0_6 : Int) (l1 : List Int) : Option (Bool × Int) := (batch_asked.f k l0_0 l0_1 l0_2 l0_3 a0_4 a0_5 a0_6 l1).bind fun t444 => (if t444 = 0 then ((x_lines.f l0_0 l0_1 l0_2 l0_3 a0_4 a0_5 a0_6).bind fun t445 => ((x_keeps.f t445 l1 1).bind fun t448 => (some (t448, 0)))) else (some (false, t444)))
set_option maxHeartbeats 8000000 in
set_option maxRecDepth 100000 in
theorem batch_Passes.calls (k : Nat) (A0_0 : Option Addr) (c0_0 : Nat) (l0_0 : List ByteArray) (A0_1 : Option Addr) (c0_1 : Nat) (l0_1 : List (S63)) (A0_2 : Option Addr) (c0_2 : Nat) (l0_2 : List (S27)) (A0_3 : Option Addr) (c0_3 : Nat) (l0_3 : List (S65)) (a0_4 : Int) (a0_5 : Int) (a0_6 : Int) (A1 : Option Addr) (c1 : Nat) (l1 : List Int) (r1 : Bool) (r2 : Int) (w : World) (hr0_0 : Kd.C Kd.string w A0_0 l0_0.length l0_0) (hc0_0 : l0_0.length ≤ c0_0) (hr0_1 : Kd.C k63 w A0_1 l0_1.length l0_1) (hc0_1 : l0_1.length ≤ c0_1) (hr0_2 : Kd.C k27 w A0_2 l0_2.length l0_2) (hc0_2 : l0_2.length ≤ c0_2) (hr0_3 : Kd.C k65 w A0_3 l0_3.length l0_3) (hc0_3 : l0_3.length ≤ c0_3) (hr1 : Kd.C (Kd.int .i64) w A1 l1.length l1) (hc1 : l1.length ≤ c1) (h : batch_Passes.f k l0_0 l0_1 l0_2 l0_3 a0_4 a0_5 a0_6 l1 = some (r1, r2)) :
  Calls Try.prog 29 #[.agg #[.slice A0_0 l0_0.length c0_0, .slice A0_1 l0_1.length c0_1, .slice A0_2 l0_2.length c0_2, .slice A0_3 l0_3.length c0_3, .int .i64 a0_4, .int .i64 a0_5, .int .i64 a0_6], .slice A1 l1.length c1] w fun e w' => e = .returned (.tuple #[.bool r1, .int .i64 r2]) ∧ Below w.heap.size w w' := by
 have hu29 := Try.underlying29; have HR0_0 := Sd.mk hr0_0; have HC0_0 := Sd.mk hc0_0; clear hr0_0 hc0_0; have HR0_1 := Sd.mk hr0_1; have HC0_1 := Sd.mk hc0_1; clear hr0_1 hc0_1; have HR0_2 := Sd.mk hr0_2; have HC0_2 := Sd.mk hc0_2; clear hr0_2 hc0_2; have HR0_3 := Sd.mk hr0_3; have HC0_3 := Sd.mk hc0_3; clear hr0_3 hc0_3; have HR1 := Sd.mk hr1; have HC1 := Sd.mk hc1; clear hr1 hc1; have HB := Sd.mk (Below.refl w.heap.size w)
 have H : ((batch_asked.f k l0_0 l0_1 l0_2 l0_3 a0_4 a0_5 a0_6 l1).bind fun t444 => (if t444 = 0 then ((x_lines.f l0_0 l0_1 l0_2 l0_3 a0_4 a0_5 a0_6).bind fun t445 => ((x_keeps.f t445 l1 1).bind fun t448 => (some (t448, 0)))) else (some (false, t444)))) = some (r1, r2) := h
 clear h; replace H := Option.bind_eq_some_iff.mp H; obtain ⟨t444, A30, H⟩ := H
 try dsimp only at H
 have A3 := Sd.mk A30; clear A30
 by_cases c4 : t444 = 0
 ·rw [if_pos c4] at H
  have c4b0 : (t444 == 0) = true := beq_iff_eq.mpr c4
  have c4b1 : (t444 != 0) = false := bne_eq_false_iff_eq.mpr c4
  clear c4; replace H := Option.bind_eq_some_iff.mp H; obtain ⟨t445, A50, H⟩ := H
  try dsimp only at H
  have A5 := Sd.mk A50; clear A50; replace H := Option.bind_eq_some_iff.mp H; obtain ⟨t448, A60, H⟩ := H
  try dsimp only at H
  have A6 := Sd.mk A60; clear A60
  simp only [Option.some.injEq, Prod.mk.injEq] at H
  obtain ⟨rfl, rfl⟩ := H
  go_enter Try.func29, Try.ntmps29
  go_wp2_with (first | ((with_reducible refine gate_dst (N := 2) rfl ?_); refine box_event ?hg (N := 2) ?hd (cs := #[.slice A0_0 l0_0.length c0_0, .slice A0_1 l0_1.length c0_1, .slice A0_2 l0_2.length c0_2, .slice A0_3 l0_3.length c0_3, .int .i64 a0_4, .int .i64 a0_5, .int .i64 a0_6]) (t := 29) ?hr ?_; (case hd => rfl); (case hg => rfl); (case hr => exact tG); intro gb443 hg w7 hbox hb; have BK443 := Sd.mk (hbox); have GW443 := Sd.mk (bSz hg (bBl HB.out)); have GE443 := Sd.mk (bSz hg (bBl HB.out)); replace HB := Sd.mk (below_step (bBl HB.out) hb); clear hb hbox hg; obtain ⟨u8_0, u8_1, u8_2, u8_3, u8_4, u8_5, u8_6, o8_0, o8_1, o8_2, o8_3, o8_4, o8_5, o8_6⟩ := bc7 (w := w7) BK443.out) | ((with_reducible refine gate_callee (f := 46) rfl ?_); refine goesL_ (some 9) rfl rfl Try.func46 (by kernel_rfl) rfl #[.agg #[.slice A0_0 l0_0.length c0_0, .slice A0_1 l0_1.length c0_1, .slice A0_2 l0_2.length c0_2, .slice A0_3 l0_3.length c0_3, .int .i64 a0_4, .int .i64 a0_5, .int .i64 a0_6], .slice A1 l1.length c1] rfl tM ?_; (with_reducible refine (batch_asked.calls k _ _ l0_0 _ _ l0_1 _ _ l0_2 _ _ l0_3 a0_4 a0_5 a0_6 _ _ l1 t444 _ (cS (Kd.C_below HR0_0.out HB.out)) HC0_0.out (cS (Kd.C_below HR0_1.out HB.out)) HC0_1.out (cS (Kd.C_below HR0_2.out HB.out)) HC0_2.out (cS (Kd.C_below HR0_3.out HB.out)) HC0_3.out (cS (Kd.C_below HR1.out HB.out)) HC1.out A3.out).mono ?_); rintro e w9 ⟨rfl, hb⟩; refine ⟨_, rfl, ?_⟩; replace BK443 := Sd.mk (blk_below (bkA BK443.out) hb); replace HB := Sd.mk (below_step (bBl HB.out) hb); (try clear hb); (try clear hb2); (try clear hk); (try clear hi); obtain ⟨u10_0, u10_1, u10_2, u10_3, u10_4, u10_5, u10_6, o10_0, o10_1, o10_2, o10_3, o10_4, o10_5, o10_6⟩ := bc7 (w := w9) BK443.out) | ((with_reducible refine gate_callee (f := 63) rfl ?_); refine goesL_ (some 14) rfl rfl Try.func63 (by kernel_rfl) rfl #[.agg #[.slice A0_0 l0_0.length c0_0, .slice A0_1 l0_1.length c0_1, .slice A0_2 l0_2.length c0_2, .slice A0_3 l0_3.length c0_3, .int .i64 a0_4, .int .i64 a0_5, .int .i64 a0_6]] rfl tM ?_; (with_reducible refine (x_lines.calls _ _ l0_0 _ _ l0_1 _ _ l0_2 _ _ l0_3 a0_4 a0_5 a0_6 t445 _ (cS (Kd.C_below HR0_0.out HB.out)) HC0_0.out (cS (Kd.C_below HR0_1.out HB.out)) HC0_1.out (cS (Kd.C_below HR0_2.out HB.out)) HC0_2.out (cS (Kd.C_below HR0_3.out HB.out)) HC0_3.out A5.out).mono ?_); rintro e w11 ⟨v446, rfl, ho0, hb⟩; refine ⟨_, rfl, ?_⟩; have HO447 := Sd.mk (Kd.R_lower ho0 (below_size (bBl HB.out))); replace BK443 := Sd.mk (blk_below (bkA BK443.out) hb); replace HB := Sd.mk (below_step (bBl HB.out) hb); (try clear hb); (try clear hb2); (try clear hk); (try clear hi); (try clear ho0); obtain ⟨Ao12, co12, eo12⟩ := Kd.R_slice HO447.out; subst eo12) | ((with_reducible refine gate_callee (f := 79) rfl ?_); refine goesL_ (some 16) rfl rfl Try.func79 (by kernel_rfl) rfl #[.slice Ao12 t445.length co12, .slice A1 l1.length c1, .int .i64 1] rfl tM ?_; (with_reducible refine (x_keeps.calls _ _ t445 _ _ l1 1 t448 _ (cS ((Kd.R_reads' HO447.out).2.2)) ((Kd.R_reads' HO447.out).2.1) (cS (Kd.C_below HR1.out HB.out)) HC1.out A6.out).mono ?_); rintro e w13 ⟨rfl, hb⟩; refine ⟨_, rfl, ?_⟩; replace HO447 := Sd.mk (Kd.R_below (by (with_reducible repeat (first | apply Kd.R_alloc | apply Kd.R_drewN | apply Kd.R_drew)); exact HO447.out) hb); replace BK443 := Sd.mk (blk_below (bkA BK443.out) hb); replace HB := Sd.mk (below_step (bBl HB.out) hb); (try clear hb); (try clear hb2); (try clear hk); (try clear hi)))
  go_ret2
  exact ⟨tE, bBl HB.out⟩
 ·rw [if_neg c4] at H
  have c4b0 : (t444 == 0) = false := beq_eq_false_iff_ne.mpr c4
  have c4b1 : (t444 != 0) = true := bne_iff_ne.mpr c4
  simp only [Option.some.injEq, Prod.mk.injEq] at H
  obtain ⟨rfl, rfl⟩ := H
  go_enter Try.func29, Try.ntmps29
  go_wp2_with (first | ((with_reducible refine gate_dst (N := 2) rfl ?_); refine box_event ?hg (N := 2) ?hd (cs := #[.slice A0_0 l0_0.length c0_0, .slice A0_1 l0_1.length c0_1, .slice A0_2 l0_2.length c0_2, .slice A0_3 l0_3.length c0_3, .int .i64 a0_4, .int .i64 a0_5, .int .i64 a0_6]) (t := 29) ?hr ?_; (case hd => rfl); (case hg => rfl); (case hr => exact tG); intro gb443 hg w14 hbox hb; have BK443 := Sd.mk (hbox); have GW443 := Sd.mk (bSz hg (bBl HB.out)); have GE443 := Sd.mk (bSz hg (bBl HB.out)); replace HB := Sd.mk (below_step (bBl HB.out) hb); clear hb hbox hg; obtain ⟨u15_0, u15_1, u15_2, u15_3, u15_4, u15_5, u15_6, o15_0, o15_1, o15_2, o15_3, o15_4, o15_5, o15_6⟩ := bc7 (w := w14) BK443.out) | ((with_reducible refine gate_callee (f := 46) rfl ?_); refine goesL_ (some 9) rfl rfl Try.func46 (by kernel_rfl) rfl #[.agg #[.slice A0_0 l0_0.length c0_0, .slice A0_1 l0_1.length c0_1, .slice A0_2 l0_2.length c0_2, .slice A0_3 l0_3.length c0_3, .int .i64 a0_4, .int .i64 a0_5, .int .i64 a0_6], .slice A1 l1.length c1] rfl tM ?_; (with_reducible refine (batch_asked.calls k _ _ l0_0 _ _ l0_1 _ _ l0_2 _ _ l0_3 a0_4 a0_5 a0_6 _ _ l1 t444 _ (cS (Kd.C_below HR0_0.out HB.out)) HC0_0.out (cS (Kd.C_below HR0_1.out HB.out)) HC0_1.out (cS (Kd.C_below HR0_2.out HB.out)) HC0_2.out (cS (Kd.C_below HR0_3.out HB.out)) HC0_3.out (cS (Kd.C_below HR1.out HB.out)) HC1.out A3.out).mono ?_); rintro e w16 ⟨rfl, hb⟩; refine ⟨_, rfl, ?_⟩; replace BK443 := Sd.mk (blk_below (bkA BK443.out) hb); replace HB := Sd.mk (below_step (bBl HB.out) hb); (try clear hb); (try clear hb2); (try clear hk); (try clear hi)))
  go_ret2
  exact ⟨tE, bBl HB.out⟩
end Go.Proofs.Ytkjkokgbhepmoaa.PB

namespace Go.Proofs.Ytkjkokgbhepmoaa.PB
open Go.RowKit Go.Proofs.YtkjkokgbhepmoaaW.PrintWords Go.Proofs.YtkjkokgbhepmoaaW.PrintLast Go.Proofs.YtkjkokgbhepmoaaW.PrintMore
theorem rd_map (mt : List S63) (fc : S63 → Int) (j : Nat) (h : j < mt.length) : rd (mt.map fc) (j : Int) = fc (rd_T63 mt (j : Int)) := by
  simp [rd, rd_T63, List.getD, h]
structure LineOk (n : Nat) (x : S51) : Prop where
  len : x.f0.length = n
  at_ : ∀ j : Nat, j < n → -50000000000000 ≤ rd x.f0 (j : Int) ∧ rd x.f0 (j : Int) ≤ 50000000000000
  b0 : x.f1 ≤ 0
  b1 : -10000000 ≤ x.f1
theorem line_ok {mt : List S63} {fc : S63 → Int} {b : Int} (h : ∀ i : Nat, i < mt.length → -50000000000000 ≤ fc (rd_T63 mt (i : Int)) ∧ fc (rd_T63 mt (i : Int)) ≤ 50000000000000) (h0 : b ≤ 0) (h1 : -10000000 ≤ b) : LineOk mt.length ⟨mt.map fc, b⟩ := by
  refine ⟨List.length_map _, fun j hj => ?_, h0, h1⟩
  show -50000000000000 ≤ rd (mt.map fc) (j : Int) ∧ rd (mt.map fc) (j : Int) ≤ 50000000000000
  rw [rd_map mt fc j hj]
  exact h j hj
theorem gTS_bound {df : Int → Int} {l : List S27} (H : GOk l) (C : DfOk df l.length) : -50000000000000 ≤ gTS df l l.length ∧ gTS df l l.length ≤ 50000000000000 := by
  have h := sumTo_bound (f := gT df l) (M := 3600000000000) (n := l.length) (gT_bound H C) l.length (Nat.le_refl _)
  have hn := H.n12
  unfold gTS
  omega
section
variable {o : List ByteArray} {mt : List S63} {s : List S27} {p : List S65} {a4 a5 a6 : Int}
theorem pair_ok (H : BatchOk o mt s p a4 a5 a6) {j : Nat} (hj : j < s.length + p.length) : ∀ x ∈ pairL mt s p j, LineOk mt.length x := by
  have T := tg_ok H hj
  have C := coef_cfok H hj
  intro x hx
  simp only [pairL, List.mem_cons, List.not_mem_nil, or_false] at hx
  rcases hx with rfl | rfl
  · refine line_ok (fun i hi => ?_) (by omega) (by omega)
    refine gTS_bound (mat_gok H hi) ⟨fun j' hj' => ?_⟩
    rw [(H.mats i hi).len] at hj'
    have := C.at_ j' hj'
    omega
  · refine line_ok (fun i hi => ?_) (by omega) (by omega)
    refine gTS_bound (mat_gok H hi) ⟨fun j' hj' => ?_⟩
    rw [(H.mats i hi).len] at hj'
    have := C.at_ j' hj'
    omega
theorem head_ok (H : BatchOk o mt s p a4 a5 a6) : ∀ n, n ≤ s.length + p.length → ∀ x ∈ headL mt s p a6 n, LineOk mt.length x := by
  intro n
  induction n with
  | zero =>
    intro _ x hx
    simp only [headL, List.mem_cons, List.not_mem_nil, or_false] at hx
    subst hx
    have hw := H.wanted
    refine line_ok (fun i hi => ?_) (by omega) (by omega)
    have := lowM_bound (mat_gok H hi)
    omega
  | succ n ih =>
    intro hn x hx
    simp only [headL, List.mem_append] at hx
    rcases hx with hx | hx
    · exact ih (by omega) x hx
    · exact pair_ok H (by omega) x hx
theorem red_ok (H : BatchOk o mt s p a4 a5 a6) {u : Int} (hu : -10000 ≤ u ∧ u ≤ 10000) {i : Nat} (hi : i < mt.length) :
    (-50000000000000 ≤ rUp u (rd_T63 mt (i : Int)) ∧ rUp u (rd_T63 mt (i : Int)) ≤ 50000000000000) ∧ -50000000000000 ≤ rDn u (rd_T63 mt (i : Int)) ∧ rDn u (rd_T63 mt (i : Int)) ≤ 50000000000000 := by
  have hl := lowM_bound (mat_gok H hi)
  have hr := (H.mats i hi).redox
  have h1 := mulr hu.1 hu.2 hl.1 (Int.le_trans hl.2.1 hl.2.2)
  have h2 := mulr hu.1 hu.2 (Int.le_trans hl.1 hl.2.1) hl.2.2
  unfold rUp rDn mn mx
  constructor <;> split <;> omega
theorem lines_ok (H : BatchOk o mt s p a4 a5 a6) : ∀ x ∈ linesV mt s p a4 a5 a6, LineOk mt.length x := by
  have hr := H.redox
  intro x hx
  simp only [linesV, List.mem_append, List.mem_cons, List.not_mem_nil, or_false] at hx
  rcases hx with hx | rfl | rfl
  · exact head_ok H _ (Nat.le_refl _) x hx
  · exact line_ok (fun i hi => (red_ok H (by omega) hi).1) (by omega) (by omega)
  · exact line_ok (fun i hi => (red_ok H (by omega) hi).2) (by omega) (by omega)
end
def tot (r fs : List Int) (i : Nat) : Int := sumTo (fun j => rd r (j : Int) * rd fs (j : Int)) i
theorem prod_bound {a b : Int} (h0 : 0 ≤ a) (h1 : a ≤ 10000) (h2 : -50000000000000 ≤ b) (h3 : b ≤ 50000000000000) : -500000000000000000 ≤ a * b ∧ a * b ≤ 500000000000000000 := by
  have e1 := Int.mul_le_mul_of_nonneg_left h2 h0
  have e2 := Int.mul_le_mul_of_nonneg_left h3 h0
  omega
theorem vW_tot {mt : List S63} {r : List Int} {x : S51} (hm : mt.length ≤ 12) (hr : RecOk mt r) (hx : LineOk mt.length x) : ∀ i, i ≤ mt.length → vW r x.f0 i = tot r x.f0 i := by
  have hb : ∀ j, j < mt.length → -500000000000000000 ≤ rd r (j : Int) * rd x.f0 (j : Int) ∧ rd r (j : Int) * rd x.f0 (j : Int) ≤ 500000000000000000 := fun j hj => prod_bound (hr.kilos j hj).1 (hr.kilos j hj).2 (hx.at_ j hj).1 (hx.at_ j hj).2
  intro i
  induction i with
  | zero => intro _; rfl
  | succ i ih =>
    intro hi
    have h1 := hb i (by omega)
    have h2 := sumTo_bound (f := fun j => rd r (j : Int) * rd x.f0 (j : Int)) (M := 500000000000000000) (n := mt.length) hb i (by omega)
    have h3 := ih (by omega)
    unfold tot at *
    simp only [vW, sumTo, h3]
    rw [wrap_id (x := rd r (i : Int) * rd x.f0 (i : Int)) (by omega) (by omega), wrap_id (by omega) (by omega)]
theorem not_any_all {α : Type} {l : List α} {f g : α → Bool} (h : ∀ x ∈ l, f x = !(g x)) : (!(l.any f)) = l.all g := by
  induction l with
  | nil => rfl
  | cons x l ih =>
    rw [List.any_cons, List.all_cons, ← ih fun y hy => h y (List.mem_cons_of_mem _ hy), h x List.mem_cons_self]
    cases g x <;> simp
section
variable (o : List ByteArray) (mt : List S63) (s : List S27) (p : List S65) (a4 a5 a6 : Int) (r : List Int)
def passB : Bool := (linesV mt s p a4 a5 a6).all fun x => decide (tot r x.f0 mt.length ≤ x.f1)
theorem keeps_f (H : BatchOk o mt s p a4 a5 a6) (hr : RecOk mt r) : x_keeps.f (linesV mt s p a4 a5 a6) r 1 = some (passB mt s p a4 a5 a6 r) := by
  have L := lines_ok H
  have hm := H.m12
  have hrl := hr.len
  unfold x_keeps.f passB
  rw [if_pos (List.all_eq_true.2 fun x hx => by have h := (L x hx).len; simp only [Bool.and_eq_true, decide_eq_true_eq]; omega)]
  congr 1
  refine not_any_all fun x hx => ?_
  have h := L x hx
  rw [h.len, vW_tot hm hr h mt.length (Nat.le_refl _), wrap_id (x := 1 * x.f1) (by have := h.b0; have := h.b1; omega) (by have := h.b0; omega), Int.one_mul]
  by_cases hc : tot r x.f0 mt.length ≤ x.f1
  · rw [decide_eq_true hc, decide_eq_false (by omega)]; rfl
  · rw [decide_eq_false hc, decide_eq_true (by omega)]; rfl
def PassV : Bool × Int := if askV o mt s p a4 a5 a6 r = 0 then (passB mt s p a4 a5 a6 r, 0) else (false, askV o mt s p a4 a5 a6 r)
theorem ask_check (h : askV o mt s p a4 a5 a6 r = 0) : checkV o mt s p a4 a5 a6 = 0 := by
  unfold askV at h
  by_cases hc : checkV o mt s p a4 a5 a6 = 0
  · exact hc
  · rw [if_neg hc] at h; exact absurd h hc
theorem bPasses : Ev (fun k => batch_Passes.f k o mt s p a4 a5 a6 r) (PassV o mt s p a4 a5 a6 r) := by
  unfold batch_Passes.f PassV
  refine Ev.bind (basked o mt s p a4 a5 a6 r) ?_
  by_cases h : askV o mt s p a4 a5 a6 r = 0
  · obtain ⟨H, hr⟩ := ask_ok h
    simp only [if_pos h, x_lines.f, if_pos (ask_check o mt s p a4 a5 a6 r h), Option.bind_some, keeps_f o mt s p a4 a5 a6 r H hr]
    exact Ev.const _
  · simp only [if_neg h]; exact Ev.const _
end
end Go.Proofs.Ytkjkokgbhepmoaa.PB

namespace Go.Proofs.Ytkjkokgbhepmoaa.PB
open Go.RowKit Go.Proofs.YtkjkokgbhepmoaaW.PrintWords Go.Proofs.YtkjkokgbhepmoaaW.PrintLast Go.Proofs.YtkjkokgbhepmoaaW.PrintMore
theorem sumTo_add (f g : Nat → Int) : ∀ n, sumTo (fun j => f j + g j) n = sumTo f n + sumTo g n
  | 0 => by simp [sumTo]
  | n + 1 => by simp only [sumTo, sumTo_add f g n]; omega
theorem sumTo_sub (f g : Nat → Int) : ∀ n, sumTo (fun j => f j - g j) n = sumTo f n - sumTo g n
  | 0 => by simp [sumTo]
  | n + 1 => by simp only [sumTo, sumTo_sub f g n]; omega
theorem sumTo_mul (k : Int) (f : Nat → Int) : ∀ n, sumTo (fun j => k * f j) n = k * sumTo f n
  | 0 => by simp [sumTo]
  | n + 1 => by simp only [sumTo, sumTo_mul k f n, Int.mul_add]
theorem sumTo_swap (f : Nat → Nat → Int) (m : Nat) : ∀ n, sumTo (fun i => sumTo (fun k => f i k) n) m = sumTo (fun k => sumTo (fun i => f i k) m) n
  | 0 => by simp only [sumTo]; exact sumTo_zero m
  | n + 1 => by simp only [sumTo, sumTo_add, sumTo_swap f m n]
theorem gS_sum (F : S27 → Int) (mt : List S63) (r : List Int) (j : Nat) : ∀ n, gS F mt r j n = sumTo (fun i => rd r (i : Int) * F (rd_T27 (rd_T63 mt (i : Int)).f6 (j : Int))) n
  | 0 => rfl
  | n + 1 => by simp only [gS, sumTo, gS_sum F mt r j n]
theorem tot_map (r : List Int) (mt : List S63) (fc : S63 → Int) : tot r (mt.map fc) mt.length = sumTo (fun i => rd r (i : Int) * fc (rd_T63 mt (i : Int))) mt.length := by
  unfold tot
  exact sumTo_congr _ (fun j hj => by rw [rd_map mt fc j hj])
theorem max_pick {c lo hi : Int} (h : lo ≤ hi) : max (c * lo) (c * hi) = if 0 ≤ c then c * hi else c * lo := by
  by_cases hc : 0 ≤ c
  · rw [if_pos hc]
    have := Int.mul_le_mul_of_nonneg_left h hc
    omega
  · rw [if_neg hc]
    have := Int.mul_le_mul_of_nonpos_left (show c ≤ 0 by omega) h
    omega
section
variable {o : List ByteArray} {mt : List S63} {s : List S27} {p : List S65} {a4 a5 a6 : Int} {r : List Int}
theorem tot_gTS (H : BatchOk o mt s p a4 a5 a6) (hr : RecOk mt r) (df : Int → Int) :
    tot r (mt.map fun x => gTS df x.f6 x.f6.length) mt.length = sumTo (fun k => max (df (k : Int) * (rd_T27 (gramL o.length mt r) (k : Int)).f0) (df (k : Int) * (rd_T27 (gramL o.length mt r) (k : Int)).f1)) o.length := by
  rw [tot_map]
  have e1 : sumTo (fun i => rd r (i : Int) * gTS df (rd_T63 mt (i : Int)).f6 (rd_T63 mt (i : Int)).f6.length) mt.length = sumTo (fun i => sumTo (fun k => rd r (i : Int) * (df (k : Int) * (if 0 ≤ df (k : Int) then (rd_T27 (rd_T63 mt (i : Int)).f6 (k : Int)).f1 else (rd_T27 (rd_T63 mt (i : Int)).f6 (k : Int)).f0))) o.length) mt.length := by
    refine sumTo_congr _ (fun i hi => ?_)
    rw [sumTo_mul]
    congr 1
    unfold gTS
    rw [(H.mats i hi).len]
    refine sumTo_congr _ (fun k hk => ?_)
    unfold gT
    rw [max_pick ((H.mats i hi).con k hk).2.1]
    split <;> rfl
  rw [e1, sumTo_swap]
  refine sumTo_congr _ (fun k hk => ?_)
  have hb := gS_le H hr hk mt.length (Nat.le_refl _)
  rw [gramL_get _ _ _ _ hk, max_pick hb, gS_sum, gS_sum]
  by_cases hc : 0 ≤ df (k : Int)
  · simp only [if_pos hc]
    rw [← sumTo_mul]
    exact sumTo_congr _ (fun i hi => by rw [← Int.mul_assoc, ← Int.mul_assoc, Int.mul_comm (rd r (i : Int))])
  · simp only [if_neg hc]
    rw [← sumTo_mul]
    exact sumTo_congr _ (fun i hi => by rw [← Int.mul_assoc, ← Int.mul_assoc, Int.mul_comm (rd r (i : Int))])
theorem tot_up (H : BatchOk o mt s p a4 a5 a6) (hr : RecOk mt r) (j : Nat) : tot r (mt.map (upF s p j)) mt.length = aboveS (coefOf s p j) (gramL o.length mt r) (tgOf s p j).f1 := by
  have h := tot_gTS H hr (fun k => coefOf s p j k - (tgOf s p j).f1)
  rw [aboveS_sum, gramL_len]
  exact h
theorem tot_dn (H : BatchOk o mt s p a4 a5 a6) (hr : RecOk mt r) (j : Nat) : tot r (mt.map (dnF s p j)) mt.length = belowS (coefOf s p j) (gramL o.length mt r) (tgOf s p j).f0 := by
  have h := tot_gTS H hr (fun k => (tgOf s p j).f0 - coefOf s p j k)
  rw [belowS_sum, gramL_len]
  exact h
theorem wS_mats (H : BatchOk o mt s p a4 a5 a6) (F : S27 → Int) (hF : ∀ k : Nat, k < o.length → F (rd_T27 (gramL o.length mt r) (k : Int)) = gS F mt r k mt.length) :
    wS F (gramL o.length mt r) (gramL o.length mt r).length = sumTo (fun i => rd r (i : Int) * wS F (rd_T63 mt (i : Int)).f6 (rd_T63 mt (i : Int)).f6.length) mt.length := by
  have e1 : sumTo (fun i => rd r (i : Int) * wS F (rd_T63 mt (i : Int)).f6 (rd_T63 mt (i : Int)).f6.length) mt.length = sumTo (fun i => sumTo (fun k => rd r (i : Int) * F (rd_T27 (rd_T63 mt (i : Int)).f6 (k : Int))) o.length) mt.length := by
    refine sumTo_congr _ (fun i hi => ?_)
    rw [sumTo_mul, (H.mats i hi).len]
    rfl
  rw [e1, sumTo_swap, gramL_len]
  exact sumTo_congr _ (fun k hk => by rw [hF k hk, gS_sum])
theorem low_mats (H : BatchOk o mt s p a4 a5 a6) : wS S27.f0 (gramL o.length mt r) (gramL o.length mt r).length = sumTo (fun i => rd r (i : Int) * lowM (rd_T63 mt (i : Int))) mt.length :=
  wS_mats H S27.f0 (fun k hk => by rw [gramL_get _ _ _ _ hk])
theorem high_mats (H : BatchOk o mt s p a4 a5 a6) : wS S27.f1 (gramL o.length mt r) (gramL o.length mt r).length = sumTo (fun i => rd r (i : Int) * highM (rd_T63 mt (i : Int))) mt.length :=
  wS_mats H S27.f1 (fun k hk => by rw [gramL_get _ _ _ _ hk])
theorem tot_low (H : BatchOk o mt s p a4 a5 a6) : tot r (mt.map fun x => -lowM x) mt.length = -lowW o.length mt r := by
  rw [tot_map]
  unfold lowW
  rw [low_mats H]
  have e : sumTo (fun i => rd r (i : Int) * -lowM (rd_T63 mt (i : Int))) mt.length = sumTo (fun i => (-1) * (rd r (i : Int) * lowM (rd_T63 mt (i : Int)))) mt.length := sumTo_congr _ (fun i hi => by rw [Int.mul_neg]; omega)
  rw [e, sumTo_mul]
  omega
theorem rdS_sum (mt : List S63) (r : List Int) : ∀ n, rdS mt r n = sumTo (fun i => rd r (i : Int) * (rd_T63 mt (i : Int)).f2) n
  | 0 => rfl
  | n + 1 => by simp only [rdS, sumTo, rdS_sum mt r n]
theorem mn_pick {c lo hi : Int} (h : lo ≤ hi) : mn (c * lo) (c * hi) = if 0 ≤ c then c * lo else c * hi := by
  unfold mn
  by_cases hc : 0 ≤ c
  · rw [if_pos hc]
    have := Int.mul_le_mul_of_nonneg_left h hc
    rw [if_neg (by omega)]
  · rw [if_neg hc]
    have := Int.mul_le_mul_of_nonpos_left (show c ≤ 0 by omega) h
    split <;> omega
theorem mx_pick {c lo hi : Int} (h : lo ≤ hi) : mx (c * lo) (c * hi) = if 0 ≤ c then c * hi else c * lo := by
  rw [mx_max]
  exact max_pick h
def LO (n : Nat) (mt : List S63) (r : List Int) : Int := wS S27.f0 (gramL n mt r) (gramL n mt r).length
def HI (n : Nat) (mt : List S63) (r : List Int) : Int := wS S27.f1 (gramL n mt r) (gramL n mt r).length
theorem LO_HI (H : BatchOk o mt s p a4 a5 a6) (hr : RecOk mt r) : LO o.length mt r ≤ HI o.length mt r := (wS_bounds (gramL_ok H hr) _ (Nat.le_refl _)).2.2
theorem tot_rUp (H : BatchOk o mt s p a4 a5 a6) (hr : RecOk mt r) (u : Int) : tot r (mt.map (rUp u)) mt.length = 1000000 * rdS mt r mt.length - mn (u * LO o.length mt r) (u * HI o.length mt r) := by
  have e : sumTo (fun i => rd r (i : Int) * rUp u (rd_T63 mt (i : Int))) mt.length = sumTo (fun i => 1000000 * (rd r (i : Int) * (rd_T63 mt (i : Int)).f2) - u * (rd r (i : Int) * (if 0 ≤ u then lowM (rd_T63 mt (i : Int)) else highM (rd_T63 mt (i : Int))))) mt.length := by
    refine sumTo_congr _ (fun i hi => ?_)
    have hl := lowM_bound (mat_gok H hi)
    unfold rUp
    rw [mn_pick hl.2.1, Int.mul_sub, ← Int.mul_assoc 1000000, Int.mul_comm 1000000 (rd r (i : Int)), Int.mul_assoc]
    split
    · rw [← Int.mul_assoc, ← Int.mul_assoc, Int.mul_comm (rd r (i : Int)) u, Int.mul_assoc u]
    · rw [← Int.mul_assoc, ← Int.mul_assoc, Int.mul_comm (rd r (i : Int)) u, Int.mul_assoc u]
  rw [tot_map, e, sumTo_sub, sumTo_mul, sumTo_mul, mn_pick (LO_HI H hr), rdS_sum]
  unfold LO HI
  by_cases hu : 0 ≤ u
  · simp only [if_pos hu]; rw [low_mats H]
  · simp only [if_neg hu]; rw [high_mats H]
theorem tot_rDn (H : BatchOk o mt s p a4 a5 a6) (hr : RecOk mt r) (u : Int) : tot r (mt.map (rDn u)) mt.length = mx (u * LO o.length mt r) (u * HI o.length mt r) - 1000000 * rdS mt r mt.length := by
  have e : sumTo (fun i => rd r (i : Int) * rDn u (rd_T63 mt (i : Int))) mt.length = sumTo (fun i => u * (rd r (i : Int) * (if 0 ≤ u then highM (rd_T63 mt (i : Int)) else lowM (rd_T63 mt (i : Int)))) - 1000000 * (rd r (i : Int) * (rd_T63 mt (i : Int)).f2)) mt.length := by
    refine sumTo_congr _ (fun i hi => ?_)
    have hl := lowM_bound (mat_gok H hi)
    unfold rDn
    rw [mx_pick hl.2.1, Int.mul_sub, ← Int.mul_assoc 1000000, Int.mul_comm 1000000 (rd r (i : Int)), Int.mul_assoc]
    split
    · rw [← Int.mul_assoc, ← Int.mul_assoc, Int.mul_comm (rd r (i : Int)) u, Int.mul_assoc u]
    · rw [← Int.mul_assoc, ← Int.mul_assoc, Int.mul_comm (rd r (i : Int)) u, Int.mul_assoc u]
  rw [tot_map, e, sumTo_sub, sumTo_mul, sumTo_mul, mx_pick (LO_HI H hr), rdS_sum]
  unfold LO HI
  by_cases hu : 0 ≤ u
  · simp only [if_pos hu]; rw [high_mats H]
  · simp only [if_neg hu]; rw [low_mats H]
end
theorem ceil_le {x d a : Int} (hd : 0 < d) : -(-x / d) ≤ a ↔ x ≤ a * d := by
  have h := Int.le_ediv_iff_mul_le (a := -a) (b := -x) hd
  rw [Int.neg_mul] at h
  constructor
  · intro h1
    have := h.1 (by omega)
    omega
  · intro h1
    have := h.2 (by omega)
    omega
theorem le_floor {x d a : Int} (hd : 0 < d) : a ≤ x / d ↔ a * d ≤ x := Int.le_ediv_iff_mul_le hd
theorem le_mn {a x y : Int} : a ≤ mn x y ↔ a ≤ x ∧ a ≤ y := by unfold mn; split <;> omega
theorem mx_le {a x y : Int} : mx x y ≤ a ↔ x ≤ a ∧ y ≤ a := by unfold mx; split <;> omega
section
variable (o : List ByteArray) (mt : List S63) (s : List S27) (p : List S65) (a4 a5 a6 : Int) (r : List Int)
def inF (j : Nat) : Bool := decide ((tgOf s p j).f0 ≤ meanLo (coefOf s p j) (gramL o.length mt r)) && decide (meanHi (coefOf s p j) (gramL o.length mt r) ≤ (tgOf s p j).f1)
def inR : Bool := decide (a4 ≤ (redT mt r (LO o.length mt r) (HI o.length mt r)).1) && decide ((redT mt r (LO o.length mt r) (HI o.length mt r)).2.1 ≤ a5)
def inW : Bool := decide (lowW o.length mt r ≥ 1000 * a6)
def allF (i : Nat) : Bool := (List.range i).all (inF o mt s p r)
theorem allF_succ (i : Nat) : allF o mt s p r (i + 1) = (allF o mt s p r i && inF o mt s p r i) := by
  simp [allF, List.range_succ]
variable (H : BatchOk o mt s p a4 a5 a6) (hr : RecOk mt r)
include H hr in
theorem inF_iff (hp : 0 < lowW o.length mt r) {j : Nat} (hj : j < s.length + p.length) :
    inF o mt s p r j = (decide (tot r (mt.map (upF s p j)) mt.length ≤ 0) && decide (tot r (mt.map (dnF s p j)) mt.length ≤ 0)) := by
  have M : MeanOk (coefOf s p j) (gramL o.length mt r) := meanOk_of (gramL_ok H hr) (by rw [gramL_len]; exact coef_cfok H hj) hp
  unfold inF
  rw [tot_up H hr, tot_dn H hr, Bool.and_comm]
  congr 1
  · exact decide_eq_decide.2 (meanHi_iff M _).symm
  · exact decide_eq_decide.2 (meanLo_iff M _).symm
include H hr in
theorem inR_iff (hp : 0 < lowW o.length mt r) : inR o mt a4 a5 r = (decide (tot r (mt.map (rUp a5)) mt.length ≤ 0) && decide (tot r (mt.map (rDn a4)) mt.length ≤ 0)) := by
  have h0 : 0 < LO o.length mt r := hp
  have h1 : 0 < HI o.length mt r := Int.lt_of_lt_of_le h0 (LO_HI H hr)
  unfold inR redT
  rw [tot_rUp H hr, tot_rDn H hr, Bool.and_comm]
  congr 1
  · refine decide_eq_decide.2 ?_
    show mx _ _ ≤ a5 ↔ _
    rw [mx_le, ceil_le h0, ceil_le h1]
    have := le_mn (a := 1000000 * rdS mt r mt.length) (x := a5 * LO o.length mt r) (y := a5 * HI o.length mt r)
    omega
  · refine decide_eq_decide.2 ?_
    show a4 ≤ mn _ _ ↔ _
    rw [le_mn, le_floor h0, le_floor h1]
    have := mx_le (a := 1000000 * rdS mt r mt.length) (x := a4 * LO o.length mt r) (y := a4 * HI o.length mt r)
    omega
def okL (x : S51) : Bool := decide (tot r x.f0 mt.length ≤ x.f1)
include H hr in
theorem headL_all (hp : 0 < lowW o.length mt r) : ∀ n, n ≤ s.length + p.length → (headL mt s p a6 n).all (okL mt r) = (inW o mt a6 r && allF o mt s p r n)
  | 0, _ => by
    simp only [headL, List.all_cons, List.all_nil, Bool.and_true, okL, allF, List.range_zero]
    unfold inW
    refine decide_eq_decide.2 ?_
    rw [tot_low H]
    omega
  | n + 1, hn => by
    rw [headL, List.all_append, headL_all hp n (by omega), allF_succ, inF_iff o mt s p a4 a5 a6 r H hr hp (show n < s.length + p.length by omega)]
    simp only [pairL, List.all_cons, List.all_nil, Bool.and_true, okL, Bool.and_assoc]
include H hr in
theorem pass_inside (hp : 0 < lowW o.length mt r) : passB mt s p a4 a5 a6 r = (inW o mt a6 r && allF o mt s p r (s.length + p.length) && inR o mt a4 a5 r) := by
  rw [inR_iff o mt s p a4 a5 a6 r H hr hp, ← headL_all o mt s p a4 a5 a6 r H hr hp _ (Nat.le_refl _)]
  show (linesV mt s p a4 a5 a6).all (okL mt r) = _
  rw [linesV, List.all_append]
  simp only [List.all_cons, List.all_nil, Bool.and_true, okL]
include H in
theorem pass_none (hp : lowW o.length mt r = 0) : passB mt s p a4 a5 a6 r = false := by
  have hw := H.wanted
  have hmem : (⟨mt.map (fun x => -lowM x), -1000 * a6⟩ : S51) ∈ linesV mt s p a4 a5 a6 := by
    rw [linesV]
    refine List.mem_append_left _ ?_
    have : ∀ n, (⟨mt.map (fun x => -lowM x), -1000 * a6⟩ : S51) ∈ headL mt s p a6 n := by
      intro n
      induction n with
      | zero => simp [headL]
      | succ n ih => rw [headL]; exact List.mem_append_left _ ih
    exact this _
  unfold passB
  rw [List.all_eq_false]
  refine ⟨_, hmem, ?_⟩
  rw [tot_low H, hp]
  simp only [decide_eq_true_eq]
  omega
end
end Go.Proofs.Ytkjkokgbhepmoaa.PB

namespace Go.Proofs.Ytkjkokgbhepmoaa.PB
open Go.RowKit Go.Proofs.YtkjkokgbhepmoaaW.PrintWords Go.Proofs.YtkjkokgbhepmoaaW.PrintLast Go.Proofs.YtkjkokgbhepmoaaW.PrintMore
attribute [local go_sem] max2_int min2_int max_two min_two max_three min_three max_four min_four
def batch_Lines.f (k : Nat) (l0_0 : List ByteArray) (l0_1 : List (S63)) (l0_2 : List (S27)) (l0_3 : List (S65)) (a0_4 : Int) (a0_5 : Int) (a0_6 : Int) : Option ((List (S51)) × Int) := (batch_Check.f k l0_0 l0_1 l0_2 l0_3 a0_4 a0_5 a0_6).bind fun t413 => (if t413 = 0 then ((x_lines.f l0_0 l0_1 l0_2 l0_3 a0_4 a0_5 a0_6).bind fun t414 => (some (t414, 0))) else (some (([] : List (S51)), t413)))
set_option maxHeartbeats 8000000 in
set_option maxRecDepth 100000 in
theorem batch_Lines.calls (k : Nat) (A0_0 : Option Addr) (c0_0 : Nat) (l0_0 : List ByteArray) (A0_1 : Option Addr) (c0_1 : Nat) (l0_1 : List (S63)) (A0_2 : Option Addr) (c0_2 : Nat) (l0_2 : List (S27)) (A0_3 : Option Addr) (c0_3 : Nat) (l0_3 : List (S65)) (a0_4 : Int) (a0_5 : Int) (a0_6 : Int) (r1 : List (S51)) (r2 : Int) (w : World) (hr0_0 : Kd.C Kd.string w A0_0 l0_0.length l0_0) (hc0_0 : l0_0.length ≤ c0_0) (hr0_1 : Kd.C k63 w A0_1 l0_1.length l0_1) (hc0_1 : l0_1.length ≤ c0_1) (hr0_2 : Kd.C k27 w A0_2 l0_2.length l0_2) (hc0_2 : l0_2.length ≤ c0_2) (hr0_3 : Kd.C k65 w A0_3 l0_3.length l0_3) (hc0_3 : l0_3.length ≤ c0_3) (h : batch_Lines.f k l0_0 l0_1 l0_2 l0_3 a0_4 a0_5 a0_6 = some (r1, r2)) :
  Calls Try.prog 24 #[.agg #[.slice A0_0 l0_0.length c0_0, .slice A0_1 l0_1.length c0_1, .slice A0_2 l0_2.length c0_2, .slice A0_3 l0_3.length c0_3, .int .i64 a0_4, .int .i64 a0_5, .int .i64 a0_6]] w fun e w' => ∃ v0_ : Value, e = .returned (.tuple #[v0_, .int .i64 r2]) ∧ Kd.R k51 51 w' w.heap.size (fun _ => True) v0_ r1 ∧ Below w.heap.size w w' := by
 have hu29 := Try.underlying29; have HR0_0 := Sd.mk hr0_0; have HC0_0 := Sd.mk hc0_0; clear hr0_0 hc0_0; have HR0_1 := Sd.mk hr0_1; have HC0_1 := Sd.mk hc0_1; clear hr0_1 hc0_1; have HR0_2 := Sd.mk hr0_2; have HC0_2 := Sd.mk hc0_2; clear hr0_2 hc0_2; have HR0_3 := Sd.mk hr0_3; have HC0_3 := Sd.mk hc0_3; clear hr0_3 hc0_3; have HB := Sd.mk (Below.refl w.heap.size w)
 have H : ((batch_Check.f k l0_0 l0_1 l0_2 l0_3 a0_4 a0_5 a0_6).bind fun t413 => (if t413 = 0 then ((x_lines.f l0_0 l0_1 l0_2 l0_3 a0_4 a0_5 a0_6).bind fun t414 => (some (t414, 0))) else (some (([] : List (S51)), t413)))) = some (r1, r2) := h
 clear h; replace H := Option.bind_eq_some_iff.mp H; obtain ⟨t413, A20, H⟩ := H
 try dsimp only at H
 have A2 := Sd.mk A20; clear A20
 by_cases c3 : t413 = 0
 ·rw [if_pos c3] at H
  have c3b0 : (t413 == 0) = true := beq_iff_eq.mpr c3
  have c3b1 : (t413 != 0) = false := bne_eq_false_iff_eq.mpr c3
  clear c3; replace H := Option.bind_eq_some_iff.mp H; obtain ⟨t414, A40, H⟩ := H
  try dsimp only at H
  have A4 := Sd.mk A40; clear A40
  simp only [Option.some.injEq, Prod.mk.injEq] at H
  obtain ⟨rfl, rfl⟩ := H
  go_enter Try.func24, Try.ntmps24
  go_wp2_with (first | ((with_reducible refine gate_dst (N := 1) rfl ?_); refine box_event ?hg (N := 1) ?hd (cs := #[.slice A0_0 l0_0.length c0_0, .slice A0_1 l0_1.length c0_1, .slice A0_2 l0_2.length c0_2, .slice A0_3 l0_3.length c0_3, .int .i64 a0_4, .int .i64 a0_5, .int .i64 a0_6]) (t := 29) ?hr ?_; (case hd => rfl); (case hg => rfl); (case hr => exact tG); intro gb412 hg w5 hbox hb; have BK412 := Sd.mk (hbox); have GW412 := Sd.mk (bSz hg (bBl HB.out)); have GE412 := Sd.mk (bSz hg (bBl HB.out)); replace HB := Sd.mk (below_step (bBl HB.out) hb); clear hb hbox hg; obtain ⟨u6_0, u6_1, u6_2, u6_3, u6_4, u6_5, u6_6, o6_0, o6_1, o6_2, o6_3, o6_4, o6_5, o6_6⟩ := bc7 (w := w5) BK412.out) | ((with_reducible refine gate_callee (f := 26) rfl ?_); refine goesL_ (some 6) rfl rfl Try.func26 (by kernel_rfl) rfl #[.agg #[.slice A0_0 l0_0.length c0_0, .slice A0_1 l0_1.length c0_1, .slice A0_2 l0_2.length c0_2, .slice A0_3 l0_3.length c0_3, .int .i64 a0_4, .int .i64 a0_5, .int .i64 a0_6]] rfl tM ?_; (with_reducible refine (batch_Check.calls k _ _ l0_0 _ _ l0_1 _ _ l0_2 _ _ l0_3 a0_4 a0_5 a0_6 t413 _ (cS (Kd.C_below HR0_0.out HB.out)) HC0_0.out (cS (Kd.C_below HR0_1.out HB.out)) HC0_1.out (cS (Kd.C_below HR0_2.out HB.out)) HC0_2.out (cS (Kd.C_below HR0_3.out HB.out)) HC0_3.out A2.out).mono ?_); rintro e w7 ⟨rfl, hb⟩; refine ⟨_, rfl, ?_⟩; replace BK412 := Sd.mk (blk_below (bkA BK412.out) hb); replace HB := Sd.mk (below_step (bBl HB.out) hb); (try clear hb); (try clear hb2); (try clear hk); (try clear hi); obtain ⟨u8_0, u8_1, u8_2, u8_3, u8_4, u8_5, u8_6, o8_0, o8_1, o8_2, o8_3, o8_4, o8_5, o8_6⟩ := bc7 (w := w7) BK412.out) | ((with_reducible refine gate_callee (f := 63) rfl ?_); refine goesL_ (some 11) rfl rfl Try.func63 (by kernel_rfl) rfl #[.agg #[.slice A0_0 l0_0.length c0_0, .slice A0_1 l0_1.length c0_1, .slice A0_2 l0_2.length c0_2, .slice A0_3 l0_3.length c0_3, .int .i64 a0_4, .int .i64 a0_5, .int .i64 a0_6]] rfl tM ?_; (with_reducible refine (x_lines.calls _ _ l0_0 _ _ l0_1 _ _ l0_2 _ _ l0_3 a0_4 a0_5 a0_6 t414 _ (cS (Kd.C_below HR0_0.out HB.out)) HC0_0.out (cS (Kd.C_below HR0_1.out HB.out)) HC0_1.out (cS (Kd.C_below HR0_2.out HB.out)) HC0_2.out (cS (Kd.C_below HR0_3.out HB.out)) HC0_3.out A4.out).mono ?_); rintro e w9 ⟨v415, rfl, ho0, hb⟩; refine ⟨_, rfl, ?_⟩; have HO416 := Sd.mk (Kd.R_lower ho0 (below_size (bBl HB.out))); replace BK412 := Sd.mk (blk_below (bkA BK412.out) hb); replace HB := Sd.mk (below_step (bBl HB.out) hb); (try clear hb); (try clear hb2); (try clear hk); (try clear hi); (try clear ho0)))
  go_ret2
  exact ⟨_, tE, by (with_reducible repeat (first | apply Kd.R_alloc | apply Kd.R_drewN | apply Kd.R_drew)); exact HO416.out, bBl HB.out⟩
 ·rw [if_neg c3] at H
  have c3b0 : (t413 == 0) = false := beq_eq_false_iff_ne.mpr c3
  have c3b1 : (t413 != 0) = true := bne_iff_ne.mpr c3
  simp only [Option.some.injEq, Prod.mk.injEq] at H
  obtain ⟨rfl, rfl⟩ := H
  go_enter Try.func24, Try.ntmps24
  go_wp2_with (first | ((with_reducible refine gate_dst (N := 1) rfl ?_); refine box_event ?hg (N := 1) ?hd (cs := #[.slice A0_0 l0_0.length c0_0, .slice A0_1 l0_1.length c0_1, .slice A0_2 l0_2.length c0_2, .slice A0_3 l0_3.length c0_3, .int .i64 a0_4, .int .i64 a0_5, .int .i64 a0_6]) (t := 29) ?hr ?_; (case hd => rfl); (case hg => rfl); (case hr => exact tG); intro gb412 hg w10 hbox hb; have BK412 := Sd.mk (hbox); have GW412 := Sd.mk (bSz hg (bBl HB.out)); have GE412 := Sd.mk (bSz hg (bBl HB.out)); replace HB := Sd.mk (below_step (bBl HB.out) hb); clear hb hbox hg; obtain ⟨u11_0, u11_1, u11_2, u11_3, u11_4, u11_5, u11_6, o11_0, o11_1, o11_2, o11_3, o11_4, o11_5, o11_6⟩ := bc7 (w := w10) BK412.out) | ((with_reducible refine gate_callee (f := 26) rfl ?_); refine goesL_ (some 6) rfl rfl Try.func26 (by kernel_rfl) rfl #[.agg #[.slice A0_0 l0_0.length c0_0, .slice A0_1 l0_1.length c0_1, .slice A0_2 l0_2.length c0_2, .slice A0_3 l0_3.length c0_3, .int .i64 a0_4, .int .i64 a0_5, .int .i64 a0_6]] rfl tM ?_; (with_reducible refine (batch_Check.calls k _ _ l0_0 _ _ l0_1 _ _ l0_2 _ _ l0_3 a0_4 a0_5 a0_6 t413 _ (cS (Kd.C_below HR0_0.out HB.out)) HC0_0.out (cS (Kd.C_below HR0_1.out HB.out)) HC0_1.out (cS (Kd.C_below HR0_2.out HB.out)) HC0_2.out (cS (Kd.C_below HR0_3.out HB.out)) HC0_3.out A2.out).mono ?_); rintro e w12 ⟨rfl, hb⟩; refine ⟨_, rfl, ?_⟩; replace BK412 := Sd.mk (blk_below (bkA BK412.out) hb); replace HB := Sd.mk (below_step (bBl HB.out) hb); (try clear hb); (try clear hb2); (try clear hk); (try clear hi)))
  go_ret2
  exact ⟨_, tE, by first | exact Kd.R_nil _ _ _ _ _ | exact Kd.N_nil _ _ _ _ _ | exact Kd.V_nil _ _ _ _ _ | exact Kd.Q_nil _ _ _ _ _ | exact Kd.S_nil _ _ _ _ _, bBl HB.out⟩
end Go.Proofs.Ytkjkokgbhepmoaa.PB

namespace Go.Proofs.Ytkjkokgbhepmoaa.PB
open Go.RowKit Go.Proofs.YtkjkokgbhepmoaaW.PrintWords Go.Proofs.YtkjkokgbhepmoaaW.PrintLast Go.Proofs.YtkjkokgbhepmoaaW.PrintMore
section
variable {o : List ByteArray} {mt : List S63} {s : List S27} {p : List S65} {a4 a5 a6 : Int}
end
structure RowAt (w W : World) (g : Nat) (b : Int) (fl : List Int) : Prop where
  ge : w.heap.size ≤ g
  row : ∃ A c, W.heap[g]? = some (.cells #[.slice A fl.length c, .int .i64 b] 51 (0, 0)) ∧ (Kd.int .i64).R 3 W w.heap.size (fun _ => True) (.slice A fl.length c) fl
theorem RowAt.below {w W W' : World} {g : Nat} {b : Int} {fl : List Int} (h : RowAt w W g b fl) (hb : Below W.heap.size W W') : RowAt w W' g b fl := by
  obtain ⟨A, c, h1, h2⟩ := h.row
  exact ⟨h.ge, A, c, blk_below h1 hb, Kd.R_below h2 hb⟩
structure AllW (w Wc Wf W : World) (cs : Array Value) (okN okL : Nat → Prop) (vF : Value) (forms : List S65) (v7 : Value) (xs : List S51) : Prop where
  below : Below w.heap.size w W
  size : Wf.heap.size ≤ W.heap.size
  box : W.heap[w.heap.size]? = some (.cells cs 29 (0, 0))
  forms : k65.N 65 W Wc.heap.size okN vF forms
  list : k51.R 51 W w.heap.size okL v7 xs
theorem AllW.later {w Wc Wf W W' : World} {cs : Array Value} {okN okL : Nat → Prop} {vF v7 : Value} {forms : List S65} {xs : List S51} (h : AllW w Wc Wf W cs okN okL vF forms v7 xs) (hb : Below W.heap.size W W') : AllW w Wc Wf W' cs okN okL vF forms v7 xs :=
  ⟨below_step h.below hb, Nat.le_trans h.size hb.size, blk_below h.box hb, Kd.N_below h.forms hb, Kd.R_below h.list hb⟩
theorem AllW.set {w Wc Wf W : World} {cs : Array Value} {okN okL : Nat → Prop} {vF v7 : Value} {forms : List S65} {xs : List S51} (h : AllW w Wc Wf W cs okN okL vF forms v7 xs) {g : Nat} (u : Value) (h1 : w.heap.size < g) (h2 : ∀ k, okN k → k ≠ g) (h3 : ∀ k, okL k → k ≠ g) : AllW w Wc Wf (W.setCell ⟨g, 0, none⟩ u) cs okN okL vF forms v7 xs :=
  ⟨below_set h.below (Nat.le_of_lt h1), Nat.le_trans h.size (by simp only [World.size_setCell]; exact Nat.le_refl _), blk_far (p := ⟨g, 0, none⟩) h.box (Nat.ne_of_lt h1) u, Kd.N_far (p := ⟨g, 0, none⟩) h.forms h2 u, Kd.R_far (p := ⟨g, 0, none⟩) h.list h3 u⟩
theorem AllW.grown {w Wc Wf W W' : World} {cs : Array Value} {okN okL : Nat → Prop} {vF v7 : Value} {forms : List S65} {xs : List S51} (h : AllW w Wc Wf W cs okN okL vF forms v7 xs) {row : Option Nat} (hb : Below w.heap.size w W') (hg : W.grownBy W' row) (h1 : some w.heap.size ≠ row) (h2 : ∀ k, okN k → some k ≠ row) (h3 : ∀ k, okL k → some k ≠ row) : AllW w Wc Wf W' cs okN okL vF forms v7 xs :=
  ⟨hb, Nat.le_trans h.size hg.size, blk_grown h.box hg h1, Kd.N_grown h.forms hg h2, Kd.R_grown h.list hg h3⟩
structure RowAt3 (w WB W : World) (g : Nat) (v : Value) (fl : List Int) : Prop where
  ge : WB.heap.size ≤ g
  cell : W.heap[g]? = some (.cells #[v, .int .i64 0] 51 (0, 0))
  row : (Kd.int .i64).R 3 W w.heap.size (fun k => v.ownBlock = some k) v fl
  own : ∀ k, v.ownBlock = some k → WB.heap.size ≤ k
theorem RowAt3.later {w WB W W' : World} {g : Nat} {v : Value} {fl : List Int} (h : RowAt3 w WB W g v fl) (hb : Below W.heap.size W W') : RowAt3 w WB W' g v fl :=
  ⟨h.ge, blk_below h.cell hb, Kd.R_below h.row hb, h.own⟩
theorem RowAt3.grown {w WB W W' : World} {g : Nat} {v : Value} {fl : List Int} (h : RowAt3 w WB W g v fl) {row : Option Nat} (hg : W.grownBy W' row) (h1 : some g ≠ row) (h2 : ∀ k, v.ownBlock = some k → some k ≠ row) : RowAt3 w WB W' g v fl :=
  ⟨h.ge, blk_grown h.cell hg h1, Kd.R_grown h.row hg h2, h.own⟩
theorem RowAt3.set {w WB W : World} {g : Nat} {v : Value} {fl : List Int} (h : RowAt3 w WB W g v fl) {g' : Nat} {cs : Array Value} (u : Value) (h1 : g ≠ g') (h2 : W.heap[g']? = some (.cells cs 51 (0, 0))) : RowAt3 w WB (W.setCell ⟨g', 0, none⟩ u) g v fl :=
  ⟨h.ge, blk_far (p := ⟨g', 0, none⟩) h.cell h1 u, Kd.R_mono (Kd.R_far (p := ⟨g', 0, none⟩) (Kd.R_types (t := 51) h.row h2 (by decide)) (fun _ hk => hk.2) u) (fun _ hk => hk.1), h.own⟩
end Go.Proofs.Ytkjkokgbhepmoaa.PB

namespace Go.Proofs.Ytkjkokgbhepmoaa.PB
open Go.RowKit Go.Proofs.YtkjkokgbhepmoaaW.PrintWords Go.Proofs.YtkjkokgbhepmoaaW.PrintLast Go.Proofs.YtkjkokgbhepmoaaW.PrintMore
theorem max2_mx (k k' : IntKind) (x y : Int) : Builtin.max2 (.int k x) (.int k' y) = pure (.int k (mx x y)) := max2_int k k' x y
theorem min2_mn (k k' : IntKind) (x y : Int) : Builtin.min2 (.int k x) (.int k' y) = pure (.int k (mn x y)) := min2_int k k' x y
attribute [local go_sem] max2_mx min2_mn max_two min_two
end Go.Proofs.Ytkjkokgbhepmoaa.PB

namespace Go.Proofs.Ytkjkokgbhepmoaa.PB
open Go.RowKit Go.Proofs.YtkjkokgbhepmoaaW.PrintWords Go.Proofs.YtkjkokgbhepmoaaW.PrintLast Go.Proofs.YtkjkokgbhepmoaaW.PrintMore
attribute [local go_sem] max2_int min2_int max_two min_two max_three min_three max_four min_four
end Go.Proofs.Ytkjkokgbhepmoaa.PB

namespace Go.Proofs.Ytkjkokgbhepmoaa.PB
open Go.RowKit Go.Proofs.YtkjkokgbhepmoaaW.PrintWords Go.Proofs.YtkjkokgbhepmoaaW.PrintLast Go.Proofs.YtkjkokgbhepmoaaW.PrintMore
attribute [local go_sem] max2_int min2_int max_two min_two max_three min_three max_four min_four
end Go.Proofs.Ytkjkokgbhepmoaa.PB

namespace Go.Proofs.Ytkjkokgbhepmoaa.PB
open Go.RowKit Go.Proofs.YtkjkokgbhepmoaaW.PrintWords Go.Proofs.YtkjkokgbhepmoaaW.PrintLast Go.Proofs.YtkjkokgbhepmoaaW.PrintMore
section
variable {o : List ByteArray} {mt : List S63} {s : List S27} {p : List S65} {a4 a5 a6 : Int}
theorem headL_row : ∀ (n : Nat), ∀ x ∈ headL mt s p a6 n, x.f0.length = mt.length
  | 0, x, hx => by
    simp only [headL, List.mem_singleton] at hx
    subst hx; simp
  | n + 1, x, hx => by
    simp only [headL, List.mem_append, pairL, List.mem_cons, List.not_mem_nil, or_false] at hx
    rcases hx with h | h | h
    · exact headL_row n x h
    · subst h; simp
    · subst h; simp
theorem linesV_row (x : S51) (hx : x ∈ linesV mt s p a4 a5 a6) : x.f0.length = mt.length := by
  simp only [linesV, List.mem_append, List.mem_cons, List.not_mem_nil, or_false] at hx
  rcases hx with h | h | h
  · exact headL_row _ x h
  · subst h; simp
  · subst h; simp
theorem linesV_len : (linesV mt s p a4 a5 a6).length = 1 + 2 * (s.length + p.length) + 2 := by
  simp [linesV, headL_len]
end
section
variable (o : List ByteArray) (mt : List S63) (s : List S27) (p : List S65) (a4 a5 a6 : Int)
def LinesR : List S51 × Int := if checkV o mt s p a4 a5 a6 = 0 then (linesV mt s p a4 a5 a6, 0) else ([], checkV o mt s p a4 a5 a6)
theorem bLines : Ev (fun k => batch_Lines.f k o mt s p a4 a5 a6) (LinesR o mt s p a4 a5 a6) := by
  unfold batch_Lines.f LinesR
  refine Ev.bind (bcheck o mt s p a4 a5 a6) ?_
  by_cases h : checkV o mt s p a4 a5 a6 = 0
  · simp only [if_pos h, x_lines.f, Option.bind_some]; exact Ev.const _
  · simp only [if_neg h]; exact Ev.const _
end
end Go.Proofs.Ytkjkokgbhepmoaa.PB

