import Derived.Test.YtljfljekcpdpiaaGreatG4
import Derived.KernelRfl
import Derived.StillTailTactics
import Derived.Deep.DeepCutAuto
import Derived.Shelf.Abstract
import Derived.RangeFuncNested
import Derived.RangeFuncBound
import Derived.RangeFuncCalls
import Derived.RangeFuncLeaves
import Derived.Shelf.RegionOpen
import Derived.WalkKit
import Derived.OwnWalkIn
import Derived.TacticsInMore
import Derived.LoopNIn
import Derived.LoopIn
set_option linter.unusedVariables false
set_option linter.unusedSimpArgs false
set_option maxHeartbeats 8000000
set_option maxRecDepth 1000000
namespace Go.Proofs.YtljfljekcpdpiaaGreat.PB
open Go.RowKit Go.Proofs.YtljfljekcpdpiaaGreatW.PrintWords Go.Proofs.YtljfljekcpdpiaaGreatW.PrintLast Go.Proofs.YtljfljekcpdpiaaGreatW.PrintMore
section
def LeQ (p q : Int × Int) : Prop := p.1 * q.2 ≤ q.1 * p.2
theorem LeQ.refl (p : Int × Int) : LeQ p p := Int.le_refl _
theorem LeQ.trans {p q r : Int × Int} (hp : 0 < p.2) (hq : 0 < q.2) (hr : 0 < r.2) (h : LeQ p q) (k : LeQ q r) : LeQ p r := by
 unfold LeQ at *
 apply Int.le_of_mul_le_mul_right (a := q.2) _ hq
 have e1 : p.1 * r.2 * q.2 = p.1 * q.2 * r.2 := by rw [Int.mul_assoc, Int.mul_comm r.2, ← Int.mul_assoc]
 have e2 : r.1 * p.2 * q.2 = r.1 * q.2 * p.2 := by rw [Int.mul_assoc, Int.mul_comm p.2, ← Int.mul_assoc]
 have e3 : q.1 * p.2 * r.2 = q.1 * r.2 * p.2 := by rw [Int.mul_assoc, Int.mul_comm p.2, ← Int.mul_assoc]
 rw [e1, e2]
 refine Int.le_trans (Int.mul_le_mul_of_nonneg_right h (by omega)) ?_
 rw [e3]
 exact Int.mul_le_mul_of_nonneg_right k (by omega)
def elig (a b : S94) (t0 t1 : Int) : Bool := decide (b.f1 < a.f1) && (decide (b.f1 ≤ t1) && decide (t0 ≤ a.f1))
def fallQ (a b : S94) : Int × Int := (a.f1 - b.f1, b.f0 - a.f0)
def stepQ (a b : S94) (t0 t1 : Int) (q : Int × Int) : Int × Int := if elig a b t0 t1 = true then (if (fallQ a b).1 * q.2 > q.1 * (fallQ a b).2 then fallQ a b else q) else q
def steepS (kn : List S94) (t0 t1 : Int) : Nat → Nat → Int × Int → Int × Int
 | 0, _, q => q
 | m + 1, i, q => steepS kn t0 t1 m (i + 1) (stepQ (kneeN kn (i - 1)) (kneeN kn i) t0 t1 q)
structure QOk (q : Int × Int) : Prop where
 n0 : 0 ≤ q.1
 n1 : q.1 ≤ 10000
 d0 : 1 ≤ q.2
 d1 : q.2 ≤ 2000
theorem fall_ok {a b : S94} (H : PieceOk a b) {t0 t1 : Int} (h : elig a b t0 t1 = true) : QOk (fallQ a b) := by
 simp only [elig, Bool.and_eq_true, decide_eq_true_eq] at h
 obtain ⟨d1, d2, a1, b1⟩ := H
 exact ⟨by show 0 ≤ a.f1 - b.f1; omega, by show a.f1 - b.f1 ≤ 10000; omega, d1, d2⟩
theorem stepQ_ok {a b : S94} (H : PieceOk a b) (t0 t1 : Int) {q : Int × Int} (hq : QOk q) : QOk (stepQ a b t0 t1 q) := by
 unfold stepQ
 split
 ·rename_i h
  split
  ·exact fall_ok H h
  ·exact hq
 ·exact hq
theorem steep_l0 {kn : List S94} (H : LehrOk kn) (fac t0 t1 : Int) : ∀ (m i : Nat) (q : Int × Int), i + m = kn.length → 1 ≤ i → QOk q → Ev (fun k => st_steepest.l0 k (i : Int) kn fac t0 t1 q.1 q.2) (steepS kn t0 t1 m i q)
 | 0, i, q, h, h1, hq => by
  apply Ev.step
  simp only [st_steepest.l0, if_neg (show ¬ (i : Int) < (kn.length : Int) by omega)]
  exact Ev.const _
 | m + 1, i, q, h, h1, hq => by
  have hp := H.piece h1 (by omega)
  have n24 := H.n24
  have ih := steep_l0 H fac t0 t1 m (i + 1) (stepQ (kneeN kn (i - 1)) (kneeN kn i) t0 t1 q) (by omega) (by omega) (stepQ_ok hp t0 t1 hq)
  rw [show ((i + 1 : Nat) : Int) = (i : Int) + 1 by omega] at ih
  apply Ev.step
  simp only [st_steepest.l0, if_pos (show (i : Int) < (kn.length : Int) by omega), wsmall (show -1000000000000000000 ≤ (i : Int) - 1 by omega) (show (i : Int) - 1 ≤ 1000000000000000000 by omega), if_pos (show 0 ≤ (i : Int) - 1 by omega), if_pos (show (i : Int) - 1 < (kn.length : Int) by omega), if_pos (show 0 ≤ (i : Int) by omega)]
  simp only [cast_pred h1]
  have hj : ∀ b : Bool, b = !elig (kneeN kn (i - 1)) (kneeN kn i) t0 t1 → Ev (fun k => st_steepest.j1 k (i : Int) b kn fac t0 t1 q.1 q.2 (kneeN kn (i - 1)).f0 (kneeN kn (i - 1)).f1 (kneeN kn i).f0 (kneeN kn i).f1) (steepS kn t0 t1 (m + 1) i q) := by
   intro b hb
   apply Ev.step
   simp only [steepS]
   obtain ⟨d1, d2, a1, b1⟩ := hp
   obtain ⟨n0, n1, q0, q1⟩ := hq
   generalize kneeN kn (i - 1) = a at *
   generalize kneeN kn i = c at *
   cases he : elig a c t0 t1 with
   | false =>
    obtain rfl : b = true := by rw [hb, he]; rfl
    simp only [st_steepest.j1, if_true, wrap_succ (i_pos i) (show (i : Int) ≤ 1000000000 by omega)]
    have : stepQ a c t0 t1 q = q := if_neg (by rw [he]; simp)
    rw [this] at ih ⊢
    exact ih
   | true =>
    obtain rfl : b = false := by rw [hb, he]; rfl
    have x1 : (a.f1 - c.f1) * q.2 ≤ 20000000 ∧ -20000000 ≤ (a.f1 - c.f1) * q.2 := by
     simp only [elig, Bool.and_eq_true, decide_eq_true_eq] at he
     have := Int.mul_le_mul (show a.f1 - c.f1 ≤ 10000 by omega) q1 (by omega) (by omega)
     have := Int.mul_nonneg (show 0 ≤ a.f1 - c.f1 by omega) (show 0 ≤ q.2 by omega)
     omega
    have x2 : q.1 * (c.f0 - a.f0) ≤ 20000000 ∧ 0 ≤ q.1 * (c.f0 - a.f0) := by
     have := Int.mul_le_mul n1 d2 (by omega) (by omega)
     have := Int.mul_nonneg n0 (show 0 ≤ c.f0 - a.f0 by omega)
     omega
    simp only [st_steepest.j1, Bool.false_eq_true, if_false, st_quotient_above.f, Option.bind_some, decide_eq_true_eq, wrap_succ (i_pos i) (show (i : Int) ≤ 1000000000 by omega), wsmall (show -1000000000000000000 ≤ a.f1 - c.f1 by omega) (show a.f1 - c.f1 ≤ 1000000000000000000 by omega), wsmall (show -1000000000000000000 ≤ c.f0 - a.f0 by omega) (show c.f0 - a.f0 ≤ 1000000000000000000 by omega), wsmall (show -1000000000000000000 ≤ (a.f1 - c.f1) * q.2 by omega) (show (a.f1 - c.f1) * q.2 ≤ 1000000000000000000 by omega), wsmall (show -1000000000000000000 ≤ q.1 * (c.f0 - a.f0) by omega) (show q.1 * (c.f0 - a.f0) ≤ 1000000000000000000 by omega)]
    by_cases hc : (a.f1 - c.f1) * q.2 > q.1 * (c.f0 - a.f0)
    ·have : stepQ a c t0 t1 q = fallQ a c := (if_pos he).trans (if_pos hc)
     rw [this] at ih ⊢
     simp only [if_pos hc]
     exact ih
    ·have : stepQ a c t0 t1 q = q := (if_pos he).trans (if_neg hc)
     rw [this] at ih ⊢
     simp only [if_neg hc]
     exact ih
  change Ev (fun k => if (kneeN kn (i - 1)).f1 ≤ (kneeN kn i).f1 then st_steepest.j1 k (i : Int) true kn fac t0 t1 q.1 q.2 (kneeN kn (i - 1)).f0 (kneeN kn (i - 1)).f1 (kneeN kn i).f0 (kneeN kn i).f1 else (if (kneeN kn i).f1 > t1 then st_steepest.j1 k (i : Int) true kn fac t0 t1 q.1 q.2 (kneeN kn (i - 1)).f0 (kneeN kn (i - 1)).f1 (kneeN kn i).f0 (kneeN kn i).f1 else st_steepest.j1 k (i : Int) (decide ((kneeN kn (i - 1)).f1 < t0)) kn fac t0 t1 q.1 q.2 (kneeN kn (i - 1)).f0 (kneeN kn (i - 1)).f1 (kneeN kn i).f0 (kneeN kn i).f1)) _
  by_cases c1 : (kneeN kn (i - 1)).f1 ≤ (kneeN kn i).f1
  ·simp only [if_pos c1]
   exact hj true (by simp [elig, show ¬ (kneeN kn i).f1 < (kneeN kn (i - 1)).f1 by omega])
  ·by_cases c2 : (kneeN kn i).f1 > t1
   ·simp only [if_neg c1, if_pos c2]
    exact hj true (by simp [elig, show ¬ (kneeN kn i).f1 ≤ t1 by omega])
   ·simp only [if_neg c1, if_neg c2]
    refine hj _ ?_
    simp only [elig, decide_eq_true (show (kneeN kn i).f1 < (kneeN kn (i - 1)).f1 by omega), decide_eq_true (show (kneeN kn i).f1 ≤ t1 by omega), Bool.true_and]
    by_cases c3 : (kneeN kn (i - 1)).f1 < t0
    ·rw [decide_eq_true c3, decide_eq_false (by omega)]; rfl
    ·rw [decide_eq_false c3, decide_eq_true (by omega)]; rfl
def steepV (kn : List S94) (t0 t1 : Int) : Int × Int := steepS kn t0 t1 (kn.length - 1) 1 (0, 1)
theorem q01 : QOk ((0, 1) : Int × Int) := ⟨by simp, by simp, by simp, by simp⟩
theorem steep_ev {kn : List S94} (H : LehrOk kn) (fac t0 t1 : Int) : Ev (fun k => st_steepest.f k kn fac t0 t1) (steepV kn t0 t1) := by
 have n2 := H.n2
 exact steep_l0 H fac t0 t1 (kn.length - 1) 1 (0, 1) (by omega) (by omega) q01
def eligN (kn : List S94) (t0 t1 : Int) (j : Nat) : Bool := elig (kneeN kn (j - 1)) (kneeN kn j) t0 t1
def fallN (kn : List S94) (j : Nat) : Int × Int := fallQ (kneeN kn (j - 1)) (kneeN kn j)
theorem steepS_spec {kn : List S94} (H : LehrOk kn) (t0 t1 : Int) : ∀ (m i : Nat) (q0 : Int × Int), i + m = kn.length → 1 ≤ i → QOk q0 →
  QOk (steepS kn t0 t1 m i q0) ∧ (steepS kn t0 t1 m i q0 = q0 ∨ ∃ j, i ≤ j ∧ j < kn.length ∧ eligN kn t0 t1 j = true ∧ steepS kn t0 t1 m i q0 = fallN kn j) ∧ LeQ q0 (steepS kn t0 t1 m i q0) ∧ ∀ j, i ≤ j → j < kn.length → eligN kn t0 t1 j = true → LeQ (fallN kn j) (steepS kn t0 t1 m i q0)
 | 0, i, q0, h, h1, hq => ⟨hq, .inl rfl, LeQ.refl _, fun j hj hj2 => by omega⟩
 | m + 1, i, q0, h, h1, hq => by
  have hp := H.piece h1 (by omega)
  have hs := stepQ_ok hp t0 t1 hq
  obtain ⟨k1, k2, k3, k4⟩ := steepS_spec H t0 t1 m (i + 1) _ (by omega) (by omega) hs
  have hle : LeQ q0 (stepQ (kneeN kn (i - 1)) (kneeN kn i) t0 t1 q0) := by
   unfold stepQ
   split
   ·split
    ·rename_i h2; unfold LeQ; omega
    ·exact LeQ.refl _
   ·exact LeQ.refl _
  have hge : eligN kn t0 t1 i = true → LeQ (fallN kn i) (stepQ (kneeN kn (i - 1)) (kneeN kn i) t0 t1 q0) := by
   intro he
   have he' : elig (kneeN kn (i - 1)) (kneeN kn i) t0 t1 = true := he
   unfold stepQ
   rw [if_pos he']
   split
   ·exact LeQ.refl _
   ·rename_i h2; unfold LeQ fallN; omega
  have pos : ∀ {q : Int × Int}, QOk q → 0 < q.2 := fun hq => by have := hq.d0; omega
  refine ⟨k1, ?_, LeQ.trans (pos hq) (pos hs) (pos k1) hle k3, fun j hj1 hj2 he => ?_⟩
  ·rcases k2 with k2 | ⟨j, j1, j2, j3, j4⟩
   ·have hx : stepQ (kneeN kn (i - 1)) (kneeN kn i) t0 t1 q0 = q0 ∨ (eligN kn t0 t1 i = true ∧ stepQ (kneeN kn (i - 1)) (kneeN kn i) t0 t1 q0 = fallN kn i) := by
     unfold stepQ
     split
     ·rename_i he
      split
      ·exact .inr ⟨he, rfl⟩
      ·exact .inl rfl
     ·exact .inl rfl
    rcases hx with hx | ⟨he, hx⟩
    ·exact .inl (k2.trans hx)
    ·exact .inr ⟨i, Nat.le_refl _, by omega, he, k2.trans hx⟩
   ·exact .inr ⟨j, by omega, j2, j3, j4⟩
  ·by_cases e : j = i
   ·subst e
    exact LeQ.trans (pos (fall_ok hp he)) (pos hs) (pos k1) (hge he) k3
   ·exact k4 j (by omega) hj2 he
structure SteepOk (kn : List S94) (t0 t1 : Int) (q : Int × Int) : Prop where
 ok : QOk q
 is : q = (0, 1) ∨ ∃ j, 1 ≤ j ∧ j < kn.length ∧ eligN kn t0 t1 j = true ∧ q = fallN kn j
 ge : ∀ j, 1 ≤ j → j < kn.length → eligN kn t0 t1 j = true → LeQ (fallN kn j) q
theorem steepV_spec {kn : List S94} (H : LehrOk kn) (t0 t1 : Int) : SteepOk kn t0 t1 (steepV kn t0 t1) := by
 have n2 := H.n2
 obtain ⟨h1, h2, _, h4⟩ := steepS_spec H t0 t1 (kn.length - 1) 1 (0, 1) (by omega) (by omega) q01
 exact ⟨h1, h2, h4⟩
def strainQ (fac th : Int) (q : Int × Int) : Int := (fac * q.1 * th * th + 1000000 * q.2 - 1) / (1000000 * q.2)
theorem strainQ_le {fac th : Int} {q : Int × Int} (hq : 0 < q.2) (s : Int) : strainQ fac th q ≤ s ↔ fac * q.1 * th * th ≤ s * (1000000 * q.2) := by
 unfold strainQ
 have hb : 0 < 1000000 * q.2 := by omega
 have h := Int.ediv_lt_iff_lt_mul (a := fac * q.1 * th * th + 1000000 * q.2 - 1) (b := s + 1) hb
 rw [Int.add_mul, Int.one_mul] at h
 generalize fac * q.1 * th * th = x at *
 generalize s * (1000000 * q.2) = y at *
 generalize (x + 1000000 * q.2 - 1) / (1000000 * q.2) = z at *
 omega
theorem strainQ_mono {fac th : Int} (hf : 0 ≤ fac) {p q : Int × Int} (hp : 0 < p.2) (hq : 0 < q.2) (h : LeQ p q) : strainQ fac th p ≤ strainQ fac th q := by
 rw [strainQ_le hp]
 have k := (strainQ_le (fac := fac) (th := th) hq _).1 (Int.le_refl _)
 generalize strainQ fac th q = s at *
 have hC : 0 ≤ fac * (th * th) := Int.mul_nonneg hf (by rcases Int.le_total 0 th with h | h; exact Int.mul_nonneg h h; exact Int.mul_nonneg_of_nonpos_of_nonpos h h)
 have e : ∀ n : Int, fac * n * th * th = n * (fac * (th * th)) := fun n => by rw [Int.mul_comm fac n, Int.mul_assoc, Int.mul_assoc]
 rw [e] at k ⊢
 generalize fac * (th * th) = C at *
 apply Int.le_of_mul_le_mul_right (a := q.2) _ hq
 unfold LeQ at h
 have x1 : p.1 * C * q.2 = p.1 * q.2 * C := by rw [Int.mul_assoc, Int.mul_comm C, ← Int.mul_assoc]
 have x2 : s * (1000000 * p.2) * q.2 = s * (1000000 * q.2) * p.2 := by
  rw [Int.mul_assoc, Int.mul_assoc, Int.mul_assoc, Int.mul_assoc, Int.mul_comm p.2 q.2]
 have x3 : q.1 * p.2 * C = q.1 * C * p.2 := by rw [Int.mul_assoc, Int.mul_comm p.2, ← Int.mul_assoc]
 rw [x1, x2]
 refine Int.le_trans (Int.mul_le_mul_of_nonneg_right h hC) ?_
 rw [x3]
 exact Int.mul_le_mul_of_nonneg_right k (by omega)
def strainV (kn : List S94) (fac t0 t1 th : Int) : Int := strainQ fac th (steepV kn t0 t1)
theorem strain_ev {kn : List S94} (H : LehrOk kn) {fac th : Int} (hf : 0 ≤ fac ∧ fac ≤ 10000) (hth : 1 ≤ th ∧ th ≤ 2000) (t0 t1 : Int) : Ev (fun k => st_strain.f k kn fac t0 t1 th) (strainV kn fac t0 t1 th) := by
 unfold st_strain.f strainV strainQ
 refine Ev.bind (steep_ev H fac t0 t1) ?_
 have hq := (steepV_spec H t0 t1).ok
 generalize steepV kn t0 t1 = q at *
 obtain ⟨n0, n1, d0, d1⟩ := hq
 have y1 := Int.mul_le_mul hf.2 n1 n0 (by omega)
 have y1' := Int.mul_nonneg hf.1 n0
 have y2 := Int.mul_le_mul y1 hth.2 (by omega) (by omega)
 have y2' := Int.mul_nonneg y1' (show 0 ≤ th by omega)
 have y3 := Int.mul_le_mul y2 hth.2 (by omega) (by omega)
 have y3' := Int.mul_nonneg y2' (show 0 ≤ th by omega)
 have hb : 0 < 1000000 * q.2 := by omega
 have z0 : 0 ≤ fac * q.1 * th * th + 1000000 * q.2 - 1 := by omega
 have z1 : (fac * q.1 * th * th + 1000000 * q.2 - 1) / (1000000 * q.2) ≤ fac * q.1 * th * th + 1000000 * q.2 - 1 := Int.ediv_le_self _ z0
 have z2 := Int.ediv_nonneg z0 (show 0 ≤ 1000000 * q.2 by omega)
 simp only [st_up.f, wsmall (show -1000000000000000000 ≤ fac * q.1 by omega) (show fac * q.1 ≤ 1000000000000000000 by omega), wsmall (show -1000000000000000000 ≤ fac * q.1 * th by omega) (show fac * q.1 * th ≤ 1000000000000000000 by omega), wsmall (show -1000000000000000000 ≤ fac * q.1 * th * th by omega) (show fac * q.1 * th * th ≤ 1000000000000000000 by omega), wsmall (show -1000000000000000000 ≤ 1000000 * q.2 by omega) (show 1000000 * q.2 ≤ 1000000000000000000 by omega), if_neg (show ¬ 1000000 * q.2 = 0 by omega), wsmall (show -1000000000000000000 ≤ fac * q.1 * th * th + 1000000 * q.2 by omega) (show fac * q.1 * th * th + 1000000 * q.2 ≤ 1000000000000000000 by omega), wsmall (show -1000000000000000000 ≤ fac * q.1 * th * th + 1000000 * q.2 - 1 by omega) (show fac * q.1 * th * th + 1000000 * q.2 - 1 ≤ 1000000000000000000 by omega), Int.tdiv_eq_ediv_of_nonneg z0, wsmall (show -1000000000000000000 ≤ (fac * q.1 * th * th + 1000000 * q.2 - 1) / (1000000 * q.2) by omega) (show (fac * q.1 * th * th + 1000000 * q.2 - 1) / (1000000 * q.2) ≤ 1000000000000000000 by omega), Option.bind_some]
 exact Ev.const _
end
section
mutual
def lw_Great.j0 : Nat → Bool → List ByteArray → List (S70) → List (S27) → List (S89) → Int → Int → Int → Option (Bool)
 | 0, _, _, _, _, _, _, _, _ => none
 | k + 1, x28, x102q0, x102q1, x102q2, x102q3, x102q4, x102q5, x102q6 => if x28 = true then (some true) else (lw_Great.l0 k 0 0 x102q0 x102q1 x102q2 x102q3 x102q4 x102q5 x102q6)
def lw_Great.l0 : Nat → Int → Int → List ByteArray → List (S70) → List (S27) → List (S89) → Int → Int → Int → Option (Bool)
 | 0, _, _, _, _, _, _, _, _, _ => none
 | k + 1, x3, x4, x102q0, x102q1, x102q2, x102q3, x102q4, x102q5, x102q6 => if x4 < (x102q0.length : Int) then (if 0 ≤ x4 then (lw_Great.l0 k (wrap64 (x3 + ((rdOf ByteArray.empty x102q0 x4).size : Int))) (wrap64 (x4 + 1)) x102q0 x102q1 x102q2 x102q3 x102q4 x102q5 x102q6) else (none)) else (lw_Great.l1 k x3 0 x102q0 x102q1 x102q2 x102q3 x102q4 x102q5 x102q6)
def lw_Great.l1 : Nat → Int → Int → List ByteArray → List (S70) → List (S27) → List (S89) → Int → Int → Int → Option (Bool)
 | 0, _, _, _, _, _, _, _, _, _ => none
 | k + 1, x3, x5, x102q0, x102q1, x102q2, x102q3, x102q4, x102q5, x102q6 => if x5 < (x102q1.length : Int) then (if 0 ≤ x5 then (if (((rd_T70 x102q1 x5).f6).length : Int) > 20 then (some true) else (lw_Great.l1 k (wrap64 (x3 + (((rd_T70 x102q1 x5).f0).size : Int))) (wrap64 (x5 + 1)) x102q0 x102q1 x102q2 x102q3 x102q4 x102q5 x102q6)) else (none)) else (lw_Great.l2 k x3 0 x102q0 x102q1 x102q2 x102q3 x102q4 x102q5 x102q6)
def lw_Great.l2 : Nat → Int → Int → List ByteArray → List (S70) → List (S27) → List (S89) → Int → Int → Int → Option (Bool)
 | 0, _, _, _, _, _, _, _, _, _ => none
 | k + 1, x3, x6, x102q0, x102q1, x102q2, x102q3, x102q4, x102q5, x102q6 => if x6 < (x102q3.length : Int) then (if 0 ≤ x6 then (if (((rd_T89 x102q3 x6).f1).length : Int) > 20 then (some true) else (lw_Great.l2 k (wrap64 (x3 + (((rd_T89 x102q3 x6).f0).size : Int))) (wrap64 (x6 + 1)) x102q0 x102q1 x102q2 x102q3 x102q4 x102q5 x102q6)) else (none)) else (some (decide (x3 > 2000)))
end
def lw_Great.f (k : Nat) (l0_0 : List ByteArray) (l0_1 : List (S70)) (l0_2 : List (S27)) (l0_3 : List (S89)) (a0_4 : Int) (a0_5 : Int) (a0_6 : Int) : Option (Bool) := if (l0_0.length : Int) > 20 then (lw_Great.j0 k true l0_0 l0_1 l0_2 l0_3 a0_4 a0_5 a0_6) else (if (l0_1.length : Int) > 20 then (lw_Great.j0 k true l0_0 l0_1 l0_2 l0_3 a0_4 a0_5 a0_6) else (if (l0_2.length : Int) > 20 then (lw_Great.j0 k true l0_0 l0_1 l0_2 l0_3 a0_4 a0_5 a0_6) else (lw_Great.j0 k (decide ((l0_3.length : Int) > 20)) l0_0 l0_1 l0_2 l0_3 a0_4 a0_5 a0_6)))
theorem lw_Great.calls (k : Nat) (A0_0 : Option Addr) (c0_0 : Nat) (l0_0 : List ByteArray) (A0_1 : Option Addr) (c0_1 : Nat) (l0_1 : List (S70)) (A0_2 : Option Addr) (c0_2 : Nat) (l0_2 : List (S27)) (A0_3 : Option Addr) (c0_3 : Nat) (l0_3 : List (S89)) (a0_4 : Int) (a0_5 : Int) (a0_6 : Int) (r : Bool) (w : World) (hr0_0 : Kd.C Kd.string w A0_0 l0_0.length l0_0) (hc0_0 : l0_0.length ≤ c0_0) (hr0_1 : Kd.C k70 w A0_1 l0_1.length l0_1) (hc0_1 : l0_1.length ≤ c0_1) (hr0_2 : Kd.C k27 w A0_2 l0_2.length l0_2) (hc0_2 : l0_2.length ≤ c0_2) (hr0_3 : Kd.C k89 w A0_3 l0_3.length l0_3) (hc0_3 : l0_3.length ≤ c0_3) (h : lw_Great.f k l0_0 l0_1 l0_2 l0_3 a0_4 a0_5 a0_6 = some r) :
  Calls Tryz.prog 10 #[.agg #[.slice A0_0 l0_0.length c0_0, .slice A0_1 l0_1.length c0_1, .slice A0_2 l0_2.length c0_2, .slice A0_3 l0_3.length c0_3, .int .i64 a0_4, .int .i64 a0_5, .int .i64 a0_6]] w fun e w' => e = .returned (.bool r) ∧ Below w.heap.size w w' := by
 have hu29 := Tryz.underlying29; have HR0_0 := Sd.mk hr0_0; have HC0_0 := Sd.mk hc0_0; clear hr0_0 hc0_0; have HR0_1 := Sd.mk hr0_1; have HC0_1 := Sd.mk hc0_1; clear hr0_1 hc0_1; have HR0_2 := Sd.mk hr0_2; have HC0_2 := Sd.mk hc0_2; clear hr0_2 hc0_2; have HR0_3 := Sd.mk hr0_3; have HC0_3 := Sd.mk hc0_3; clear hr0_3 hc0_3; have HB := Sd.mk (Below.refl w.heap.size w)
 have H : (if (l0_0.length : Int) > 20 then (lw_Great.j0 k true l0_0 l0_1 l0_2 l0_3 a0_4 a0_5 a0_6) else (if (l0_1.length : Int) > 20 then (lw_Great.j0 k true l0_0 l0_1 l0_2 l0_3 a0_4 a0_5 a0_6) else (if (l0_2.length : Int) > 20 then (lw_Great.j0 k true l0_0 l0_1 l0_2 l0_3 a0_4 a0_5 a0_6) else (lw_Great.j0 k (decide ((l0_3.length : Int) > 20)) l0_0 l0_1 l0_2 l0_3 a0_4 a0_5 a0_6)))) = some r := h
 clear h; have HC2 := Sd.mk H; clear H
 go_enter Tryz.func10, Tryz.ntmps10
 go_upto_region 1 with (first | ((with_reducible refine gate_dst (N := 1) rfl ?_); (try (refine gate_guard (by rfl) ?_; dsimp only)); refine box_event ?hg (N := 1) ?hd (cs := #[.slice A0_0 l0_0.length c0_0, .slice A0_1 l0_1.length c0_1, .slice A0_2 l0_2.length c0_2, .slice A0_3 l0_3.length c0_3, .int .i64 a0_4, .int .i64 a0_5, .int .i64 a0_6]) (t := 29) ?hr ?_; (case hd => rfl); (case hg => rfl); (case hr => exact tG); intro gb101 hg w3 hbox hb; have BK101 := Sd.mk (hbox); have GW101 := Sd.mk (bSz hg (bBl HB.out)); have GE101 := Sd.mk (bSz hg (bBl HB.out)); replace HB := Sd.mk (below_step (bBl HB.out) hb); clear hb hbox hg))
 (try simp only [Act.put, List.setIfInBounds_toArray, List.set_cons_zero, List.set_cons_succ])
 go_cut [28] (fun v28 wc => ∃ (kq : Nat) (x28_1 : Bool), v28 = .bool x28_1 ∧ Sd (lw_Great.j0 kq x28_1 l0_0 l0_1 l0_2 l0_3 a0_4 a0_5 a0_6 = some r) ∧ Sd (kq ≤ k) ∧ Sd (wc.heap[gb101]? = some (.cells #[(.slice A0_0 l0_0.length c0_0), (.slice A0_1 l0_1.length c0_1), (.slice A0_2 l0_2.length c0_2), (.slice A0_3 l0_3.length c0_3), .int .i64 a0_4, .int .i64 a0_5, .int .i64 a0_6] 29 (0, 0))) ∧ Sd (Below w.heap.size w wc))
 case first =>
  have H := HC2.out; clear HC2
  by_cases c4 : (l0_0.length : Int) > 20
  ·rw [if_pos c4] at H
   have c4b0 : decide (20 < (l0_0.length : Int)) = true := decide_eq_true c4
   have c4b1 : decide (20 < l0_0.length) = true := decide_eq_true (by omega)
   clear c4
   (first | rw [c4b0] | (simp only [i64_w, i32_w]; rw [c4b0]) | skip)
   have H' := Sd.mk H; clear H; obtain ⟨u5_0, u5_1, u5_2, u5_3, u5_4, u5_5, u5_6, o5_0, o5_1, o5_2, o5_3, o5_4, o5_5, o5_6⟩ := bc7 (w := w3) BK101.out
   go_wp2
   go_meet
   case rel => exact ⟨_, (true), tS, H', ⟨by first | omega | exact Nat.le_refl _⟩, ⟨bkA BK101.out⟩, ⟨bBl HB.out⟩⟩
  ·rw [if_neg c4] at H
   have c4b0 : decide (20 < (l0_0.length : Int)) = false := decide_eq_false c4
   have c4b1 : decide (20 < l0_0.length) = false := decide_eq_false (by omega)
   clear c4
   (first | rw [c4b0] | (simp only [i64_w, i32_w]; rw [c4b0]) | skip)
   by_cases c6 : (l0_1.length : Int) > 20
   ·rw [if_pos c6] at H
    have c6b0 : decide (20 < (l0_1.length : Int)) = true := decide_eq_true c6
    have c6b1 : decide (20 < l0_1.length) = true := decide_eq_true (by omega)
    clear c6; have H' := Sd.mk H; clear H; obtain ⟨u7_0, u7_1, u7_2, u7_3, u7_4, u7_5, u7_6, o7_0, o7_1, o7_2, o7_3, o7_4, o7_5, o7_6⟩ := bc7 (w := w3) BK101.out
    go_wp2
    go_meet
    case rel => exact ⟨_, (true), tS, H', ⟨by first | omega | exact Nat.le_refl _⟩, ⟨bkA BK101.out⟩, ⟨bBl HB.out⟩⟩
   ·rw [if_neg c6] at H
    have c6b0 : decide (20 < (l0_1.length : Int)) = false := decide_eq_false c6
    have c6b1 : decide (20 < l0_1.length) = false := decide_eq_false (by omega)
    clear c6
    by_cases c8 : (l0_2.length : Int) > 20
    ·rw [if_pos c8] at H
     have c8b0 : decide (20 < (l0_2.length : Int)) = true := decide_eq_true c8
     have c8b1 : decide (20 < l0_2.length) = true := decide_eq_true (by omega)
     clear c8; have H' := Sd.mk H; clear H; obtain ⟨u9_0, u9_1, u9_2, u9_3, u9_4, u9_5, u9_6, o9_0, o9_1, o9_2, o9_3, o9_4, o9_5, o9_6⟩ := bc7 (w := w3) BK101.out
     go_wp2
     go_meet
     case rel => exact ⟨_, (true), tS, H', ⟨by first | omega | exact Nat.le_refl _⟩, ⟨bkA BK101.out⟩, ⟨bBl HB.out⟩⟩
    ·rw [if_neg c8] at H
     have c8b0 : decide (20 < (l0_2.length : Int)) = false := decide_eq_false c8
     have c8b1 : decide (20 < l0_2.length) = false := decide_eq_false (by omega)
     clear c8; have H' := Sd.mk H; clear H; obtain ⟨u10_0, u10_1, u10_2, u10_3, u10_4, u10_5, u10_6, o10_0, o10_1, o10_2, o10_3, o10_4, o10_5, o10_6⟩ := bc7 (w := w3) BK101.out
     go_wp2
     go_meet
     case rel => exact ⟨_, (decide ((l0_3.length : Int) > 20)), tS, H', ⟨by first | omega | exact Nat.le_refl _⟩, ⟨bkA BK101.out⟩, ⟨bBl HB.out⟩⟩
 case rest =>
  clear HC2; (try clear c1); (try clear p2); (try clear c4); (try clear c4b0); (try clear c4b1); (try clear c6); (try clear c6b0); (try clear c6b1); (try clear c8); (try clear c8b0); (try clear c8b1); (try clear c10); (try clear u10_0 u10_1 u10_2 u10_3 u10_4 u10_5 u10_6); (try clear u5_0 u5_1 u5_2 u5_3 u5_4 u5_5 u5_6); (try clear u7_0 u7_1 u7_2 u7_3 u7_4 u7_5 u7_6); (try clear u9_0 u9_1 u9_2 u9_3 u9_4 u9_5 u9_6); (try clear o10_0 o10_1 o10_2 o10_3 o10_4 o10_5 o10_6); (try clear o5_0 o5_1 o5_2 o5_3 o5_4 o5_5 o5_6); (try clear o7_0 o7_1 o7_2 o7_3 o7_4 o7_5 o7_6); (try clear o9_0 o9_1 o9_2 o9_3 o9_4 o9_5 o9_6); obtain ⟨kq, x28_1, rfl, HA, HJ1, BK101, HB⟩ := hcut
  cases kq with
  | zero => exact absurd HA.out (by simp [lw_Great.j0])
  | succ kj1 =>
   have H := HA.out; clear HA
   simp only [lw_Great.j0] at H
   by_cases c11 : x28_1 = true
   ·subst c11
    have H1 : (some true) = some r := by rw [if_pos rfl] at H; exact H
    clear H; have H := H1; clear H1; obtain rfl := Option.some.inj H
    go_wp2
    go_ret
    exact ⟨tE, bBl HB.out⟩
   ·replace c11 := Bool.eq_false_iff.mpr c11
    subst c11
    have H1 : (lw_Great.l0 kj1 0 0 l0_0 l0_1 l0_2 l0_3 a0_4 a0_5 a0_6) = some r := by rw [if_neg (show ¬ (false = true) by decide)] at H; exact H
    clear H; have H := H1; clear H1; have H' := Sd.mk H; clear H
    go_wp2
    go_loopg [3, 4] kj1 (fun kq v3 v4 w' => ∃ (x3_2 : Int) (x4_2 : Int), v3 = .int .i64 x3_2 ∧ v4 = .int .i64 x4_2 ∧ Sd (lw_Great.l0 kq x3_2 x4_2 l0_0 l0_1 l0_2 l0_3 a0_4 a0_5 a0_6 = some r) ∧ Sd (kq ≤ kj1) ∧ Sd (w'.heap[gb101]? = some (.cells #[(.slice A0_0 l0_0.length c0_0), (.slice A0_1 l0_1.length c0_1), (.slice A0_2 l0_2.length c0_2), (.slice A0_3 l0_3.length c0_3), .int .i64 a0_4, .int .i64 a0_5, .int .i64 a0_6] 29 (0, 0))) ∧ Sd (Below w.heap.size w w'))
    case atStart => exact ⟨(0), (0), tS, tS, H', ⟨Nat.le_refl _⟩, ⟨bkA BK101.out⟩, ⟨bBl HB.out⟩⟩
    case round =>
     clear H'; (try clear c1); (try clear p2 p2); (try clear c4); (try clear c4b0); (try clear c4b1); (try clear c6); (try clear c6b0); (try clear c6b1); (try clear c8); (try clear c8b0); (try clear c8b1); (try clear c10); (try clear c11); (try clear u10_0 u10_1 u10_2 u10_3 u10_4 u10_5 u10_6); (try clear u5_0 u5_1 u5_2 u5_3 u5_4 u5_5 u5_6); (try clear u7_0 u7_1 u7_2 u7_3 u7_4 u7_5 u7_6); (try clear u9_0 u9_1 u9_2 u9_3 u9_4 u9_5 u9_6); (try clear o10_0 o10_1 o10_2 o10_3 o10_4 o10_5 o10_6); (try clear o5_0 o5_1 o5_2 o5_3 o5_4 o5_5 o5_6); (try clear o7_0 o7_1 o7_2 o7_3 o7_4 o7_5 o7_6); (try clear o9_0 o9_1 o9_2 o9_3 o9_4 o9_5 o9_6); obtain ⟨x3_2, x4_2, rfl, rfl, HA, HK2, BK101, HB⟩ := hrel
     cases gk with
     | zero => exact absurd HA.out (by simp [lw_Great.l0])
     | succ k2 =>
      have H := HA.out; clear HA
      simp only [lw_Great.l0] at H
      by_cases c12 : x4_2 < (l0_0.length : Int)
      ·rw [if_pos c12] at H
       have c12b0 : decide (x4_2 < (l0_0.length : Int)) = true := decide_eq_true c12
       clear c12
       by_cases c13 : 0 ≤ x4_2
       ·rw [if_pos c13] at H
        have c13b0 : decide (0 ≤ x4_2) = true := decide_eq_true c13
        clear c13; have H' := Sd.mk H; clear H; obtain ⟨u14_0, u14_1, u14_2, u14_3, u14_4, u14_5, u14_6, o14_0, o14_1, o14_2, o14_3, o14_4, o14_5, o14_6⟩ := bc7 (w := wr) BK101.out
        have p102 : 0 ≤ (x4_2 : Int) := tB
        have q102 : x4_2 < (l0_0.length : Int) := tB
        obtain ⟨ad102, e102, hx102_0⟩ := Kd.at_string HR0_0.out x4_2 p102 q102; cases e102; replace hx102_0 := cU HB hx102_0; replace p102 := eq_true p102; replace q102 := eq_true q102
        go_wp2
        go_roundg k2
        case measure => have := HJ1.out; have := HK2.out; omega
        case rel => exact ⟨(wrap64 (x3_2 + ((rdOf ByteArray.empty l0_0 x4_2).size : Int))), (wrap64 (x4_2 + 1)), tS, tS, H', ⟨by have := HJ1.out; have := HK2.out; omega⟩, ⟨bkA BK101.out⟩, ⟨bBl HB.out⟩⟩
       ·rw [if_neg c13] at H
        exact absurd H (by simp)
      ·rw [if_neg c12] at H
       have c12b0 : decide (x4_2 < (l0_0.length : Int)) = false := decide_eq_false c12
       clear c12; have H' := Sd.mk H; clear H; obtain ⟨u15_0, u15_1, u15_2, u15_3, u15_4, u15_5, u15_6, o15_0, o15_1, o15_2, o15_3, o15_4, o15_5, o15_6⟩ := bc7 (w := wr) BK101.out
       go_wp2
       go_loopg [3, 5] k2 (fun kq v3 v5 w' => ∃ (x3_3 : Int) (x5_3 : Int), v3 = .int .i64 x3_3 ∧ v5 = .int .i64 x5_3 ∧ Sd (lw_Great.l1 kq x3_3 x5_3 l0_0 l0_1 l0_2 l0_3 a0_4 a0_5 a0_6 = some r) ∧ Sd (kq ≤ k2) ∧ Sd (w'.heap[gb101]? = some (.cells #[(.slice A0_0 l0_0.length c0_0), (.slice A0_1 l0_1.length c0_1), (.slice A0_2 l0_2.length c0_2), (.slice A0_3 l0_3.length c0_3), .int .i64 a0_4, .int .i64 a0_5, .int .i64 a0_6] 29 (0, 0))) ∧ Sd (Below w.heap.size w w'))
       case atStart => exact ⟨(x3_2), (0), tS, tS, H', ⟨Nat.le_refl _⟩, ⟨bkA BK101.out⟩, ⟨bBl HB.out⟩⟩
       case round =>
        clear H'; (try clear c1); (try clear p1); (try clear q1); (try clear hx1); (try clear p2 p2); (try clear c4); (try clear c4b0); (try clear c4b1); (try clear c6); (try clear c6b0); (try clear c6b1); (try clear p6); (try clear c8); (try clear c8b0); (try clear c8b1); (try clear c10); (try clear p10); (try clear q10); (try clear hx10); (try clear c11); (try clear c12); (try clear c12b0); (try clear c13); (try clear c13b0); (try clear u10_0 u10_1 u10_2 u10_3 u10_4 u10_5 u10_6); (try clear u14_0 u14_1 u14_2 u14_3 u14_4 u14_5 u14_6); (try clear u15_0 u15_1 u15_2 u15_3 u15_4 u15_5 u15_6); (try clear u5_0 u5_1 u5_2 u5_3 u5_4 u5_5 u5_6); (try clear u7_0 u7_1 u7_2 u7_3 u7_4 u7_5 u7_6); (try clear u9_0 u9_1 u9_2 u9_3 u9_4 u9_5 u9_6); (try clear o10_0 o10_1 o10_2 o10_3 o10_4 o10_5 o10_6); (try clear o14_0 o14_1 o14_2 o14_3 o14_4 o14_5 o14_6); (try clear o15_0 o15_1 o15_2 o15_3 o15_4 o15_5 o15_6); (try clear o5_0 o5_1 o5_2 o5_3 o5_4 o5_5 o5_6); (try clear o7_0 o7_1 o7_2 o7_3 o7_4 o7_5 o7_6); (try clear o9_0 o9_1 o9_2 o9_3 o9_4 o9_5 o9_6); (try clear hx102_0); (try clear p102); (try clear q102); obtain ⟨x3_3, x5_3, rfl, rfl, HA, HK3, BK101, HB⟩ := hrel
        cases gk with
        | zero => exact absurd HA.out (by simp [lw_Great.l1])
        | succ k3 =>
         have H := HA.out; clear HA
         simp only [lw_Great.l1] at H
         by_cases c16 : x5_3 < (l0_1.length : Int)
         ·rw [if_pos c16] at H
          have c16b0 : decide (x5_3 < (l0_1.length : Int)) = true := decide_eq_true c16
          clear c16
          by_cases c17 : 0 ≤ x5_3
          ·rw [if_pos c17] at H
           have c17b0 : decide (0 ≤ x5_3) = true := decide_eq_true c17
           clear c17
           by_cases c18 : (((rd_T70 l0_1 x5_3).f6).length : Int) > 20
           ·rw [if_pos c18] at H
            have c18b0 : decide (20 < (((rd_T70 l0_1 x5_3).f6).length : Int)) = true := decide_eq_true c18
            have c18b1 : decide (20 < ((rd_T70 l0_1 x5_3).f6).length) = true := decide_eq_true (by omega)
            clear c18; obtain rfl := Option.some.inj H; obtain ⟨u19_0, u19_1, u19_2, u19_3, u19_4, u19_5, u19_6, o19_0, o19_1, o19_2, o19_3, o19_4, o19_5, o19_6⟩ := bc7 (w := wr) BK101.out
            have p103 : 0 ≤ (x5_3 : Int) := tB
            have q103 : x5_3 < (l0_1.length : Int) := tB
            obtain ⟨ad103, A103_6, c103_6, e103, hx103_0, hx103_1, hx103_2, hx103_3, hx103_4, hx103_5, hx103_6, hl103_6, hi103_6⟩ := at_T70 HR0_1.out x5_3 p103 q103; cases e103; replace hx103_0 := cU HB hx103_0; replace hx103_1 := cU HB hx103_1; replace hx103_2 := cU HB hx103_2; replace hx103_3 := cU HB hx103_3; replace hx103_4 := cU HB hx103_4; replace hx103_5 := cU HB hx103_5; replace hx103_6 := cU HB hx103_6; have HR103_6 := Sd.mk hi103_6; have HC103_6 := Sd.mk hl103_6; clear hi103_6 hl103_6; replace p103 := eq_true p103; replace q103 := eq_true q103
            have p104 : 0 ≤ (x5_3 : Int) := tB
            have q104 : x5_3 < (l0_1.length : Int) := tB
            obtain ⟨ad104, A104_6, c104_6, e104, hx104_0, hx104_1, hx104_2, hx104_3, hx104_4, hx104_5, hx104_6, hl104_6, hi104_6⟩ := at_T70 HR0_1.out x5_3 p104 q104
            obtain rfl : ad103 = ad104 := (by injection e104)
            replace hx104_0 := cU HB hx104_0; replace hx104_1 := cU HB hx104_1; replace hx104_2 := cU HB hx104_2; replace hx104_3 := cU HB hx104_3; replace hx104_4 := cU HB hx104_4; replace hx104_5 := cU HB hx104_5; replace hx104_6 := cU HB hx104_6; have HR104_6 := Sd.mk hi104_6; have HC104_6 := Sd.mk hl104_6; clear hi104_6 hl104_6; replace p104 := eq_true p104; replace q104 := eq_true q104; have ea_ := Option.some.inj (hx103_6.symm.trans hx104_6)
            injection ea_ with ea_ en_ ec_
            subst ea_; subst ec_; clear en_
            go_wp2
            go_ret
            exact ⟨tE, bBl HB.out⟩
           ·rw [if_neg c18] at H
            have c18b0 : decide (20 < (((rd_T70 l0_1 x5_3).f6).length : Int)) = false := decide_eq_false c18
            have c18b1 : decide (20 < ((rd_T70 l0_1 x5_3).f6).length) = false := decide_eq_false (by omega)
            clear c18; have H' := Sd.mk H; clear H; obtain ⟨u20_0, u20_1, u20_2, u20_3, u20_4, u20_5, u20_6, o20_0, o20_1, o20_2, o20_3, o20_4, o20_5, o20_6⟩ := bc7 (w := wr) BK101.out
            have p103 : 0 ≤ (x5_3 : Int) := tB
            have q103 : x5_3 < (l0_1.length : Int) := tB
            obtain ⟨ad103, A103_6, c103_6, e103, hx103_0, hx103_1, hx103_2, hx103_3, hx103_4, hx103_5, hx103_6, hl103_6, hi103_6⟩ := at_T70 HR0_1.out x5_3 p103 q103; cases e103; replace hx103_0 := cU HB hx103_0; replace hx103_1 := cU HB hx103_1; replace hx103_2 := cU HB hx103_2; replace hx103_3 := cU HB hx103_3; replace hx103_4 := cU HB hx103_4; replace hx103_5 := cU HB hx103_5; replace hx103_6 := cU HB hx103_6; have HR103_6 := Sd.mk hi103_6; have HC103_6 := Sd.mk hl103_6; clear hi103_6 hl103_6; replace p103 := eq_true p103; replace q103 := eq_true q103
            have p104 : 0 ≤ (x5_3 : Int) := tB
            have q104 : x5_3 < (l0_1.length : Int) := tB
            obtain ⟨ad104, A104_6, c104_6, e104, hx104_0, hx104_1, hx104_2, hx104_3, hx104_4, hx104_5, hx104_6, hl104_6, hi104_6⟩ := at_T70 HR0_1.out x5_3 p104 q104
            obtain rfl : ad103 = ad104 := (by injection e104)
            replace hx104_0 := cU HB hx104_0; replace hx104_1 := cU HB hx104_1; replace hx104_2 := cU HB hx104_2; replace hx104_3 := cU HB hx104_3; replace hx104_4 := cU HB hx104_4; replace hx104_5 := cU HB hx104_5; replace hx104_6 := cU HB hx104_6; have HR104_6 := Sd.mk hi104_6; have HC104_6 := Sd.mk hl104_6; clear hi104_6 hl104_6; replace p104 := eq_true p104; replace q104 := eq_true q104; have ea_ := Option.some.inj (hx103_6.symm.trans hx104_6)
            injection ea_ with ea_ en_ ec_
            subst ea_; subst ec_; clear en_
            go_wp2
            go_roundg k3
            case measure => have := HJ1.out; have := HK2.out; have := HK3.out; omega
            case rel => exact ⟨(wrap64 (x3_3 + (((rd_T70 l0_1 x5_3).f0).size : Int))), (wrap64 (x5_3 + 1)), tS, tS, H', ⟨by have := HJ1.out; have := HK2.out; have := HK3.out; omega⟩, ⟨bkA BK101.out⟩, ⟨bBl HB.out⟩⟩
          ·rw [if_neg c17] at H
           exact absurd H (by simp)
         ·rw [if_neg c16] at H
          have c16b0 : decide (x5_3 < (l0_1.length : Int)) = false := decide_eq_false c16
          clear c16; have H' := Sd.mk H; clear H; obtain ⟨u21_0, u21_1, u21_2, u21_3, u21_4, u21_5, u21_6, o21_0, o21_1, o21_2, o21_3, o21_4, o21_5, o21_6⟩ := bc7 (w := wr) BK101.out
          go_wp2
          go_loopg [3, 6] k3 (fun kq v3 v6 w' => ∃ (x3_4 : Int) (x6_4 : Int), v3 = .int .i64 x3_4 ∧ v6 = .int .i64 x6_4 ∧ Sd (lw_Great.l2 kq x3_4 x6_4 l0_0 l0_1 l0_2 l0_3 a0_4 a0_5 a0_6 = some r) ∧ Sd (kq ≤ k3) ∧ Sd (w'.heap[gb101]? = some (.cells #[(.slice A0_0 l0_0.length c0_0), (.slice A0_1 l0_1.length c0_1), (.slice A0_2 l0_2.length c0_2), (.slice A0_3 l0_3.length c0_3), .int .i64 a0_4, .int .i64 a0_5, .int .i64 a0_6] 29 (0, 0))) ∧ Sd (Below w.heap.size w w'))
          case atStart => exact ⟨(x3_3), (0), tS, tS, H', ⟨Nat.le_refl _⟩, ⟨bkA BK101.out⟩, ⟨bBl HB.out⟩⟩
          case round =>
           clear H'; (try clear c1); (try clear p1 p1); (try clear q1 q1); (try clear hx1); (try clear p2 p2); (try clear c4); (try clear c4b0); (try clear c4b1); (try clear c6); (try clear c6b0); (try clear c6b1); (try clear p6 p6); (try clear c8); (try clear c8b0); (try clear c8b1); (try clear c10); (try clear p10 p10); (try clear q10 q10); (try clear hx10); (try clear c11); (try clear c12); (try clear c12b0); (try clear c13); (try clear c13b0); (try clear c16); (try clear c16b0); (try clear c17); (try clear c17b0); (try clear c18); (try clear c18b0); (try clear c18b1); (try clear u10_0 u10_1 u10_2 u10_3 u10_4 u10_5 u10_6); (try clear u14_0 u14_1 u14_2 u14_3 u14_4 u14_5 u14_6); (try clear u15_0 u15_1 u15_2 u15_3 u15_4 u15_5 u15_6); (try clear u19_0 u19_1 u19_2 u19_3 u19_4 u19_5 u19_6); (try clear u20_0 u20_1 u20_2 u20_3 u20_4 u20_5 u20_6); (try clear u21_0 u21_1 u21_2 u21_3 u21_4 u21_5 u21_6); (try clear u5_0 u5_1 u5_2 u5_3 u5_4 u5_5 u5_6); (try clear u7_0 u7_1 u7_2 u7_3 u7_4 u7_5 u7_6); (try clear u9_0 u9_1 u9_2 u9_3 u9_4 u9_5 u9_6); (try clear o10_0 o10_1 o10_2 o10_3 o10_4 o10_5 o10_6); (try clear o14_0 o14_1 o14_2 o14_3 o14_4 o14_5 o14_6); (try clear o15_0 o15_1 o15_2 o15_3 o15_4 o15_5 o15_6); (try clear o19_0 o19_1 o19_2 o19_3 o19_4 o19_5 o19_6); (try clear o20_0 o20_1 o20_2 o20_3 o20_4 o20_5 o20_6); (try clear o21_0 o21_1 o21_2 o21_3 o21_4 o21_5 o21_6); (try clear o5_0 o5_1 o5_2 o5_3 o5_4 o5_5 o5_6); (try clear o7_0 o7_1 o7_2 o7_3 o7_4 o7_5 o7_6); (try clear o9_0 o9_1 o9_2 o9_3 o9_4 o9_5 o9_6); (try clear hx102_0); (try clear hx103_0); (try clear hx103_1); (try clear hx103_2); (try clear hx103_3); (try clear hx103_4); (try clear hx103_5); (try clear hx103_6); (try clear hx104_0); (try clear hx104_1); (try clear hx104_2); (try clear hx104_3); (try clear hx104_4); (try clear hx104_5); (try clear hx104_6); (try clear p102); (try clear p103); (try clear p104); (try clear q102); (try clear q103); (try clear q104); obtain ⟨x3_4, x6_4, rfl, rfl, HA, HK4, BK101, HB⟩ := hrel
           cases gk with
           | zero => exact absurd HA.out (by simp [lw_Great.l2])
           | succ k4 =>
            have H := HA.out; clear HA
            simp only [lw_Great.l2] at H
            by_cases c22 : x6_4 < (l0_3.length : Int)
            ·rw [if_pos c22] at H
             have c22b0 : decide (x6_4 < (l0_3.length : Int)) = true := decide_eq_true c22
             clear c22
             by_cases c23 : 0 ≤ x6_4
             ·rw [if_pos c23] at H
              have c23b0 : decide (0 ≤ x6_4) = true := decide_eq_true c23
              clear c23
              by_cases c24 : (((rd_T89 l0_3 x6_4).f1).length : Int) > 20
              ·rw [if_pos c24] at H
               have c24b0 : decide (20 < (((rd_T89 l0_3 x6_4).f1).length : Int)) = true := decide_eq_true c24
               have c24b1 : decide (20 < ((rd_T89 l0_3 x6_4).f1).length) = true := decide_eq_true (by omega)
               clear c24; obtain rfl := Option.some.inj H; obtain ⟨u25_0, u25_1, u25_2, u25_3, u25_4, u25_5, u25_6, o25_0, o25_1, o25_2, o25_3, o25_4, o25_5, o25_6⟩ := bc7 (w := wr) BK101.out
               have p105 : 0 ≤ (x6_4 : Int) := tB
               have q105 : x6_4 < (l0_3.length : Int) := tB
               obtain ⟨ad105, A105_1, c105_1, e105, hx105_0, hx105_1, hx105_2, hx105_3, hl105_1, hi105_1⟩ := at_T89 HR0_3.out x6_4 p105 q105; cases e105; replace hx105_0 := cU HB hx105_0; replace hx105_1 := cU HB hx105_1; replace hx105_2 := cU HB hx105_2; replace hx105_3 := cU HB hx105_3; have HR105_1 := Sd.mk hi105_1; have HC105_1 := Sd.mk hl105_1; clear hi105_1 hl105_1; replace p105 := eq_true p105; replace q105 := eq_true q105
               have p106 : 0 ≤ (x6_4 : Int) := tB
               have q106 : x6_4 < (l0_3.length : Int) := tB
               obtain ⟨ad106, A106_1, c106_1, e106, hx106_0, hx106_1, hx106_2, hx106_3, hl106_1, hi106_1⟩ := at_T89 HR0_3.out x6_4 p106 q106
               obtain rfl : ad105 = ad106 := (by injection e106)
               replace hx106_0 := cU HB hx106_0; replace hx106_1 := cU HB hx106_1; replace hx106_2 := cU HB hx106_2; replace hx106_3 := cU HB hx106_3; have HR106_1 := Sd.mk hi106_1; have HC106_1 := Sd.mk hl106_1; clear hi106_1 hl106_1; replace p106 := eq_true p106; replace q106 := eq_true q106; have ea_ := Option.some.inj (hx105_1.symm.trans hx106_1)
               injection ea_ with ea_ en_ ec_
               subst ea_; subst ec_; clear en_
               go_wp2
               go_ret
               exact ⟨tE, bBl HB.out⟩
              ·rw [if_neg c24] at H
               have c24b0 : decide (20 < (((rd_T89 l0_3 x6_4).f1).length : Int)) = false := decide_eq_false c24
               have c24b1 : decide (20 < ((rd_T89 l0_3 x6_4).f1).length) = false := decide_eq_false (by omega)
               clear c24; have H' := Sd.mk H; clear H; obtain ⟨u26_0, u26_1, u26_2, u26_3, u26_4, u26_5, u26_6, o26_0, o26_1, o26_2, o26_3, o26_4, o26_5, o26_6⟩ := bc7 (w := wr) BK101.out
               have p105 : 0 ≤ (x6_4 : Int) := tB
               have q105 : x6_4 < (l0_3.length : Int) := tB
               obtain ⟨ad105, A105_1, c105_1, e105, hx105_0, hx105_1, hx105_2, hx105_3, hl105_1, hi105_1⟩ := at_T89 HR0_3.out x6_4 p105 q105; cases e105; replace hx105_0 := cU HB hx105_0; replace hx105_1 := cU HB hx105_1; replace hx105_2 := cU HB hx105_2; replace hx105_3 := cU HB hx105_3; have HR105_1 := Sd.mk hi105_1; have HC105_1 := Sd.mk hl105_1; clear hi105_1 hl105_1; replace p105 := eq_true p105; replace q105 := eq_true q105
               have p106 : 0 ≤ (x6_4 : Int) := tB
               have q106 : x6_4 < (l0_3.length : Int) := tB
               obtain ⟨ad106, A106_1, c106_1, e106, hx106_0, hx106_1, hx106_2, hx106_3, hl106_1, hi106_1⟩ := at_T89 HR0_3.out x6_4 p106 q106
               obtain rfl : ad105 = ad106 := (by injection e106)
               replace hx106_0 := cU HB hx106_0; replace hx106_1 := cU HB hx106_1; replace hx106_2 := cU HB hx106_2; replace hx106_3 := cU HB hx106_3; have HR106_1 := Sd.mk hi106_1; have HC106_1 := Sd.mk hl106_1; clear hi106_1 hl106_1; replace p106 := eq_true p106; replace q106 := eq_true q106; have ea_ := Option.some.inj (hx105_1.symm.trans hx106_1)
               injection ea_ with ea_ en_ ec_
               subst ea_; subst ec_; clear en_
               go_wp2
               go_roundg k4
               case measure => have := HJ1.out; have := HK2.out; have := HK3.out; have := HK4.out; omega
               case rel => exact ⟨(wrap64 (x3_4 + (((rd_T89 l0_3 x6_4).f0).size : Int))), (wrap64 (x6_4 + 1)), tS, tS, H', ⟨by have := HJ1.out; have := HK2.out; have := HK3.out; have := HK4.out; omega⟩, ⟨bkA BK101.out⟩, ⟨bBl HB.out⟩⟩
             ·rw [if_neg c23] at H
              exact absurd H (by simp)
            ·rw [if_neg c22] at H
             have c22b0 : decide (x6_4 < (l0_3.length : Int)) = false := decide_eq_false c22
             clear c22; obtain rfl := Option.some.inj H; obtain ⟨u27_0, u27_1, u27_2, u27_3, u27_4, u27_5, u27_6, o27_0, o27_1, o27_2, o27_3, o27_4, o27_5, o27_6⟩ := bc7 (w := wr) BK101.out
             go_wp2
             go_ret
             exact ⟨tE, bBl HB.out⟩
end
section
theorem eqA27 (d : Nat) (w : World) (x0 y0 : Int) (x1 y1 : Int) :
  (Op.equalIn (d + 2) 27 (.agg #[.int .i64 x0, .int .i64 x1]) (.agg #[.int .i64 y0, .int .i64 y1])).run Tryz.prog w = .ok (x0 == y0 && (x1 == y1)) w := by
 refine eqA_of Tryz.underlying27 (by kernel_rfl) ?_
 refine eqf_cons (by rfl) (by go_simp; rfl) (by go_simp; rfl) (by go_simp) ?_
 exact eqf_last (by rfl) (by go_simp; rfl) (by go_simp; rfl) (by go_simp)
end
section
attribute [local go_sem high] eqA27
def lw_SameSpans.l0 : Nat → List (S27) → List (S27) → Int → Option (Bool)
 | 0, _, _, _ => none
 | k + 1, x0, x1, x5 => if x5 < (x0.length : Int) then (if 0 ≤ x5 then (if x5 < (x1.length : Int) then (if (!(((rd_T27 x0 x5).f0) == ((rd_T27 x1 x5).f0)) || (!(((rd_T27 x0 x5).f1) == ((rd_T27 x1 x5).f1)))) = true then (some false) else (lw_SameSpans.l0 k x0 x1 (wrap64 (x5 + 1)))) else (none)) else (none)) else (some true)
def lw_SameSpans.f (k : Nat) (l0 : List (S27)) (l1 : List (S27)) : Option (Bool) := if (l0.length : Int) = (l1.length : Int) then (lw_SameSpans.l0 k l0 l1 0) else (some false)
theorem lw_SameSpans.mono_l : ∀ k, (∀ y0 y1 y2, LeO (lw_SameSpans.l0 k y0 y1 y2) (lw_SameSpans.l0 (k + 1) y0 y1 y2))
 | 0 => fun _ _ _ r h => by simp [lw_SameSpans.l0] at h
 | k + 1 => by
  have ih0 := lw_SameSpans.mono_l k
  ·intro y0 y1 y2
   unfold lw_SameSpans.l0
   repeat' first
   | (with_reducible exact ih0 _ _ _)
   | (with_reducible exact LeO.refl _)
   | (with_reducible exact LeO.none _)
   | (with_reducible refine LeO.ite ?_ ?_)
   | (with_reducible refine LeO.bind ?_ (fun _ => ?_))
   | exact LeO.none _
   | refine LeO.ite ?_ ?_
   | refine LeO.bind ?_ (fun _ => ?_)
theorem lw_SameSpans.mono : ∀ a0 a1 k, LeO (lw_SameSpans.f k a0 a1) (lw_SameSpans.f (k + 1) a0 a1) := by
 intro a0 a1 k
 have ih0 := lw_SameSpans.mono_l k
 unfold lw_SameSpans.f
 repeat' first
   | (with_reducible exact ih0 _ _ _)
   | (with_reducible exact LeO.refl _)
   | (with_reducible exact LeO.none _)
   | (with_reducible refine LeO.ite ?_ ?_)
   | (with_reducible refine LeO.bind ?_ (fun _ => ?_))
   | exact LeO.none _
   | refine LeO.ite ?_ ?_
   | refine LeO.bind ?_ (fun _ => ?_)
theorem lw_SameSpans.calls (k : Nat) (A0 : Option Addr) (c0 : Nat) (l0 : List (S27)) (A1 : Option Addr) (c1 : Nat) (l1 : List (S27)) (r : Bool) (w : World) (hr0 : Kd.C k27 w A0 l0.length l0) (hc0 : l0.length ≤ c0) (hr1 : Kd.C k27 w A1 l1.length l1) (hc1 : l1.length ≤ c1) (h : lw_SameSpans.f k l0 l1 = some r) :
  Calls Tryz.prog 49 #[.slice A0 l0.length c0, .slice A1 l1.length c1] w fun e w' => e = .returned (.bool r) ∧ Drawn0 w w' := by
 have hu27 := Tryz.underlying27; have HR0 := Sd.mk hr0; have HC0 := Sd.mk hc0; clear hr0 hc0; have HR1 := Sd.mk hr1; have HC1 := Sd.mk hc1; clear hr1 hc1
 have H : (if (l0.length : Int) = (l1.length : Int) then (lw_SameSpans.l0 k l0 l1 0) else (some false)) = some r := h
 clear h
 by_cases c3 : (l0.length : Int) = (l1.length : Int)
 ·rw [if_pos c3] at H
  have c3b0 : ((l0.length : Int) == (l1.length : Int)) = true := beq_iff_eq.mpr c3
  have c3b1 : ((l0.length : Int) != (l1.length : Int)) = false := bne_eq_false_iff_eq.mpr c3
  have c3b2 : (l0.length == l1.length) = true := by first | simpa using c3 | (simp at c3 ⊢; omega)
  clear c3; have H' := Sd.mk H; clear H
  go_enter Tryz.func49, Tryz.ntmps49
  go_wp2
  repeat (go_quiet (fail); try go_wp2)
  go_loopg [5] k (fun kq v5 w' => ∃ (x5_1 : Int), v5 = .int .i64 x5_1 ∧ Sd (lw_SameSpans.l0 kq l0 l1 x5_1 = some r) ∧ Sd (kq ≤ k) ∧ Drawn0 w w')
  case atStart => exact ⟨(0), tS, H', ⟨Nat.le_refl _⟩, by repeat (first | exact Drawn0.refl _ | apply Drawn0.step)⟩
  case round =>
   clear H'; (try clear c1); (try clear p2); (try clear c3); (try clear c3b0); (try clear c3b1); (try clear c3b2)
   obtain ⟨x5_1, rfl, HA, HK1, ⟨m1, rfl⟩⟩ := hrel
   cases gk with
   | zero => exact absurd HA.out (by simp [lw_SameSpans.l0])
   | succ k1 =>
    have H := HA.out; clear HA
    simp only [lw_SameSpans.l0] at H
    by_cases c4 : x5_1 < (l0.length : Int)
    ·rw [if_pos c4] at H
     have c4b0 : decide (x5_1 < (l0.length : Int)) = true := decide_eq_true c4
     clear c4
     by_cases c5 : 0 ≤ x5_1
     ·rw [if_pos c5] at H
      have c5b0 : decide (0 ≤ x5_1) = true := decide_eq_true c5
      clear c5
      by_cases c6 : x5_1 < (l1.length : Int)
      ·rw [if_pos c6] at H
       have c6b0 : decide (x5_1 < (l1.length : Int)) = true := decide_eq_true c6
       clear c6
       by_cases c7 : (!(((rd_T27 l0 x5_1).f0) == ((rd_T27 l1 x5_1).f0)) || (!(((rd_T27 l0 x5_1).f1) == ((rd_T27 l1 x5_1).f1)))) = true
       ·rw [if_pos c7] at H
        have c7b0 : (!(((rd_T27 l0 x5_1).f0) == ((rd_T27 l1 x5_1).f0)) || (!(((rd_T27 l0 x5_1).f1) == ((rd_T27 l1 x5_1).f1)))) = true := c7
        clear c7; obtain rfl := Option.some.inj H
        have p192 : 0 ≤ (x5_1 : Int) := tB
        have q192 : x5_1 < (l0.length : Int) := tB
        obtain ⟨ad192, e192, hx192_0, hx192_1⟩ := at_T27 HR0.out x5_1 p192 q192; cases e192; replace p192 := eq_true p192; replace q192 := eq_true q192
        have p193 : 0 ≤ (x5_1 : Int) := tB
        have q193 : x5_1 < (l1.length : Int) := tB
        obtain ⟨ad193, e193, hx193_0, hx193_1⟩ := at_T27 HR1.out x5_1 p193 q193; cases e193; replace p193 := eq_true p193; replace q193 := eq_true q193
        go_wp2
        repeat (go_quiet (fail); try go_wp2)
        go_ret
        exact ⟨by first | rfl | (simp; done) | (simp [*]; done), by repeat (first | exact Drawn0.refl _ | apply Drawn0.step)⟩
       ·rw [if_neg c7] at H
        have c7b0 : (!(((rd_T27 l0 x5_1).f0) == ((rd_T27 l1 x5_1).f0)) || (!(((rd_T27 l0 x5_1).f1) == ((rd_T27 l1 x5_1).f1)))) = false := by simpa using c7
        clear c7; have H' := Sd.mk H; clear H
        have p192 : 0 ≤ (x5_1 : Int) := tB
        have q192 : x5_1 < (l0.length : Int) := tB
        obtain ⟨ad192, e192, hx192_0, hx192_1⟩ := at_T27 HR0.out x5_1 p192 q192; cases e192; replace p192 := eq_true p192; replace q192 := eq_true q192
        have p193 : 0 ≤ (x5_1 : Int) := tB
        have q193 : x5_1 < (l1.length : Int) := tB
        obtain ⟨ad193, e193, hx193_0, hx193_1⟩ := at_T27 HR1.out x5_1 p193 q193; cases e193; replace p193 := eq_true p193; replace q193 := eq_true q193
        go_wp2
        repeat (go_quiet (fail); try go_wp2)
        go_roundg k1
        case measure => have := HK1.out; omega
        case rel => exact ⟨(wrap64 (x5_1 + 1)), tS, H', ⟨by have := HK1.out; omega⟩, by repeat (first | exact Drawn0.refl _ | apply Drawn0.step)⟩
      ·rw [if_neg c6] at H
       exact absurd H (by simp)
     ·rw [if_neg c5] at H
      exact absurd H (by simp)
    ·rw [if_neg c4] at H
     have c4b0 : decide (x5_1 < (l0.length : Int)) = false := decide_eq_false c4
     clear c4; obtain rfl := Option.some.inj H
     go_wp2
     repeat (go_quiet (fail); try go_wp2)
     go_ret
     exact ⟨by first | rfl | (simp; done) | (simp [*]; done), by repeat (first | exact Drawn0.refl _ | apply Drawn0.step)⟩
 ·rw [if_neg c3] at H
  have c3b0 : ((l0.length : Int) == (l1.length : Int)) = false := beq_eq_false_iff_ne.mpr c3
  have c3b1 : ((l0.length : Int) != (l1.length : Int)) = true := bne_iff_ne.mpr c3
  have c3b2 : (l0.length == l1.length) = false := by first | simpa using c3 | (simp at c3 ⊢; omega)
  obtain rfl := Option.some.inj H
  go_enter Tryz.func49, Tryz.ntmps49
  go_wp2
  repeat (go_quiet (fail); try go_wp2)
  go_ret
  exact ⟨by first | rfl | (simp; done) | (simp [*]; done), by repeat (first | exact Drawn0.refl _ | apply Drawn0.step)⟩
end
section
end
section
end
section
end
section
section
variable {o : List ByteArray} {mt : List S70} {s : List S27} {p : List S89} {a4 a5 a6 : Int} {r : List Int}
end
section
variable (o : List ByteArray) (mt : List S70) (s : List S27) (p : List S89) (a4 a5 a6 : Int) (r : List Int)
end
section
variable (o : List ByteArray) (mt : List S70) (s : List S27) (p : List S89) (a4 a5 a6 : Int)
theorem great_l2 (hp : p.length ≤ 20) : ∀ (m i : Nat) (x : Int), i + m = p.length → ∃ b, Ev (fun k => lw_Great.l2 k x (i : Int) o mt s p a4 a5 a6) b
  | 0, i, x, hi => by
    refine ⟨decide (x > 2000), ?_⟩
    apply Ev.step
    simp only [lw_Great.l2, if_neg (show ¬ (i : Int) < (p.length : Int) by omega)]
    exact Ev.const _
  | m + 1, i, x, hi => by
    obtain ⟨b, ih⟩ := great_l2 hp m (i + 1) (wrap64 (x + ((rd_T89 p (i : Int)).f0.size : Int))) (by omega)
    by_cases h : (((rd_T89 p (i : Int)).f1).length : Int) > 20
    · refine ⟨true, ?_⟩
      apply Ev.step
      simp only [lw_Great.l2, if_pos (show (i : Int) < (p.length : Int) by omega), if_pos (i_pos i), if_pos h]
      exact Ev.const _
    · refine ⟨b, ?_⟩
      apply Ev.step
      simp only [lw_Great.l2, if_pos (show (i : Int) < (p.length : Int) by omega), if_pos (i_pos i), if_neg h, wrap_succ (i_pos i) (show (i : Int) ≤ 1000000000 by omega)]
      exact ih
theorem great_l1 (hm : mt.length ≤ 20) (hp : p.length ≤ 20) : ∀ (m i : Nat) (x : Int), i + m = mt.length → ∃ b, Ev (fun k => lw_Great.l1 k x (i : Int) o mt s p a4 a5 a6) b
  | 0, i, x, hi => by
    obtain ⟨b, hb⟩ := great_l2 o mt s p a4 a5 a6 hp p.length 0 x (by omega)
    refine ⟨b, ?_⟩
    apply Ev.step
    simp only [lw_Great.l1, if_neg (show ¬ (i : Int) < (mt.length : Int) by omega)]
    exact hb
  | m + 1, i, x, hi => by
    obtain ⟨b, ih⟩ := great_l1 hm hp m (i + 1) (wrap64 (x + ((rd_T70 mt (i : Int)).f0.size : Int))) (by omega)
    by_cases h : (((rd_T70 mt (i : Int)).f6).length : Int) > 20
    · refine ⟨true, ?_⟩
      apply Ev.step
      simp only [lw_Great.l1, if_pos (show (i : Int) < (mt.length : Int) by omega), if_pos (i_pos i), if_pos h]
      exact Ev.const _
    · refine ⟨b, ?_⟩
      apply Ev.step
      simp only [lw_Great.l1, if_pos (show (i : Int) < (mt.length : Int) by omega), if_pos (i_pos i), if_neg h, wrap_succ (i_pos i) (show (i : Int) ≤ 1000000000 by omega)]
      exact ih
theorem great_l0 (ho : o.length ≤ 20) (hm : mt.length ≤ 20) (hp : p.length ≤ 20) : ∀ (m i : Nat) (x : Int), i + m = o.length → ∃ b, Ev (fun k => lw_Great.l0 k x (i : Int) o mt s p a4 a5 a6) b
  | 0, i, x, hi => by
    obtain ⟨b, hb⟩ := great_l1 o mt s p a4 a5 a6 hm hp mt.length 0 x (by omega)
    refine ⟨b, ?_⟩
    apply Ev.step
    simp only [lw_Great.l0, if_neg (show ¬ (i : Int) < (o.length : Int) by omega)]
    exact hb
  | m + 1, i, x, hi => by
    obtain ⟨b, ih⟩ := great_l0 ho hm hp m (i + 1) (wrap64 (x + ((rdOf ByteArray.empty o (i : Int)).size : Int))) (by omega)
    refine ⟨b, ?_⟩
    apply Ev.step
    simp only [lw_Great.l0, if_pos (show (i : Int) < (o.length : Int) by omega), if_pos (i_pos i), wrap_succ (i_pos i) (show (i : Int) ≤ 1000000000 by omega)]
    exact ih
theorem great : ∃ b, Ev (fun k => lw_Great.f k o mt s p a4 a5 a6) b := by
  have ht : Ev (fun k => lw_Great.j0 k true o mt s p a4 a5 a6) true := by
    apply Ev.step
    simp only [lw_Great.j0, if_true]
    exact Ev.const _
  unfold lw_Great.f
  by_cases h1 : (o.length : Int) > 20
  · simp only [if_pos h1]; exact ⟨_, ht⟩
  by_cases h2 : (mt.length : Int) > 20
  · simp only [if_neg h1, if_pos h2]; exact ⟨_, ht⟩
  by_cases h3 : (s.length : Int) > 20
  · simp only [if_neg h1, if_neg h2, if_pos h3]; exact ⟨_, ht⟩
  simp only [if_neg h1, if_neg h2, if_neg h3]
  by_cases h4 : (p.length : Int) > 20
  · rw [show decide ((p.length : Int) > 20) = true by simpa using h4]; exact ⟨_, ht⟩
  · rw [show decide ((p.length : Int) > 20) = false by simpa using h4]
    obtain ⟨b, hb⟩ := great_l0 o mt s p a4 a5 a6 (by omega) (by omega) (by omega) o.length 0 0 (by omega)
    refine ⟨b, ?_⟩
    apply Ev.step
    simp only [lw_Great.j0, Bool.false_eq_true, if_false]
    exact hb
end
section
variable (o : List ByteArray) (mt : List S70) (s : List S27) (p : List S89) (a4 a5 a6 : Int) (r l1 : List Int) (n b3 b4 : Int) (l5 : List Int)
end
end
section
def culletlaw03_Great.l0 : Nat → List (S180) → Int → Int → Option (Bool)
 | 0, _, _, _ => none
 | k + 1, x0, x3, x4 => if x4 < (x0.length : Int) then (if 0 ≤ x4 then (if (((rd_T180 x0 x4).f2).length : Int) > 250 then (some true) else (culletlaw03_Great.l0 k x0 (wrap64 (x3 + (((rd_T180 x0 x4).f2).length : Int))) (wrap64 (x4 + 1)))) else (none)) else (some (decide (x3 > 600)))
def culletlaw03_Great.f (k : Nat) (l0 : List (S180)) : Option (Bool) := if (l0.length : Int) > 500 then (some true) else (culletlaw03_Great.l0 k l0 0 0)
theorem culletlaw03_Great.mono_l : ∀ k, (∀ y0 y1 y2, LeO (culletlaw03_Great.l0 k y0 y1 y2) (culletlaw03_Great.l0 (k + 1) y0 y1 y2))
 | 0 => fun _ _ _ r h => by simp [culletlaw03_Great.l0] at h
 | k + 1 => by
  have ih0 := culletlaw03_Great.mono_l k
  ·intro y0 y1 y2
   unfold culletlaw03_Great.l0
   repeat' first
   | (with_reducible exact ih0 _ _ _)
   | (with_reducible exact LeO.refl _)
   | (with_reducible exact LeO.none _)
   | (with_reducible refine LeO.ite ?_ ?_)
   | (with_reducible refine LeO.bind ?_ (fun _ => ?_))
   | exact LeO.none _
   | refine LeO.ite ?_ ?_
   | refine LeO.bind ?_ (fun _ => ?_)
theorem culletlaw03_Great.mono : ∀ a0 k, LeO (culletlaw03_Great.f k a0) (culletlaw03_Great.f (k + 1) a0) := by
 intro a0 k
 have ih0 := culletlaw03_Great.mono_l k
 unfold culletlaw03_Great.f
 repeat' first
   | (with_reducible exact ih0 _ _ _)
   | (with_reducible exact LeO.refl _)
   | (with_reducible exact LeO.none _)
   | (with_reducible refine LeO.ite ?_ ?_)
   | (with_reducible refine LeO.bind ?_ (fun _ => ?_))
   | exact LeO.none _
   | refine LeO.ite ?_ ?_
   | refine LeO.bind ?_ (fun _ => ?_)
theorem culletlaw03_Great.calls (k : Nat) (A0 : Option Addr) (c0 : Nat) (l0 : List (S180)) (r : Bool) (w : World) (hr0 : Kd.C k180 w A0 l0.length l0) (hc0 : l0.length ≤ c0) (h : culletlaw03_Great.f k l0 = some r) :
  Calls Tryz.prog 60 #[.slice A0 l0.length c0] w fun e w' => e = .returned (.bool r) ∧ Drawn0 w w' := by
 have HR0 := Sd.mk hr0; have HC0 := Sd.mk hc0; clear hr0 hc0
 have H : (if (l0.length : Int) > 500 then (some true) else (culletlaw03_Great.l0 k l0 0 0)) = some r := h
 clear h
 by_cases c2 : (l0.length : Int) > 500
 ·rw [if_pos c2] at H
  have c2b0 : decide (500 < (l0.length : Int)) = true := decide_eq_true c2
  have c2b1 : decide (500 < l0.length) = true := decide_eq_true (by omega)
  clear c2; obtain rfl := Option.some.inj H
  go_enter Tryz.func60, Tryz.ntmps60
  go_wp2
  go_ret
  exact ⟨by first | rfl | (simp; done) | (simp [*]; done), by repeat (first | exact Drawn0.refl _ | apply Drawn0.step)⟩
 ·rw [if_neg c2] at H
  have c2b0 : decide (500 < (l0.length : Int)) = false := decide_eq_false c2
  have c2b1 : decide (500 < l0.length) = false := decide_eq_false (by omega)
  clear c2; have H' := Sd.mk H; clear H
  go_enter Tryz.func60, Tryz.ntmps60
  go_wp2
  go_loopg [3, 4] k (fun kq v3 v4 w' => ∃ (x3_1 : Int) (x4_1 : Int), v3 = .int .i64 x3_1 ∧ v4 = .int .i64 x4_1 ∧ Sd (culletlaw03_Great.l0 kq l0 x3_1 x4_1 = some r) ∧ Sd (kq ≤ k) ∧ Drawn0 w w')
  case atStart => exact ⟨(0), (0), tS, tS, H', ⟨Nat.le_refl _⟩, by repeat (first | exact Drawn0.refl _ | apply Drawn0.step)⟩
  case round =>
   clear H'; (try clear c2); (try clear c2b0); (try clear c2b1); (try clear p2)
   obtain ⟨x3_1, x4_1, rfl, rfl, HA, HK1, ⟨m1, rfl⟩⟩ := hrel
   cases gk with
   | zero => exact absurd HA.out (by simp [culletlaw03_Great.l0])
   | succ k1 =>
    have H := HA.out; clear HA
    simp only [culletlaw03_Great.l0] at H
    by_cases c3 : x4_1 < (l0.length : Int)
    ·rw [if_pos c3] at H
     have c3b0 : decide (x4_1 < (l0.length : Int)) = true := decide_eq_true c3
     clear c3
     by_cases c4 : 0 ≤ x4_1
     ·rw [if_pos c4] at H
      have c4b0 : decide (0 ≤ x4_1) = true := decide_eq_true c4
      clear c4
      by_cases c5 : (((rd_T180 l0 x4_1).f2).length : Int) > 250
      ·rw [if_pos c5] at H
       have c5b0 : decide (250 < (((rd_T180 l0 x4_1).f2).length : Int)) = true := decide_eq_true c5
       have c5b1 : decide (250 < ((rd_T180 l0 x4_1).f2).length) = true := decide_eq_true (by omega)
       clear c5; obtain rfl := Option.some.inj H
       have p339 : 0 ≤ (x4_1 : Int) := tB
       have q339 : x4_1 < (l0.length : Int) := tB
       obtain ⟨ad339, A339_2, c339_2, e339, hx339_0, hx339_1, hx339_2, hl339_2, hi339_2⟩ := at_T180 HR0.out x4_1 p339 q339; cases e339; have HR339_2 := Sd.mk hi339_2; have HC339_2 := Sd.mk hl339_2; clear hi339_2 hl339_2; replace p339 := eq_true p339; replace q339 := eq_true q339
       go_wp2
       go_ret
       exact ⟨by first | rfl | (simp; done) | (simp [*]; done), by repeat (first | exact Drawn0.refl _ | apply Drawn0.step)⟩
      ·rw [if_neg c5] at H
       have c5b0 : decide (250 < (((rd_T180 l0 x4_1).f2).length : Int)) = false := decide_eq_false c5
       have c5b1 : decide (250 < ((rd_T180 l0 x4_1).f2).length) = false := decide_eq_false (by omega)
       clear c5; have H' := Sd.mk H; clear H
       have p339 : 0 ≤ (x4_1 : Int) := tB
       have q339 : x4_1 < (l0.length : Int) := tB
       obtain ⟨ad339, A339_2, c339_2, e339, hx339_0, hx339_1, hx339_2, hl339_2, hi339_2⟩ := at_T180 HR0.out x4_1 p339 q339; cases e339; have HR339_2 := Sd.mk hi339_2; have HC339_2 := Sd.mk hl339_2; clear hi339_2 hl339_2; replace p339 := eq_true p339; replace q339 := eq_true q339
       have p340 : 0 ≤ (x4_1 : Int) := tB
       have q340 : x4_1 < (l0.length : Int) := tB
       obtain ⟨ad340, A340_2, c340_2, e340, hx340_0, hx340_1, hx340_2, hl340_2, hi340_2⟩ := at_T180 HR0.out x4_1 p340 q340
       obtain rfl : ad339 = ad340 := (by injection e340)
       have HR340_2 := Sd.mk hi340_2; have HC340_2 := Sd.mk hl340_2; clear hi340_2 hl340_2; replace p340 := eq_true p340; replace q340 := eq_true q340; have ea_ := Option.some.inj (hx339_2.symm.trans hx340_2)
       injection ea_ with ea_ en_ ec_
       subst ea_; subst ec_; clear en_
       go_wp2
       go_roundg k1
       case measure => have := HK1.out; omega
       case rel => exact ⟨(wrap64 (x3_1 + (((rd_T180 l0 x4_1).f2).length : Int))), (wrap64 (x4_1 + 1)), tS, tS, H', ⟨by have := HK1.out; omega⟩, by repeat (first | exact Drawn0.refl _ | apply Drawn0.step)⟩
     ·rw [if_neg c4] at H
      exact absurd H (by simp)
    ·rw [if_neg c3] at H
     have c3b0 : decide (x4_1 < (l0.length : Int)) = false := decide_eq_false c3
     clear c3; obtain rfl := Option.some.inj H
     go_wp2
     go_ret
     exact ⟨by first | rfl | (simp; done) | (simp [*]; done), by repeat (first | exact Drawn0.refl _ | apply Drawn0.step)⟩
end
section
def l5_Wide.f (k : Nat) (l0_0 : List (S27)) (a0_1 : Int) (a0_2 : Int) (a0_3 : Int) (a0_4 : Int) (a0_5 : Int) (a0_6 : Int) (a0_7 : Int) (a0_8 : Int) (l0_9 : List Int) (a0_10 : Int) (a0_11 : Int) (a0_12 : Int) (a0_13 : Int) (a0_14 : Int) (a0_15 : Int) (a0_16 : Int) (a0_17 : Int) (a0_18 : Int) (l0_19 : List Int) (l0_20 : List (S180)) : Option (Bool) := if (l0_0.length : Int) > 40 then (some true) else (if (l0_9.length : Int) > 40 then (some true) else (if (l0_19.length : Int) > 40 then (some true) else ((culletlaw03_Great.f k l0_20).bind fun t342 => (some t342))))
theorem l5_Wide.calls (k : Nat) (A0_0 : Option Addr) (c0_0 : Nat) (l0_0 : List (S27)) (a0_1 : Int) (a0_2 : Int) (a0_3 : Int) (a0_4 : Int) (a0_5 : Int) (a0_6 : Int) (a0_7 : Int) (a0_8 : Int) (A0_9 : Option Addr) (c0_9 : Nat) (l0_9 : List Int) (a0_10 : Int) (a0_11 : Int) (a0_12 : Int) (a0_13 : Int) (a0_14 : Int) (a0_15 : Int) (a0_16 : Int) (a0_17 : Int) (a0_18 : Int) (A0_19 : Option Addr) (c0_19 : Nat) (l0_19 : List Int) (A0_20 : Option Addr) (c0_20 : Nat) (l0_20 : List (S180)) (r : Bool) (w : World) (hr0_0 : Kd.C k27 w A0_0 l0_0.length l0_0) (hc0_0 : l0_0.length ≤ c0_0) (hr0_9 : Kd.C (Kd.int .i64) w A0_9 l0_9.length l0_9) (hc0_9 : l0_9.length ≤ c0_9) (hr0_19 : Kd.C (Kd.int .i64) w A0_19 l0_19.length l0_19) (hc0_19 : l0_19.length ≤ c0_19) (hr0_20 : Kd.C k180 w A0_20 l0_20.length l0_20) (hc0_20 : l0_20.length ≤ c0_20) (h : l5_Wide.f k l0_0 a0_1 a0_2 a0_3 a0_4 a0_5 a0_6 a0_7 a0_8 l0_9 a0_10 a0_11 a0_12 a0_13 a0_14 a0_15 a0_16 a0_17 a0_18 l0_19 l0_20 = some r) :
  Calls Tryz.prog 19 #[.agg #[.slice A0_0 l0_0.length c0_0, .int .i64 a0_1, .int .i64 a0_2, .int .i64 a0_3, .int .i64 a0_4, .int .i64 a0_5, .int .i64 a0_6, .int .i64 a0_7, .int .i64 a0_8, .slice A0_9 l0_9.length c0_9, .int .i64 a0_10, .int .i64 a0_11, .int .i64 a0_12, .int .i64 a0_13, .int .i64 a0_14, .int .i64 a0_15, .int .i64 a0_16, .int .i64 a0_17, .int .i64 a0_18, .slice A0_19 l0_19.length c0_19, .slice A0_20 l0_20.length c0_20]] w fun e w' => e = .returned (.bool r) ∧ Below w.heap.size w w' := by
 have hu51 := Tryz.underlying51; have HR0_0 := Sd.mk hr0_0; have HC0_0 := Sd.mk hc0_0; clear hr0_0 hc0_0; have HR0_9 := Sd.mk hr0_9; have HC0_9 := Sd.mk hc0_9; clear hr0_9 hc0_9; have HR0_19 := Sd.mk hr0_19; have HC0_19 := Sd.mk hc0_19; clear hr0_19 hc0_19; have HR0_20 := Sd.mk hr0_20; have HC0_20 := Sd.mk hc0_20; clear hr0_20 hc0_20; have HB := Sd.mk (Below.refl w.heap.size w)
 have H : (if (l0_0.length : Int) > 40 then (some true) else (if (l0_9.length : Int) > 40 then (some true) else (if (l0_19.length : Int) > 40 then (some true) else ((culletlaw03_Great.f k l0_20).bind fun t342 => (some t342))))) = some r := h
 clear h
 by_cases c2 : (l0_0.length : Int) > 40
 ·rw [if_pos c2] at H
  have c2b0 : decide (40 < (l0_0.length : Int)) = true := decide_eq_true c2
  have c2b1 : decide (40 < l0_0.length) = true := decide_eq_true (by omega)
  clear c2; obtain rfl := Option.some.inj H
  go_enter Tryz.func19, Tryz.ntmps19
  go_wp2_with (first | ((with_reducible refine gate_dst (N := 1) rfl ?_); (try (refine gate_guard (by rfl) ?_; dsimp only)); refine box_event ?hg (N := 1) ?hd (cs := #[.slice A0_0 l0_0.length c0_0, .int .i64 a0_1, .int .i64 a0_2, .int .i64 a0_3, .int .i64 a0_4, .int .i64 a0_5, .int .i64 a0_6, .int .i64 a0_7, .int .i64 a0_8, .slice A0_9 l0_9.length c0_9, .int .i64 a0_10, .int .i64 a0_11, .int .i64 a0_12, .int .i64 a0_13, .int .i64 a0_14, .int .i64 a0_15, .int .i64 a0_16, .int .i64 a0_17, .int .i64 a0_18, .slice A0_19 l0_19.length c0_19, .slice A0_20 l0_20.length c0_20]) (t := 51) ?hr ?_; (case hd => rfl); (case hg => rfl); (case hr => exact tG); intro gb341 hg w3 hbox hb; have BK341 := Sd.mk (hbox); have GW341 := Sd.mk (bSz hg (bBl HB.out)); have GE341 := Sd.mk (bSz hg (bBl HB.out)); replace HB := Sd.mk (below_step (bBl HB.out) hb); clear hb hbox hg; obtain ⟨u4_0, u4_1, u4_2, u4_3, u4_4, u4_5, u4_6, u4_7, u4_8, u4_9, u4_10, u4_11, u4_12, u4_13, u4_14, u4_15, u4_16, u4_17, u4_18, u4_19, u4_20, o4_0, o4_1, o4_2, o4_3, o4_4, o4_5, o4_6, o4_7, o4_8, o4_9, o4_10, o4_11, o4_12, o4_13, o4_14, o4_15, o4_16, o4_17, o4_18, o4_19, o4_20⟩ := bc21 (w := w3) BK341.out))
  go_ret
  exact ⟨tE, bBl HB.out⟩
 ·rw [if_neg c2] at H
  have c2b0 : decide (40 < (l0_0.length : Int)) = false := decide_eq_false c2
  have c2b1 : decide (40 < l0_0.length) = false := decide_eq_false (by omega)
  clear c2
  by_cases c5 : (l0_9.length : Int) > 40
  ·rw [if_pos c5] at H
   have c5b0 : decide (40 < (l0_9.length : Int)) = true := decide_eq_true c5
   have c5b1 : decide (40 < l0_9.length) = true := decide_eq_true (by omega)
   clear c5; obtain rfl := Option.some.inj H
   go_enter Tryz.func19, Tryz.ntmps19
   go_wp2_with (first | ((with_reducible refine gate_dst (N := 1) rfl ?_); (try (refine gate_guard (by rfl) ?_; dsimp only)); refine box_event ?hg (N := 1) ?hd (cs := #[.slice A0_0 l0_0.length c0_0, .int .i64 a0_1, .int .i64 a0_2, .int .i64 a0_3, .int .i64 a0_4, .int .i64 a0_5, .int .i64 a0_6, .int .i64 a0_7, .int .i64 a0_8, .slice A0_9 l0_9.length c0_9, .int .i64 a0_10, .int .i64 a0_11, .int .i64 a0_12, .int .i64 a0_13, .int .i64 a0_14, .int .i64 a0_15, .int .i64 a0_16, .int .i64 a0_17, .int .i64 a0_18, .slice A0_19 l0_19.length c0_19, .slice A0_20 l0_20.length c0_20]) (t := 51) ?hr ?_; (case hd => rfl); (case hg => rfl); (case hr => exact tG); intro gb341 hg w6 hbox hb; have BK341 := Sd.mk (hbox); have GW341 := Sd.mk (bSz hg (bBl HB.out)); have GE341 := Sd.mk (bSz hg (bBl HB.out)); replace HB := Sd.mk (below_step (bBl HB.out) hb); clear hb hbox hg; obtain ⟨u7_0, u7_1, u7_2, u7_3, u7_4, u7_5, u7_6, u7_7, u7_8, u7_9, u7_10, u7_11, u7_12, u7_13, u7_14, u7_15, u7_16, u7_17, u7_18, u7_19, u7_20, o7_0, o7_1, o7_2, o7_3, o7_4, o7_5, o7_6, o7_7, o7_8, o7_9, o7_10, o7_11, o7_12, o7_13, o7_14, o7_15, o7_16, o7_17, o7_18, o7_19, o7_20⟩ := bc21 (w := w6) BK341.out))
   go_ret
   exact ⟨tE, bBl HB.out⟩
  ·rw [if_neg c5] at H
   have c5b0 : decide (40 < (l0_9.length : Int)) = false := decide_eq_false c5
   have c5b1 : decide (40 < l0_9.length) = false := decide_eq_false (by omega)
   clear c5
   by_cases c8 : (l0_19.length : Int) > 40
   ·rw [if_pos c8] at H
    have c8b0 : decide (40 < (l0_19.length : Int)) = true := decide_eq_true c8
    have c8b1 : decide (40 < l0_19.length) = true := decide_eq_true (by omega)
    clear c8; obtain rfl := Option.some.inj H
    go_enter Tryz.func19, Tryz.ntmps19
    go_wp2_with (first | ((with_reducible refine gate_dst (N := 1) rfl ?_); (try (refine gate_guard (by rfl) ?_; dsimp only)); refine box_event ?hg (N := 1) ?hd (cs := #[.slice A0_0 l0_0.length c0_0, .int .i64 a0_1, .int .i64 a0_2, .int .i64 a0_3, .int .i64 a0_4, .int .i64 a0_5, .int .i64 a0_6, .int .i64 a0_7, .int .i64 a0_8, .slice A0_9 l0_9.length c0_9, .int .i64 a0_10, .int .i64 a0_11, .int .i64 a0_12, .int .i64 a0_13, .int .i64 a0_14, .int .i64 a0_15, .int .i64 a0_16, .int .i64 a0_17, .int .i64 a0_18, .slice A0_19 l0_19.length c0_19, .slice A0_20 l0_20.length c0_20]) (t := 51) ?hr ?_; (case hd => rfl); (case hg => rfl); (case hr => exact tG); intro gb341 hg w9 hbox hb; have BK341 := Sd.mk (hbox); have GW341 := Sd.mk (bSz hg (bBl HB.out)); have GE341 := Sd.mk (bSz hg (bBl HB.out)); replace HB := Sd.mk (below_step (bBl HB.out) hb); clear hb hbox hg; obtain ⟨u10_0, u10_1, u10_2, u10_3, u10_4, u10_5, u10_6, u10_7, u10_8, u10_9, u10_10, u10_11, u10_12, u10_13, u10_14, u10_15, u10_16, u10_17, u10_18, u10_19, u10_20, o10_0, o10_1, o10_2, o10_3, o10_4, o10_5, o10_6, o10_7, o10_8, o10_9, o10_10, o10_11, o10_12, o10_13, o10_14, o10_15, o10_16, o10_17, o10_18, o10_19, o10_20⟩ := bc21 (w := w9) BK341.out))
    go_ret
    exact ⟨tE, bBl HB.out⟩
   ·rw [if_neg c8] at H
    have c8b0 : decide (40 < (l0_19.length : Int)) = false := decide_eq_false c8
    have c8b1 : decide (40 < l0_19.length) = false := decide_eq_false (by omega)
    clear c8; replace H := Option.bind_eq_some_iff.mp H; obtain ⟨t342, A110, H⟩ := H
    try dsimp only at H
    have A11 := Sd.mk A110; clear A110; obtain rfl := Option.some.inj H
    go_enter Tryz.func19, Tryz.ntmps19
    go_wp2_with (first | ((with_reducible refine gate_dst (N := 1) rfl ?_); (try (refine gate_guard (by rfl) ?_; dsimp only)); refine box_event ?hg (N := 1) ?hd (cs := #[.slice A0_0 l0_0.length c0_0, .int .i64 a0_1, .int .i64 a0_2, .int .i64 a0_3, .int .i64 a0_4, .int .i64 a0_5, .int .i64 a0_6, .int .i64 a0_7, .int .i64 a0_8, .slice A0_9 l0_9.length c0_9, .int .i64 a0_10, .int .i64 a0_11, .int .i64 a0_12, .int .i64 a0_13, .int .i64 a0_14, .int .i64 a0_15, .int .i64 a0_16, .int .i64 a0_17, .int .i64 a0_18, .slice A0_19 l0_19.length c0_19, .slice A0_20 l0_20.length c0_20]) (t := 51) ?hr ?_; (case hd => rfl); (case hg => rfl); (case hr => exact tG); intro gb341 hg w12 hbox hb; have BK341 := Sd.mk (hbox); have GW341 := Sd.mk (bSz hg (bBl HB.out)); have GE341 := Sd.mk (bSz hg (bBl HB.out)); replace HB := Sd.mk (below_step (bBl HB.out) hb); clear hb hbox hg; obtain ⟨u13_0, u13_1, u13_2, u13_3, u13_4, u13_5, u13_6, u13_7, u13_8, u13_9, u13_10, u13_11, u13_12, u13_13, u13_14, u13_15, u13_16, u13_17, u13_18, u13_19, u13_20, o13_0, o13_1, o13_2, o13_3, o13_4, o13_5, o13_6, o13_7, o13_8, o13_9, o13_10, o13_11, o13_12, o13_13, o13_14, o13_15, o13_16, o13_17, o13_18, o13_19, o13_20⟩ := bc21 (w := w12) BK341.out) | (go_at_call 60; (with_reducible refine (culletlaw03_Great.calls k _ _ l0_20 t342 _ (cS (Kd.C_below HR0_20.out HB.out)) HC0_20.out A11.out).mono ?_); rintro e w' ⟨rfl, ⟨nd, rfl⟩⟩))
    go_ret
    exact ⟨tE, bBl HB.out⟩
end
section
theorem great3_l0 (l : List S180) : ∀ (m i : Nat) (x : Int), i + m = l.length → l.length ≤ 500 → ∃ b, Ev (fun k => culletlaw03_Great.l0 k l x (i : Int)) b
  | 0, i, x, h, hl => by
    refine ⟨decide (x > 600), Ev.step ?_⟩
    simp only [culletlaw03_Great.l0, if_neg (show ¬ (i : Int) < (l.length : Int) by omega)]
    exact Ev.const _
  | m + 1, i, x, h, hl => by
    obtain ⟨b, ih⟩ := great3_l0 l m (i + 1) (wrap64 (x + (((rd_T180 l (i : Int)).f2).length : Int))) (by omega) hl
    rw [show ((i + 1 : Nat) : Int) = (i : Int) + 1 by omega] at ih
    by_cases c : (((rd_T180 l (i : Int)).f2).length : Int) > 250
    · refine ⟨true, Ev.step ?_⟩
      simp only [culletlaw03_Great.l0, if_pos (show (i : Int) < (l.length : Int) by omega), if_pos (i_pos i), if_pos c]
      exact Ev.const _
    · refine ⟨b, Ev.step ?_⟩
      simp only [culletlaw03_Great.l0, if_pos (show (i : Int) < (l.length : Int) by omega), if_pos (i_pos i), if_neg c, wrap_succ (i_pos i) (show (i : Int) ≤ 1000000000 by omega)]
      exact ih
theorem great3 (l : List S180) : ∃ b, Ev (fun k => culletlaw03_Great.f k l) b := by
  unfold culletlaw03_Great.f
  by_cases h : (l.length : Int) > 500
  · simp only [if_pos h]; exact ⟨_, Ev.const _⟩
  · simp only [if_neg h]; exact great3_l0 l l.length 0 0 (by omega) (by omega)
theorem wide5 (y0 : List S27) (y1 y2 y3 y4 y5 y6 y7 y8 : Int) (y9 : List Int) (y10 y11 y12 y13 y14 y15 y16 y17 y18 : Int) (r : List Int) (y20 : List S180) : ∃ b, Ev (fun k => l5_Wide.f k y0 y1 y2 y3 y4 y5 y6 y7 y8 y9 y10 y11 y12 y13 y14 y15 y16 y17 y18 r y20) b := by
  unfold l5_Wide.f
  by_cases h1 : (y0.length : Int) > 40
  · simp only [if_pos h1]; exact ⟨_, Ev.const _⟩
  by_cases h2 : (y9.length : Int) > 40
  · simp only [if_neg h1, if_pos h2]; exact ⟨_, Ev.const _⟩
  by_cases h3 : (r.length : Int) > 40
  · simp only [if_neg h1, if_neg h2, if_pos h3]; exact ⟨_, Ev.const _⟩
  simp only [if_neg h1, if_neg h2, if_neg h3]
  obtain ⟨b, hb⟩ := great3 y20
  exact ⟨b, Ev.bind hb (Ev.const _)⟩
def annV (kn : List S94) (fac : Int) (V : Int × Int × Int) (below soak th limit : Int) : Bool × Int :=
  if lehrV kn fac = 0 then (if V.2.2 = 0 then (if annB below soak th limit = true then (if (decide (below ≤ V.1) && decide (V.2.1 ≤ 10000)) = true then (if soak ≤ heldV kn V.2.1 then (decide (strainV kn fac (V.1 - below) V.2.1 th ≤ limit), 0) else (false, 0)) else (false, 9)) else (false, 1)) else (false, V.2.2)) else (false, lehrV kn fac)
section
variable (o : List ByteArray) (mt : List S70) (s : List S27) (p : List S89) (a4 a5 a6 : Int) (r : List Int)
theorem ValV_le (n : Int) (h : (ValV o mt s p a4 a5 a6 r n).2.2 = 0) : (ValV o mt s p a4 a5 a6 r n).1 ≤ (ValV o mt s p a4 a5 a6 r n).2.1 := by
  revert h
  unfold ValV
  split
  · rename_i ha
    obtain ⟨H, hr⟩ := ask_ok ha
    split
    · rename_i h1
      split
      · intro h; cases h
      · rename_i h2
        intro _
        obtain ⟨C, hl⟩ := pro_cf H h1
        exact mean_le (meanOk_of (gramL_ok H hr) (by rw [gramL_len]; exact C) (lowW_pos H hr h2))
    · intro h; cases h
  · intro h; exact absurd h (by assumption)
theorem ann_ev (kn : List S94) (fac n below soak th limit : Int) : Ev (fun k => x_Anneals.f k kn fac o mt s p a4 a5 a6 r n below soak th limit) (annV kn fac (ValV o mt s p a4 a5 a6 r n) below soak th limit) := by
  unfold x_Anneals.f annV
  by_cases h : lehrV kn fac = 0
  · simp only [if_pos h]
    refine Ev.bind (bValue o mt s p a4 a5 a6 r n) ?_
    have hle := ValV_le o mt s p a4 a5 a6 r n
    generalize ValV o mt s p a4 a5 a6 r n = V at *
    by_cases h1 : V.2.2 = 0
    · simp only [if_pos h1]
      have hle := hle h1
      by_cases h2 : annB below soak th limit = true
      · simp only [if_pos h2]
        by_cases h3 : (decide (below ≤ V.1) && decide (V.2.1 ≤ 10000)) = true
        · simp only [if_pos h3]
          simp only [annB, inB, Bool.and_eq_true, decide_eq_true_eq] at h2 h3
          refine Ev.bind (held_ev (lehr_facts h).1 fac (by omega)) ?_
          by_cases h4 : soak ≤ heldV kn V.2.1
          · simp only [if_pos h4, wsmall (show -1000000000000000000 ≤ V.1 - below by omega) (show V.1 - below ≤ 1000000000000000000 by omega)]
            exact Ev.bind (strain_ev (lehr_facts h).1 (lehr_facts h).2 (by omega) _ _) (Ev.const _)
          · simp only [if_neg h4]; exact Ev.const _
        · simp only [if_neg h3]; exact Ev.const _
      · simp only [if_neg h2]; exact Ev.const _
    · simp only [if_neg h1]; exact Ev.const _
  · simp only [if_neg h]; exact Ev.const _
variable (kn : List S94) (fac : Int) (y0 : List S27) (y1 y2 y3 y4 y5 y6 y7 y8 : Int) (y9 : List Int) (y10 y11 y12 y13 y14 y15 y16 y17 y18 : Int) (y20 : List S180)
end
end
section
def r5_down.f (a0 : Int) (a1 : Int) : Option (Int) := if a1 = 0 then (none) else (some (wrap64 (Int.tdiv a0 a1)))
theorem r5_down.calls (a0 : Int) (a1 : Int) (r : Int) (w : World) (h : r5_down.f a0 a1 = some r) :
  Calls Tryz.prog 70 #[.int .i64 a0, .int .i64 a1] w fun e w' => e = .returned (.int .i64 r) ∧ Drawn0 w w' := by
 have H : (if a1 = 0 then (none) else (some (wrap64 (Int.tdiv a0 a1)))) = some r := h
 clear h
 by_cases c3 : a1 = 0
 ·rw [if_pos c3] at H
  exact absurd H (by simp)
 ·rw [if_neg c3] at H
  have c3b0 : (a1 == 0) = false := beq_eq_false_iff_ne.mpr c3
  have c3b1 : (a1 != 0) = true := bne_iff_ne.mpr c3
  obtain rfl := Option.some.inj H
  go_enter Tryz.func70, Tryz.ntmps70
  go_wp2
  go_ret
  exact ⟨by first | rfl | (simp; done) | (simp [*]; done), by repeat (first | exact Drawn0.refl _ | apply Drawn0.step)⟩
end
section
def r5_up.f (a0 : Int) (a1 : Int) : Option (Int) := if a1 = 0 then (none) else (some (wrap64 (Int.tdiv (wrap64 ((wrap64 (a0 + a1)) - 1)) a1)))
theorem r5_up.calls (a0 : Int) (a1 : Int) (r : Int) (w : World) (h : r5_up.f a0 a1 = some r) :
  Calls Tryz.prog 71 #[.int .i64 a0, .int .i64 a1] w fun e w' => e = .returned (.int .i64 r) ∧ Drawn0 w w' := by
 have H : (if a1 = 0 then (none) else (some (wrap64 (Int.tdiv (wrap64 ((wrap64 (a0 + a1)) - 1)) a1)))) = some r := h
 clear h
 by_cases c3 : a1 = 0
 ·rw [if_pos c3] at H
  exact absurd H (by simp)
 ·rw [if_neg c3] at H
  have c3b0 : (a1 == 0) = false := beq_eq_false_iff_ne.mpr c3
  have c3b1 : (a1 != 0) = true := bne_iff_ne.mpr c3
  obtain rfl := Option.some.inj H
  go_enter Tryz.func71, Tryz.ntmps71
  go_wp2
  go_ret
  exact ⟨by first | rfl | (simp; done) | (simp [*]; done), by repeat (first | exact Drawn0.refl _ | apply Drawn0.step)⟩
end
section
theorem rdown_still (n d r : Int) (w : World) (h : r5_down.f n d = some r) (hd : (d == 0) = false) : Calls Tryz.prog 70 #[.int .i64 n, .int .i64 d] w fun e w' => e = .returned (.int .i64 r) ∧ w' = w := by
  unfold r5_down.f at h
  have hd' : ¬ d = 0 := by simpa using hd
  rw [if_neg hd'] at h
  have H := Sd.mk (Option.some.inj h)
  clear h
  go_enter Tryz.func70, Tryz.ntmps70
  go_wp2
  go_ret
  exact ⟨by rw [← H.out]; rfl, rfl⟩
theorem rup_still (n d r : Int) (w : World) (h : r5_up.f n d = some r) (hd : (d == 0) = false) : Calls Tryz.prog 71 #[.int .i64 n, .int .i64 d] w fun e w' => e = .returned (.int .i64 r) ∧ w' = w := by
  unfold r5_up.f at h
  have hd' : ¬ d = 0 := by simpa using hd
  rw [if_neg hd'] at h
  have H := Sd.mk (Option.some.inj h)
  clear h
  go_enter Tryz.func71, Tryz.ntmps71
  go_wp2
  go_ret
  exact ⟨by rw [← H.out]; rfl, rfl⟩
theorem max2_mx' (k k' : IntKind) (x y : Int) : Builtin.max2 (.int k x) (.int k' y) = pure (.int k (mx x y)) := max2_int k k' x y
attribute [local go_sem] max2_mx' max_two
def r5_Shock.f (k : Nat) (l0_0 : List ByteArray) (l0_1 : List (S70)) (l0_2 : List (S27)) (l0_3 : List (S89)) (a0_4 : Int) (a0_5 : Int) (a0_6 : Int) (l1 : List Int) (a2 a3 : Int) : Option (Int × Int × Int) :=
  (rf_Value.f k l0_0 l0_1 l0_2 l0_3 a0_4 a0_5 a0_6 l1 a2).bind fun v => if v.2.2 = 0 then (if inB a3 0 1000 = true then (r5_down.f (wrap64 (wrap64 (35 * mx v.1 0) * a3)) 78).bind fun lo => (r5_up.f (wrap64 (wrap64 (35 * mx v.2.1 0) * a3)) 78).bind fun hi => some (lo, hi, 0) else some (0, 0, 1)) else some (0, 0, v.2.2)
theorem r5_Shock.calls (k : Nat) (A0_0 : Option Addr) (c0_0 : Nat) (l0_0 : List ByteArray) (A0_1 : Option Addr) (c0_1 : Nat) (l0_1 : List (S70)) (A0_2 : Option Addr) (c0_2 : Nat) (l0_2 : List (S27)) (A0_3 : Option Addr) (c0_3 : Nat) (l0_3 : List (S89)) (a0_4 : Int) (a0_5 : Int) (a0_6 : Int) (A1 : Option Addr) (c1 : Nat) (l1 : List Int) (a2 : Int) (a3 : Int) (r1 : Int) (r2 : Int) (r3 : Int) (w : World) (hr0_0 : Kd.C Kd.string w A0_0 l0_0.length l0_0) (hc0_0 : l0_0.length ≤ c0_0) (hr0_1 : Kd.C k70 w A0_1 l0_1.length l0_1) (hc0_1 : l0_1.length ≤ c0_1) (hr0_2 : Kd.C k27 w A0_2 l0_2.length l0_2) (hc0_2 : l0_2.length ≤ c0_2) (hr0_3 : Kd.C k89 w A0_3 l0_3.length l0_3) (hc0_3 : l0_3.length ≤ c0_3) (hr1 : Kd.C (Kd.int .i64) w A1 l1.length l1) (hc1 : l1.length ≤ c1) (h : r5_Shock.f k l0_0 l0_1 l0_2 l0_3 a0_4 a0_5 a0_6 l1 a2 a3 = some (r1, r2, r3)) :
    Calls Tryz.prog 22 #[.agg #[.slice A0_0 l0_0.length c0_0, .slice A0_1 l0_1.length c0_1, .slice A0_2 l0_2.length c0_2, .slice A0_3 l0_3.length c0_3, .int .i64 a0_4, .int .i64 a0_5, .int .i64 a0_6], .slice A1 l1.length c1, .int .i64 a2, .int .i64 a3] w fun e w' => e = .returned (.tuple #[.agg #[.int .i64 r1, .int .i64 r2], .int .i64 r3]) ∧ Below w.heap.size w w' := by
  obtain ⟨b1, b2, hb0, hsz⟩ := blk_two w (.cells #[.slice A0_0 l0_0.length c0_0, .slice A0_1 l0_1.length c0_1, .slice A0_2 l0_2.length c0_2, .slice A0_3 l0_3.length c0_3, .int .i64 a0_4, .int .i64 a0_5, .int .i64 a0_6] 29) (.cells #[.int .i64 0, .int .i64 0] 27)
  have BR := Sd.mk b2
  have HB := Sd.mk hb0
  unfold r5_Shock.f at h
  obtain ⟨⟨v1, v2, ve⟩, hv, H⟩ := Option.bind_eq_some_iff.mp h
  have HV := Sd.mk (rf_Value.calls k A0_0 c0_0 l0_0 A0_1 c0_1 l0_1 A0_2 c0_2 l0_2 A0_3 c0_3 l0_3 a0_4 a0_5 a0_6 A1 c1 l1 a2 v1 v2 ve _ (Kd.C_below hr0_0 hb0) hc0_0 (Kd.C_below hr0_1 hb0) hc0_1 (Kd.C_below hr0_2 hb0) hc0_2 (Kd.C_below hr0_3 hb0) hc0_3 (Kd.C_below hr1 hb0) hc1 hv)
  clear b1 b2 hb0 hsz hr0_0 hr0_1 hr0_2 hr0_3 hr1 h hv hc0_0 hc0_1 hc0_2 hc0_3 hc1
  simp only at H
  by_cases hve : ve = 0
  · subst hve
    rw [if_pos rfl] at H
    by_cases c1' : a3 < 0
    · rw [if_neg (by simp [inB]; omega)] at H
      simp only [Option.some.injEq, Prod.mk.injEq] at H
      obtain ⟨rfl, rfl, rfl⟩ := H
      have d1 : decide (a3 < 0) = true := decide_eq_true c1'
      go_enter Tryz.func22, Tryz.ntmps22
      go_wp2_with (go_at_call 69; refine HV.out.mono ?_; rintro e w1 ⟨rfl, hb1⟩; have BR1 := Sd.mk (blk_alloc (blk_below BR.out hb1) (.cells #[.int .i64 v1, .int .i64 v2] 27)); have BV1 := Sd.mk (blk_new w1 (.cells #[.int .i64 v1, .int .i64 v2] 27)); have HB1 := Sd.mk (below_alloc (below_then HB.out HB.out.size hb1) (.cells #[.int .i64 v1, .int .i64 v2] 27)); clear hb1; have hq0 : (w1.alloc (.cells #[.int .i64 v1, .int .i64 v2] 27)).cell? ⟨w.heap.size + 1, 0, none⟩ = some (.int .i64 0) := (blk_cell BR1.out 0).trans rfl; have hq1 : (w1.alloc (.cells #[.int .i64 v1, .int .i64 v2] 27)).cell? ⟨w.heap.size + 1, 0 + 1, none⟩ = some (.int .i64 0) := (blk_cell BR1.out 1).trans rfl; have hq2 := blk_frozen BR1.out 0; have hq3 := blk_frozen BR1.out 1)
      refine bodyPost_ret (results_ct rfl _ _ (w.heap.size + 1) 27 #[.int .i64 0, .int .i64 0] (0, 0) _ rfl (blk_put (cs := #[.int .i64 0, .int .i64 0]) (blk_put BR1.out 0 _ rfl) 1 _ rfl) Tryz.underlying27 rfl (by kernel_rfl)) rfl ?_
      exact ⟨rfl, below_set (below_set HB1.out (by omega)) (by omega)⟩
    have d1 : decide (a3 < 0) = false := decide_eq_false c1'
    by_cases c2' : a3 > 1000
    · rw [if_neg (by simp [inB]; omega)] at H
      simp only [Option.some.injEq, Prod.mk.injEq] at H
      obtain ⟨rfl, rfl, rfl⟩ := H
      have d2 : decide (1000 < a3) = true := decide_eq_true c2'
      go_enter Tryz.func22, Tryz.ntmps22
      go_wp2_with (go_at_call 69; refine HV.out.mono ?_; rintro e w1 ⟨rfl, hb1⟩; have BR1 := Sd.mk (blk_alloc (blk_below BR.out hb1) (.cells #[.int .i64 v1, .int .i64 v2] 27)); have BV1 := Sd.mk (blk_new w1 (.cells #[.int .i64 v1, .int .i64 v2] 27)); have HB1 := Sd.mk (below_alloc (below_then HB.out HB.out.size hb1) (.cells #[.int .i64 v1, .int .i64 v2] 27)); clear hb1; have hq0 : (w1.alloc (.cells #[.int .i64 v1, .int .i64 v2] 27)).cell? ⟨w.heap.size + 1, 0, none⟩ = some (.int .i64 0) := (blk_cell BR1.out 0).trans rfl; have hq1 : (w1.alloc (.cells #[.int .i64 v1, .int .i64 v2] 27)).cell? ⟨w.heap.size + 1, 0 + 1, none⟩ = some (.int .i64 0) := (blk_cell BR1.out 1).trans rfl; have hq2 := blk_frozen BR1.out 0; have hq3 := blk_frozen BR1.out 1)
      refine bodyPost_ret (results_ct rfl _ _ (w.heap.size + 1) 27 #[.int .i64 0, .int .i64 0] (0, 0) _ rfl (blk_put (cs := #[.int .i64 0, .int .i64 0]) (blk_put BR1.out 0 _ rfl) 1 _ rfl) Tryz.underlying27 rfl (by kernel_rfl)) rfl ?_
      exact ⟨rfl, below_set (below_set HB1.out (by omega)) (by omega)⟩
    have d2 : decide (1000 < a3) = false := decide_eq_false c2'
    rw [if_pos (by simp [inB]; omega)] at H
    obtain ⟨lo, hlo, H⟩ := Option.bind_eq_some_iff.mp H
    obtain ⟨hh, hhi, H⟩ := Option.bind_eq_some_iff.mp H
    simp only [Option.some.injEq, Prod.mk.injEq] at H
    obtain ⟨rfl, rfl, rfl⟩ := H
    have HLO := Sd.mk hlo
    have HHI := Sd.mk hhi
    clear hlo hhi c1' c2'
    have h78 : ((78 : Int) == 0) = false := rfl
    go_enter Tryz.func22, Tryz.ntmps22
    go_upto_region 6 with (go_at_call 69; refine HV.out.mono ?_; rintro e w1 ⟨rfl, hb1⟩; have BR1 := Sd.mk (blk_alloc (blk_below BR.out hb1) (.cells #[.int .i64 v1, .int .i64 v2] 27)); have BV1 := Sd.mk (blk_new w1 (.cells #[.int .i64 v1, .int .i64 v2] 27)); have HB1 := Sd.mk (below_alloc (below_then HB.out HB.out.size hb1) (.cells #[.int .i64 v1, .int .i64 v2] 27)); clear hb1; have hq0 : (w1.alloc (.cells #[.int .i64 v1, .int .i64 v2] 27)).cell? ⟨w.heap.size + 1, 0, none⟩ = some (.int .i64 0) := (blk_cell BR1.out 0).trans rfl; have hq1 : (w1.alloc (.cells #[.int .i64 v1, .int .i64 v2] 27)).cell? ⟨w.heap.size + 1, 0 + 1, none⟩ = some (.int .i64 0) := (blk_cell BR1.out 1).trans rfl; have hq2 := blk_frozen BR1.out 0; have hq3 := blk_frozen BR1.out 1)
    clear hq0 hq1 hq2 hq3 d1 d2
    generalize w1.alloc (.cells #[.int .i64 v1, .int .i64 v2] 27) = WY at BR1 BV1 HB1 ⊢
    generalize w1.heap.size = X at BV1 ⊢
    refine wp_region_still_tail 15 (by kernel_rfl) (by kernel_rfl) ?_
    simp only [List.take_succ_cons, List.take_zero, List.drop_succ_cons, List.drop_zero]
    change wpStill Tryz.prog _ WY.drew _ _ _
    have hd0 : WY.drew.cell? ⟨X, 0, none⟩ = some (.int .i64 v1) := (blk_cell (blk_drew BV1.out) 0).trans rfl
    have hd1 : WY.drew.cell? ⟨X, 1, none⟩ = some (.int .i64 v2) := (blk_cell (blk_drew BV1.out) 1).trans rfl
    have BRd := Sd.mk (blk_drew BR1.out)
    have HBd := Sd.mk (below_drew1 HB1.out)
    clear BV1 BR1 HB1
    generalize hWD : WY.drew = WD at hd0 hd1 BRd HBd ⊢
    have HWD := Sd.mk hWD
    clear hWD
    repeat still_step
    have HLO' : r5_down.f (IntKind.i64.wrap (IntKind.i64.wrap (35 * mx v1 0) * a3)) 78 = some lo := by simp only [i64_w]; exact HLO.out
    have HHI' : r5_up.f (IntKind.i64.wrap (IntKind.i64.wrap (35 * mx v2 0) * a3)) 78 = some hh := by simp only [i64_w]; exact HHI.out
    have HLOx := Sd.mk HLO'
    have HHIx := Sd.mk HHI'
    clear HLO' HHI'
    still_call (rdown_still _ _ _ _ HLOx.out h78)
    repeat still_step
    still_call (rup_still _ _ _ _ HHIx.out h78)
    repeat still_step
    refine wpStill_nil ?_
    change wpList _ _ _ _ _ WY.drew
    rw [HWD.out]
    clear HWD hd0 hd1
    have hq0 : WD.cell? ⟨w.heap.size + 1, 0, none⟩ = some (.int .i64 0) := (blk_cell BRd.out 0).trans rfl
    have hq1 : WD.cell? ⟨w.heap.size + 1, 0 + 1, none⟩ = some (.int .i64 0) := (blk_cell BRd.out 1).trans rfl
    have hq2 := blk_frozen BRd.out 0
    have hq3 := blk_frozen BRd.out 1
    go_wp2
    refine bodyPost_ret (results_ct rfl _ _ (w.heap.size + 1) 27 #[.int .i64 lo, .int .i64 hh] (0, 0) _ rfl (blk_put (cs := #[.int .i64 lo, .int .i64 0]) (blk_put BRd.out 0 _ rfl) 1 _ rfl) Tryz.underlying27 rfl (by kernel_rfl)) rfl ?_
    exact ⟨rfl, below_set (below_set HBd.out (by omega)) (by omega)⟩
  · rw [if_neg hve] at H
    simp only [Option.some.injEq, Prod.mk.injEq] at H
    obtain ⟨rfl, rfl, rfl⟩ := H
    have HVE := Sd.mk (errno_ne ve hve)
    have d1 : (ve == 0) = false := errno_ne ve hve
    have d2 : (ve != 0) = true := by simp [hve]
    clear hve
    go_enter Tryz.func22, Tryz.ntmps22
    go_wp2_with (go_at_call 69; refine HV.out.mono ?_; rintro e w1 ⟨rfl, hb1⟩; have BR1 := Sd.mk (blk_alloc (blk_below BR.out hb1) (.cells #[.int .i64 v1, .int .i64 v2] 27)); have BV1 := Sd.mk (blk_new w1 (.cells #[.int .i64 v1, .int .i64 v2] 27)); have HB1 := Sd.mk (below_alloc (below_then HB.out HB.out.size hb1) (.cells #[.int .i64 v1, .int .i64 v2] 27)); clear hb1; have hq0 : (w1.alloc (.cells #[.int .i64 v1, .int .i64 v2] 27)).cell? ⟨w.heap.size + 1, 0, none⟩ = some (.int .i64 0) := (blk_cell BR1.out 0).trans rfl; have hq1 : (w1.alloc (.cells #[.int .i64 v1, .int .i64 v2] 27)).cell? ⟨w.heap.size + 1, 0 + 1, none⟩ = some (.int .i64 0) := (blk_cell BR1.out 1).trans rfl; have hq2 := blk_frozen BR1.out 0; have hq3 := blk_frozen BR1.out 1)
    refine bodyPost_ret (results_ct rfl _ _ (w.heap.size + 1) 27 #[.int .i64 0, .int .i64 0] (0, 0) _ rfl (blk_put (cs := #[.int .i64 0, .int .i64 0]) (blk_put BR1.out 0 _ rfl) 1 _ rfl) Tryz.underlying27 rfl (by kernel_rfl)) rfl ?_
    exact ⟨rfl, below_set (below_set HB1.out (by omega)) (by omega)⟩
end
section
theorem rLehr_calls (A : Option Addr) (c : Nat) (kn : List S94) (fac : Int) (w : World) (hr : Kd.C k94 w A kn.length kn) :
  Calls Tryz.prog 76 #[.agg #[.slice A kn.length c, .int .i64 fac]] w fun e w' => e = .returned (.int .i64 (lehrV kn fac)) ∧ Below w.heap.size w w' := by
 have hb0 := below_alloc (Below.refl w.heap.size w) (.cells #[.slice A kn.length c, .int .i64 fac] 46)
 have BX := Sd.mk (blk_new w (.cells #[.slice A kn.length c, .int .i64 fac] 46))
 have hx0 : (w.alloc (.cells #[.slice A kn.length c, .int .i64 fac] 46)).cell? ⟨w.heap.size, 0, none⟩ = some (.slice A kn.length c) := (blk_cell BX.out 0).trans rfl
 have HB0 := Sd.mk hb0
 have HR := Sd.mk hr
 clear hr hb0
 by_cases h24 : kn.length > 24
 ·have HV : Sd (lehrV kn fac = 3) := ⟨by rw [lehrV, if_pos h24]⟩
  have hd : decide ((24 : Int) < (kn.length : Int)) = true := decide_eq_true (by omega)
  have hd' : decide (24 < kn.length) = true := decide_eq_true h24
  clear h24
  go_enter Tryz.func76, Tryz.ntmps76
  go_wp2
  go_ret
  exact ⟨by rw [HV.out]; rfl, HB0.out⟩
 by_cases h2 : kn.length < 2
 ·have HV : Sd (lehrV kn fac = 1) := ⟨by rw [lehrV, if_neg h24, if_pos h2]⟩
  have hd : decide ((24 : Int) < (kn.length : Int)) = false := decide_eq_false (by omega)
  have hd' : decide (24 < kn.length) = false := decide_eq_false h24
  have hd2 : decide ((kn.length : Int) < 2) = true := decide_eq_true (by omega)
  have hd2' : decide (kn.length < 2) = true := decide_eq_true h2
  clear h24 h2
  go_enter Tryz.func76, Tryz.ntmps76
  go_wp2
  go_ret
  exact ⟨by rw [HV.out]; rfl, HB0.out⟩
 have HV : Sd (lehrV kn fac = if kneesOk kn kn.length 0 = true then (if inB fac 0 10000 = true then 0 else 1) else 1) := ⟨by rw [lehrV, if_neg h24, if_neg h2]⟩
 have hd : decide ((24 : Int) < (kn.length : Int)) = false := decide_eq_false (by omega)
 have hd' : decide (24 < kn.length) = false := decide_eq_false h24
 have hd2 : decide ((kn.length : Int) < 2) = false := decide_eq_false (by omega)
 have hd2' : decide (kn.length < 2) = false := decide_eq_false h2
 have HK24 : Sd (kn.length ≤ 24) := ⟨by omega⟩
 clear h24 h2
 go_enter Tryz.func76, Tryz.ntmps76
 go_wp2
 clear hd hd' hd2 hd2' hx0
 generalize w.alloc (.cells #[.slice A kn.length c, .int .i64 fac] 46) = w0 at HB0 BX ⊢
 go_loopg [3] kn.length (fun gq v3 wr => ∃ k : Nat, v3 = .int .i64 k ∧ k ≤ kn.length ∧ kn.length - k ≤ gq ∧ Sd (kneesOk kn kn.length 0 = kneesOk kn (kn.length - k) k) ∧ Sd (wr.heap[w.heap.size]? = some (.cells #[.slice A kn.length c, .int .i64 fac] 46 (0, 0))) ∧ Sd (Below w.heap.size w wr))
 case atStart => exact ⟨0, rfl, Nat.zero_le _, by omega, ⟨rfl⟩, BX, HB0⟩
 case round =>
  clear HB0 BX
  obtain ⟨k, rfl, hk, hgk, HO, BX, HB⟩ := hrel
  by_cases hlt : k < kn.length
  ·have hltz : (k : Int) < (kn.length : Int) := by omega
   obtain ⟨ad, rfl, hx0, hx1⟩ := at_T94 (Kd.C_below HR.out HB.out) (k : Int) (by omega) hltz
   simp only [Int.toNat_natCast] at hx0 hx1
   have hl0 : wr.cell? ⟨w.heap.size, 0, none⟩ = some (.slice (some ad) kn.length c) := (blk_cell BX.out 0).trans rfl
   have HSTEP : Sd (kneesOk kn (kn.length - k) k = (kneeA kn k && kneeB kn k && kneesOk kn (kn.length - (k + 1)) (k + 1))) := ⟨by rw [show kn.length - k = (kn.length - (k + 1)) + 1 by omega]; rfl⟩
   have BAD : Sd (kneeA kn k = false ∨ kneeB kn k = false → lehrV kn fac = 1) := ⟨fun h => by
    have : kneesOk kn kn.length 0 = false := by rw [HO.out, HSTEP.out]; rcases h with h | h <;> simp [h]
    rw [HV.out, if_neg (by rw [this]; simp)]⟩
   have HK : Sd (kneeA kn k = (inB (rd_T94 kn (k : Int)).f0 0 2000 && inB (rd_T94 kn (k : Int)).f1 0 10000) ∧ kneeB kn k = if k = 0 then decide ((rd_T94 kn (k : Int)).f0 = 0) else decide ((rd_T94 kn (k : Int)).f0 > (rd_T94 kn (k - 1 : Nat)).f0)) := ⟨⟨rfl, rfl⟩⟩
   generalize hm : (rd_T94 kn (k : Int)).f0 = m at hx0 HK
   generalize ht : (rd_T94 kn (k : Int)).f1 = t at hx1 HK
   go_upto_region 9 with (fail)
   have BK := Sd.mk (blk_new wr (.cells #[.int .i64 m, .int .i64 t] 94))
   have BX1 := Sd.mk (blk_alloc BX.out (.cells #[.int .i64 m, .int .i64 t] 94))
   have HB1 := Sd.mk (below_alloc HB.out (.cells #[.int .i64 m, .int .i64 t] 94))
   clear hx0 hx1 hl0 BX HB
   generalize wr.alloc (.cells #[.int .i64 m, .int .i64 t] 94) = WX at BK BX1 HB1 ⊢
   generalize wr.heap.size = X at BK ⊢
   have hk0 : WX.cell? ⟨X, 0, none⟩ = some (.int .i64 m) := (blk_cell BK.out 0).trans rfl
   have hk1 : WX.cell? ⟨X, 1, none⟩ = some (.int .i64 t) := (blk_cell BK.out 1).trans rfl
   have hl0 : WX.cell? ⟨w.heap.size, 0, none⟩ = some (.slice (some ad) kn.length c) := (blk_cell BX1.out 0).trans rfl
   have HRK := Sd.mk (Kd.C_below HR.out HB1.out)
   clear BK
   by_cases c1 : m < 0
   ·have d_c1 : decide (m < 0) = true := decide_eq_true c1
    go_quiet (fail)
    go_wp2
    go_ret
    exact ⟨by rw [BAD.out (Or.inl (by rw [HK.out.1]; simp [inB]; omega))]; rfl, pw_below_drewN HB1.out _⟩
   have d_c1 : decide (m < 0) = false := decide_eq_false c1
   by_cases c2 : m > 2000
   ·have d_c2 : decide (2000 < m) = true := decide_eq_true c2
    go_quiet (fail)
    go_wp2
    go_ret
    exact ⟨by rw [BAD.out (Or.inl (by rw [HK.out.1]; simp [inB]; omega))]; rfl, pw_below_drewN HB1.out _⟩
   have d_c2 : decide (2000 < m) = false := decide_eq_false c2
   by_cases k0 : k = 0
   ·subst k0
    have hz : ((0 : Nat) : Int) = 0 := rfl
    by_cases c3 : m = 0
    ·have d3 : decide (m = 0) = true := decide_eq_true c3
     have d4 : (m == 0) = true := beq_iff_eq.mpr c3
     have d5 : (m != 0) = false := by simp [c3]
     by_cases c4 : t < 0
     ·have d_c4 : decide (t < 0) = true := decide_eq_true c4
      go_quiet (fail)
      go_wp2
      go_ret
      exact ⟨by rw [BAD.out (Or.inl (by rw [HK.out.1]; simp [inB]; omega))]; rfl, pw_below_drewN HB1.out _⟩
     have d_c4 : decide (t < 0) = false := decide_eq_false c4
     by_cases c5 : t > 10000
     ·have d_c5 : decide (10000 < t) = true := decide_eq_true c5
      go_quiet (fail)
      go_wp2
      go_ret
      exact ⟨by rw [BAD.out (Or.inl (by rw [HK.out.1]; simp [inB]; omega))]; rfl, pw_below_drewN HB1.out _⟩
     have d_c5 : decide (10000 < t) = false := decide_eq_false c5
     have HA : Sd (kneeA kn (0) = true) := ⟨by rw [HK.out.1]; simp [inB]; omega⟩
     have HKB : Sd (kneeB kn (0) = true) := ⟨by rw [HK.out.2]; simp [c3]⟩
     go_quiet (fail)
     go_wp2
     go_roundg (kn.length - (0 + 1))
     case measure => omega
     case rel => exact ⟨0 + 1, by go_num, by omega, by omega, ⟨by rw [HO.out, HSTEP.out, HA.out, HKB.out]; rfl⟩, ⟨blk_drewN BX1.out _⟩, ⟨pw_below_drewN HB1.out _⟩⟩
    ·have d3 : decide (m = 0) = false := decide_eq_false c3
     have d4 : (m == 0) = false := beq_eq_false_iff_ne.mpr c3
     have d5 : (m != 0) = true := by simp [c3]
     go_quiet (fail)
     go_wp2
     go_ret
     exact ⟨by rw [BAD.out (Or.inr (by rw [HK.out.2]; simp [c3]))]; rfl, pw_below_drewN HB1.out _⟩
   ·obtain ⟨j, rfl⟩ : ∃ j, k = j + 1 := ⟨k - 1, by omega⟩
    have e1 : decide (((j + 1 : Nat) : Int) = 0) = false := decide_eq_false (by omega)
    have e2 : (((j + 1 : Nat) : Int) == 0) = false := beq_eq_false_iff_ne.mpr (by omega)
    have e3 : decide ((0 : Int) < ((j + 1 : Nat) : Int)) = true := decide_eq_true (by omega)
    have HLT := Sd.mk hlt
    have e4 : decide ((j : Int) + 1 = 0) = false := decide_eq_false (by omega)
    have e5 : ((j : Int) + 1 == 0) = false := beq_eq_false_iff_ne.mpr (by omega)
    have e6 : decide ((0 : Int) < (j : Int) + 1) = true := decide_eq_true (by omega)
    obtain ⟨ad', e', hp0, hp1⟩ := at_T94 HRK.out (j : Int) (by omega) (by omega)
    cases e'
    simp only [Int.toNat_natCast] at hp0 hp1
    have hj1 : (j : Int) < (kn.length : Int) := by omega
    have hj0 : (0 : Int) ≤ (j : Int) := by omega
    have HP : Sd ((rd_T94 kn ((j + 1 - 1 : Nat) : Int)).f0 = (rd_T94 kn (j : Int)).f0) := ⟨by rw [Nat.add_sub_cancel]⟩
    generalize (rd_T94 kn (j : Int)).f0 = q at hp0 HP
    have hsub : IntKind.i64.wrap (j : Int) = (j : Int) := IntWalk.i64_in _ (by have := HK24.out; omega)
    by_cases c3 : m ≤ q
    ·have d3 : decide (m ≤ q) = true := decide_eq_true c3
     go_quiet (fail)
     go_wp2
     go_ret
     exact ⟨by rw [BAD.out (Or.inr (by rw [HK.out.2, if_neg (by omega)]; exact decide_eq_false (by rw [HP.out]; omega)))]; rfl, pw_below_drewN HB1.out _⟩
    ·have d3 : decide (m ≤ q) = false := decide_eq_false c3
     by_cases c4 : t < 0
     ·have d_c4 : decide (t < 0) = true := decide_eq_true c4
      go_quiet (fail)
      go_wp2
      go_ret
      exact ⟨by rw [BAD.out (Or.inl (by rw [HK.out.1]; simp [inB]; omega))]; rfl, pw_below_drewN HB1.out _⟩
     have d_c4 : decide (t < 0) = false := decide_eq_false c4
     by_cases c5 : t > 10000
     ·have d_c5 : decide (10000 < t) = true := decide_eq_true c5
      go_quiet (fail)
      go_wp2
      go_ret
      exact ⟨by rw [BAD.out (Or.inl (by rw [HK.out.1]; simp [inB]; omega))]; rfl, pw_below_drewN HB1.out _⟩
     have d_c5 : decide (10000 < t) = false := decide_eq_false c5
     have HA : Sd (kneeA kn (j + 1) = true) := ⟨by rw [HK.out.1]; simp [inB]; omega⟩
     have HKB : Sd (kneeB kn (j + 1) = true) := ⟨by rw [HK.out.2, if_neg (by omega)]; exact decide_eq_true (by rw [HP.out]; omega)⟩
     go_quiet (fail)
     go_wp2
     go_roundg (kn.length - (j + 1 + 1))
     case measure => omega
     case rel => exact ⟨j + 1 + 1, by have := HLT.out; have := HK24.out; rw [← i64_w, IntWalk.i64_in _ (by omega)]; go_num, by have := HLT.out; omega, by have := HLT.out; omega, ⟨by rw [HO.out, HSTEP.out, HA.out, HKB.out]; rfl⟩, ⟨blk_drewN BX1.out _⟩, ⟨pw_below_drewN HB1.out _⟩⟩
  ·have hgez : ¬ (k : Int) < (kn.length : Int) := by omega
   obtain rfl : k = kn.length := by omega
   have hok : kneesOk kn kn.length 0 = true := by rw [HO.out]; simp [kneesOk]
   have hl0 : wr.cell? ⟨w.heap.size, 0, none⟩ = some (.slice A kn.length c) := (blk_cell BX.out 0).trans rfl
   have hl1 : wr.cell? ⟨w.heap.size, 0 + 1, none⟩ = some (.int .i64 fac) := (blk_cell BX.out 1).trans rfl
   have HV' := Sd.mk (HV.out.trans (if_pos hok))
   clear hok HV HO
   by_cases c1 : fac < 0
   ·have d_c1 : decide (fac < 0) = true := decide_eq_true c1
    go_wp2
    go_ret
    exact ⟨by rw [HV'.out, if_neg (by simp [inB]; omega)]; rfl, HB.out⟩
   have d_c1 : decide (fac < 0) = false := decide_eq_false c1
   by_cases c2 : fac > 10000
   ·have d_c2 : decide (10000 < fac) = true := decide_eq_true c2
    go_wp2
    go_ret
    exact ⟨by rw [HV'.out, if_neg (by simp [inB]; omega)]; rfl, HB.out⟩
   have d_c2 : decide (10000 < fac) = false := decide_eq_false c2
   go_wp2
   go_ret
   exact ⟨by rw [HV'.out, if_pos (by simp [inB]; omega)]; rfl, HB.out⟩
end
section
attribute [local go_sem] max2_int min2_int max_two min_two max_three min_three max_four min_four
def r5_held.l0 : Nat → Int → Int → Int → List (S94) → Int → Option (Int)
 | 0, _, _, _, _, _ => none
 | k + 1, x1, x5, x6, x449q0, x449q1 => if x6 < (x449q0.length : Int) then (if 0 ≤ (wrap64 (x6 - 1)) then (if (wrap64 (x6 - 1)) < (x449q0.length : Int) then (if 0 ≤ x6 then (if (mn ((rd_T94 x449q0 (wrap64 (x6 - 1))).f1) ((rd_T94 x449q0 x6).f1)) ≥ x1 then (r5_held.l0 k x1 (wrap64 (x5 + (wrap64 (((rd_T94 x449q0 x6).f0) - ((rd_T94 x449q0 (wrap64 (x6 - 1))).f0))))) (wrap64 (x6 + 1)) x449q0 x449q1) else (if (mx ((rd_T94 x449q0 (wrap64 (x6 - 1))).f1) ((rd_T94 x449q0 x6).f1)) ≥ x1 then ((r5_down.f (wrap64 ((wrap64 (((rd_T94 x449q0 x6).f0) - ((rd_T94 x449q0 (wrap64 (x6 - 1))).f0))) * (wrap64 ((mx ((rd_T94 x449q0 (wrap64 (x6 - 1))).f1) ((rd_T94 x449q0 x6).f1)) - x1)))) (wrap64 ((mx ((rd_T94 x449q0 (wrap64 (x6 - 1))).f1) ((rd_T94 x449q0 x6).f1)) - (mn ((rd_T94 x449q0 (wrap64 (x6 - 1))).f1) ((rd_T94 x449q0 x6).f1))))).bind fun t453 => (r5_held.l0 k x1 (wrap64 (x5 + t453)) (wrap64 (x6 + 1)) x449q0 x449q1)) else (r5_held.l0 k x1 x5 (wrap64 (x6 + 1)) x449q0 x449q1))) else (none)) else (none)) else (none)) else (some x5)
def r5_held.f (k : Nat) (l0_0 : List (S94)) (a0_1 : Int) (a1 : Int) : Option (Int) := r5_held.l0 k a1 0 1 l0_0 a0_1
def r5_held.T5 : Bool × List (List Nat × List Nat) := (true, [([], []), ([0], [0]), ([], []), ([2], [2]), ([1, 3], [1, 3]), ([4], [4]), ([], []), ([6], [6]), ([], []), ([7, 8], [7, 8]), ([9], [9]), ([], []), ([], []), ([11, 5, 0, 1, 2, 3, 4, 5, 11, 12], [5, 11]), ([12, 10, 13, 0, 1, 2, 3, 4, 5, 6, 7, 8, 9, 10, 11, 12, 13], [10, 12])])
def r5_held.B5 : List Nat := [0, 1, 0, 4, 15, 31, 0, 64, 0, 448, 960, 0, 0, 6207, 16383]
theorem r5_held.tab5 : rtab .any (opsOf Tryz.f77 5) = r5_held.T5 := by kernel_rfl
theorem r5_held.bits5 : waitsOk r5_held.T5.2 r5_held.B5 = true := by kernel_rfl
def r5_held.T6 : Bool × List (List Nat × List Nat) := (true, [([], []), ([0], [0]), ([], []), ([2], [2]), ([1, 3], [1, 3]), ([], []), ([5], [5]), ([], []), ([7], [7]), ([6, 8], [6, 8]), ([4, 0, 1, 2, 3, 4], [4]), ([9, 10, 0, 1, 2, 3, 4, 5, 6, 7, 8, 9, 10], [9])])
def r5_held.B6 : List Nat := [0, 1, 0, 4, 15, 0, 32, 0, 128, 480, 31, 2047]
theorem r5_held.tab6 : rtab .any (opsOf Tryz.f77 6) = r5_held.T6 := by kernel_rfl
theorem r5_held.bits6 : waitsOk r5_held.T6.2 r5_held.B6 = true := by kernel_rfl
theorem r5_held.calls (k : Nat) (A0_0 : Option Addr) (c0_0 : Nat) (l0_0 : List (S94)) (a0_1 : Int) (a1 : Int) (r : Int) (w : World) (hr0_0 : Kd.C k94 w A0_0 l0_0.length l0_0) (hc0_0 : l0_0.length ≤ c0_0) (h : r5_held.f k l0_0 a0_1 a1 = some r) :
  Calls Tryz.prog 77 #[.agg #[.slice A0_0 l0_0.length c0_0, .int .i64 a0_1], .int .i64 a1] w fun e w' => e = .returned (.int .i64 r) ∧ Below w.heap.size w w' := by
 have hu46 := Tryz.underlying46; have hu94 := Tryz.underlying94; have HR0_0 := Sd.mk hr0_0; have HC0_0 := Sd.mk hc0_0; clear hr0_0 hc0_0; have HB := Sd.mk (Below.refl w.heap.size w)
 have H : (r5_held.l0 k a1 0 1 l0_0 a0_1) = some r := h
 clear h; have H' := Sd.mk H; clear H
 go_enter Tryz.func77, Tryz.ntmps77
 go_wp2_with (first | ((with_reducible refine gate_dst (N := 2) rfl ?_); refine box_event ?hg (N := 2) ?hd (cs := #[.slice A0_0 l0_0.length c0_0, .int .i64 a0_1]) (t := 46) ?hr ?_; (case hd => rfl); (case hg => rfl); (case hr => exact tG); intro gb448 hg w3 hbox hb; have BK448 := Sd.mk (hbox); have GW448 := Sd.mk (bSz hg (bBl HB.out)); have GE448 := Sd.mk (bSz hg (bBl HB.out)); replace HB := Sd.mk (below_step (bBl HB.out) hb); clear hb hbox hg))
 go_loopg [5, 6] k (fun kq v5 v6 w' => ∃ (x5_1 : Int) (x6_1 : Int), v5 = .int .i64 x5_1 ∧ v6 = .int .i64 x6_1 ∧ Sd (r5_held.l0 kq a1 x5_1 x6_1 l0_0 a0_1 = some r) ∧ Sd (kq ≤ k) ∧ Sd (w'.heap[gb448]? = some (.cells #[(.slice A0_0 l0_0.length c0_0), .int .i64 a0_1] 46 (0, 0))) ∧ Sd (Below w.heap.size w w'))
 case atStart => exact ⟨(0), (1), tS, tS, H', ⟨Nat.le_refl _⟩, ⟨bkA BK448.out⟩, ⟨bBl HB.out⟩⟩
 case round =>
  clear H'; (try clear p2); obtain ⟨x5_1, x6_1, rfl, rfl, HA, HK1, BK448, HB⟩ := hrel
  cases gk with
  | zero => exact absurd HA.out (by simp [r5_held.l0])
  | succ k1 =>
   have H := HA.out; clear HA
   simp only [r5_held.l0] at H
   by_cases c4 : x6_1 < (l0_0.length : Int)
   ·rw [if_pos c4] at H
    have c4b0 : decide (x6_1 < (l0_0.length : Int)) = true := decide_eq_true c4
    clear c4
    obtain ⟨ji5, hji5⟩ : ∃ j_ : Int, (wrap64 (x6_1 - 1)) = j_ := ⟨_, rfl⟩
    replace H : (if 0 ≤ (ji5) then (if (ji5) < (l0_0.length : Int) then (if 0 ≤ x6_1 then (if (mn ((rd_T94 l0_0 (ji5)).f1) ((rd_T94 l0_0 x6_1).f1)) ≥ a1 then (r5_held.l0 k1 a1 (wrap64 (x5_1 + (wrap64 (((rd_T94 l0_0 x6_1).f0) - ((rd_T94 l0_0 (ji5)).f0))))) (wrap64 (x6_1 + 1)) l0_0 a0_1) else (if (mx ((rd_T94 l0_0 (ji5)).f1) ((rd_T94 l0_0 x6_1).f1)) ≥ a1 then ((r5_down.f (wrap64 ((wrap64 (((rd_T94 l0_0 x6_1).f0) - ((rd_T94 l0_0 (ji5)).f0))) * (wrap64 ((mx ((rd_T94 l0_0 (ji5)).f1) ((rd_T94 l0_0 x6_1).f1)) - a1)))) (wrap64 ((mx ((rd_T94 l0_0 (ji5)).f1) ((rd_T94 l0_0 x6_1).f1)) - (mn ((rd_T94 l0_0 (ji5)).f1) ((rd_T94 l0_0 x6_1).f1))))).bind fun t453 => (r5_held.l0 k1 a1 (wrap64 (x5_1 + t453)) (wrap64 (x6_1 + 1)) l0_0 a0_1)) else (r5_held.l0 k1 a1 x5_1 (wrap64 (x6_1 + 1)) l0_0 a0_1))) else (none)) else (none)) else (none)) = some r := by first | (rw [hji5] at H; exact H) | (simp only [hji5] at H ⊢; exact H)
    have hji5w : (IntKind.i64.wrap (x6_1 - 1)) = ji5 := (i64_w _).trans hji5
    by_cases c6 : 0 ≤ (ji5)
    ·rw [if_pos c6] at H
     have c6b0 : decide (0 ≤ (ji5)) = true := decide_eq_true c6
     clear c6
     by_cases c7 : (ji5) < (l0_0.length : Int)
     ·rw [if_pos c7] at H
      have c7b0 : decide ((ji5) < (l0_0.length : Int)) = true := decide_eq_true c7
      clear c7
      by_cases c8 : 0 ≤ x6_1
      ·rw [if_pos c8] at H
       have c8b0 : decide (0 ≤ x6_1) = true := decide_eq_true c8
       clear c8
       obtain ⟨ji9, hji9⟩ : ∃ j_ : Int, (mn ((rd_T94 l0_0 (ji5)).f1) ((rd_T94 l0_0 x6_1).f1)) = j_ := ⟨_, rfl⟩
       replace H : (if (ji9) ≥ a1 then (r5_held.l0 k1 a1 (wrap64 (x5_1 + (wrap64 (((rd_T94 l0_0 x6_1).f0) - ((rd_T94 l0_0 (ji5)).f0))))) (wrap64 (x6_1 + 1)) l0_0 a0_1) else (if (mx ((rd_T94 l0_0 (ji5)).f1) ((rd_T94 l0_0 x6_1).f1)) ≥ a1 then ((r5_down.f (wrap64 ((wrap64 (((rd_T94 l0_0 x6_1).f0) - ((rd_T94 l0_0 (ji5)).f0))) * (wrap64 ((mx ((rd_T94 l0_0 (ji5)).f1) ((rd_T94 l0_0 x6_1).f1)) - a1)))) (wrap64 ((mx ((rd_T94 l0_0 (ji5)).f1) ((rd_T94 l0_0 x6_1).f1)) - (ji9)))).bind fun t453 => (r5_held.l0 k1 a1 (wrap64 (x5_1 + t453)) (wrap64 (x6_1 + 1)) l0_0 a0_1)) else (r5_held.l0 k1 a1 x5_1 (wrap64 (x6_1 + 1)) l0_0 a0_1))) = some r := by first | (rw [hji9] at H; exact H) | (simp only [hji9] at H ⊢; exact H)
       have hji9_ : (if ((rd_T94 l0_0 x6_1).f1) < ((rd_T94 l0_0 (ji5)).f1) then ((rd_T94 l0_0 x6_1).f1) else ((rd_T94 l0_0 (ji5)).f1)) = ji9 := hji9
       obtain ⟨ji10, hji10⟩ : ∃ j_ : Int, (mx ((rd_T94 l0_0 (ji5)).f1) ((rd_T94 l0_0 x6_1).f1)) = j_ := ⟨_, rfl⟩
       replace H : (if (ji9) ≥ a1 then (r5_held.l0 k1 a1 (wrap64 (x5_1 + (wrap64 (((rd_T94 l0_0 x6_1).f0) - ((rd_T94 l0_0 (ji5)).f0))))) (wrap64 (x6_1 + 1)) l0_0 a0_1) else (if (ji10) ≥ a1 then ((r5_down.f (wrap64 ((wrap64 (((rd_T94 l0_0 x6_1).f0) - ((rd_T94 l0_0 (ji5)).f0))) * (wrap64 ((ji10) - a1)))) (wrap64 ((ji10) - (ji9)))).bind fun t453 => (r5_held.l0 k1 a1 (wrap64 (x5_1 + t453)) (wrap64 (x6_1 + 1)) l0_0 a0_1)) else (r5_held.l0 k1 a1 x5_1 (wrap64 (x6_1 + 1)) l0_0 a0_1))) = some r := by first | (rw [hji10] at H; exact H) | (simp only [hji10] at H ⊢; exact H)
       have hji10_ : (if ((rd_T94 l0_0 (ji5)).f1) < ((rd_T94 l0_0 x6_1).f1) then ((rd_T94 l0_0 x6_1).f1) else ((rd_T94 l0_0 (ji5)).f1)) = ji10 := hji10
       have H' := Sd.mk H; clear H; obtain ⟨u12_0, u12_1, o12_0, o12_1⟩ := bc2 (w := wr) BK448.out
       try go_wp2
       replace BK448 := Sd.mk (blk_drew BK448.out); replace HB := Sd.mk (below_drew1 HB.out)
       have p449 : 0 ≤ ((ji5) : Int) := tB
       have q449 : (ji5) < (l0_0.length : Int) := tB
       obtain ⟨ad449, e449, hx449_0, hx449_1⟩ := at_T94 HR0_0.out (ji5) p449 q449; have hw449_1 := hx449_1; have hw449_0 := hx449_0; cases e449; replace hx449_0 := cU HB hx449_0; replace hx449_1 := cU HB hx449_1; replace p449 := eq_true p449; replace q449 := eq_true q449
       have p450 : 0 ≤ (x6_1 : Int) := tB
       have q450 : x6_1 < (l0_0.length : Int) := tB
       obtain ⟨ad450, e450, hx450_0, hx450_1⟩ := at_T94 HR0_0.out x6_1 p450 q450; have hw450_1 := hx450_1; have hw450_0 := hx450_0
       obtain rfl : ad449 = ad450 := (by injection e450)
       replace hx450_0 := cU HB hx450_0; replace hx450_1 := cU HB hx450_1; replace p450 := eq_true p450; replace q450 := eq_true q450
       refine start_ (n := 15) (S := fun w' => w'.cell? ⟨gb448, 0, none⟩ = some (.slice (some ad449) l0_0.length c0_0) ∧ w'.cell? ⟨gb448, 1, none⟩ = some (.int .i64 a0_1) ∧ w'.cell? (ad449.add (((ji5)).toNat * 2)) = some (.int .i64 ((rd_T94 l0_0 (ji5)).f0)) ∧ w'.cell? ⟨(ad449.add (((ji5)).toNat * 2)).block, (ad449.add (((ji5)).toNat * 2)).off + 1, none⟩ = some (.int .i64 ((rd_T94 l0_0 (ji5)).f1)) ∧ w'.cell? (ad449.add ((x6_1).toNat * 2)) = some (.int .i64 ((rd_T94 l0_0 x6_1).f0)) ∧ w'.cell? ⟨(ad449.add ((x6_1).toNat * 2)).block, (ad449.add ((x6_1).toNat * 2)).off + 1, none⟩ = some (.int .i64 ((rd_T94 l0_0 x6_1).f1))) (ds := []) (bA 15 0) (by kernel_rfl) rfl rfl ⟨(blk_cell BK448.out 0).trans rfl, (blk_cell BK448.out 1).trans rfl, (cU HB hw449_0 :), (cU HB hw449_1 :), (cU HB hw450_0 :), (cU HB hw450_1 :)⟩ (fun hHeld => ?_); refine with_tabW r5_held.tab5 r5_held.bits5 (fun HT_ HW_ => ?_)
       generalize wr.drew = w13 at BK448 HB hx449_0 hx449_1 hx450_0 hx450_1 hHeld ⊢
       refine pQ 0 (some 19) (bA 15 1) ?_
       refine pQ 2 (some 21) (bA 15 5) ?_
       refine pQ 3 (some 22) (bA 15 13) ?_
       refine pQ 6 (some 25) (bA 15 77) ?_
       refine pQ 8 (some 27) (bA 15 333) ?_
       refine tQ 1 (some 20) (bA 15 335) ?_
       refine pQ 4 (some 23) (bA 15 351) ?_
       refine tQ 5 (some 24) (bA 15 383) ?_
       refine tQ 7 (some 26) (bA 15 511) ?_
       refine pQ 9 (some 28) (bA 15 1023) ?_
       refine tQ 10 (some 29) (bA 15 2047) ?_
       refine join_ (σ := Nat × Nat) 2 (bA 15 8191) (fun s_ => [(7, .pointer (some ⟨s_.1, 0, none⟩)), (8, .pointer (some ⟨s_.2, 0, none⟩))]) (fun s_ w' => (w'.cell? ⟨gb448, 0, none⟩ = some (.slice (some ad449) l0_0.length c0_0) ∧ w'.cell? ⟨gb448, 1, none⟩ = some (.int .i64 a0_1) ∧ w'.cell? (ad449.add (((ji5)).toNat * 2)) = some (.int .i64 ((rd_T94 l0_0 (ji5)).f0)) ∧ w'.cell? ⟨(ad449.add (((ji5)).toNat * 2)).block, (ad449.add (((ji5)).toNat * 2)).off + 1, none⟩ = some (.int .i64 ((rd_T94 l0_0 (ji5)).f1)) ∧ w'.cell? (ad449.add ((x6_1).toNat * 2)) = some (.int .i64 ((rd_T94 l0_0 x6_1).f0)) ∧ w'.cell? ⟨(ad449.add ((x6_1).toNat * 2)).block, (ad449.add ((x6_1).toNat * 2)).off + 1, none⟩ = some (.int .i64 ((rd_T94 l0_0 x6_1).f1))) ∧ (w'.heap[gb448]? = some (.cells #[.slice (some ad449) l0_0.length c0_0, .int .i64 a0_1] 46 (0, 0))) ∧ (w'.heap[s_.1]? = some (.cells #[.int .i64 0, .int .i64 0] 94 (0, 0))) ∧ (w'.heap[s_.2]? = some (.cells #[.int .i64 0, .int .i64 0] 94 (0, 0))) ∧ (w.heap.size ≤ s_.1) ∧ (w.heap.size ≤ s_.1) ∧ (gb448 ≠ s_.1) ∧ (s_.1 ≠ gb448) ∧ (s_.2 ≠ s_.1) ∧ (s_.1 ≠ s_.2) ∧ (w.heap.size ≤ s_.2) ∧ (w.heap.size ≤ s_.2) ∧ (gb448 ≠ s_.2) ∧ (s_.2 ≠ gb448) ∧ (Below w.heap.size w w')) ?_ ?_
       rotate_left
       ·intro hCont
        refine two_ (i := 11) (j := 12) (Ni := some 7) (Nj := some 8) (bA 15 4095) (bA 15 6143) rfl rfl rfl rfl (two_of HT_.out (by kernel_rfl)) (by decide) (by decide) (fun K hK => ?_) (fun K hK => ?_)
        ·skip
         refine box_step ?hg (N := 7) ?hd (cs := #[.int .i64 0, .int .i64 0]) (t := 94) ?hr ?_; (case hd => rfl); (case hg => rfl); (case hr => exact tG)
         intro gb451 hg w14 hbox hb
         have BK451 := Sd.mk (hbox); have GW451 := Sd.mk (bSz hg (bBl HB.out)); have GE451 := Sd.mk (bSz hg (bBl HB.out)); replace HB := Sd.mk (below_step (bBl HB.out) hb); have NB448_451 := Sd.mk (bNl hg (bkA BK448.out)); have NB451_448 := Sd.mk (bNg hg (bkA BK448.out)); replace BK448 := Sd.mk (blk_below (bkA BK448.out) hb); clear hb hbox hg
         refine hK.out _ _ ⟨(blk_cell BK448.out 0).trans rfl, (blk_cell BK448.out 1).trans rfl, (cU HB hw449_0 :), (cU HB hw449_1 :), (cU HB hw450_0 :), (cU HB hw450_1 :)⟩ (fun hHeld => ?_)
         clear hK K
         refine norm_ (a' := ?_) ?_ ?_
         rotate_left
         ·show Act.put _ (some 7) _ = _
          exact tP
         refine one_ (i := 12) (N := some 8) (bA 15 8191) rfl rfl (one_of HT_.out (by kernel_rfl)) (by decide) (fun K hK => ?_)
         refine box_step ?hg (N := 8) ?hd (cs := #[.int .i64 0, .int .i64 0]) (t := 94) ?hr ?_; (case hd => rfl); (case hg => rfl); (case hr => exact tG)
         intro gb452 hg w15 hbox hb
         have BK452 := Sd.mk (hbox); have GW452 := Sd.mk (bSz hg (bBl HB.out)); have GE452 := Sd.mk (bSz hg (bBl HB.out)); replace HB := Sd.mk (below_step (bBl HB.out) hb); have NB448_452 := Sd.mk (bNl hg (bkA BK448.out)); have NB452_448 := Sd.mk (bNg hg (bkA BK448.out)); replace BK448 := Sd.mk (blk_below (bkA BK448.out) hb); have NB451_452 := Sd.mk (bNl hg (bkA BK451.out)); have NB452_451 := Sd.mk (bNg hg (bkA BK451.out)); replace BK451 := Sd.mk (blk_below (bkA BK451.out) hb); clear hb hbox hg
         refine hK.out _ _ ⟨(blk_cell BK448.out 0).trans rfl, (blk_cell BK448.out 1).trans rfl, (cU HB hw449_0 :), (cU HB hw449_1 :), (cU HB hw450_0 :), (cU HB hw450_1 :)⟩ (fun hHeld => ?_)
         clear hK K
         refine norm_ (a' := ?_) ?_ ?_
         rotate_left
         ·show Act.put _ (some 8) _ = _
          exact tP
         exact norm_ (by simp only [putAll, Act.put, List.setIfInBounds_toArray, List.set_cons_zero, List.set_cons_succ]) (hCont (gb451, gb452) _ ⟨hHeld, (bkA BK448.out), (bkA BK451.out), (bkA BK452.out), GW451.out, GE451.out, NB448_451.out, NB451_448.out, NB452_451.out, NB451_452.out, GW452.out, GE452.out, NB448_452.out, NB452_448.out, (bBl HB.out)⟩)
        ·skip
         refine box_step ?hg (N := 8) ?hd (cs := #[.int .i64 0, .int .i64 0]) (t := 94) ?hr ?_; (case hd => rfl); (case hg => rfl); (case hr => exact tG)
         intro gb452 hg w14 hbox hb
         have BK452 := Sd.mk (hbox); have GW452 := Sd.mk (bSz hg (bBl HB.out)); have GE452 := Sd.mk (bSz hg (bBl HB.out)); replace HB := Sd.mk (below_step (bBl HB.out) hb); have NB448_452 := Sd.mk (bNl hg (bkA BK448.out)); have NB452_448 := Sd.mk (bNg hg (bkA BK448.out)); replace BK448 := Sd.mk (blk_below (bkA BK448.out) hb); clear hb hbox hg
         refine hK.out _ _ ⟨(blk_cell BK448.out 0).trans rfl, (blk_cell BK448.out 1).trans rfl, (cU HB hw449_0 :), (cU HB hw449_1 :), (cU HB hw450_0 :), (cU HB hw450_1 :)⟩ (fun hHeld => ?_)
         clear hK K
         refine norm_ (a' := ?_) ?_ ?_
         rotate_left
         ·show Act.put _ (some 8) _ = _
          exact tP
         refine one_ (i := 11) (N := some 7) (bA 15 8191) rfl rfl (one_of HT_.out (by kernel_rfl)) (by decide) (fun K hK => ?_)
         refine box_step ?hg (N := 7) ?hd (cs := #[.int .i64 0, .int .i64 0]) (t := 94) ?hr ?_; (case hd => rfl); (case hg => rfl); (case hr => exact tG)
         intro gb451 hg w15 hbox hb
         have BK451 := Sd.mk (hbox); have GW451 := Sd.mk (bSz hg (bBl HB.out)); have GE451 := Sd.mk (bSz hg (bBl HB.out)); replace HB := Sd.mk (below_step (bBl HB.out) hb); have NB448_451 := Sd.mk (bNl hg (bkA BK448.out)); have NB451_448 := Sd.mk (bNg hg (bkA BK448.out)); replace BK448 := Sd.mk (blk_below (bkA BK448.out) hb); have NB452_451 := Sd.mk (bNl hg (bkA BK452.out)); have NB451_452 := Sd.mk (bNg hg (bkA BK452.out)); replace BK452 := Sd.mk (blk_below (bkA BK452.out) hb); clear hb hbox hg
         refine hK.out _ _ ⟨(blk_cell BK448.out 0).trans rfl, (blk_cell BK448.out 1).trans rfl, (cU HB hw449_0 :), (cU HB hw449_1 :), (cU HB hw450_0 :), (cU HB hw450_1 :)⟩ (fun hHeld => ?_)
         clear hK K
         refine norm_ (a' := ?_) ?_ ?_
         rotate_left
         ·show Act.put _ (some 7) _ = _
          exact tP
         exact norm_ (by simp only [putAll, Act.put, List.setIfInBounds_toArray, List.set_cons_zero, List.set_cons_succ]) (hCont (gb451, gb452) _ ⟨hHeld, (bkA BK448.out), (bkA BK451.out), (bkA BK452.out), GW451.out, GE451.out, NB448_451.out, NB451_448.out, NB452_451.out, NB451_452.out, GW452.out, GE452.out, NB448_452.out, NB452_448.out, (bBl HB.out)⟩)
       rintro ⟨gb451, gb452⟩ w16 ⟨hS_, h0_, h1_, h2_, h3_, h4_, h5_, h6_, h7_, h8_, h9_, h10_, h11_, h12_, h13_⟩
       have n0_ : Sd (w16.heap[gb448]? = some (.cells #[.slice (some ad449) l0_0.length c0_0, .int .i64 a0_1] 46 (0, 0))) := ⟨h0_⟩
       have n1_ : Sd (w16.heap[gb451]? = some (.cells #[.int .i64 0, .int .i64 0] 94 (0, 0))) := ⟨h1_⟩
       have n2_ : Sd (w16.heap[gb452]? = some (.cells #[.int .i64 0, .int .i64 0] 94 (0, 0))) := ⟨h2_⟩
       have n3_ : Sd (w.heap.size ≤ gb451) := ⟨h3_⟩
       have n4_ : Sd (w.heap.size ≤ gb451) := ⟨h4_⟩
       have n5_ : Sd (gb448 ≠ gb451) := ⟨h5_⟩
       have n6_ : Sd (gb451 ≠ gb448) := ⟨h6_⟩
       have n7_ : Sd (gb452 ≠ gb451) := ⟨h7_⟩
       have n8_ : Sd (gb451 ≠ gb452) := ⟨h8_⟩
       have n9_ : Sd (w.heap.size ≤ gb452) := ⟨h9_⟩
       have n10_ : Sd (w.heap.size ≤ gb452) := ⟨h10_⟩
       have n11_ : Sd (gb448 ≠ gb452) := ⟨h11_⟩
       have n12_ : Sd (gb452 ≠ gb448) := ⟨h12_⟩
       have n13_ : Sd (Below w.heap.size w w16) := ⟨h13_⟩
       clear BK448; clear HB; clear h0_ h1_ h2_ h3_ h4_ h5_ h6_ h7_ h8_ h9_ h10_ h11_ h12_ h13_; have BK448 := n0_; have BK451 := n1_; have BK452 := n2_; have GW451 := n3_; have GE451 := n4_; have NB448_451 := n5_; have NB451_448 := n6_; have NB452_451 := n7_; have NB451_452 := n8_; have GW452 := n9_; have GE452 := n10_; have NB448_452 := n11_; have NB452_448 := n12_; have HB := n13_; clear n0_ n1_ n2_ n3_ n4_ n5_ n6_ n7_ n8_ n9_ n10_ n11_ n12_ n13_
       have hHeld : w16.cell? ⟨gb448, 0, none⟩ = some (.slice (some ad449) l0_0.length c0_0) ∧ w16.cell? ⟨gb448, 1, none⟩ = some (.int .i64 a0_1) ∧ w16.cell? (ad449.add (((ji5)).toNat * 2)) = some (.int .i64 ((rd_T94 l0_0 (ji5)).f0)) ∧ w16.cell? ⟨(ad449.add (((ji5)).toNat * 2)).block, (ad449.add (((ji5)).toNat * 2)).off + 1, none⟩ = some (.int .i64 ((rd_T94 l0_0 (ji5)).f1)) ∧ w16.cell? (ad449.add ((x6_1).toNat * 2)) = some (.int .i64 ((rd_T94 l0_0 x6_1).f0)) ∧ w16.cell? ⟨(ad449.add ((x6_1).toNat * 2)).block, (ad449.add ((x6_1).toNat * 2)).off + 1, none⟩ = some (.int .i64 ((rd_T94 l0_0 x6_1).f1)) := hS_
       refine norm_ (a' := ?_) ?_ ?_
       rotate_left
       ·simp only [putAll, Act.put, List.setIfInBounds_toArray, List.set_cons_zero, List.set_cons_succ]
        rfl
       refine one_ (i := 13) (N := none) (bA 15 16383) rfl rfl (one_of HT_.out (by kernel_rfl)) (by decide) (fun K hK => ?_)
       have hs17 : w16.cell? ⟨gb451, 0, none⟩ = some (.int .i64 0) := (blk_cell BK451.out 0).trans rfl
       have hfs17 := blk_frozen BK451.out 0; have hns17_0 := NB448_451.out; have hns17_2 := NB452_451.out; have hms17_0 := NB451_448.out; have hms17_2 := NB451_452.out
       have hs18 : w16.cell? ⟨gb451, 1, none⟩ = some (.int .i64 0) := (blk_cell BK451.out 1).trans rfl
       have hfs18 := blk_frozen BK451.out 1; have hns18_0 := NB448_451.out; have hns18_2 := NB452_451.out; have hms18_0 := NB451_448.out; have hms18_2 := NB451_452.out
       refine skip_ (w1 := ?_) (by rfl) rfl ?_ ?_
       rotate_left
       ·go_simp
        rfl
       refine hK.out _ _ ⟨((cell_far (p := ⟨gb451, _, none⟩) NB448_451.out _).trans (((cell_far (p := ⟨gb451, _, none⟩) NB448_451.out _).trans (hHeld.1)))), ((cell_far (p := ⟨gb451, _, none⟩) NB448_451.out _).trans (((cell_far (p := ⟨gb451, _, none⟩) NB448_451.out _).trans (hHeld.2.1)))), ((cell_far (p := ⟨gb451, _, none⟩) (nX hw449_0 GW451.out) _).trans (((cell_far (p := ⟨gb451, _, none⟩) (nX hw449_0 GW451.out) _).trans (hHeld.2.2.1)))), ((cell_far (p := ⟨gb451, _, none⟩) (nX hw449_1 GW451.out) _).trans (((cell_far (p := ⟨gb451, _, none⟩) (nX hw449_1 GW451.out) _).trans (hHeld.2.2.2.1)))), ((cell_far (p := ⟨gb451, _, none⟩) (nX hw450_0 GW451.out) _).trans (((cell_far (p := ⟨gb451, _, none⟩) (nX hw450_0 GW451.out) _).trans (hHeld.2.2.2.2.1)))), ((cell_far (p := ⟨gb451, _, none⟩) (nX hw450_1 GW451.out) _).trans (((cell_far (p := ⟨gb451, _, none⟩) (nX hw450_1 GW451.out) _).trans (hHeld.2.2.2.2.2))))⟩ (fun hHeld => ?_)
       clear hK K
       refine one_ (i := 14) (N := none) (bA 15 32767) rfl rfl (one_of HT_.out (by kernel_rfl)) (by decide) (fun K hK => ?_)
       have hs19 : w16.cell? ⟨gb452, 0, none⟩ = some (.int .i64 0) := (blk_cell BK452.out 0).trans rfl
       have hfs19 := blk_frozen BK452.out 0; have hns19_0 := NB448_452.out; have hns19_1 := NB451_452.out; have hms19_0 := NB452_448.out; have hms19_1 := NB452_451.out
       have hs20 : w16.cell? ⟨gb452, 1, none⟩ = some (.int .i64 0) := (blk_cell BK452.out 1).trans rfl
       have hfs20 := blk_frozen BK452.out 1; have hns20_0 := NB448_452.out; have hns20_1 := NB451_452.out; have hms20_0 := NB452_448.out; have hms20_1 := NB452_451.out
       refine skip_ (w1 := ?_) (by rfl) rfl ?_ ?_
       rotate_left
       ·go_simp
        rfl
       refine hK.out _ _ ⟨((cell_far (p := ⟨gb452, _, none⟩) NB448_452.out _).trans (((cell_far (p := ⟨gb452, _, none⟩) NB448_452.out _).trans (hHeld.1)))), ((cell_far (p := ⟨gb452, _, none⟩) NB448_452.out _).trans (((cell_far (p := ⟨gb452, _, none⟩) NB448_452.out _).trans (hHeld.2.1)))), ((cell_far (p := ⟨gb452, _, none⟩) (nX hw449_0 GW452.out) _).trans (((cell_far (p := ⟨gb452, _, none⟩) (nX hw449_0 GW452.out) _).trans (hHeld.2.2.1)))), ((cell_far (p := ⟨gb452, _, none⟩) (nX hw449_1 GW452.out) _).trans (((cell_far (p := ⟨gb452, _, none⟩) (nX hw449_1 GW452.out) _).trans (hHeld.2.2.2.1)))), ((cell_far (p := ⟨gb452, _, none⟩) (nX hw450_0 GW452.out) _).trans (((cell_far (p := ⟨gb452, _, none⟩) (nX hw450_0 GW452.out) _).trans (hHeld.2.2.2.2.1)))), ((cell_far (p := ⟨gb452, _, none⟩) (nX hw450_1 GW452.out) _).trans (((cell_far (p := ⟨gb452, _, none⟩) (nX hw450_1 GW452.out) _).trans (hHeld.2.2.2.2.2))))⟩ (fun hHeld => ?_)
       clear hK K
       refine done_ (done_of HT_.out (by kernel_rfl)) ?_
       try go_wp2
       have n0_ : Sd (((((w16.setCell ⟨gb451, 0, none⟩ (.int .i64 ((rd_T94 l0_0 (ji5)).f0))).setCell ⟨gb451, 1, none⟩ (.int .i64 ((rd_T94 l0_0 (ji5)).f1))).setCell ⟨gb452, 0, none⟩ (.int .i64 ((rd_T94 l0_0 x6_1).f0))).setCell ⟨gb452, 1, none⟩ (.int .i64 ((rd_T94 l0_0 x6_1).f1))).heap[gb448]? = some (.cells #[.slice (some ad449) l0_0.length c0_0, .int .i64 a0_1] 46 (0, 0))) := ⟨by refine bkZ ?_; refine blk_far ?_ NB448_452.out _; refine bkZ ?_; refine blk_far ?_ NB448_452.out _; refine bkZ ?_; refine blk_far ?_ NB448_451.out _; refine bkZ ?_; refine blk_far ?_ NB448_451.out _; refine bkZ ?_; exact BK448.out⟩
       have n1_ : Sd (((((w16.setCell ⟨gb451, 0, none⟩ (.int .i64 ((rd_T94 l0_0 (ji5)).f0))).setCell ⟨gb451, 1, none⟩ (.int .i64 ((rd_T94 l0_0 (ji5)).f1))).setCell ⟨gb452, 0, none⟩ (.int .i64 ((rd_T94 l0_0 x6_1).f0))).setCell ⟨gb452, 1, none⟩ (.int .i64 ((rd_T94 l0_0 x6_1).f1))).heap[gb451]? = some (.cells #[.int .i64 ((rd_T94 l0_0 (ji5)).f0), .int .i64 ((rd_T94 l0_0 (ji5)).f1)] 94 (0, 0))) := ⟨by refine bkZ ?_; refine blk_far ?_ NB451_452.out _; refine bkZ ?_; refine blk_far ?_ NB451_452.out _; refine bkZ ?_; refine blk_put (cs := #[.int .i64 ((rd_T94 l0_0 (ji5)).f0), .int .i64 0]) ?_ 1 _ rfl; refine bkZ ?_; refine blk_put (cs := #[.int .i64 0, .int .i64 0]) ?_ 0 _ rfl; refine bkZ ?_; exact BK451.out⟩
       have n2_ : Sd (((((w16.setCell ⟨gb451, 0, none⟩ (.int .i64 ((rd_T94 l0_0 (ji5)).f0))).setCell ⟨gb451, 1, none⟩ (.int .i64 ((rd_T94 l0_0 (ji5)).f1))).setCell ⟨gb452, 0, none⟩ (.int .i64 ((rd_T94 l0_0 x6_1).f0))).setCell ⟨gb452, 1, none⟩ (.int .i64 ((rd_T94 l0_0 x6_1).f1))).heap[gb452]? = some (.cells #[.int .i64 ((rd_T94 l0_0 x6_1).f0), .int .i64 ((rd_T94 l0_0 x6_1).f1)] 94 (0, 0))) := ⟨by refine bkZ ?_; refine blk_put (cs := #[.int .i64 ((rd_T94 l0_0 x6_1).f0), .int .i64 0]) ?_ 1 _ rfl; refine bkZ ?_; refine blk_put (cs := #[.int .i64 0, .int .i64 0]) ?_ 0 _ rfl; refine bkZ ?_; refine blk_far ?_ NB452_451.out _; refine bkZ ?_; refine blk_far ?_ NB452_451.out _; refine bkZ ?_; exact BK452.out⟩
       have n3_ : Sd (Below w.heap.size w ((((w16.setCell ⟨gb451, 0, none⟩ (.int .i64 ((rd_T94 l0_0 (ji5)).f0))).setCell ⟨gb451, 1, none⟩ (.int .i64 ((rd_T94 l0_0 (ji5)).f1))).setCell ⟨gb452, 0, none⟩ (.int .i64 ((rd_T94 l0_0 x6_1).f0))).setCell ⟨gb452, 1, none⟩ (.int .i64 ((rd_T94 l0_0 x6_1).f1)))) := ⟨bBl HB.out⟩
       (try clear BK448)
       (try clear BK451)
       (try clear BK452)
       (try clear HB)
       generalize ((((w16.setCell ⟨gb451, 0, none⟩ (.int .i64 ((rd_T94 l0_0 (ji5)).f0))).setCell ⟨gb451, 1, none⟩ (.int .i64 ((rd_T94 l0_0 (ji5)).f1))).setCell ⟨gb452, 0, none⟩ (.int .i64 ((rd_T94 l0_0 x6_1).f0))).setCell ⟨gb452, 1, none⟩ (.int .i64 ((rd_T94 l0_0 x6_1).f1))) = w21 at n0_ n1_ n2_ n3_ ⊢
       have BK448 := n0_; have BK451 := n1_; have BK452 := n2_; have HB := n3_; clear n0_ n1_ n2_ n3_; replace BK448 := Sd.mk (blk_drew BK448.out); replace BK451 := Sd.mk (blk_drew BK451.out); replace BK452 := Sd.mk (blk_drew BK452.out); replace HB := Sd.mk (below_drew1 HB.out)
       refine start_ (n := 12) (S := fun w' => w'.cell? ⟨gb451, 0, none⟩ = some (.int .i64 ((rd_T94 l0_0 (ji5)).f0)) ∧ w'.cell? ⟨gb451, 1, none⟩ = some (.int .i64 ((rd_T94 l0_0 (ji5)).f1)) ∧ w'.cell? ⟨gb452, 0, none⟩ = some (.int .i64 ((rd_T94 l0_0 x6_1).f0)) ∧ w'.cell? ⟨gb452, 1, none⟩ = some (.int .i64 ((rd_T94 l0_0 x6_1).f1))) (ds := []) (bA 12 0) (by kernel_rfl) rfl rfl ⟨(blk_cell BK451.out 0).trans rfl, (blk_cell BK451.out 1).trans rfl, (blk_cell BK452.out 0).trans rfl, (blk_cell BK452.out 1).trans rfl⟩ (fun hHeld => ?_); refine with_tabW r5_held.tab6 r5_held.bits6 (fun HT_ HW_ => ?_)
       generalize w21.drew = w22 at BK448 BK451 BK452 HB hHeld ⊢
       refine pQ 0 (some 30) (bA 12 1) ?_
       refine pQ 2 (some 32) (bA 12 5) ?_
       refine pQ 5 (some 35) (bA 12 37) ?_
       refine pQ 7 (some 37) (bA 12 165) ?_
       refine tQ 1 (some 31) (bA 12 167) ?_
       refine tQ 3 (some 33) (bA 12 175) ?_
       refine pQ 4 (some 34) (bA 12 191) ?_
       refine pQ 10 (some 9) (bA 12 1215) ?_
       refine tQ 6 (some 36) (bA 12 1279) ?_
       refine tQ 8 (some 38) (bA 12 1535) ?_
       refine pQ 9 (some 39) (bA 12 2047) ?_
       refine pQ 11 (some 10) (bA 12 4095) ?_
       refine done_ (done_of HT_.out (by kernel_rfl)) ?_
       have hnb23 := NB452_448.out; have hnc23 := NB448_452.out; have hnb24 := NB452_451.out; have hnc24 := NB451_452.out; obtain ⟨u25_0, u25_1, o25_0, o25_1⟩ := bc2 (w := w22) BK452.out; have hnb26 := NB451_448.out; have hnc26 := NB448_451.out; obtain ⟨u27_0, u27_1, o27_0, o27_1⟩ := bc2 (w := w22) BK451.out
       have H := H'.out; clear H'
       by_cases c11 : (ji9) ≥ a1
       ·rw [if_pos c11] at H
        have c11b0 : decide (a1 ≤ (ji9)) = true := decide_eq_true c11
        clear c11; have H' := Sd.mk H; clear H
        try go_wp2
        go_roundg k1
        case measure => have := HK1.out; omega
        case rel => exact ⟨(wrap64 (x5_1 + (wrap64 (((rd_T94 l0_0 x6_1).f0) - ((rd_T94 l0_0 (ji5)).f0))))), (wrap64 (x6_1 + 1)), (by first | rfl | (simp; done) | (simp only [← hji5] <;> (first | rfl | simp)) | (simp [*]; done)), tS, H', ⟨by have := HK1.out; omega⟩, ⟨bkA BK448.out⟩, ⟨bBl HB.out⟩⟩
       ·rw [if_neg c11] at H
        have c11b0 : decide (a1 ≤ (ji9)) = false := decide_eq_false c11
        clear c11
        by_cases c28 : (ji10) ≥ a1
        ·rw [if_pos c28] at H
         have c28b0 : decide (a1 ≤ (ji10)) = true := decide_eq_true c28
         clear c28; replace H := Option.bind_eq_some_iff.mp H; obtain ⟨t453, A290, H⟩ := H
         try dsimp only at H
         have A29 := Sd.mk A290; clear A290; have H' := Sd.mk H; clear H
         try go_wp2_with (first | ((with_reducible refine gate_callee (f := 70) rfl ?_); refine goesL_ (some 65) rfl rfl Tryz.func70 (by kernel_rfl) rfl #[.int .i64 (wrap64 ((wrap64 (((rd_T94 l0_0 x6_1).f0) - ((rd_T94 l0_0 (ji5)).f0))) * (wrap64 ((ji10) - a1)))), .int .i64 (wrap64 ((ji10) - (ji9)))] rfl (by (try simp only [List.map_toArray, List.map_cons, List.map_nil]); first | done | (simp only [hji10, hji5, hji9]; rfl) | rfl | (simp only [List.length_drop, List.length_take]; rfl)) ?_; (with_reducible refine (r5_down.calls (wrap64 ((wrap64 (((rd_T94 l0_0 x6_1).f0) - ((rd_T94 l0_0 (ji5)).f0))) * (wrap64 ((ji10) - a1)))) (wrap64 ((ji10) - (ji9))) t453 _ A29.out).mono ?_); rintro e w' ⟨rfl, ⟨nd, rfl⟩⟩; refine ⟨_, rfl, ?_⟩))
         go_roundg k1
         case measure => have := HK1.out; omega
         case rel => exact ⟨(wrap64 (x5_1 + t453)), (wrap64 (x6_1 + 1)), tS, tS, H', ⟨by have := HK1.out; omega⟩, ⟨bkA BK448.out⟩, ⟨bBl HB.out⟩⟩
        ·rw [if_neg c28] at H
         have c28b0 : decide (a1 ≤ (ji10)) = false := decide_eq_false c28
         clear c28; have H' := Sd.mk H; clear H
         try go_wp2
         go_roundg k1
         case measure => have := HK1.out; omega
         case rel => exact ⟨(x5_1), (wrap64 (x6_1 + 1)), tS, tS, H', ⟨by have := HK1.out; omega⟩, ⟨bkA BK448.out⟩, ⟨bBl HB.out⟩⟩
      ·rw [if_neg c8] at H
       exact absurd H (by simp)
     ·rw [if_neg c7] at H
      exact absurd H (by simp)
    ·rw [if_neg c6] at H
     exact absurd H (by simp)
   ·rw [if_neg c4] at H
    have c4b0 : decide (x6_1 < (l0_0.length : Int)) = false := decide_eq_false c4
    clear c4; obtain rfl := Option.some.inj H; obtain ⟨u62_0, u62_1, o62_0, o62_1⟩ := bc2 (w := wr) BK448.out
    go_wp2
    go_ret
    exact ⟨tE, bBl HB.out⟩
end
section
def r5_strain.f (l0_0 : List (S94)) (a0_1 : Int) (a1_0 : Int) (a1_1 : Int) (a2 : Int) : Option (Int) := (r5_up.f (wrap64 ((wrap64 ((wrap64 (a0_1 * a1_0)) * a2)) * a2)) (wrap64 (1000000 * a1_1))).bind fun t456 => (some t456)
theorem r5_strain.calls (A0_0 : Option Addr) (c0_0 : Nat) (l0_0 : List (S94)) (a0_1 : Int) (a1_0 : Int) (a1_1 : Int) (a2 : Int) (r : Int) (w : World) (hr0_0 : Kd.C k94 w A0_0 l0_0.length l0_0) (hc0_0 : l0_0.length ≤ c0_0) (h : r5_strain.f l0_0 a0_1 a1_0 a1_1 a2 = some r) :
  Calls Tryz.prog 78 #[.agg #[.slice A0_0 l0_0.length c0_0, .int .i64 a0_1], .agg #[.int .i64 a1_0, .int .i64 a1_1], .int .i64 a2] w fun e w' => e = .returned (.int .i64 r) ∧ Below w.heap.size w w' := by
 have hu46 := Tryz.underlying46; have hu82 := Tryz.underlying82; have HR0_0 := Sd.mk hr0_0; have HC0_0 := Sd.mk hc0_0; clear hr0_0 hc0_0; have HB := Sd.mk (Below.refl w.heap.size w)
 have H : ((r5_up.f (wrap64 ((wrap64 ((wrap64 (a0_1 * a1_0)) * a2)) * a2)) (wrap64 (1000000 * a1_1))).bind fun t456 => (some t456)) = some r := h
 clear h; replace H := Option.bind_eq_some_iff.mp H; obtain ⟨t456, A40, H⟩ := H
 try dsimp only at H
 have A4 := Sd.mk A40; clear A40; obtain rfl := Option.some.inj H
 go_enter Tryz.func78, Tryz.ntmps78
 go_wp2_with (first | ((with_reducible refine gate_dst (N := 3) rfl ?_); refine box_event ?hg (N := 3) ?hd (cs := #[.slice A0_0 l0_0.length c0_0, .int .i64 a0_1]) (t := 46) ?hr ?_; (case hd => rfl); (case hg => rfl); (case hr => exact tG); intro gb454 hg w5 hbox hb; have BK454 := Sd.mk (hbox); have GW454 := Sd.mk (bSz hg (bBl HB.out)); have GE454 := Sd.mk (bSz hg (bBl HB.out)); replace HB := Sd.mk (below_step (bBl HB.out) hb); clear hb hbox hg) | ((with_reducible refine gate_dst (N := 4) rfl ?_); refine box_event ?hg (N := 4) ?hd (cs := #[.int .i64 a1_0, .int .i64 a1_1]) (t := 82) ?hr ?_; (case hd => rfl); (case hg => rfl); (case hr => exact tG); intro gb455 hg w6 hbox hb; have BK455 := Sd.mk (hbox); have GW455 := Sd.mk (bSz hg (bBl HB.out)); have GE455 := Sd.mk (bSz hg (bBl HB.out)); replace HB := Sd.mk (below_step (bBl HB.out) hb); have NB454_455 := Sd.mk (bNl hg (bkA BK454.out)); have NB455_454 := Sd.mk (bNg hg (bkA BK454.out)); replace BK454 := Sd.mk (blk_below (bkA BK454.out) hb); clear hb hbox hg; have hnb7 := NB454_455.out; have hnc7 := NB455_454.out; obtain ⟨u8_0, u8_1, o8_0, o8_1⟩ := bc2 (w := w6) BK454.out; obtain ⟨u9_0, u9_1, o9_0, o9_1⟩ := bc2 (w := w6) BK455.out) | ((with_reducible refine gate_callee (f := 71) rfl ?_); refine goesL_ (some 19) rfl rfl Tryz.func71 (by kernel_rfl) rfl #[.int .i64 (wrap64 ((wrap64 ((wrap64 (a0_1 * a1_0)) * a2)) * a2)), .int .i64 (wrap64 (1000000 * a1_1))] rfl tM ?_; (with_reducible refine (r5_up.calls (wrap64 ((wrap64 ((wrap64 (a0_1 * a1_0)) * a2)) * a2)) (wrap64 (1000000 * a1_1)) t456 _ A4.out).mono ?_); rintro e w' ⟨rfl, ⟨nd, rfl⟩⟩; refine ⟨_, rfl, ?_⟩))
 go_ret
 exact ⟨tE, bBl HB.out⟩
end
section
def r5_lowest.l0 : Nat → Int → Int → Int → Int → Option (Int × Int)
 | 0, _, _, _, _ => none
 | k + 1, x0, x1, x5, x6 => if x6 = 0 then (if x5 = 0 then (none) else (some (wrap64 (Int.tdiv x0 x5), wrap64 (Int.tdiv x1 x5)))) else (r5_lowest.l0 k x0 x1 x6 (Int.tmod x5 x6))
def r5_lowest.f (k : Nat) (a0 : Int) (a1 : Int) : Option (Int × Int) := r5_lowest.l0 k a0 a1 a0 a1
def r5_lowest.T4 : Bool × List (List Nat × List Nat) := (true, [([], []), ([], []), ([0, 1], [0, 1]), ([], []), ([], []), ([3, 4], [3, 4]), ([2, 5], [2, 5]), ([6, 0, 1, 2, 3, 4, 5, 6], [6])])
def r5_lowest.B4 : List Nat := [0, 0, 3, 0, 0, 24, 63, 127]
theorem r5_lowest.tab4 : rtab .any (opsOf Tryz.f160 4) = r5_lowest.T4 := by kernel_rfl
theorem r5_lowest.bits4 : waitsOk r5_lowest.T4.2 r5_lowest.B4 = true := by kernel_rfl
theorem r5_lowest.calls (k : Nat) (a0 : Int) (a1 : Int) (r1 : Int) (r2 : Int) (w : World) (h : r5_lowest.f k a0 a1 = some (r1, r2)) :
  Calls Tryz.prog 160 #[.int .i64 a0, .int .i64 a1] w fun e w' => e = .returned (.agg #[.int .i64 r1, .int .i64 r2]) ∧ Below w.heap.size w w' := by
 have hu82 := Tryz.underlying82; have HB := Sd.mk (Below.refl w.heap.size w)
 have H : (r5_lowest.l0 k a0 a1 a0 a1) = some (r1, r2) := h
 clear h; have H' := Sd.mk H; clear H
 go_enter Tryz.func160, Tryz.ntmps160
 go_wp2_with (first | ((with_reducible refine gate_dst (N := 4) rfl ?_); refine box_event ?hg (N := 4) ?hd (cs := #[.int .i64 0, .int .i64 0]) (t := 82) ?hr ?_; (case hd => rfl); (case hg => rfl); (case hr => exact tG); intro gb457 hg w3 hbox hb; have BK457 := Sd.mk (hbox); have GW457 := Sd.mk (bSz hg (bBl HB.out)); have GE457 := Sd.mk (bSz hg (bBl HB.out)); replace HB := Sd.mk (below_step (bBl HB.out) hb); clear hb hbox hg))
 go_loopg [5, 6] k (fun kq v5 v6 w' => ∃ (x5_1 : Int) (x6_1 : Int), v5 = .int .i64 x5_1 ∧ v6 = .int .i64 x6_1 ∧ Sd (r5_lowest.l0 kq a0 a1 x5_1 x6_1 = some (r1, r2)) ∧ Sd (kq ≤ k) ∧ Sd (w'.heap[gb457]? = some (.cells #[.int .i64 0, .int .i64 0] 82 (0, 0))) ∧ Sd (Below w.heap.size w w'))
 case atStart => exact ⟨(a0), (a1), tS, tS, H', ⟨Nat.le_refl _⟩, ⟨bkA BK457.out⟩, ⟨bBl HB.out⟩⟩
 case round =>
  clear H'; (try clear c1); (try clear p2); obtain ⟨x5_1, x6_1, rfl, rfl, HA, HK1, BK457, HB⟩ := hrel
  cases gk with
  | zero => exact absurd HA.out (by simp [r5_lowest.l0])
  | succ k1 =>
   have H := HA.out; clear HA
   simp only [r5_lowest.l0] at H
   by_cases c4 : x6_1 = 0
   ·rw [if_pos c4] at H
    have c4b0 : (x6_1 == 0) = true := beq_iff_eq.mpr c4
    have c4b1 : (x6_1 != 0) = false := bne_eq_false_iff_eq.mpr c4
    clear c4
    by_cases c5 : x5_1 = 0
    ·rw [if_pos c5] at H
     exact absurd H (by simp)
    ·rw [if_neg c5] at H
     have c5b0 : (x5_1 == 0) = false := beq_eq_false_iff_ne.mpr c5
     have c5b1 : (x5_1 != 0) = true := bne_iff_ne.mpr c5
     simp only [Option.some.injEq, Prod.mk.injEq] at H
     obtain ⟨rfl, rfl⟩ := H
     try go_wp2
     replace BK457 := Sd.mk (blk_drew BK457.out); replace HB := Sd.mk (below_drew1 HB.out)
     refine start_ (n := 8) (S := fun w' => True) (ds := []) (bA 8 0) (by kernel_rfl) rfl rfl trivial (fun hHeld => ?_); refine with_tabW r5_lowest.tab4 r5_lowest.bits4 (fun HT_ HW_ => ?_)
     generalize wr.drew = w6 at BK457 HB hHeld ⊢
     refine pQ 0 (some 15) (bA 8 1) ?_
     refine pQ 1 (some 16) (bA 8 3) ?_
     refine pQ 2 (some 17) (bA 8 7) ?_
     refine pQ 3 (some 18) (bA 8 15) ?_
     refine pQ 4 (some 19) (bA 8 31) ?_
     refine pQ 5 (some 20) (bA 8 63) ?_
     refine pQ 6 (some 21) (bA 8 127) ?_
     refine one_ (i := 7) (N := none) (bA 8 255) rfl rfl (one_of HT_.out (by kernel_rfl)) (by decide) (fun K hK => ?_)
     have hs7 : w6.cell? ⟨gb457, 0, none⟩ = some (.int .i64 0) := (blk_cell BK457.out 0).trans rfl
     have hfs7 := blk_frozen BK457.out 0
     have hs8 : w6.cell? ⟨gb457, 1, none⟩ = some (.int .i64 0) := (blk_cell BK457.out 1).trans rfl
     have hfs8 := blk_frozen BK457.out 1
     refine skip_ (w1 := ?_) (by rfl) rfl ?_ ?_
     rotate_left
     ·go_simp
      rfl
     refine hK.out _ _ trivial (fun hHeld => ?_)
     clear hK K
     refine done_ (done_of HT_.out (by kernel_rfl)) ?_
     try go_wp2
     refine bodyPost_ret (results_cell_row rfl _ _ gb457 82 #[.int .i64 (wrap64 (Int.tdiv a0 x5_1)), .int .i64 (wrap64 (Int.tdiv a1 x5_1))] (0, 0) _ rfl (by refine bkZ ?_; refine blk_put (cs := #[.int .i64 (wrap64 (Int.tdiv a0 x5_1)), .int .i64 0]) ?_ 1 _ rfl; refine bkZ ?_; refine blk_put (cs := #[.int .i64 0, .int .i64 0]) ?_ 0 _ rfl; refine bkZ ?_; exact BK457.out) Tryz.underlying82 rfl (by kernel_rfl)) rfl ?_
     exact ⟨tE, bBl HB.out⟩
   ·rw [if_neg c4] at H
    have c4b0 : (x6_1 == 0) = false := beq_eq_false_iff_ne.mpr c4
    have c4b1 : (x6_1 != 0) = true := bne_iff_ne.mpr c4
    have H' := Sd.mk H; clear H
    try go_wp2
    replace BK457 := Sd.mk (blk_drew BK457.out); replace HB := Sd.mk (below_drew1 HB.out)
    refine start_ (n := 6) (S := fun w' => True) (ds := []) (bA 6 0) (by kernel_rfl) rfl rfl trivial (fun hHeld => ?_)
    generalize wr.drew = w9 at BK457 HB hHeld ⊢
    refine pure_ (i := 0) (N := some 11) (v := ?_) (a' := ?_) (bA 6 1) rfl rfl (by kernel_rfl) (fun _ _ _ h => h) (Or.inl ⟨by rfl, ?_⟩) ?_ ?_
    rotate_left
    ·exact tW
    rotate_left
    ·exact tP
    refine pure_ (i := 1) (N := some 12) (v := ?_) (a' := ?_) (bA 6 3) rfl rfl (by kernel_rfl) (fun _ _ _ h => h) (Or.inl ⟨by rfl, ?_⟩) ?_ ?_
    rotate_left
    ·exact tW
    rotate_left
    ·exact tP
    refine pure_ (i := 2) (N := some 13) (v := ?_) (a' := ?_) (bA 6 7) rfl rfl (by kernel_rfl) (fun _ _ _ h => h) (Or.inl ⟨by rfl, ?_⟩) ?_ ?_
    rotate_left
    ·exact tW
    rotate_left
    ·exact tP
    refine pure_ (i := 3) (N := some 14) (v := ?_) (a' := ?_) (bA 6 15) rfl rfl (by kernel_rfl) (fun _ _ _ h => h) (Or.inl ⟨by rfl, ?_⟩) ?_ ?_
    rotate_left
    ·exact tW
    rotate_left
    ·exact tP
    refine pure_ (i := 4) (N := some 5) (v := ?_) (a' := ?_) (bA 6 31) rfl rfl (by kernel_rfl) (fun _ _ _ h => h) (Or.inl ⟨by rfl, ?_⟩) ?_ ?_
    rotate_left
    ·exact tW
    rotate_left
    ·exact tP
    refine pure_ (i := 5) (N := some 6) (v := ?_) (a' := ?_) (bA 6 63) rfl rfl (by kernel_rfl) (fun _ _ _ h => h) (Or.inl ⟨by rfl, ?_⟩) ?_ ?_
    rotate_left
    ·exact tW
    rotate_left
    ·exact tP
    refine done_ (by kernel_rfl) ?_
    try go_wp2
    go_roundg k1
    case measure => have := HK1.out; omega
    case rel => exact ⟨(x6_1), (Int.tmod x5_1 x6_1), tS, tS, H', ⟨by have := HK1.out; omega⟩, ⟨bkA BK457.out⟩, ⟨bBl HB.out⟩⟩
end
section
mutual
def r5_steepest.l0 : Nat → Int → List (S94) → Int → Int → Int → Int → Int → Option (Int × Int)
 | 0, _, _, _, _, _, _, _ => none
 | k + 1, x6, x459q0, x459q1, x460q0, x460q1, x462q0, x462q1 => if x6 < (x459q0.length : Int) then (if 0 ≤ (wrap64 (x6 - 1)) then (if (wrap64 (x6 - 1)) < (x459q0.length : Int) then (if 0 ≤ x6 then (if ((rd_T94 x459q0 x6).f1) ≥ ((rd_T94 x459q0 (wrap64 (x6 - 1))).f1) then (r5_steepest.j1 k x6 true x459q0 x459q1 x460q0 x460q1 x462q0 x462q1 ((rd_T94 x459q0 (wrap64 (x6 - 1))).f0) ((rd_T94 x459q0 (wrap64 (x6 - 1))).f1) ((rd_T94 x459q0 x6).f0) ((rd_T94 x459q0 x6).f1)) else (if ((rd_T94 x459q0 x6).f1) > x460q1 then (r5_steepest.j1 k x6 true x459q0 x459q1 x460q0 x460q1 x462q0 x462q1 ((rd_T94 x459q0 (wrap64 (x6 - 1))).f0) ((rd_T94 x459q0 (wrap64 (x6 - 1))).f1) ((rd_T94 x459q0 x6).f0) ((rd_T94 x459q0 x6).f1)) else (r5_steepest.j1 k x6 (decide (((rd_T94 x459q0 (wrap64 (x6 - 1))).f1) < x460q0)) x459q0 x459q1 x460q0 x460q1 x462q0 x462q1 ((rd_T94 x459q0 (wrap64 (x6 - 1))).f0) ((rd_T94 x459q0 (wrap64 (x6 - 1))).f1) ((rd_T94 x459q0 x6).f0) ((rd_T94 x459q0 x6).f1)))) else (none)) else (none)) else (none)) else (some (x462q0, x462q1))
def r5_steepest.j1 : Nat → Int → Bool → List (S94) → Int → Int → Int → Int → Int → Int → Int → Int → Int → Option (Int × Int)
 | 0, _, _, _, _, _, _, _, _, _, _, _, _ => none
 | k + 1, x6, x46, x459q0, x459q1, x460q0, x460q1, x462q0, x462q1, x465q0, x465q1, x466q0, x466q1 => if x46 = true then (r5_steepest.l0 k (wrap64 (x6 + 1)) x459q0 x459q1 x460q0 x460q1 x462q0 x462q1) else (if (wrap64 ((wrap64 (x465q1 - x466q1)) * x462q1)) > (wrap64 (x462q0 * (wrap64 (x466q0 - x465q0)))) then ((r5_lowest.f k (wrap64 (x465q1 - x466q1)) (wrap64 (x466q0 - x465q0))).bind fun bt466 => (r5_steepest.l0 k (wrap64 (x6 + 1)) x459q0 x459q1 x460q0 x460q1 bt466.1 bt466.2)) else (r5_steepest.l0 k (wrap64 (x6 + 1)) x459q0 x459q1 x460q0 x460q1 x462q0 x462q1))
end
def r5_steepest.f (k : Nat) (l0_0 : List (S94)) (a0_1 : Int) (a1_0 : Int) (a1_1 : Int) : Option (Int × Int) := r5_steepest.l0 k 1 l0_0 a0_1 a1_0 a1_1 0 1
def r5_steepest.T5 : Bool × List (List Nat × List Nat) := (true, [([], []), ([0], [0]), ([], []), ([2], [2]), ([1, 3], [1, 3]), ([4], [4]), ([], []), ([6], [6]), ([], []), ([7, 8], [7, 8]), ([9], [9]), ([], []), ([], []), ([11, 5, 0, 1, 2, 3, 4, 5, 11, 12], [5, 11]), ([12, 10, 13, 0, 1, 2, 3, 4, 5, 6, 7, 8, 9, 10, 11, 12, 13], [10, 12])])
def r5_steepest.B5 : List Nat := [0, 1, 0, 4, 15, 31, 0, 64, 0, 448, 960, 0, 0, 6207, 16383]
theorem r5_steepest.tab5 : rtab .any (opsOf Tryz.f79 5) = r5_steepest.T5 := by kernel_rfl
theorem r5_steepest.bits5 : waitsOk r5_steepest.T5.2 r5_steepest.B5 = true := by kernel_rfl
theorem r5_steepest.calls (k : Nat) (A0_0 : Option Addr) (c0_0 : Nat) (l0_0 : List (S94)) (a0_1 : Int) (a1_0 : Int) (a1_1 : Int) (r1 : Int) (r2 : Int) (w : World) (hr0_0 : Kd.C k94 w A0_0 l0_0.length l0_0) (hc0_0 : l0_0.length ≤ c0_0) (h : r5_steepest.f k l0_0 a0_1 a1_0 a1_1 = some (r1, r2)) :
  Calls Tryz.prog 79 #[.agg #[.slice A0_0 l0_0.length c0_0, .int .i64 a0_1], .agg #[.int .i64 a1_0, .int .i64 a1_1]] w fun e w' => e = .returned (.agg #[.int .i64 r1, .int .i64 r2]) ∧ Below w.heap.size w w' := by
 have hu46 := Tryz.underlying46; have hu27 := Tryz.underlying27; have hu82 := Tryz.underlying82; have hu94 := Tryz.underlying94; have HR0_0 := Sd.mk hr0_0; have HC0_0 := Sd.mk hc0_0; clear hr0_0 hc0_0; have HB := Sd.mk (Below.refl w.heap.size w)
 have H : (r5_steepest.l0 k 1 l0_0 a0_1 a1_0 a1_1 0 1) = some (r1, r2) := h
 clear h; have H' := Sd.mk H; clear H
 go_enter Tryz.func79, Tryz.ntmps79
 go_wp2_with (first | ((with_reducible refine gate_dst (N := 2) rfl ?_); refine box_event ?hg (N := 2) ?hd (cs := #[.slice A0_0 l0_0.length c0_0, .int .i64 a0_1]) (t := 46) ?hr ?_; (case hd => rfl); (case hg => rfl); (case hr => exact tG); intro gb458 hg w3 hbox hb; have BK458 := Sd.mk (hbox); have GW458 := Sd.mk (bSz hg (bBl HB.out)); have GE458 := Sd.mk (bSz hg (bBl HB.out)); replace HB := Sd.mk (below_step (bBl HB.out) hb); clear hb hbox hg) | ((with_reducible refine gate_dst (N := 3) rfl ?_); refine box_event ?hg (N := 3) ?hd (cs := #[.int .i64 a1_0, .int .i64 a1_1]) (t := 27) ?hr ?_; (case hd => rfl); (case hg => rfl); (case hr => exact tG); intro gb459 hg w4 hbox hb; have BK459 := Sd.mk (hbox); have GW459 := Sd.mk (bSz hg (bBl HB.out)); have GE459 := Sd.mk (bSz hg (bBl HB.out)); replace HB := Sd.mk (below_step (bBl HB.out) hb); have NB458_459 := Sd.mk (bNl hg (bkA BK458.out)); have NB459_458 := Sd.mk (bNg hg (bkA BK458.out)); replace BK458 := Sd.mk (blk_below (bkA BK458.out) hb); clear hb hbox hg) | ((with_reducible refine gate_dst (N := 4) rfl ?_); refine box_event ?hg (N := 4) ?hd (cs := #[.int .i64 0, .int .i64 0]) (t := 82) ?hr ?_; (case hd => rfl); (case hg => rfl); (case hr => exact tG); intro gb460 hg w5 hbox hb; have BK460 := Sd.mk (hbox); have GW460 := Sd.mk (bSz hg (bBl HB.out)); have GE460 := Sd.mk (bSz hg (bBl HB.out)); replace HB := Sd.mk (below_step (bBl HB.out) hb); have NB458_460 := Sd.mk (bNl hg (bkA BK458.out)); have NB460_458 := Sd.mk (bNg hg (bkA BK458.out)); replace BK458 := Sd.mk (blk_below (bkA BK458.out) hb); have NB459_460 := Sd.mk (bNl hg (bkA BK459.out)); have NB460_459 := Sd.mk (bNg hg (bkA BK459.out)); replace BK459 := Sd.mk (blk_below (bkA BK459.out) hb); clear hb hbox hg) | ((with_reducible refine gate_dst (N := 5) rfl ?_); refine box_event ?hg (N := 5) ?hd (cs := #[.int .i64 0, .int .i64 0]) (t := 82) ?hr ?_; (case hd => rfl); (case hg => rfl); (case hr => exact tG); intro gb461 hg w6 hbox hb; have BK461 := Sd.mk (hbox); have GW461 := Sd.mk (bSz hg (bBl HB.out)); have GE461 := Sd.mk (bSz hg (bBl HB.out)); replace HB := Sd.mk (below_step (bBl HB.out) hb); have NB458_461 := Sd.mk (bNl hg (bkA BK458.out)); have NB461_458 := Sd.mk (bNg hg (bkA BK458.out)); replace BK458 := Sd.mk (blk_below (bkA BK458.out) hb); have NB459_461 := Sd.mk (bNl hg (bkA BK459.out)); have NB461_459 := Sd.mk (bNg hg (bkA BK459.out)); replace BK459 := Sd.mk (blk_below (bkA BK459.out) hb); have NB460_461 := Sd.mk (bNl hg (bkA BK460.out)); have NB461_460 := Sd.mk (bNg hg (bkA BK460.out)); replace BK460 := Sd.mk (blk_below (bkA BK460.out) hb); clear hb hbox hg; have hnb7 := NB461_458.out; have hnc7 := NB458_461.out; have hnb8 := NB461_459.out; have hnc8 := NB459_461.out; have hnb9 := NB461_460.out; have hnc9 := NB460_461.out; obtain ⟨u10_0, u10_1, o10_0, o10_1⟩ := bc2 (w := w6) BK461.out))
 go_loopg [6] k (fun kq v6 w' => ∃ (x6_1 : Int) (x462000_1 : Int) (x462001_1 : Int), v6 = .int .i64 x6_1 ∧ Sd (r5_steepest.l0 kq x6_1 l0_0 a0_1 a1_0 a1_1 x462000_1 x462001_1 = some (r1, r2)) ∧ Sd (kq ≤ k) ∧ Sd (w'.heap[gb458]? = some (.cells #[(.slice A0_0 l0_0.length c0_0), .int .i64 a0_1] 46 (0, 0))) ∧ Sd (w'.heap[gb459]? = some (.cells #[.int .i64 a1_0, .int .i64 a1_1] 27 (0, 0))) ∧ Sd (w'.heap[gb460]? = some (.cells #[.int .i64 0, .int .i64 0] 82 (0, 0))) ∧ Sd (w'.heap[gb461]? = some (.cells #[.int .i64 x462000_1, .int .i64 x462001_1] 82 (0, 0))) ∧ Sd (Below w.heap.size w w'))
 case atStart => exact ⟨(1), (0), (1), tS, H', ⟨Nat.le_refl _⟩, ⟨by refine bkZ ?_; refine blk_far ?_ NB458_461.out _; refine bkZ ?_; refine blk_far ?_ NB458_461.out _; refine bkZ ?_; exact BK458.out⟩, ⟨by refine bkZ ?_; refine blk_far ?_ NB459_461.out _; refine bkZ ?_; refine blk_far ?_ NB459_461.out _; refine bkZ ?_; exact BK459.out⟩, ⟨by refine bkZ ?_; refine blk_far ?_ NB460_461.out _; refine bkZ ?_; refine blk_far ?_ NB460_461.out _; refine bkZ ?_; exact BK460.out⟩, ⟨by refine bkZ ?_; refine blk_put (cs := #[.int .i64 0, .int .i64 0]) ?_ 1 _ rfl; refine bkZ ?_; refine blk_put (cs := #[.int .i64 0, .int .i64 0]) ?_ 0 _ rfl; refine bkZ ?_; exact BK461.out⟩, ⟨bBl HB.out⟩⟩
 case round =>
  clear H'; (try clear p2); (try clear c7); (try clear c8); (try clear c9); (try clear u10_0 u10_1); (try clear o10_0 o10_1); obtain ⟨x6_1, x462000_1, x462001_1, rfl, HA, HK1, BK458, BK459, BK460, BK461, HB⟩ := hrel
  cases gk with
  | zero => exact absurd HA.out (by simp [r5_steepest.l0])
  | succ k1 =>
   have H := HA.out; clear HA
   simp only [r5_steepest.l0] at H
   by_cases c11 : x6_1 < (l0_0.length : Int)
   ·rw [if_pos c11] at H
    have c11b0 : decide (x6_1 < (l0_0.length : Int)) = true := decide_eq_true c11
    clear c11
    obtain ⟨ji12, hji12⟩ : ∃ j_ : Int, (wrap64 (x6_1 - 1)) = j_ := ⟨_, rfl⟩
    replace H : (if 0 ≤ (ji12) then (if (ji12) < (l0_0.length : Int) then (if 0 ≤ x6_1 then (if ((rd_T94 l0_0 x6_1).f1) ≥ ((rd_T94 l0_0 (ji12)).f1) then (r5_steepest.j1 k1 x6_1 true l0_0 a0_1 a1_0 a1_1 x462000_1 x462001_1 ((rd_T94 l0_0 (ji12)).f0) ((rd_T94 l0_0 (ji12)).f1) ((rd_T94 l0_0 x6_1).f0) ((rd_T94 l0_0 x6_1).f1)) else (if ((rd_T94 l0_0 x6_1).f1) > a1_1 then (r5_steepest.j1 k1 x6_1 true l0_0 a0_1 a1_0 a1_1 x462000_1 x462001_1 ((rd_T94 l0_0 (ji12)).f0) ((rd_T94 l0_0 (ji12)).f1) ((rd_T94 l0_0 x6_1).f0) ((rd_T94 l0_0 x6_1).f1)) else (r5_steepest.j1 k1 x6_1 (decide (((rd_T94 l0_0 (ji12)).f1) < a1_0)) l0_0 a0_1 a1_0 a1_1 x462000_1 x462001_1 ((rd_T94 l0_0 (ji12)).f0) ((rd_T94 l0_0 (ji12)).f1) ((rd_T94 l0_0 x6_1).f0) ((rd_T94 l0_0 x6_1).f1)))) else (none)) else (none)) else (none)) = some (r1, r2) := by first | (rw [hji12] at H; exact H) | (simp only [hji12] at H ⊢; exact H)
    have hji12w : (IntKind.i64.wrap (x6_1 - 1)) = ji12 := (i64_w _).trans hji12
    by_cases c13 : 0 ≤ (ji12)
    ·rw [if_pos c13] at H
     have c13b0 : decide (0 ≤ (ji12)) = true := decide_eq_true c13
     clear c13
     by_cases c14 : (ji12) < (l0_0.length : Int)
     ·rw [if_pos c14] at H
      have c14b0 : decide ((ji12) < (l0_0.length : Int)) = true := decide_eq_true c14
      clear c14
      by_cases c15 : 0 ≤ x6_1
      ·rw [if_pos c15] at H
       have c15b0 : decide (0 ≤ x6_1) = true := decide_eq_true c15
       clear c15; have HC16 := Sd.mk H; clear H; have hnb17 := NB458_459.out; have hnc17 := NB459_458.out; have hnb18 := NB458_460.out; have hnc18 := NB460_458.out; have hnb19 := NB458_461.out; have hnc19 := NB461_458.out; obtain ⟨u20_0, u20_1, o20_0, o20_1⟩ := bc2 (w := wr) BK458.out
       try go_wp2
       replace BK458 := Sd.mk (blk_drew BK458.out); replace BK459 := Sd.mk (blk_drew BK459.out); replace BK460 := Sd.mk (blk_drew BK460.out); replace BK461 := Sd.mk (blk_drew BK461.out); replace HB := Sd.mk (below_drew1 HB.out)
       have p462 : 0 ≤ ((ji12) : Int) := tB
       have q462 : (ji12) < (l0_0.length : Int) := tB
       obtain ⟨ad462, e462, hx462_0, hx462_1⟩ := at_T94 HR0_0.out (ji12) p462 q462; have hw462_1 := hx462_1; have hw462_0 := hx462_0; cases e462; replace hx462_0 := cU HB hx462_0; replace hx462_1 := cU HB hx462_1; replace p462 := eq_true p462; replace q462 := eq_true q462
       have p463 : 0 ≤ (x6_1 : Int) := tB
       have q463 : x6_1 < (l0_0.length : Int) := tB
       obtain ⟨ad463, e463, hx463_0, hx463_1⟩ := at_T94 HR0_0.out x6_1 p463 q463; have hw463_1 := hx463_1; have hw463_0 := hx463_0
       obtain rfl : ad462 = ad463 := (by injection e463)
       replace hx463_0 := cU HB hx463_0; replace hx463_1 := cU HB hx463_1; replace p463 := eq_true p463; replace q463 := eq_true q463
       refine start_ (n := 15) (S := fun w' => w'.cell? ⟨gb458, 0, none⟩ = some (.slice (some ad462) l0_0.length c0_0) ∧ w'.cell? ⟨gb458, 1, none⟩ = some (.int .i64 a0_1) ∧ w'.cell? (ad462.add (((ji12)).toNat * 2)) = some (.int .i64 ((rd_T94 l0_0 (ji12)).f0)) ∧ w'.cell? ⟨(ad462.add (((ji12)).toNat * 2)).block, (ad462.add (((ji12)).toNat * 2)).off + 1, none⟩ = some (.int .i64 ((rd_T94 l0_0 (ji12)).f1)) ∧ w'.cell? (ad462.add ((x6_1).toNat * 2)) = some (.int .i64 ((rd_T94 l0_0 x6_1).f0)) ∧ w'.cell? ⟨(ad462.add ((x6_1).toNat * 2)).block, (ad462.add ((x6_1).toNat * 2)).off + 1, none⟩ = some (.int .i64 ((rd_T94 l0_0 x6_1).f1))) (ds := []) (bA 15 0) (by kernel_rfl) rfl rfl ⟨(blk_cell BK458.out 0).trans rfl, (blk_cell BK458.out 1).trans rfl, (cU HB hw462_0 :), (cU HB hw462_1 :), (cU HB hw463_0 :), (cU HB hw463_1 :)⟩ (fun hHeld => ?_); refine with_tabW r5_steepest.tab5 r5_steepest.bits5 (fun HT_ HW_ => ?_)
       generalize wr.drew = w21 at BK458 BK459 BK460 BK461 HB hx462_0 hx462_1 hx463_0 hx463_1 hHeld ⊢
       refine pQ 0 (some 17) (bA 15 1) ?_
       refine pQ 2 (some 19) (bA 15 5) ?_
       refine pQ 3 (some 20) (bA 15 13) ?_
       refine pQ 6 (some 23) (bA 15 77) ?_
       refine pQ 8 (some 25) (bA 15 333) ?_
       refine tQ 1 (some 18) (bA 15 335) ?_
       refine pQ 4 (some 21) (bA 15 351) ?_
       refine tQ 5 (some 22) (bA 15 383) ?_
       refine tQ 7 (some 24) (bA 15 511) ?_
       refine pQ 9 (some 26) (bA 15 1023) ?_
       refine tQ 10 (some 27) (bA 15 2047) ?_
       refine join_ (σ := Nat × Nat) 2 (bA 15 8191) (fun s_ => [(7, .pointer (some ⟨s_.1, 0, none⟩)), (8, .pointer (some ⟨s_.2, 0, none⟩))]) (fun s_ w' => (w'.cell? ⟨gb458, 0, none⟩ = some (.slice (some ad462) l0_0.length c0_0) ∧ w'.cell? ⟨gb458, 1, none⟩ = some (.int .i64 a0_1) ∧ w'.cell? (ad462.add (((ji12)).toNat * 2)) = some (.int .i64 ((rd_T94 l0_0 (ji12)).f0)) ∧ w'.cell? ⟨(ad462.add (((ji12)).toNat * 2)).block, (ad462.add (((ji12)).toNat * 2)).off + 1, none⟩ = some (.int .i64 ((rd_T94 l0_0 (ji12)).f1)) ∧ w'.cell? (ad462.add ((x6_1).toNat * 2)) = some (.int .i64 ((rd_T94 l0_0 x6_1).f0)) ∧ w'.cell? ⟨(ad462.add ((x6_1).toNat * 2)).block, (ad462.add ((x6_1).toNat * 2)).off + 1, none⟩ = some (.int .i64 ((rd_T94 l0_0 x6_1).f1))) ∧ (w'.heap[gb458]? = some (.cells #[.slice (some ad462) l0_0.length c0_0, .int .i64 a0_1] 46 (0, 0))) ∧ (w'.heap[gb459]? = some (.cells #[.int .i64 a1_0, .int .i64 a1_1] 27 (0, 0))) ∧ (w'.heap[gb460]? = some (.cells #[.int .i64 0, .int .i64 0] 82 (0, 0))) ∧ (w'.heap[gb461]? = some (.cells #[.int .i64 x462000_1, .int .i64 x462001_1] 82 (0, 0))) ∧ (w'.heap[s_.1]? = some (.cells #[.int .i64 0, .int .i64 0] 94 (0, 0))) ∧ (w'.heap[s_.2]? = some (.cells #[.int .i64 0, .int .i64 0] 94 (0, 0))) ∧ (w.heap.size ≤ s_.1) ∧ (w.heap.size ≤ s_.1) ∧ (gb458 ≠ s_.1) ∧ (s_.1 ≠ gb458) ∧ (gb459 ≠ s_.1) ∧ (s_.1 ≠ gb459) ∧ (gb460 ≠ s_.1) ∧ (s_.1 ≠ gb460) ∧ (gb461 ≠ s_.1) ∧ (s_.1 ≠ gb461) ∧ (s_.2 ≠ s_.1) ∧ (s_.1 ≠ s_.2) ∧ (w.heap.size ≤ s_.2) ∧ (w.heap.size ≤ s_.2) ∧ (gb458 ≠ s_.2) ∧ (s_.2 ≠ gb458) ∧ (gb459 ≠ s_.2) ∧ (s_.2 ≠ gb459) ∧ (gb460 ≠ s_.2) ∧ (s_.2 ≠ gb460) ∧ (gb461 ≠ s_.2) ∧ (s_.2 ≠ gb461) ∧ (Below w.heap.size w w')) ?_ ?_
       rotate_left
       ·intro hCont
        refine two_ (i := 11) (j := 12) (Ni := some 7) (Nj := some 8) (bA 15 4095) (bA 15 6143) rfl rfl rfl rfl (two_of HT_.out (by kernel_rfl)) (by decide) (by decide) (fun K hK => ?_) (fun K hK => ?_)
        ·skip
         refine box_step ?hg (N := 7) ?hd (cs := #[.int .i64 0, .int .i64 0]) (t := 94) ?hr ?_; (case hd => rfl); (case hg => rfl); (case hr => exact tG)
         intro gb464 hg w22 hbox hb
         have BK464 := Sd.mk (hbox); have GW464 := Sd.mk (bSz hg (bBl HB.out)); have GE464 := Sd.mk (bSz hg (bBl HB.out)); replace HB := Sd.mk (below_step (bBl HB.out) hb); have NB458_464 := Sd.mk (bNl hg (bkA BK458.out)); have NB464_458 := Sd.mk (bNg hg (bkA BK458.out)); replace BK458 := Sd.mk (blk_below (bkA BK458.out) hb); have NB459_464 := Sd.mk (bNl hg (bkA BK459.out)); have NB464_459 := Sd.mk (bNg hg (bkA BK459.out)); replace BK459 := Sd.mk (blk_below (bkA BK459.out) hb); have NB460_464 := Sd.mk (bNl hg (bkA BK460.out)); have NB464_460 := Sd.mk (bNg hg (bkA BK460.out)); replace BK460 := Sd.mk (blk_below (bkA BK460.out) hb); have NB461_464 := Sd.mk (bNl hg (bkA BK461.out)); have NB464_461 := Sd.mk (bNg hg (bkA BK461.out)); replace BK461 := Sd.mk (blk_below (bkA BK461.out) hb); clear hb hbox hg
         refine hK.out _ _ ⟨(blk_cell BK458.out 0).trans rfl, (blk_cell BK458.out 1).trans rfl, (cU HB hw462_0 :), (cU HB hw462_1 :), (cU HB hw463_0 :), (cU HB hw463_1 :)⟩ (fun hHeld => ?_)
         clear hK K
         refine norm_ (a' := ?_) ?_ ?_
         rotate_left
         ·show Act.put _ (some 7) _ = _
          exact tP
         refine one_ (i := 12) (N := some 8) (bA 15 8191) rfl rfl (one_of HT_.out (by kernel_rfl)) (by decide) (fun K hK => ?_)
         refine box_step ?hg (N := 8) ?hd (cs := #[.int .i64 0, .int .i64 0]) (t := 94) ?hr ?_; (case hd => rfl); (case hg => rfl); (case hr => exact tG)
         intro gb465 hg w23 hbox hb
         have BK465 := Sd.mk (hbox); have GW465 := Sd.mk (bSz hg (bBl HB.out)); have GE465 := Sd.mk (bSz hg (bBl HB.out)); replace HB := Sd.mk (below_step (bBl HB.out) hb); have NB458_465 := Sd.mk (bNl hg (bkA BK458.out)); have NB465_458 := Sd.mk (bNg hg (bkA BK458.out)); replace BK458 := Sd.mk (blk_below (bkA BK458.out) hb); have NB459_465 := Sd.mk (bNl hg (bkA BK459.out)); have NB465_459 := Sd.mk (bNg hg (bkA BK459.out)); replace BK459 := Sd.mk (blk_below (bkA BK459.out) hb); have NB460_465 := Sd.mk (bNl hg (bkA BK460.out)); have NB465_460 := Sd.mk (bNg hg (bkA BK460.out)); replace BK460 := Sd.mk (blk_below (bkA BK460.out) hb); have NB461_465 := Sd.mk (bNl hg (bkA BK461.out)); have NB465_461 := Sd.mk (bNg hg (bkA BK461.out)); replace BK461 := Sd.mk (blk_below (bkA BK461.out) hb); have NB464_465 := Sd.mk (bNl hg (bkA BK464.out)); have NB465_464 := Sd.mk (bNg hg (bkA BK464.out)); replace BK464 := Sd.mk (blk_below (bkA BK464.out) hb); clear hb hbox hg
         refine hK.out _ _ ⟨(blk_cell BK458.out 0).trans rfl, (blk_cell BK458.out 1).trans rfl, (cU HB hw462_0 :), (cU HB hw462_1 :), (cU HB hw463_0 :), (cU HB hw463_1 :)⟩ (fun hHeld => ?_)
         clear hK K
         refine norm_ (a' := ?_) ?_ ?_
         rotate_left
         ·show Act.put _ (some 8) _ = _
          exact tP
         exact norm_ (by simp only [putAll, Act.put, List.setIfInBounds_toArray, List.set_cons_zero, List.set_cons_succ]) (hCont (gb464, gb465) _ ⟨hHeld, (bkA BK458.out), (bkA BK459.out), (bkA BK460.out), (bkA BK461.out), (bkA BK464.out), (bkA BK465.out), GW464.out, GE464.out, NB458_464.out, NB464_458.out, NB459_464.out, NB464_459.out, NB460_464.out, NB464_460.out, NB461_464.out, NB464_461.out, NB465_464.out, NB464_465.out, GW465.out, GE465.out, NB458_465.out, NB465_458.out, NB459_465.out, NB465_459.out, NB460_465.out, NB465_460.out, NB461_465.out, NB465_461.out, (bBl HB.out)⟩)
        ·skip
         refine box_step ?hg (N := 8) ?hd (cs := #[.int .i64 0, .int .i64 0]) (t := 94) ?hr ?_; (case hd => rfl); (case hg => rfl); (case hr => exact tG)
         intro gb465 hg w22 hbox hb
         have BK465 := Sd.mk (hbox); have GW465 := Sd.mk (bSz hg (bBl HB.out)); have GE465 := Sd.mk (bSz hg (bBl HB.out)); replace HB := Sd.mk (below_step (bBl HB.out) hb); have NB458_465 := Sd.mk (bNl hg (bkA BK458.out)); have NB465_458 := Sd.mk (bNg hg (bkA BK458.out)); replace BK458 := Sd.mk (blk_below (bkA BK458.out) hb); have NB459_465 := Sd.mk (bNl hg (bkA BK459.out)); have NB465_459 := Sd.mk (bNg hg (bkA BK459.out)); replace BK459 := Sd.mk (blk_below (bkA BK459.out) hb); have NB460_465 := Sd.mk (bNl hg (bkA BK460.out)); have NB465_460 := Sd.mk (bNg hg (bkA BK460.out)); replace BK460 := Sd.mk (blk_below (bkA BK460.out) hb); have NB461_465 := Sd.mk (bNl hg (bkA BK461.out)); have NB465_461 := Sd.mk (bNg hg (bkA BK461.out)); replace BK461 := Sd.mk (blk_below (bkA BK461.out) hb); clear hb hbox hg
         refine hK.out _ _ ⟨(blk_cell BK458.out 0).trans rfl, (blk_cell BK458.out 1).trans rfl, (cU HB hw462_0 :), (cU HB hw462_1 :), (cU HB hw463_0 :), (cU HB hw463_1 :)⟩ (fun hHeld => ?_)
         clear hK K
         refine norm_ (a' := ?_) ?_ ?_
         rotate_left
         ·show Act.put _ (some 8) _ = _
          exact tP
         refine one_ (i := 11) (N := some 7) (bA 15 8191) rfl rfl (one_of HT_.out (by kernel_rfl)) (by decide) (fun K hK => ?_)
         refine box_step ?hg (N := 7) ?hd (cs := #[.int .i64 0, .int .i64 0]) (t := 94) ?hr ?_; (case hd => rfl); (case hg => rfl); (case hr => exact tG)
         intro gb464 hg w23 hbox hb
         have BK464 := Sd.mk (hbox); have GW464 := Sd.mk (bSz hg (bBl HB.out)); have GE464 := Sd.mk (bSz hg (bBl HB.out)); replace HB := Sd.mk (below_step (bBl HB.out) hb); have NB458_464 := Sd.mk (bNl hg (bkA BK458.out)); have NB464_458 := Sd.mk (bNg hg (bkA BK458.out)); replace BK458 := Sd.mk (blk_below (bkA BK458.out) hb); have NB459_464 := Sd.mk (bNl hg (bkA BK459.out)); have NB464_459 := Sd.mk (bNg hg (bkA BK459.out)); replace BK459 := Sd.mk (blk_below (bkA BK459.out) hb); have NB460_464 := Sd.mk (bNl hg (bkA BK460.out)); have NB464_460 := Sd.mk (bNg hg (bkA BK460.out)); replace BK460 := Sd.mk (blk_below (bkA BK460.out) hb); have NB461_464 := Sd.mk (bNl hg (bkA BK461.out)); have NB464_461 := Sd.mk (bNg hg (bkA BK461.out)); replace BK461 := Sd.mk (blk_below (bkA BK461.out) hb); have NB465_464 := Sd.mk (bNl hg (bkA BK465.out)); have NB464_465 := Sd.mk (bNg hg (bkA BK465.out)); replace BK465 := Sd.mk (blk_below (bkA BK465.out) hb); clear hb hbox hg
         refine hK.out _ _ ⟨(blk_cell BK458.out 0).trans rfl, (blk_cell BK458.out 1).trans rfl, (cU HB hw462_0 :), (cU HB hw462_1 :), (cU HB hw463_0 :), (cU HB hw463_1 :)⟩ (fun hHeld => ?_)
         clear hK K
         refine norm_ (a' := ?_) ?_ ?_
         rotate_left
         ·show Act.put _ (some 7) _ = _
          exact tP
         exact norm_ (by simp only [putAll, Act.put, List.setIfInBounds_toArray, List.set_cons_zero, List.set_cons_succ]) (hCont (gb464, gb465) _ ⟨hHeld, (bkA BK458.out), (bkA BK459.out), (bkA BK460.out), (bkA BK461.out), (bkA BK464.out), (bkA BK465.out), GW464.out, GE464.out, NB458_464.out, NB464_458.out, NB459_464.out, NB464_459.out, NB460_464.out, NB464_460.out, NB461_464.out, NB464_461.out, NB465_464.out, NB464_465.out, GW465.out, GE465.out, NB458_465.out, NB465_458.out, NB459_465.out, NB465_459.out, NB460_465.out, NB465_460.out, NB461_465.out, NB465_461.out, (bBl HB.out)⟩)
       rintro ⟨gb464, gb465⟩ w24 ⟨hS_, h0_, h1_, h2_, h3_, h4_, h5_, h6_, h7_, h8_, h9_, h10_, h11_, h12_, h13_, h14_, h15_, h16_, h17_, h18_, h19_, h20_, h21_, h22_, h23_, h24_, h25_, h26_, h27_, h28_⟩
       have n0_ : Sd (w24.heap[gb458]? = some (.cells #[.slice (some ad462) l0_0.length c0_0, .int .i64 a0_1] 46 (0, 0))) := ⟨h0_⟩
       have n1_ : Sd (w24.heap[gb459]? = some (.cells #[.int .i64 a1_0, .int .i64 a1_1] 27 (0, 0))) := ⟨h1_⟩
       have n2_ : Sd (w24.heap[gb460]? = some (.cells #[.int .i64 0, .int .i64 0] 82 (0, 0))) := ⟨h2_⟩
       have n3_ : Sd (w24.heap[gb461]? = some (.cells #[.int .i64 x462000_1, .int .i64 x462001_1] 82 (0, 0))) := ⟨h3_⟩
       have n4_ : Sd (w24.heap[gb464]? = some (.cells #[.int .i64 0, .int .i64 0] 94 (0, 0))) := ⟨h4_⟩
       have n5_ : Sd (w24.heap[gb465]? = some (.cells #[.int .i64 0, .int .i64 0] 94 (0, 0))) := ⟨h5_⟩
       have n6_ : Sd (w.heap.size ≤ gb464) := ⟨h6_⟩
       have n7_ : Sd (w.heap.size ≤ gb464) := ⟨h7_⟩
       have n8_ : Sd (gb458 ≠ gb464) := ⟨h8_⟩
       have n9_ : Sd (gb464 ≠ gb458) := ⟨h9_⟩
       have n10_ : Sd (gb459 ≠ gb464) := ⟨h10_⟩
       have n11_ : Sd (gb464 ≠ gb459) := ⟨h11_⟩
       have n12_ : Sd (gb460 ≠ gb464) := ⟨h12_⟩
       have n13_ : Sd (gb464 ≠ gb460) := ⟨h13_⟩
       have n14_ : Sd (gb461 ≠ gb464) := ⟨h14_⟩
       have n15_ : Sd (gb464 ≠ gb461) := ⟨h15_⟩
       have n16_ : Sd (gb465 ≠ gb464) := ⟨h16_⟩
       have n17_ : Sd (gb464 ≠ gb465) := ⟨h17_⟩
       have n18_ : Sd (w.heap.size ≤ gb465) := ⟨h18_⟩
       have n19_ : Sd (w.heap.size ≤ gb465) := ⟨h19_⟩
       have n20_ : Sd (gb458 ≠ gb465) := ⟨h20_⟩
       have n21_ : Sd (gb465 ≠ gb458) := ⟨h21_⟩
       have n22_ : Sd (gb459 ≠ gb465) := ⟨h22_⟩
       have n23_ : Sd (gb465 ≠ gb459) := ⟨h23_⟩
       have n24_ : Sd (gb460 ≠ gb465) := ⟨h24_⟩
       have n25_ : Sd (gb465 ≠ gb460) := ⟨h25_⟩
       have n26_ : Sd (gb461 ≠ gb465) := ⟨h26_⟩
       have n27_ : Sd (gb465 ≠ gb461) := ⟨h27_⟩
       have n28_ : Sd (Below w.heap.size w w24) := ⟨h28_⟩
       clear BK458; clear BK459; clear BK460; clear BK461; clear HB; clear h0_ h1_ h2_ h3_ h4_ h5_ h6_ h7_ h8_ h9_ h10_ h11_ h12_ h13_ h14_ h15_ h16_ h17_ h18_ h19_ h20_ h21_ h22_ h23_ h24_ h25_ h26_ h27_ h28_; have BK458 := n0_; have BK459 := n1_; have BK460 := n2_; have BK461 := n3_; have BK464 := n4_; have BK465 := n5_; have GW464 := n6_; have GE464 := n7_; have NB458_464 := n8_; have NB464_458 := n9_; have NB459_464 := n10_; have NB464_459 := n11_; have NB460_464 := n12_; have NB464_460 := n13_; have NB461_464 := n14_; have NB464_461 := n15_; have NB465_464 := n16_; have NB464_465 := n17_; have GW465 := n18_; have GE465 := n19_; have NB458_465 := n20_; have NB465_458 := n21_; have NB459_465 := n22_; have NB465_459 := n23_; have NB460_465 := n24_; have NB465_460 := n25_; have NB461_465 := n26_; have NB465_461 := n27_; have HB := n28_; clear n0_ n1_ n2_ n3_ n4_ n5_ n6_ n7_ n8_ n9_ n10_ n11_ n12_ n13_ n14_ n15_ n16_ n17_ n18_ n19_ n20_ n21_ n22_ n23_ n24_ n25_ n26_ n27_ n28_
       have hHeld : w24.cell? ⟨gb458, 0, none⟩ = some (.slice (some ad462) l0_0.length c0_0) ∧ w24.cell? ⟨gb458, 1, none⟩ = some (.int .i64 a0_1) ∧ w24.cell? (ad462.add (((ji12)).toNat * 2)) = some (.int .i64 ((rd_T94 l0_0 (ji12)).f0)) ∧ w24.cell? ⟨(ad462.add (((ji12)).toNat * 2)).block, (ad462.add (((ji12)).toNat * 2)).off + 1, none⟩ = some (.int .i64 ((rd_T94 l0_0 (ji12)).f1)) ∧ w24.cell? (ad462.add ((x6_1).toNat * 2)) = some (.int .i64 ((rd_T94 l0_0 x6_1).f0)) ∧ w24.cell? ⟨(ad462.add ((x6_1).toNat * 2)).block, (ad462.add ((x6_1).toNat * 2)).off + 1, none⟩ = some (.int .i64 ((rd_T94 l0_0 x6_1).f1)) := hS_
       refine norm_ (a' := ?_) ?_ ?_
       rotate_left
       ·simp only [putAll, Act.put, List.setIfInBounds_toArray, List.set_cons_zero, List.set_cons_succ]
        rfl
       refine one_ (i := 13) (N := none) (bA 15 16383) rfl rfl (one_of HT_.out (by kernel_rfl)) (by decide) (fun K hK => ?_)
       have hs25 : w24.cell? ⟨gb464, 0, none⟩ = some (.int .i64 0) := (blk_cell BK464.out 0).trans rfl
       have hfs25 := blk_frozen BK464.out 0; have hns25_0 := NB458_464.out; have hns25_1 := NB459_464.out; have hns25_2 := NB460_464.out; have hns25_3 := NB461_464.out; have hns25_5 := NB465_464.out; have hms25_0 := NB464_458.out; have hms25_1 := NB464_459.out; have hms25_2 := NB464_460.out; have hms25_3 := NB464_461.out; have hms25_5 := NB464_465.out
       have hs26 : w24.cell? ⟨gb464, 1, none⟩ = some (.int .i64 0) := (blk_cell BK464.out 1).trans rfl
       have hfs26 := blk_frozen BK464.out 1; have hns26_0 := NB458_464.out; have hns26_1 := NB459_464.out; have hns26_2 := NB460_464.out; have hns26_3 := NB461_464.out; have hns26_5 := NB465_464.out; have hms26_0 := NB464_458.out; have hms26_1 := NB464_459.out; have hms26_2 := NB464_460.out; have hms26_3 := NB464_461.out; have hms26_5 := NB464_465.out
       refine skip_ (w1 := ?_) (by rfl) rfl ?_ ?_
       rotate_left
       ·go_simp
        rfl
       refine hK.out _ _ ⟨((cell_far (p := ⟨gb464, _, none⟩) NB458_464.out _).trans (((cell_far (p := ⟨gb464, _, none⟩) NB458_464.out _).trans (hHeld.1)))), ((cell_far (p := ⟨gb464, _, none⟩) NB458_464.out _).trans (((cell_far (p := ⟨gb464, _, none⟩) NB458_464.out _).trans (hHeld.2.1)))), ((cell_far (p := ⟨gb464, _, none⟩) (nX hw462_0 GW464.out) _).trans (((cell_far (p := ⟨gb464, _, none⟩) (nX hw462_0 GW464.out) _).trans (hHeld.2.2.1)))), ((cell_far (p := ⟨gb464, _, none⟩) (nX hw462_1 GW464.out) _).trans (((cell_far (p := ⟨gb464, _, none⟩) (nX hw462_1 GW464.out) _).trans (hHeld.2.2.2.1)))), ((cell_far (p := ⟨gb464, _, none⟩) (nX hw463_0 GW464.out) _).trans (((cell_far (p := ⟨gb464, _, none⟩) (nX hw463_0 GW464.out) _).trans (hHeld.2.2.2.2.1)))), ((cell_far (p := ⟨gb464, _, none⟩) (nX hw463_1 GW464.out) _).trans (((cell_far (p := ⟨gb464, _, none⟩) (nX hw463_1 GW464.out) _).trans (hHeld.2.2.2.2.2))))⟩ (fun hHeld => ?_)
       clear hK K
       refine one_ (i := 14) (N := none) (bA 15 32767) rfl rfl (one_of HT_.out (by kernel_rfl)) (by decide) (fun K hK => ?_)
       have hs27 : w24.cell? ⟨gb465, 0, none⟩ = some (.int .i64 0) := (blk_cell BK465.out 0).trans rfl
       have hfs27 := blk_frozen BK465.out 0; have hns27_0 := NB458_465.out; have hns27_1 := NB459_465.out; have hns27_2 := NB460_465.out; have hns27_3 := NB461_465.out; have hns27_4 := NB464_465.out; have hms27_0 := NB465_458.out; have hms27_1 := NB465_459.out; have hms27_2 := NB465_460.out; have hms27_3 := NB465_461.out; have hms27_4 := NB465_464.out
       have hs28 : w24.cell? ⟨gb465, 1, none⟩ = some (.int .i64 0) := (blk_cell BK465.out 1).trans rfl
       have hfs28 := blk_frozen BK465.out 1; have hns28_0 := NB458_465.out; have hns28_1 := NB459_465.out; have hns28_2 := NB460_465.out; have hns28_3 := NB461_465.out; have hns28_4 := NB464_465.out; have hms28_0 := NB465_458.out; have hms28_1 := NB465_459.out; have hms28_2 := NB465_460.out; have hms28_3 := NB465_461.out; have hms28_4 := NB465_464.out
       refine skip_ (w1 := ?_) (by rfl) rfl ?_ ?_
       rotate_left
       ·go_simp
        rfl
       refine hK.out _ _ ⟨((cell_far (p := ⟨gb465, _, none⟩) NB458_465.out _).trans (((cell_far (p := ⟨gb465, _, none⟩) NB458_465.out _).trans (hHeld.1)))), ((cell_far (p := ⟨gb465, _, none⟩) NB458_465.out _).trans (((cell_far (p := ⟨gb465, _, none⟩) NB458_465.out _).trans (hHeld.2.1)))), ((cell_far (p := ⟨gb465, _, none⟩) (nX hw462_0 GW465.out) _).trans (((cell_far (p := ⟨gb465, _, none⟩) (nX hw462_0 GW465.out) _).trans (hHeld.2.2.1)))), ((cell_far (p := ⟨gb465, _, none⟩) (nX hw462_1 GW465.out) _).trans (((cell_far (p := ⟨gb465, _, none⟩) (nX hw462_1 GW465.out) _).trans (hHeld.2.2.2.1)))), ((cell_far (p := ⟨gb465, _, none⟩) (nX hw463_0 GW465.out) _).trans (((cell_far (p := ⟨gb465, _, none⟩) (nX hw463_0 GW465.out) _).trans (hHeld.2.2.2.2.1)))), ((cell_far (p := ⟨gb465, _, none⟩) (nX hw463_1 GW465.out) _).trans (((cell_far (p := ⟨gb465, _, none⟩) (nX hw463_1 GW465.out) _).trans (hHeld.2.2.2.2.2))))⟩ (fun hHeld => ?_)
       clear hK K
       refine done_ (done_of HT_.out (by kernel_rfl)) ?_
       go_upto_region 6 with (fail)
       go_cut [46] (fun v46 wc => ∃ (kq : Nat) (x46_15 : Bool), v46 = .bool x46_15 ∧ Sd (r5_steepest.j1 kq x6_1 x46_15 l0_0 a0_1 a1_0 a1_1 x462000_1 x462001_1 ((rd_T94 l0_0 (ji12)).f0) ((rd_T94 l0_0 (ji12)).f1) ((rd_T94 l0_0 x6_1).f0) ((rd_T94 l0_0 x6_1).f1) = some (r1, r2)) ∧ Sd (kq ≤ k1) ∧ Sd (wc.heap[gb458]? = some (.cells #[(.slice (some ad462) l0_0.length c0_0), .int .i64 a0_1] 46 (0, 0))) ∧ Sd (wc.heap[gb459]? = some (.cells #[.int .i64 a1_0, .int .i64 a1_1] 27 (0, 0))) ∧ Sd (wc.heap[gb460]? = some (.cells #[.int .i64 0, .int .i64 0] 82 (0, 0))) ∧ Sd (wc.heap[gb461]? = some (.cells #[.int .i64 x462000_1, .int .i64 x462001_1] 82 (0, 0))) ∧ Sd (wc.heap[gb464]? = some (.cells #[.int .i64 ((rd_T94 l0_0 (ji12)).f0), .int .i64 ((rd_T94 l0_0 (ji12)).f1)] 94 (0, 0))) ∧ Sd (wc.heap[gb465]? = some (.cells #[.int .i64 ((rd_T94 l0_0 x6_1).f0), .int .i64 ((rd_T94 l0_0 x6_1).f1)] 94 (0, 0))) ∧ Sd (Below w.heap.size w wc))
       case first =>
        have H := HC16.out; clear HC16
        by_cases c29 : ((rd_T94 l0_0 x6_1).f1) ≥ ((rd_T94 l0_0 (ji12)).f1)
        ·rw [if_pos c29] at H
         have c29b0 : decide (((rd_T94 l0_0 (ji12)).f1) ≤ ((rd_T94 l0_0 x6_1).f1)) = true := decide_eq_true c29
         clear c29
         (first | rw [c29b0] | (simp only [i64_w, i32_w]; rw [c29b0]) | skip)
         have H' := Sd.mk H; clear H; have hnb30 := NB465_458.out; have hnc30 := NB458_465.out; have hnb31 := NB465_459.out; have hnc31 := NB459_465.out; have hnb32 := NB465_460.out; have hnc32 := NB460_465.out; have hnb33 := NB465_461.out; have hnc33 := NB461_465.out; have hnb34 := NB465_464.out; have hnc34 := NB464_465.out; obtain ⟨u35_0, u35_1, o35_0, o35_1⟩ := bc2 (w := w24) BK465.out; have hnb36 := NB464_458.out; have hnc36 := NB458_464.out; have hnb37 := NB464_459.out; have hnc37 := NB459_464.out; have hnb38 := NB464_460.out; have hnc38 := NB460_464.out; have hnb39 := NB464_461.out; have hnc39 := NB461_464.out; obtain ⟨u40_0, u40_1, o40_0, o40_1⟩ := bc2 (w := w24) BK464.out
         go_wp2
         go_meet
         case rel => exact ⟨_, (true), tS, H', ⟨by have := HK1.out; first | omega | exact Nat.le_refl _⟩, ⟨by refine bkZ ?_; refine blk_far ?_ NB458_465.out _; refine bkZ ?_; refine blk_far ?_ NB458_465.out _; refine bkZ ?_; refine blk_far ?_ NB458_464.out _; refine bkZ ?_; refine blk_far ?_ NB458_464.out _; refine bkZ ?_; exact BK458.out⟩, ⟨by refine bkZ ?_; refine blk_far ?_ NB459_465.out _; refine bkZ ?_; refine blk_far ?_ NB459_465.out _; refine bkZ ?_; refine blk_far ?_ NB459_464.out _; refine bkZ ?_; refine blk_far ?_ NB459_464.out _; refine bkZ ?_; exact BK459.out⟩, ⟨by refine bkZ ?_; refine blk_far ?_ NB460_465.out _; refine bkZ ?_; refine blk_far ?_ NB460_465.out _; refine bkZ ?_; refine blk_far ?_ NB460_464.out _; refine bkZ ?_; refine blk_far ?_ NB460_464.out _; refine bkZ ?_; exact BK460.out⟩, ⟨by refine bkZ ?_; refine blk_far ?_ NB461_465.out _; refine bkZ ?_; refine blk_far ?_ NB461_465.out _; refine bkZ ?_; refine blk_far ?_ NB461_464.out _; refine bkZ ?_; refine blk_far ?_ NB461_464.out _; refine bkZ ?_; exact BK461.out⟩, ⟨by refine bkZ ?_; refine blk_far ?_ NB464_465.out _; refine bkZ ?_; refine blk_far ?_ NB464_465.out _; refine bkZ ?_; refine blk_put (cs := #[.int .i64 ((rd_T94 l0_0 (ji12)).f0), .int .i64 0]) ?_ 1 _ rfl; refine bkZ ?_; refine blk_put (cs := #[.int .i64 0, .int .i64 0]) ?_ 0 _ rfl; refine bkZ ?_; exact BK464.out⟩, ⟨by refine bkZ ?_; refine blk_put (cs := #[.int .i64 ((rd_T94 l0_0 x6_1).f0), .int .i64 0]) ?_ 1 _ rfl; refine bkZ ?_; refine blk_put (cs := #[.int .i64 0, .int .i64 0]) ?_ 0 _ rfl; refine bkZ ?_; refine blk_far ?_ NB465_464.out _; refine bkZ ?_; refine blk_far ?_ NB465_464.out _; refine bkZ ?_; exact BK465.out⟩, ⟨bBl HB.out⟩⟩
        ·rw [if_neg c29] at H
         have c29b0 : decide (((rd_T94 l0_0 (ji12)).f1) ≤ ((rd_T94 l0_0 x6_1).f1)) = false := decide_eq_false c29
         clear c29
         (first | rw [c29b0] | (simp only [i64_w, i32_w]; rw [c29b0]) | skip)
         by_cases c41 : ((rd_T94 l0_0 x6_1).f1) > a1_1
         ·rw [if_pos c41] at H
          have c41b0 : decide (a1_1 < ((rd_T94 l0_0 x6_1).f1)) = true := decide_eq_true c41
          clear c41; have H' := Sd.mk H; clear H; have hnb42 := NB465_458.out; have hnc42 := NB458_465.out; have hnb43 := NB465_459.out; have hnc43 := NB459_465.out; have hnb44 := NB465_460.out; have hnc44 := NB460_465.out; have hnb45 := NB465_461.out; have hnc45 := NB461_465.out; have hnb46 := NB465_464.out; have hnc46 := NB464_465.out; obtain ⟨u47_0, u47_1, o47_0, o47_1⟩ := bc2 (w := w24) BK465.out; have hnb48 := NB464_458.out; have hnc48 := NB458_464.out; have hnb49 := NB464_459.out; have hnc49 := NB459_464.out; have hnb50 := NB464_460.out; have hnc50 := NB460_464.out; have hnb51 := NB464_461.out; have hnc51 := NB461_464.out; obtain ⟨u52_0, u52_1, o52_0, o52_1⟩ := bc2 (w := w24) BK464.out; have hnb53 := NB459_458.out; have hnc53 := NB458_459.out; have hnb54 := NB459_460.out; have hnc54 := NB460_459.out; have hnb55 := NB459_461.out; have hnc55 := NB461_459.out; obtain ⟨u56_0, u56_1, o56_0, o56_1⟩ := bc2 (w := w24) BK459.out
          go_wp2
          go_meet
          case rel => exact ⟨_, (true), tS, H', ⟨by have := HK1.out; first | omega | exact Nat.le_refl _⟩, ⟨by refine bkZ ?_; refine blk_far ?_ NB458_465.out _; refine bkZ ?_; refine blk_far ?_ NB458_465.out _; refine bkZ ?_; refine blk_far ?_ NB458_464.out _; refine bkZ ?_; refine blk_far ?_ NB458_464.out _; refine bkZ ?_; exact BK458.out⟩, ⟨by refine bkZ ?_; refine blk_far ?_ NB459_465.out _; refine bkZ ?_; refine blk_far ?_ NB459_465.out _; refine bkZ ?_; refine blk_far ?_ NB459_464.out _; refine bkZ ?_; refine blk_far ?_ NB459_464.out _; refine bkZ ?_; exact BK459.out⟩, ⟨by refine bkZ ?_; refine blk_far ?_ NB460_465.out _; refine bkZ ?_; refine blk_far ?_ NB460_465.out _; refine bkZ ?_; refine blk_far ?_ NB460_464.out _; refine bkZ ?_; refine blk_far ?_ NB460_464.out _; refine bkZ ?_; exact BK460.out⟩, ⟨by refine bkZ ?_; refine blk_far ?_ NB461_465.out _; refine bkZ ?_; refine blk_far ?_ NB461_465.out _; refine bkZ ?_; refine blk_far ?_ NB461_464.out _; refine bkZ ?_; refine blk_far ?_ NB461_464.out _; refine bkZ ?_; exact BK461.out⟩, ⟨by refine bkZ ?_; refine blk_far ?_ NB464_465.out _; refine bkZ ?_; refine blk_far ?_ NB464_465.out _; refine bkZ ?_; refine blk_put (cs := #[.int .i64 ((rd_T94 l0_0 (ji12)).f0), .int .i64 0]) ?_ 1 _ rfl; refine bkZ ?_; refine blk_put (cs := #[.int .i64 0, .int .i64 0]) ?_ 0 _ rfl; refine bkZ ?_; exact BK464.out⟩, ⟨by refine bkZ ?_; refine blk_put (cs := #[.int .i64 ((rd_T94 l0_0 x6_1).f0), .int .i64 0]) ?_ 1 _ rfl; refine bkZ ?_; refine blk_put (cs := #[.int .i64 0, .int .i64 0]) ?_ 0 _ rfl; refine bkZ ?_; refine blk_far ?_ NB465_464.out _; refine bkZ ?_; refine blk_far ?_ NB465_464.out _; refine bkZ ?_; exact BK465.out⟩, ⟨bBl HB.out⟩⟩
         ·rw [if_neg c41] at H
          have c41b0 : decide (a1_1 < ((rd_T94 l0_0 x6_1).f1)) = false := decide_eq_false c41
          clear c41; have H' := Sd.mk H; clear H; have hnb57 := NB465_458.out; have hnc57 := NB458_465.out; have hnb58 := NB465_459.out; have hnc58 := NB459_465.out; have hnb59 := NB465_460.out; have hnc59 := NB460_465.out; have hnb60 := NB465_461.out; have hnc60 := NB461_465.out; have hnb61 := NB465_464.out; have hnc61 := NB464_465.out; obtain ⟨u62_0, u62_1, o62_0, o62_1⟩ := bc2 (w := w24) BK465.out; have hnb63 := NB464_458.out; have hnc63 := NB458_464.out; have hnb64 := NB464_459.out; have hnc64 := NB459_464.out; have hnb65 := NB464_460.out; have hnc65 := NB460_464.out; have hnb66 := NB464_461.out; have hnc66 := NB461_464.out; obtain ⟨u67_0, u67_1, o67_0, o67_1⟩ := bc2 (w := w24) BK464.out; have hnb68 := NB459_458.out; have hnc68 := NB458_459.out; have hnb69 := NB459_460.out; have hnc69 := NB460_459.out; have hnb70 := NB459_461.out; have hnc70 := NB461_459.out; obtain ⟨u71_0, u71_1, o71_0, o71_1⟩ := bc2 (w := w24) BK459.out
          go_wp2
          go_meet
          case rel => exact ⟨_, (decide (((rd_T94 l0_0 (ji12)).f1) < a1_0)), (by first | rfl | (simp; done) | (simp only [← hji12] <;> (first | rfl | simp)) | (simp [*]; done)), H', ⟨by have := HK1.out; first | omega | exact Nat.le_refl _⟩, ⟨by refine bkZ ?_; refine blk_far ?_ NB458_465.out _; refine bkZ ?_; refine blk_far ?_ NB458_465.out _; refine bkZ ?_; refine blk_far ?_ NB458_464.out _; refine bkZ ?_; refine blk_far ?_ NB458_464.out _; refine bkZ ?_; exact BK458.out⟩, ⟨by refine bkZ ?_; refine blk_far ?_ NB459_465.out _; refine bkZ ?_; refine blk_far ?_ NB459_465.out _; refine bkZ ?_; refine blk_far ?_ NB459_464.out _; refine bkZ ?_; refine blk_far ?_ NB459_464.out _; refine bkZ ?_; exact BK459.out⟩, ⟨by refine bkZ ?_; refine blk_far ?_ NB460_465.out _; refine bkZ ?_; refine blk_far ?_ NB460_465.out _; refine bkZ ?_; refine blk_far ?_ NB460_464.out _; refine bkZ ?_; refine blk_far ?_ NB460_464.out _; refine bkZ ?_; exact BK460.out⟩, ⟨by refine bkZ ?_; refine blk_far ?_ NB461_465.out _; refine bkZ ?_; refine blk_far ?_ NB461_465.out _; refine bkZ ?_; refine blk_far ?_ NB461_464.out _; refine bkZ ?_; refine blk_far ?_ NB461_464.out _; refine bkZ ?_; exact BK461.out⟩, ⟨by refine bkZ ?_; refine blk_far ?_ NB464_465.out _; refine bkZ ?_; refine blk_far ?_ NB464_465.out _; refine bkZ ?_; refine blk_put (cs := #[.int .i64 ((rd_T94 l0_0 (ji12)).f0), .int .i64 0]) ?_ 1 _ rfl; refine bkZ ?_; refine blk_put (cs := #[.int .i64 0, .int .i64 0]) ?_ 0 _ rfl; refine bkZ ?_; exact BK464.out⟩, ⟨by refine bkZ ?_; refine blk_put (cs := #[.int .i64 ((rd_T94 l0_0 x6_1).f0), .int .i64 0]) ?_ 1 _ rfl; refine bkZ ?_; refine blk_put (cs := #[.int .i64 0, .int .i64 0]) ?_ 0 _ rfl; refine bkZ ?_; refine blk_far ?_ NB465_464.out _; refine bkZ ?_; refine blk_far ?_ NB465_464.out _; refine bkZ ?_; exact BK465.out⟩, ⟨bBl HB.out⟩⟩
       case rest =>
        clear HC16; (try clear c2); (try clear p2); (try clear c3); (try clear c4); (try clear p4); (try clear q4); (try clear hx4); (try clear c5); (try clear c6); (try clear c7); (try clear c29); (try clear c29b0); (try clear c30); (try clear c31); (try clear c32); (try clear c33); (try clear c34); (try clear c36); (try clear c37); (try clear c38); (try clear c39); (try clear c41); (try clear c41b0); (try clear c42); (try clear c43); (try clear c44); (try clear c45); (try clear c46); (try clear p46); (try clear q46); (try clear hx46); (try clear c48); (try clear c49); (try clear c50); (try clear c51); (try clear c53); (try clear c54); (try clear c55); (try clear c57); (try clear c58); (try clear c59); (try clear c60); (try clear c61); (try clear c63); (try clear c64); (try clear c65); (try clear c66); (try clear c68); (try clear c69); (try clear c70); (try clear u35_0 u35_1); (try clear u40_0 u40_1); (try clear u47_0 u47_1); (try clear u52_0 u52_1); (try clear u56_0 u56_1); (try clear u62_0 u62_1); (try clear u67_0 u67_1); (try clear u71_0 u71_1); (try clear o35_0 o35_1); (try clear o40_0 o40_1); (try clear o47_0 o47_1); (try clear o52_0 o52_1); (try clear o56_0 o56_1); (try clear o62_0 o62_1); (try clear o67_0 o67_1); (try clear o71_0 o71_1); (try clear hx462_0); (try clear hx462_1); (try clear hx463_0); (try clear hx463_1); (try clear p462); (try clear p463); (try clear q462); (try clear q463); obtain ⟨kq, x46_15, rfl, HA, HJ15, BK458, BK459, BK460, BK461, BK464, BK465, HB⟩ := hcut
        cases kq with
        | zero => exact absurd HA.out (by simp [r5_steepest.j1])
        | succ kj15 =>
         have H := HA.out; clear HA
         simp only [r5_steepest.j1] at H
         by_cases c72 : x46_15 = true
         ·subst c72
          have H1 : (r5_steepest.l0 kj15 (wrap64 (x6_1 + 1)) l0_0 a0_1 a1_0 a1_1 x462000_1 x462001_1) = some (r1, r2) := by rw [if_pos rfl] at H; exact H
          clear H; have H := H1; clear H1; have H' := Sd.mk H; clear H
          go_wp2
          go_roundg kj15
          case measure => have := HK1.out; have := HJ15.out; omega
          case rel => exact ⟨(wrap64 (x6_1 + 1)), (x462000_1), (x462001_1), tS, H', ⟨by have := HK1.out; have := HJ15.out; omega⟩, ⟨bkA BK458.out⟩, ⟨bkA BK459.out⟩, ⟨bkA BK460.out⟩, ⟨bkA BK461.out⟩, ⟨bBl HB.out⟩⟩
         ·replace c72 := Bool.eq_false_iff.mpr c72
          subst c72
          have H1 : (if (wrap64 ((wrap64 (((rd_T94 l0_0 (ji12)).f1) - ((rd_T94 l0_0 x6_1).f1))) * x462001_1)) > (wrap64 (x462000_1 * (wrap64 (((rd_T94 l0_0 x6_1).f0) - ((rd_T94 l0_0 (ji12)).f0))))) then ((r5_lowest.f kj15 (wrap64 (((rd_T94 l0_0 (ji12)).f1) - ((rd_T94 l0_0 x6_1).f1))) (wrap64 (((rd_T94 l0_0 x6_1).f0) - ((rd_T94 l0_0 (ji12)).f0)))).bind fun bt466 => (r5_steepest.l0 kj15 (wrap64 (x6_1 + 1)) l0_0 a0_1 a1_0 a1_1 bt466.1 bt466.2)) else (r5_steepest.l0 kj15 (wrap64 (x6_1 + 1)) l0_0 a0_1 a1_0 a1_1 x462000_1 x462001_1)) = some (r1, r2) := by rw [if_neg (show ¬ (false = true) by decide)] at H; exact H
          clear H; have H := H1; clear H1
          by_cases c73 : (wrap64 ((wrap64 (((rd_T94 l0_0 (ji12)).f1) - ((rd_T94 l0_0 x6_1).f1))) * x462001_1)) > (wrap64 (x462000_1 * (wrap64 (((rd_T94 l0_0 x6_1).f0) - ((rd_T94 l0_0 (ji12)).f0)))))
          ·rw [if_pos c73] at H
           have c73b0 : decide ((wrap64 (x462000_1 * (wrap64 (((rd_T94 l0_0 x6_1).f0) - ((rd_T94 l0_0 (ji12)).f0))))) < (wrap64 ((wrap64 (((rd_T94 l0_0 (ji12)).f1) - ((rd_T94 l0_0 x6_1).f1))) * x462001_1))) = true := decide_eq_true c73
           clear c73; replace H := Option.bind_eq_some_iff.mp H
           obtain ⟨⟨t466, t467⟩, A740, H⟩ := H
           try dsimp only at H
           have A74 := Sd.mk A740; clear A740; have H' := Sd.mk H; clear H; have hnb75 := NB464_458.out; have hnc75 := NB458_464.out; have hnb76 := NB464_459.out; have hnc76 := NB459_464.out; have hnb77 := NB464_460.out; have hnc77 := NB460_464.out; have hnb78 := NB464_461.out; have hnc78 := NB461_464.out; have hnb79 := NB464_465.out; have hnc79 := NB465_464.out; obtain ⟨u80_0, u80_1, o80_0, o80_1⟩ := bc2 (w := wc) BK464.out; have hnb81 := NB465_458.out; have hnc81 := NB458_465.out; have hnb82 := NB465_459.out; have hnc82 := NB459_465.out; have hnb83 := NB465_460.out; have hnc83 := NB460_465.out; have hnb84 := NB465_461.out; have hnc84 := NB461_465.out; obtain ⟨u85_0, u85_1, o85_0, o85_1⟩ := bc2 (w := wc) BK465.out; have hnb86 := NB461_458.out; have hnc86 := NB458_461.out; have hnb87 := NB461_459.out; have hnc87 := NB459_461.out; have hnb88 := NB461_460.out; have hnc88 := NB460_461.out; obtain ⟨u89_0, u89_1, o89_0, o89_1⟩ := bc2 (w := wc) BK461.out
           go_wp2_with (first | ((with_reducible refine gate_callee (f := 160) rfl ?_); refine goesL_ (some 74) rfl rfl Tryz.func160 (by kernel_rfl) rfl #[.int .i64 (wrap64 (((rd_T94 l0_0 (ji12)).f1) - ((rd_T94 l0_0 x6_1).f1))), .int .i64 (wrap64 (((rd_T94 l0_0 x6_1).f0) - ((rd_T94 l0_0 (ji12)).f0)))] rfl (by (try simp only [List.map_toArray, List.map_cons, List.map_nil]); first | done | (simp only [hji12]; rfl) | rfl | (simp only [List.length_drop, List.length_take]; rfl)) ?_; (with_reducible refine (r5_lowest.calls kj15 (wrap64 (((rd_T94 l0_0 (ji12)).f1) - ((rd_T94 l0_0 x6_1).f1))) (wrap64 (((rd_T94 l0_0 x6_1).f0) - ((rd_T94 l0_0 (ji12)).f0))) t466 t467 _ A74.out).mono ?_); rintro e w90 ⟨rfl, hb⟩; refine ⟨_, rfl, ?_⟩; replace BK458 := Sd.mk (blk_below (bkA BK458.out) hb); replace BK459 := Sd.mk (blk_below (bkA BK459.out) hb); replace BK460 := Sd.mk (blk_below (bkA BK460.out) hb); replace BK461 := Sd.mk (blk_below (bkA BK461.out) hb); replace BK464 := Sd.mk (blk_below (bkA BK464.out) hb); replace BK465 := Sd.mk (blk_below (bkA BK465.out) hb); replace HB := Sd.mk (below_step (bBl HB.out) hb); (try clear hb); (try clear hb2); (try clear hk); (try clear hi); obtain ⟨u91_0, u91_1, o91_0, o91_1⟩ := bc2 (w := w90) BK461.out))
           go_roundg kj15
           case measure => have := HK1.out; have := HJ15.out; omega
           case rel => exact ⟨(wrap64 (x6_1 + 1)), (t466), (t467), tS, H', ⟨by have := HK1.out; have := HJ15.out; omega⟩, ⟨by refine bkZ ?_; refine blk_far ?_ NB458_461.out _; refine bkZ ?_; refine blk_far ?_ NB458_461.out _; refine bkZ ?_; exact BK458.out⟩, ⟨by refine bkZ ?_; refine blk_far ?_ NB459_461.out _; refine bkZ ?_; refine blk_far ?_ NB459_461.out _; refine bkZ ?_; exact BK459.out⟩, ⟨by refine bkZ ?_; refine blk_far ?_ NB460_461.out _; refine bkZ ?_; refine blk_far ?_ NB460_461.out _; refine bkZ ?_; exact BK460.out⟩, ⟨by refine bkZ ?_; refine blk_put (cs := #[.int .i64 t466, .int .i64 x462001_1]) ?_ 1 _ rfl; refine bkZ ?_; refine blk_put (cs := #[.int .i64 x462000_1, .int .i64 x462001_1]) ?_ 0 _ rfl; refine bkZ ?_; exact BK461.out⟩, ⟨bBl HB.out⟩⟩
          ·rw [if_neg c73] at H
           have c73b0 : decide ((wrap64 (x462000_1 * (wrap64 (((rd_T94 l0_0 x6_1).f0) - ((rd_T94 l0_0 (ji12)).f0))))) < (wrap64 ((wrap64 (((rd_T94 l0_0 (ji12)).f1) - ((rd_T94 l0_0 x6_1).f1))) * x462001_1))) = false := decide_eq_false c73
           clear c73; have H' := Sd.mk H; clear H; have hnb92 := NB464_458.out; have hnc92 := NB458_464.out; have hnb93 := NB464_459.out; have hnc93 := NB459_464.out; have hnb94 := NB464_460.out; have hnc94 := NB460_464.out; have hnb95 := NB464_461.out; have hnc95 := NB461_464.out; have hnb96 := NB464_465.out; have hnc96 := NB465_464.out; obtain ⟨u97_0, u97_1, o97_0, o97_1⟩ := bc2 (w := wc) BK464.out; have hnb98 := NB465_458.out; have hnc98 := NB458_465.out; have hnb99 := NB465_459.out; have hnc99 := NB459_465.out; have hnb100 := NB465_460.out; have hnc100 := NB460_465.out; have hnb101 := NB465_461.out; have hnc101 := NB461_465.out; obtain ⟨u102_0, u102_1, o102_0, o102_1⟩ := bc2 (w := wc) BK465.out; have hnb103 := NB461_458.out; have hnc103 := NB458_461.out; have hnb104 := NB461_459.out; have hnc104 := NB459_461.out; have hnb105 := NB461_460.out; have hnc105 := NB460_461.out; obtain ⟨u106_0, u106_1, o106_0, o106_1⟩ := bc2 (w := wc) BK461.out
           go_wp2
           go_roundg kj15
           case measure => have := HK1.out; have := HJ15.out; omega
           case rel => exact ⟨(wrap64 (x6_1 + 1)), (x462000_1), (x462001_1), tS, H', ⟨by have := HK1.out; have := HJ15.out; omega⟩, ⟨bkA BK458.out⟩, ⟨bkA BK459.out⟩, ⟨bkA BK460.out⟩, ⟨bkA BK461.out⟩, ⟨bBl HB.out⟩⟩
      ·rw [if_neg c15] at H
       exact absurd H (by simp)
     ·rw [if_neg c14] at H
      exact absurd H (by simp)
    ·rw [if_neg c13] at H
     exact absurd H (by simp)
   ·rw [if_neg c11] at H
    have c11b0 : decide (x6_1 < (l0_0.length : Int)) = false := decide_eq_false c11
    clear c11
    simp only [Option.some.injEq, Prod.mk.injEq] at H
    obtain ⟨rfl, rfl⟩ := H; have hnb107 := NB458_459.out; have hnc107 := NB459_458.out; have hnb108 := NB458_460.out; have hnc108 := NB460_458.out; have hnb109 := NB458_461.out; have hnc109 := NB461_458.out; obtain ⟨u110_0, u110_1, o110_0, o110_1⟩ := bc2 (w := wr) BK458.out; have hnb111 := NB461_459.out; have hnc111 := NB459_461.out; have hnb112 := NB461_460.out; have hnc112 := NB460_461.out; obtain ⟨u113_0, u113_1, o113_0, o113_1⟩ := bc2 (w := wr) BK461.out; have hnb114 := NB460_459.out; have hnc114 := NB459_460.out; obtain ⟨u115_0, u115_1, o115_0, o115_1⟩ := bc2 (w := wr) BK460.out
    go_wp2
    refine bodyPost_ret (results_cell_row rfl _ _ gb460 82 #[.int .i64 x462000_1, .int .i64 x462001_1] (0, 0) _ rfl (by refine bkZ ?_; refine blk_put (cs := #[.int .i64 x462000_1, .int .i64 0]) ?_ 1 _ rfl; refine bkZ ?_; refine blk_put (cs := #[.int .i64 0, .int .i64 0]) ?_ 0 _ rfl; refine bkZ ?_; exact BK460.out) Tryz.underlying82 rfl (by kernel_rfl)) rfl ?_
    exact ⟨tE, bBl HB.out⟩
end
section
section
variable {P : Program} {ops : Array Oper} {rest : List Oper} {o : Oper} {a : Act} {Q : Exit → Act → World → Prop} {w : World}
theorem wp_loadrow_a (t : TypeId) (x : Operand) (ad : Addr) (v : Value) (hw : Region.wanted o (yielded ops a.tmps) = true) (ho : o.op = .load t x) (hx : a.eval x = .pointer (some ad)) (hr : (loadVar t ad).run P w = .ok v w) (h : wpList P ops Q rest (a.put o.dst v) w) : wpList P ops Q (o :: rest) a w := by
 refine wpList_step fun K hK => ?_
 rw [if_pos hw]
 unfold Oper.wp execOp
 simp only [ho, hx]
 simp only [Instr.loadAt, Instr.sureAddr, asAddr, Sem.run_bind, Sem.run_pure, hr, Result.andThen]
 exact hK _ _ h
end
section
variable {P : Program} {ops : Array Oper} {Q : Exit → Act → World → Prop} {md : Region.Mode} {S : World → Prop} {ds : List Nat} {T : Bool × List (List Nat × List Nat)} {oi : Oper} {fuel : Nat} {l : Array Bool} {a a' : Act} {w : World}
theorem pN (i : Nat) (N : Option Tmp) (l' : Array Bool) (h : wpAnyLast P md ops Q S ds fuel l' a' w) (hT : Sd (rtab md ops = T) := by assumption) (hi : ops[i]? = some oi := by rfl) (hN : oi.dst = N := by rfl) (hc : anyT T l.toList l'.toList i = true := by kernel_rfl)
  (hQ : ∀ c a w, Q (.panic c) (a.put oi.dst undef) w → Q (.panic c) a w := by exact fun _ _ _ h => h) (h1 : Region.wanted oi (yielded ops a.tmps) = false := by rfl)
  (ha : a.put N undef = a' := by simp only [Act.put, List.setIfInBounds_toArray, List.set_cons_zero, List.set_cons_succ, i64_w, i32_w]; rfl) : wpAnyLast P md ops Q S ds (fuel + 1) l a w :=
 pure_ l' hi hN (any_of hT.out hc) hQ (Or.inr ⟨h1, rfl⟩) ha h
end
def r5_Anneals.f (k : Nat) (l0_0 : List (S94)) (a0_1 : Int) (l1_0 : List ByteArray) (l1_1 : List (S70)) (l1_2 : List (S27)) (l1_3 : List (S89)) (a1_4 : Int) (a1_5 : Int) (a1_6 : Int) (l2 : List Int) (a3 : Int) (a4 : Int) (a5 : Int) (a6 : Int) (a7 : Int) : Option (Bool × Int) :=
 if lehrV l0_0 a0_1 = 0 then (rf_Value.f k l1_0 l1_1 l1_2 l1_3 a1_4 a1_5 a1_6 l2 a3).bind fun v => if v.2.2 = 0 then (if annB a4 a5 a6 a7 = true then (if (decide (a4 ≤ v.1) && decide (v.2.1 ≤ 10000)) = true then (r5_held.f k l0_0 a0_1 v.2.1).bind fun h => if a5 ≤ h then (r5_steepest.f k l0_0 a0_1 (wrap64 (v.1 - a4)) v.2.1).bind fun q => (r5_strain.f l0_0 a0_1 q.1 q.2 a6).bind fun s => some (decide (s ≤ a7), 0) else some (false, 0) else some (false, 9)) else some (false, 1)) else some (false, v.2.2) else some (false, lehrV l0_0 a0_1)
def rannT : Bool × List (List Nat × List Nat) := (true, [([], []), ([], []), ([1], [1]), ([0, 2], [0, 2]), ([], []), ([3, 4], [3, 4]), ([5, 3], [5]), ([6], [6]), ([6], [6]), ([6], [6]), ([9, 6], [6, 9]), ([6], [6]), ([10, 11, 6], [6, 10, 11]), ([6], [6]), ([13, 6], [6, 13]), ([12, 14, 6], [6, 12, 14]), ([8, 15, 6, 6], [6, 8, 15]), ([6], [6]), ([7, 16, 17, 16, 6], [6, 7, 16, 17]), ([6], [6]), ([18, 19, 6], [6, 18, 19]), ([6, 20], [6, 20]), ([21, 18, 0, 1, 2, 3, 4, 5, 6, 7, 8, 9, 10, 11, 12, 13, 14, 15, 16, 17, 18, 19, 20, 21], [21]), ([22, 0, 1, 2, 3, 4, 5, 6, 7, 8, 9, 10, 11, 12, 13, 14, 15, 16, 17, 18, 19, 20, 21, 22], [])])
def rannB : List Nat := [0, 0, 2, 7, 0, 31, 63, 127, 127, 127, 639, 127, 3711, 127, 8319, 32383, 65407, 127, 262143, 127, 1048575, 2097151, 4194303, 8388607]
theorem rann_tab : rtab .any (opsOf Tryz.f24 11) = rannT := by kernel_rfl
theorem rann_bits : waitsOk rannT.2 rannB = true := by kernel_rfl
theorem r5_Anneals.calls (k : Nat) (A0_0 : Option Addr) (c0_0 : Nat) (l0_0 : List (S94)) (a0_1 : Int) (A1_0 : Option Addr) (c1_0 : Nat) (l1_0 : List ByteArray) (A1_1 : Option Addr) (c1_1 : Nat) (l1_1 : List (S70)) (A1_2 : Option Addr) (c1_2 : Nat) (l1_2 : List (S27)) (A1_3 : Option Addr) (c1_3 : Nat) (l1_3 : List (S89)) (a1_4 : Int) (a1_5 : Int) (a1_6 : Int) (A2 : Option Addr) (c2 : Nat) (l2 : List Int) (a3 : Int) (a4 : Int) (a5 : Int) (a6 : Int) (a7 : Int) (r1 : Bool) (r2 : Int) (w : World) (hr0_0 : Kd.C k94 w A0_0 l0_0.length l0_0) (hc0_0 : l0_0.length ≤ c0_0) (hr1_0 : Kd.C Kd.string w A1_0 l1_0.length l1_0) (hc1_0 : l1_0.length ≤ c1_0) (hr1_1 : Kd.C k70 w A1_1 l1_1.length l1_1) (hc1_1 : l1_1.length ≤ c1_1) (hr1_2 : Kd.C k27 w A1_2 l1_2.length l1_2) (hc1_2 : l1_2.length ≤ c1_2) (hr1_3 : Kd.C k89 w A1_3 l1_3.length l1_3) (hc1_3 : l1_3.length ≤ c1_3) (hr2 : Kd.C (Kd.int .i64) w A2 l2.length l2) (hc2 : l2.length ≤ c2) (h : r5_Anneals.f k l0_0 a0_1 l1_0 l1_1 l1_2 l1_3 a1_4 a1_5 a1_6 l2 a3 a4 a5 a6 a7 = some (r1, r2)) :
  Calls Tryz.prog 24 #[.agg #[.slice A0_0 l0_0.length c0_0, .int .i64 a0_1], .agg #[.slice A1_0 l1_0.length c1_0, .slice A1_1 l1_1.length c1_1, .slice A1_2 l1_2.length c1_2, .slice A1_3 l1_3.length c1_3, .int .i64 a1_4, .int .i64 a1_5, .int .i64 a1_6], .slice A2 l2.length c2, .int .i64 a3, .int .i64 a4, .int .i64 a5, .int .i64 a6, .int .i64 a7] w fun e w' => e = .returned (.tuple #[.bool r1, .int .i64 r2]) ∧ Below w.heap.size w w' := by
 obtain ⟨b1, b2, hb0, hsz⟩ := blk_two w (.cells #[.slice A0_0 l0_0.length c0_0, .int .i64 a0_1] 46) (.cells #[.slice A1_0 l1_0.length c1_0, .slice A1_1 l1_1.length c1_1, .slice A1_2 l1_2.length c1_2, .slice A1_3 l1_3.length c1_3, .int .i64 a1_4, .int .i64 a1_5, .int .i64 a1_6] 29)
 have BL := Sd.mk b1
 have BB := Sd.mk b2
 have HB := Sd.mk hb0
 have HR0 := Sd.mk hr0_0
 have HC0 := Sd.mk hc0_0
 clear hr0_0 hc0_0
 have HR10 := Sd.mk hr1_0
 have HC10 := Sd.mk hc1_0
 clear hr1_0 hc1_0
 have HR11 := Sd.mk hr1_1
 have HC11 := Sd.mk hc1_1
 clear hr1_1 hc1_1
 have HR12 := Sd.mk hr1_2
 have HC12 := Sd.mk hc1_2
 clear hr1_2 hc1_2
 have HR13 := Sd.mk hr1_3
 have HC13 := Sd.mk hc1_3
 clear hr1_3 hc1_3
 have HR2 := Sd.mk hr2
 have HC2 := Sd.mk hc2
 clear hr2 hc2
 clear b1 b2 hb0 hsz
 have HLL := Sd.mk (run_loadVar_row (P := Tryz.prog) _ _ 46 46 _ (0, 0) _ BL.out Tryz.underlying46 rfl (by kernel_rfl))
 unfold r5_Anneals.f at h
 by_cases h0 : lehrV l0_0 a0_1 = 0
 ·rw [if_pos h0] at h
  have H0 := Sd.mk h0
  clear h0
  obtain ⟨⟨v1, v2, ve⟩, hv, h⟩ := Option.bind_eq_some_iff.mp h
  have HV := Sd.mk hv
  clear hv
  simp only at h
  go_enter Tryz.func24, Tryz.ntmps24
  by_cases hve : ve = 0
  ·subst hve
   rw [if_pos rfl] at h
   have HH := Sd.mk h
   clear h
   go_upto_region 7 with (first | (refine wp_loadrow_a 46 _ _ _ (by go_simp) rfl rfl HLL.out ?_) | (refine wp_loadrow_a 29 _ _ _ (by go_simp) rfl rfl HLB.out ?_) | (go_at_call 76; (with_reducible refine (rLehr_calls A0_0 c0_0 l0_0 a0_1 _ (Kd.C_below HR0.out HB.out)).mono ?_); (try rw [H0.out]); rintro e w1 ⟨rfl, hb⟩ ; have BL1 := Sd.mk (blk_below BL.out hb); have BB1 := Sd.mk (blk_below BB.out hb); have HB1 := Sd.mk (below_then HB.out HB.out.size hb); clear hb HLL; have HLB := Sd.mk (run_loadVar_row (P := Tryz.prog) _ _ 29 29 _ (0, 0) _ BB1.out Tryz.underlying29 rfl (by kernel_rfl))) | (go_at_call 69; (with_reducible refine (rf_Value.calls k A1_0 c1_0 l1_0 A1_1 c1_1 l1_1 A1_2 c1_2 l1_2 A1_3 c1_3 l1_3 a1_4 a1_5 a1_6 A2 c2 l2 a3 v1 v2 _ _ (Kd.C_below HR10.out HB1.out) HC10.out (Kd.C_below HR11.out HB1.out) HC11.out (Kd.C_below HR12.out HB1.out) HC12.out (Kd.C_below HR13.out HB1.out) HC13.out (Kd.C_below HR2.out HB1.out) HC2.out HV.out).mono ?_); rintro e w2 ⟨rfl, hb⟩; have BL2 := Sd.mk (blk_alloc (blk_below BL1.out hb) (.cells #[.int .i64 v1, .int .i64 v2] 27)); have BV := Sd.mk (blk_new w2 (.cells #[.int .i64 v1, .int .i64 v2] 27)); have HB2 := Sd.mk (below_alloc (below_then HB1.out HB1.out.size hb) (.cells #[.int .i64 v1, .int .i64 v2] 27)); clear hb HLB))
   generalize w2.alloc (.cells #[.int .i64 v1, .int .i64 v2] 27) = W2 at BL2 BV HB2 ⊢
   generalize w2.heap.size = X at BV ⊢
   clear HV BL1 BB1 HB1 BL BB HB
   have he : annB a4 a5 a6 a7 = !(decide (a4 < 0) || decide (a4 > 10000) || decide (a5 < 0) || decide (a5 > 2000) || decide (a6 < 1) || decide (a6 > 2000) || decide (a7 < 0)) := by
    simp only [annB, inB, Bool.not_or, ← Bool.and_assoc]
    simp only [← decide_not, Int.not_lt, Int.not_gt_eq]
    try rfl
   go_cut [61] (fun v61 wd => v61 = .bool (!annB a4 a5 a6 a7) ∧ wd = W2)
   case first =>
    clear HH
    by_cases q0 : a4 < 0
    ·have d0 : decide (a4 < 0) = true := decide_eq_true q0
     have E : annB a4 a5 a6 a7 = false := by simp [annB, inB]; omega
     clear q0 he
     go_wp2
     go_meet
     case rel => exact ⟨by rw [E]; rfl, rfl⟩
    have d0 : decide (a4 < 0) = false := decide_eq_false q0
    by_cases q1 : a4 > 10000
    ·have d1 : decide (10000 < a4) = true := decide_eq_true q1
     have E : annB a4 a5 a6 a7 = false := by simp [annB, inB]; omega
     clear q0 q1 he
     go_wp2
     go_meet
     case rel => exact ⟨by rw [E]; rfl, rfl⟩
    have d1 : decide (10000 < a4) = false := decide_eq_false q1
    by_cases q2 : a5 < 0
    ·have d2 : decide (a5 < 0) = true := decide_eq_true q2
     have E : annB a4 a5 a6 a7 = false := by simp [annB, inB]; omega
     clear q0 q1 q2 he
     go_wp2
     go_meet
     case rel => exact ⟨by rw [E]; rfl, rfl⟩
    have d2 : decide (a5 < 0) = false := decide_eq_false q2
    by_cases q3 : a5 > 2000
    ·have d3 : decide (2000 < a5) = true := decide_eq_true q3
     have E : annB a4 a5 a6 a7 = false := by simp [annB, inB]; omega
     clear q0 q1 q2 q3 he
     go_wp2
     go_meet
     case rel => exact ⟨by rw [E]; rfl, rfl⟩
    have d3 : decide (2000 < a5) = false := decide_eq_false q3
    by_cases q4 : a6 < 1
    ·have d4 : decide (a6 < 1) = true := decide_eq_true q4
     have E : annB a4 a5 a6 a7 = false := by simp [annB, inB]; omega
     clear q0 q1 q2 q3 q4 he
     go_wp2
     go_meet
     case rel => exact ⟨by rw [E]; rfl, rfl⟩
    have d4 : decide (a6 < 1) = false := decide_eq_false q4
    by_cases q5 : a6 > 2000
    ·have d5 : decide (2000 < a6) = true := decide_eq_true q5
     have E : annB a4 a5 a6 a7 = false := by simp [annB, inB]; omega
     clear q0 q1 q2 q3 q4 q5 he
     go_wp2
     go_meet
     case rel => exact ⟨by rw [E]; rfl, rfl⟩
    have d5 : decide (2000 < a6) = false := decide_eq_false q5
    by_cases q6 : a7 < 0
    ·have d6 : decide (a7 < 0) = true := decide_eq_true q6
     have E : annB a4 a5 a6 a7 = false := by simp [annB, inB]; omega
     clear q0 q1 q2 q3 q4 q5 q6 he
     go_wp2
     go_meet
     case rel => exact ⟨by rw [E]; rfl, rfl⟩
    have d6 : decide (a7 < 0) = false := decide_eq_false q6
    have E : annB a4 a5 a6 a7 = true := by simp [annB, inB]; omega
    clear q0 q1 q2 q3 q4 q5 q6 he
    go_wp2
    go_meet
    case rel => exact ⟨by rw [E]; rfl, rfl⟩
   case rest =>
    obtain ⟨rfl, hwd⟩ := hcut
    subst hwd
    have h := HH.out
    clear HH
    cases hA : annB a4 a5 a6 a7 with
    | false =>
     rw [if_neg (by simp [hA])] at h
     simp only [Option.some.injEq, Prod.mk.injEq] at h
     obtain ⟨rfl, rfl⟩ := h
     go_wp2
     go_ret2
     exact ⟨rfl, HB2.out⟩
    | true =>
     rw [if_pos hA] at h
     go_upto_region 9 with (fail)
     have gv0 : wc.cell? ⟨X, 0, none⟩ = some (.int .i64 v1) := (blk_cell BV.out 0).trans rfl
     have gv1 : wc.cell? ⟨X, 0 + 1, none⟩ = some (.int .i64 v2) := (blk_cell BV.out 1).trans rfl
     by_cases p0 : v1 < a4
     ·have d0 : decide (v1 < a4) = true := decide_eq_true p0
      rw [if_neg (by simp; omega)] at h
      simp only [Option.some.injEq, Prod.mk.injEq] at h
      obtain ⟨rfl, rfl⟩ := h
      go_wp2
      go_ret2
      exact ⟨rfl, HB2.out⟩
     have d0 : decide (v1 < a4) = false := decide_eq_false p0
     by_cases p1 : v2 > 10000
     ·have d1 : decide (10000 < v2) = true := decide_eq_true p1
      rw [if_neg (by simp; omega)] at h
      simp only [Option.some.injEq, Prod.mk.injEq] at h
      obtain ⟨rfl, rfl⟩ := h
      go_wp2
      go_ret2
      exact ⟨rfl, HB2.out⟩
     have d1 : decide (10000 < v2) = false := decide_eq_false p1
     rw [if_pos (by simp; omega)] at h
     obtain ⟨hh, hheld, h⟩ := Option.bind_eq_some_iff.mp h
     have HHELD := Sd.mk hheld
     have HH := Sd.mk h
     clear hheld h p0 p1 hA
     go_upto_region 11 with (fail)
     clear gv0 gv1 d0 d1
     refine start_ (n := 24) (S := fun w' => w'.cell? ⟨w.heap.size, 0, none⟩ = some (.slice A0_0 l0_0.length c0_0) ∧ w'.cell? ⟨w.heap.size, 1, none⟩ = some (.int .i64 a0_1) ∧ w'.cell? ⟨X, 0, none⟩ = some (.int .i64 v1) ∧ w'.cell? ⟨X, 1, none⟩ = some (.int .i64 v2)) (ds := []) (bA 24 0) (by kernel_rfl) rfl rfl ⟨(blk_cell BL2.out 0).trans rfl, (blk_cell BL2.out 1).trans rfl, (blk_cell BV.out 0).trans rfl, (blk_cell BV.out 1).trans rfl⟩ (fun hHeld => ?_)
     refine with_tabW rann_tab rann_bits (fun HT_ HW_ => ?_)
     replace BL2 := Sd.mk (blk_drew BL2.out)
     replace BV := Sd.mk (blk_drew BV.out)
     replace HB2 := Sd.mk (below_drew1 HB2.out)
     generalize wc.drew = Wd at BL2 BV HB2 hHeld ⊢
     refine tQ 0 (some 71) (bA 24 1) ?_
     refine pQ 1 (some 72) (bA 24 3) ?_
     refine tQ 2 (some 73) (bA 24 7) ?_
     refine pQ 4 (some 75) (bA 24 23) ?_
     refine one_ (i := 3) (N := some 74) (bA 24 31) rfl rfl (one_of HT_.out (by kernel_rfl)) (by decide) (fun K hK => ?_)
     refine goes_ Tryz.func77 (by kernel_rfl) rfl #[.agg #[.slice A0_0 l0_0.length c0_0, .int .i64 a0_1], .int .i64 v2] (by (try simp only [Array.map_toArray, List.map_toArray, List.map_cons, List.map_nil]); rfl) rfl rfl (by (try simp only [List.map_toArray, List.map_cons, List.map_nil]); first | done | rfl) ?_
     refine (r5_held.calls k A0_0 c0_0 l0_0 a0_1 v2 hh _ (Kd.C_below HR0.out HB2.out) HC0.out HHELD.out).mono ?_
     rintro e w4 ⟨rfl, hb⟩
     refine ⟨_, rfl, ?_⟩
     replace BL2 := Sd.mk (blk_below BL2.out hb)
     replace BV := Sd.mk (blk_below BV.out hb)
     replace HB2 := Sd.mk (below_then HB2.out HB2.out.size hb)
     clear hb
     refine hK.out _ _ ⟨(blk_cell BL2.out 0).trans rfl, (blk_cell BL2.out 1).trans rfl, (blk_cell BV.out 0).trans rfl, (blk_cell BV.out 1).trans rfl⟩ (fun hHeld => ?_)
     clear hK K
     refine norm_ (a' := ?_) ?_ ?_
     rotate_left
     ·show Act.put _ (some 74) _ = _
      simp only [Act.put, List.setIfInBounds_toArray, List.set_cons_zero, List.set_cons_succ, i64_w, i32_w]
      rfl
     by_cases hs : a5 ≤ hh
     ·have d1 : decide (a5 ≤ hh) = true := decide_eq_true hs
      have h := HH.out
      rw [if_pos hs] at h
      clear HH hs
      obtain ⟨⟨q1, q2⟩, hq, h⟩ := Option.bind_eq_some_iff.mp h
      obtain ⟨s, hst, h⟩ := Option.bind_eq_some_iff.mp h
      simp only [Option.some.injEq, Prod.mk.injEq] at h
      obtain ⟨rfl, rfl⟩ := h
      have HQ := Sd.mk hq
      have HST := Sd.mk hst
      clear hq hst
      refine pQ 5 (some 76) (bA 24 63) ?_
      refine pQ 6 (some 77) (bA 24 127) ?_
      refine tQ 7 (some 78) (bA 24 255) ?_
      refine tQ 8 (some 79) (bA 24 511) ?_
      refine pQ 9 (some 80) (bA 24 1023) ?_
      refine tQ 10 (some 81) (bA 24 2047) ?_
      refine pQ 11 (some 82) (bA 24 4095) ?_
      refine pQ 12 (some 83) (bA 24 8191) ?_
      refine pQ 13 (some 84) (bA 24 16383) ?_
      refine tQ 14 (some 85) (bA 24 32767) ?_
      refine pQ 15 (some 86) (bA 24 65535) ?_
      refine pQ 17 (some 88) (bA 24 196607) ?_
      refine pQ 19 (some 90) (bA 24 720895) ?_
      refine one_ (i := 16) (N := some 87) (bA 24 786431) rfl rfl (one_of HT_.out (by kernel_rfl)) (by decide) (fun K hK => ?_)
      refine goes_ Tryz.func79 (by kernel_rfl) rfl #[.agg #[.slice A0_0 l0_0.length c0_0, .int .i64 a0_1], .agg #[.int .i64 (wrap64 (v1 - a4)), .int .i64 v2]] (by (try simp only [Array.map_toArray, List.map_toArray, List.map_cons, List.map_nil]); rfl) rfl rfl (by (try simp only [List.map_toArray, List.map_cons, List.map_nil]); first | done | rfl) ?_
      refine (r5_steepest.calls k A0_0 c0_0 l0_0 a0_1 (wrap64 (v1 - a4)) v2 q1 q2 _ (Kd.C_below HR0.out HB2.out) HC0.out HQ.out).mono ?_
      rintro e w5 ⟨rfl, hb⟩
      refine ⟨_, rfl, ?_⟩
      replace BL2 := Sd.mk (blk_below BL2.out hb)
      replace BV := Sd.mk (blk_below BV.out hb)
      replace HB2 := Sd.mk (below_then HB2.out HB2.out.size hb)
      clear hb
      refine hK.out _ _ ⟨(blk_cell BL2.out 0).trans rfl, (blk_cell BL2.out 1).trans rfl, (blk_cell BV.out 0).trans rfl, (blk_cell BV.out 1).trans rfl⟩ (fun hHeld => ?_)
      clear hK K
      refine norm_ (a' := ?_) ?_ ?_
      rotate_left
      ·show Act.put _ (some 87) _ = _
       simp only [Act.put, List.setIfInBounds_toArray, List.set_cons_zero, List.set_cons_succ, i64_w, i32_w]
       rfl
      refine one_ (i := 18) (N := some 89) (bA 24 1048575) rfl rfl (one_of HT_.out (by kernel_rfl)) (by decide) (fun K hK => ?_)
      refine goes_ Tryz.func78 (by kernel_rfl) rfl #[.agg #[.slice A0_0 l0_0.length c0_0, .int .i64 a0_1], .agg #[.int .i64 q1, .int .i64 q2], .int .i64 a6] (by (try simp only [Array.map_toArray, List.map_toArray, List.map_cons, List.map_nil]); rfl) rfl rfl (by (try simp only [List.map_toArray, List.map_cons, List.map_nil]); first | done | rfl) ?_
      refine (r5_strain.calls A0_0 c0_0 l0_0 a0_1 q1 q2 a6 s _ (Kd.C_below HR0.out HB2.out) HC0.out HST.out).mono ?_
      rintro e w6 ⟨rfl, hb⟩
      refine ⟨_, rfl, ?_⟩
      replace BL2 := Sd.mk (blk_below BL2.out hb)
      replace BV := Sd.mk (blk_below BV.out hb)
      replace HB2 := Sd.mk (below_then HB2.out HB2.out.size hb)
      clear hb
      refine hK.out _ _ ⟨(blk_cell BL2.out 0).trans rfl, (blk_cell BL2.out 1).trans rfl, (blk_cell BV.out 0).trans rfl, (blk_cell BV.out 1).trans rfl⟩ (fun hHeld => ?_)
      clear hK K
      refine norm_ (a' := ?_) ?_ ?_
      rotate_left
      ·show Act.put _ (some 89) _ = _
       simp only [Act.put, List.setIfInBounds_toArray, List.set_cons_zero, List.set_cons_succ, i64_w, i32_w]
       rfl
      refine pQ 20 (some 91) (bA 24 2097151) ?_
      refine pQ 21 (some 92) (bA 24 4194303) ?_
      refine pQ 22 (some 16) (bA 24 8388607) ?_
      refine pQ 23 (some 17) (bA 24 16777215) ?_
      refine done_ (done_of HT_.out (by kernel_rfl)) ?_
      go_wp2
      go_ret2
      exact ⟨rfl, HB2.out⟩
     ·have d1 : decide (a5 ≤ hh) = false := decide_eq_false hs
      have h := HH.out
      rw [if_neg hs] at h
      clear HH hs
      simp only [Option.some.injEq, Prod.mk.injEq] at h
      obtain ⟨rfl, rfl⟩ := h
      refine pQ 5 (some 76) (bA 24 63) ?_
      refine pQ 6 (some 77) (bA 24 127) ?_
      refine pN 7 (some 78) (bA 24 255) ?_
      refine pN 8 (some 79) (bA 24 511) ?_
      refine pN 9 (some 80) (bA 24 1023) ?_
      refine pN 10 (some 81) (bA 24 2047) ?_
      refine pN 11 (some 82) (bA 24 4095) ?_
      refine pN 12 (some 83) (bA 24 8191) ?_
      refine pN 13 (some 84) (bA 24 16383) ?_
      refine pN 14 (some 85) (bA 24 32767) ?_
      refine pN 15 (some 86) (bA 24 65535) ?_
      refine pN 17 (some 88) (bA 24 196607) ?_
      refine pN 19 (some 90) (bA 24 720895) ?_
      refine pN 16 (some 87) (bA 24 786431) ?_
      refine pN 18 (some 89) (bA 24 1048575) ?_
      refine pN 20 (some 91) (bA 24 2097151) ?_
      refine pQ 21 (some 92) (bA 24 4194303) ?_
      refine pQ 22 (some 16) (bA 24 8388607) ?_
      refine pQ 23 (some 17) (bA 24 16777215) ?_
      refine done_ (done_of HT_.out (by kernel_rfl)) ?_
      go_wp2
      go_ret2
      exact ⟨rfl, HB2.out⟩
  ·rw [if_neg hve] at h
   have d1 : (ve == 0) = false := errno_ne ve hve
   have d2 : (ve != 0) = true := by simp [hve]
   simp only [Option.some.injEq, Prod.mk.injEq] at h
   obtain ⟨rfl, rfl⟩ := h
   go_wp2_with (first | (refine wp_loadrow_a 46 _ _ _ (by go_simp) rfl rfl HLL.out ?_) | (refine wp_loadrow_a 29 _ _ _ (by go_simp) rfl rfl HLB.out ?_) | (go_at_call 76; (with_reducible refine (rLehr_calls A0_0 c0_0 l0_0 a0_1 _ (Kd.C_below HR0.out HB.out)).mono ?_); (try rw [H0.out]); rintro e w1 ⟨rfl, hb⟩ ; have BL1 := Sd.mk (blk_below BL.out hb); have BB1 := Sd.mk (blk_below BB.out hb); have HB1 := Sd.mk (below_then HB.out HB.out.size hb); clear hb HLL; have HLB := Sd.mk (run_loadVar_row (P := Tryz.prog) _ _ 29 29 _ (0, 0) _ BB1.out Tryz.underlying29 rfl (by kernel_rfl))) | (go_at_call 69; (with_reducible refine (rf_Value.calls k A1_0 c1_0 l1_0 A1_1 c1_1 l1_1 A1_2 c1_2 l1_2 A1_3 c1_3 l1_3 a1_4 a1_5 a1_6 A2 c2 l2 a3 v1 v2 _ _ (Kd.C_below HR10.out HB1.out) HC10.out (Kd.C_below HR11.out HB1.out) HC11.out (Kd.C_below HR12.out HB1.out) HC12.out (Kd.C_below HR13.out HB1.out) HC13.out (Kd.C_below HR2.out HB1.out) HC2.out HV.out).mono ?_); rintro e w2 ⟨rfl, hb⟩; have BL2 := Sd.mk (blk_alloc (blk_below BL1.out hb) (.cells #[.int .i64 v1, .int .i64 v2] 27)); have BV := Sd.mk (blk_new w2 (.cells #[.int .i64 v1, .int .i64 v2] 27)); have HB2 := Sd.mk (below_alloc (below_then HB1.out HB1.out.size hb) (.cells #[.int .i64 v1, .int .i64 v2] 27)); clear hb HLB))
   go_ret2
   exact ⟨rfl, HB2.out⟩
 ·rw [if_neg h0] at h
  have d1 : (lehrV l0_0 a0_1 == 0) = false := errno_ne _ h0
  have d2 : (lehrV l0_0 a0_1 != 0) = true := by simp [h0]
  simp only [Option.some.injEq, Prod.mk.injEq] at h
  obtain ⟨rfl, rfl⟩ := h
  clear h0
  go_enter Tryz.func24, Tryz.ntmps24
  go_wp2_with (first | (refine wp_loadrow_a 46 _ _ _ (by go_simp) rfl rfl HLL.out ?_) | (go_at_call 76; (with_reducible refine (rLehr_calls A0_0 c0_0 l0_0 a0_1 _ (Kd.C_below HR0.out HB.out)).mono ?_); rintro e w1 ⟨rfl, hb⟩; have BL1 := Sd.mk (blk_below BL.out hb); have BB1 := Sd.mk (blk_below BB.out hb); have HB1 := Sd.mk (below_then HB.out HB.out.size hb); clear hb HLL; have HLB := Sd.mk (run_loadVar_row (P := Tryz.prog) _ _ 29 29 _ (0, 0) _ BB1.out Tryz.underlying29 rfl (by kernel_rfl))))
  go_ret2
  exact ⟨rfl, HB1.out⟩
end
section
theorem rheld_l0 {kn : List S94} (H : LehrOk kn) (fac : Int) {t : Int} (ht : 0 ≤ t ∧ t ≤ 10000) : ∀ (m i : Nat) (acc : Int), i + m = kn.length → 1 ≤ i → 0 ≤ acc → acc ≤ 2000 * i → Ev (fun k => r5_held.l0 k t acc (i : Int) kn fac) (acc + heldS kn t m i)
 | 0, i, acc, h, h1, ha, hb => by
  apply Ev.step
  simp only [r5_held.l0, if_neg (show ¬ (i : Int) < (kn.length : Int) by omega)]
  exact (Ev.const _).cast (by simp [heldS])
 | m + 1, i, acc, h, h1, ha, hb => by
  have hp := H.piece h1 (by omega)
  have hpb := pieceT_bounds hp t
  have n24 := H.n24
  have ih := rheld_l0 H fac ht m (i + 1) (acc + pieceT (kneeN kn (i - 1)) (kneeN kn i) t) (by omega) (by omega) (by omega) (by have := hp.d2; omega)
  have hm := mn_le (kneeN kn (i - 1)).f1 (kneeN kn i).f1
  have hx := le_mx (kneeN kn (i - 1)).f1 (kneeN kn i).f1
  obtain ⟨d1, d2, a1, b1⟩ := hp
  apply Ev.step
  simp only [r5_held.l0, if_pos (show (i : Int) < (kn.length : Int) by omega), wsmall (show -1000000000000000000 ≤ (i : Int) - 1 by omega) (show (i : Int) - 1 ≤ 1000000000000000000 by omega), if_pos (show 0 ≤ (i : Int) - 1 by omega), if_pos (show (i : Int) - 1 < (kn.length : Int) by omega), if_pos (show 0 ≤ (i : Int) by omega), wrap_succ (i_pos i) (show (i : Int) ≤ 1000000000 by omega)]
  simp only [cast_pred h1]
  change Ev (fun k => if mn (kneeN kn (i - 1)).f1 (kneeN kn i).f1 ≥ t then r5_held.l0 k t (wrap64 (acc + wrap64 ((kneeN kn i).f0 - (kneeN kn (i - 1)).f0))) ((i : Int) + 1) kn fac else if mx (kneeN kn (i - 1)).f1 (kneeN kn i).f1 ≥ t then ((r5_down.f (wrap64 (wrap64 ((kneeN kn i).f0 - (kneeN kn (i - 1)).f0) * wrap64 (mx (kneeN kn (i - 1)).f1 (kneeN kn i).f1 - t))) (wrap64 (mx (kneeN kn (i - 1)).f1 (kneeN kn i).f1 - mn (kneeN kn (i - 1)).f1 (kneeN kn i).f1))).bind fun t453 => r5_held.l0 k t (wrap64 (acc + t453)) ((i : Int) + 1) kn fac) else r5_held.l0 k t acc ((i : Int) + 1) kn fac) _
  have e2 : ((i + 1 : Nat) : Int) = (i : Int) + 1 := by omega
  rw [e2] at ih
  have hsum : acc + heldS kn t (m + 1) i = acc + pieceT (kneeN kn (i - 1)) (kneeN kn i) t + heldS kn t m (i + 1) := by simp only [heldS]; omega
  rw [hsum]
  generalize kneeN kn (i - 1) = a at *
  generalize kneeN kn i = b at *
  by_cases c1 : mn a.f1 b.f1 ≥ t
  ·have hpe : pieceT a b t = b.f0 - a.f0 := if_pos c1
   simp only [if_pos c1, wsmall (show -1000000000000000000 ≤ b.f0 - a.f0 by omega) (show b.f0 - a.f0 ≤ 1000000000000000000 by omega)]
   rw [hpe] at ih ⊢
   rw [wsmall (by omega) (by omega)]
   exact ih
  ·by_cases c2 : mx a.f1 b.f1 ≥ t
   ·have hq : (b.f0 - a.f0) * (mx a.f1 b.f1 - t) ≤ 2000 * 10000 := Int.mul_le_mul (by omega) (by omega) (by omega) (by omega)
    have hq0 : 0 ≤ (b.f0 - a.f0) * (mx a.f1 b.f1 - t) := Int.mul_nonneg (by omega) (by omega)
    have hpe : pieceT a b t = ((b.f0 - a.f0) * (mx a.f1 b.f1 - t)) / (mx a.f1 b.f1 - mn a.f1 b.f1) := by
     by_cases c3 : mx a.f1 b.f1 > t
     ·exact (if_neg c1).trans (if_pos c3)
     ·rw [show pieceT a b t = 0 from (if_neg c1).trans (if_neg c3), show mx a.f1 b.f1 - t = 0 by omega, Int.mul_zero, Int.zero_ediv]
    simp only [if_neg c1, if_pos c2, r5_down.f, wsmall (show -1000000000000000000 ≤ b.f0 - a.f0 by omega) (show b.f0 - a.f0 ≤ 1000000000000000000 by omega), wsmall (show -1000000000000000000 ≤ mx a.f1 b.f1 - t by omega) (show mx a.f1 b.f1 - t ≤ 1000000000000000000 by omega), wsmall (show -1000000000000000000 ≤ mx a.f1 b.f1 - mn a.f1 b.f1 by omega) (show mx a.f1 b.f1 - mn a.f1 b.f1 ≤ 1000000000000000000 by omega), if_neg (show ¬ mx a.f1 b.f1 - mn a.f1 b.f1 = 0 by omega), wsmall (show -1000000000000000000 ≤ (b.f0 - a.f0) * (mx a.f1 b.f1 - t) by omega) (show (b.f0 - a.f0) * (mx a.f1 b.f1 - t) ≤ 1000000000000000000 by omega), Int.tdiv_eq_ediv_of_nonneg hq0, Option.bind_some]
    rw [← hpe, wsmall (show -1000000000000000000 ≤ pieceT a b t by omega) (by omega), wsmall (by omega) (by omega)]
    exact ih
   ·have hpe : pieceT a b t = 0 := (if_neg c1).trans (if_neg (by omega))
    simp only [if_neg c1, if_neg c2]
    rw [hpe] at ih ⊢
    rw [Int.add_zero] at ih ⊢
    exact ih
theorem rheld {kn : List S94} (H : LehrOk kn) (fac : Int) {t : Int} (ht : 0 ≤ t ∧ t ≤ 10000) : Ev (fun k => r5_held.f k kn fac t) (heldV kn t) := by
 have n2 := H.n2
 exact (rheld_l0 H fac ht (kn.length - 1) 1 0 (by omega) (by omega) (by omega) (by omega)).cast (by simp [heldV])
theorem rlowest_l0 (n d : Int) (hn : 0 ≤ n ∧ n ≤ 10000) (hd : 1 ≤ d ∧ d ≤ 10000) : ∀ (m : Nat) (x y : Int), 0 ≤ y → y ≤ m → 0 ≤ x → (0 < x ∨ 0 < y) → (∀ c : Int, c ∣ x → c ∣ y → c ∣ n ∧ c ∣ d) → ∃ g : Int, 0 < g ∧ g ∣ n ∧ g ∣ d ∧ Ev (fun k => r5_lowest.l0 k n d x y) (n / g, d / g)
 | 0, x, y, hy, hym, hx, hp, hg => by
  obtain rfl : y = 0 := by omega
  have hc := hg x (Int.dvd_refl x) (Int.dvd_zero x)
  refine ⟨x, by omega, hc.1, hc.2, Ev.step ?_⟩
  have e1 : n / x ≤ n := Int.ediv_le_self _ hn.1
  have e2 : d / x ≤ d := Int.ediv_le_self _ (by omega)
  have e3 := Int.ediv_nonneg hn.1 hx
  have e4 := Int.ediv_nonneg (show 0 ≤ d by omega) hx
  simp only [r5_lowest.l0, if_true, if_neg (show ¬ x = 0 by omega), Int.tdiv_eq_ediv_of_nonneg hn.1, Int.tdiv_eq_ediv_of_nonneg (show 0 ≤ d by omega), wsmall (show -1000000000000000000 ≤ n / x by omega) (show n / x ≤ 1000000000000000000 by omega), wsmall (show -1000000000000000000 ≤ d / x by omega) (show d / x ≤ 1000000000000000000 by omega)]
  exact Ev.const _
 | m + 1, x, y, hy, hym, hx, hp, hg => by
  by_cases h0 : y = 0
  ·obtain ⟨g, g1, g2, g3, g4⟩ := rlowest_l0 n d hn hd m x y hy (by omega) hx hp hg
   exact ⟨g, g1, g2, g3, g4⟩
  ·have ht : Int.tmod x y = x % y := Int.tmod_eq_emod_of_nonneg hx
   have h1 := Int.emod_nonneg x h0
   have h2 := Int.emod_lt_of_pos x (show 0 < y by omega)
   obtain ⟨g, g1, g2, g3, g4⟩ := rlowest_l0 n d hn hd m y (x % y) h1 (by omega) hy (.inl (by omega)) (fun c c1 c2 => hg c (by
    have e := Int.emod_add_mul_ediv x y
    have e2 : c ∣ x % y + y * (x / y) := Int.dvd_add c2 (Int.dvd_mul_of_dvd_left c1)
    rw [e] at e2
    exact e2) c1)
   refine ⟨g, g1, g2, g3, Ev.step ?_⟩
   simp only [r5_lowest.l0, if_neg h0, ht]
   exact g4
theorem rlowest {q : Int × Int} (h : 0 ≤ q.1 ∧ q.1 ≤ 10000) (h' : 1 ≤ q.2 ∧ q.2 ≤ 10000) : ∃ g : Int, 0 < g ∧ g ∣ q.1 ∧ g ∣ q.2 ∧ Ev (fun k => r5_lowest.f k q.1 q.2) (q.1 / g, q.2 / g) :=
 rlowest_l0 q.1 q.2 h h' q.2.toNat q.1 q.2 (by omega) (by omega) h.1 (.inr (by omega)) (fun c a b => ⟨a, b⟩)
theorem low_same {q : Int × Int} (hq : QOk q) {g : Int} (hg : 0 < g) (a : g ∣ q.1) (b : g ∣ q.2) : QOk (q.1 / g, q.2 / g) ∧ LeQ (q.1 / g, q.2 / g) q ∧ LeQ q (q.1 / g, q.2 / g) := by
 obtain ⟨n0, n1, d0, d1⟩ := hq
 obtain ⟨n, d⟩ := q
 obtain ⟨x, hx⟩ := a
 obtain ⟨z, hz⟩ := b
 simp only at hx hz n0 n1 d0 d1 ⊢
 have e1 : n / g = x := by rw [hx]; exact Int.mul_ediv_cancel_left _ (by omega)
 have e2 : d / g = z := by rw [hz]; exact Int.mul_ediv_cancel_left _ (by omega)
 have k1 : n / g ≤ n := Int.ediv_le_self _ n0
 have k2 : d / g ≤ d := Int.ediv_le_self _ (by omega)
 have k3 := Int.ediv_nonneg n0 (show 0 ≤ g by omega)
 have k4 : 1 ≤ d / g := by
  have := Int.le_of_dvd (show 0 < d by omega) ⟨z, hz⟩
  have := (Int.le_ediv_iff_mul_le (a := 1) (b := d) hg).2 (by omega)
  omega
 have same : n / g * d = n * (d / g) := by
  rw [e1, e2]
  generalize hn' : n = n' at *
  subst hn'
  rw [hx, hz, ← Int.mul_assoc, Int.mul_comm x g]
 exact ⟨⟨k3, by omega, k4, by omega⟩, Int.le_of_eq same, Int.le_of_eq same.symm⟩
def SameQ (S q : Int × Int) : Prop := QOk q ∧ LeQ q S ∧ LeQ S q
theorem rsteep_l0 {kn : List S94} (H : LehrOk kn) (fac t0 t1 : Int) : ∀ (m i : Nat) (q q' : Int × Int), i + m = kn.length → 1 ≤ i → QOk q' → SameQ q' q → ∃ R, SameQ (steepS kn t0 t1 m i q') R ∧ Ev (fun k => r5_steepest.l0 k (i : Int) kn fac t0 t1 q.1 q.2) R
 | 0, i, q, q', h, h1, hq', hs => by
  refine ⟨q, hs, Ev.step ?_⟩
  simp only [r5_steepest.l0, if_neg (show ¬ (i : Int) < (kn.length : Int) by omega)]
  exact Ev.const _
 | m + 1, i, q, q', h, h1, hq', hs => by
  have hp := H.piece h1 (by omega)
  have n24 := H.n24
  have ih := fun q q' hq' hs => rsteep_l0 H fac t0 t1 m (i + 1) q q' (by omega) (by omega) hq' hs
  rw [show ((i + 1 : Nat) : Int) = (i : Int) + 1 by omega] at ih
  have hj : ∀ b : Bool, b = !elig (kneeN kn (i - 1)) (kneeN kn i) t0 t1 → ∃ R, SameQ (steepS kn t0 t1 (m + 1) i q') R ∧ Ev (fun k => r5_steepest.j1 k (i : Int) b kn fac t0 t1 q.1 q.2 (kneeN kn (i - 1)).f0 (kneeN kn (i - 1)).f1 (kneeN kn i).f0 (kneeN kn i).f1) R := by
   intro b hb
   simp only [steepS]
   have hQ := hs.1
   have s1 := hs.2.1
   have s2 := hs.2.2
   obtain ⟨d1, d2, a1, b1⟩ := hp
   generalize kneeN kn (i - 1) = a at *
   generalize kneeN kn i = c at *
   cases he : elig a c t0 t1 with
   | false =>
    obtain rfl : b = true := by rw [hb, he]; rfl
    rw [show stepQ a c t0 t1 q' = q' from if_neg (by rw [he]; simp)]
    obtain ⟨R, r1, r2⟩ := ih q q' hq' hs
    refine ⟨R, r1, Ev.step ?_⟩
    simp only [r5_steepest.j1, if_true, wrap_succ (i_pos i) (show (i : Int) ≤ 1000000000 by omega)]
    exact r2
   | true =>
    obtain rfl : b = false := by rw [hb, he]; rfl
    have hF := fall_ok (a := a) (b := c) ⟨d1, d2, a1, b1⟩ he
    have p1 : 0 < (fallQ a c).2 := by have := hF.d0; omega
    have p2 : 0 < q.2 := by have := hQ.d0; omega
    have p3 : 0 < q'.2 := by have := hq'.d0; omega
    have n0 := hQ.n0; have n1 := hQ.n1; have q0 := hQ.d0; have q1 := hQ.d1
    have x1 : (a.f1 - c.f1) * q.2 ≤ 20000000 ∧ -20000000 ≤ (a.f1 - c.f1) * q.2 := by
     simp only [elig, Bool.and_eq_true, decide_eq_true_eq] at he
     have := Int.mul_le_mul (show a.f1 - c.f1 ≤ 10000 by omega) q1 (by omega) (by omega)
     have := Int.mul_nonneg (show 0 ≤ a.f1 - c.f1 by omega) (show 0 ≤ q.2 by omega)
     omega
    have x2 : q.1 * (c.f0 - a.f0) ≤ 20000000 ∧ 0 ≤ q.1 * (c.f0 - a.f0) := by
     have := Int.mul_le_mul n1 d2 (by omega) (by omega)
     have := Int.mul_nonneg n0 (show 0 ≤ c.f0 - a.f0 by omega)
     omega
    by_cases hc : (a.f1 - c.f1) * q.2 > q.1 * (c.f0 - a.f0)
    ·have hc' : (fallQ a c).1 * q'.2 > q'.1 * (fallQ a c).2 := by
      apply Int.not_le.1
      intro hle
      have := LeQ.trans p1 p3 p2 (show LeQ (fallQ a c) q' from hle) s2
      have h9 : (a.f1 - c.f1) * q.2 ≤ q.1 * (c.f0 - a.f0) := this
      omega
     rw [show stepQ a c t0 t1 q' = fallQ a c from (if_pos he).trans (if_pos hc')]
     obtain ⟨g, g1, g2, g3, g4⟩ := rlowest (q := fallQ a c) ⟨hF.n0, hF.n1⟩ ⟨hF.d0, by have := hF.d1; omega⟩
     obtain ⟨R, r1, r2⟩ := ih _ (fallQ a c) hF (low_same hF g1 g2 g3)
     refine ⟨R, r1, Ev.step ?_⟩
     simp only [r5_steepest.j1, Bool.false_eq_true, if_false, wrap_succ (i_pos i) (show (i : Int) ≤ 1000000000 by omega), wsmall (show -1000000000000000000 ≤ a.f1 - c.f1 by omega) (show a.f1 - c.f1 ≤ 1000000000000000000 by omega), wsmall (show -1000000000000000000 ≤ c.f0 - a.f0 by omega) (show c.f0 - a.f0 ≤ 1000000000000000000 by omega), wsmall (show -1000000000000000000 ≤ (a.f1 - c.f1) * q.2 by omega) (show (a.f1 - c.f1) * q.2 ≤ 1000000000000000000 by omega), wsmall (show -1000000000000000000 ≤ q.1 * (c.f0 - a.f0) by omega) (show q.1 * (c.f0 - a.f0) ≤ 1000000000000000000 by omega), if_pos hc]
     exact Ev.bind g4 r2
    ·have hc' : ¬ (fallQ a c).1 * q'.2 > q'.1 * (fallQ a c).2 := by
      have := LeQ.trans p1 p2 p3 (show LeQ (fallQ a c) q from (show (a.f1 - c.f1) * q.2 ≤ q.1 * (c.f0 - a.f0) by omega)) s1
      unfold LeQ at this
      omega
     rw [show stepQ a c t0 t1 q' = q' from (if_pos he).trans (if_neg hc')]
     obtain ⟨R, r1, r2⟩ := ih q q' hq' hs
     refine ⟨R, r1, Ev.step ?_⟩
     simp only [r5_steepest.j1, Bool.false_eq_true, if_false, wrap_succ (i_pos i) (show (i : Int) ≤ 1000000000 by omega), wsmall (show -1000000000000000000 ≤ a.f1 - c.f1 by omega) (show a.f1 - c.f1 ≤ 1000000000000000000 by omega), wsmall (show -1000000000000000000 ≤ c.f0 - a.f0 by omega) (show c.f0 - a.f0 ≤ 1000000000000000000 by omega), wsmall (show -1000000000000000000 ≤ (a.f1 - c.f1) * q.2 by omega) (show (a.f1 - c.f1) * q.2 ≤ 1000000000000000000 by omega), wsmall (show -1000000000000000000 ≤ q.1 * (c.f0 - a.f0) by omega) (show q.1 * (c.f0 - a.f0) ≤ 1000000000000000000 by omega), if_neg hc]
     exact r2
  have hjj : ∃ b : Bool, b = !elig (kneeN kn (i - 1)) (kneeN kn i) t0 t1 ∧ ∀ R, Ev (fun k => r5_steepest.j1 k (i : Int) b kn fac t0 t1 q.1 q.2 (kneeN kn (i - 1)).f0 (kneeN kn (i - 1)).f1 (kneeN kn i).f0 (kneeN kn i).f1) R → Ev (fun k => r5_steepest.l0 k (i : Int) kn fac t0 t1 q.1 q.2) R := by
   by_cases c1 : (kneeN kn i).f1 ≥ (kneeN kn (i - 1)).f1
   ·refine ⟨true, by simp [elig, show ¬ (kneeN kn i).f1 < (kneeN kn (i - 1)).f1 by omega], fun R hR => Ev.step ?_⟩
    simp only [r5_steepest.l0, if_pos (show (i : Int) < (kn.length : Int) by omega), wsmall (show -1000000000000000000 ≤ (i : Int) - 1 by omega) (show (i : Int) - 1 ≤ 1000000000000000000 by omega), if_pos (show 0 ≤ (i : Int) - 1 by omega), if_pos (show (i : Int) - 1 < (kn.length : Int) by omega), if_pos (show 0 ≤ (i : Int) by omega)]
    simp only [cast_pred h1]
    simp only [if_pos (show (rd_T94 kn (i : Int)).f1 ≥ (rd_T94 kn ((i - 1 : Nat) : Int)).f1 from c1)]
    exact hR
   ·by_cases c2 : (kneeN kn i).f1 > t1
    ·refine ⟨true, by simp [elig, show ¬ (kneeN kn i).f1 ≤ t1 by omega], fun R hR => Ev.step ?_⟩
     simp only [r5_steepest.l0, if_pos (show (i : Int) < (kn.length : Int) by omega), wsmall (show -1000000000000000000 ≤ (i : Int) - 1 by omega) (show (i : Int) - 1 ≤ 1000000000000000000 by omega), if_pos (show 0 ≤ (i : Int) - 1 by omega), if_pos (show (i : Int) - 1 < (kn.length : Int) by omega), if_pos (show 0 ≤ (i : Int) by omega)]
     simp only [cast_pred h1]
     simp only [if_neg (show ¬ (rd_T94 kn (i : Int)).f1 ≥ (rd_T94 kn ((i - 1 : Nat) : Int)).f1 from c1), if_pos (show (rd_T94 kn (i : Int)).f1 > t1 from c2)]
     exact hR
    ·refine ⟨decide ((kneeN kn (i - 1)).f1 < t0), ?_, fun R hR => Ev.step ?_⟩
     ·simp only [elig, decide_eq_true (show (kneeN kn i).f1 < (kneeN kn (i - 1)).f1 by omega), decide_eq_true (show (kneeN kn i).f1 ≤ t1 by omega), Bool.true_and]
      by_cases c3 : (kneeN kn (i - 1)).f1 < t0
      ·rw [decide_eq_true c3, decide_eq_false (by omega)]; rfl
      ·rw [decide_eq_false c3, decide_eq_true (by omega)]; rfl
     ·simp only [r5_steepest.l0, if_pos (show (i : Int) < (kn.length : Int) by omega), wsmall (show -1000000000000000000 ≤ (i : Int) - 1 by omega) (show (i : Int) - 1 ≤ 1000000000000000000 by omega), if_pos (show 0 ≤ (i : Int) - 1 by omega), if_pos (show (i : Int) - 1 < (kn.length : Int) by omega), if_pos (show 0 ≤ (i : Int) by omega)]
      simp only [cast_pred h1]
      simp only [if_neg (show ¬ (rd_T94 kn (i : Int)).f1 ≥ (rd_T94 kn ((i - 1 : Nat) : Int)).f1 from c1), if_neg (show ¬ (rd_T94 kn (i : Int)).f1 > t1 from c2)]
      exact hR
  obtain ⟨b, hb, hl⟩ := hjj
  obtain ⟨R, r1, r2⟩ := hj b hb
  exact ⟨R, r1, hl R r2⟩
theorem rsteep {kn : List S94} (H : LehrOk kn) (fac t0 t1 : Int) : ∃ R, SameQ (steepV kn t0 t1) R ∧ Ev (fun k => r5_steepest.f k kn fac t0 t1) R := by
 have n2 := H.n2
 exact rsteep_l0 H fac t0 t1 (kn.length - 1) 1 (0, 1) (0, 1) (by omega) (by omega) q01 ⟨q01, LeQ.refl _, LeQ.refl _⟩
theorem rstrain {kn : List S94} (H : LehrOk kn) {fac th : Int} (hf : 0 ≤ fac ∧ fac ≤ 10000) (hth : 1 ≤ th ∧ th ≤ 2000) (t0 t1 : Int) {q : Int × Int} (hs : SameQ (steepV kn t0 t1) q) : r5_strain.f kn fac q.1 q.2 th = some (strainV kn fac t0 t1 th) := by
 have hv := (steepV_spec H t0 t1).ok
 obtain ⟨⟨n0, n1, d0, d1⟩, s1, s2⟩ := hs
 have e : strainV kn fac t0 t1 th = strainQ fac th q := Int.le_antisymm (strainQ_mono hf.1 (by have := hv.d0; omega) (by omega) s2) (strainQ_mono hf.1 (by omega) (by have := hv.d0; omega) s1)
 rw [e]
 unfold r5_strain.f strainQ
 have y1 := Int.mul_le_mul hf.2 n1 n0 (by omega)
 have y1' := Int.mul_nonneg hf.1 n0
 have y2 := Int.mul_le_mul y1 hth.2 (by omega) (by omega)
 have y2' := Int.mul_nonneg y1' (show 0 ≤ th by omega)
 have y3 := Int.mul_le_mul y2 hth.2 (by omega) (by omega)
 have y3' := Int.mul_nonneg y2' (show 0 ≤ th by omega)
 have z0 : 0 ≤ fac * q.1 * th * th + 1000000 * q.2 - 1 := by omega
 have z1 : (fac * q.1 * th * th + 1000000 * q.2 - 1) / (1000000 * q.2) ≤ fac * q.1 * th * th + 1000000 * q.2 - 1 := Int.ediv_le_self _ z0
 have z2 := Int.ediv_nonneg z0 (show 0 ≤ 1000000 * q.2 by omega)
 simp only [r5_up.f, wsmall (show -1000000000000000000 ≤ fac * q.1 by omega) (show fac * q.1 ≤ 1000000000000000000 by omega), wsmall (show -1000000000000000000 ≤ fac * q.1 * th by omega) (show fac * q.1 * th ≤ 1000000000000000000 by omega), wsmall (show -1000000000000000000 ≤ fac * q.1 * th * th by omega) (show fac * q.1 * th * th ≤ 1000000000000000000 by omega), wsmall (show -1000000000000000000 ≤ 1000000 * q.2 by omega) (show 1000000 * q.2 ≤ 1000000000000000000 by omega), if_neg (show ¬ 1000000 * q.2 = 0 by omega), wsmall (show -1000000000000000000 ≤ fac * q.1 * th * th + 1000000 * q.2 by omega) (show fac * q.1 * th * th + 1000000 * q.2 ≤ 1000000000000000000 by omega), wsmall (show -1000000000000000000 ≤ fac * q.1 * th * th + 1000000 * q.2 - 1 by omega) (show fac * q.1 * th * th + 1000000 * q.2 - 1 ≤ 1000000000000000000 by omega), Int.tdiv_eq_ediv_of_nonneg z0, wsmall (show -1000000000000000000 ≤ (fac * q.1 * th * th + 1000000 * q.2 - 1) / (1000000 * q.2) by omega) (show (fac * q.1 * th * th + 1000000 * q.2 - 1) / (1000000 * q.2) ≤ 1000000000000000000 by omega), Option.bind_some]
section
variable (o : List ByteArray) (mt : List S70) (s : List S27) (p : List S89) (a4 a5 a6 : Int) (r : List Int)
theorem rAnn (kn : List S94) (fac n below soak th limit : Int) : Ev (fun k => r5_Anneals.f k kn fac o mt s p a4 a5 a6 r n below soak th limit) (annV kn fac (ValV o mt s p a4 a5 a6 r n) below soak th limit) := by
 unfold r5_Anneals.f annV
 by_cases h : lehrV kn fac = 0
 ·simp only [if_pos h]
  obtain ⟨H, hf⟩ := lehr_facts h
  refine Ev.bind (rValue o mt s p a4 a5 a6 r n) ?_
  have hle := ValV_le o mt s p a4 a5 a6 r n
  generalize ValV o mt s p a4 a5 a6 r n = V at *
  by_cases h1 : V.2.2 = 0
  ·simp only [if_pos h1]
   have hle := hle h1
   by_cases h2 : annB below soak th limit = true
   ·simp only [if_pos h2]
    by_cases h3 : (decide (below ≤ V.1) && decide (V.2.1 ≤ 10000)) = true
    ·simp only [if_pos h3]
     simp only [annB, inB, Bool.and_eq_true, decide_eq_true_eq] at h2 h3
     refine Ev.bind (rheld H fac (by omega)) ?_
     by_cases h4 : soak ≤ heldV kn V.2.1
     ·simp only [if_pos h4, wsmall (show -1000000000000000000 ≤ V.1 - below by omega) (show V.1 - below ≤ 1000000000000000000 by omega)]
      obtain ⟨R, r1, r2⟩ := rsteep H fac (V.1 - below) V.2.1
      refine Ev.bind r2 ?_
      simp only [rstrain H hf (show 1 ≤ th ∧ th ≤ 2000 by omega) (V.1 - below) V.2.1 r1, Option.bind_some]
      exact Ev.const _
     ·simp only [if_neg h4]; exact Ev.const _
    ·simp only [if_neg h3]; exact Ev.const _
   ·simp only [if_neg h2]; exact Ev.const _
  ·simp only [if_neg h1]; exact Ev.const _
 ·simp only [if_neg h]; exact Ev.const _
end
def shockV (V : Int × Int × Int) (d : Int) : Int × Int × Int := if V.2.2 = 0 then (if inB d 0 1000 = true then (35 * max V.1 0 * d / 78, (35 * max V.2.1 0 * d + 77) / 78, 0) else (0, 0, 1)) else (0, 0, V.2.2)
theorem mx_max0 (a : Int) : mx a 0 = max a 0 := by unfold mx; split <;> omega
section
variable (o : List ByteArray) (mt : List S70) (s : List S27) (p : List S89) (a4 a5 a6 : Int) (r : List Int)
end
theorem fl78 (x : Int) (h1 : -1000000000 ≤ x) (h2 : x ≤ 1000000000) : st_floored.f x 78 = some (x / 78) := by
 unfold st_floored.f
 rw [if_neg (show ¬ (78 : Int) = 0 by decide)]
 have e := Int.mul_tdiv_add_tmod x 78
 have hm : Int.tmod x 78 < 78 := Int.tmod_lt_of_pos x (by decide)
 by_cases hx : 0 ≤ x
 ·have h0 := Int.tmod_nonneg 78 hx
  rw [if_neg (by omega), Int.tdiv_eq_ediv_of_nonneg hx, wsmall (by omega) (by omega)]
 ·have hn : -78 < Int.tmod x 78 := by
   have := Int.tmod_lt_of_pos (-x) (show (0 : Int) < 78 by decide)
   rw [Int.neg_tmod] at this
   omega
  have hp : Int.tmod x 78 ≤ 0 := by
   have := Int.tmod_nonneg 78 (show 0 ≤ -x by omega)
   rw [Int.neg_tmod] at this
   omega
  generalize Int.tmod x 78 = m at *
  generalize Int.tdiv x 78 = q at *
  by_cases h3 : m < 0
  ·rw [if_pos h3, wsmall (x := q) (by omega) (by omega), wsmall (by omega) (by omega)]
   congr 1; omega
  ·rw [if_neg h3, wsmall (by omega) (by omega)]
   congr 1; omega
theorem ra78 (x : Int) (h1 : -1000000000 ≤ x) (h2 : x ≤ 1000000000) : st_raised.f x 78 = some ((x + 77) / 78) := by
 unfold st_raised.f
 rw [wsmall (x := -x) (by omega) (by omega), fl78 (-x) (by omega) (by omega), Option.bind_some, wsmall (by omega) (by omega)]
 congr 1; omega
section
variable (o : List ByteArray) (mt : List S70) (s : List S27) (p : List S89) (a4 a5 a6 : Int) (r : List Int)
theorem ValV_range (n : Int) (h : (ValV o mt s p a4 a5 a6 r n).2.2 = 0) : (-10000 ≤ (ValV o mt s p a4 a5 a6 r n).1 ∧ (ValV o mt s p a4 a5 a6 r n).1 ≤ 10000) ∧ (-10000 ≤ (ValV o mt s p a4 a5 a6 r n).2.1 ∧ (ValV o mt s p a4 a5 a6 r n).2.1 ≤ 10000) := by
 revert h
 unfold ValV
 split
 ·rename_i ha
  obtain ⟨H, hr⟩ := ask_ok ha
  split
  ·rename_i h1
   split
   ·intro h; cases h
   ·rename_i h2
    intro _
    obtain ⟨C, hl⟩ := pro_cf H h1
    exact mean_range (gramL_ok H hr) (by rw [gramL_len]; exact C) (lowW_pos H hr h2)
  ·intro h; cases h
 ·intro h; exact absurd h (by assumption)
theorem rShock (n d : Int) : Ev (fun k => r5_Shock.f k o mt s p a4 a5 a6 r n d) (shockV (ValV o mt s p a4 a5 a6 r n) d) := by
 unfold r5_Shock.f
 refine Ev.bind (rValue o mt s p a4 a5 a6 r n) ?_
 have hr := ValV_range o mt s p a4 a5 a6 r n
 generalize ValV o mt s p a4 a5 a6 r n = V at *
 unfold shockV
 by_cases h1 : V.2.2 = 0
 ·simp only [if_pos h1]
  by_cases hd' : inB d 0 1000 = true
  ·simp only [if_pos hd']
   have hd := hd'
   simp only [inB, Bool.and_eq_true, decide_eq_true_eq] at hd
   have key : ∀ x : Int, -10000 ≤ x → x ≤ 10000 → 0 ≤ 35 * max x 0 * d ∧ 35 * max x 0 * d ≤ 350000000 := by
    intro x _ _
    have a := Int.mul_le_mul (show 35 * max x 0 ≤ 350000 by omega) hd.2 hd.1 (by omega)
    have b := Int.mul_nonneg (show 0 ≤ 35 * max x 0 by omega) hd.1
    omega
   have g1 := (hr h1).1
   have g2 := (hr h1).2
   have k1 := key V.1 g1.1 g1.2
   have k2 := key V.2.1 g2.1 g2.2
   simp only [mx_max0, r5_down.f, r5_up.f, if_neg (show ¬ (78 : Int) = 0 by decide), Option.bind_some]
   rw [wsmall (x := 35 * max V.1 0) (by omega) (by omega), wsmall (x := 35 * max V.2.1 0) (by omega) (by omega)]
   generalize 35 * max V.1 0 * d = x at *
   generalize 35 * max V.2.1 0 * d = y at *
   rw [wsmall (x := x) (by omega) (by omega), wsmall (x := y) (by omega) (by omega), wsmall (x := y + 78) (by omega) (by omega), wsmall (x := y + 78 - 1) (by omega) (by omega), Int.tdiv_eq_ediv_of_nonneg k1.1, Int.tdiv_eq_ediv_of_nonneg (show 0 ≤ y + 78 - 1 by omega), wsmall (x := x / 78) (by omega) (by omega), wsmall (x := (y + 78 - 1) / 78) (by omega) (by omega), show y + 78 - 1 = y + 77 by omega]
   exact Ev.const _
  ·simp only [if_neg hd']; exact Ev.const _
 ·simp only [if_neg h1]; exact Ev.const _
theorem xShock_ev (n d : Int) : Ev (fun k => x_Shock.f k o mt s p a4 a5 a6 r n d) (shockV (ValV o mt s p a4 a5 a6 r n) d) := by
 unfold x_Shock.f
 refine Ev.bind (bValue o mt s p a4 a5 a6 r n) ?_
 have hr := ValV_range o mt s p a4 a5 a6 r n
 generalize ValV o mt s p a4 a5 a6 r n = V at *
 unfold shockV
 by_cases h1 : V.2.2 = 0
 ·simp only [if_pos h1]
  by_cases hd : inB d 0 1000 = true
  ·simp only [if_pos hd]
   simp only [inB, Bool.and_eq_true, decide_eq_true_eq] at hd
   obtain ⟨⟨r1, r2⟩, r3, r4⟩ := hr h1
   have key : ∀ x : Int, -10000 ≤ x → x ≤ 10000 → -350000000 ≤ 35 * x * d ∧ 35 * x * d ≤ 350000000 ∧ (0 ≤ x → 0 ≤ 35 * x * d) ∧ (x ≤ 0 → 35 * x * d ≤ 0) := by
    intro x hx1 hx2
    have a := Int.mul_le_mul_of_nonneg_right (show 35 * x ≤ 350000 by omega) hd.1
    have b := Int.mul_le_mul_of_nonneg_right (show -350000 ≤ 35 * x by omega) hd.1
    exact ⟨by omega, by omega, fun h => Int.mul_nonneg (by omega) hd.1, fun h => Int.mul_nonpos_of_nonpos_of_nonneg (by omega) hd.1⟩
   obtain ⟨a1, a2, a3, a4'⟩ := key V.1 r1 r2
   obtain ⟨b1, b2, b3, b4⟩ := key V.2.1 r3 r4
   rw [wsmall (x := 35 * V.1) (by omega) (by omega), wsmall (x := 35 * V.2.1) (by omega) (by omega), wsmall (x := 35 * V.1 * d) (by omega) (by omega), wsmall (x := 35 * V.2.1 * d) (by omega) (by omega), fl78 _ (by omega) (by omega), ra78 _ (by omega) (by omega)]
   simp only [Option.bind_some]
   refine (Ev.const _).cast ?_
   have e1 : (if 35 * V.1 * d / 78 < 0 then 0 else 35 * V.1 * d / 78) = 35 * max V.1 0 * d / 78 := by
    by_cases h : 0 ≤ V.1
    ·rw [show max V.1 0 = V.1 by omega, if_neg (by have := a3 h; omega)]
    ·rw [show max V.1 0 = 0 by omega, Int.mul_zero, Int.zero_mul]
     have := a4' (by omega)
     split <;> omega
   have e2 : (if (35 * V.2.1 * d + 77) / 78 < 0 then 0 else (35 * V.2.1 * d + 77) / 78) = (35 * max V.2.1 0 * d + 77) / 78 := by
    by_cases h : 0 ≤ V.2.1
    ·rw [show max V.2.1 0 = V.2.1 by omega, if_neg (by have := b3 h; omega)]
    ·rw [show max V.2.1 0 = 0 by omega, Int.mul_zero, Int.zero_mul]
     have := b4 (by omega)
     split <;> omega
   rw [e1, e2]
  ·simp only [if_neg hd]; exact Ev.const _
 ·simp only [if_neg h1]; exact Ev.const _
end
end
section
def l5_exact.f (a0 : Int) : Option (Int × Int) := some (a0, a0)
theorem l5_exact.calls (a0 : Int) (r1 : Int) (r2 : Int) (w : World) (h : l5_exact.f a0 = some (r1, r2)) :
  Calls Tryz.prog 108 #[.int .i64 a0] w fun e w' => e = .returned (.agg #[.int .i64 r1, .int .i64 r2]) ∧ Below w.heap.size w w' := by
 have hu27 := Tryz.underlying27; have HB := Sd.mk (Below.refl w.heap.size w)
 have H : (some (a0, a0)) = some (r1, r2) := h
 clear h
 simp only [Option.some.injEq, Prod.mk.injEq] at H
 obtain ⟨rfl, rfl⟩ := H
 go_enter Tryz.func108, Tryz.ntmps108
 go_wp2_with (first | ((with_reducible refine gate_dst (N := 2) rfl ?_); refine box_event ?hg (N := 2) ?hd (cs := #[.int .i64 0, .int .i64 0]) (t := 27) ?hr ?_; (case hd => rfl); (case hg => rfl); (case hr => exact tG); intro gb343 hg w2 hbox hb; have BK343 := Sd.mk (hbox); have GW343 := Sd.mk (bSz hg (bBl HB.out)); have GE343 := Sd.mk (bSz hg (bBl HB.out)); replace HB := Sd.mk (below_step (bBl HB.out) hb); clear hb hbox hg; obtain ⟨u3_0, u3_1, o3_0, o3_1⟩ := bc2 (w := w2) BK343.out))
 refine bodyPost_ret (results_cell_row rfl _ _ gb343 27 #[.int .i64 a0, .int .i64 a0] (0, 0) _ rfl (by refine bkZ ?_; refine blk_put (cs := #[.int .i64 a0, .int .i64 0]) ?_ 1 _ rfl; refine bkZ ?_; refine blk_put (cs := #[.int .i64 0, .int .i64 0]) ?_ 0 _ rfl; refine bkZ ?_; exact BK343.out) Tryz.underlying27 rfl (by kernel_rfl)) rfl ?_
 exact ⟨tE, bBl HB.out⟩
end
section
def l5_Example.f  : Option ((List (S92)) × Int × Int) := (l5_exact.f 300).bind fun bt345 => ((l5_exact.f 1000).bind fun bt347 => ((l5_exact.f 1000).bind fun bt349 => ((l5_exact.f 1000).bind fun bt351 => ((l5_exact.f 500).bind fun bt353 => (some ((([(⟨(⟨bt345.1, bt345.2⟩ : S27), (⟨bt347.1, bt347.2⟩ : S27), (⟨bt349.1, bt349.2⟩ : S27), (⟨bt351.1, bt351.2⟩ : S27), (⟨bt353.1, bt353.2⟩ : S27)⟩ : S92)] : List (S92))), 10, 40000000000))))))
theorem l5_Example.calls  (r1 : List (S92)) (r2 : Int) (r3 : Int) (w : World) (h : l5_Example.f  = some (r1, r2, r3)) :
  Calls Tryz.prog 36 #[] w fun e w' => ∃ v0_ : Value, e = .returned (.agg #[v0_, .int .i64 r2, .int .i64 r3]) ∧ Kd.R k92 92 w' w.heap.size (fun _ => True) v0_ r1 ∧ Below w.heap.size w w' := by
 have hu73 := Tryz.underlying73; have hu92 := Tryz.underlying92; have HB := Sd.mk (Below.refl w.heap.size w)
 have H : ((l5_exact.f 300).bind fun bt345 => ((l5_exact.f 1000).bind fun bt347 => ((l5_exact.f 1000).bind fun bt349 => ((l5_exact.f 1000).bind fun bt351 => ((l5_exact.f 500).bind fun bt353 => (some ((([(⟨(⟨bt345.1, bt345.2⟩ : S27), (⟨bt347.1, bt347.2⟩ : S27), (⟨bt349.1, bt349.2⟩ : S27), (⟨bt351.1, bt351.2⟩ : S27), (⟨bt353.1, bt353.2⟩ : S27)⟩ : S92)] : List (S92))), 10, 40000000000))))))) = some (r1, r2, r3) := h
 clear h; replace H := Option.bind_eq_some_iff.mp H
 obtain ⟨⟨t345, t346⟩, A10, H⟩ := H
 try dsimp only at H
 have A1 := Sd.mk A10; clear A10; replace H := Option.bind_eq_some_iff.mp H
 obtain ⟨⟨t347, t348⟩, A20, H⟩ := H
 try dsimp only at H
 have A2 := Sd.mk A20; clear A20; replace H := Option.bind_eq_some_iff.mp H
 obtain ⟨⟨t349, t350⟩, A30, H⟩ := H
 try dsimp only at H
 have A3 := Sd.mk A30; clear A30; replace H := Option.bind_eq_some_iff.mp H
 obtain ⟨⟨t351, t352⟩, A40, H⟩ := H
 try dsimp only at H
 have A4 := Sd.mk A40; clear A40; replace H := Option.bind_eq_some_iff.mp H
 obtain ⟨⟨t353, t354⟩, A50, H⟩ := H
 try dsimp only at H
 have A5 := Sd.mk A50; clear A50
 obtain ⟨y355, hy355⟩ : ∃ y_ : List (S92), y_ = (([(⟨(⟨t345, t346⟩ : S27), (⟨t347, t348⟩ : S27), (⟨t349, t350⟩ : S27), (⟨t351, t352⟩ : S27), (⟨t353, t354⟩ : S27)⟩ : S92)] : List (S92))) := ⟨_, rfl⟩
 replace H : (some (y355, 10, 40000000000)) = some (r1, r2, r3) := by first | (rw [hy355]; with_reducible exact H) | (have H2_ := (Option.bind_some _ _).symm.trans H; rw [hy355]; with_reducible exact H2_) | (have H2_ := (Option.bind_some _ _).symm.trans H; with_reducible exact H2_) | with_reducible exact H | (rw [hy355]; exact H) | exact H
 have Ny355 := Sd.mk hy355; clear hy355
 simp only [Option.some.injEq, Prod.mk.injEq] at H
 obtain ⟨rfl, rfl, rfl⟩ := H
 go_enter Tryz.func36, Tryz.ntmps36
 go_wp2_with (first | ((with_reducible refine gate_dst (N := 0) rfl ?_); refine box_event ?hg (N := 0) ?hd (cs := #[.slice none 0 0, .int .i64 0, .int .i64 0]) (t := 73) ?hr ?_; (case hd => rfl); (case hg => rfl); (case hr => exact tG); intro gb344 hg w6 hbox hb; have BK344 := Sd.mk (hbox); have GW344 := Sd.mk (bSz hg (bBl HB.out)); have GE344 := Sd.mk (bSz hg (bBl HB.out)); replace HB := Sd.mk (below_step (bBl HB.out) hb); clear hb hbox hg) | ((with_reducible refine gate_callee (f := 108) rfl ?_); refine goesL_ (some 1) rfl rfl Tryz.func108 (by kernel_rfl) rfl #[.int .i64 300] rfl tM ?_; (with_reducible refine (l5_exact.calls 300 t345 t346 _ A1.out).mono ?_); rintro e w7 ⟨rfl, hb⟩; refine ⟨_, rfl, ?_⟩; replace BK344 := Sd.mk (blk_below (bkA BK344.out) hb); replace HB := Sd.mk (below_step (bBl HB.out) hb); (try clear hb); (try clear hb2); (try clear hk); (try clear hi)) | ((with_reducible refine gate_callee (f := 108) rfl ?_); refine goesL_ (some 2) rfl rfl Tryz.func108 (by kernel_rfl) rfl #[.int .i64 1000] rfl tM ?_; (with_reducible refine (l5_exact.calls 1000 t347 t348 _ A2.out).mono ?_); rintro e w8 ⟨rfl, hb⟩; refine ⟨_, rfl, ?_⟩; replace BK344 := Sd.mk (blk_below (bkA BK344.out) hb); replace HB := Sd.mk (below_step (bBl HB.out) hb); (try clear hb); (try clear hb2); (try clear hk); (try clear hi)) | ((with_reducible refine gate_callee (f := 108) rfl ?_); refine goesL_ (some 3) rfl rfl Tryz.func108 (by kernel_rfl) rfl #[.int .i64 1000] rfl tM ?_; (with_reducible refine (l5_exact.calls 1000 t349 t350 _ A3.out).mono ?_); rintro e w9 ⟨rfl, hb⟩; refine ⟨_, rfl, ?_⟩; replace BK344 := Sd.mk (blk_below (bkA BK344.out) hb); replace HB := Sd.mk (below_step (bBl HB.out) hb); (try clear hb); (try clear hb2); (try clear hk); (try clear hi)) | ((with_reducible refine gate_callee (f := 108) rfl ?_); refine goesL_ (some 4) rfl rfl Tryz.func108 (by kernel_rfl) rfl #[.int .i64 1000] rfl tM ?_; (with_reducible refine (l5_exact.calls 1000 t351 t352 _ A4.out).mono ?_); rintro e w10 ⟨rfl, hb⟩; refine ⟨_, rfl, ?_⟩; replace BK344 := Sd.mk (blk_below (bkA BK344.out) hb); replace HB := Sd.mk (below_step (bBl HB.out) hb); (try clear hb); (try clear hb2); (try clear hk); (try clear hi)) | ((with_reducible refine gate_callee (f := 108) rfl ?_); refine goesL_ (some 5) rfl rfl Tryz.func108 (by kernel_rfl) rfl #[.int .i64 500] rfl tM ?_; (with_reducible refine (l5_exact.calls 500 t353 t354 _ A5.out).mono ?_); rintro e w11 ⟨rfl, hb⟩; refine ⟨_, rfl, ?_⟩; replace BK344 := Sd.mk (blk_below (bkA BK344.out) hb); replace HB := Sd.mk (below_step (bBl HB.out) hb); (try clear hb); (try clear hb2); (try clear hk); (try clear hi)) | ((with_reducible refine gate_dst (N := 7) rfl ?_); refine Kd.R_lit k92 _ 92 ?hg (N := 7) ?hd (xs := ([(⟨(⟨t345, t346⟩ : S27), (⟨t347, t348⟩ : S27), (⟨t349, t350⟩ : S27), (⟨t351, t352⟩ : S27), (⟨t353, t354⟩ : S27)⟩ : S92)] : List (S92))) (inner := [.int .i64 t345, .int .i64 t346, .int .i64 t347, .int .i64 t348, .int .i64 t349, .int .i64 t350, .int .i64 t351, .int .i64 t352, .int .i64 t353, .int .i64 t354]) (ok := fun _ => True) (okp := fun _ => True) ?hr ?hp (fun _ hk => hk) trivial (Below.refl _ _) (Nat.le_refl _) (by simp) ?_; (case hd => rfl); (case hg => rfl); (case hr => exact tG); (case hp => exact (Reps.c10 (show Kd.M k92 _ _ _ (⟨(⟨t345, t346⟩ : S27), (⟨t347, t348⟩ : S27), (⟨t349, t350⟩ : S27), (⟨t351, t352⟩ : S27), (⟨t353, t354⟩ : S27)⟩ : S92) [.int .i64 t345, .int .i64 t346, .int .i64 t347, .int .i64 t348, .int .i64 t349, .int .i64 t350, .int .i64 t351, .int .i64 t352, .int .i64 t353, .int .i64 t354] from (k92_mkM _ _ _ (⟨(⟨t345, t346⟩ : S27), (⟨t347, t348⟩ : S27), (⟨t349, t350⟩ : S27), (⟨t351, t352⟩ : S27), (⟨t353, t354⟩ : S27)⟩ : S92) )) (Reps.none _ _))); intro v356 w12 ho13 hb hg_ hnew_; clear hg_ hnew_; (first | rw [← Ny355.out] at ho13 | (simp only [Int.reduceToNat] at ho13; rw [← Ny355.out] at ho13)); have HO357 := Sd.mk (Kd.R_lower ho13 (below_size (bBl HB.out))); replace BK344 := Sd.mk (blk_below (bkA BK344.out) hb); replace HB := Sd.mk (below_step (bBl HB.out) hb); clear hb ho13; obtain ⟨Ao14, co14, eo14⟩ := Kd.R_slice HO357.out; subst eo14; obtain ⟨u15_0, u15_1, u15_2, o15_0, o15_1, o15_2⟩ := bc3 (w := w12) BK344.out))
 refine bodyPost_ret (results_cell_row rfl _ _ gb344 73 #[.slice Ao14 y355.length co14, .int .i64 10, .int .i64 40000000000] (0, 0) _ rfl (by refine bkZ ?_; refine blk_put (cs := #[.slice Ao14 y355.length co14, .int .i64 10, .int .i64 0]) ?_ 2 _ rfl; refine bkZ ?_; refine blk_put (cs := #[.slice Ao14 y355.length co14, .int .i64 0, .int .i64 0]) ?_ 1 _ rfl; refine bkZ ?_; refine blk_put (cs := #[.slice none 0 0, .int .i64 0, .int .i64 0]) ?_ 0 _ rfl; refine bkZ ?_; exact BK344.out) Tryz.underlying73 rfl (by kernel_rfl)) rfl ?_
 exact ⟨_, tE, by (with_reducible repeat (first | apply Kd.R_alloc | apply Kd.R_drewN | apply Kd.R_drew)); exact Kd.R_mono (Kd.R_far (p := ⟨gb344, 2, none⟩) (Kd.R_far (p := ⟨gb344, 1, none⟩) (Kd.R_far (p := ⟨gb344, 0, none⟩) (Kd.R_types HO357.out BK344.out (by decide)) (fun _ hk => hk.2) (.slice Ao14 y355.length co14)) (fun _ hk => hk.2) (.int .i64 10)) (fun _ hk => hk.2) (.int .i64 40000000000)) (fun _ hk => trivial), bBl HB.out⟩
end
section
variable {F : Fence} {n : Nat} {P : Program}
def roundPostP (P : Program) (l : Nat) (R : Ending → World → Prop) : Exit → Act → World → Prop
  | .normal, _, w => ∃ v w', (Instr.endRound l none).run P w = .ok v w' ∧ R (.returned v) w'
  | .panic ch, a, w => a.defers = [] ∧ R (.panicked ch) w
  | _, _, _ => False
theorem roundIn_of_wpInP {l : Nat} {f : FuncId} {tmps : Array Value} {assign body : Code} {w : World} {R : Ending → World → Prop} (hF : F.fn f) (hPf : (∃ ch w', R (.panicked ch) w') → ∃ fn, P.funcs[f]? = some fn)
    (h : assign.wpIn (F.inRound l) n P (Exit.then (fun a₁ w₁ => ∃ w₂, (Instr.beginRound l).run P w₁ = .ok () w₂ ∧ body.wpIn (F.inRound l) n P (roundPostP P l R) a₁ w₂) (fun _ _ _ => False))
      { tmps := tmps, defers := [] } w) :
    RoundIn F n P l f tmps assign body w R := by
  refine ⟨hF, fun c cs hr => ?_⟩
  let b : Frame := { (default : Frame) with fn := f, kind := .normal, roundOf := some l }
  have hb0 : Frame.round l f tmps assign body .normal = b.atR { tmps := tmps, defers := [] } [.code assign, .beginRound, .code body] := by
    simp [Frame.round, Frame.atR, b]
  have hr' : (F.inRound l).room ((c :: cs).length + 1 + n) := hr
  have hF' : (F.inRound l).fn b.fn := hF
  obtain ⟨e, a₁, w₁, hq, harr⟩ := h b [.beginRound, .code body] (c :: cs) rfl hF' hr'
  rw [← hb0] at harr
  cases e with
  | normal =>
    obtain ⟨w₂, hbr, hbody⟩ := hq
    have s1 : StepsIn (Machine.fenced P (F.inRound l)) P (lone (b.atR a₁ [.beginRound, .code body]) (c :: cs) w₁) (lone (b.atR a₁ [.code body]) (c :: cs) w₂) :=
      .one (fenced_calm (fr := b.atR a₁ [.beginRound, .code body]) hF' hr' rfl) (stepR_beginRound rfl hbr)
    obtain ⟨e₂, a₂, w₃, hq₂, harr₂⟩ := hbody b [] (c :: cs) rfl hF' hr'
    cases e₂ with
    | normal =>
      obtain ⟨v, w₄, hend, hR⟩ := hq₂
      exact ⟨.returned v, w₄, hR, (StepsIn.trans harr s1).trans (StepsIn.trans harr₂ (.one (fenced_calm (fr := b.atR a₂ []) hF' hr' rfl) (stepR_round_end rfl rfl hend)))⟩
    | panic chain =>
      obtain ⟨hd, hR⟩ := hq₂
      obtain ⟨todo, hs⟩ := harr₂
      have hleave : Frame.leaving P { b.atR a₂ todo with mode := .panicking chain } w₃ (.panicked chain) := ⟨rfl, hd, hPf ⟨_, _, hR⟩⟩
      have hl : (lone { b.atR a₂ todo with mode := .panicking chain } (c :: cs) w₃).fenced P (F.inRound l) := fenced_leaving (n := n) hF' hr' hleave
      exact ⟨.panicked chain, w₃, hR, (StepsIn.trans harr s1).trans (StepsIn.trans hs (.one hl (step_leave_panicked hleave)))⟩
    | ret => exact hq₂.elim
    | exit id => exact hq₂.elim
    | goto t => exact hq₂.elim
    | outgrown => exact hq₂.elim
  | exit id => exact hq.elim
  | goto t => exact hq.elim
  | ret => exact hq.elim
  | panic chain => exact hq.elim
  | outgrown => exact hq.elim
def bodyPostP (B : Nat) (I : Nat → World → Prop) (Ip : List PanicEntry → World → Prop) (k : Nat) (W : World) : Exit → Act → World → Prop
  | .normal, _, W' => W.heap.size ≤ W'.heap.size ∧ (∀ j, B ≤ j → j < B + 2 → W'.heap[j]? = W.heap[j]?) ∧ I k W'
  | .panic ch, a, W' => a.defers = [] ∧ W.heap.size ≤ W'.heap.size ∧ (∀ j, B ≤ j → j < B + 2 → W'.heap[j]? = W.heap[j]?) ∧ Ip ch W'
  | _, _, _ => False
theorem wpIn_rangeFuncP {g : Operand} {ps : Array Tmp} {assign body : Code} {Q : Exit → Act → World → Prop} {a : Act} {w : World} {N : Nat} {encs : Nat → Array Value}
    (hro : F.round = none) (h1 : 1 ≤ n) {gf : Nat} {lb : Array Value} (hg : a.eval g = .func (.func gf) #[] lb) (hFg : F.fn gf) (eg : ∀ args w, (callFunc gf args).run P w = .ok (.enter gf args) w)
    (hps : ∀ k, (encs k).size = ps.size) (I : Nat → World → Prop) (Ip : List PanicEntry → World → Prop)
    (hIa : ∀ k W o, I k W → I k (W.alloc o)) (hIp : ∀ k W o (r : Loop), W.heap[w.heap.size + 1]? = some (.loop r) → I k W → I k (W.putObj (w.heap.size + 1) o)) (h0 : I 0 w)
    (hseq : ∀ (l : Nat) (J : Nat → World → Prop) (Jp : List PanicEntry → World → Prop) (W : World), (∀ k W o, J k W → J k (W.alloc o)) → (∀ k W, J k W → I k W) →
      (∀ k W1, k < N → J k W1 → YieldAt F (n - 1 - 1) P l (encs k) W1 fun e W' => (e = .returned (.bool true) ∧ J (k + 1) W') ∨ (∃ ch, e = .panicked ch ∧ Jp ch W')) → J 0 W →
      CallsIn F (n - 1) P gf (#[.func (.yield l) #[] #[]] ++ lb) W fun e W' => (∃ v, e = .returned v ∧ J N W') ∨ (∃ ch, e = .panicked ch ∧ Jp ch W'))
    (hround : ∀ (l : Nat) (k : Nat) (W : World), w.heap.size + 1 < W.heap.size → (∃ r : Loop, W.heap[w.heap.size + 1]? = some (.loop r)) → k < N → I k W → ∀ (st : Act → World → Prop),
      (∀ a' W', W.heap.size ≤ W'.heap.size → (∀ j, w.heap.size ≤ j → j < w.heap.size + 2 → W'.heap[j]? = W.heap[j]?) →
        (∀ o, body.wpIn (F.inRound l) (n - 1 - 1) P (bodyPostP w.heap.size I Ip (k + 1) (W'.putObj (w.heap.size + 1) o)) a' (W'.putObj (w.heap.size + 1) o)) → st a' W') →
      assign.wpIn (F.inRound l) (n - 1 - 1) P (Exit.then st (fun _ _ _ => False)) { tmps := (ps.zip (encs k)).foldl (fun t (p, v) => t.setIfInBounds p v) a.tmps, defers := [] } W)
    (hfn : (∃ ch W, Ip ch W) → ∀ fn, F.fn fn → ∃ c, P.funcs[fn]? = some c)
    (hdone : ∀ W, I N W → W.heap[w.heap.size]? = some (.deferred (some [])) → Q .normal { a with defers := { target := .collected w.heap.size, args := #[] } :: a.defers } W)
    (hpanic : ∀ ch W, Ip ch W → W.heap[w.heap.size]? = some (.deferred (some [])) → Q (.panic ch) { a with defers := { target := .collected w.heap.size, args := #[] } :: a.defers } W) :
    (Code.rangeFunc g ps assign body).wpIn F n P Q a w := by
  refine wpIn_rangeFunc ?_
  intro fn hfn'
  rw [hro]
  obtain ⟨rec, hrec⟩ : ∃ rec : LoopState → Option Code → Loop, rec = fun st pe => { state := st, pending := pe, fn, tmps := a.tmps, params := ps, assign, body, defers := w.heap.size } := ⟨_, rfl⟩
  obtain ⟨W1, hW1⟩ : ∃ W1, (w.alloc (.deferred (some []))).alloc (.loop (rec .ready none)) = W1 := ⟨_, rfl⟩
  have hL1 : W1.heap[w.heap.size + 1]? = some (.loop (rec .ready none)) := by
    rw [← hW1]; have := World.alloc_heap_new (w.alloc (.deferred (some []))) (.loop (rec .ready none)); rwa [World.size_alloc] at this
  have hK1 : W1.heap[w.heap.size]? = some (.deferred (some [])) := by
    rw [← hW1]; exact (Below.heap_alloc _ _ _ (by simp)).trans (World.alloc_heap_new w _)
  have hI1 : I 0 W1 := by rw [← hW1]; exact hIa _ _ _ (hIa _ _ _ h0)
  refine ⟨w.heap.size + 1, [{ target := .collected w.heap.size, args := #[] }], W1, { target := .fn (.func gf) lb, args := #[.func (.yield (w.heap.size + 1)) #[] #[]] }, W1, gf,
    #[.func (.yield (w.heap.size + 1)) #[] #[]] ++ lb, W1, ?_, ?_, ?_, ?_, fun _ => h1, ?_⟩
  · rw [← hW1, hrec]; exact run_enterLoop_outer _ _ _ _ _
  · simp only [resolve, hg]
    simp [go_sem]
  · intro f' hf'; simp [Target.leads] at hf'; subst hf'; exact hFg
  · simp [invoke, go_sem, eg]
  · have hal : ∀ (W : World) (j : Nat) (x : Obj) (o : Obj), W.heap[j]? = some x → (W.alloc o).heap[j]? = some x := fun W j x o h =>
      (Below.heap_alloc W o j (Array.getElem?_eq_some_iff.1 h).1).trans h
    refine (hseq (w.heap.size + 1)
      (fun k W => I k W ∧ W.heap[w.heap.size + 1]? = some (.loop (rec .ready none)) ∧ W.heap[w.heap.size]? = some (.deferred (some [])))
      (fun ch W => Ip ch W ∧ W.heap[w.heap.size]? = some (.deferred (some [])))
      W1 (fun k W o h => ⟨hIa _ _ _ h.1, hal _ _ _ _ h.2.1, hal _ _ _ _ h.2.2⟩) (fun k W h => h.1) ?_ ⟨hI1, hL1, hK1⟩).mono ?_
    · rintro k W hk ⟨hi, hl, hd⟩
      have hlt : w.heap.size + 1 < W.heap.size := (Array.getElem?_eq_some_iff.1 hl).1
      have hy := run_yield (P := P) (args := encs k) hl (by rw [hrec]; exact hps k)
      rw [hrec] at hy
      refine ⟨fn, _, assign, body, hy, roundIn_of_wpInP hfn' (fun ⟨ch, W', h⟩ => hfn (by rcases h with ⟨h, _⟩ | ⟨ch', _, h, _⟩; cases h; exact ⟨_, _, h⟩) fn hfn') (hround _ k W hlt ⟨_, hl⟩ hk hi _ ?_)⟩
      clear hy
      intro a' Wa hsz hsame hb
      have hla : Wa.heap[w.heap.size + 1]? = some (.loop (rec .ready none)) := (hsame _ (by omega) (by omega)).trans hl
      have hda : Wa.heap[w.heap.size]? = some (.deferred (some [])) := (hsame _ (by omega) (by omega)).trans hd
      have hlta : w.heap.size + 1 < Wa.heap.size := by omega
      refine ⟨_, run_beginRound hla (by rw [hrec]), ?_⟩
      refine wpIn_mono (hb _) ?_
      have hl2 : (Wa.putObj (w.heap.size + 1) (.loop { rec .ready none with state := .busy })).heap[w.heap.size + 1]? = some (.loop { rec .ready none with state := .busy }) := World.putObj_heap_same hlta
      have hk2 : (Wa.putObj (w.heap.size + 1) (.loop { rec .ready none with state := .busy })).heap[w.heap.size]? = some (.deferred (some [])) := (World.putObj_heap_other (by omega)).trans hda
      rintro e a3 W3 hp
      cases e with
      | normal =>
        obtain ⟨hs3, hsame3, hi3⟩ := hp
        have hl3 := (hsame3 _ (by omega) (by omega)).trans hl2
        have hk3 := (hsame3 _ (by omega) (by omega)).trans hk2
        have hr := run_endRound (P := P) none hl3
        have hlt3 := (Array.getElem?_eq_some_iff.1 hl3).1
        rw [hrec] at hr ⊢
        exact ⟨_, _, hr, .inl ⟨rfl, hIp _ _ _ _ hl3 hi3, World.putObj_heap_same hlt3, (World.putObj_heap_other (by omega)).trans hk3⟩⟩
      | panic ch =>
        obtain ⟨hd3, hs3, hsame3, hi3⟩ := hp
        exact ⟨hd3, .inr ⟨ch, rfl, hi3, (hsame3 _ (by omega) (by omega)).trans hk2⟩⟩
      | ret => exact hp.elim
      | exit id => exact hp.elim
      | goto t => exact hp.elim
      | outgrown => exact hp.elim
    · rintro e W2 (⟨v, rfl, hi, hl, hk⟩ | ⟨ch, rfl, hi, hk⟩)
      · have hlt := (Array.getElem?_eq_some_iff.1 hl).1
        exact ⟨none, _, by have := run_endLoop (P := P) hl (by rw [hrec]; simp); rw [hrec] at this; exact this, hdone _ (hIp _ _ _ _ hl hi) ((World.putObj_heap_other (by omega)).trans hk)⟩
      · exact hpanic ch _ hi hk
end
section
open Go.RowKit Go.Shelf Go.Proofs.YtljfljekcpdpiaaGreatW.PrintWords Go.Proofs.YtljfljekcpdpiaaGreatW.PrintLast Go.Proofs.YtljfljekcpdpiaaGreatW.PrintMore
attribute [local go_sem] Oper.semAt_some
def ringV (x : S92) : Value := .agg #[.int .i64 x.f0.f0, .int .i64 x.f0.f1, .int .i64 x.f1.f0, .int .i64 x.f1.f1, .int .i64 x.f2.f0, .int .i64 x.f2.f1, .int .i64 x.f3.f0, .int .i64 x.f3.f1, .int .i64 x.f4.f0, .int .i64 x.f4.f1]
def ringC (x : S92) : Obj := .cells #[.int .i64 x.f0.f0, .int .i64 x.f0.f1, .int .i64 x.f1.f0, .int .i64 x.f1.f1, .int .i64 x.f2.f0, .int .i64 x.f2.f1, .int .i64 x.f3.f0, .int .i64 x.f3.f1, .int .i64 x.f4.f0, .int .i64 x.f4.f1] 92
theorem demand_okI (F : Fence) (n : Nat) (hF : F.fn 65) (hro : F.round = none) (e : Int) (w : World) : CallsIn F n Tryz.prog 65 #[.bool true, .int .i64 e] w fun en w' => en = .returned (.tuple #[]) ∧ w' = w := by
  refine callsIn_of_wp Tryz.func65 rfl hF ?_ hro
  simp only [Tryz.ntmps65, List.size_toArray, List.length_cons, List.length_nil, Nat.reduceAdd, Nat.reduceSub, Array.replicate_succ, Array.replicate_zero, List.push_toArray, List.append_toArray, List.nil_append, List.cons_append]
  gi_wp2
  go_end0
  exact ⟨rfl, rfl⟩
theorem demand_noI (F : Fence) (n : Nat) (hF : F.fn 65) (hro : F.round = none) (e : Int) (w : World) : CallsIn F n Tryz.prog 65 #[.bool false, .int .i64 e] w fun en w' => en = .panicked (failC e) ∧ w' = w := by
  refine callsIn_of_wp Tryz.func65 rfl hF ?_ hro
  simp only [Tryz.ntmps65, List.size_toArray, List.length_cons, List.length_nil, Nat.reduceAdd, Nat.reduceSub, Array.replicate_succ, Array.replicate_zero, List.push_toArray, List.append_toArray, List.nil_append, List.cons_append]
  gi_wp2
  simp [bodyPost, failC, failV]
theorem withinI (F : Fence) (n : Nat) (hF : F.fn 66) (hro : F.round = none) (x lo hi : Int) (w : World) : CallsIn F n Tryz.prog 66 #[.int .i64 x, .int .i64 lo, .int .i64 hi] w fun e w' => e = .returned (.bool (inB x lo hi)) ∧ w' = w := by
  refine callsIn_of_wp Tryz.func66 rfl hF ?_ hro
  simp only [Tryz.ntmps66, List.size_toArray, List.length_cons, List.length_nil, Nat.reduceAdd, Nat.reduceSub, Array.replicate_succ, Array.replicate_zero, List.push_toArray, List.append_toArray, List.nil_append, List.cons_append]
  cases h : decide (x ≥ lo) with
  | true =>
    gi_wp2
    go_ret
    simp at h
    exact ⟨by (simp [inB, h]) <;> (intros; omega), rfl⟩
  | false =>
    gi_wp2
    go_ret
    simp at h
    exact ⟨by (simp [inB, h]) <;> (intros; omega), rfl⟩
theorem spanI (F : Fence) (n : Nat) (hF : F.fn 155) (hro : F.round = none) (a b lo hi : Int) (w : World) : CallsIn F n Tryz.prog 155 #[.agg #[.int .i64 a, .int .i64 b], .int .i64 lo, .int .i64 hi] w fun e w' => e = .returned (.bool (spanB a b lo hi)) ∧ w' = w.alloc (.cells #[.int .i64 a, .int .i64 b] 27) := by
  refine callsIn_of_wp Tryz.func155 rfl hF ?_ hro
  simp only [Tryz.ntmps155, List.size_toArray, List.length_cons, List.length_nil, Nat.reduceAdd, Nat.reduceSub, Array.replicate_succ, Array.replicate_zero, List.push_toArray, List.append_toArray, List.nil_append, List.cons_append]
  have hb := blk_new w (.cells #[.int .i64 a, .int .i64 b] 27)
  have hx0 : (w.alloc (.cells #[.int .i64 a, .int .i64 b] 27)).cell? ⟨w.heap.size, 0, none⟩ = some (.int .i64 a) := (blk_cell hb 0).trans rfl
  have hx1 : (w.alloc (.cells #[.int .i64 a, .int .i64 b] 27)).cell? ⟨w.heap.size, 0 + 1, none⟩ = some (.int .i64 b) := (blk_cell hb 1).trans rfl
  cases h : decide (a ≥ lo) with
  | true =>
    cases h2 : decide (a ≤ b) with
    | true =>
      gi_wp2
      go_ret
      simp at h h2
      exact ⟨by (simp [spanB, h, h2]) <;> (intros; omega), rfl⟩
    | false =>
      gi_wp2
      go_ret
      simp at h h2
      exact ⟨by (simp [spanB, h, h2]) <;> (intros; omega), rfl⟩
  | false =>
    gi_wp2
    go_ret
    simp at h
    exact ⟨by (simp [spanB, h]) <;> (intros; omega), rfl⟩
theorem rings_callsI (F : Fence) (n : Nat) (hF : F.fn 111) (hro : F.round = none) (v1 v2 v3 : Value) (w : World) :
    CallsIn F n Tryz.prog 111 #[.agg #[v1, v2, v3]] w fun e w' => e = .returned (.func (.func 187) #[] #[.pointer (some ⟨w.heap.size, 0, none⟩)]) ∧ w' = w.alloc (.cells #[v1, v2, v3] 73) := by
  have hmf := run_makeFunc_
  refine callsIn_of_wp Tryz.func111 rfl hF ?_ hro
  simp only [Tryz.ntmps111, List.size_toArray, List.length_cons, List.length_nil, Nat.reduceAdd, Nat.reduceSub, Array.replicate_succ, Array.replicate_zero, List.push_toArray, List.append_toArray, List.nil_append, List.cons_append]
  gi_wp2
  go_ret
  exact ⟨rfl, rfl⟩
theorem rings1_in (F : Fence) (n : Nat) (hF : F.fn 187) (hro : F.round = none) (hn : 1 ≤ n) (l Bs : Nat) (A : Option Addr) (cap : Nat) (v2 v3 : Value) (zs : List S92) (J : Nat → World → Prop) (Jp : List PanicEntry → World → Prop) (W : World)
    (hBs : W.heap[Bs]? = some (.cells #[.slice A zs.length cap, v2, v3] 73 (0, 0)))
    (hJa : ∀ k W o, J k W → J k (W.alloc o)) (hJC : ∀ k W, J k W → Kd.C k92 W A zs.length zs)
    (hY : ∀ k W1, k < zs.length → J k W1 → YieldAt F (n - 1) Tryz.prog l #[.int .i64 k, ringV (rd_T92 zs k)] W1 fun e W' => (e = .returned (.bool true) ∧ J (k + 1) W') ∨ (∃ ch, e = .panicked ch ∧ Jp ch W'))
    (h0 : J 0 W) :
    CallsIn F n Tryz.prog 187 #[.func (.yield l) #[] #[], .pointer (some ⟨Bs, 0, none⟩)] W fun e W' => (∃ v, e = .returned v ∧ J zs.length W') ∨ (∃ ch, e = .panicked ch ∧ Jp ch W') := by
  have hc0 : W.cell? ⟨Bs, 0, none⟩ = some (.slice A zs.length cap) := (blk_cell hBs 0).trans rfl
  refine callsIn_of_wp Tryz.func187 rfl hF ?_ hro
  simp only [Tryz.ntmps187, List.size_toArray, List.length_cons, List.length_nil, Nat.reduceAdd, Nat.reduceSub, Array.replicate_succ, Array.replicate_zero, List.push_toArray, List.append_toArray, List.nil_append, List.cons_append]
  gi_wp2
  gi_loopw [8] (fun i wr => ∃ k : Nat, k ≤ zs.length ∧ i = .int .i64 k ∧ J k wr) (fun i _ => zs.length - (intOf i).toNat)
  case atStart => exact ⟨0, Nat.zero_le _, rfl, h0⟩
  case round =>
    obtain ⟨k, hk, rfl, hJs⟩ := hrel
    by_cases hlt : k < zs.length
    · obtain ⟨ad, rfl, g0, g1, g2, g3, g4, g5, g6, g7, g8, g9⟩ := at_T92 (hJC k wr hJs) k (by omega) (by omega)
      have hmax := Kd.C_max (hJC k wr hJs)
      have hwr : wrap64 ((k : Int) + 1) = (k : Int) + 1 := by unfold wrap64; omega
      simp only [Int.toNat_natCast] at g0 g1 g2 g3 g4 g5 g6 g7 g8 g9
      obtain ⟨fn, tmps, assign, body, hy, hR⟩ := hY _ (wr.alloc (ringC (rd_T92 zs k))) hlt (hJa _ _ _ hJs)
      unfold ringC ringV at hy
      gi_wp2
      refine hR.mono ?_
      rintro e W3 (⟨rfl, hJ3⟩ | ⟨ch, rfl, hJp⟩)
      · gi_wp2
        go_roundw
        case rel => exact ⟨k + 1, by omega, by simp, hJ3⟩
        case measure => simp [intOf]; omega
      · gi_wp2
        exact ⟨rfl, .inr ⟨ch, rfl, hJp⟩⟩
    · obtain rfl : k = zs.length := by omega
      gi_wp2
      go_end0
      exact .inl ⟨_, rfl, hJs⟩
end
end Go.Proofs.YtljfljekcpdpiaaGreat.PB
