import Derived.Test.YtljfljekcpdpiaaGreatD1
import Derived.Deep.RegionWith
import Derived.Deep.DeepCutAuto
set_option linter.unusedVariables false
set_option linter.unusedSimpArgs false
set_option maxHeartbeats 8000000
set_option maxRecDepth 1000000
namespace Go.Proofs.YtljfljekcpdpiaaGreat.PB
open Go.RowKit Go.Proofs.YtljfljekcpdpiaaGreatW.PrintWords Go.Proofs.YtljfljekcpdpiaaGreatW.PrintLast Go.Proofs.YtljfljekcpdpiaaGreatW.PrintMore
open Go.Sort (putRow Holds)
section
attribute [local go_sem] max2_int min2_int max_two min_two
theorem wrap_id {x : Int} (h1 : -9223372036854775808 ≤ x) (h2 : x ≤ 9223372036854775807) : wrap64 x = x := by unfold wrap64; omega
theorem down_f (n d : Int) (hd : 0 < d) (hn1 : -1000000000000000000 ≤ n) (hn2 : n ≤ 1000000000000000000) : b_down.f n d = some (n / d) := by
  unfold b_down.f
  rw [if_neg (by omega)]
  have hq : Int.tdiv n d = if 0 ≤ n then n / d else -((-n) / d) := by
    split
    · rename_i h; exact Int.tdiv_eq_ediv_of_nonneg h
    · rename_i h
      have := Int.neg_tdiv (a := -n) (b := d)
      rw [Int.neg_neg] at this
      rw [this, Int.tdiv_eq_ediv_of_nonneg (by omega)]
  have hr : Int.tmod n d = n - d * Int.tdiv n d := by have := Int.mul_tdiv_add_tmod n d; omega
  have e1 := Int.mul_ediv_add_emod n d
  have e2 := Int.emod_nonneg n (show d ≠ 0 by omega)
  have e3 := Int.emod_lt_of_pos n hd
  have f1 := Int.mul_ediv_add_emod (-n) d
  have f2 := Int.emod_nonneg (-n) (show d ≠ 0 by omega)
  have f3 := Int.emod_lt_of_pos (-n) hd
  have habs : ∀ m : Int, -1000000000000000000 ≤ m → m ≤ 1000000000000000000 → -1000000000000000000 ≤ m / d ∧ m / d ≤ 1000000000000000000 := by
    intro m h1 h2
    constructor
    · exact (Int.le_ediv_iff_mul_le hd).2 (by have := Int.mul_le_mul_of_nonpos_left (show (-1000000000000000000 : Int) ≤ 0 by omega) (show (1:Int) ≤ d by omega); omega)
    · by_cases hm : 0 ≤ m
      · exact Int.le_trans (Int.ediv_le_self _ hm) h2
      · have : m / d < 0 := Int.ediv_neg_of_neg_of_pos (by omega) hd
        omega
  have g1 := habs n hn1 hn2
  have g2 := habs (-n) (by omega) (by omega)
  by_cases h0 : 0 ≤ n
  · rw [if_pos h0] at hq
    rw [hq] at hr ⊢
    rw [if_neg (by omega), wrap_id (by omega) (by omega)]
  · rw [if_neg h0] at hq
    rw [hq] at hr ⊢
    rw [wrap_id (x := -(-n / d)) (by omega) (by omega)]
    by_cases hz : Int.tmod n d < 0
    · rw [if_pos hz, wrap_id (by omega) (by omega)]
      congr 1
      have h1 : n - d * (-(-n / d)) < 0 := by omega
      have h2 : d * (-(-n/d)) = -(d * (-n / d)) := Int.mul_neg ..
      have h3 : d * (n / d + (-n) / d) = -(n % d + (-n) % d) := by rw [Int.mul_add]; omega
      have h4 : n / d + (-n) / d < 0 := by
        apply Int.not_le.1; intro hle
        have := Int.mul_nonneg (show 0 ≤ d by omega) hle
        omega
      have h5 : -2 < n / d + (-n) / d := by
        apply Int.not_le.1; intro hle
        have := Int.mul_le_mul_of_nonneg_left hle (show 0 ≤ d by omega)
        omega
      omega
    · rw [if_neg hz]
      congr 1
      have h2 : d * (-(-n/d)) = -(d * (-n / d)) := Int.mul_neg ..
      have h3 : d * (n / d + (-n) / d) = -(n % d + (-n) % d) := by rw [Int.mul_add]; omega
      have hs : (-n) % d = 0 := by omega
      have hs2 : n % d = 0 := by
        have hdv : d ∣ -n := Int.dvd_of_emod_eq_zero hs
        exact Int.emod_eq_zero_of_dvd (Int.dvd_neg.1 hdv)
      have h4 : d * (n / d + (-n) / d) = 0 := by omega
      rcases Int.mul_eq_zero.1 h4 with h | h <;> omega
theorem up_f (n d : Int) (hd : 0 < d) (hn1 : -1000000000000000000 ≤ n) (hn2 : n ≤ 1000000000000000000) : b_up.f n d = some (-((-n) / d)) := by
  unfold b_up.f
  rw [wrap_id (by omega) (by omega), down_f (-n) d hd (by omega) (by omega)]
  simp only [Option.bind_some]
  congr 1
  apply wrap_id
  · have : -n / d ≤ 1000000000000000000 := by
      by_cases hm : 0 ≤ -n
      · exact Int.le_trans (Int.ediv_le_self _ hm) (by omega)
      · have : -n / d < 0 := Int.ediv_neg_of_neg_of_pos (by omega) hd
        omega
    omega
  · have : -1000000000000000000 ≤ -n / d := (Int.le_ediv_iff_mul_le hd).2 (by have := Int.mul_le_mul_of_nonpos_left (show (-1000000000000000000 : Int) ≤ 0 by omega) (show (1:Int) ≤ d by omega); omega)
    omega
def sumTo (f : Nat → Int) : Nat → Int
  | 0 => 0
  | n + 1 => sumTo f n + f n
theorem sumTo_bound {f : Nat → Int} {M : Int} {n : Nat} (h : ∀ j, j < n → -M ≤ f j ∧ f j ≤ M) : ∀ k, k ≤ n → -(k * M) ≤ sumTo f k ∧ sumTo f k ≤ k * M := by
  intro k
  induction k with
  | zero => intro _; simp [sumTo]
  | succ k ih =>
    intro hk
    have h1 := ih (by omega)
    have h2 := h k (by omega)
    have h3 : ((k + 1 : Nat) : Int) * M = k * M + M := by rw [Int.natCast_succ, Int.add_mul, Int.one_mul]
    rw [h3]
    simp only [sumTo]
    omega
theorem sumTo_pos {f : Nat → Int} {n : Nat} (h : ∀ j, j < n → 0 ≤ f j) : ∀ k, k ≤ n → 0 ≤ sumTo f k := by
  intro k
  induction k with
  | zero => intro _; simp [sumTo]
  | succ k ih => intro hk; have := ih (by omega); have := h k (by omega); simp only [sumTo]; omega
def wX (l : List S27) (D : Array Int) (cut j : Nat) : Int := if (j : Int) < (cut : Int) then (rd_T27 l D[j]!).f1 else (rd_T27 l D[j]!).f0
def wY (l : List S27) (D : Array Int) (cut j : Nat) : Int := if (j : Int) < (cut : Int) then (rd_T27 l D[j]!).f0 else (rd_T27 l D[j]!).f1
def lowN (cf : Int → Int) (l : List S27) (D : Array Int) (cut : Nat) : Nat → Int := sumTo fun j => cf D[j]! * wX l D cut j
def lowD (l : List S27) (D : Array Int) (cut : Nat) : Nat → Int := sumTo (wX l D cut)
def highN (cf : Int → Int) (l : List S27) (D : Array Int) (cut : Nat) : Nat → Int := sumTo fun j => cf D[j]! * wY l D cut j
def highD (l : List S27) (D : Array Int) (cut : Nat) : Nat → Int := sumTo (wY l D cut)
def lowQ (cf : Int → Int) (l : List S27) (D : Array Int) (cut : Nat) : Int := lowN cf l D cut l.length / lowD l D cut l.length
def highQ (cf : Int → Int) (l : List S27) (D : Array Int) (cut : Nat) : Int := -((-highN cf l D cut l.length) / highD l D cut l.length)
def minF (F : Nat → Int) : Nat → Int
  | 0 => F 0
  | n + 1 => if F (n + 1) < minF F n then F (n + 1) else minF F n
def maxF (F : Nat → Int) : Nat → Int
  | 0 => F 0
  | n + 1 => if maxF F n < F (n + 1) then F (n + 1) else maxF F n
def atCut (F : Nat → Int) (g : (Nat → Int) → Nat → Int) : Nat → Int
  | 0 => 0
  | n + 1 => g F n
def orderOf (cf : Int → Int) (n : Nat) : Array Int := Sort.insertionSort (ltC fun a b => cf a - cf b) (Array.ofFn fun j : Fin n => (j.val : Int)) 0 n
def meanLo (cf : Int → Int) (l : List S27) : Int := minF (lowQ cf l (orderOf cf l.length)) l.length
def meanHi (cf : Int → Int) (l : List S27) : Int := maxF (highQ cf l (orderOf cf l.length)) l.length
structure MeanOk (cf : Int → Int) (l : List S27) : Prop where
  n12 : l.length ≤ 12
  lo : ∀ k : Int, 0 ≤ k → k < l.length → 0 ≤ (rd_T27 l k).f0
  le : ∀ k : Int, 0 ≤ k → k < l.length → (rd_T27 l k).f0 ≤ (rd_T27 l k).f1
  hi : ∀ k : Int, 0 ≤ k → k < l.length → (rd_T27 l k).f1 ≤ 1000000000
  c1 : ∀ k : Int, 0 ≤ k → k < l.length → -100000 ≤ cf k
  c2 : ∀ k : Int, 0 ≤ k → k < l.length → cf k ≤ 100000
  pos : 0 < MeanMath.lsum S27.f0 l
end
section
open Go.RowKit Go.Proofs.YtljfljekcpdpiaaGreatW.PrintWords Go.Proofs.YtljfljekcpdpiaaGreatW.PrintLast Go.Proofs.YtljfljekcpdpiaaGreatW.PrintMore
mutual
def b_name.j0 : Nat → ByteArray → Bool → Option (Bool)
 | 0, _, _ => none
 | k + 1, x0, x22 => if x22 = true then (some false) else (b_name.l0 k x0 (x0.size : Int) 0)
def b_name.l0 : Nat → ByteArray → Int → Int → Option (Bool)
 | 0, _, _, _ => none
 | k + 1, x0, x24, x25 => if x25 < x24 then (if 0 ≤ x25 then (if x25 < (x0.size : Int) then (if (bt x0 x25) ≥ 97 then (if (bt x0 x25) ≤ 122 then (b_name.l0 k x0 x24 (wrap64 (x25 + 1))) else (if (bt x0 x25) ≥ 48 then (if (bt x0 x25) ≤ 57 then (b_name.l0 k x0 x24 (wrap64 (x25 + 1))) else (if ((bt x0 x25) = 45) then (b_name.l0 k x0 x24 (wrap64 (x25 + 1))) else (some false))) else (if ((bt x0 x25) = 45) then (b_name.l0 k x0 x24 (wrap64 (x25 + 1))) else (some false)))) else (if (bt x0 x25) ≥ 48 then (if (bt x0 x25) ≤ 57 then (b_name.l0 k x0 x24 (wrap64 (x25 + 1))) else (if ((bt x0 x25) = 45) then (b_name.l0 k x0 x24 (wrap64 (x25 + 1))) else (some false))) else (if ((bt x0 x25) = 45) then (b_name.l0 k x0 x24 (wrap64 (x25 + 1))) else (some false)))) else (none)) else (none)) else (some true)
end
def b_name.f (k : Nat) (a0 : ByteArray) : Option (Bool) := if (a0.size : Int) < 1 then (b_name.j0 k a0 true) else (if (a0.size : Int) > 16 then (b_name.j0 k a0 true) else (if 0 < (a0.size : Int) then (if (bt a0 0) < 97 then (b_name.j0 k a0 true) else (b_name.j0 k a0 (decide ((bt a0 0) > 122)))) else (none)))
theorem b_name.mono_l : ∀ k, (∀ y0 y1, LeO (b_name.j0 k y0 y1) (b_name.j0 (k + 1) y0 y1)) ∧ (∀ y0 y1 y2, LeO (b_name.l0 k y0 y1 y2) (b_name.l0 (k + 1) y0 y1 y2))
 | 0 => ⟨fun _ _ r h => by simp [b_name.j0] at h, fun _ _ _ r h => by simp [b_name.l0] at h⟩
 | k + 1 => by
  obtain ⟨ih0, ih1⟩ := b_name.mono_l k
  refine ⟨?_, ?_⟩
  ·intro y0 y1
   unfold b_name.j0
   repeat' first
   | (with_reducible exact ih0 _ _)
   | (with_reducible exact ih1 _ _ _)
   | (with_reducible exact LeO.refl _)
   | (with_reducible exact LeO.none _)
   | (with_reducible refine LeO.ite ?_ ?_)
   | (with_reducible refine LeO.bind ?_ (fun _ => ?_))
   | exact LeO.none _
   | refine LeO.ite ?_ ?_
   | refine LeO.bind ?_ (fun _ => ?_)
  ·intro y0 y1 y2
   unfold b_name.l0
   repeat' first
   | (with_reducible exact ih0 _ _)
   | (with_reducible exact ih1 _ _ _)
   | (with_reducible exact LeO.refl _)
   | (with_reducible exact LeO.none _)
   | (with_reducible refine LeO.ite ?_ ?_)
   | (with_reducible refine LeO.bind ?_ (fun _ => ?_))
   | exact LeO.none _
   | refine LeO.ite ?_ ?_
   | refine LeO.bind ?_ (fun _ => ?_)
theorem b_name.mono : ∀ a0 k, LeO (b_name.f k a0) (b_name.f (k + 1) a0) := by
 intro a0 k
 obtain ⟨ih0, ih1⟩ := b_name.mono_l k
 unfold b_name.f
 repeat' first
   | (with_reducible exact ih0 _ _)
   | (with_reducible exact ih1 _ _ _)
   | (with_reducible exact LeO.refl _)
   | (with_reducible exact LeO.none _)
   | (with_reducible refine LeO.ite ?_ ?_)
   | (with_reducible refine LeO.bind ?_ (fun _ => ?_))
   | exact LeO.none _
   | refine LeO.ite ?_ ?_
   | refine LeO.bind ?_ (fun _ => ?_)
theorem b_name.calls (k : Nat) (a0 : ByteArray) (r : Bool) (w : World) (h : b_name.f k a0 = some r) :
  Calls Tryz.prog 102 #[.string a0] w fun e w' => e = .returned (.bool r) ∧ Drawn0 w w' := by
 have H : (if (a0.size : Int) < 1 then (b_name.j0 k a0 true) else (if (a0.size : Int) > 16 then (b_name.j0 k a0 true) else (if 0 < (a0.size : Int) then (if (bt a0 0) < 97 then (b_name.j0 k a0 true) else (b_name.j0 k a0 (decide ((bt a0 0) > 122)))) else (none)))) = some r := h
 clear h; have HC2 := Sd.mk H; clear H
 go_enter Tryz.func102, Tryz.ntmps102
 go_upto_region 1 with (fail)
 go_cut [22] (fun v22 wc => ∃ (kq : Nat) (x22_1 : Bool), v22 = .bool x22_1 ∧ Sd (b_name.j0 kq a0 x22_1 = some r) ∧ Sd (kq ≤ k) ∧ Drawn0 w wc)
 case first =>
  have H := HC2.out; clear HC2
  by_cases c3 : (a0.size : Int) < 1
  ·rw [if_pos c3] at H
   have c3b0 : decide ((a0.size : Int) < 1) = true := decide_eq_true c3
   have c3b1 : decide (a0.size < 1) = true := decide_eq_true (by omega)
   clear c3
   (first | rw [c3b0] | (simp only [i64_w, i32_w]; rw [c3b0]) | skip)
   have H' := Sd.mk H; clear H
   go_wp2
   go_meet
   case rel => exact ⟨_, (true), tS, H', ⟨by first | omega | exact Nat.le_refl _⟩, by repeat (first | exact Drawn0.refl _ | apply Drawn0.step)⟩
  ·rw [if_neg c3] at H
   have c3b0 : decide ((a0.size : Int) < 1) = false := decide_eq_false c3
   have c3b1 : decide (a0.size < 1) = false := decide_eq_false (by omega)
   clear c3
   (first | rw [c3b0] | (simp only [i64_w, i32_w]; rw [c3b0]) | skip)
   by_cases c4 : (a0.size : Int) > 16
   ·rw [if_pos c4] at H
    have c4b0 : decide (16 < (a0.size : Int)) = true := decide_eq_true c4
    have c4b1 : decide (16 < a0.size) = true := decide_eq_true (by omega)
    clear c4; have H' := Sd.mk H; clear H
    go_wp2
    go_meet
    case rel => exact ⟨_, (true), tS, H', ⟨by first | omega | exact Nat.le_refl _⟩, by repeat (first | exact Drawn0.refl _ | apply Drawn0.step)⟩
   ·rw [if_neg c4] at H
    have c4b0 : decide (16 < (a0.size : Int)) = false := decide_eq_false c4
    have c4b1 : decide (16 < a0.size) = false := decide_eq_false (by omega)
    clear c4
    by_cases c5 : 0 < (a0.size : Int)
    ·rw [if_pos c5] at H
     have c5b0 : decide (0 < (a0.size : Int)) = true := decide_eq_true c5
     have c5b1 : decide (0 < a0.size) = true := decide_eq_true (by omega)
     clear c5
     by_cases c7 : (bt a0 0) < 97
     ·rw [if_pos c7] at H
      have c7b0 : decide ((bt a0 0) < 97) = true := decide_eq_true c7
      clear c7; have H' := Sd.mk H; clear H
      have p6 : 0 ≤ (0 : Int) := (by omega)
      have q6 : 0 < a0.size := (by have : (0 : Int) < (a0.size : Int) := tB; omega)
      have hx6 : ∀ h : 0 < a0.size, ((a0[0]'h).toNat : Int) = bt a0 0 := bt_at a0 0
      clear p6
      have qi6 : (0 < (a0.size : Int)) = True := eq_true (tB)
      replace q6 := eq_true q6
      go_wp2
      go_meet
      case rel => exact ⟨_, (true), tS, H', ⟨by first | omega | exact Nat.le_refl _⟩, by repeat (first | exact Drawn0.refl _ | apply Drawn0.step)⟩
     ·rw [if_neg c7] at H
      have c7b0 : decide ((bt a0 0) < 97) = false := decide_eq_false c7
      clear c7; have H' := Sd.mk H; clear H
      have p6 : 0 ≤ (0 : Int) := (by omega)
      have q6 : 0 < a0.size := (by have : (0 : Int) < (a0.size : Int) := tB; omega)
      have hx6 : ∀ h : 0 < a0.size, ((a0[0]'h).toNat : Int) = bt a0 0 := bt_at a0 0
      clear p6
      have qi6 : (0 < (a0.size : Int)) = True := eq_true (tB)
      replace q6 := eq_true q6
      have p8 : 0 ≤ (0 : Int) := (by omega)
      have q8 : 0 < a0.size := (by have : (0 : Int) < (a0.size : Int) := tB; omega)
      have hx8 : ∀ h : 0 < a0.size, ((a0[0]'h).toNat : Int) = bt a0 0 := bt_at a0 0
      clear p8
      have qi8 : (0 < (a0.size : Int)) = True := eq_true (tB)
      replace q8 := eq_true q8
      go_wp2
      go_meet
      case rel => exact ⟨_, (decide ((bt a0 0) > 122)), tS, H', ⟨by first | omega | exact Nat.le_refl _⟩, by repeat (first | exact Drawn0.refl _ | apply Drawn0.step)⟩
    ·rw [if_neg c5] at H
     exact absurd H (by simp)
 case rest =>
  clear HC2; (try clear c1); (try clear p2); (try clear c3); (try clear c3b0); (try clear c3b1); (try clear c4); (try clear c4b0); (try clear c4b1); (try clear c5); (try clear c5b0); (try clear c5b1); (try clear p6 p6); (try clear q6 q6); (try clear hx6); (try clear qi6); (try clear c7); (try clear c7b0); (try clear p8 p8); (try clear q8 q8); (try clear hx8); (try clear qi8)
  obtain ⟨kq, x22_1, rfl, HA, HJ1, ⟨mc1, rfl⟩⟩ := hcut
  cases kq with
  | zero => exact absurd HA.out (by simp [b_name.j0])
  | succ kj1 =>
   have H := HA.out; clear HA
   simp only [b_name.j0] at H
   by_cases c9 : x22_1 = true
   ·subst c9
    have H1 : (some false) = some r := by rw [if_pos rfl] at H; exact H
    clear H; have H := H1; clear H1; obtain rfl := Option.some.inj H
    go_wp2
    go_ret
    exact ⟨by first | rfl | (simp; done) | (simp [*]; done), by repeat (first | exact Drawn0.refl _ | apply Drawn0.step)⟩
   ·replace c9 := Bool.eq_false_iff.mpr c9
    subst c9
    have H1 : (b_name.l0 kj1 a0 (a0.size : Int) 0) = some r := by rw [if_neg (show ¬ (false = true) by decide)] at H; exact H
    clear H; have H := H1; clear H1; have H' := Sd.mk H; clear H
    go_wp2
    go_loopg [25] kj1 (fun kq v25 w' => ∃ (x25_2 : Int), v25 = .int .i64 x25_2 ∧ Sd (b_name.l0 kq a0 (a0.size : Int) x25_2 = some r) ∧ Sd (kq ≤ kj1) ∧ Drawn0 w w')
    case atStart => exact ⟨(0), tS, H', ⟨Nat.le_refl _⟩, by repeat (first | exact Drawn0.refl _ | apply Drawn0.step)⟩
    case round =>
     clear H'; (try clear c1); (try clear p2 p2); (try clear c3); (try clear c3b0); (try clear c3b1); (try clear c4); (try clear c4b0); (try clear c4b1); (try clear c5); (try clear c5b0); (try clear c5b1); (try clear p6 p6); (try clear q6 q6); (try clear hx6); (try clear qi6); (try clear c7); (try clear c7b0); (try clear p8 p8); (try clear q8 q8); (try clear hx8); (try clear qi8); (try clear c9)
     obtain ⟨x25_2, rfl, HA, HK2, ⟨m2, rfl⟩⟩ := hrel
     cases gk with
     | zero => exact absurd HA.out (by simp [b_name.l0])
     | succ k2 =>
      have H := HA.out; clear HA
      simp only [b_name.l0] at H
      by_cases c10 : x25_2 < (a0.size : Int)
      ·rw [if_pos c10] at H
       have c10b0 : decide (x25_2 < (a0.size : Int)) = true := decide_eq_true c10
       clear c10
       by_cases c11 : 0 ≤ x25_2
       ·rw [if_pos c11] at H
        have c11b0 : decide (0 ≤ x25_2) = true := decide_eq_true c11
        clear c11
        by_cases c12 : x25_2 < (a0.size : Int)
        ·rw [if_pos c12] at H
         have c12b0 : decide (x25_2 < (a0.size : Int)) = true := decide_eq_true c12
         clear c12
         by_cases c14 : (bt a0 x25_2) ≥ 97
         ·rw [if_pos c14] at H
          have c14b0 : decide (97 ≤ (bt a0 x25_2)) = true := decide_eq_true c14
          clear c14
          by_cases c15 : (bt a0 x25_2) ≤ 122
          ·rw [if_pos c15] at H
           have c15b0 : decide ((bt a0 x25_2) ≤ 122) = true := decide_eq_true c15
           clear c15; have H' := Sd.mk H; clear H
           have p13 : 0 ≤ (x25_2 : Int) := tB
           have q13 : x25_2 < (a0.size : Int) := tB
           have hx13 := bt_at a0 x25_2; replace p13 := eq_true p13; replace q13 := eq_true q13
           go_wp2
           go_roundg k2
           case measure => have := HJ1.out; have := HK2.out; omega
           case rel => exact ⟨(wrap64 (x25_2 + 1)), tS, H', ⟨by have := HJ1.out; have := HK2.out; omega⟩, by repeat (first | exact Drawn0.refl _ | apply Drawn0.step)⟩
          ·rw [if_neg c15] at H
           have c15b0 : decide ((bt a0 x25_2) ≤ 122) = false := decide_eq_false c15
           clear c15
           by_cases c16 : (bt a0 x25_2) ≥ 48
           ·rw [if_pos c16] at H
            have c16b0 : decide (48 ≤ (bt a0 x25_2)) = true := decide_eq_true c16
            clear c16
            by_cases c17 : (bt a0 x25_2) ≤ 57
            ·rw [if_pos c17] at H
             have c17b0 : decide ((bt a0 x25_2) ≤ 57) = true := decide_eq_true c17
             clear c17; have H' := Sd.mk H; clear H
             have p13 : 0 ≤ (x25_2 : Int) := tB
             have q13 : x25_2 < (a0.size : Int) := tB
             have hx13 := bt_at a0 x25_2; replace p13 := eq_true p13; replace q13 := eq_true q13
             go_wp2
             go_roundg k2
             case measure => have := HJ1.out; have := HK2.out; omega
             case rel => exact ⟨(wrap64 (x25_2 + 1)), tS, H', ⟨by have := HJ1.out; have := HK2.out; omega⟩, by repeat (first | exact Drawn0.refl _ | apply Drawn0.step)⟩
            ·rw [if_neg c17] at H
             have c17b0 : decide ((bt a0 x25_2) ≤ 57) = false := decide_eq_false c17
             clear c17
             by_cases c18 : ((bt a0 x25_2) = 45)
             ·rw [if_pos c18] at H
              have c18b0 : ((bt a0 x25_2) == 45) = true := beq_iff_eq.mpr c18
              have c18b1 : ((bt a0 x25_2) != 45) = false := bne_eq_false_iff_eq.mpr c18
              clear c18; have H' := Sd.mk H; clear H
              have p13 : 0 ≤ (x25_2 : Int) := tB
              have q13 : x25_2 < (a0.size : Int) := tB
              have hx13 := bt_at a0 x25_2; replace p13 := eq_true p13; replace q13 := eq_true q13
              go_wp2
              go_roundg k2
              case measure => have := HJ1.out; have := HK2.out; omega
              case rel => exact ⟨(wrap64 (x25_2 + 1)), tS, H', ⟨by have := HJ1.out; have := HK2.out; omega⟩, by repeat (first | exact Drawn0.refl _ | apply Drawn0.step)⟩
             ·rw [if_neg c18] at H
              have c18b0 : ((bt a0 x25_2) == 45) = false := beq_eq_false_iff_ne.mpr c18
              have c18b1 : ((bt a0 x25_2) != 45) = true := bne_iff_ne.mpr c18
              obtain rfl := Option.some.inj H
              have p13 : 0 ≤ (x25_2 : Int) := tB
              have q13 : x25_2 < (a0.size : Int) := tB
              have hx13 := bt_at a0 x25_2; replace p13 := eq_true p13; replace q13 := eq_true q13
              go_wp2
              go_ret
              exact ⟨by first | rfl | (simp; done) | (simp [*]; done), by repeat (first | exact Drawn0.refl _ | apply Drawn0.step)⟩
           ·rw [if_neg c16] at H
            have c16b0 : decide (48 ≤ (bt a0 x25_2)) = false := decide_eq_false c16
            clear c16
            by_cases c19 : ((bt a0 x25_2) = 45)
            ·rw [if_pos c19] at H
             have c19b0 : ((bt a0 x25_2) == 45) = true := beq_iff_eq.mpr c19
             have c19b1 : ((bt a0 x25_2) != 45) = false := bne_eq_false_iff_eq.mpr c19
             clear c19; have H' := Sd.mk H; clear H
             have p13 : 0 ≤ (x25_2 : Int) := tB
             have q13 : x25_2 < (a0.size : Int) := tB
             have hx13 := bt_at a0 x25_2; replace p13 := eq_true p13; replace q13 := eq_true q13
             go_wp2
             go_roundg k2
             case measure => have := HJ1.out; have := HK2.out; omega
             case rel => exact ⟨(wrap64 (x25_2 + 1)), tS, H', ⟨by have := HJ1.out; have := HK2.out; omega⟩, by repeat (first | exact Drawn0.refl _ | apply Drawn0.step)⟩
            ·rw [if_neg c19] at H
             have c19b0 : ((bt a0 x25_2) == 45) = false := beq_eq_false_iff_ne.mpr c19
             have c19b1 : ((bt a0 x25_2) != 45) = true := bne_iff_ne.mpr c19
             obtain rfl := Option.some.inj H
             have p13 : 0 ≤ (x25_2 : Int) := tB
             have q13 : x25_2 < (a0.size : Int) := tB
             have hx13 := bt_at a0 x25_2; replace p13 := eq_true p13; replace q13 := eq_true q13
             go_wp2
             go_ret
             exact ⟨by first | rfl | (simp; done) | (simp [*]; done), by repeat (first | exact Drawn0.refl _ | apply Drawn0.step)⟩
         ·rw [if_neg c14] at H
          have c14b0 : decide (97 ≤ (bt a0 x25_2)) = false := decide_eq_false c14
          clear c14
          by_cases c20 : (bt a0 x25_2) ≥ 48
          ·rw [if_pos c20] at H
           have c20b0 : decide (48 ≤ (bt a0 x25_2)) = true := decide_eq_true c20
           clear c20
           by_cases c21 : (bt a0 x25_2) ≤ 57
           ·rw [if_pos c21] at H
            have c21b0 : decide ((bt a0 x25_2) ≤ 57) = true := decide_eq_true c21
            clear c21; have H' := Sd.mk H; clear H
            have p13 : 0 ≤ (x25_2 : Int) := tB
            have q13 : x25_2 < (a0.size : Int) := tB
            have hx13 := bt_at a0 x25_2; replace p13 := eq_true p13; replace q13 := eq_true q13
            go_wp2
            go_roundg k2
            case measure => have := HJ1.out; have := HK2.out; omega
            case rel => exact ⟨(wrap64 (x25_2 + 1)), tS, H', ⟨by have := HJ1.out; have := HK2.out; omega⟩, by repeat (first | exact Drawn0.refl _ | apply Drawn0.step)⟩
           ·rw [if_neg c21] at H
            have c21b0 : decide ((bt a0 x25_2) ≤ 57) = false := decide_eq_false c21
            clear c21
            by_cases c22 : ((bt a0 x25_2) = 45)
            ·rw [if_pos c22] at H
             have c22b0 : ((bt a0 x25_2) == 45) = true := beq_iff_eq.mpr c22
             have c22b1 : ((bt a0 x25_2) != 45) = false := bne_eq_false_iff_eq.mpr c22
             clear c22; have H' := Sd.mk H; clear H
             have p13 : 0 ≤ (x25_2 : Int) := tB
             have q13 : x25_2 < (a0.size : Int) := tB
             have hx13 := bt_at a0 x25_2; replace p13 := eq_true p13; replace q13 := eq_true q13
             go_wp2
             go_roundg k2
             case measure => have := HJ1.out; have := HK2.out; omega
             case rel => exact ⟨(wrap64 (x25_2 + 1)), tS, H', ⟨by have := HJ1.out; have := HK2.out; omega⟩, by repeat (first | exact Drawn0.refl _ | apply Drawn0.step)⟩
            ·rw [if_neg c22] at H
             have c22b0 : ((bt a0 x25_2) == 45) = false := beq_eq_false_iff_ne.mpr c22
             have c22b1 : ((bt a0 x25_2) != 45) = true := bne_iff_ne.mpr c22
             obtain rfl := Option.some.inj H
             have p13 : 0 ≤ (x25_2 : Int) := tB
             have q13 : x25_2 < (a0.size : Int) := tB
             have hx13 := bt_at a0 x25_2; replace p13 := eq_true p13; replace q13 := eq_true q13
             go_wp2
             go_ret
             exact ⟨by first | rfl | (simp; done) | (simp [*]; done), by repeat (first | exact Drawn0.refl _ | apply Drawn0.step)⟩
          ·rw [if_neg c20] at H
           have c20b0 : decide (48 ≤ (bt a0 x25_2)) = false := decide_eq_false c20
           clear c20
           by_cases c23 : ((bt a0 x25_2) = 45)
           ·rw [if_pos c23] at H
            have c23b0 : ((bt a0 x25_2) == 45) = true := beq_iff_eq.mpr c23
            have c23b1 : ((bt a0 x25_2) != 45) = false := bne_eq_false_iff_eq.mpr c23
            clear c23; have H' := Sd.mk H; clear H
            have p13 : 0 ≤ (x25_2 : Int) := tB
            have q13 : x25_2 < (a0.size : Int) := tB
            have hx13 := bt_at a0 x25_2; replace p13 := eq_true p13; replace q13 := eq_true q13
            go_wp2
            go_roundg k2
            case measure => have := HJ1.out; have := HK2.out; omega
            case rel => exact ⟨(wrap64 (x25_2 + 1)), tS, H', ⟨by have := HJ1.out; have := HK2.out; omega⟩, by repeat (first | exact Drawn0.refl _ | apply Drawn0.step)⟩
           ·rw [if_neg c23] at H
            have c23b0 : ((bt a0 x25_2) == 45) = false := beq_eq_false_iff_ne.mpr c23
            have c23b1 : ((bt a0 x25_2) != 45) = true := bne_iff_ne.mpr c23
            obtain rfl := Option.some.inj H
            have p13 : 0 ≤ (x25_2 : Int) := tB
            have q13 : x25_2 < (a0.size : Int) := tB
            have hx13 := bt_at a0 x25_2; replace p13 := eq_true p13; replace q13 := eq_true q13
            go_wp2
            go_ret
            exact ⟨by first | rfl | (simp; done) | (simp [*]; done), by repeat (first | exact Drawn0.refl _ | apply Drawn0.step)⟩
        ·rw [if_neg c12] at H
         exact absurd H (by simp)
       ·rw [if_neg c11] at H
        exact absurd H (by simp)
      ·rw [if_neg c10] at H
       have c10b0 : decide (x25_2 < (a0.size : Int)) = false := decide_eq_false c10
       clear c10; obtain rfl := Option.some.inj H
       go_wp2
       go_ret
       exact ⟨by first | rfl | (simp; done) | (simp [*]; done), by repeat (first | exact Drawn0.refl _ | apply Drawn0.step)⟩
end
end Go.Proofs.YtljfljekcpdpiaaGreat.PB
namespace Go.Proofs.YtljfljekcpdpiaaGreat.PB
open Go.RowKit Go.Proofs.YtljfljekcpdpiaaGreatW.PrintWords Go.Proofs.YtljfljekcpdpiaaGreatW.PrintLast Go.Proofs.YtljfljekcpdpiaaGreatW.PrintMore
def Ev {α : Type} (f : Nat → Option α) (v : α) : Prop := ∃ K, ∀ k, K ≤ k → f k = some v
namespace Ev
variable {α β : Type} {v u : α} {b : β}
theorem const (v : α) : Ev (fun _ => some v) v := ⟨0, fun _ _ => rfl⟩
theorem bind {f : Nat → Option α} {g : Nat → α → Option β} (h : Ev f v) (h' : Ev (fun k => g k v) b) : Ev (fun k => (f k).bind (g k)) b := by
  obtain ⟨K, h⟩ := h
  obtain ⟨K', h'⟩ := h'
  exact ⟨max K K', fun k hk => by show (f k).bind (g k) = some b; rw [h k (by omega)]; exact h' k (by omega)⟩
theorem step {f : Nat → Option α} (h : Ev (fun k => f (k + 1)) v) : Ev f v := by
  obtain ⟨K, h⟩ := h
  exact ⟨K + 1, fun k hk => by cases k with | zero => omega | succ k => exact h k (by omega)⟩
theorem cast {f : Nat → Option α} (h : Ev f v) (e : v = u) : Ev f u := e ▸ h
end Ev
theorem wrap_succ {i : Int} (h0 : 0 ≤ i) (h : i ≤ 1000000000) : wrap64 (i + 1) = i + 1 := wrap_id (by omega) (by omega)
def charB (c : Int) : Bool := decide (97 ≤ c ∧ c ≤ 122) || decide (48 ≤ c ∧ c ≤ 57) || decide (c = 45)
def nameFrom (x : ByteArray) : Nat → Int → Bool
  | 0, _ => true
  | m + 1, i => charB (bt x i) && nameFrom x m (i + 1)
def nameOk (x : ByteArray) : Bool := decide (1 ≤ x.size) && decide (x.size ≤ 16) && decide (97 ≤ bt x 0) && decide (bt x 0 ≤ 122) && nameFrom x x.size 0
theorem bname_l0 (x : ByteArray) (hx : x.size ≤ 16) : ∀ (m : Nat) (i : Int), 0 ≤ i → i + m = x.size → Ev (fun k => b_name.l0 k x x.size i) (nameFrom x m i)
  | 0, i, h0, hi => by
    apply Ev.step
    simp only [b_name.l0, if_neg (show ¬ i < (x.size : Int) by omega)]
    exact Ev.const _
  | m + 1, i, h0, hi => by
    have ih := bname_l0 x hx m (i + 1) (by omega) (by omega)
    apply Ev.step
    simp only [b_name.l0, if_pos (show i < (x.size : Int) by omega), if_pos h0, wrap_succ h0 (show i ≤ 1000000000 by omega)]
    by_cases h1 : bt x i ≥ 97 <;> by_cases h2 : bt x i ≤ 122 <;> by_cases h3 : bt x i ≥ 48 <;> by_cases h4 : bt x i ≤ 57 <;> by_cases h5 : bt x i = 45 <;> first
      | omega
      | (simp only [h1, h2, h3, h4, h5, if_true, if_false, ite_true, ite_false]
         first
           | exact ih.cast (by have hc : charB (bt x i) = true := (by simp only [charB, Bool.or_eq_true, decide_eq_true_eq]; omega); simp [nameFrom, hc])
           | exact (Ev.const false).cast (by have hc : charB (bt x i) = false := (by simp only [charB, Bool.or_eq_false_iff, decide_eq_false_iff_not]; omega); simp [nameFrom, hc]))
theorem bname (x : ByteArray) : Ev (fun k => b_name.f k x) (nameOk x) := by
  unfold b_name.f
  have hj : ∀ b : Bool, (b = false → x.size ≤ 16) → Ev (fun k => b_name.j0 k x b) (!b && nameFrom x x.size 0) := by
    intro b hb
    apply Ev.step
    cases b with
    | true => simp only [b_name.j0, if_true]; exact Ev.const _
    | false => simp only [b_name.j0, Bool.false_eq_true, if_false]; exact (bname_l0 x (hb rfl) x.size 0 (by omega) (by omega)).cast (by simp)
  by_cases h1 : (x.size : Int) < 1
  · simp only [if_pos h1]; exact (hj true (by simp)).cast (by simp [nameOk]; omega)
  · simp only [if_neg h1]
    by_cases h2 : (x.size : Int) > 16
    · simp only [if_pos h2]; exact (hj true (by simp)).cast (by simp [nameOk]; omega)
    · simp only [if_neg h2, if_pos (show 0 < (x.size : Int) by omega)]
      by_cases h3 : bt x 0 < 97
      · simp only [if_pos h3]; exact (hj true (by simp)).cast (by simp [nameOk]; omega)
      · simp only [if_neg h3]
        refine (hj _ (fun _ => by omega)).cast ?_
        by_cases h4 : bt x 0 > 122
        · simp [nameOk, h4]; try omega
        · have : 97 ≤ bt x 0 := by omega
          have : bt x 0 ≤ 122 := by omega
          have : x.size ≤ 16 := by omega
          have : 1 ≤ x.size := by omega
          simp [nameOk, *]
end Go.Proofs.YtljfljekcpdpiaaGreat.PB

namespace Go.Proofs.YtljfljekcpdpiaaGreat.PB
open Go.RowKit Go.Proofs.YtljfljekcpdpiaaGreatW.PrintWords Go.Proofs.YtljfljekcpdpiaaGreatW.PrintLast Go.Proofs.YtljfljekcpdpiaaGreatW.PrintMore
section
mutual
def rf_Name.j0 : Nat → ByteArray → Bool → Option (Bool)
 | 0, _, _ => none
 | k + 1, x0, x22 => if x22 = true then (some false) else (rf_Name.l0 k x0 0)
def rf_Name.l0 : Nat → ByteArray → Int → Option (Bool)
 | 0, _, _ => none
 | k + 1, x0, x3 => if x3 < (x0.size : Int) then (if 0 ≤ x3 then (if (bt x0 x3) ≥ 97 then (if (bt x0 x3) ≥ 48 then (if ((bt x0 x3) ≤ 122) then (rf_Name.l0 k x0 (wrap64 (x3 + 1))) else (if ((bt x0 x3) ≤ 57) then (rf_Name.l0 k x0 (wrap64 (x3 + 1))) else (if (bt x0 x3) = 45 then (rf_Name.l0 k x0 (wrap64 (x3 + 1))) else (some false)))) else (if ((bt x0 x3) ≤ 122) then (rf_Name.l0 k x0 (wrap64 (x3 + 1))) else (if (bt x0 x3) = 45 then (rf_Name.l0 k x0 (wrap64 (x3 + 1))) else (some false)))) else (if (bt x0 x3) ≥ 48 then (if ((bt x0 x3) ≤ 57) then (rf_Name.l0 k x0 (wrap64 (x3 + 1))) else (if (bt x0 x3) = 45 then (rf_Name.l0 k x0 (wrap64 (x3 + 1))) else (some false))) else (if (bt x0 x3) = 45 then (rf_Name.l0 k x0 (wrap64 (x3 + 1))) else (some false)))) else (none)) else (some true)
end
def rf_Name.f (k : Nat) (a0 : ByteArray) : Option (Bool) := if a0.toList = ([] : List UInt8) then (rf_Name.j0 k a0 true) else (if (a0.size : Int) > 16 then (rf_Name.j0 k a0 true) else (if 0 < (a0.size : Int) then (if (bt a0 0) < 97 then (rf_Name.j0 k a0 true) else (rf_Name.j0 k a0 (decide ((bt a0 0) > 122)))) else (none)))
theorem rf_Name.calls (k : Nat) (a0 : ByteArray) (r : Bool) (w : World) (h : rf_Name.f k a0 = some r) :
  Calls Tryz.prog 170 #[.string a0] w fun e w' => e = .returned (.bool r) ∧ Drawn0 w w' := by
 have H : (if a0.toList = ([] : List UInt8) then (rf_Name.j0 k a0 true) else (if (a0.size : Int) > 16 then (rf_Name.j0 k a0 true) else (if 0 < (a0.size : Int) then (if (bt a0 0) < 97 then (rf_Name.j0 k a0 true) else (rf_Name.j0 k a0 (decide ((bt a0 0) > 122)))) else (none)))) = some r := h
 clear h; have HC2 := Sd.mk H; clear H
 go_enter Tryz.func170, Tryz.ntmps170
 go_upto_region 1 with (fail)
 go_cut [22] (fun v22 wc => ∃ (kq : Nat) (x22_1 : Bool), v22 = .bool x22_1 ∧ Sd (rf_Name.j0 kq a0 x22_1 = some r) ∧ Sd (kq ≤ k) ∧ Drawn0 w wc)
 case first =>
  have H := HC2.out; clear HC2
  by_cases c3 : a0.toList = ([] : List UInt8)
  ·rw [if_pos c3] at H
   have c3b0 : (a0.toList == ([] : List UInt8)) = true := beq_iff_eq.mpr c3
   have c3b1 : (a0.toList != ([] : List UInt8)) = false := bne_eq_false_iff_eq.mpr c3
   clear c3
   (first | rw [c3b0] | (simp only [i64_w, i32_w]; rw [c3b0]) | skip)
   have H' := Sd.mk H; clear H
   go_wp2
   go_meet
   case rel => exact ⟨_, (true), tS, H', ⟨by first | omega | exact Nat.le_refl _⟩, by repeat (first | exact Drawn0.refl _ | apply Drawn0.step)⟩
  ·rw [if_neg c3] at H
   have c3b0 : (a0.toList == ([] : List UInt8)) = false := beq_eq_false_iff_ne.mpr c3
   have c3b1 : (a0.toList != ([] : List UInt8)) = true := bne_iff_ne.mpr c3
   (first | rw [c3b0] | (simp only [i64_w, i32_w]; rw [c3b0]) | skip)
   by_cases c4 : (a0.size : Int) > 16
   ·rw [if_pos c4] at H
    have c4b0 : decide (16 < (a0.size : Int)) = true := decide_eq_true c4
    have c4b1 : decide (16 < a0.size) = true := decide_eq_true (by omega)
    clear c4; have H' := Sd.mk H; clear H
    go_wp2
    go_meet
    case rel => exact ⟨_, (true), tS, H', ⟨by first | omega | exact Nat.le_refl _⟩, by repeat (first | exact Drawn0.refl _ | apply Drawn0.step)⟩
   ·rw [if_neg c4] at H
    have c4b0 : decide (16 < (a0.size : Int)) = false := decide_eq_false c4
    have c4b1 : decide (16 < a0.size) = false := decide_eq_false (by omega)
    clear c4
    by_cases c5 : 0 < (a0.size : Int)
    ·rw [if_pos c5] at H
     have c5b0 : decide (0 < (a0.size : Int)) = true := decide_eq_true c5
     have c5b1 : decide (0 < a0.size) = true := decide_eq_true (by omega)
     clear c5
     by_cases c7 : (bt a0 0) < 97
     ·rw [if_pos c7] at H
      have c7b0 : decide ((bt a0 0) < 97) = true := decide_eq_true c7
      clear c7; have H' := Sd.mk H; clear H
      have p6 : 0 ≤ (0 : Int) := (by omega)
      have q6 : 0 < a0.size := (by have : (0 : Int) < (a0.size : Int) := tB; omega)
      have hx6 : ∀ h : 0 < a0.size, ((a0[0]'h).toNat : Int) = bt a0 0 := bt_at a0 0
      clear p6
      have qi6 : (0 < (a0.size : Int)) = True := eq_true (tB)
      replace q6 := eq_true q6
      go_wp2
      go_meet
      case rel => exact ⟨_, (true), tS, H', ⟨by first | omega | exact Nat.le_refl _⟩, by repeat (first | exact Drawn0.refl _ | apply Drawn0.step)⟩
     ·rw [if_neg c7] at H
      have c7b0 : decide ((bt a0 0) < 97) = false := decide_eq_false c7
      clear c7; have H' := Sd.mk H; clear H
      have p6 : 0 ≤ (0 : Int) := (by omega)
      have q6 : 0 < a0.size := (by have : (0 : Int) < (a0.size : Int) := tB; omega)
      have hx6 : ∀ h : 0 < a0.size, ((a0[0]'h).toNat : Int) = bt a0 0 := bt_at a0 0
      clear p6
      have qi6 : (0 < (a0.size : Int)) = True := eq_true (tB)
      replace q6 := eq_true q6
      have p8 : 0 ≤ (0 : Int) := (by omega)
      have q8 : 0 < a0.size := (by have : (0 : Int) < (a0.size : Int) := tB; omega)
      have hx8 : ∀ h : 0 < a0.size, ((a0[0]'h).toNat : Int) = bt a0 0 := bt_at a0 0
      clear p8
      have qi8 : (0 < (a0.size : Int)) = True := eq_true (tB)
      replace q8 := eq_true q8
      go_wp2
      go_meet
      case rel => exact ⟨_, (decide ((bt a0 0) > 122)), tS, H', ⟨by first | omega | exact Nat.le_refl _⟩, by repeat (first | exact Drawn0.refl _ | apply Drawn0.step)⟩
    ·rw [if_neg c5] at H
     exact absurd H (by simp)
 case rest =>
  clear HC2; (try clear c1); (try clear p2); (try clear c3); (try clear c3b0); (try clear c3b1); (try clear c4); (try clear c4b0); (try clear c4b1); (try clear c5); (try clear c5b0); (try clear c5b1); (try clear p6 p6); (try clear q6 q6); (try clear hx6); (try clear qi6); (try clear c7); (try clear c7b0); (try clear p8 p8); (try clear q8 q8); (try clear hx8); (try clear qi8)
  obtain ⟨kq, x22_1, rfl, HA, HJ1, ⟨mc1, rfl⟩⟩ := hcut
  cases kq with
  | zero => exact absurd HA.out (by simp [rf_Name.j0])
  | succ kj1 =>
   have H := HA.out; clear HA
   simp only [rf_Name.j0] at H
   by_cases c9 : x22_1 = true
   ·subst c9
    have H1 : (some false) = some r := by rw [if_pos rfl] at H; exact H
    clear H; have H := H1; clear H1; obtain rfl := Option.some.inj H
    go_wp2
    go_ret
    exact ⟨by first | rfl | (simp; done) | (simp [*]; done), by repeat (first | exact Drawn0.refl _ | apply Drawn0.step)⟩
   ·replace c9 := Bool.eq_false_iff.mpr c9
    subst c9
    have H1 : (rf_Name.l0 kj1 a0 0) = some r := by rw [if_neg (show ¬ (false = true) by decide)] at H; exact H
    clear H; have H := H1; clear H1; have H' := Sd.mk H; clear H
    go_wp2
    go_loopg [3] kj1 (fun kq v3 w' => ∃ (x3_2 : Int), v3 = .int .i64 x3_2 ∧ Sd (rf_Name.l0 kq a0 x3_2 = some r) ∧ Sd (kq ≤ kj1) ∧ Drawn0 w w')
    case atStart => exact ⟨(0), tS, H', ⟨Nat.le_refl _⟩, by repeat (first | exact Drawn0.refl _ | apply Drawn0.step)⟩
    case round =>
     clear H'; (try clear c1); (try clear p2 p2); (try clear c3); (try clear c3b0); (try clear c3b1); (try clear c4); (try clear c4b0); (try clear c4b1); (try clear c5); (try clear c5b0); (try clear c5b1); (try clear p6 p6); (try clear q6 q6); (try clear hx6); (try clear qi6); (try clear c7); (try clear c7b0); (try clear p8 p8); (try clear q8 q8); (try clear hx8); (try clear qi8); (try clear c9)
     obtain ⟨x3_2, rfl, HA, HK2, ⟨m2, rfl⟩⟩ := hrel
     cases gk with
     | zero => exact absurd HA.out (by simp [rf_Name.l0])
     | succ k2 =>
      have H := HA.out; clear HA
      simp only [rf_Name.l0] at H
      by_cases c10 : x3_2 < (a0.size : Int)
      ·rw [if_pos c10] at H
       have c10b0 : decide (x3_2 < (a0.size : Int)) = true := decide_eq_true c10
       clear c10
       by_cases c11 : 0 ≤ x3_2
       ·rw [if_pos c11] at H
        have c11b0 : decide (0 ≤ x3_2) = true := decide_eq_true c11
        clear c11
        by_cases c13 : (bt a0 x3_2) ≥ 97
        ·rw [if_pos c13] at H
         have c13b0 : decide (97 ≤ (bt a0 x3_2)) = true := decide_eq_true c13
         clear c13
         by_cases c16 : (bt a0 x3_2) ≥ 48
         ·rw [if_pos c16] at H
          have c16b0 : decide (48 ≤ (bt a0 x3_2)) = true := decide_eq_true c16
          clear c16
          by_cases c18 : ((bt a0 x3_2) ≤ 122)
          ·rw [if_pos c18] at H
           have c18b0 : decide ((bt a0 x3_2) ≤ 122) = true := decide_eq_true c18
           clear c18; have H' := Sd.mk H; clear H
           have p12 : 0 ≤ (x3_2 : Int) := tB
           have q12 : x3_2 < (a0.size : Int) := tB
           have hx12 := bt_at a0 x3_2; replace p12 := eq_true p12; replace q12 := eq_true q12
           have p14 : 0 ≤ (x3_2 : Int) := tB
           have q14 : x3_2 < (a0.size : Int) := tB
           have hx14 := bt_at a0 x3_2; replace p14 := eq_true p14; replace q14 := eq_true q14
           have p15 : 0 ≤ (x3_2 : Int) := tB
           have q15 : x3_2 < (a0.size : Int) := tB
           have hx15 := bt_at a0 x3_2; replace p15 := eq_true p15; replace q15 := eq_true q15
           have p17 : 0 ≤ (x3_2 : Int) := tB
           have q17 : x3_2 < (a0.size : Int) := tB
           have hx17 := bt_at a0 x3_2; replace p17 := eq_true p17; replace q17 := eq_true q17
           go_wp2
           go_roundg k2
           case measure => have := HJ1.out; have := HK2.out; omega
           case rel => exact ⟨(wrap64 (x3_2 + 1)), tS, H', ⟨by have := HJ1.out; have := HK2.out; omega⟩, by repeat (first | exact Drawn0.refl _ | apply Drawn0.step)⟩
          ·rw [if_neg c18] at H
           have c18b0 : decide ((bt a0 x3_2) ≤ 122) = false := decide_eq_false c18
           clear c18
           by_cases c19 : ((bt a0 x3_2) ≤ 57)
           ·rw [if_pos c19] at H
            have c19b0 : decide ((bt a0 x3_2) ≤ 57) = true := decide_eq_true c19
            clear c19; have H' := Sd.mk H; clear H
            have p12 : 0 ≤ (x3_2 : Int) := tB
            have q12 : x3_2 < (a0.size : Int) := tB
            have hx12 := bt_at a0 x3_2; replace p12 := eq_true p12; replace q12 := eq_true q12
            have p14 : 0 ≤ (x3_2 : Int) := tB
            have q14 : x3_2 < (a0.size : Int) := tB
            have hx14 := bt_at a0 x3_2; replace p14 := eq_true p14; replace q14 := eq_true q14
            have p15 : 0 ≤ (x3_2 : Int) := tB
            have q15 : x3_2 < (a0.size : Int) := tB
            have hx15 := bt_at a0 x3_2; replace p15 := eq_true p15; replace q15 := eq_true q15
            have p17 : 0 ≤ (x3_2 : Int) := tB
            have q17 : x3_2 < (a0.size : Int) := tB
            have hx17 := bt_at a0 x3_2; replace p17 := eq_true p17; replace q17 := eq_true q17
            go_wp2
            go_roundg k2
            case measure => have := HJ1.out; have := HK2.out; omega
            case rel => exact ⟨(wrap64 (x3_2 + 1)), tS, H', ⟨by have := HJ1.out; have := HK2.out; omega⟩, by repeat (first | exact Drawn0.refl _ | apply Drawn0.step)⟩
           ·rw [if_neg c19] at H
            have c19b0 : decide ((bt a0 x3_2) ≤ 57) = false := decide_eq_false c19
            clear c19
            by_cases c21 : (bt a0 x3_2) = 45
            ·rw [if_pos c21] at H
             have c21b0 : ((bt a0 x3_2) == 45) = true := beq_iff_eq.mpr c21
             have c21b1 : ((bt a0 x3_2) != 45) = false := bne_eq_false_iff_eq.mpr c21
             clear c21; have H' := Sd.mk H; clear H
             have p12 : 0 ≤ (x3_2 : Int) := tB
             have q12 : x3_2 < (a0.size : Int) := tB
             have hx12 := bt_at a0 x3_2; replace p12 := eq_true p12; replace q12 := eq_true q12
             have p14 : 0 ≤ (x3_2 : Int) := tB
             have q14 : x3_2 < (a0.size : Int) := tB
             have hx14 := bt_at a0 x3_2; replace p14 := eq_true p14; replace q14 := eq_true q14
             have p15 : 0 ≤ (x3_2 : Int) := tB
             have q15 : x3_2 < (a0.size : Int) := tB
             have hx15 := bt_at a0 x3_2; replace p15 := eq_true p15; replace q15 := eq_true q15
             have p17 : 0 ≤ (x3_2 : Int) := tB
             have q17 : x3_2 < (a0.size : Int) := tB
             have hx17 := bt_at a0 x3_2; replace p17 := eq_true p17; replace q17 := eq_true q17
             have p20 : 0 ≤ (x3_2 : Int) := tB
             have q20 : x3_2 < (a0.size : Int) := tB
             have hx20 := bt_at a0 x3_2; replace p20 := eq_true p20; replace q20 := eq_true q20
             go_wp2
             go_roundg k2
             case measure => have := HJ1.out; have := HK2.out; omega
             case rel => exact ⟨(wrap64 (x3_2 + 1)), tS, H', ⟨by have := HJ1.out; have := HK2.out; omega⟩, by repeat (first | exact Drawn0.refl _ | apply Drawn0.step)⟩
            ·rw [if_neg c21] at H
             have c21b0 : ((bt a0 x3_2) == 45) = false := beq_eq_false_iff_ne.mpr c21
             have c21b1 : ((bt a0 x3_2) != 45) = true := bne_iff_ne.mpr c21
             obtain rfl := Option.some.inj H
             have p12 : 0 ≤ (x3_2 : Int) := tB
             have q12 : x3_2 < (a0.size : Int) := tB
             have hx12 := bt_at a0 x3_2; replace p12 := eq_true p12; replace q12 := eq_true q12
             have p14 : 0 ≤ (x3_2 : Int) := tB
             have q14 : x3_2 < (a0.size : Int) := tB
             have hx14 := bt_at a0 x3_2; replace p14 := eq_true p14; replace q14 := eq_true q14
             have p15 : 0 ≤ (x3_2 : Int) := tB
             have q15 : x3_2 < (a0.size : Int) := tB
             have hx15 := bt_at a0 x3_2; replace p15 := eq_true p15; replace q15 := eq_true q15
             have p17 : 0 ≤ (x3_2 : Int) := tB
             have q17 : x3_2 < (a0.size : Int) := tB
             have hx17 := bt_at a0 x3_2; replace p17 := eq_true p17; replace q17 := eq_true q17
             have p20 : 0 ≤ (x3_2 : Int) := tB
             have q20 : x3_2 < (a0.size : Int) := tB
             have hx20 := bt_at a0 x3_2; replace p20 := eq_true p20; replace q20 := eq_true q20
             go_wp2
             go_ret
             exact ⟨by first | rfl | (simp; done) | (simp [*]; done), by repeat (first | exact Drawn0.refl _ | apply Drawn0.step)⟩
         ·rw [if_neg c16] at H
          have c16b0 : decide (48 ≤ (bt a0 x3_2)) = false := decide_eq_false c16
          clear c16
          by_cases c22 : ((bt a0 x3_2) ≤ 122)
          ·rw [if_pos c22] at H
           have c22b0 : decide ((bt a0 x3_2) ≤ 122) = true := decide_eq_true c22
           clear c22; have H' := Sd.mk H; clear H
           have p12 : 0 ≤ (x3_2 : Int) := tB
           have q12 : x3_2 < (a0.size : Int) := tB
           have hx12 := bt_at a0 x3_2; replace p12 := eq_true p12; replace q12 := eq_true q12
           have p14 : 0 ≤ (x3_2 : Int) := tB
           have q14 : x3_2 < (a0.size : Int) := tB
           have hx14 := bt_at a0 x3_2; replace p14 := eq_true p14; replace q14 := eq_true q14
           have p15 : 0 ≤ (x3_2 : Int) := tB
           have q15 : x3_2 < (a0.size : Int) := tB
           have hx15 := bt_at a0 x3_2; replace p15 := eq_true p15; replace q15 := eq_true q15
           go_wp2
           go_roundg k2
           case measure => have := HJ1.out; have := HK2.out; omega
           case rel => exact ⟨(wrap64 (x3_2 + 1)), tS, H', ⟨by have := HJ1.out; have := HK2.out; omega⟩, by repeat (first | exact Drawn0.refl _ | apply Drawn0.step)⟩
          ·rw [if_neg c22] at H
           have c22b0 : decide ((bt a0 x3_2) ≤ 122) = false := decide_eq_false c22
           clear c22
           by_cases c24 : (bt a0 x3_2) = 45
           ·rw [if_pos c24] at H
            have c24b0 : ((bt a0 x3_2) == 45) = true := beq_iff_eq.mpr c24
            have c24b1 : ((bt a0 x3_2) != 45) = false := bne_eq_false_iff_eq.mpr c24
            clear c24; have H' := Sd.mk H; clear H
            have p12 : 0 ≤ (x3_2 : Int) := tB
            have q12 : x3_2 < (a0.size : Int) := tB
            have hx12 := bt_at a0 x3_2; replace p12 := eq_true p12; replace q12 := eq_true q12
            have p14 : 0 ≤ (x3_2 : Int) := tB
            have q14 : x3_2 < (a0.size : Int) := tB
            have hx14 := bt_at a0 x3_2; replace p14 := eq_true p14; replace q14 := eq_true q14
            have p15 : 0 ≤ (x3_2 : Int) := tB
            have q15 : x3_2 < (a0.size : Int) := tB
            have hx15 := bt_at a0 x3_2; replace p15 := eq_true p15; replace q15 := eq_true q15
            have p23 : 0 ≤ (x3_2 : Int) := tB
            have q23 : x3_2 < (a0.size : Int) := tB
            have hx23 := bt_at a0 x3_2; replace p23 := eq_true p23; replace q23 := eq_true q23
            go_wp2
            go_roundg k2
            case measure => have := HJ1.out; have := HK2.out; omega
            case rel => exact ⟨(wrap64 (x3_2 + 1)), tS, H', ⟨by have := HJ1.out; have := HK2.out; omega⟩, by repeat (first | exact Drawn0.refl _ | apply Drawn0.step)⟩
           ·rw [if_neg c24] at H
            have c24b0 : ((bt a0 x3_2) == 45) = false := beq_eq_false_iff_ne.mpr c24
            have c24b1 : ((bt a0 x3_2) != 45) = true := bne_iff_ne.mpr c24
            obtain rfl := Option.some.inj H
            have p12 : 0 ≤ (x3_2 : Int) := tB
            have q12 : x3_2 < (a0.size : Int) := tB
            have hx12 := bt_at a0 x3_2; replace p12 := eq_true p12; replace q12 := eq_true q12
            have p14 : 0 ≤ (x3_2 : Int) := tB
            have q14 : x3_2 < (a0.size : Int) := tB
            have hx14 := bt_at a0 x3_2; replace p14 := eq_true p14; replace q14 := eq_true q14
            have p15 : 0 ≤ (x3_2 : Int) := tB
            have q15 : x3_2 < (a0.size : Int) := tB
            have hx15 := bt_at a0 x3_2; replace p15 := eq_true p15; replace q15 := eq_true q15
            have p23 : 0 ≤ (x3_2 : Int) := tB
            have q23 : x3_2 < (a0.size : Int) := tB
            have hx23 := bt_at a0 x3_2; replace p23 := eq_true p23; replace q23 := eq_true q23
            go_wp2
            go_ret
            exact ⟨by first | rfl | (simp; done) | (simp [*]; done), by repeat (first | exact Drawn0.refl _ | apply Drawn0.step)⟩
        ·rw [if_neg c13] at H
         have c13b0 : decide (97 ≤ (bt a0 x3_2)) = false := decide_eq_false c13
         clear c13
         by_cases c26 : (bt a0 x3_2) ≥ 48
         ·rw [if_pos c26] at H
          have c26b0 : decide (48 ≤ (bt a0 x3_2)) = true := decide_eq_true c26
          clear c26
          by_cases c28 : ((bt a0 x3_2) ≤ 57)
          ·rw [if_pos c28] at H
           have c28b0 : decide ((bt a0 x3_2) ≤ 57) = true := decide_eq_true c28
           clear c28; have H' := Sd.mk H; clear H
           have p12 : 0 ≤ (x3_2 : Int) := tB
           have q12 : x3_2 < (a0.size : Int) := tB
           have hx12 := bt_at a0 x3_2; replace p12 := eq_true p12; replace q12 := eq_true q12
           have p25 : 0 ≤ (x3_2 : Int) := tB
           have q25 : x3_2 < (a0.size : Int) := tB
           have hx25 := bt_at a0 x3_2; replace p25 := eq_true p25; replace q25 := eq_true q25
           have p27 : 0 ≤ (x3_2 : Int) := tB
           have q27 : x3_2 < (a0.size : Int) := tB
           have hx27 := bt_at a0 x3_2; replace p27 := eq_true p27; replace q27 := eq_true q27
           go_wp2
           go_roundg k2
           case measure => have := HJ1.out; have := HK2.out; omega
           case rel => exact ⟨(wrap64 (x3_2 + 1)), tS, H', ⟨by have := HJ1.out; have := HK2.out; omega⟩, by repeat (first | exact Drawn0.refl _ | apply Drawn0.step)⟩
          ·rw [if_neg c28] at H
           have c28b0 : decide ((bt a0 x3_2) ≤ 57) = false := decide_eq_false c28
           clear c28
           by_cases c30 : (bt a0 x3_2) = 45
           ·rw [if_pos c30] at H
            have c30b0 : ((bt a0 x3_2) == 45) = true := beq_iff_eq.mpr c30
            have c30b1 : ((bt a0 x3_2) != 45) = false := bne_eq_false_iff_eq.mpr c30
            clear c30; have H' := Sd.mk H; clear H
            have p12 : 0 ≤ (x3_2 : Int) := tB
            have q12 : x3_2 < (a0.size : Int) := tB
            have hx12 := bt_at a0 x3_2; replace p12 := eq_true p12; replace q12 := eq_true q12
            have p25 : 0 ≤ (x3_2 : Int) := tB
            have q25 : x3_2 < (a0.size : Int) := tB
            have hx25 := bt_at a0 x3_2; replace p25 := eq_true p25; replace q25 := eq_true q25
            have p27 : 0 ≤ (x3_2 : Int) := tB
            have q27 : x3_2 < (a0.size : Int) := tB
            have hx27 := bt_at a0 x3_2; replace p27 := eq_true p27; replace q27 := eq_true q27
            have p29 : 0 ≤ (x3_2 : Int) := tB
            have q29 : x3_2 < (a0.size : Int) := tB
            have hx29 := bt_at a0 x3_2; replace p29 := eq_true p29; replace q29 := eq_true q29
            go_wp2
            go_roundg k2
            case measure => have := HJ1.out; have := HK2.out; omega
            case rel => exact ⟨(wrap64 (x3_2 + 1)), tS, H', ⟨by have := HJ1.out; have := HK2.out; omega⟩, by repeat (first | exact Drawn0.refl _ | apply Drawn0.step)⟩
           ·rw [if_neg c30] at H
            have c30b0 : ((bt a0 x3_2) == 45) = false := beq_eq_false_iff_ne.mpr c30
            have c30b1 : ((bt a0 x3_2) != 45) = true := bne_iff_ne.mpr c30
            obtain rfl := Option.some.inj H
            have p12 : 0 ≤ (x3_2 : Int) := tB
            have q12 : x3_2 < (a0.size : Int) := tB
            have hx12 := bt_at a0 x3_2; replace p12 := eq_true p12; replace q12 := eq_true q12
            have p25 : 0 ≤ (x3_2 : Int) := tB
            have q25 : x3_2 < (a0.size : Int) := tB
            have hx25 := bt_at a0 x3_2; replace p25 := eq_true p25; replace q25 := eq_true q25
            have p27 : 0 ≤ (x3_2 : Int) := tB
            have q27 : x3_2 < (a0.size : Int) := tB
            have hx27 := bt_at a0 x3_2; replace p27 := eq_true p27; replace q27 := eq_true q27
            have p29 : 0 ≤ (x3_2 : Int) := tB
            have q29 : x3_2 < (a0.size : Int) := tB
            have hx29 := bt_at a0 x3_2; replace p29 := eq_true p29; replace q29 := eq_true q29
            go_wp2
            go_ret
            exact ⟨by first | rfl | (simp; done) | (simp [*]; done), by repeat (first | exact Drawn0.refl _ | apply Drawn0.step)⟩
         ·rw [if_neg c26] at H
          have c26b0 : decide (48 ≤ (bt a0 x3_2)) = false := decide_eq_false c26
          clear c26
          by_cases c32 : (bt a0 x3_2) = 45
          ·rw [if_pos c32] at H
           have c32b0 : ((bt a0 x3_2) == 45) = true := beq_iff_eq.mpr c32
           have c32b1 : ((bt a0 x3_2) != 45) = false := bne_eq_false_iff_eq.mpr c32
           clear c32; have H' := Sd.mk H; clear H
           have p12 : 0 ≤ (x3_2 : Int) := tB
           have q12 : x3_2 < (a0.size : Int) := tB
           have hx12 := bt_at a0 x3_2; replace p12 := eq_true p12; replace q12 := eq_true q12
           have p25 : 0 ≤ (x3_2 : Int) := tB
           have q25 : x3_2 < (a0.size : Int) := tB
           have hx25 := bt_at a0 x3_2; replace p25 := eq_true p25; replace q25 := eq_true q25
           have p31 : 0 ≤ (x3_2 : Int) := tB
           have q31 : x3_2 < (a0.size : Int) := tB
           have hx31 := bt_at a0 x3_2; replace p31 := eq_true p31; replace q31 := eq_true q31
           go_wp2
           go_roundg k2
           case measure => have := HJ1.out; have := HK2.out; omega
           case rel => exact ⟨(wrap64 (x3_2 + 1)), tS, H', ⟨by have := HJ1.out; have := HK2.out; omega⟩, by repeat (first | exact Drawn0.refl _ | apply Drawn0.step)⟩
          ·rw [if_neg c32] at H
           have c32b0 : ((bt a0 x3_2) == 45) = false := beq_eq_false_iff_ne.mpr c32
           have c32b1 : ((bt a0 x3_2) != 45) = true := bne_iff_ne.mpr c32
           obtain rfl := Option.some.inj H
           have p12 : 0 ≤ (x3_2 : Int) := tB
           have q12 : x3_2 < (a0.size : Int) := tB
           have hx12 := bt_at a0 x3_2; replace p12 := eq_true p12; replace q12 := eq_true q12
           have p25 : 0 ≤ (x3_2 : Int) := tB
           have q25 : x3_2 < (a0.size : Int) := tB
           have hx25 := bt_at a0 x3_2; replace p25 := eq_true p25; replace q25 := eq_true q25
           have p31 : 0 ≤ (x3_2 : Int) := tB
           have q31 : x3_2 < (a0.size : Int) := tB
           have hx31 := bt_at a0 x3_2; replace p31 := eq_true p31; replace q31 := eq_true q31
           go_wp2
           go_ret
           exact ⟨by first | rfl | (simp; done) | (simp [*]; done), by repeat (first | exact Drawn0.refl _ | apply Drawn0.step)⟩
       ·rw [if_neg c11] at H
        exact absurd H (by simp)
      ·rw [if_neg c10] at H
       have c10b0 : decide (x3_2 < (a0.size : Int)) = false := decide_eq_false c10
       clear c10; obtain rfl := Option.some.inj H
       go_wp2
       go_ret
       exact ⟨by first | rfl | (simp; done) | (simp [*]; done), by repeat (first | exact Drawn0.refl _ | apply Drawn0.step)⟩
end
section
def rf_in.l0 : Nat → List ByteArray → ByteArray → Int → Option (Bool)
 | 0, _, _, _ => none
 | k + 1, x0, x1, x5 => if x5 < (x0.length : Int) then (if 0 ≤ x5 then (if (rdOf ByteArray.empty x0 x5).toList = x1.toList then (some true) else (rf_in.l0 k x0 x1 (wrap64 (x5 + 1)))) else (none)) else (some false)
def rf_in.f (k : Nat) (l0 : List ByteArray) (a1 : ByteArray) : Option (Bool) := rf_in.l0 k l0 a1 0
theorem rf_in.calls (k : Nat) (A0 : Option Addr) (c0 : Nat) (l0 : List ByteArray) (a1 : ByteArray) (r : Bool) (w : World) (hr0 : Kd.C Kd.string w A0 l0.length l0) (hc0 : l0.length ≤ c0) (h : rf_in.f k l0 a1 = some r) :
  Calls Tryz.prog 171 #[.slice A0 l0.length c0, .string a1] w fun e w' => e = .returned (.bool r) ∧ Drawn0 w w' := by
 have HR0 := Sd.mk hr0; have HC0 := Sd.mk hc0; clear hr0 hc0
 have H : (rf_in.l0 k l0 a1 0) = some r := h
 clear h; have H' := Sd.mk H; clear H
 go_enter Tryz.func171, Tryz.ntmps171
 go_wp2
 go_loopg [5] k (fun kq v5 w' => ∃ (x5_1 : Int), v5 = .int .i64 x5_1 ∧ Sd (rf_in.l0 kq l0 a1 x5_1 = some r) ∧ Sd (kq ≤ k) ∧ Drawn0 w w')
 case atStart => exact ⟨(0), tS, H', ⟨Nat.le_refl _⟩, by repeat (first | exact Drawn0.refl _ | apply Drawn0.step)⟩
 case round =>
  clear H'; (try clear c1); (try clear p2)
  obtain ⟨x5_1, rfl, HA, HK1, ⟨m1, rfl⟩⟩ := hrel
  cases gk with
  | zero => exact absurd HA.out (by simp [rf_in.l0])
  | succ k1 =>
   have H := HA.out; clear HA
   simp only [rf_in.l0] at H
   by_cases c3 : x5_1 < (l0.length : Int)
   ·rw [if_pos c3] at H
    have c3b0 : decide (x5_1 < (l0.length : Int)) = true := decide_eq_true c3
    clear c3
    by_cases c4 : 0 ≤ x5_1
    ·rw [if_pos c4] at H
     have c4b0 : decide (0 ≤ x5_1) = true := decide_eq_true c4
     clear c4
     by_cases c5 : (rdOf ByteArray.empty l0 x5_1).toList = a1.toList
     ·rw [if_pos c5] at H
      have c5b0 : ((rdOf ByteArray.empty l0 x5_1).toList == a1.toList) = true := beq_iff_eq.mpr c5
      have c5b1 : ((rdOf ByteArray.empty l0 x5_1).toList != a1.toList) = false := bne_eq_false_iff_eq.mpr c5
      clear c5; obtain rfl := Option.some.inj H
      have p226 : 0 ≤ (x5_1 : Int) := tB
      have q226 : x5_1 < (l0.length : Int) := tB
      obtain ⟨ad226, e226, hx226_0⟩ := Kd.at_string HR0.out x5_1 p226 q226; cases e226; replace p226 := eq_true p226; replace q226 := eq_true q226
      go_wp2
      go_ret
      exact ⟨by first | rfl | (simp; done) | (simp [*]; done), by repeat (first | exact Drawn0.refl _ | apply Drawn0.step)⟩
     ·rw [if_neg c5] at H
      have c5b0 : ((rdOf ByteArray.empty l0 x5_1).toList == a1.toList) = false := beq_eq_false_iff_ne.mpr c5
      have c5b1 : ((rdOf ByteArray.empty l0 x5_1).toList != a1.toList) = true := bne_iff_ne.mpr c5
      have H' := Sd.mk H; clear H
      have p226 : 0 ≤ (x5_1 : Int) := tB
      have q226 : x5_1 < (l0.length : Int) := tB
      obtain ⟨ad226, e226, hx226_0⟩ := Kd.at_string HR0.out x5_1 p226 q226; cases e226; replace p226 := eq_true p226; replace q226 := eq_true q226
      go_wp2
      go_roundg k1
      case measure => have := HK1.out; omega
      case rel => exact ⟨(wrap64 (x5_1 + 1)), tS, H', ⟨by have := HK1.out; omega⟩, by repeat (first | exact Drawn0.refl _ | apply Drawn0.step)⟩
    ·rw [if_neg c4] at H
     exact absurd H (by simp)
   ·rw [if_neg c3] at H
    have c3b0 : decide (x5_1 < (l0.length : Int)) = false := decide_eq_false c3
    clear c3; obtain rfl := Option.some.inj H
    go_wp2
    go_ret
    exact ⟨by first | rfl | (simp; done) | (simp [*]; done), by repeat (first | exact Drawn0.refl _ | apply Drawn0.step)⟩
end
section
def slices_Index_string_string.l0 : Nat → List ByteArray → ByteArray → Int → Int → Option (Int)
 | 0, _, _, _, _ => none
 | k + 1, x0, x1, x7, x8 => if x8 < x7 then (if 0 ≤ x8 then (if x8 < (x0.length : Int) then (if x1.toList = (rdOf ByteArray.empty x0 x8).toList then (some x8) else (slices_Index_string_string.l0 k x0 x1 x7 (wrap64 (x8 + 1)))) else (none)) else (none)) else (some (-1))
def slices_Index_string_string.f (k : Nat) (l0 : List ByteArray) (a1 : ByteArray) : Option (Int) := slices_Index_string_string.l0 k l0 a1 (l0.length : Int) 0
theorem slices_Index_string_string.mono_l : ∀ k, (∀ y0 y1 y2 y3, LeO (slices_Index_string_string.l0 k y0 y1 y2 y3) (slices_Index_string_string.l0 (k + 1) y0 y1 y2 y3))
 | 0 => fun _ _ _ _ r h => by simp [slices_Index_string_string.l0] at h
 | k + 1 => by
  have ih0 := slices_Index_string_string.mono_l k
  ·intro y0 y1 y2 y3
   unfold slices_Index_string_string.l0
   repeat' first
   | (with_reducible exact ih0 _ _ _ _)
   | (with_reducible exact LeO.refl _)
   | (with_reducible exact LeO.none _)
   | (with_reducible refine LeO.ite ?_ ?_)
   | (with_reducible refine LeO.bind ?_ (fun _ => ?_))
   | exact LeO.none _
   | refine LeO.ite ?_ ?_
   | refine LeO.bind ?_ (fun _ => ?_)
theorem slices_Index_string_string.mono : ∀ a0 a1 k, LeO (slices_Index_string_string.f k a0 a1) (slices_Index_string_string.f (k + 1) a0 a1) := by
 intro a0 a1 k
 have ih0 := slices_Index_string_string.mono_l k
 unfold slices_Index_string_string.f
 repeat' first
   | (with_reducible exact ih0 _ _ _ _)
   | (with_reducible exact LeO.refl _)
   | (with_reducible exact LeO.none _)
   | (with_reducible refine LeO.ite ?_ ?_)
   | (with_reducible refine LeO.bind ?_ (fun _ => ?_))
   | exact LeO.none _
   | refine LeO.ite ?_ ?_
   | refine LeO.bind ?_ (fun _ => ?_)
theorem slices_Index_string_string.calls (k : Nat) (A0 : Option Addr) (c0 : Nat) (l0 : List ByteArray) (a1 : ByteArray) (r : Int) (w : World) (hr0 : Kd.C Kd.string w A0 l0.length l0) (hc0 : l0.length ≤ c0) (h : slices_Index_string_string.f k l0 a1 = some r) :
  Calls Tryz.prog 208 #[.slice A0 l0.length c0, .string a1] w fun e w' => e = .returned (.int .i64 r) ∧ Drawn0 w w' := by
 have HR0 := Sd.mk hr0; have HC0 := Sd.mk hc0; clear hr0 hc0
 have H : (slices_Index_string_string.l0 k l0 a1 (l0.length : Int) 0) = some r := h
 clear h; have H' := Sd.mk H; clear H
 go_enter Tryz.func208, Tryz.ntmps208
 go_wp2
 go_loopg [8] k (fun kq v8 w' => ∃ (x8_1 : Int), v8 = .int .i64 x8_1 ∧ Sd (slices_Index_string_string.l0 kq l0 a1 (l0.length : Int) x8_1 = some r) ∧ Sd (kq ≤ k) ∧ Drawn0 w w')
 case atStart => exact ⟨(0), tS, H', ⟨Nat.le_refl _⟩, by repeat (first | exact Drawn0.refl _ | apply Drawn0.step)⟩
 case round =>
  clear H'; (try clear c2); (try clear p2)
  obtain ⟨x8_1, rfl, HA, HK1, ⟨m1, rfl⟩⟩ := hrel
  cases gk with
  | zero => exact absurd HA.out (by simp [slices_Index_string_string.l0])
  | succ k1 =>
   have H := HA.out; clear HA
   simp only [slices_Index_string_string.l0] at H
   by_cases c3 : x8_1 < (l0.length : Int)
   ·rw [if_pos c3] at H
    have c3b0 : decide (x8_1 < (l0.length : Int)) = true := decide_eq_true c3
    clear c3
    by_cases c4 : 0 ≤ x8_1
    ·rw [if_pos c4] at H
     have c4b0 : decide (0 ≤ x8_1) = true := decide_eq_true c4
     clear c4
     by_cases c5 : x8_1 < (l0.length : Int)
     ·rw [if_pos c5] at H
      have c5b0 : decide (x8_1 < (l0.length : Int)) = true := decide_eq_true c5
      clear c5
      by_cases c6 : a1.toList = (rdOf ByteArray.empty l0 x8_1).toList
      ·rw [if_pos c6] at H
       have c6b0 : (a1.toList == (rdOf ByteArray.empty l0 x8_1).toList) = true := beq_iff_eq.mpr c6
       have c6b1 : (a1.toList != (rdOf ByteArray.empty l0 x8_1).toList) = false := bne_eq_false_iff_eq.mpr c6
       clear c6; obtain rfl := Option.some.inj H
       have p108 : 0 ≤ (x8_1 : Int) := tB
       have q108 : x8_1 < (l0.length : Int) := tB
       obtain ⟨ad108, e108, hx108_0⟩ := Kd.at_string HR0.out x8_1 p108 q108; cases e108; replace p108 := eq_true p108; replace q108 := eq_true q108
       go_wp2
       go_ret
       exact ⟨by first | rfl | (simp; done) | (simp [*]; done), by repeat (first | exact Drawn0.refl _ | apply Drawn0.step)⟩
      ·rw [if_neg c6] at H
       have c6b0 : (a1.toList == (rdOf ByteArray.empty l0 x8_1).toList) = false := beq_eq_false_iff_ne.mpr c6
       have c6b1 : (a1.toList != (rdOf ByteArray.empty l0 x8_1).toList) = true := bne_iff_ne.mpr c6
       have H' := Sd.mk H; clear H
       have p108 : 0 ≤ (x8_1 : Int) := tB
       have q108 : x8_1 < (l0.length : Int) := tB
       obtain ⟨ad108, e108, hx108_0⟩ := Kd.at_string HR0.out x8_1 p108 q108; cases e108; replace p108 := eq_true p108; replace q108 := eq_true q108
       go_wp2
       go_roundg k1
       case measure => have := HK1.out; omega
       case rel => exact ⟨(wrap64 (x8_1 + 1)), tS, H', ⟨by have := HK1.out; omega⟩, by repeat (first | exact Drawn0.refl _ | apply Drawn0.step)⟩
     ·rw [if_neg c5] at H
      exact absurd H (by simp)
    ·rw [if_neg c4] at H
     exact absurd H (by simp)
   ·rw [if_neg c3] at H
    have c3b0 : decide (x8_1 < (l0.length : Int)) = false := decide_eq_false c3
    clear c3; obtain rfl := Option.some.inj H
    go_wp2
    go_ret
    exact ⟨by first | rfl | (simp; done) | (simp [*]; done), by repeat (first | exact Drawn0.refl _ | apply Drawn0.step)⟩
end
section
def slices_Contains_string_string.f (k : Nat) (l0 : List ByteArray) (a1 : ByteArray) : Option (Bool) := (slices_Index_string_string.f k l0 a1).bind fun t109 => (some (decide (t109 ≥ 0)))
theorem slices_Contains_string_string.mono : ∀ a0 a1 k, LeO (slices_Contains_string_string.f k a0 a1) (slices_Contains_string_string.f (k + 1) a0 a1) := by
 intro a0 a1 k
 unfold slices_Contains_string_string.f
 repeat' first
   | (with_reducible exact slices_Index_string_string.mono _ _ _)
   | (with_reducible exact LeO.refl _)
   | (with_reducible exact LeO.none _)
   | (with_reducible refine LeO.ite ?_ ?_)
   | (with_reducible refine LeO.bind ?_ (fun _ => ?_))
   | exact LeO.none _
   | refine LeO.ite ?_ ?_
   | refine LeO.bind ?_ (fun _ => ?_)
theorem slices_Contains_string_string.calls (k : Nat) (A0 : Option Addr) (c0 : Nat) (l0 : List ByteArray) (a1 : ByteArray) (r : Bool) (w : World) (hr0 : Kd.C Kd.string w A0 l0.length l0) (hc0 : l0.length ≤ c0) (h : slices_Contains_string_string.f k l0 a1 = some r) :
  Calls Tryz.prog 177 #[.slice A0 l0.length c0, .string a1] w fun e w' => e = .returned (.bool r) ∧ Drawn0 w w' := by
 have HR0 := Sd.mk hr0; have HC0 := Sd.mk hc0; clear hr0 hc0
 have H : ((slices_Index_string_string.f k l0 a1).bind fun t109 => (some (decide (t109 ≥ 0)))) = some r := h
 clear h; replace H := Option.bind_eq_some_iff.mp H; obtain ⟨t109, A30, H⟩ := H
 try dsimp only at H
 have A3 := Sd.mk A30; clear A30; obtain rfl := Option.some.inj H
 go_enter Tryz.func177, Tryz.ntmps177
 go_wp2_with (first | ((with_reducible refine gate_callee (f := 208) rfl ?_); refine goesL_ (some 7) rfl rfl Tryz.func208 (by kernel_rfl) rfl #[.slice A0 l0.length c0, .string a1] rfl tM ?_; (with_reducible refine (slices_Index_string_string.calls k _ _ l0 a1 t109 _ ?side1 ?side2 A3.out).mono ?_); (case side1 => repeat (first | exact HR0.out | (with_reducible refine Kd.C_alloc ?_ _) | (with_reducible refine Kd.C_drewN ?_ _) | (with_reducible refine Kd.C_drew ?_))); (case side2 => exact HC0.out); rintro e w' ⟨rfl, ⟨nd, rfl⟩⟩; refine ⟨_, rfl, ?_⟩))
 go_ret
 exact ⟨by first | rfl | (simp; done) | (simp [*]; done), by repeat (first | exact Drawn0.refl _ | apply Drawn0.step)⟩
end
section
theorem toList_loop (x : ByteArray) : ∀ (m i : Nat) (r : List UInt8), i + m = x.size → (ByteArray.toList.loop x i r).length = r.length + m
  | 0, i, r, h => by
    unfold ByteArray.toList.loop
    rw [if_neg (by omega)]; simp
  | m + 1, i, r, h => by
    unfold ByteArray.toList.loop
    rw [if_pos (by omega), toList_loop x m (i + 1) _ (by omega)]; simp; omega
theorem toList_len (x : ByteArray) : x.toList.length = x.size := by
  have := toList_loop x x.size 0 [] (by omega)
  simpa [ByteArray.toList] using this
theorem toList_nil (x : ByteArray) : x.toList = [] ↔ x.size = 0 := by
  rw [← toList_len]; exact List.length_eq_zero_iff.symm
theorem rname_l0 (x : ByteArray) (hx : x.size ≤ 16) : ∀ (m : Nat) (i : Int), 0 ≤ i → i + m = x.size → Ev (fun k => rf_Name.l0 k x i) (nameFrom x m i)
  | 0, i, h0, hi => by
    apply Ev.step
    simp only [rf_Name.l0, if_neg (show ¬ i < (x.size : Int) by omega)]
    exact Ev.const _
  | m + 1, i, h0, hi => by
    have ih := rname_l0 x hx m (i + 1) (by omega) (by omega)
    apply Ev.step
    simp only [rf_Name.l0, if_pos (show i < (x.size : Int) by omega), if_pos h0, wrap_succ h0 (show i ≤ 1000000000 by omega)]
    by_cases h1 : bt x i ≥ 97 <;> by_cases h2 : bt x i ≤ 122 <;> by_cases h3 : bt x i ≥ 48 <;> by_cases h4 : bt x i ≤ 57 <;> by_cases h5 : bt x i = 45 <;> first
      | omega
      | (simp only [h1, h2, h3, h4, h5, if_true, if_false, ite_true, ite_false]
         first
           | exact ih.cast (by have hc : charB (bt x i) = true := (by simp only [charB, Bool.or_eq_true, decide_eq_true_eq]; omega); simp [nameFrom, hc])
           | exact (Ev.const false).cast (by have hc : charB (bt x i) = false := (by simp only [charB, Bool.or_eq_false_iff, decide_eq_false_iff_not]; omega); simp [nameFrom, hc]))
theorem rname (x : ByteArray) : Ev (fun k => rf_Name.f k x) (nameOk x) := by
  unfold rf_Name.f
  have hj : ∀ b : Bool, (b = false → x.size ≤ 16) → Ev (fun k => rf_Name.j0 k x b) (!b && nameFrom x x.size 0) := by
    intro b hb
    apply Ev.step
    cases b with
    | true => simp only [rf_Name.j0, if_true]; exact Ev.const _
    | false => simp only [rf_Name.j0, Bool.false_eq_true, if_false]; exact (rname_l0 x (hb rfl) x.size 0 (by omega) (by omega)).cast (by simp)
  by_cases h1 : x.toList = []
  · have := (toList_nil x).1 h1
    simp only [if_pos h1]; exact (hj true (by simp)).cast (by simp [nameOk]; omega)
  · have : ¬ x.size = 0 := fun h => h1 ((toList_nil x).2 h)
    simp only [if_neg h1]
    by_cases h2 : (x.size : Int) > 16
    · simp only [if_pos h2]; exact (hj true (by simp)).cast (by simp [nameOk]; omega)
    · simp only [if_neg h2, if_pos (show 0 < (x.size : Int) by omega)]
      by_cases h3 : bt x 0 < 97
      · simp only [if_pos h3]; exact (hj true (by simp)).cast (by simp [nameOk]; omega)
      · simp only [if_neg h3]
        refine (hj _ (fun _ => by omega)).cast ?_
        by_cases h4 : bt x 0 > 122
        · simp [nameOk, h4]; try omega
        · have : 97 ≤ bt x 0 := by omega
          have : bt x 0 ≤ 122 := by omega
          have : x.size ≤ 16 := by omega
          have : 1 ≤ x.size := by omega
          simp [nameOk, *]
theorem rin_l0 (l : List ByteArray) (x : ByteArray) (hl : l.length ≤ 1000) : ∀ (m : Nat) (i : Nat), i + m = l.length → Ev (fun k => rf_in.l0 k l x (i : Int)) ((l.drop i).any fun y => y.toList == x.toList)
  | 0, i, hi => by
    apply Ev.step
    simp only [rf_in.l0, if_neg (show ¬ (i : Int) < (l.length : Int) by omega)]
    exact (Ev.const _).cast (by rw [List.drop_eq_nil_of_le (by omega)]; rfl)
  | m + 1, i, hi => by
    have ih := rin_l0 l x hl m (i + 1) (by omega)
    have hlt : i < l.length := by omega
    apply Ev.step
    simp only [rf_in.l0, if_pos (show (i : Int) < (l.length : Int) by omega), if_pos (show 0 ≤ (i : Int) by omega), wrap_succ (show 0 ≤ (i : Int) by omega) (show (i : Int) ≤ 1000000000 by omega)]
    have hr : rdOf ByteArray.empty l (i : Int) = l[i] := by simp [rdOf, hlt]
    rw [hr, List.drop_eq_getElem_cons hlt]
    by_cases h : l[i].toList = x.toList
    · simp only [if_pos h]
      exact (Ev.const _).cast (by rw [List.any_cons, h, beq_self_eq_true, Bool.true_or])
    · simp only [if_neg h]
      exact ih.cast (by rw [List.any_cons, beq_eq_false_iff_ne.mpr h, Bool.false_or])
theorem rin (l : List ByteArray) (x : ByteArray) (hl : l.length ≤ 1000) : Ev (fun k => rf_in.f k l x) (l.any fun y => y.toList == x.toList) := by
  unfold rf_in.f
  exact (rin_l0 l x hl l.length 0 (by omega)).cast (by simp)
theorem bidx_l0 (l : List ByteArray) (x : ByteArray) (hl : l.length ≤ 1000) : ∀ (m : Nat) (i : Nat), i + m = l.length → ∃ r : Int, Ev (fun k => slices_Index_string_string.l0 k l x (l.length : Int) (i : Int)) r ∧ (decide (r ≥ 0) = (l.drop i).any fun y => y.toList == x.toList)
  | 0, i, hi => by
    refine ⟨-1, ?_, by rw [List.drop_eq_nil_of_le (by omega)]; rfl⟩
    apply Ev.step
    simp only [slices_Index_string_string.l0, if_neg (show ¬ (i : Int) < (l.length : Int) by omega)]
    exact Ev.const _
  | m + 1, i, hi => by
    obtain ⟨r, ih, hr'⟩ := bidx_l0 l x hl m (i + 1) (by omega)
    have hlt : i < l.length := by omega
    have hr : rdOf ByteArray.empty l (i : Int) = l[i] := by simp [rdOf, hlt]
    by_cases h : x.toList = l[i].toList
    · refine ⟨i, ?_, ?_⟩
      · apply Ev.step
        simp only [slices_Index_string_string.l0, if_pos (show (i : Int) < (l.length : Int) by omega), if_pos (show 0 ≤ (i : Int) by omega), hr, if_pos h]
        exact Ev.const _
      · rw [List.drop_eq_getElem_cons hlt, List.any_cons, h, beq_self_eq_true, Bool.true_or]; simp
    · refine ⟨r, ?_, ?_⟩
      · apply Ev.step
        simp only [slices_Index_string_string.l0, if_pos (show (i : Int) < (l.length : Int) by omega), if_pos (show 0 ≤ (i : Int) by omega), hr, if_neg h, wrap_succ (show 0 ≤ (i : Int) by omega) (show (i : Int) ≤ 1000000000 by omega)]
        exact ih
      · rw [List.drop_eq_getElem_cons hlt, hr']
        have h' : ¬ l[i].toList = x.toList := fun e => h e.symm
        rw [List.any_cons, beq_eq_false_iff_ne.mpr h', Bool.false_or]
theorem bcontains (l : List ByteArray) (x : ByteArray) (hl : l.length ≤ 1000) : Ev (fun k => slices_Contains_string_string.f k l x) (l.any fun y => y.toList == x.toList) := by
  unfold slices_Contains_string_string.f slices_Index_string_string.f
  obtain ⟨r, h, e⟩ := bidx_l0 l x hl l.length 0 (by omega)
  refine Ev.bind h ?_
  exact (Ev.const _).cast (by rw [e]; simp)
end
section
def b_within.f (a0 : Int) (a1 : Int) (a2 : Int) : Option (Bool) := if a0 ≥ a1 then (some (decide (a0 ≤ a2))) else (some false)
theorem b_within.calls (a0 : Int) (a1 : Int) (a2 : Int) (r : Bool) (w : World) (h : b_within.f a0 a1 a2 = some r) :
  Calls Tryz.prog 56 #[.int .i64 a0, .int .i64 a1, .int .i64 a2] w fun e w' => e = .returned (.bool r) ∧ Drawn0 w w' := by
 have H : (if a0 ≥ a1 then (some (decide (a0 ≤ a2))) else (some false)) = some r := h
 clear h
 by_cases c4 : a0 ≥ a1
 ·rw [if_pos c4] at H
  have c4b0 : decide (a1 ≤ a0) = true := decide_eq_true c4
  clear c4; obtain rfl := Option.some.inj H
  go_enter Tryz.func56, Tryz.ntmps56
  go_wp2
  go_ret
  exact ⟨by first | rfl | (simp; done) | (simp [*]; done), by repeat (first | exact Drawn0.refl _ | apply Drawn0.step)⟩
 ·rw [if_neg c4] at H
  have c4b0 : decide (a1 ≤ a0) = false := decide_eq_false c4
  clear c4; obtain rfl := Option.some.inj H
  go_enter Tryz.func56, Tryz.ntmps56
  go_wp2
  go_ret
  exact ⟨by first | rfl | (simp; done) | (simp [*]; done), by repeat (first | exact Drawn0.refl _ | apply Drawn0.step)⟩
end
section
def b_span.f (a0_0 : Int) (a0_1 : Int) (a1 : Int) (a2 : Int) : Option (Bool) := if a0_0 ≥ a1 then (if a0_0 ≤ a0_1 then (some (decide (a0_1 ≤ a2))) else (some false)) else (some false)
theorem b_span.calls (a0_0 : Int) (a0_1 : Int) (a1 : Int) (a2 : Int) (r : Bool) (w : World) (h : b_span.f a0_0 a0_1 a1 a2 = some r) :
  Calls Tryz.prog 101 #[.agg #[.int .i64 a0_0, .int .i64 a0_1], .int .i64 a1, .int .i64 a2] w fun e w' => e = .returned (.bool r) ∧ Below w.heap.size w w' := by
 have hu27 := Tryz.underlying27; have HB := Sd.mk (Below.refl w.heap.size w)
 have H : (if a0_0 ≥ a1 then (if a0_0 ≤ a0_1 then (some (decide (a0_1 ≤ a2))) else (some false)) else (some false)) = some r := h
 clear h
 by_cases c4 : a0_0 ≥ a1
 ·rw [if_pos c4] at H
  have c4b0 : decide (a1 ≤ a0_0) = true := decide_eq_true c4
  clear c4
  by_cases c5 : a0_0 ≤ a0_1
  ·rw [if_pos c5] at H
   have c5b0 : decide (a0_0 ≤ a0_1) = true := decide_eq_true c5
   clear c5; obtain rfl := Option.some.inj H
   go_enter Tryz.func101, Tryz.ntmps101
   go_wp2_with (first | ((with_reducible refine gate_dst (N := 3) rfl ?_); refine box_event ?hg (N := 3) ?hd (cs := #[.int .i64 a0_0, .int .i64 a0_1]) (t := 27) ?hr ?_; (case hd => rfl); (case hg => rfl); (case hr => exact tG); intro gb115 hg w6 hbox hb; have BK115 := Sd.mk (hbox); have GW115 := Sd.mk (bSz hg (bBl HB.out)); have GE115 := Sd.mk (bSz hg (bBl HB.out)); replace HB := Sd.mk (below_step (bBl HB.out) hb); clear hb hbox hg; obtain ⟨u7_0, u7_1, o7_0, o7_1⟩ := bc2 (w := w6) BK115.out))
   go_ret
   exact ⟨tE, bBl HB.out⟩
  ·rw [if_neg c5] at H
   have c5b0 : decide (a0_0 ≤ a0_1) = false := decide_eq_false c5
   clear c5; obtain rfl := Option.some.inj H
   go_enter Tryz.func101, Tryz.ntmps101
   go_wp2_with (first | ((with_reducible refine gate_dst (N := 3) rfl ?_); refine box_event ?hg (N := 3) ?hd (cs := #[.int .i64 a0_0, .int .i64 a0_1]) (t := 27) ?hr ?_; (case hd => rfl); (case hg => rfl); (case hr => exact tG); intro gb115 hg w8 hbox hb; have BK115 := Sd.mk (hbox); have GW115 := Sd.mk (bSz hg (bBl HB.out)); have GE115 := Sd.mk (bSz hg (bBl HB.out)); replace HB := Sd.mk (below_step (bBl HB.out) hb); clear hb hbox hg; obtain ⟨u9_0, u9_1, o9_0, o9_1⟩ := bc2 (w := w8) BK115.out))
   go_ret
   exact ⟨tE, bBl HB.out⟩
 ·rw [if_neg c4] at H
  have c4b0 : decide (a1 ≤ a0_0) = false := decide_eq_false c4
  clear c4; obtain rfl := Option.some.inj H
  go_enter Tryz.func101, Tryz.ntmps101
  go_wp2_with (first | ((with_reducible refine gate_dst (N := 3) rfl ?_); refine box_event ?hg (N := 3) ?hd (cs := #[.int .i64 a0_0, .int .i64 a0_1]) (t := 27) ?hr ?_; (case hd => rfl); (case hg => rfl); (case hr => exact tG); intro gb115 hg w10 hbox hb; have BK115 := Sd.mk (hbox); have GW115 := Sd.mk (bSz hg (bBl HB.out)); have GE115 := Sd.mk (bSz hg (bBl HB.out)); replace HB := Sd.mk (below_step (bBl HB.out) hb); clear hb hbox hg; obtain ⟨u11_0, u11_1, o11_0, o11_1⟩ := bc2 (w := w10) BK115.out))
  go_ret
  exact ⟨tE, bBl HB.out⟩
end
section
def outside (lo hi x : Int) : Bool := !(decide (lo ≤ x) && decide (x ≤ hi))
theorem within_f (a lo hi : Int) : b_within.f a lo hi = some (decide (lo ≤ a) && decide (a ≤ hi)) := by
  unfold b_within.f
  by_cases h : lo ≤ a <;> simp [h]
theorem span_f (a b lo hi : Int) : b_span.f a b lo hi = some (decide (lo ≤ a) && decide (a ≤ b) && decide (b ≤ hi)) := by
  unfold b_span.f
  by_cases h : lo ≤ a <;> by_cases h' : a ≤ b <;> simp [h, h']
theorem tells_coefs (x : Int) (w : World) : Tells 184 #[] (.int .i64 x) (outside (-10000) 10000 x) w := by
  intro W _
  have H := Sd.mk (b_within.calls x (-10000) 10000 _ W (within_f _ _ _))
  show Calls Tryz.prog 184 #[.int .i64 x] W _
  unfold outside
  go_enter Tryz.func184, Tryz.ntmps184
  go_wp2_with (go_at_call 56; refine H.out.mono ?_; rintro e w1 ⟨rfl, hb⟩)
  go_ret
  exact ⟨by first | rfl | simp [Bool.not_and], Drawn0.below hb⟩
def x_coefs.f (l : List Int) : Option Bool := some (l.any (outside (-10000) 10000))
theorem x_coefs.calls (A0 : Option Addr) (c0 : Nat) (l0 : List Int) (r : Bool) (w : World) (hr0 : Kd.C (Kd.int .i64) w A0 l0.length l0) (hc0 : l0.length ≤ c0) (h : x_coefs.f l0 = some r) :
    Calls Tryz.prog 106 #[.slice A0 l0.length c0, .func (.func 184) #[] #[]] w fun e w' => e = .returned (.bool r) ∧ Below w.heap.size w w' := by
  obtain rfl := Option.some.inj h
  exact containsFunc_int _ 184 #[] (enters_of Tryz.func184 (by kernel_rfl) rfl) A0 c0 l0 w hr0 (fun x _ => tells_coefs x w)
theorem tells_kilos (x : Int) (w : World) : Tells 196 #[] (.int .i64 x) (outside (0) 10000 x) w := by
  intro W _
  have H := Sd.mk (b_within.calls x (0) 10000 _ W (within_f _ _ _))
  show Calls Tryz.prog 196 #[.int .i64 x] W _
  unfold outside
  go_enter Tryz.func196, Tryz.ntmps196
  go_wp2_with (go_at_call 56; refine H.out.mono ?_; rintro e w1 ⟨rfl, hb⟩)
  go_ret
  exact ⟨by first | rfl | simp [Bool.not_and], Drawn0.below hb⟩
def x_kilos.f (l : List Int) : Option Bool := some (l.any (outside (0) 10000))
theorem x_kilos.calls (A0 : Option Addr) (c0 : Nat) (l0 : List Int) (r : Bool) (w : World) (hr0 : Kd.C (Kd.int .i64) w A0 l0.length l0) (hc0 : l0.length ≤ c0) (h : x_kilos.f l0 = some r) :
    Calls Tryz.prog 106 #[.slice A0 l0.length c0, .func (.func 196) #[] #[]] w fun e w' => e = .returned (.bool r) ∧ Below w.heap.size w w' := by
  obtain rfl := Option.some.inj h
  exact containsFunc_int _ 196 #[] (enters_of Tryz.func196 (by kernel_rfl) rfl) A0 c0 l0 w hr0 (fun x _ => tells_kilos x w)
theorem tells_weights (x : Int) (w : World) : Tells 107 #[] (.int .i64 x) (outside (0) 1000 x) w := by
  intro W _
  have H := Sd.mk (b_within.calls x (0) 1000 _ W (within_f _ _ _))
  show Calls Tryz.prog 107 #[.int .i64 x] W _
  unfold outside
  go_enter Tryz.func107, Tryz.ntmps107
  go_wp2_with (go_at_call 56; refine H.out.mono ?_; rintro e w1 ⟨rfl, hb⟩)
  go_ret
  exact ⟨by first | rfl | simp [Bool.not_and], Drawn0.below hb⟩
def x_weights.f (l : List Int) : Option Bool := some (l.any (outside (0) 1000))
theorem x_weights.calls (A0 : Option Addr) (c0 : Nat) (l0 : List Int) (r : Bool) (w : World) (hr0 : Kd.C (Kd.int .i64) w A0 l0.length l0) (hc0 : l0.length ≤ c0) (h : x_weights.f l0 = some r) :
    Calls Tryz.prog 106 #[.slice A0 l0.length c0, .func (.func 107) #[] #[]] w fun e w' => e = .returned (.bool r) ∧ Below w.heap.size w w' := by
  obtain rfl := Option.some.inj h
  exact containsFunc_int _ 107 #[] (enters_of Tryz.func107 (by kernel_rfl) rfl) A0 c0 l0 w hr0 (fun x _ => tells_weights x w)
def badSpan (s : S27) : Bool := !(decide (0 ≤ s.f0) && decide (s.f0 ≤ s.f1) && decide (s.f1 ≤ 1000))
theorem tells_spans (x : S27) (w : World) : Tells 100 #[] (.agg #[.int .i64 x.f0, .int .i64 x.f1]) (badSpan x) w := by
  intro W _
  have H := fun W => b_span.calls x.f0 x.f1 0 1000 _ W (span_f _ _ _ _)
  have H' := Sd.mk H
  clear H
  show Calls Tryz.prog 100 #[.agg #[.int .i64 x.f0, .int .i64 x.f1]] W _
  unfold badSpan
  generalize x.f0 = a at *
  generalize x.f1 = b at *
  go_enter Tryz.func100, Tryz.ntmps100
  go_wp2_with (go_at_call 101; refine (H'.out _).mono ?_; rintro e w1 ⟨rfl, hb⟩)
  go_ret
  exact ⟨by first | rfl | simp [Bool.not_and], below_trans' (below_alloc (Below.refl _ _) _) hb⟩
def x_spans.f (l : List S27) : Option Bool := some (l.any badSpan)
theorem x_spans.calls (A0 : Option Addr) (c0 : Nat) (l0 : List S27) (r : Bool) (w : World) (hr0 : Kd.C k27 w A0 l0.length l0) (hc0 : l0.length ≤ c0) (h : x_spans.f l0 = some r) :
    Calls Tryz.prog 99 #[.slice A0 l0.length c0, .func (.func 100) #[] #[]] w fun e w' => e = .returned (.bool r) ∧ Below w.heap.size w w' := by
  obtain rfl := Option.some.inj h
  exact containsFunc_span _ 100 #[] (enters_of Tryz.func100 (by kernel_rfl) rfl) A0 c0 l0 w hr0 (fun x _ => tells_spans x w)
end
section
def bA (n k : Nat) : Array Bool := ((List.range n).map fun i => Nat.testBit k i).toArray
theorem bkZ {a b : World} {g : Nat} {o : Obj} (h : a.heap[g]? = some o) (q : HX a b := by with_reducible repeat (first | apply HX.drewN | apply HX.drew | apply HX.alloc | exact HX.refl _)) : b.heap[g]? = some o := q g o h
section
variable {P : Program} {ops : Array Oper} {Q : Exit → Act → World → Prop} {md : Region.Mode} {S : World → Prop} {ds : List Nat} {T : Bool × List (List Nat × List Nat)} {B : List Nat} {oi : Oper} {v : Value} {fuel : Nat} {l : Array Bool} {a a' : Act} {w : World}
theorem pQ (i : Nat) (N : Option Tmp) (l' : Array Bool) (h : wpAnyLast P md ops Q S ds fuel l' a' w) (hT : Sd (rtab md ops = T) := by assumption) (hi : ops[i]? = some oi := by rfl) (hN : oi.dst = N := by rfl) (hc : anyT T l.toList l'.toList i = true := by kernel_rfl)
    (hQ : ∀ c a w, Q (.panic c) (a.put oi.dst v) w → Q (.panic c) a w := by exact fun _ _ _ h => h) (h1 : Region.wanted oi (yielded ops a.tmps) = true := by rfl) (h2 : ∀ w, (execOp a.eval oi).run P w = .ok (.value v) w := by intro w'; go_simp; with_reducible rfl)
    (ha : a.put N v = a' := by simp only [Act.put, List.setIfInBounds_toArray, List.set_cons_zero, List.set_cons_succ, i64_w, i32_w]; rfl) : wpAnyLast P md ops Q S ds (fuel + 1) l a w :=
  pure_ l' hi hN (any_of hT.out hc) hQ (Or.inl ⟨h1, h2⟩) ha h
theorem tQ (i : Nat) (N : Option Tmp) (l' : Array Bool) (h : wpAnyLast P md ops Q S ds fuel l' a' w) (hT : Sd (rtab md ops = T) := by assumption) (hB : Sd (waitsOk T.2 B = true) := by assumption) (hS : S w := by assumption) (hi : ops[i]? = some oi := by rfl) (hN : oi.dst = N := by rfl) (hc : takeW T B ds l.toList l'.toList i = true := by kernel_rfl)
    (hQ : ∀ c a w, Q (.panic c) (a.put oi.dst v) w → Q (.panic c) a w := by exact fun _ _ _ h => h) (h1 : Region.wanted oi (yielded ops a.tmps) = true := by rfl) (h2 : ∀ w, S w → (execOp a.eval oi).run P w = .ok (.value v) w := by intro w' hs; (repeat (obtain ⟨_, hs⟩ := hs)); go_simp; with_reducible rfl)
    (ha : a.put N v = a' := by simp only [Act.put, List.setIfInBounds_toArray, List.set_cons_zero, List.set_cons_succ, i64_w, i32_w]; rfl) : wpAnyLast P md ops Q S ds (fuel + 1) l a w :=
  take_ l' hi hN (take_ofW hT.out hB.out hc) hQ (Or.inl ⟨h1, h2⟩) hS ha h
end
end
section
mutual
def b_checkMaterial.j0 : Nat → Bool → ByteArray → Int → Int → Int → Int → Int → List (S27) → Option (Int)
 | 0, _, _, _, _, _, _, _, _ => none
 | k + 1, x46, x118q0, x118q1, x118q2, x118q3, x118q4, x118q5, x118q6 => if x46 = true then (some 1) else (b_checkMaterial.l0 k 0 x118q6 (x118q6.length : Int) 0)
def b_checkMaterial.l0 : Nat → Int → List (S27) → Int → Int → Option (Int)
 | 0, _, _, _, _ => none
 | k + 1, x5, x48, x49, x50 => if x50 < x49 then (if 0 ≤ x50 then (if x50 < (x48.length : Int) then ((b_span.f ((rd_T27 x48 x50).f0) ((rd_T27 x48 x50).f1) 0 1000).bind fun t125 => (if t125 = true then (b_checkMaterial.l0 k (wrap64 (x5 + ((rd_T27 x48 x50).f0))) x48 x49 (wrap64 (x50 + 1))) else (some 1))) else (none)) else (none)) else (if x5 > 1000 then (some 12) else (some 0))
end
def b_checkMaterial.f (k : Nat) (l0_0 : List ByteArray) (l0_1 : List (S70)) (l0_2 : List (S27)) (l0_3 : List (S89)) (a0_4 : Int) (a0_5 : Int) (a0_6 : Int) (a1_0 : ByteArray) (a1_1 : Int) (a1_2 : Int) (a1_3 : Int) (a1_4 : Int) (a1_5 : Int) (l1_6 : List (S27)) : Option (Int) := (b_within.f a1_1 0 10000).bind fun t118 => (if t118 = true then ((b_within.f a1_2 (-1000) 1000).bind fun t119 => (if t119 = true then ((b_within.f a1_3 0 10000).bind fun t120 => (if t120 = true then ((b_within.f a1_4 a1_3 10000).bind fun t121 => (if t121 = true then ((b_within.f a1_5 1 10000).bind fun t122 => (if t122 = true then (b_checkMaterial.j0 k ((l1_6.length : Int) != (l0_0.length : Int)) a1_0 a1_1 a1_2 a1_3 a1_4 a1_5 l1_6) else (b_checkMaterial.j0 k true a1_0 a1_1 a1_2 a1_3 a1_4 a1_5 l1_6))) else (b_checkMaterial.j0 k true a1_0 a1_1 a1_2 a1_3 a1_4 a1_5 l1_6))) else (b_checkMaterial.j0 k true a1_0 a1_1 a1_2 a1_3 a1_4 a1_5 l1_6))) else (b_checkMaterial.j0 k true a1_0 a1_1 a1_2 a1_3 a1_4 a1_5 l1_6))) else (b_checkMaterial.j0 k true a1_0 a1_1 a1_2 a1_3 a1_4 a1_5 l1_6))
theorem b_checkMaterial.mono_l : ∀ k, (∀ y0 y1 y2 y3 y4 y5 y6 y7, LeO (b_checkMaterial.j0 k y0 y1 y2 y3 y4 y5 y6 y7) (b_checkMaterial.j0 (k + 1) y0 y1 y2 y3 y4 y5 y6 y7)) ∧ (∀ y0 y1 y2 y3, LeO (b_checkMaterial.l0 k y0 y1 y2 y3) (b_checkMaterial.l0 (k + 1) y0 y1 y2 y3))
 | 0 => ⟨fun _ _ _ _ _ _ _ _ r h => by simp [b_checkMaterial.j0] at h, fun _ _ _ _ r h => by simp [b_checkMaterial.l0] at h⟩
 | k + 1 => by
  obtain ⟨ih0, ih1⟩ := b_checkMaterial.mono_l k
  refine ⟨?_, ?_⟩
  ·intro y0 y1 y2 y3 y4 y5 y6 y7
   unfold b_checkMaterial.j0
   repeat' first
   | (with_reducible exact ih0 _ _ _ _ _ _ _ _)
   | (with_reducible exact ih1 _ _ _ _)
   | (with_reducible exact LeO.refl _)
   | (with_reducible exact LeO.none _)
   | (with_reducible refine LeO.ite ?_ ?_)
   | (with_reducible refine LeO.bind ?_ (fun _ => ?_))
   | exact LeO.none _
   | refine LeO.ite ?_ ?_
   | refine LeO.bind ?_ (fun _ => ?_)
  ·intro y0 y1 y2 y3
   unfold b_checkMaterial.l0
   repeat' first
   | (with_reducible exact ih0 _ _ _ _ _ _ _ _)
   | (with_reducible exact ih1 _ _ _ _)
   | (with_reducible exact LeO.refl _)
   | (with_reducible exact LeO.none _)
   | (with_reducible refine LeO.ite ?_ ?_)
   | (with_reducible refine LeO.bind ?_ (fun _ => ?_))
   | exact LeO.none _
   | refine LeO.ite ?_ ?_
   | refine LeO.bind ?_ (fun _ => ?_)
theorem b_checkMaterial.mono : ∀ a0 a1 a2 a3 a4 a5 a6 a7 a8 a9 a10 a11 a12 a13 k, LeO (b_checkMaterial.f k a0 a1 a2 a3 a4 a5 a6 a7 a8 a9 a10 a11 a12 a13) (b_checkMaterial.f (k + 1) a0 a1 a2 a3 a4 a5 a6 a7 a8 a9 a10 a11 a12 a13) := by
 intro a0 a1 a2 a3 a4 a5 a6 a7 a8 a9 a10 a11 a12 a13 k
 obtain ⟨ih0, ih1⟩ := b_checkMaterial.mono_l k
 unfold b_checkMaterial.f
 repeat' first
   | (with_reducible exact ih0 _ _ _ _ _ _ _ _)
   | (with_reducible exact ih1 _ _ _ _)
   | (with_reducible exact LeO.refl _)
   | (with_reducible exact LeO.none _)
   | (with_reducible refine LeO.ite ?_ ?_)
   | (with_reducible refine LeO.bind ?_ (fun _ => ?_))
   | exact LeO.none _
   | refine LeO.ite ?_ ?_
   | refine LeO.bind ?_ (fun _ => ?_)
theorem b_checkMaterial.calls (k : Nat) (A0_0 : Option Addr) (c0_0 : Nat) (l0_0 : List ByteArray) (A0_1 : Option Addr) (c0_1 : Nat) (l0_1 : List (S70)) (A0_2 : Option Addr) (c0_2 : Nat) (l0_2 : List (S27)) (A0_3 : Option Addr) (c0_3 : Nat) (l0_3 : List (S89)) (a0_4 : Int) (a0_5 : Int) (a0_6 : Int) (a1_0 : ByteArray) (a1_1 : Int) (a1_2 : Int) (a1_3 : Int) (a1_4 : Int) (a1_5 : Int) (A1_6 : Option Addr) (c1_6 : Nat) (l1_6 : List (S27)) (r : Int) (w : World) (hr0_0 : Kd.C Kd.string w A0_0 l0_0.length l0_0) (hc0_0 : l0_0.length ≤ c0_0) (hr0_1 : Kd.C k70 w A0_1 l0_1.length l0_1) (hc0_1 : l0_1.length ≤ c0_1) (hr0_2 : Kd.C k27 w A0_2 l0_2.length l0_2) (hc0_2 : l0_2.length ≤ c0_2) (hr0_3 : Kd.C k89 w A0_3 l0_3.length l0_3) (hc0_3 : l0_3.length ≤ c0_3) (hr1_6 : Kd.C k27 w A1_6 l1_6.length l1_6) (hc1_6 : l1_6.length ≤ c1_6) (h : b_checkMaterial.f k l0_0 l0_1 l0_2 l0_3 a0_4 a0_5 a0_6 a1_0 a1_1 a1_2 a1_3 a1_4 a1_5 l1_6 = some r) :
  Calls Tryz.prog 180 #[.agg #[.slice A0_0 l0_0.length c0_0, .slice A0_1 l0_1.length c0_1, .slice A0_2 l0_2.length c0_2, .slice A0_3 l0_3.length c0_3, .int .i64 a0_4, .int .i64 a0_5, .int .i64 a0_6], .agg #[.string a1_0, .int .i64 a1_1, .int .i64 a1_2, .int .i64 a1_3, .int .i64 a1_4, .int .i64 a1_5, .slice A1_6 l1_6.length c1_6]] w fun e w' => e = .returned (.int .i64 r) ∧ Below w.heap.size w w' := by
 have hu29 := Tryz.underlying29; have hu70 := Tryz.underlying70; have hu27 := Tryz.underlying27; have HR0_0 := Sd.mk hr0_0; have HC0_0 := Sd.mk hc0_0; clear hr0_0 hc0_0; have HR0_1 := Sd.mk hr0_1; have HC0_1 := Sd.mk hc0_1; clear hr0_1 hc0_1; have HR0_2 := Sd.mk hr0_2; have HC0_2 := Sd.mk hc0_2; clear hr0_2 hc0_2; have HR0_3 := Sd.mk hr0_3; have HC0_3 := Sd.mk hc0_3; clear hr0_3 hc0_3; have HR1_6 := Sd.mk hr1_6; have HC1_6 := Sd.mk hc1_6; clear hr1_6 hc1_6; have HB := Sd.mk (Below.refl w.heap.size w)
 have H : ((b_within.f a1_1 0 10000).bind fun t118 => (if t118 = true then ((b_within.f a1_2 (-1000) 1000).bind fun t119 => (if t119 = true then ((b_within.f a1_3 0 10000).bind fun t120 => (if t120 = true then ((b_within.f a1_4 a1_3 10000).bind fun t121 => (if t121 = true then ((b_within.f a1_5 1 10000).bind fun t122 => (if t122 = true then (b_checkMaterial.j0 k ((l1_6.length : Int) != (l0_0.length : Int)) a1_0 a1_1 a1_2 a1_3 a1_4 a1_5 l1_6) else (b_checkMaterial.j0 k true a1_0 a1_1 a1_2 a1_3 a1_4 a1_5 l1_6))) else (b_checkMaterial.j0 k true a1_0 a1_1 a1_2 a1_3 a1_4 a1_5 l1_6))) else (b_checkMaterial.j0 k true a1_0 a1_1 a1_2 a1_3 a1_4 a1_5 l1_6))) else (b_checkMaterial.j0 k true a1_0 a1_1 a1_2 a1_3 a1_4 a1_5 l1_6))) else (b_checkMaterial.j0 k true a1_0 a1_1 a1_2 a1_3 a1_4 a1_5 l1_6))) = some r := h
 clear h; have HC3 := Sd.mk H; clear H
 go_enter Tryz.func180, Tryz.ntmps180
 go_upto_region 1 with (first | ((with_reducible refine gate_dst (N := 2) rfl ?_); (try (refine gate_guard (by rfl) ?_; dsimp only)); refine box_event ?hg (N := 2) ?hd (cs := #[.slice A0_0 l0_0.length c0_0, .slice A0_1 l0_1.length c0_1, .slice A0_2 l0_2.length c0_2, .slice A0_3 l0_3.length c0_3, .int .i64 a0_4, .int .i64 a0_5, .int .i64 a0_6]) (t := 29) ?hr ?_; (case hd => rfl); (case hg => rfl); (case hr => exact tG); intro gb116 hg w4 hbox hb; have BK116 := Sd.mk (hbox); have GW116 := Sd.mk (bSz hg (bBl HB.out)); have GE116 := Sd.mk (bSz hg (bBl HB.out)); replace HB := Sd.mk (below_step (bBl HB.out) hb); clear hb hbox hg) | ((with_reducible refine gate_dst (N := 3) rfl ?_); (try (refine gate_guard (by rfl) ?_; dsimp only)); refine box_event ?hg (N := 3) ?hd (cs := #[.string a1_0, .int .i64 a1_1, .int .i64 a1_2, .int .i64 a1_3, .int .i64 a1_4, .int .i64 a1_5, .slice A1_6 l1_6.length c1_6]) (t := 70) ?hr ?_; (case hd => rfl); (case hg => rfl); (case hr => exact tG); intro gb117 hg w5 hbox hb; have BK117 := Sd.mk (hbox); have GW117 := Sd.mk (bSz hg (bBl HB.out)); have GE117 := Sd.mk (bSz hg (bBl HB.out)); replace HB := Sd.mk (below_step (bBl HB.out) hb); have NB116_117 := Sd.mk (bNl hg (bkA BK116.out)); have NB117_116 := Sd.mk (bNg hg (bkA BK116.out)); replace BK116 := Sd.mk (blk_below (bkA BK116.out) hb); clear hb hbox hg))
 (try simp only [Act.put, List.setIfInBounds_toArray, List.set_cons_zero, List.set_cons_succ])
 go_cut [46] (fun v46 wc => ∃ (kq : Nat) (x46_2 : Bool), v46 = .bool x46_2 ∧ Sd (b_checkMaterial.j0 kq x46_2 a1_0 a1_1 a1_2 a1_3 a1_4 a1_5 l1_6 = some r) ∧ Sd (kq ≤ k) ∧ Sd (wc.heap[gb116]? = some (.cells #[(.slice A0_0 l0_0.length c0_0), (.slice A0_1 l0_1.length c0_1), (.slice A0_2 l0_2.length c0_2), (.slice A0_3 l0_3.length c0_3), .int .i64 a0_4, .int .i64 a0_5, .int .i64 a0_6] 29 (0, 0))) ∧ Sd (wc.heap[gb117]? = some (.cells #[.string a1_0, .int .i64 a1_1, .int .i64 a1_2, .int .i64 a1_3, .int .i64 a1_4, .int .i64 a1_5, (.slice A1_6 l1_6.length c1_6)] 70 (0, 0))) ∧ Sd (Below w.heap.size w wc))
 case first =>
  have H := HC3.out; clear HC3; replace H := Option.bind_eq_some_iff.mp H; obtain ⟨t118, A60, H⟩ := H
  try dsimp only at H
  have A6 := Sd.mk A60; clear A60
  by_cases c7 : t118 = true
  ·subst c7
   have H1 : ((b_within.f a1_2 (-1000) 1000).bind fun t119 => (if t119 = true then ((b_within.f a1_3 0 10000).bind fun t120 => (if t120 = true then ((b_within.f a1_4 a1_3 10000).bind fun t121 => (if t121 = true then ((b_within.f a1_5 1 10000).bind fun t122 => (if t122 = true then (b_checkMaterial.j0 k ((l1_6.length : Int) != (l0_0.length : Int)) a1_0 a1_1 a1_2 a1_3 a1_4 a1_5 l1_6) else (b_checkMaterial.j0 k true a1_0 a1_1 a1_2 a1_3 a1_4 a1_5 l1_6))) else (b_checkMaterial.j0 k true a1_0 a1_1 a1_2 a1_3 a1_4 a1_5 l1_6))) else (b_checkMaterial.j0 k true a1_0 a1_1 a1_2 a1_3 a1_4 a1_5 l1_6))) else (b_checkMaterial.j0 k true a1_0 a1_1 a1_2 a1_3 a1_4 a1_5 l1_6))) = some r := by rw [if_pos rfl] at H; exact H
   clear H; have H := H1; clear H1; replace H := Option.bind_eq_some_iff.mp H; obtain ⟨t119, A80, H⟩ := H
   try dsimp only at H
   have A8 := Sd.mk A80; clear A80
   by_cases c9 : t119 = true
   ·subst c9
    have H1 : ((b_within.f a1_3 0 10000).bind fun t120 => (if t120 = true then ((b_within.f a1_4 a1_3 10000).bind fun t121 => (if t121 = true then ((b_within.f a1_5 1 10000).bind fun t122 => (if t122 = true then (b_checkMaterial.j0 k ((l1_6.length : Int) != (l0_0.length : Int)) a1_0 a1_1 a1_2 a1_3 a1_4 a1_5 l1_6) else (b_checkMaterial.j0 k true a1_0 a1_1 a1_2 a1_3 a1_4 a1_5 l1_6))) else (b_checkMaterial.j0 k true a1_0 a1_1 a1_2 a1_3 a1_4 a1_5 l1_6))) else (b_checkMaterial.j0 k true a1_0 a1_1 a1_2 a1_3 a1_4 a1_5 l1_6))) = some r := by rw [if_pos rfl] at H; exact H
    clear H; have H := H1; clear H1; replace H := Option.bind_eq_some_iff.mp H; obtain ⟨t120, A100, H⟩ := H
    try dsimp only at H
    have A10 := Sd.mk A100; clear A100
    by_cases c11 : t120 = true
    ·subst c11
     have H1 : ((b_within.f a1_4 a1_3 10000).bind fun t121 => (if t121 = true then ((b_within.f a1_5 1 10000).bind fun t122 => (if t122 = true then (b_checkMaterial.j0 k ((l1_6.length : Int) != (l0_0.length : Int)) a1_0 a1_1 a1_2 a1_3 a1_4 a1_5 l1_6) else (b_checkMaterial.j0 k true a1_0 a1_1 a1_2 a1_3 a1_4 a1_5 l1_6))) else (b_checkMaterial.j0 k true a1_0 a1_1 a1_2 a1_3 a1_4 a1_5 l1_6))) = some r := by rw [if_pos rfl] at H; exact H
     clear H; have H := H1; clear H1; replace H := Option.bind_eq_some_iff.mp H; obtain ⟨t121, A120, H⟩ := H
     try dsimp only at H
     have A12 := Sd.mk A120; clear A120
     by_cases c13 : t121 = true
     ·subst c13
      have H1 : ((b_within.f a1_5 1 10000).bind fun t122 => (if t122 = true then (b_checkMaterial.j0 k ((l1_6.length : Int) != (l0_0.length : Int)) a1_0 a1_1 a1_2 a1_3 a1_4 a1_5 l1_6) else (b_checkMaterial.j0 k true a1_0 a1_1 a1_2 a1_3 a1_4 a1_5 l1_6))) = some r := by rw [if_pos rfl] at H; exact H
      clear H; have H := H1; clear H1; replace H := Option.bind_eq_some_iff.mp H; obtain ⟨t122, A140, H⟩ := H
      try dsimp only at H
      have A14 := Sd.mk A140; clear A140
      by_cases c15 : t122 = true
      ·subst c15
       have H1 : (b_checkMaterial.j0 k ((l1_6.length : Int) != (l0_0.length : Int)) a1_0 a1_1 a1_2 a1_3 a1_4 a1_5 l1_6) = some r := by rw [if_pos rfl] at H; exact H
       clear H; have H := H1; clear H1; have H' := Sd.mk H; clear H; have hnb16 := NB117_116.out; have hnc16 := NB116_117.out; obtain ⟨u17_0, u17_1, u17_2, u17_3, u17_4, u17_5, u17_6, o17_0, o17_1, o17_2, o17_3, o17_4, o17_5, o17_6⟩ := bc7 (w := w5) BK117.out
       go_wp2_with (first | ((with_reducible refine gate_callee (f := 56) rfl ?_); refine goesL_ (some 10) rfl rfl Tryz.func56 (by kernel_rfl) rfl #[.int .i64 a1_1, .int .i64 0, .int .i64 10000] rfl tM ?_; (with_reducible refine (b_within.calls a1_1 0 10000 true _ A6.out).mono ?_); rintro e w' ⟨rfl, ⟨nd, rfl⟩⟩; refine ⟨_, rfl, ?_⟩) | (go_at_call 56; (with_reducible refine (b_within.calls a1_2 (-1000) 1000 true _ A8.out).mono ?_); rintro e w' ⟨rfl, ⟨nd, rfl⟩⟩) | (go_at_call 56; (with_reducible refine (b_within.calls a1_3 0 10000 true _ A10.out).mono ?_); rintro e w' ⟨rfl, ⟨nd, rfl⟩⟩) | (go_at_call 56; (with_reducible refine (b_within.calls a1_4 a1_3 10000 true _ A12.out).mono ?_); rintro e w' ⟨rfl, ⟨nd, rfl⟩⟩) | (go_at_call 56; (with_reducible refine (b_within.calls a1_5 1 10000 true _ A14.out).mono ?_); rintro e w' ⟨rfl, ⟨nd, rfl⟩⟩; obtain ⟨u18_0, u18_1, u18_2, u18_3, u18_4, u18_5, u18_6, o18_0, o18_1, o18_2, o18_3, o18_4, o18_5, o18_6⟩ := bc7 (w := w5) BK116.out))
       go_meet
       case rel => exact ⟨_, (((l1_6.length : Int) != (l0_0.length : Int))), tS, H', ⟨by first | omega | exact Nat.le_refl _⟩, ⟨bkA BK116.out⟩, ⟨bkA BK117.out⟩, ⟨bBl HB.out⟩⟩
      ·replace c15 := Bool.eq_false_iff.mpr c15
       subst c15
       have H1 : (b_checkMaterial.j0 k true a1_0 a1_1 a1_2 a1_3 a1_4 a1_5 l1_6) = some r := by rw [if_neg (show ¬ (false = true) by decide)] at H; exact H
       clear H; have H := H1; clear H1; have H' := Sd.mk H; clear H; have hnb19 := NB117_116.out; have hnc19 := NB116_117.out; obtain ⟨u20_0, u20_1, u20_2, u20_3, u20_4, u20_5, u20_6, o20_0, o20_1, o20_2, o20_3, o20_4, o20_5, o20_6⟩ := bc7 (w := w5) BK117.out
       go_wp2_with (first | ((with_reducible refine gate_callee (f := 56) rfl ?_); refine goesL_ (some 10) rfl rfl Tryz.func56 (by kernel_rfl) rfl #[.int .i64 a1_1, .int .i64 0, .int .i64 10000] rfl tM ?_; (with_reducible refine (b_within.calls a1_1 0 10000 true _ A6.out).mono ?_); rintro e w' ⟨rfl, ⟨nd, rfl⟩⟩; refine ⟨_, rfl, ?_⟩) | (go_at_call 56; (with_reducible refine (b_within.calls a1_2 (-1000) 1000 true _ A8.out).mono ?_); rintro e w' ⟨rfl, ⟨nd, rfl⟩⟩) | (go_at_call 56; (with_reducible refine (b_within.calls a1_3 0 10000 true _ A10.out).mono ?_); rintro e w' ⟨rfl, ⟨nd, rfl⟩⟩) | (go_at_call 56; (with_reducible refine (b_within.calls a1_4 a1_3 10000 true _ A12.out).mono ?_); rintro e w' ⟨rfl, ⟨nd, rfl⟩⟩) | (go_at_call 56; (with_reducible refine (b_within.calls a1_5 1 10000 false _ A14.out).mono ?_); rintro e w' ⟨rfl, ⟨nd, rfl⟩⟩))
       go_meet
       case rel => exact ⟨_, (true), tS, H', ⟨by first | omega | exact Nat.le_refl _⟩, ⟨bkA BK116.out⟩, ⟨bkA BK117.out⟩, ⟨bBl HB.out⟩⟩
     ·replace c13 := Bool.eq_false_iff.mpr c13
      subst c13
      have H1 : (b_checkMaterial.j0 k true a1_0 a1_1 a1_2 a1_3 a1_4 a1_5 l1_6) = some r := by rw [if_neg (show ¬ (false = true) by decide)] at H; exact H
      clear H; have H := H1; clear H1; have H' := Sd.mk H; clear H; have hnb21 := NB117_116.out; have hnc21 := NB116_117.out; obtain ⟨u22_0, u22_1, u22_2, u22_3, u22_4, u22_5, u22_6, o22_0, o22_1, o22_2, o22_3, o22_4, o22_5, o22_6⟩ := bc7 (w := w5) BK117.out
      go_wp2_with (first | ((with_reducible refine gate_callee (f := 56) rfl ?_); refine goesL_ (some 10) rfl rfl Tryz.func56 (by kernel_rfl) rfl #[.int .i64 a1_1, .int .i64 0, .int .i64 10000] rfl tM ?_; (with_reducible refine (b_within.calls a1_1 0 10000 true _ A6.out).mono ?_); rintro e w' ⟨rfl, ⟨nd, rfl⟩⟩; refine ⟨_, rfl, ?_⟩) | (go_at_call 56; (with_reducible refine (b_within.calls a1_2 (-1000) 1000 true _ A8.out).mono ?_); rintro e w' ⟨rfl, ⟨nd, rfl⟩⟩) | (go_at_call 56; (with_reducible refine (b_within.calls a1_3 0 10000 true _ A10.out).mono ?_); rintro e w' ⟨rfl, ⟨nd, rfl⟩⟩) | (go_at_call 56; (with_reducible refine (b_within.calls a1_4 a1_3 10000 false _ A12.out).mono ?_); rintro e w' ⟨rfl, ⟨nd, rfl⟩⟩))
      go_meet
      case rel => exact ⟨_, (true), tS, H', ⟨by first | omega | exact Nat.le_refl _⟩, ⟨bkA BK116.out⟩, ⟨bkA BK117.out⟩, ⟨bBl HB.out⟩⟩
    ·replace c11 := Bool.eq_false_iff.mpr c11
     subst c11
     have H1 : (b_checkMaterial.j0 k true a1_0 a1_1 a1_2 a1_3 a1_4 a1_5 l1_6) = some r := by rw [if_neg (show ¬ (false = true) by decide)] at H; exact H
     clear H; have H := H1; clear H1; have H' := Sd.mk H; clear H; have hnb23 := NB117_116.out; have hnc23 := NB116_117.out; obtain ⟨u24_0, u24_1, u24_2, u24_3, u24_4, u24_5, u24_6, o24_0, o24_1, o24_2, o24_3, o24_4, o24_5, o24_6⟩ := bc7 (w := w5) BK117.out
     go_wp2_with (first | ((with_reducible refine gate_callee (f := 56) rfl ?_); refine goesL_ (some 10) rfl rfl Tryz.func56 (by kernel_rfl) rfl #[.int .i64 a1_1, .int .i64 0, .int .i64 10000] rfl tM ?_; (with_reducible refine (b_within.calls a1_1 0 10000 true _ A6.out).mono ?_); rintro e w' ⟨rfl, ⟨nd, rfl⟩⟩; refine ⟨_, rfl, ?_⟩) | (go_at_call 56; (with_reducible refine (b_within.calls a1_2 (-1000) 1000 true _ A8.out).mono ?_); rintro e w' ⟨rfl, ⟨nd, rfl⟩⟩) | (go_at_call 56; (with_reducible refine (b_within.calls a1_3 0 10000 false _ A10.out).mono ?_); rintro e w' ⟨rfl, ⟨nd, rfl⟩⟩))
     go_meet
     case rel => exact ⟨_, (true), tS, H', ⟨by first | omega | exact Nat.le_refl _⟩, ⟨bkA BK116.out⟩, ⟨bkA BK117.out⟩, ⟨bBl HB.out⟩⟩
   ·replace c9 := Bool.eq_false_iff.mpr c9
    subst c9
    have H1 : (b_checkMaterial.j0 k true a1_0 a1_1 a1_2 a1_3 a1_4 a1_5 l1_6) = some r := by rw [if_neg (show ¬ (false = true) by decide)] at H; exact H
    clear H; have H := H1; clear H1; have H' := Sd.mk H; clear H; have hnb25 := NB117_116.out; have hnc25 := NB116_117.out; obtain ⟨u26_0, u26_1, u26_2, u26_3, u26_4, u26_5, u26_6, o26_0, o26_1, o26_2, o26_3, o26_4, o26_5, o26_6⟩ := bc7 (w := w5) BK117.out
    go_wp2_with (first | ((with_reducible refine gate_callee (f := 56) rfl ?_); refine goesL_ (some 10) rfl rfl Tryz.func56 (by kernel_rfl) rfl #[.int .i64 a1_1, .int .i64 0, .int .i64 10000] rfl tM ?_; (with_reducible refine (b_within.calls a1_1 0 10000 true _ A6.out).mono ?_); rintro e w' ⟨rfl, ⟨nd, rfl⟩⟩; refine ⟨_, rfl, ?_⟩) | (go_at_call 56; (with_reducible refine (b_within.calls a1_2 (-1000) 1000 false _ A8.out).mono ?_); rintro e w' ⟨rfl, ⟨nd, rfl⟩⟩))
    go_meet
    case rel => exact ⟨_, (true), tS, H', ⟨by first | omega | exact Nat.le_refl _⟩, ⟨bkA BK116.out⟩, ⟨bkA BK117.out⟩, ⟨bBl HB.out⟩⟩
  ·replace c7 := Bool.eq_false_iff.mpr c7
   subst c7
   have H1 : (b_checkMaterial.j0 k true a1_0 a1_1 a1_2 a1_3 a1_4 a1_5 l1_6) = some r := by rw [if_neg (show ¬ (false = true) by decide)] at H; exact H
   clear H; have H := H1; clear H1; have H' := Sd.mk H; clear H; have hnb27 := NB117_116.out; have hnc27 := NB116_117.out; obtain ⟨u28_0, u28_1, u28_2, u28_3, u28_4, u28_5, u28_6, o28_0, o28_1, o28_2, o28_3, o28_4, o28_5, o28_6⟩ := bc7 (w := w5) BK117.out
   go_wp2_with (first | ((with_reducible refine gate_callee (f := 56) rfl ?_); refine goesL_ (some 10) rfl rfl Tryz.func56 (by kernel_rfl) rfl #[.int .i64 a1_1, .int .i64 0, .int .i64 10000] rfl tM ?_; (with_reducible refine (b_within.calls a1_1 0 10000 false _ A6.out).mono ?_); rintro e w' ⟨rfl, ⟨nd, rfl⟩⟩; refine ⟨_, rfl, ?_⟩))
   go_meet
   case rel => exact ⟨_, (true), tS, H', ⟨by first | omega | exact Nat.le_refl _⟩, ⟨bkA BK116.out⟩, ⟨bkA BK117.out⟩, ⟨bBl HB.out⟩⟩
 case rest =>
  clear HC3; (try clear c1); (try clear c2); (try clear p2); (try clear c5); (try clear c7); (try clear c9); (try clear c11); (try clear c13); (try clear c15); (try clear c16); (try clear c18); (try clear c19); (try clear c21); (try clear c23); (try clear c25); (try clear c27); (try clear u17_0 u17_1 u17_2 u17_3 u17_4 u17_5 u17_6); (try clear u18_0 u18_1 u18_2 u18_3 u18_4 u18_5 u18_6); (try clear u20_0 u20_1 u20_2 u20_3 u20_4 u20_5 u20_6); (try clear u22_0 u22_1 u22_2 u22_3 u22_4 u22_5 u22_6); (try clear u24_0 u24_1 u24_2 u24_3 u24_4 u24_5 u24_6); (try clear u26_0 u26_1 u26_2 u26_3 u26_4 u26_5 u26_6); (try clear u28_0 u28_1 u28_2 u28_3 u28_4 u28_5 u28_6); (try clear o17_0 o17_1 o17_2 o17_3 o17_4 o17_5 o17_6); (try clear o18_0 o18_1 o18_2 o18_3 o18_4 o18_5 o18_6); (try clear o20_0 o20_1 o20_2 o20_3 o20_4 o20_5 o20_6); (try clear o22_0 o22_1 o22_2 o22_3 o22_4 o22_5 o22_6); (try clear o24_0 o24_1 o24_2 o24_3 o24_4 o24_5 o24_6); (try clear o26_0 o26_1 o26_2 o26_3 o26_4 o26_5 o26_6); (try clear o28_0 o28_1 o28_2 o28_3 o28_4 o28_5 o28_6); obtain ⟨kq, x46_2, rfl, HA, HJ2, BK116, BK117, HB⟩ := hcut
  cases kq with
  | zero => exact absurd HA.out (by simp [b_checkMaterial.j0])
  | succ kj2 =>
   have H := HA.out; clear HA
   simp only [b_checkMaterial.j0] at H
   by_cases c29 : x46_2 = true
   ·subst c29
    have H1 : (some 1) = some r := by rw [if_pos rfl] at H; exact H
    clear H; have H := H1; clear H1; obtain rfl := Option.some.inj H
    go_wp2
    go_ret
    exact ⟨tE, bBl HB.out⟩
   ·replace c29 := Bool.eq_false_iff.mpr c29
    subst c29
    have H1 : (b_checkMaterial.l0 kj2 0 l1_6 (l1_6.length : Int) 0) = some r := by rw [if_neg (show ¬ (false = true) by decide)] at H; exact H
    clear H; have H := H1; clear H1; have H' := Sd.mk H; clear H; have hnb30 := NB117_116.out; have hnc30 := NB116_117.out; obtain ⟨u31_0, u31_1, u31_2, u31_3, u31_4, u31_5, u31_6, o31_0, o31_1, o31_2, o31_3, o31_4, o31_5, o31_6⟩ := bc7 (w := wc) BK117.out
    go_wp2
    go_loopg [5, 50] kj2 (fun kq v5 v50 w' => ∃ (x5_2 : Int) (x50_2 : Int), v5 = .int .i64 x5_2 ∧ v50 = .int .i64 x50_2 ∧ Sd (b_checkMaterial.l0 kq x5_2 l1_6 (l1_6.length : Int) x50_2 = some r) ∧ Sd (kq ≤ kj2) ∧ Sd (w'.heap[gb116]? = some (.cells #[(.slice A0_0 l0_0.length c0_0), (.slice A0_1 l0_1.length c0_1), (.slice A0_2 l0_2.length c0_2), (.slice A0_3 l0_3.length c0_3), .int .i64 a0_4, .int .i64 a0_5, .int .i64 a0_6] 29 (0, 0))) ∧ Sd (w'.heap[gb117]? = some (.cells #[.string a1_0, .int .i64 a1_1, .int .i64 a1_2, .int .i64 a1_3, .int .i64 a1_4, .int .i64 a1_5, (.slice A1_6 l1_6.length c1_6)] 70 (0, 0))) ∧ Sd (Below w.heap.size w w'))
    case atStart => exact ⟨(0), (0), tS, tS, H', ⟨Nat.le_refl _⟩, ⟨bkA BK116.out⟩, ⟨bkA BK117.out⟩, ⟨bBl HB.out⟩⟩
    case round =>
     clear H'; (try clear c1); (try clear c2); (try clear p2 p2); (try clear c3); (try clear c5); (try clear c7); (try clear c9); (try clear c11); (try clear c13); (try clear c15); (try clear c16); (try clear c18); (try clear c19); (try clear c21); (try clear c23); (try clear c25); (try clear c27); (try clear c29); (try clear c30); (try clear u17_0 u17_1 u17_2 u17_3 u17_4 u17_5 u17_6); (try clear u18_0 u18_1 u18_2 u18_3 u18_4 u18_5 u18_6); (try clear u20_0 u20_1 u20_2 u20_3 u20_4 u20_5 u20_6); (try clear u22_0 u22_1 u22_2 u22_3 u22_4 u22_5 u22_6); (try clear u24_0 u24_1 u24_2 u24_3 u24_4 u24_5 u24_6); (try clear u26_0 u26_1 u26_2 u26_3 u26_4 u26_5 u26_6); (try clear u28_0 u28_1 u28_2 u28_3 u28_4 u28_5 u28_6); (try clear u31_0 u31_1 u31_2 u31_3 u31_4 u31_5 u31_6); (try clear o17_0 o17_1 o17_2 o17_3 o17_4 o17_5 o17_6); (try clear o18_0 o18_1 o18_2 o18_3 o18_4 o18_5 o18_6); (try clear o20_0 o20_1 o20_2 o20_3 o20_4 o20_5 o20_6); (try clear o22_0 o22_1 o22_2 o22_3 o22_4 o22_5 o22_6); (try clear o24_0 o24_1 o24_2 o24_3 o24_4 o24_5 o24_6); (try clear o26_0 o26_1 o26_2 o26_3 o26_4 o26_5 o26_6); (try clear o28_0 o28_1 o28_2 o28_3 o28_4 o28_5 o28_6); (try clear o31_0 o31_1 o31_2 o31_3 o31_4 o31_5 o31_6); obtain ⟨x5_2, x50_2, rfl, rfl, HA, HK2, BK116, BK117, HB⟩ := hrel
     cases gk with
     | zero => exact absurd HA.out (by simp [b_checkMaterial.l0])
     | succ k2 =>
      have H := HA.out; clear HA
      simp only [b_checkMaterial.l0] at H
      by_cases c32 : x50_2 < (l1_6.length : Int)
      ·rw [if_pos c32] at H
       have c32b0 : decide (x50_2 < (l1_6.length : Int)) = true := decide_eq_true c32
       clear c32
       by_cases c33 : 0 ≤ x50_2
       ·rw [if_pos c33] at H
        have c33b0 : decide (0 ≤ x50_2) = true := decide_eq_true c33
        clear c33
        by_cases c34 : x50_2 < (l1_6.length : Int)
        ·rw [if_pos c34] at H
         have c34b0 : decide (x50_2 < (l1_6.length : Int)) = true := decide_eq_true c34
         clear c34; replace H := Option.bind_eq_some_iff.mp H; obtain ⟨t125, A350, H⟩ := H
         try dsimp only at H
         have A35 := Sd.mk A350; clear A350
         by_cases c36 : t125 = true
         ·subst c36
          have H1 : (b_checkMaterial.l0 k2 (wrap64 (x5_2 + ((rd_T27 l1_6 x50_2).f0))) l1_6 (l1_6.length : Int) (wrap64 (x50_2 + 1))) = some r := by rw [if_pos rfl] at H; exact H
          clear H; have H := H1; clear H1; have H' := Sd.mk H; clear H
          have p123 : 0 ≤ (x50_2 : Int) := tB
          have q123 : x50_2 < (l1_6.length : Int) := tB
          obtain ⟨ad123, e123, hx123_0, hx123_1⟩ := at_T27 HR1_6.out x50_2 p123 q123; cases e123; replace hx123_0 := cU HB hx123_0; replace hx123_1 := cU HB hx123_1; replace p123 := eq_true p123; replace q123 := eq_true q123
          go_wp2_with (first | ((with_reducible refine gate_dst (N := 7) rfl ?_); (try (refine gate_guard (by rfl) ?_; dsimp only)); refine box_event ?hg (N := 7) ?hd (cs := #[.int .i64 0, .int .i64 0]) (t := 27) ?hr ?_; (case hd => rfl); (case hg => rfl); (case hr => exact tG); intro gb124 hg w37 hbox hb; have BK124 := Sd.mk (hbox); have GW124 := Sd.mk (bSz hg (bBl HB.out)); have GE124 := Sd.mk (bSz hg (bBl HB.out)); replace HB := Sd.mk (below_step (bBl HB.out) hb); have NB116_124 := Sd.mk (bNl hg (bkA BK116.out)); have NB124_116 := Sd.mk (bNg hg (bkA BK116.out)); replace BK116 := Sd.mk (blk_below (bkA BK116.out) hb); have NB117_124 := Sd.mk (bNl hg (bkA BK117.out)); have NB124_117 := Sd.mk (bNg hg (bkA BK117.out)); replace BK117 := Sd.mk (blk_below (bkA BK117.out) hb); clear hb hbox hg; have hnb38 := NB124_116.out; have hnc38 := NB116_124.out; have hnb39 := NB124_117.out; have hnc39 := NB117_124.out; obtain ⟨u40_0, u40_1, o40_0, o40_1⟩ := bc2 (w := w37) BK124.out) | ((with_reducible refine gate_callee (f := 101) rfl ?_); refine goesL_ (some 55) rfl rfl Tryz.func101 (by kernel_rfl) rfl #[.agg #[.int .i64 ((rd_T27 l1_6 x50_2).f0), .int .i64 ((rd_T27 l1_6 x50_2).f1)], .int .i64 0, .int .i64 1000] rfl tM ?_; (with_reducible refine (b_span.calls ((rd_T27 l1_6 x50_2).f0) ((rd_T27 l1_6 x50_2).f1) 0 1000 true _ A35.out).mono ?_); rintro e w41 ⟨rfl, hb⟩; refine ⟨_, rfl, ?_⟩; replace BK116 := Sd.mk (blk_below (g := gb116) (o := .cells #[.slice A0_0 l0_0.length c0_0, .slice A0_1 l0_1.length c0_1, .slice A0_2 l0_2.length c0_2, .slice A0_3 l0_3.length c0_3, .int .i64 a0_4, .int .i64 a0_5, .int .i64 a0_6] 29 (0, 0)) (by refine bkZ ?_; refine blk_far ?_ NB116_124.out _; refine bkZ ?_; refine blk_far ?_ NB116_124.out _; refine bkZ ?_; exact BK116.out) hb); replace BK117 := Sd.mk (blk_below (g := gb117) (o := .cells #[.string a1_0, .int .i64 a1_1, .int .i64 a1_2, .int .i64 a1_3, .int .i64 a1_4, .int .i64 a1_5, .slice (some ad123) l1_6.length c1_6] 70 (0, 0)) (by refine bkZ ?_; refine blk_far ?_ NB117_124.out _; refine bkZ ?_; refine blk_far ?_ NB117_124.out _; refine bkZ ?_; exact BK117.out) hb); replace BK124 := Sd.mk (blk_below (g := gb124) (o := .cells #[.int .i64 ((rd_T27 l1_6 x50_2).f0), .int .i64 ((rd_T27 l1_6 x50_2).f1)] 27 (0, 0)) (by refine bkZ ?_; refine blk_put (cs := #[.int .i64 ((rd_T27 l1_6 x50_2).f0), .int .i64 0]) ?_ 1 _ rfl; refine bkZ ?_; refine blk_put (cs := #[.int .i64 0, .int .i64 0]) ?_ 0 _ rfl; refine bkZ ?_; exact BK124.out) hb); replace HB := Sd.mk (below_step (bBl HB.out) hb); (try clear hb); (try clear hb2); (try clear hk); (try clear hi); obtain ⟨u42_0, u42_1, o42_0, o42_1⟩ := bc2 (w := w41) BK124.out))
          go_roundg k2
          case measure => have := HJ2.out; have := HK2.out; omega
          case rel => exact ⟨(wrap64 (x5_2 + ((rd_T27 l1_6 x50_2).f0))), (wrap64 (x50_2 + 1)), tS, tS, H', ⟨by have := HJ2.out; have := HK2.out; omega⟩, ⟨bkA BK116.out⟩, ⟨bkA BK117.out⟩, ⟨bBl HB.out⟩⟩
         ·replace c36 := Bool.eq_false_iff.mpr c36
          subst c36
          have H1 : (some 1) = some r := by rw [if_neg (show ¬ (false = true) by decide)] at H; exact H
          clear H; have H := H1; clear H1; obtain rfl := Option.some.inj H
          have p123 : 0 ≤ (x50_2 : Int) := tB
          have q123 : x50_2 < (l1_6.length : Int) := tB
          obtain ⟨ad123, e123, hx123_0, hx123_1⟩ := at_T27 HR1_6.out x50_2 p123 q123; cases e123; replace hx123_0 := cU HB hx123_0; replace hx123_1 := cU HB hx123_1; replace p123 := eq_true p123; replace q123 := eq_true q123
          go_wp2_with (first | ((with_reducible refine gate_dst (N := 7) rfl ?_); (try (refine gate_guard (by rfl) ?_; dsimp only)); refine box_event ?hg (N := 7) ?hd (cs := #[.int .i64 0, .int .i64 0]) (t := 27) ?hr ?_; (case hd => rfl); (case hg => rfl); (case hr => exact tG); intro gb124 hg w43 hbox hb; have BK124 := Sd.mk (hbox); have GW124 := Sd.mk (bSz hg (bBl HB.out)); have GE124 := Sd.mk (bSz hg (bBl HB.out)); replace HB := Sd.mk (below_step (bBl HB.out) hb); have NB116_124 := Sd.mk (bNl hg (bkA BK116.out)); have NB124_116 := Sd.mk (bNg hg (bkA BK116.out)); replace BK116 := Sd.mk (blk_below (bkA BK116.out) hb); have NB117_124 := Sd.mk (bNl hg (bkA BK117.out)); have NB124_117 := Sd.mk (bNg hg (bkA BK117.out)); replace BK117 := Sd.mk (blk_below (bkA BK117.out) hb); clear hb hbox hg; have hnb44 := NB124_116.out; have hnc44 := NB116_124.out; have hnb45 := NB124_117.out; have hnc45 := NB117_124.out; obtain ⟨u46_0, u46_1, o46_0, o46_1⟩ := bc2 (w := w43) BK124.out) | ((with_reducible refine gate_callee (f := 101) rfl ?_); refine goesL_ (some 55) rfl rfl Tryz.func101 (by kernel_rfl) rfl #[.agg #[.int .i64 ((rd_T27 l1_6 x50_2).f0), .int .i64 ((rd_T27 l1_6 x50_2).f1)], .int .i64 0, .int .i64 1000] rfl tM ?_; (with_reducible refine (b_span.calls ((rd_T27 l1_6 x50_2).f0) ((rd_T27 l1_6 x50_2).f1) 0 1000 false _ A35.out).mono ?_); rintro e w47 ⟨rfl, hb⟩; refine ⟨_, rfl, ?_⟩; replace BK116 := Sd.mk (blk_below (g := gb116) (o := .cells #[.slice A0_0 l0_0.length c0_0, .slice A0_1 l0_1.length c0_1, .slice A0_2 l0_2.length c0_2, .slice A0_3 l0_3.length c0_3, .int .i64 a0_4, .int .i64 a0_5, .int .i64 a0_6] 29 (0, 0)) (by refine bkZ ?_; refine blk_far ?_ NB116_124.out _; refine bkZ ?_; refine blk_far ?_ NB116_124.out _; refine bkZ ?_; exact BK116.out) hb); replace BK117 := Sd.mk (blk_below (g := gb117) (o := .cells #[.string a1_0, .int .i64 a1_1, .int .i64 a1_2, .int .i64 a1_3, .int .i64 a1_4, .int .i64 a1_5, .slice (some ad123) l1_6.length c1_6] 70 (0, 0)) (by refine bkZ ?_; refine blk_far ?_ NB117_124.out _; refine bkZ ?_; refine blk_far ?_ NB117_124.out _; refine bkZ ?_; exact BK117.out) hb); replace BK124 := Sd.mk (blk_below (g := gb124) (o := .cells #[.int .i64 ((rd_T27 l1_6 x50_2).f0), .int .i64 ((rd_T27 l1_6 x50_2).f1)] 27 (0, 0)) (by refine bkZ ?_; refine blk_put (cs := #[.int .i64 ((rd_T27 l1_6 x50_2).f0), .int .i64 0]) ?_ 1 _ rfl; refine bkZ ?_; refine blk_put (cs := #[.int .i64 0, .int .i64 0]) ?_ 0 _ rfl; refine bkZ ?_; exact BK124.out) hb); replace HB := Sd.mk (below_step (bBl HB.out) hb); (try clear hb); (try clear hb2); (try clear hk); (try clear hi)))
          go_ret
          exact ⟨tE, bBl HB.out⟩
        ·rw [if_neg c34] at H
         exact absurd H (by simp)
       ·rw [if_neg c33] at H
        exact absurd H (by simp)
      ·rw [if_neg c32] at H
       have c32b0 : decide (x50_2 < (l1_6.length : Int)) = false := decide_eq_false c32
       clear c32
       by_cases c48 : x5_2 > 1000
       ·rw [if_pos c48] at H
        have c48b0 : decide (1000 < x5_2) = true := decide_eq_true c48
        clear c48; obtain rfl := Option.some.inj H
        go_wp2
        go_ret
        exact ⟨tE, bBl HB.out⟩
       ·rw [if_neg c48] at H
        have c48b0 : decide (1000 < x5_2) = false := decide_eq_false c48
        clear c48; obtain rfl := Option.some.inj H
        go_wp2
        go_ret
        exact ⟨tE, bBl HB.out⟩
end
section
def rf_within.f (a0_0 : Int) (a0_1 : Int) (a1 : Int) (a2 : Int) : Option (Bool) := if a0_0 ≥ a1 then (if a0_0 ≤ a0_1 then (some (decide (a0_1 ≤ a2))) else (some false)) else (some false)
theorem rf_within.calls (a0_0 : Int) (a0_1 : Int) (a1 : Int) (a2 : Int) (r : Bool) (w : World) (h : rf_within.f a0_0 a0_1 a1 a2 = some r) :
  Calls Tryz.prog 173 #[.agg #[.int .i64 a0_0, .int .i64 a0_1], .int .i64 a1, .int .i64 a2] w fun e w' => e = .returned (.bool r) ∧ Below w.heap.size w w' := by
 have hu27 := Tryz.underlying27; have HB := Sd.mk (Below.refl w.heap.size w)
 have H : (if a0_0 ≥ a1 then (if a0_0 ≤ a0_1 then (some (decide (a0_1 ≤ a2))) else (some false)) else (some false)) = some r := h
 clear h
 by_cases c4 : a0_0 ≥ a1
 ·rw [if_pos c4] at H
  have c4b0 : decide (a1 ≤ a0_0) = true := decide_eq_true c4
  clear c4
  by_cases c5 : a0_0 ≤ a0_1
  ·rw [if_pos c5] at H
   have c5b0 : decide (a0_0 ≤ a0_1) = true := decide_eq_true c5
   clear c5; obtain rfl := Option.some.inj H
   go_enter Tryz.func173, Tryz.ntmps173
   go_wp2_with (first | ((with_reducible refine gate_dst (N := 3) rfl ?_); refine box_event ?hg (N := 3) ?hd (cs := #[.int .i64 a0_0, .int .i64 a0_1]) (t := 27) ?hr ?_; (case hd => rfl); (case hg => rfl); (case hr => exact tG); intro gb227 hg w6 hbox hb; have BK227 := Sd.mk (hbox); have GW227 := Sd.mk (bSz hg (bBl HB.out)); have GE227 := Sd.mk (bSz hg (bBl HB.out)); replace HB := Sd.mk (below_step (bBl HB.out) hb); clear hb hbox hg; obtain ⟨u7_0, u7_1, o7_0, o7_1⟩ := bc2 (w := w6) BK227.out))
   go_ret
   exact ⟨tE, bBl HB.out⟩
  ·rw [if_neg c5] at H
   have c5b0 : decide (a0_0 ≤ a0_1) = false := decide_eq_false c5
   clear c5; obtain rfl := Option.some.inj H
   go_enter Tryz.func173, Tryz.ntmps173
   go_wp2_with (first | ((with_reducible refine gate_dst (N := 3) rfl ?_); refine box_event ?hg (N := 3) ?hd (cs := #[.int .i64 a0_0, .int .i64 a0_1]) (t := 27) ?hr ?_; (case hd => rfl); (case hg => rfl); (case hr => exact tG); intro gb227 hg w8 hbox hb; have BK227 := Sd.mk (hbox); have GW227 := Sd.mk (bSz hg (bBl HB.out)); have GE227 := Sd.mk (bSz hg (bBl HB.out)); replace HB := Sd.mk (below_step (bBl HB.out) hb); clear hb hbox hg; obtain ⟨u9_0, u9_1, o9_0, o9_1⟩ := bc2 (w := w8) BK227.out))
   go_ret
   exact ⟨tE, bBl HB.out⟩
 ·rw [if_neg c4] at H
  have c4b0 : decide (a1 ≤ a0_0) = false := decide_eq_false c4
  clear c4; obtain rfl := Option.some.inj H
  go_enter Tryz.func173, Tryz.ntmps173
  go_wp2_with (first | ((with_reducible refine gate_dst (N := 3) rfl ?_); refine box_event ?hg (N := 3) ?hd (cs := #[.int .i64 a0_0, .int .i64 a0_1]) (t := 27) ?hr ?_; (case hd => rfl); (case hg => rfl); (case hr => exact tG); intro gb227 hg w10 hbox hb; have BK227 := Sd.mk (hbox); have GW227 := Sd.mk (bSz hg (bBl HB.out)); have GE227 := Sd.mk (bSz hg (bBl HB.out)); replace HB := Sd.mk (below_step (bBl HB.out) hb); clear hb hbox hg; obtain ⟨u11_0, u11_1, o11_0, o11_1⟩ := bc2 (w := w10) BK227.out))
  go_ret
  exact ⟨tE, bBl HB.out⟩
end
section
mutual
def rf_material.j0 : Nat → Bool → List ByteArray → List (S70) → List (S27) → List (S89) → Int → Int → Int → ByteArray → Int → Int → Int → Int → Int → List (S27) → Option (Int)
 | 0, _, _, _, _, _, _, _, _, _, _, _, _, _, _, _ => none
 | k + 1, x56, x229q0, x229q1, x229q2, x229q3, x229q4, x229q5, x229q6, x230q0, x230q1, x230q2, x230q3, x230q4, x230q5, x230q6 => if x56 = true then (some 1) else (if (x230q6.length : Int) = (x229q0.length : Int) then (rf_material.l0 k 0 0 x230q0 x230q1 x230q2 x230q3 x230q4 x230q5 x230q6) else (some 1))
def rf_material.l0 : Nat → Int → Int → ByteArray → Int → Int → Int → Int → Int → List (S27) → Option (Int)
 | 0, _, _, _, _, _, _, _, _, _ => none
 | k + 1, x5, x6, x230q0, x230q1, x230q2, x230q3, x230q4, x230q5, x230q6 => if x6 < (x230q6.length : Int) then (if 0 ≤ x6 then ((rf_within.f ((rd_T27 x230q6 x6).f0) ((rd_T27 x230q6 x6).f1) 0 1000).bind fun t231 => (if t231 = true then (rf_material.l0 k (wrap64 (x5 + ((rd_T27 x230q6 x6).f0))) (wrap64 (x6 + 1)) x230q0 x230q1 x230q2 x230q3 x230q4 x230q5 x230q6) else (some 1))) else (none)) else (if x5 > 1000 then (some 12) else (some 0))
end
def rf_material.f (k : Nat) (l0_0 : List ByteArray) (l0_1 : List (S70)) (l0_2 : List (S27)) (l0_3 : List (S89)) (a0_4 : Int) (a0_5 : Int) (a0_6 : Int) (a1_0 : ByteArray) (a1_1 : Int) (a1_2 : Int) (a1_3 : Int) (a1_4 : Int) (a1_5 : Int) (l1_6 : List (S27)) : Option (Int) := if a1_1 < 0 then (rf_material.j0 k true l0_0 l0_1 l0_2 l0_3 a0_4 a0_5 a0_6 a1_0 a1_1 a1_2 a1_3 a1_4 a1_5 l1_6) else (if a1_1 > 10000 then (rf_material.j0 k true l0_0 l0_1 l0_2 l0_3 a0_4 a0_5 a0_6 a1_0 a1_1 a1_2 a1_3 a1_4 a1_5 l1_6) else (if a1_2 < (-1000) then (rf_material.j0 k true l0_0 l0_1 l0_2 l0_3 a0_4 a0_5 a0_6 a1_0 a1_1 a1_2 a1_3 a1_4 a1_5 l1_6) else (if a1_2 > 1000 then (rf_material.j0 k true l0_0 l0_1 l0_2 l0_3 a0_4 a0_5 a0_6 a1_0 a1_1 a1_2 a1_3 a1_4 a1_5 l1_6) else (if a1_3 < 0 then (rf_material.j0 k true l0_0 l0_1 l0_2 l0_3 a0_4 a0_5 a0_6 a1_0 a1_1 a1_2 a1_3 a1_4 a1_5 l1_6) else (if a1_3 > 10000 then (rf_material.j0 k true l0_0 l0_1 l0_2 l0_3 a0_4 a0_5 a0_6 a1_0 a1_1 a1_2 a1_3 a1_4 a1_5 l1_6) else (if a1_4 < a1_3 then (rf_material.j0 k true l0_0 l0_1 l0_2 l0_3 a0_4 a0_5 a0_6 a1_0 a1_1 a1_2 a1_3 a1_4 a1_5 l1_6) else (if a1_4 > 10000 then (rf_material.j0 k true l0_0 l0_1 l0_2 l0_3 a0_4 a0_5 a0_6 a1_0 a1_1 a1_2 a1_3 a1_4 a1_5 l1_6) else (if a1_5 < 1 then (rf_material.j0 k true l0_0 l0_1 l0_2 l0_3 a0_4 a0_5 a0_6 a1_0 a1_1 a1_2 a1_3 a1_4 a1_5 l1_6) else (rf_material.j0 k (decide (a1_5 > 10000)) l0_0 l0_1 l0_2 l0_3 a0_4 a0_5 a0_6 a1_0 a1_1 a1_2 a1_3 a1_4 a1_5 l1_6)))))))))
theorem rf_material.calls (k : Nat) (A0_0 : Option Addr) (c0_0 : Nat) (l0_0 : List ByteArray) (A0_1 : Option Addr) (c0_1 : Nat) (l0_1 : List (S70)) (A0_2 : Option Addr) (c0_2 : Nat) (l0_2 : List (S27)) (A0_3 : Option Addr) (c0_3 : Nat) (l0_3 : List (S89)) (a0_4 : Int) (a0_5 : Int) (a0_6 : Int) (a1_0 : ByteArray) (a1_1 : Int) (a1_2 : Int) (a1_3 : Int) (a1_4 : Int) (a1_5 : Int) (A1_6 : Option Addr) (c1_6 : Nat) (l1_6 : List (S27)) (r : Int) (w : World) (hr0_0 : Kd.C Kd.string w A0_0 l0_0.length l0_0) (hc0_0 : l0_0.length ≤ c0_0) (hr0_1 : Kd.C k70 w A0_1 l0_1.length l0_1) (hc0_1 : l0_1.length ≤ c0_1) (hr0_2 : Kd.C k27 w A0_2 l0_2.length l0_2) (hc0_2 : l0_2.length ≤ c0_2) (hr0_3 : Kd.C k89 w A0_3 l0_3.length l0_3) (hc0_3 : l0_3.length ≤ c0_3) (hr1_6 : Kd.C k27 w A1_6 l1_6.length l1_6) (hc1_6 : l1_6.length ≤ c1_6) (h : rf_material.f k l0_0 l0_1 l0_2 l0_3 a0_4 a0_5 a0_6 a1_0 a1_1 a1_2 a1_3 a1_4 a1_5 l1_6 = some r) :
  Calls Tryz.prog 172 #[.agg #[.slice A0_0 l0_0.length c0_0, .slice A0_1 l0_1.length c0_1, .slice A0_2 l0_2.length c0_2, .slice A0_3 l0_3.length c0_3, .int .i64 a0_4, .int .i64 a0_5, .int .i64 a0_6], .agg #[.string a1_0, .int .i64 a1_1, .int .i64 a1_2, .int .i64 a1_3, .int .i64 a1_4, .int .i64 a1_5, .slice A1_6 l1_6.length c1_6]] w fun e w' => e = .returned (.int .i64 r) ∧ Below w.heap.size w w' := by
 have hu29 := Tryz.underlying29; have hu70 := Tryz.underlying70; have hu27 := Tryz.underlying27; have HR0_0 := Sd.mk hr0_0; have HC0_0 := Sd.mk hc0_0; clear hr0_0 hc0_0; have HR0_1 := Sd.mk hr0_1; have HC0_1 := Sd.mk hc0_1; clear hr0_1 hc0_1; have HR0_2 := Sd.mk hr0_2; have HC0_2 := Sd.mk hc0_2; clear hr0_2 hc0_2; have HR0_3 := Sd.mk hr0_3; have HC0_3 := Sd.mk hc0_3; clear hr0_3 hc0_3; have HR1_6 := Sd.mk hr1_6; have HC1_6 := Sd.mk hc1_6; clear hr1_6 hc1_6; have HB := Sd.mk (Below.refl w.heap.size w)
 have H : (if a1_1 < 0 then (rf_material.j0 k true l0_0 l0_1 l0_2 l0_3 a0_4 a0_5 a0_6 a1_0 a1_1 a1_2 a1_3 a1_4 a1_5 l1_6) else (if a1_1 > 10000 then (rf_material.j0 k true l0_0 l0_1 l0_2 l0_3 a0_4 a0_5 a0_6 a1_0 a1_1 a1_2 a1_3 a1_4 a1_5 l1_6) else (if a1_2 < (-1000) then (rf_material.j0 k true l0_0 l0_1 l0_2 l0_3 a0_4 a0_5 a0_6 a1_0 a1_1 a1_2 a1_3 a1_4 a1_5 l1_6) else (if a1_2 > 1000 then (rf_material.j0 k true l0_0 l0_1 l0_2 l0_3 a0_4 a0_5 a0_6 a1_0 a1_1 a1_2 a1_3 a1_4 a1_5 l1_6) else (if a1_3 < 0 then (rf_material.j0 k true l0_0 l0_1 l0_2 l0_3 a0_4 a0_5 a0_6 a1_0 a1_1 a1_2 a1_3 a1_4 a1_5 l1_6) else (if a1_3 > 10000 then (rf_material.j0 k true l0_0 l0_1 l0_2 l0_3 a0_4 a0_5 a0_6 a1_0 a1_1 a1_2 a1_3 a1_4 a1_5 l1_6) else (if a1_4 < a1_3 then (rf_material.j0 k true l0_0 l0_1 l0_2 l0_3 a0_4 a0_5 a0_6 a1_0 a1_1 a1_2 a1_3 a1_4 a1_5 l1_6) else (if a1_4 > 10000 then (rf_material.j0 k true l0_0 l0_1 l0_2 l0_3 a0_4 a0_5 a0_6 a1_0 a1_1 a1_2 a1_3 a1_4 a1_5 l1_6) else (if a1_5 < 1 then (rf_material.j0 k true l0_0 l0_1 l0_2 l0_3 a0_4 a0_5 a0_6 a1_0 a1_1 a1_2 a1_3 a1_4 a1_5 l1_6) else (rf_material.j0 k (decide (a1_5 > 10000)) l0_0 l0_1 l0_2 l0_3 a0_4 a0_5 a0_6 a1_0 a1_1 a1_2 a1_3 a1_4 a1_5 l1_6)))))))))) = some r := h
 clear h; have HC3 := Sd.mk H; clear H
 go_enter Tryz.func172, Tryz.ntmps172
 go_upto_region 1 with (first | ((with_reducible refine gate_dst (N := 2) rfl ?_); refine box_event ?hg (N := 2) ?hd (cs := #[.slice A0_0 l0_0.length c0_0, .slice A0_1 l0_1.length c0_1, .slice A0_2 l0_2.length c0_2, .slice A0_3 l0_3.length c0_3, .int .i64 a0_4, .int .i64 a0_5, .int .i64 a0_6]) (t := 29) ?hr ?_; (case hd => rfl); (case hg => rfl); (case hr => exact tG); intro gb228 hg w4 hbox hb; have BK228 := Sd.mk (hbox); have GW228 := Sd.mk (bSz hg (bBl HB.out)); have GE228 := Sd.mk (bSz hg (bBl HB.out)); replace HB := Sd.mk (below_step (bBl HB.out) hb); clear hb hbox hg) | ((with_reducible refine gate_dst (N := 3) rfl ?_); refine box_event ?hg (N := 3) ?hd (cs := #[.string a1_0, .int .i64 a1_1, .int .i64 a1_2, .int .i64 a1_3, .int .i64 a1_4, .int .i64 a1_5, .slice A1_6 l1_6.length c1_6]) (t := 70) ?hr ?_; (case hd => rfl); (case hg => rfl); (case hr => exact tG); intro gb229 hg w5 hbox hb; have BK229 := Sd.mk (hbox); have GW229 := Sd.mk (bSz hg (bBl HB.out)); have GE229 := Sd.mk (bSz hg (bBl HB.out)); replace HB := Sd.mk (below_step (bBl HB.out) hb); have NB228_229 := Sd.mk (bNl hg (bkA BK228.out)); have NB229_228 := Sd.mk (bNg hg (bkA BK228.out)); replace BK228 := Sd.mk (blk_below (bkA BK228.out) hb); clear hb hbox hg))
 (try simp only [Act.put, List.setIfInBounds_toArray, List.set_cons_zero, List.set_cons_succ])
 go_cut [56] (fun v56 wc => ∃ (kq : Nat) (x56_2 : Bool), v56 = .bool x56_2 ∧ Sd (rf_material.j0 kq x56_2 l0_0 l0_1 l0_2 l0_3 a0_4 a0_5 a0_6 a1_0 a1_1 a1_2 a1_3 a1_4 a1_5 l1_6 = some r) ∧ Sd (kq ≤ k) ∧ Sd (wc.heap[gb228]? = some (.cells #[(.slice A0_0 l0_0.length c0_0), (.slice A0_1 l0_1.length c0_1), (.slice A0_2 l0_2.length c0_2), (.slice A0_3 l0_3.length c0_3), .int .i64 a0_4, .int .i64 a0_5, .int .i64 a0_6] 29 (0, 0))) ∧ Sd (wc.heap[gb229]? = some (.cells #[.string a1_0, .int .i64 a1_1, .int .i64 a1_2, .int .i64 a1_3, .int .i64 a1_4, .int .i64 a1_5, (.slice A1_6 l1_6.length c1_6)] 70 (0, 0))) ∧ Sd (Below w.heap.size w wc))
 case first =>
  have H := HC3.out; clear HC3
  by_cases c6 : a1_1 < 0
  ·rw [if_pos c6] at H
   have c6b0 : decide (a1_1 < 0) = true := decide_eq_true c6
   clear c6
   (first | rw [c6b0] | (simp only [i64_w, i32_w]; rw [c6b0]) | skip)
   have H' := Sd.mk H; clear H; have hnb7 := NB229_228.out; have hnc7 := NB228_229.out; obtain ⟨u8_0, u8_1, u8_2, u8_3, u8_4, u8_5, u8_6, o8_0, o8_1, o8_2, o8_3, o8_4, o8_5, o8_6⟩ := bc7 (w := w5) BK229.out
   go_wp2
   go_meet
   case rel => exact ⟨_, (true), tS, H', ⟨by first | omega | exact Nat.le_refl _⟩, ⟨bkA BK228.out⟩, ⟨bkA BK229.out⟩, ⟨bBl HB.out⟩⟩
  ·rw [if_neg c6] at H
   have c6b0 : decide (a1_1 < 0) = false := decide_eq_false c6
   clear c6
   (first | rw [c6b0] | (simp only [i64_w, i32_w]; rw [c6b0]) | skip)
   by_cases c9 : a1_1 > 10000
   ·rw [if_pos c9] at H
    have c9b0 : decide (10000 < a1_1) = true := decide_eq_true c9
    clear c9; have H' := Sd.mk H; clear H; have hnb10 := NB229_228.out; have hnc10 := NB228_229.out; obtain ⟨u11_0, u11_1, u11_2, u11_3, u11_4, u11_5, u11_6, o11_0, o11_1, o11_2, o11_3, o11_4, o11_5, o11_6⟩ := bc7 (w := w5) BK229.out
    go_wp2
    go_meet
    case rel => exact ⟨_, (true), tS, H', ⟨by first | omega | exact Nat.le_refl _⟩, ⟨bkA BK228.out⟩, ⟨bkA BK229.out⟩, ⟨bBl HB.out⟩⟩
   ·rw [if_neg c9] at H
    have c9b0 : decide (10000 < a1_1) = false := decide_eq_false c9
    clear c9
    by_cases c12 : a1_2 < (-1000)
    ·rw [if_pos c12] at H
     have c12b0 : decide (a1_2 < (-1000)) = true := decide_eq_true c12
     clear c12; have H' := Sd.mk H; clear H; have hnb13 := NB229_228.out; have hnc13 := NB228_229.out; obtain ⟨u14_0, u14_1, u14_2, u14_3, u14_4, u14_5, u14_6, o14_0, o14_1, o14_2, o14_3, o14_4, o14_5, o14_6⟩ := bc7 (w := w5) BK229.out
     go_wp2
     go_meet
     case rel => exact ⟨_, (true), tS, H', ⟨by first | omega | exact Nat.le_refl _⟩, ⟨bkA BK228.out⟩, ⟨bkA BK229.out⟩, ⟨bBl HB.out⟩⟩
    ·rw [if_neg c12] at H
     have c12b0 : decide (a1_2 < (-1000)) = false := decide_eq_false c12
     clear c12
     by_cases c15 : a1_2 > 1000
     ·rw [if_pos c15] at H
      have c15b0 : decide (1000 < a1_2) = true := decide_eq_true c15
      clear c15; have H' := Sd.mk H; clear H; have hnb16 := NB229_228.out; have hnc16 := NB228_229.out; obtain ⟨u17_0, u17_1, u17_2, u17_3, u17_4, u17_5, u17_6, o17_0, o17_1, o17_2, o17_3, o17_4, o17_5, o17_6⟩ := bc7 (w := w5) BK229.out
      go_wp2
      go_meet
      case rel => exact ⟨_, (true), tS, H', ⟨by first | omega | exact Nat.le_refl _⟩, ⟨bkA BK228.out⟩, ⟨bkA BK229.out⟩, ⟨bBl HB.out⟩⟩
     ·rw [if_neg c15] at H
      have c15b0 : decide (1000 < a1_2) = false := decide_eq_false c15
      clear c15
      by_cases c18 : a1_3 < 0
      ·rw [if_pos c18] at H
       have c18b0 : decide (a1_3 < 0) = true := decide_eq_true c18
       clear c18; have H' := Sd.mk H; clear H; have hnb19 := NB229_228.out; have hnc19 := NB228_229.out; obtain ⟨u20_0, u20_1, u20_2, u20_3, u20_4, u20_5, u20_6, o20_0, o20_1, o20_2, o20_3, o20_4, o20_5, o20_6⟩ := bc7 (w := w5) BK229.out
       go_wp2
       go_meet
       case rel => exact ⟨_, (true), tS, H', ⟨by first | omega | exact Nat.le_refl _⟩, ⟨bkA BK228.out⟩, ⟨bkA BK229.out⟩, ⟨bBl HB.out⟩⟩
      ·rw [if_neg c18] at H
       have c18b0 : decide (a1_3 < 0) = false := decide_eq_false c18
       clear c18
       by_cases c21 : a1_3 > 10000
       ·rw [if_pos c21] at H
        have c21b0 : decide (10000 < a1_3) = true := decide_eq_true c21
        clear c21; have H' := Sd.mk H; clear H; have hnb22 := NB229_228.out; have hnc22 := NB228_229.out; obtain ⟨u23_0, u23_1, u23_2, u23_3, u23_4, u23_5, u23_6, o23_0, o23_1, o23_2, o23_3, o23_4, o23_5, o23_6⟩ := bc7 (w := w5) BK229.out
        go_wp2
        go_meet
        case rel => exact ⟨_, (true), tS, H', ⟨by first | omega | exact Nat.le_refl _⟩, ⟨bkA BK228.out⟩, ⟨bkA BK229.out⟩, ⟨bBl HB.out⟩⟩
       ·rw [if_neg c21] at H
        have c21b0 : decide (10000 < a1_3) = false := decide_eq_false c21
        clear c21
        by_cases c24 : a1_4 < a1_3
        ·rw [if_pos c24] at H
         have c24b0 : decide (a1_4 < a1_3) = true := decide_eq_true c24
         clear c24; have H' := Sd.mk H; clear H; have hnb25 := NB229_228.out; have hnc25 := NB228_229.out; obtain ⟨u26_0, u26_1, u26_2, u26_3, u26_4, u26_5, u26_6, o26_0, o26_1, o26_2, o26_3, o26_4, o26_5, o26_6⟩ := bc7 (w := w5) BK229.out
         go_wp2
         go_meet
         case rel => exact ⟨_, (true), tS, H', ⟨by first | omega | exact Nat.le_refl _⟩, ⟨bkA BK228.out⟩, ⟨bkA BK229.out⟩, ⟨bBl HB.out⟩⟩
        ·rw [if_neg c24] at H
         have c24b0 : decide (a1_4 < a1_3) = false := decide_eq_false c24
         clear c24
         by_cases c27 : a1_4 > 10000
         ·rw [if_pos c27] at H
          have c27b0 : decide (10000 < a1_4) = true := decide_eq_true c27
          clear c27; have H' := Sd.mk H; clear H; have hnb28 := NB229_228.out; have hnc28 := NB228_229.out; obtain ⟨u29_0, u29_1, u29_2, u29_3, u29_4, u29_5, u29_6, o29_0, o29_1, o29_2, o29_3, o29_4, o29_5, o29_6⟩ := bc7 (w := w5) BK229.out
          go_wp2
          go_meet
          case rel => exact ⟨_, (true), tS, H', ⟨by first | omega | exact Nat.le_refl _⟩, ⟨bkA BK228.out⟩, ⟨bkA BK229.out⟩, ⟨bBl HB.out⟩⟩
         ·rw [if_neg c27] at H
          have c27b0 : decide (10000 < a1_4) = false := decide_eq_false c27
          clear c27
          by_cases c30 : a1_5 < 1
          ·rw [if_pos c30] at H
           have c30b0 : decide (a1_5 < 1) = true := decide_eq_true c30
           clear c30; have H' := Sd.mk H; clear H; have hnb31 := NB229_228.out; have hnc31 := NB228_229.out; obtain ⟨u32_0, u32_1, u32_2, u32_3, u32_4, u32_5, u32_6, o32_0, o32_1, o32_2, o32_3, o32_4, o32_5, o32_6⟩ := bc7 (w := w5) BK229.out
           go_wp2
           go_meet
           case rel => exact ⟨_, (true), tS, H', ⟨by first | omega | exact Nat.le_refl _⟩, ⟨bkA BK228.out⟩, ⟨bkA BK229.out⟩, ⟨bBl HB.out⟩⟩
          ·rw [if_neg c30] at H
           have c30b0 : decide (a1_5 < 1) = false := decide_eq_false c30
           clear c30; have H' := Sd.mk H; clear H; have hnb33 := NB229_228.out; have hnc33 := NB228_229.out; obtain ⟨u34_0, u34_1, u34_2, u34_3, u34_4, u34_5, u34_6, o34_0, o34_1, o34_2, o34_3, o34_4, o34_5, o34_6⟩ := bc7 (w := w5) BK229.out
           go_wp2
           go_meet
           case rel => exact ⟨_, (decide (a1_5 > 10000)), tS, H', ⟨by first | omega | exact Nat.le_refl _⟩, ⟨bkA BK228.out⟩, ⟨bkA BK229.out⟩, ⟨bBl HB.out⟩⟩
 case rest =>
  clear HC3; (try clear c1); (try clear c2); (try clear p2); (try clear c3); (try clear c6); (try clear c6b0); (try clear c7); (try clear c9); (try clear c9b0); (try clear c10); (try clear c12); (try clear c12b0); (try clear c13); (try clear c15); (try clear c15b0); (try clear c16); (try clear c17); (try clear c18); (try clear c18b0); (try clear c19); (try clear c21); (try clear c21b0); (try clear c22); (try clear c24); (try clear c24b0); (try clear c25); (try clear c27); (try clear c27b0); (try clear c28); (try clear c30); (try clear c30b0); (try clear c31); (try clear c33); (try clear u11_0 u11_1 u11_2 u11_3 u11_4 u11_5 u11_6); (try clear u14_0 u14_1 u14_2 u14_3 u14_4 u14_5 u14_6); (try clear u17_0 u17_1 u17_2 u17_3 u17_4 u17_5 u17_6); (try clear u20_0 u20_1 u20_2 u20_3 u20_4 u20_5 u20_6); (try clear u23_0 u23_1 u23_2 u23_3 u23_4 u23_5 u23_6); (try clear u26_0 u26_1 u26_2 u26_3 u26_4 u26_5 u26_6); (try clear u29_0 u29_1 u29_2 u29_3 u29_4 u29_5 u29_6); (try clear u32_0 u32_1 u32_2 u32_3 u32_4 u32_5 u32_6); (try clear u34_0 u34_1 u34_2 u34_3 u34_4 u34_5 u34_6); (try clear u8_0 u8_1 u8_2 u8_3 u8_4 u8_5 u8_6); (try clear o11_0 o11_1 o11_2 o11_3 o11_4 o11_5 o11_6); (try clear o14_0 o14_1 o14_2 o14_3 o14_4 o14_5 o14_6); (try clear o17_0 o17_1 o17_2 o17_3 o17_4 o17_5 o17_6); (try clear o20_0 o20_1 o20_2 o20_3 o20_4 o20_5 o20_6); (try clear o23_0 o23_1 o23_2 o23_3 o23_4 o23_5 o23_6); (try clear o26_0 o26_1 o26_2 o26_3 o26_4 o26_5 o26_6); (try clear o29_0 o29_1 o29_2 o29_3 o29_4 o29_5 o29_6); (try clear o32_0 o32_1 o32_2 o32_3 o32_4 o32_5 o32_6); (try clear o34_0 o34_1 o34_2 o34_3 o34_4 o34_5 o34_6); (try clear o8_0 o8_1 o8_2 o8_3 o8_4 o8_5 o8_6); obtain ⟨kq, x56_2, rfl, HA, HJ2, BK228, BK229, HB⟩ := hcut
  cases kq with
  | zero => exact absurd HA.out (by simp [rf_material.j0])
  | succ kj2 =>
   have H := HA.out; clear HA
   simp only [rf_material.j0] at H
   by_cases c35 : x56_2 = true
   ·subst c35
    have H1 : (some 1) = some r := by rw [if_pos rfl] at H; exact H
    clear H; have H := H1; clear H1; obtain rfl := Option.some.inj H
    go_wp2
    go_ret
    exact ⟨tE, bBl HB.out⟩
   ·replace c35 := Bool.eq_false_iff.mpr c35
    subst c35
    have H1 : (if (l1_6.length : Int) = (l0_0.length : Int) then (rf_material.l0 kj2 0 0 a1_0 a1_1 a1_2 a1_3 a1_4 a1_5 l1_6) else (some 1)) = some r := by rw [if_neg (show ¬ (false = true) by decide)] at H; exact H
    clear H; have H := H1; clear H1
    by_cases c36 : (l1_6.length : Int) = (l0_0.length : Int)
    ·rw [if_pos c36] at H
     have c36b0 : ((l1_6.length : Int) == (l0_0.length : Int)) = true := beq_iff_eq.mpr c36
     have c36b1 : ((l1_6.length : Int) != (l0_0.length : Int)) = false := bne_eq_false_iff_eq.mpr c36
     have c36b2 : (l1_6.length == l0_0.length) = true := by first | simpa using c36 | (simp at c36 ⊢; omega)
     clear c36; have H' := Sd.mk H; clear H; have hnb37 := NB229_228.out; have hnc37 := NB228_229.out; obtain ⟨u38_0, u38_1, u38_2, u38_3, u38_4, u38_5, u38_6, o38_0, o38_1, o38_2, o38_3, o38_4, o38_5, o38_6⟩ := bc7 (w := wc) BK229.out; obtain ⟨u39_0, u39_1, u39_2, u39_3, u39_4, u39_5, u39_6, o39_0, o39_1, o39_2, o39_3, o39_4, o39_5, o39_6⟩ := bc7 (w := wc) BK228.out
     go_wp2
     go_loopg [5, 6] kj2 (fun kq v5 v6 w' => ∃ (x5_2 : Int) (x6_2 : Int), v5 = .int .i64 x5_2 ∧ v6 = .int .i64 x6_2 ∧ Sd (rf_material.l0 kq x5_2 x6_2 a1_0 a1_1 a1_2 a1_3 a1_4 a1_5 l1_6 = some r) ∧ Sd (kq ≤ kj2) ∧ Sd (w'.heap[gb228]? = some (.cells #[(.slice A0_0 l0_0.length c0_0), (.slice A0_1 l0_1.length c0_1), (.slice A0_2 l0_2.length c0_2), (.slice A0_3 l0_3.length c0_3), .int .i64 a0_4, .int .i64 a0_5, .int .i64 a0_6] 29 (0, 0))) ∧ Sd (w'.heap[gb229]? = some (.cells #[.string a1_0, .int .i64 a1_1, .int .i64 a1_2, .int .i64 a1_3, .int .i64 a1_4, .int .i64 a1_5, (.slice A1_6 l1_6.length c1_6)] 70 (0, 0))) ∧ Sd (Below w.heap.size w w'))
     case atStart => exact ⟨(0), (0), tS, tS, H', ⟨Nat.le_refl _⟩, ⟨bkA BK228.out⟩, ⟨bkA BK229.out⟩, ⟨bBl HB.out⟩⟩
     case round =>
      clear H'; (try clear c1); (try clear c2); (try clear p2 p2); (try clear c3); (try clear c6); (try clear c6b0); (try clear c7); (try clear c9); (try clear c9b0); (try clear c10); (try clear c12); (try clear c12b0); (try clear c13); (try clear c15); (try clear c15b0); (try clear c16); (try clear c17); (try clear c18); (try clear c18b0); (try clear c19); (try clear c21); (try clear c21b0); (try clear c22); (try clear c24); (try clear c24b0); (try clear c25); (try clear c27); (try clear c27b0); (try clear c28); (try clear c30); (try clear c30b0); (try clear c31); (try clear c33); (try clear c35); (try clear c36); (try clear c36b0); (try clear c36b1); (try clear c36b2); (try clear c37); (try clear u11_0 u11_1 u11_2 u11_3 u11_4 u11_5 u11_6); (try clear u14_0 u14_1 u14_2 u14_3 u14_4 u14_5 u14_6); (try clear u17_0 u17_1 u17_2 u17_3 u17_4 u17_5 u17_6); (try clear u20_0 u20_1 u20_2 u20_3 u20_4 u20_5 u20_6); (try clear u23_0 u23_1 u23_2 u23_3 u23_4 u23_5 u23_6); (try clear u26_0 u26_1 u26_2 u26_3 u26_4 u26_5 u26_6); (try clear u29_0 u29_1 u29_2 u29_3 u29_4 u29_5 u29_6); (try clear u32_0 u32_1 u32_2 u32_3 u32_4 u32_5 u32_6); (try clear u34_0 u34_1 u34_2 u34_3 u34_4 u34_5 u34_6); (try clear u38_0 u38_1 u38_2 u38_3 u38_4 u38_5 u38_6); (try clear u39_0 u39_1 u39_2 u39_3 u39_4 u39_5 u39_6); (try clear u8_0 u8_1 u8_2 u8_3 u8_4 u8_5 u8_6); (try clear o11_0 o11_1 o11_2 o11_3 o11_4 o11_5 o11_6); (try clear o14_0 o14_1 o14_2 o14_3 o14_4 o14_5 o14_6); (try clear o17_0 o17_1 o17_2 o17_3 o17_4 o17_5 o17_6); (try clear o20_0 o20_1 o20_2 o20_3 o20_4 o20_5 o20_6); (try clear o23_0 o23_1 o23_2 o23_3 o23_4 o23_5 o23_6); (try clear o26_0 o26_1 o26_2 o26_3 o26_4 o26_5 o26_6); (try clear o29_0 o29_1 o29_2 o29_3 o29_4 o29_5 o29_6); (try clear o32_0 o32_1 o32_2 o32_3 o32_4 o32_5 o32_6); (try clear o34_0 o34_1 o34_2 o34_3 o34_4 o34_5 o34_6); (try clear o38_0 o38_1 o38_2 o38_3 o38_4 o38_5 o38_6); (try clear o39_0 o39_1 o39_2 o39_3 o39_4 o39_5 o39_6); (try clear o8_0 o8_1 o8_2 o8_3 o8_4 o8_5 o8_6); obtain ⟨x5_2, x6_2, rfl, rfl, HA, HK2, BK228, BK229, HB⟩ := hrel
      cases gk with
      | zero => exact absurd HA.out (by simp [rf_material.l0])
      | succ k2 =>
       have H := HA.out; clear HA
       simp only [rf_material.l0] at H
       by_cases c40 : x6_2 < (l1_6.length : Int)
       ·rw [if_pos c40] at H
        have c40b0 : decide (x6_2 < (l1_6.length : Int)) = true := decide_eq_true c40
        clear c40
        by_cases c41 : 0 ≤ x6_2
        ·rw [if_pos c41] at H
         have c41b0 : decide (0 ≤ x6_2) = true := decide_eq_true c41
         clear c41; replace H := Option.bind_eq_some_iff.mp H; obtain ⟨t231, A420, H⟩ := H
         try dsimp only at H
         have A42 := Sd.mk A420; clear A420
         by_cases c43 : t231 = true
         ·subst c43
          have H1 : (rf_material.l0 k2 (wrap64 (x5_2 + ((rd_T27 l1_6 x6_2).f0))) (wrap64 (x6_2 + 1)) a1_0 a1_1 a1_2 a1_3 a1_4 a1_5 l1_6) = some r := by rw [if_pos rfl] at H; exact H
          clear H; have H := H1; clear H1; have H' := Sd.mk H; clear H; have hnb44 := NB229_228.out; have hnc44 := NB228_229.out; obtain ⟨u45_0, u45_1, u45_2, u45_3, u45_4, u45_5, u45_6, o45_0, o45_1, o45_2, o45_3, o45_4, o45_5, o45_6⟩ := bc7 (w := wr) BK229.out
          have p230 : 0 ≤ (x6_2 : Int) := tB
          have q230 : x6_2 < (l1_6.length : Int) := tB
          obtain ⟨ad230, e230, hx230_0, hx230_1⟩ := at_T27 HR1_6.out x6_2 p230 q230; cases e230; replace hx230_0 := cU HB hx230_0; replace hx230_1 := cU HB hx230_1; replace p230 := eq_true p230; replace q230 := eq_true q230
          go_wp2_with (first | ((with_reducible refine gate_callee (f := 173) rfl ?_); refine goesL_ (some 76) rfl rfl Tryz.func173 (by kernel_rfl) rfl #[.agg #[.int .i64 ((rd_T27 l1_6 x6_2).f0), .int .i64 ((rd_T27 l1_6 x6_2).f1)], .int .i64 0, .int .i64 1000] rfl tM ?_; (with_reducible refine (rf_within.calls ((rd_T27 l1_6 x6_2).f0) ((rd_T27 l1_6 x6_2).f1) 0 1000 true _ A42.out).mono ?_); rintro e w46 ⟨rfl, hb⟩; refine ⟨_, rfl, ?_⟩; replace BK228 := Sd.mk (blk_below (bkA BK228.out) hb); replace BK229 := Sd.mk (blk_below (bkA BK229.out) hb); replace HB := Sd.mk (below_step (bBl HB.out) hb); (try clear hb); (try clear hb2); (try clear hk); (try clear hi); obtain ⟨u47_0, u47_1, u47_2, u47_3, u47_4, u47_5, u47_6, o47_0, o47_1, o47_2, o47_3, o47_4, o47_5, o47_6⟩ := bc7 (w := w46) BK229.out; have p232 : 0 ≤ (x6_2 : Int) := tB; have q232 : x6_2 < (l1_6.length : Int) := tB; obtain ⟨ad232, e232, hx232_0, hx232_1⟩ := at_T27 HR1_6.out x6_2 p232 q232; obtain rfl : ad230 = ad232 := (by injection e232); replace hx232_0 := cU HB hx232_0; replace hx232_1 := cU HB hx232_1; replace p232 := eq_true p232; replace q232 := eq_true q232))
          go_roundg k2
          case measure => have := HJ2.out; have := HK2.out; omega
          case rel => exact ⟨(wrap64 (x5_2 + ((rd_T27 l1_6 x6_2).f0))), (wrap64 (x6_2 + 1)), tS, tS, H', ⟨by have := HJ2.out; have := HK2.out; omega⟩, ⟨bkA BK228.out⟩, ⟨bkA BK229.out⟩, ⟨bBl HB.out⟩⟩
         ·replace c43 := Bool.eq_false_iff.mpr c43
          subst c43
          have H1 : (some 1) = some r := by rw [if_neg (show ¬ (false = true) by decide)] at H; exact H
          clear H; have H := H1; clear H1; obtain rfl := Option.some.inj H; have hnb48 := NB229_228.out; have hnc48 := NB228_229.out; obtain ⟨u49_0, u49_1, u49_2, u49_3, u49_4, u49_5, u49_6, o49_0, o49_1, o49_2, o49_3, o49_4, o49_5, o49_6⟩ := bc7 (w := wr) BK229.out
          have p230 : 0 ≤ (x6_2 : Int) := tB
          have q230 : x6_2 < (l1_6.length : Int) := tB
          obtain ⟨ad230, e230, hx230_0, hx230_1⟩ := at_T27 HR1_6.out x6_2 p230 q230; cases e230; replace hx230_0 := cU HB hx230_0; replace hx230_1 := cU HB hx230_1; replace p230 := eq_true p230; replace q230 := eq_true q230
          go_wp2_with (first | ((with_reducible refine gate_callee (f := 173) rfl ?_); refine goesL_ (some 76) rfl rfl Tryz.func173 (by kernel_rfl) rfl #[.agg #[.int .i64 ((rd_T27 l1_6 x6_2).f0), .int .i64 ((rd_T27 l1_6 x6_2).f1)], .int .i64 0, .int .i64 1000] rfl tM ?_; (with_reducible refine (rf_within.calls ((rd_T27 l1_6 x6_2).f0) ((rd_T27 l1_6 x6_2).f1) 0 1000 false _ A42.out).mono ?_); rintro e w50 ⟨rfl, hb⟩; refine ⟨_, rfl, ?_⟩; replace BK228 := Sd.mk (blk_below (bkA BK228.out) hb); replace BK229 := Sd.mk (blk_below (bkA BK229.out) hb); replace HB := Sd.mk (below_step (bBl HB.out) hb); (try clear hb); (try clear hb2); (try clear hk); (try clear hi)))
          go_ret
          exact ⟨tE, bBl HB.out⟩
        ·rw [if_neg c41] at H
         exact absurd H (by simp)
       ·rw [if_neg c40] at H
        have c40b0 : decide (x6_2 < (l1_6.length : Int)) = false := decide_eq_false c40
        clear c40
        by_cases c51 : x5_2 > 1000
        ·rw [if_pos c51] at H
         have c51b0 : decide (1000 < x5_2) = true := decide_eq_true c51
         clear c51; obtain rfl := Option.some.inj H; have hnb52 := NB229_228.out; have hnc52 := NB228_229.out; obtain ⟨u53_0, u53_1, u53_2, u53_3, u53_4, u53_5, u53_6, o53_0, o53_1, o53_2, o53_3, o53_4, o53_5, o53_6⟩ := bc7 (w := wr) BK229.out
         go_wp2
         go_ret
         exact ⟨tE, bBl HB.out⟩
        ·rw [if_neg c51] at H
         have c51b0 : decide (1000 < x5_2) = false := decide_eq_false c51
         clear c51; obtain rfl := Option.some.inj H; have hnb54 := NB229_228.out; have hnc54 := NB228_229.out; obtain ⟨u55_0, u55_1, u55_2, u55_3, u55_4, u55_5, u55_6, o55_0, o55_1, o55_2, o55_3, o55_4, o55_5, o55_6⟩ := bc7 (w := wr) BK229.out
         go_wp2
         go_ret
         exact ⟨tE, bBl HB.out⟩
    ·rw [if_neg c36] at H
     have c36b0 : ((l1_6.length : Int) == (l0_0.length : Int)) = false := beq_eq_false_iff_ne.mpr c36
     have c36b1 : ((l1_6.length : Int) != (l0_0.length : Int)) = true := bne_iff_ne.mpr c36
     have c36b2 : (l1_6.length == l0_0.length) = false := by first | simpa using c36 | (simp at c36 ⊢; omega)
     obtain rfl := Option.some.inj H; have hnb56 := NB229_228.out; have hnc56 := NB228_229.out; obtain ⟨u57_0, u57_1, u57_2, u57_3, u57_4, u57_5, u57_6, o57_0, o57_1, o57_2, o57_3, o57_4, o57_5, o57_6⟩ := bc7 (w := wc) BK229.out; obtain ⟨u58_0, u58_1, u58_2, u58_3, u58_4, u58_5, u58_6, o58_0, o58_1, o58_2, o58_3, o58_4, o58_5, o58_6⟩ := bc7 (w := wc) BK228.out
     go_wp2
     go_ret
     exact ⟨tE, bBl HB.out⟩
end
section
def rf_property.l0 : Nat → Int → ByteArray → List Int → Int → Int → Option (Int)
 | 0, _, _, _, _, _ => none
 | k + 1, x5, x235q0, x235q1, x235q2, x235q3 => if x5 < (x235q1.length : Int) then (if 0 ≤ x5 then (if (rd x235q1 x5) < (-10000) then (some 1) else (if (rd x235q1 x5) > 10000 then (some 1) else (rf_property.l0 k (wrap64 (x5 + 1)) x235q0 x235q1 x235q2 x235q3))) else (none)) else ((rf_within.f x235q2 x235q3 (-10000) 10000).bind fun t237 => (if t237 = true then (some 0) else (some 1)))
def rf_property.f (k : Nat) (l0_0 : List ByteArray) (l0_1 : List (S70)) (l0_2 : List (S27)) (l0_3 : List (S89)) (a0_4 : Int) (a0_5 : Int) (a0_6 : Int) (a1_0 : ByteArray) (l1_1 : List Int) (a1_2 : Int) (a1_3 : Int) : Option (Int) := if (l1_1.length : Int) = (l0_0.length : Int) then (rf_property.l0 k 0 a1_0 l1_1 a1_2 a1_3) else (some 1)
theorem rf_property.calls (k : Nat) (A0_0 : Option Addr) (c0_0 : Nat) (l0_0 : List ByteArray) (A0_1 : Option Addr) (c0_1 : Nat) (l0_1 : List (S70)) (A0_2 : Option Addr) (c0_2 : Nat) (l0_2 : List (S27)) (A0_3 : Option Addr) (c0_3 : Nat) (l0_3 : List (S89)) (a0_4 : Int) (a0_5 : Int) (a0_6 : Int) (a1_0 : ByteArray) (A1_1 : Option Addr) (c1_1 : Nat) (l1_1 : List Int) (a1_2 : Int) (a1_3 : Int) (r : Int) (w : World) (hr0_0 : Kd.C Kd.string w A0_0 l0_0.length l0_0) (hc0_0 : l0_0.length ≤ c0_0) (hr0_1 : Kd.C k70 w A0_1 l0_1.length l0_1) (hc0_1 : l0_1.length ≤ c0_1) (hr0_2 : Kd.C k27 w A0_2 l0_2.length l0_2) (hc0_2 : l0_2.length ≤ c0_2) (hr0_3 : Kd.C k89 w A0_3 l0_3.length l0_3) (hc0_3 : l0_3.length ≤ c0_3) (hr1_1 : Kd.C (Kd.int .i64) w A1_1 l1_1.length l1_1) (hc1_1 : l1_1.length ≤ c1_1) (h : rf_property.f k l0_0 l0_1 l0_2 l0_3 a0_4 a0_5 a0_6 a1_0 l1_1 a1_2 a1_3 = some r) :
  Calls Tryz.prog 174 #[.agg #[.slice A0_0 l0_0.length c0_0, .slice A0_1 l0_1.length c0_1, .slice A0_2 l0_2.length c0_2, .slice A0_3 l0_3.length c0_3, .int .i64 a0_4, .int .i64 a0_5, .int .i64 a0_6], .agg #[.string a1_0, .slice A1_1 l1_1.length c1_1, .int .i64 a1_2, .int .i64 a1_3]] w fun e w' => e = .returned (.int .i64 r) ∧ Below w.heap.size w w' := by
 have hu29 := Tryz.underlying29; have hu89 := Tryz.underlying89; have hu27 := Tryz.underlying27; have HR0_0 := Sd.mk hr0_0; have HC0_0 := Sd.mk hc0_0; clear hr0_0 hc0_0; have HR0_1 := Sd.mk hr0_1; have HC0_1 := Sd.mk hc0_1; clear hr0_1 hc0_1; have HR0_2 := Sd.mk hr0_2; have HC0_2 := Sd.mk hc0_2; clear hr0_2 hc0_2; have HR0_3 := Sd.mk hr0_3; have HC0_3 := Sd.mk hc0_3; clear hr0_3 hc0_3; have HR1_1 := Sd.mk hr1_1; have HC1_1 := Sd.mk hc1_1; clear hr1_1 hc1_1; have HB := Sd.mk (Below.refl w.heap.size w)
 have H : (if (l1_1.length : Int) = (l0_0.length : Int) then (rf_property.l0 k 0 a1_0 l1_1 a1_2 a1_3) else (some 1)) = some r := h
 clear h
 by_cases c3 : (l1_1.length : Int) = (l0_0.length : Int)
 ·rw [if_pos c3] at H
  have c3b0 : ((l1_1.length : Int) == (l0_0.length : Int)) = true := beq_iff_eq.mpr c3
  have c3b1 : ((l1_1.length : Int) != (l0_0.length : Int)) = false := bne_eq_false_iff_eq.mpr c3
  have c3b2 : (l1_1.length == l0_0.length) = true := by first | simpa using c3 | (simp at c3 ⊢; omega)
  clear c3; have H' := Sd.mk H; clear H
  go_enter Tryz.func174, Tryz.ntmps174
  go_wp2_with (first | ((with_reducible refine gate_dst (N := 2) rfl ?_); refine box_event ?hg (N := 2) ?hd (cs := #[.slice A0_0 l0_0.length c0_0, .slice A0_1 l0_1.length c0_1, .slice A0_2 l0_2.length c0_2, .slice A0_3 l0_3.length c0_3, .int .i64 a0_4, .int .i64 a0_5, .int .i64 a0_6]) (t := 29) ?hr ?_; (case hd => rfl); (case hg => rfl); (case hr => exact tG); intro gb233 hg w4 hbox hb; have BK233 := Sd.mk (hbox); have GW233 := Sd.mk (bSz hg (bBl HB.out)); have GE233 := Sd.mk (bSz hg (bBl HB.out)); replace HB := Sd.mk (below_step (bBl HB.out) hb); clear hb hbox hg) | ((with_reducible refine gate_dst (N := 3) rfl ?_); refine box_event ?hg (N := 3) ?hd (cs := #[.string a1_0, .slice A1_1 l1_1.length c1_1, .int .i64 a1_2, .int .i64 a1_3]) (t := 89) ?hr ?_; (case hd => rfl); (case hg => rfl); (case hr => exact tG); intro gb234 hg w5 hbox hb; have BK234 := Sd.mk (hbox); have GW234 := Sd.mk (bSz hg (bBl HB.out)); have GE234 := Sd.mk (bSz hg (bBl HB.out)); replace HB := Sd.mk (below_step (bBl HB.out) hb); have NB233_234 := Sd.mk (bNl hg (bkA BK233.out)); have NB234_233 := Sd.mk (bNg hg (bkA BK233.out)); replace BK233 := Sd.mk (blk_below (bkA BK233.out) hb); clear hb hbox hg; have hnb6 := NB234_233.out; have hnc6 := NB233_234.out; obtain ⟨u7_0, u7_1, u7_2, u7_3, o7_0, o7_1, o7_2, o7_3⟩ := bc4 (w := w5) BK234.out; obtain ⟨u8_0, u8_1, u8_2, u8_3, u8_4, u8_5, u8_6, o8_0, o8_1, o8_2, o8_3, o8_4, o8_5, o8_6⟩ := bc7 (w := w5) BK233.out))
  go_loopg [5] k (fun kq v5 w' => ∃ (x5_1 : Int), v5 = .int .i64 x5_1 ∧ Sd (rf_property.l0 kq x5_1 a1_0 l1_1 a1_2 a1_3 = some r) ∧ Sd (kq ≤ k) ∧ Sd (w'.heap[gb233]? = some (.cells #[(.slice A0_0 l0_0.length c0_0), (.slice A0_1 l0_1.length c0_1), (.slice A0_2 l0_2.length c0_2), (.slice A0_3 l0_3.length c0_3), .int .i64 a0_4, .int .i64 a0_5, .int .i64 a0_6] 29 (0, 0))) ∧ Sd (w'.heap[gb234]? = some (.cells #[.string a1_0, (.slice A1_1 l1_1.length c1_1), .int .i64 a1_2, .int .i64 a1_3] 89 (0, 0))) ∧ Sd (Below w.heap.size w w'))
  case atStart => exact ⟨(0), tS, H', ⟨Nat.le_refl _⟩, ⟨bkA BK233.out⟩, ⟨bkA BK234.out⟩, ⟨bBl HB.out⟩⟩
  case round =>
   clear H'; (try clear c1); (try clear p2); (try clear c3); (try clear c3b0); (try clear c3b1); (try clear c3b2); (try clear c6); (try clear u7_0 u7_1 u7_2 u7_3); (try clear u8_0 u8_1 u8_2 u8_3 u8_4 u8_5 u8_6); (try clear o7_0 o7_1 o7_2 o7_3); (try clear o8_0 o8_1 o8_2 o8_3 o8_4 o8_5 o8_6); obtain ⟨x5_1, rfl, HA, HK1, BK233, BK234, HB⟩ := hrel
   cases gk with
   | zero => exact absurd HA.out (by simp [rf_property.l0])
   | succ k1 =>
    have H := HA.out; clear HA
    simp only [rf_property.l0] at H
    by_cases c9 : x5_1 < (l1_1.length : Int)
    ·rw [if_pos c9] at H
     have c9b0 : decide (x5_1 < (l1_1.length : Int)) = true := decide_eq_true c9
     clear c9
     by_cases c10 : 0 ≤ x5_1
     ·rw [if_pos c10] at H
      have c10b0 : decide (0 ≤ x5_1) = true := decide_eq_true c10
      clear c10
      by_cases c11 : (rd l1_1 x5_1) < (-10000)
      ·rw [if_pos c11] at H
       have c11b0 : decide ((rd l1_1 x5_1) < (-10000)) = true := decide_eq_true c11
       clear c11; obtain rfl := Option.some.inj H; have hnb12 := NB234_233.out; have hnc12 := NB233_234.out; obtain ⟨u13_0, u13_1, u13_2, u13_3, o13_0, o13_1, o13_2, o13_3⟩ := bc4 (w := wr) BK234.out
       have p235 : 0 ≤ (x5_1 : Int) := tB
       have q235 : x5_1 < (l1_1.length : Int) := tB
       obtain ⟨ad235, e235, hx235_0⟩ := Kd.at_int HR1_1.out x5_1 p235 q235; cases e235; replace hx235_0 := cU HB hx235_0; replace p235 := eq_true p235; replace q235 := eq_true q235
       go_wp2
       go_ret
       exact ⟨tE, bBl HB.out⟩
      ·rw [if_neg c11] at H
       have c11b0 : decide ((rd l1_1 x5_1) < (-10000)) = false := decide_eq_false c11
       clear c11
       by_cases c14 : (rd l1_1 x5_1) > 10000
       ·rw [if_pos c14] at H
        have c14b0 : decide (10000 < (rd l1_1 x5_1)) = true := decide_eq_true c14
        clear c14; obtain rfl := Option.some.inj H; have hnb15 := NB234_233.out; have hnc15 := NB233_234.out; obtain ⟨u16_0, u16_1, u16_2, u16_3, o16_0, o16_1, o16_2, o16_3⟩ := bc4 (w := wr) BK234.out
        have p235 : 0 ≤ (x5_1 : Int) := tB
        have q235 : x5_1 < (l1_1.length : Int) := tB
        obtain ⟨ad235, e235, hx235_0⟩ := Kd.at_int HR1_1.out x5_1 p235 q235; cases e235; replace hx235_0 := cU HB hx235_0; replace p235 := eq_true p235; replace q235 := eq_true q235
        have p236 : 0 ≤ (x5_1 : Int) := tB
        have q236 : x5_1 < (l1_1.length : Int) := tB
        obtain ⟨ad236, e236, hx236_0⟩ := Kd.at_int HR1_1.out x5_1 p236 q236
        obtain rfl : ad235 = ad236 := (by injection e236)
        replace hx236_0 := cU HB hx236_0; replace p236 := eq_true p236; replace q236 := eq_true q236
        go_wp2
        go_ret
        exact ⟨tE, bBl HB.out⟩
       ·rw [if_neg c14] at H
        have c14b0 : decide (10000 < (rd l1_1 x5_1)) = false := decide_eq_false c14
        clear c14; have H' := Sd.mk H; clear H; have hnb17 := NB234_233.out; have hnc17 := NB233_234.out; obtain ⟨u18_0, u18_1, u18_2, u18_3, o18_0, o18_1, o18_2, o18_3⟩ := bc4 (w := wr) BK234.out
        have p235 : 0 ≤ (x5_1 : Int) := tB
        have q235 : x5_1 < (l1_1.length : Int) := tB
        obtain ⟨ad235, e235, hx235_0⟩ := Kd.at_int HR1_1.out x5_1 p235 q235; cases e235; replace hx235_0 := cU HB hx235_0; replace p235 := eq_true p235; replace q235 := eq_true q235
        have p236 : 0 ≤ (x5_1 : Int) := tB
        have q236 : x5_1 < (l1_1.length : Int) := tB
        obtain ⟨ad236, e236, hx236_0⟩ := Kd.at_int HR1_1.out x5_1 p236 q236
        obtain rfl : ad235 = ad236 := (by injection e236)
        replace hx236_0 := cU HB hx236_0; replace p236 := eq_true p236; replace q236 := eq_true q236
        go_wp2
        go_roundg k1
        case measure => have := HK1.out; omega
        case rel => exact ⟨(wrap64 (x5_1 + 1)), tS, H', ⟨by have := HK1.out; omega⟩, ⟨bkA BK233.out⟩, ⟨bkA BK234.out⟩, ⟨bBl HB.out⟩⟩
     ·rw [if_neg c10] at H
      exact absurd H (by simp)
    ·rw [if_neg c9] at H
     have c9b0 : decide (x5_1 < (l1_1.length : Int)) = false := decide_eq_false c9
     clear c9; replace H := Option.bind_eq_some_iff.mp H; obtain ⟨t237, A190, H⟩ := H
     try dsimp only at H
     have A19 := Sd.mk A190; clear A190
     by_cases c20 : t237 = true
     ·subst c20
      have H1 : (some 0) = some r := by rw [if_pos rfl] at H; exact H
      clear H; have H := H1; clear H1; obtain rfl := Option.some.inj H; have hnb21 := NB234_233.out; have hnc21 := NB233_234.out; obtain ⟨u22_0, u22_1, u22_2, u22_3, o22_0, o22_1, o22_2, o22_3⟩ := bc4 (w := wr) BK234.out
      go_wp2_with (first | ((with_reducible refine gate_callee (f := 173) rfl ?_); refine goesL_ (some 36) rfl rfl Tryz.func173 (by kernel_rfl) rfl #[.agg #[.int .i64 a1_2, .int .i64 a1_3], .int .i64 (-10000), .int .i64 10000] rfl tM ?_; (with_reducible refine (rf_within.calls a1_2 a1_3 (-10000) 10000 true _ A19.out).mono ?_); rintro e w23 ⟨rfl, hb⟩; refine ⟨_, rfl, ?_⟩; replace BK233 := Sd.mk (blk_below (bkA BK233.out) hb); replace BK234 := Sd.mk (blk_below (bkA BK234.out) hb); replace HB := Sd.mk (below_step (bBl HB.out) hb); (try clear hb); (try clear hb2); (try clear hk); (try clear hi)))
      go_ret
      exact ⟨tE, bBl HB.out⟩
     ·replace c20 := Bool.eq_false_iff.mpr c20
      subst c20
      have H1 : (some 1) = some r := by rw [if_neg (show ¬ (false = true) by decide)] at H; exact H
      clear H; have H := H1; clear H1; obtain rfl := Option.some.inj H; have hnb24 := NB234_233.out; have hnc24 := NB233_234.out; obtain ⟨u25_0, u25_1, u25_2, u25_3, o25_0, o25_1, o25_2, o25_3⟩ := bc4 (w := wr) BK234.out
      go_wp2_with (first | ((with_reducible refine gate_callee (f := 173) rfl ?_); refine goesL_ (some 36) rfl rfl Tryz.func173 (by kernel_rfl) rfl #[.agg #[.int .i64 a1_2, .int .i64 a1_3], .int .i64 (-10000), .int .i64 10000] rfl tM ?_; (with_reducible refine (rf_within.calls a1_2 a1_3 (-10000) 10000 false _ A19.out).mono ?_); rintro e w26 ⟨rfl, hb⟩; refine ⟨_, rfl, ?_⟩; replace BK233 := Sd.mk (blk_below (bkA BK233.out) hb); replace BK234 := Sd.mk (blk_below (bkA BK234.out) hb); replace HB := Sd.mk (below_step (bBl HB.out) hb); (try clear hb); (try clear hb2); (try clear hk); (try clear hi)))
      go_ret
      exact ⟨tE, bBl HB.out⟩
 ·rw [if_neg c3] at H
  have c3b0 : ((l1_1.length : Int) == (l0_0.length : Int)) = false := beq_eq_false_iff_ne.mpr c3
  have c3b1 : ((l1_1.length : Int) != (l0_0.length : Int)) = true := bne_iff_ne.mpr c3
  have c3b2 : (l1_1.length == l0_0.length) = false := by first | simpa using c3 | (simp at c3 ⊢; omega)
  obtain rfl := Option.some.inj H
  go_enter Tryz.func174, Tryz.ntmps174
  go_wp2_with (first | ((with_reducible refine gate_dst (N := 2) rfl ?_); refine box_event ?hg (N := 2) ?hd (cs := #[.slice A0_0 l0_0.length c0_0, .slice A0_1 l0_1.length c0_1, .slice A0_2 l0_2.length c0_2, .slice A0_3 l0_3.length c0_3, .int .i64 a0_4, .int .i64 a0_5, .int .i64 a0_6]) (t := 29) ?hr ?_; (case hd => rfl); (case hg => rfl); (case hr => exact tG); intro gb233 hg w27 hbox hb; have BK233 := Sd.mk (hbox); have GW233 := Sd.mk (bSz hg (bBl HB.out)); have GE233 := Sd.mk (bSz hg (bBl HB.out)); replace HB := Sd.mk (below_step (bBl HB.out) hb); clear hb hbox hg) | ((with_reducible refine gate_dst (N := 3) rfl ?_); refine box_event ?hg (N := 3) ?hd (cs := #[.string a1_0, .slice A1_1 l1_1.length c1_1, .int .i64 a1_2, .int .i64 a1_3]) (t := 89) ?hr ?_; (case hd => rfl); (case hg => rfl); (case hr => exact tG); intro gb234 hg w28 hbox hb; have BK234 := Sd.mk (hbox); have GW234 := Sd.mk (bSz hg (bBl HB.out)); have GE234 := Sd.mk (bSz hg (bBl HB.out)); replace HB := Sd.mk (below_step (bBl HB.out) hb); have NB233_234 := Sd.mk (bNl hg (bkA BK233.out)); have NB234_233 := Sd.mk (bNg hg (bkA BK233.out)); replace BK233 := Sd.mk (blk_below (bkA BK233.out) hb); clear hb hbox hg; have hnb29 := NB234_233.out; have hnc29 := NB233_234.out; obtain ⟨u30_0, u30_1, u30_2, u30_3, o30_0, o30_1, o30_2, o30_3⟩ := bc4 (w := w28) BK234.out; obtain ⟨u31_0, u31_1, u31_2, u31_3, u31_4, u31_5, u31_6, o31_0, o31_1, o31_2, o31_3, o31_4, o31_5, o31_6⟩ := bc7 (w := w28) BK233.out))
  go_ret
  exact ⟨tE, bBl HB.out⟩
end
section
mutual
def rf_Check.l0 : Nat → Int → List ByteArray → List (S70) → List (S27) → List (S89) → Int → Int → Int → Option (Int)
 | 0, _, _, _, _, _, _, _, _ => none
 | k + 1, x3, x239q0, x239q1, x239q2, x239q3, x239q4, x239q5, x239q6 => if x3 < (x239q0.length : Int) then (if 0 ≤ x3 then ((rf_Name.f k (rdOf ByteArray.empty x239q0 x3)).bind fun t240 => (if t240 = true then (if x3 ≤ (x239q0.length : Int) then ((rf_in.f k (x239q0.take (x3 : Int).toNat) (rdOf ByteArray.empty x239q0 x3)).bind fun t243 => (if t243 = true then (some 6) else (rf_Check.l0 k (wrap64 (x3 + 1)) x239q0 x239q1 x239q2 x239q3 x239q4 x239q5 x239q6))) else (none)) else (some 5))) else (none)) else (if (x239q1.length : Int) > 12 then (some 3) else (if (x239q1.length : Int) = 0 then (some 1) else (rf_Check.l1 k ([] : List ByteArray) 0 x239q0 x239q1 x239q2 x239q3 x239q4 x239q5 x239q6)))
def rf_Check.l1 : Nat → List ByteArray → Int → List ByteArray → List (S70) → List (S27) → List (S89) → Int → Int → Int → Option (Int)
 | 0, _, _, _, _, _, _, _, _, _ => none
 | k + 1, x4, x5, x239q0, x239q1, x239q2, x239q3, x239q4, x239q5, x239q6 => if x5 < (x239q1.length : Int) then (if 0 ≤ x5 then ((rf_Name.f k ((rd_T70 x239q1 x5).f0)).bind fun t245 => (if t245 = true then ((rf_in.f k x4 ((rd_T70 x239q1 x5).f0)).bind fun t247 => (if t247 = true then (some 6) else (if x4.length < 8796093022208 then ((rf_material.f k x239q0 x239q1 x239q2 x239q3 x239q4 x239q5 x239q6 ((rd_T70 x239q1 x5).f0) ((rd_T70 x239q1 x5).f1) ((rd_T70 x239q1 x5).f2) ((rd_T70 x239q1 x5).f3) ((rd_T70 x239q1 x5).f4) ((rd_T70 x239q1 x5).f5) ((rd_T70 x239q1 x5).f6)).bind fun t253 => (if t253 = 0 then (rf_Check.l1 k (x4 ++ [(rd_T70 x239q1 x5).f0]) (wrap64 (x5 + 1)) x239q0 x239q1 x239q2 x239q3 x239q4 x239q5 x239q6) else (some t253))) else (none)))) else (some 5))) else (none)) else (if (x239q2.length : Int) = (x239q0.length : Int) then (rf_Check.l2 k 0 x239q0 x239q1 x239q2 x239q3 x239q4 x239q5 x239q6) else (some 1))
def rf_Check.l2 : Nat → Int → List ByteArray → List (S70) → List (S27) → List (S89) → Int → Int → Int → Option (Int)
 | 0, _, _, _, _, _, _, _, _ => none
 | k + 1, x7, x239q0, x239q1, x239q2, x239q3, x239q4, x239q5, x239q6 => if x7 < (x239q2.length : Int) then (if 0 ≤ x7 then ((rf_within.f ((rd_T27 x239q2 x7).f0) ((rd_T27 x239q2 x7).f1) 0 1000).bind fun t255 => (if t255 = true then (rf_Check.l2 k (wrap64 (x7 + 1)) x239q0 x239q1 x239q2 x239q3 x239q4 x239q5 x239q6) else (some 1))) else (none)) else (if (x239q3.length : Int) > 6 then (some 3) else (rf_Check.l3 k ([] : List ByteArray) 0 x239q0 x239q1 x239q2 x239q3 x239q4 x239q5 x239q6))
def rf_Check.l3 : Nat → List ByteArray → Int → List ByteArray → List (S70) → List (S27) → List (S89) → Int → Int → Int → Option (Int)
 | 0, _, _, _, _, _, _, _, _, _ => none
 | k + 1, x4, x8, x239q0, x239q1, x239q2, x239q3, x239q4, x239q5, x239q6 => if x8 < (x239q3.length : Int) then (if 0 ≤ x8 then ((rf_Name.f k ((rd_T89 x239q3 x8).f0)).bind fun t258 => (if t258 = true then ((rf_in.f k x4 ((rd_T89 x239q3 x8).f0)).bind fun t260 => (if t260 = true then (some 6) else (if x4.length < 8796093022208 then ((rf_property.f k x239q0 x239q1 x239q2 x239q3 x239q4 x239q5 x239q6 ((rd_T89 x239q3 x8).f0) ((rd_T89 x239q3 x8).f1) ((rd_T89 x239q3 x8).f2.f0) ((rd_T89 x239q3 x8).f2.f1)).bind fun t266 => (if t266 = 0 then (rf_Check.l3 k (x4 ++ [(rd_T89 x239q3 x8).f0]) (wrap64 (x8 + 1)) x239q0 x239q1 x239q2 x239q3 x239q4 x239q5 x239q6) else (some t266))) else (none)))) else (some 5))) else (none)) else ((rf_within.f x239q4 x239q5 (-10000) 10000).bind fun t256 => (if t256 = true then (if x239q6 < 1 then (some 1) else (if x239q6 > 10000 then (some 1) else (some 0))) else (some 1)))
end
def rf_Check.f (k : Nat) (l0_0 : List ByteArray) (l0_1 : List (S70)) (l0_2 : List (S27)) (l0_3 : List (S89)) (a0_4 : Int) (a0_5 : Int) (a0_6 : Int) : Option (Int) := if (l0_0.length : Int) > 12 then (some 3) else (if (l0_0.length : Int) = 0 then (some 1) else (rf_Check.l0 k 0 l0_0 l0_1 l0_2 l0_3 a0_4 a0_5 a0_6))
def rf_Check.T10 : Bool × List (List Nat × List Nat) := (true, [([], []), ([0], [0]), ([], []), ([1, 2], [1, 2]), ([], []), ([4], [4]), ([], []), ([5, 6], [5, 6]), ([7], [7]), ([3, 8], [3, 8])])
def rf_Check.B10 : List Nat := [0, 1, 0, 7, 0, 16, 0, 112, 240, 511]
theorem rf_Check.tab10 : rtab .any (opsOf Tryz.f86 10) = rf_Check.T10 := by kernel_rfl
theorem rf_Check.bits10 : waitsOk rf_Check.T10.2 rf_Check.B10 = true := by kernel_rfl
def rf_Check.T25 : Bool × List (List Nat × List Nat) := (true, [([], []), ([], []), ([1], [1]), ([], []), ([2, 3], [2, 3]), ([4], [4]), ([0, 5], [0, 5]), ([6, 6, 0, 1, 2, 3, 4, 5, 6], [6])])
def rf_Check.B25 : List Nat := [0, 0, 2, 0, 14, 30, 63, 127]
theorem rf_Check.tab25 : rtab .any (opsOf Tryz.f86 25) = rf_Check.T25 := by kernel_rfl
theorem rf_Check.bits25 : waitsOk rf_Check.T25.2 rf_Check.B25 = true := by kernel_rfl
def rf_Check.T46 : Bool × List (List Nat × List Nat) := (true, [([], []), ([], []), ([1], [1]), ([], []), ([2, 3], [2, 3]), ([4], [4]), ([0, 5], [0, 5]), ([6, 6, 0, 1, 2, 3, 4, 5, 6], [6])])
def rf_Check.B46 : List Nat := [0, 0, 2, 0, 14, 30, 63, 127]
theorem rf_Check.tab46 : rtab .any (opsOf Tryz.f86 46) = rf_Check.T46 := by kernel_rfl
theorem rf_Check.bits46 : waitsOk rf_Check.T46.2 rf_Check.B46 = true := by kernel_rfl
theorem rf_Check.calls (k : Nat) (A0_0 : Option Addr) (c0_0 : Nat) (l0_0 : List ByteArray) (A0_1 : Option Addr) (c0_1 : Nat) (l0_1 : List (S70)) (A0_2 : Option Addr) (c0_2 : Nat) (l0_2 : List (S27)) (A0_3 : Option Addr) (c0_3 : Nat) (l0_3 : List (S89)) (a0_4 : Int) (a0_5 : Int) (a0_6 : Int) (r : Int) (w : World) (hr0_0 : Kd.C Kd.string w A0_0 l0_0.length l0_0) (hc0_0 : l0_0.length ≤ c0_0) (hr0_1 : Kd.C k70 w A0_1 l0_1.length l0_1) (hc0_1 : l0_1.length ≤ c0_1) (hr0_2 : Kd.C k27 w A0_2 l0_2.length l0_2) (hc0_2 : l0_2.length ≤ c0_2) (hr0_3 : Kd.C k89 w A0_3 l0_3.length l0_3) (hc0_3 : l0_3.length ≤ c0_3) (h : rf_Check.f k l0_0 l0_1 l0_2 l0_3 a0_4 a0_5 a0_6 = some r) :
  Calls Tryz.prog 86 #[.agg #[.slice A0_0 l0_0.length c0_0, .slice A0_1 l0_1.length c0_1, .slice A0_2 l0_2.length c0_2, .slice A0_3 l0_3.length c0_3, .int .i64 a0_4, .int .i64 a0_5, .int .i64 a0_6]] w fun e w' => e = .returned (.int .i64 r) ∧ Below w.heap.size w w' := by
 have hu29 := Tryz.underlying29; have hu70 := Tryz.underlying70; have hu27 := Tryz.underlying27; have hu89 := Tryz.underlying89; have HR0_0 := Sd.mk hr0_0; have HC0_0 := Sd.mk hc0_0; clear hr0_0 hc0_0; have HR0_1 := Sd.mk hr0_1; have HC0_1 := Sd.mk hc0_1; clear hr0_1 hc0_1; have HR0_2 := Sd.mk hr0_2; have HC0_2 := Sd.mk hc0_2; clear hr0_2 hc0_2; have HR0_3 := Sd.mk hr0_3; have HC0_3 := Sd.mk hc0_3; clear hr0_3 hc0_3; have HB := Sd.mk (Below.refl w.heap.size w)
 have H : (if (l0_0.length : Int) > 12 then (some 3) else (if (l0_0.length : Int) = 0 then (some 1) else (rf_Check.l0 k 0 l0_0 l0_1 l0_2 l0_3 a0_4 a0_5 a0_6))) = some r := h
 clear h
 by_cases c2 : (l0_0.length : Int) > 12
 ·rw [if_pos c2] at H
  have c2b0 : decide (12 < (l0_0.length : Int)) = true := decide_eq_true c2
  have c2b1 : decide (12 < l0_0.length) = true := decide_eq_true (by omega)
  clear c2; obtain rfl := Option.some.inj H
  go_enter Tryz.func86, Tryz.ntmps86
  go_wp2_with (first | ((with_reducible refine gate_dst (N := 1) rfl ?_); refine box_event ?hg (N := 1) ?hd (cs := #[.slice A0_0 l0_0.length c0_0, .slice A0_1 l0_1.length c0_1, .slice A0_2 l0_2.length c0_2, .slice A0_3 l0_3.length c0_3, .int .i64 a0_4, .int .i64 a0_5, .int .i64 a0_6]) (t := 29) ?hr ?_; (case hd => rfl); (case hg => rfl); (case hr => exact tG); intro gb238 hg w3 hbox hb; have BK238 := Sd.mk (hbox); have GW238 := Sd.mk (bSz hg (bBl HB.out)); have GE238 := Sd.mk (bSz hg (bBl HB.out)); replace HB := Sd.mk (below_step (bBl HB.out) hb); clear hb hbox hg; obtain ⟨u4_0, u4_1, u4_2, u4_3, u4_4, u4_5, u4_6, o4_0, o4_1, o4_2, o4_3, o4_4, o4_5, o4_6⟩ := bc7 (w := w3) BK238.out))
  go_ret
  exact ⟨tE, bBl HB.out⟩
 ·rw [if_neg c2] at H
  have c2b0 : decide (12 < (l0_0.length : Int)) = false := decide_eq_false c2
  have c2b1 : decide (12 < l0_0.length) = false := decide_eq_false (by omega)
  clear c2
  by_cases c5 : (l0_0.length : Int) = 0
  ·rw [if_pos c5] at H
   have c5b0 : ((l0_0.length : Int) == 0) = true := beq_iff_eq.mpr c5
   have c5b1 : ((l0_0.length : Int) != 0) = false := bne_eq_false_iff_eq.mpr c5
   clear c5; obtain rfl := Option.some.inj H
   go_enter Tryz.func86, Tryz.ntmps86
   go_wp2_with (first | ((with_reducible refine gate_dst (N := 1) rfl ?_); refine box_event ?hg (N := 1) ?hd (cs := #[.slice A0_0 l0_0.length c0_0, .slice A0_1 l0_1.length c0_1, .slice A0_2 l0_2.length c0_2, .slice A0_3 l0_3.length c0_3, .int .i64 a0_4, .int .i64 a0_5, .int .i64 a0_6]) (t := 29) ?hr ?_; (case hd => rfl); (case hg => rfl); (case hr => exact tG); intro gb238 hg w6 hbox hb; have BK238 := Sd.mk (hbox); have GW238 := Sd.mk (bSz hg (bBl HB.out)); have GE238 := Sd.mk (bSz hg (bBl HB.out)); replace HB := Sd.mk (below_step (bBl HB.out) hb); clear hb hbox hg; obtain ⟨u7_0, u7_1, u7_2, u7_3, u7_4, u7_5, u7_6, o7_0, o7_1, o7_2, o7_3, o7_4, o7_5, o7_6⟩ := bc7 (w := w6) BK238.out))
   go_ret
   exact ⟨tE, bBl HB.out⟩
  ·rw [if_neg c5] at H
   have c5b0 : ((l0_0.length : Int) == 0) = false := beq_eq_false_iff_ne.mpr c5
   have c5b1 : ((l0_0.length : Int) != 0) = true := bne_iff_ne.mpr c5
   have c5b2 : ¬ (l0_0 = []) := fun h_ => c5 (by rw [h_]; rfl)
   have H' := Sd.mk H; clear H
   go_enter Tryz.func86, Tryz.ntmps86
   go_wp2_with (first | ((with_reducible refine gate_dst (N := 1) rfl ?_); refine box_event ?hg (N := 1) ?hd (cs := #[.slice A0_0 l0_0.length c0_0, .slice A0_1 l0_1.length c0_1, .slice A0_2 l0_2.length c0_2, .slice A0_3 l0_3.length c0_3, .int .i64 a0_4, .int .i64 a0_5, .int .i64 a0_6]) (t := 29) ?hr ?_; (case hd => rfl); (case hg => rfl); (case hr => exact tG); intro gb238 hg w8 hbox hb; have BK238 := Sd.mk (hbox); have GW238 := Sd.mk (bSz hg (bBl HB.out)); have GE238 := Sd.mk (bSz hg (bBl HB.out)); replace HB := Sd.mk (below_step (bBl HB.out) hb); clear hb hbox hg; obtain ⟨u9_0, u9_1, u9_2, u9_3, u9_4, u9_5, u9_6, o9_0, o9_1, o9_2, o9_3, o9_4, o9_5, o9_6⟩ := bc7 (w := w8) BK238.out))
   go_loopg [3] k (fun kq v3 w' => ∃ (x3_1 : Int), v3 = .int .i64 x3_1 ∧ Sd (rf_Check.l0 kq x3_1 l0_0 l0_1 l0_2 l0_3 a0_4 a0_5 a0_6 = some r) ∧ Sd (kq ≤ k) ∧ Sd (w'.heap[gb238]? = some (.cells #[(.slice A0_0 l0_0.length c0_0), (.slice A0_1 l0_1.length c0_1), (.slice A0_2 l0_2.length c0_2), (.slice A0_3 l0_3.length c0_3), .int .i64 a0_4, .int .i64 a0_5, .int .i64 a0_6] 29 (0, 0))) ∧ Sd (Below w.heap.size w w'))
   case atStart => exact ⟨(0), tS, H', ⟨Nat.le_refl _⟩, ⟨bkA BK238.out⟩, ⟨bBl HB.out⟩⟩
   case round =>
    clear H'; (try clear c2); (try clear c2b0); (try clear c2b1); (try clear p2); (try clear c5); (try clear c5b0); (try clear c5b1); (try clear c5b2); (try clear c8); (try clear u4_0 u4_1 u4_2 u4_3 u4_4 u4_5 u4_6); (try clear u7_0 u7_1 u7_2 u7_3 u7_4 u7_5 u7_6); (try clear u9_0 u9_1 u9_2 u9_3 u9_4 u9_5 u9_6); (try clear o4_0 o4_1 o4_2 o4_3 o4_4 o4_5 o4_6); (try clear o7_0 o7_1 o7_2 o7_3 o7_4 o7_5 o7_6); (try clear o9_0 o9_1 o9_2 o9_3 o9_4 o9_5 o9_6); obtain ⟨x3_1, rfl, HA, HK1, BK238, HB⟩ := hrel
    cases gk with
    | zero => exact absurd HA.out (by simp [rf_Check.l0])
    | succ k1 =>
     have H := HA.out; clear HA
     simp only [rf_Check.l0] at H
     by_cases c10 : x3_1 < (l0_0.length : Int)
     ·rw [if_pos c10] at H
      have c10b0 : decide (x3_1 < (l0_0.length : Int)) = true := decide_eq_true c10
      clear c10
      by_cases c11 : 0 ≤ x3_1
      ·rw [if_pos c11] at H
       have c11b0 : decide (0 ≤ x3_1) = true := decide_eq_true c11
       clear c11; replace H := Option.bind_eq_some_iff.mp H; obtain ⟨t240, A120, H⟩ := H
       try dsimp only at H
       have A12 := Sd.mk A120; clear A120
       by_cases c13 : t240 = true
       ·subst c13
        have H1 : (if x3_1 ≤ (l0_0.length : Int) then ((rf_in.f k1 (l0_0.take (x3_1 : Int).toNat) (rdOf ByteArray.empty l0_0 x3_1)).bind fun t243 => (if t243 = true then (some 6) else (rf_Check.l0 k1 (wrap64 (x3_1 + 1)) l0_0 l0_1 l0_2 l0_3 a0_4 a0_5 a0_6))) else (none)) = some r := by rw [if_pos rfl] at H; exact H
        clear H; have H := H1; clear H1; have c14b0 := eq_true (tB : 0 ≤ x3_1)
        by_cases c15 : x3_1 ≤ (l0_0.length : Int)
        ·rw [if_pos c15] at H
         have c15b0 := eq_true c15
         have c15b1 : decide (x3_1 ≤ (l0_0.length : Int)) = true := decide_eq_true c15
         clear c15; replace H := Option.bind_eq_some_iff.mp H; obtain ⟨t243, A160, H⟩ := H
         try dsimp only at H
         have A16 := Sd.mk A160; clear A160
         have H' := Sd.mk H; clear H; obtain ⟨u18_0, u18_1, u18_2, u18_3, u18_4, u18_5, u18_6, o18_0, o18_1, o18_2, o18_3, o18_4, o18_5, o18_6⟩ := bc7 (w := wr) BK238.out
         have p239 : 0 ≤ (x3_1 : Int) := tB
         have q239 : x3_1 < (l0_0.length : Int) := tB
         obtain ⟨ad239, e239, hx239_0⟩ := Kd.at_string HR0_0.out x3_1 p239 q239; cases e239; replace hx239_0 := cU HB hx239_0; replace p239 := eq_true p239; replace q239 := eq_true q239
         try go_wp2_with (first | ((with_reducible refine gate_callee (f := 170) rfl ?_); refine goesL_ (some 30) rfl rfl Tryz.func170 (by kernel_rfl) rfl #[.string (rdOf ByteArray.empty l0_0 x3_1)] rfl tM ?_; (with_reducible refine (rf_Name.calls k1 (rdOf ByteArray.empty l0_0 x3_1) true _ A12.out).mono ?_); rintro e w' ⟨rfl, ⟨nd, rfl⟩⟩; refine ⟨_, rfl, ?_⟩))
         (try (rw [drewN_self wr]; generalize hq_ : World.drewN wr _ = wr; have n0_ : Sd (wr.heap[gb238]? = some (.cells #[.slice (some ad239) l0_0.length c0_0, .slice A0_1 l0_1.length c0_1, .slice A0_2 l0_2.length c0_2, .slice A0_3 l0_3.length c0_3, .int .i64 a0_4, .int .i64 a0_5, .int .i64 a0_6] 29 (0, 0))) := ⟨by rw [← hq_]; exact (bkA BK238.out)⟩; have n1_ : Sd (Below w.heap.size w wr) := ⟨by rw [← hq_]; exact (bBl HB.out)⟩; clear BK238 HB hq_; have BK238 := n0_; have HB := n1_; clear n0_ n1_))
         replace BK238 := Sd.mk (blk_drew BK238.out); replace HB := Sd.mk (below_drew1 HB.out); obtain ⟨i020, hi020, _, hsz20, _⟩ := info_parts info9; obtain ⟨hcut20, hA20, hC20⟩ := print_take_of (P := Tryz.prog) Value.string (⟨#[]⟩ : ByteArray) 22 9 .i64 Tryz.underlying22 hi020 hsz20 (some ad239) c0_0 l0_0 x3_1 (tB) (tB) HC0_0.out
         have HR241 := Sd.mk (Kd.C_of_reads (h1 := fun _ => rfl) (hA20 _ (Kd.reads_of_C HR0_0.out)))
         have HC241 := Sd.mk hC20; clear hA20 hC20 hi020 hsz20
         have p242 : 0 ≤ (x3_1 : Int) := tB
         have q242 : x3_1 < (l0_0.length : Int) := tB
         obtain ⟨ad242, e242, hx242_0⟩ := Kd.at_string HR0_0.out x3_1 p242 q242; have hw242_0 := hx242_0
         obtain rfl : ad239 = ad242 := (by injection e242)
         replace hx242_0 := cU HB hx242_0; replace p242 := eq_true p242; replace q242 := eq_true q242
         refine start_ (n := 10) (S := fun w' => w'.cell? ⟨gb238, 0, none⟩ = some (.slice (some ad239) l0_0.length c0_0) ∧ w'.cell? ⟨gb238, 1, none⟩ = some (.slice A0_1 l0_1.length c0_1) ∧ w'.cell? ⟨gb238, 2, none⟩ = some (.slice A0_2 l0_2.length c0_2) ∧ w'.cell? ⟨gb238, 3, none⟩ = some (.slice A0_3 l0_3.length c0_3) ∧ w'.cell? ⟨gb238, 4, none⟩ = some (.int .i64 a0_4) ∧ w'.cell? ⟨gb238, 5, none⟩ = some (.int .i64 a0_5) ∧ w'.cell? ⟨gb238, 6, none⟩ = some (.int .i64 a0_6) ∧ w'.cell? (ad239.add (x3_1).toNat) = some (.string (rdOf ByteArray.empty l0_0 x3_1))) (ds := []) (bA 10 0) (by kernel_rfl) rfl rfl ⟨(blk_cell BK238.out 0).trans rfl, (blk_cell BK238.out 1).trans rfl, (blk_cell BK238.out 2).trans rfl, (blk_cell BK238.out 3).trans rfl, (blk_cell BK238.out 4).trans rfl, (blk_cell BK238.out 5).trans rfl, (blk_cell BK238.out 6).trans rfl, (cU HB hw242_0 :)⟩ (fun hHeld => ?_); refine with_tabW rf_Check.tab10 rf_Check.bits10 (fun HT_ HW_ => ?_)
         generalize wr.drew = w19 at BK238 HB HR241 hx242_0 hHeld ⊢
         refine pQ 0 (some 32) (bA 10 1) ?_
         refine pQ 2 (some 34) (bA 10 5) ?_
         refine pQ 4 (some 36) (bA 10 21) ?_
         refine pQ 6 (some 38) (bA 10 85) ?_
         refine tQ 1 (some 33) (bA 10 87) ?_
         refine pQ 3 (some 35) (bA 10 95) ?_
         refine tQ 5 (some 37) (bA 10 127) ?_
         refine pQ 7 (some 39) (bA 10 255) ?_
         refine tQ 8 (some 40) (bA 10 511) ?_
         refine one_ (i := 9) (N := some 41) (bA 10 1023) rfl rfl (one_of HT_.out (by kernel_rfl)) (by decide) (fun K hK => ?_)
         refine goes_ Tryz.func171 (by kernel_rfl) rfl #[.slice (some ad239) (l0_0.take (x3_1 : Int).toNat).length c0_0, .string (rdOf ByteArray.empty l0_0 x3_1)] (by rfl) rfl rfl (by (try simp only [List.map_toArray, List.map_cons, List.map_nil]); first | done | (rw [show (l0_0.take (x3_1 : Int).toNat).length = x3_1.toNat from (by rw [List.length_take]; have h_ : (x3_1 : Int) ≤ (l0_0.length : Int) := tB; omega)] <;> rfl) | rfl | (simp only [List.length_drop, List.length_take]; rfl)) ?_
         with_reducible refine (rf_in.calls k1 _ _ (l0_0.take (x3_1 : Int).toNat) (rdOf ByteArray.empty l0_0 x3_1) t243 _ ?side1 ?side2 A16.out).mono ?_
         (case side1 => exact cS (Kd.C_below HR241.out HB.out))
         (case side2 => exact HC241.out)
         rintro e w' ⟨rfl, ⟨nd, rfl⟩⟩
         refine ⟨_, rfl, ?_⟩
         refine hK.out _ _ ⟨(blk_cell BK238.out 0).trans rfl, (blk_cell BK238.out 1).trans rfl, (blk_cell BK238.out 2).trans rfl, (blk_cell BK238.out 3).trans rfl, (blk_cell BK238.out 4).trans rfl, (blk_cell BK238.out 5).trans rfl, (blk_cell BK238.out 6).trans rfl, (cU HB hw242_0 :)⟩ (fun hHeld => ?_)
         clear hK K
         refine norm_ (a' := ?_) ?_ ?_
         rotate_left
         ·show Act.put _ (some 41) _ = _
          exact tP
         refine done_ (done_of HT_.out (by kernel_rfl)) ?_
         have H := H'.out; clear H'
         by_cases c17 : t243 = true
         ·subst c17
          have H1 : (some 6) = some r := by rw [if_pos rfl] at H; exact H
          clear H; have H := H1; clear H1; obtain rfl := Option.some.inj H
          try go_wp2
          go_ret
          exact ⟨tE, bBl HB.out⟩
         ·replace c17 := Bool.eq_false_iff.mpr c17
          subst c17
          have H1 : (rf_Check.l0 k1 (wrap64 (x3_1 + 1)) l0_0 l0_1 l0_2 l0_3 a0_4 a0_5 a0_6) = some r := by rw [if_neg (show ¬ (false = true) by decide)] at H; exact H
          clear H; have H := H1; clear H1; have H' := Sd.mk H; clear H
          try go_wp2
          go_roundg k1
          case measure => have := HK1.out; omega
          case rel => exact ⟨(wrap64 (x3_1 + 1)), tS, H', ⟨by have := HK1.out; omega⟩, ⟨bkA BK238.out⟩, ⟨bBl HB.out⟩⟩
        ·rw [if_neg c15] at H
         exact absurd H (by simp)
       ·replace c13 := Bool.eq_false_iff.mpr c13
        subst c13
        have H1 : (some 5) = some r := by rw [if_neg (show ¬ (false = true) by decide)] at H; exact H
        clear H; have H := H1; clear H1; obtain rfl := Option.some.inj H; obtain ⟨u24_0, u24_1, u24_2, u24_3, u24_4, u24_5, u24_6, o24_0, o24_1, o24_2, o24_3, o24_4, o24_5, o24_6⟩ := bc7 (w := wr) BK238.out
        have p239 : 0 ≤ (x3_1 : Int) := tB
        have q239 : x3_1 < (l0_0.length : Int) := tB
        obtain ⟨ad239, e239, hx239_0⟩ := Kd.at_string HR0_0.out x3_1 p239 q239; cases e239; replace hx239_0 := cU HB hx239_0; replace p239 := eq_true p239; replace q239 := eq_true q239
        go_wp2_with (first | ((with_reducible refine gate_callee (f := 170) rfl ?_); refine goesL_ (some 30) rfl rfl Tryz.func170 (by kernel_rfl) rfl #[.string (rdOf ByteArray.empty l0_0 x3_1)] rfl tM ?_; (with_reducible refine (rf_Name.calls k1 (rdOf ByteArray.empty l0_0 x3_1) false _ A12.out).mono ?_); rintro e w' ⟨rfl, ⟨nd, rfl⟩⟩; refine ⟨_, rfl, ?_⟩))
        go_ret
        exact ⟨tE, bBl HB.out⟩
      ·rw [if_neg c11] at H
       exact absurd H (by simp)
     ·rw [if_neg c10] at H
      have c10b0 : decide (x3_1 < (l0_0.length : Int)) = false := decide_eq_false c10
      clear c10
      by_cases c25 : (l0_1.length : Int) > 12
      ·rw [if_pos c25] at H
       have c25b0 : decide (12 < (l0_1.length : Int)) = true := decide_eq_true c25
       have c25b1 : decide (12 < l0_1.length) = true := decide_eq_true (by omega)
       clear c25; obtain rfl := Option.some.inj H; obtain ⟨u26_0, u26_1, u26_2, u26_3, u26_4, u26_5, u26_6, o26_0, o26_1, o26_2, o26_3, o26_4, o26_5, o26_6⟩ := bc7 (w := wr) BK238.out
       go_wp2
       go_ret
       exact ⟨tE, bBl HB.out⟩
      ·rw [if_neg c25] at H
       have c25b0 : decide (12 < (l0_1.length : Int)) = false := decide_eq_false c25
       have c25b1 : decide (12 < l0_1.length) = false := decide_eq_false (by omega)
       clear c25
       by_cases c27 : (l0_1.length : Int) = 0
       ·rw [if_pos c27] at H
        have c27b0 : ((l0_1.length : Int) == 0) = true := beq_iff_eq.mpr c27
        have c27b1 : ((l0_1.length : Int) != 0) = false := bne_eq_false_iff_eq.mpr c27
        clear c27; obtain rfl := Option.some.inj H; obtain ⟨u28_0, u28_1, u28_2, u28_3, u28_4, u28_5, u28_6, o28_0, o28_1, o28_2, o28_3, o28_4, o28_5, o28_6⟩ := bc7 (w := wr) BK238.out
        go_wp2
        go_ret
        exact ⟨tE, bBl HB.out⟩
       ·rw [if_neg c27] at H
        have c27b0 : ((l0_1.length : Int) == 0) = false := beq_eq_false_iff_ne.mpr c27
        have c27b1 : ((l0_1.length : Int) != 0) = true := bne_iff_ne.mpr c27
        have c27b2 : ¬ (l0_1 = []) := fun h_ => c27 (by rw [h_]; rfl)
        have H' := Sd.mk H; clear H; obtain ⟨u29_0, u29_1, u29_2, u29_3, u29_4, u29_5, u29_6, o29_0, o29_1, o29_2, o29_3, o29_4, o29_5, o29_6⟩ := bc7 (w := wr) BK238.out
        go_wp2
        go_loopg [4, 5] k1 (fun kq v4 v5 w' => ∃ (x4_2 : List ByteArray) (x5_2 : Int), v5 = .int .i64 x5_2 ∧ Sd (rf_Check.l1 kq x4_2 x5_2 l0_0 l0_1 l0_2 l0_3 a0_4 a0_5 a0_6 = some r) ∧ Sd (kq ≤ k1) ∧ Sd (Kd.R Kd.string 9 w' w.heap.size (fun _ => True) v4 x4_2) ∧ Sd (w'.heap[gb238]? = some (.cells #[(.slice A0_0 l0_0.length c0_0), (.slice A0_1 l0_1.length c0_1), (.slice A0_2 l0_2.length c0_2), (.slice A0_3 l0_3.length c0_3), .int .i64 a0_4, .int .i64 a0_5, .int .i64 a0_6] 29 (0, 0))) ∧ Sd (Below w.heap.size w w'))
        case atStart => exact ⟨(([] : List ByteArray)), (0), tS, H', ⟨Nat.le_refl _⟩, ⟨by first | exact Kd.R_nil _ _ _ _ _ | exact Kd.N_nil _ _ _ _ _ | exact Kd.V_nil _ _ _ _ _ | exact Kd.Q_nil _ _ _ _ _ | exact Kd.S_nil _ _ _ _ _⟩, ⟨bkA BK238.out⟩, ⟨bBl HB.out⟩⟩
        case round =>
         clear H'; (try clear c1); (try clear c2); (try clear c2b0); (try clear c2b1); (try clear p2 p2); (try clear q2); (try clear hx2); (try clear c5); (try clear c5b0); (try clear c5b1); (try clear c5b2); (try clear p6); (try clear c8); (try clear c10); (try clear c10b0); (try clear c11); (try clear c11b0); (try clear c13); (try clear c14); (try clear c14b0); (try clear c15); (try clear c15b0); (try clear c15b1); (try clear c17); (try clear p23); (try clear q23); (try clear hx23); (try clear p24); (try clear q24); (try clear hx24); (try clear c25); (try clear c25b0); (try clear c25b1); (try clear c27); (try clear c27b0); (try clear c27b1); (try clear c27b2); (try clear u18_0 u18_1 u18_2 u18_3 u18_4 u18_5 u18_6); (try clear u21_0 u21_1 u21_2 u21_3 u21_4 u21_5 u21_6); (try clear u24_0 u24_1 u24_2 u24_3 u24_4 u24_5 u24_6); (try clear u26_0 u26_1 u26_2 u26_3 u26_4 u26_5 u26_6); (try clear u28_0 u28_1 u28_2 u28_3 u28_4 u28_5 u28_6); (try clear u29_0 u29_1 u29_2 u29_3 u29_4 u29_5 u29_6); (try clear u4_0 u4_1 u4_2 u4_3 u4_4 u4_5 u4_6); (try clear u7_0 u7_1 u7_2 u7_3 u7_4 u7_5 u7_6); (try clear u9_0 u9_1 u9_2 u9_3 u9_4 u9_5 u9_6); (try clear o18_0 o18_1 o18_2 o18_3 o18_4 o18_5 o18_6); (try clear o21_0 o21_1 o21_2 o21_3 o21_4 o21_5 o21_6); (try clear o24_0 o24_1 o24_2 o24_3 o24_4 o24_5 o24_6); (try clear o26_0 o26_1 o26_2 o26_3 o26_4 o26_5 o26_6); (try clear o28_0 o28_1 o28_2 o28_3 o28_4 o28_5 o28_6); (try clear o29_0 o29_1 o29_2 o29_3 o29_4 o29_5 o29_6); (try clear o4_0 o4_1 o4_2 o4_3 o4_4 o4_5 o4_6); (try clear o7_0 o7_1 o7_2 o7_3 o7_4 o7_5 o7_6); (try clear o9_0 o9_1 o9_2 o9_3 o9_4 o9_5 o9_6); (try clear hx239_0); (try clear hx242_0); (try clear p239); (try clear p242); (try clear q239); (try clear q242); obtain ⟨x4_2, x5_2, rfl, HA, HK2, HO_4, BK238, HB⟩ := hrel
         cases gk with
         | zero => exact absurd HA.out (by simp [rf_Check.l1])
         | succ k2 =>
          have H := HA.out; clear HA
          simp only [rf_Check.l1] at H
          by_cases c30 : x5_2 < (l0_1.length : Int)
          ·rw [if_pos c30] at H
           have c30b0 : decide (x5_2 < (l0_1.length : Int)) = true := decide_eq_true c30
           clear c30
           by_cases c31 : 0 ≤ x5_2
           ·rw [if_pos c31] at H
            have c31b0 : decide (0 ≤ x5_2) = true := decide_eq_true c31
            clear c31; replace H := Option.bind_eq_some_iff.mp H; obtain ⟨t245, A320, H⟩ := H
            try dsimp only at H
            have A32 := Sd.mk A320; clear A320
            by_cases c33 : t245 = true
            ·subst c33
             have H1 : ((rf_in.f k2 x4_2 ((rd_T70 l0_1 x5_2).f0)).bind fun t247 => (if t247 = true then (some 6) else (if x4_2.length < 8796093022208 then ((rf_material.f k2 l0_0 l0_1 l0_2 l0_3 a0_4 a0_5 a0_6 ((rd_T70 l0_1 x5_2).f0) ((rd_T70 l0_1 x5_2).f1) ((rd_T70 l0_1 x5_2).f2) ((rd_T70 l0_1 x5_2).f3) ((rd_T70 l0_1 x5_2).f4) ((rd_T70 l0_1 x5_2).f5) ((rd_T70 l0_1 x5_2).f6)).bind fun t253 => (if t253 = 0 then (rf_Check.l1 k2 (x4_2 ++ [(rd_T70 l0_1 x5_2).f0]) (wrap64 (x5_2 + 1)) l0_0 l0_1 l0_2 l0_3 a0_4 a0_5 a0_6) else (some t253))) else (none)))) = some r := by rw [if_pos rfl] at H; exact H
             clear H; have H := H1; clear H1; replace H := Option.bind_eq_some_iff.mp H; obtain ⟨t247, A340, H⟩ := H
             try dsimp only at H
             have A34 := Sd.mk A340; clear A340
             by_cases c35 : t247 = true
             ·subst c35
              have H1 : (some 6) = some r := by rw [if_pos rfl] at H; exact H
              clear H; have H := H1; clear H1; obtain rfl := Option.some.inj H; obtain ⟨u36_0, u36_1, u36_2, u36_3, u36_4, u36_5, u36_6, o36_0, o36_1, o36_2, o36_3, o36_4, o36_5, o36_6⟩ := bc7 (w := wr) BK238.out
              have p244 : 0 ≤ (x5_2 : Int) := tB
              have q244 : x5_2 < (l0_1.length : Int) := tB
              obtain ⟨ad244, A244_6, c244_6, e244, hx244_0, hx244_1, hx244_2, hx244_3, hx244_4, hx244_5, hx244_6, hl244_6, hi244_6⟩ := at_T70 HR0_1.out x5_2 p244 q244; cases e244; replace hx244_0 := cU HB hx244_0; replace hx244_1 := cU HB hx244_1; replace hx244_2 := cU HB hx244_2; replace hx244_3 := cU HB hx244_3; replace hx244_4 := cU HB hx244_4; replace hx244_5 := cU HB hx244_5; replace hx244_6 := cU HB hx244_6; have HR244_6 := Sd.mk hi244_6; have HC244_6 := Sd.mk hl244_6; clear hi244_6 hl244_6; replace p244 := eq_true p244; replace q244 := eq_true q244
              go_wp2_with (first | ((with_reducible refine gate_callee (f := 170) rfl ?_); refine goesL_ (some 63) rfl rfl Tryz.func170 (by kernel_rfl) rfl #[.string ((rd_T70 l0_1 x5_2).f0)] rfl tM ?_; (with_reducible refine (rf_Name.calls k2 ((rd_T70 l0_1 x5_2).f0) true _ A32.out).mono ?_); rintro e w' ⟨rfl, ⟨nd, rfl⟩⟩; refine ⟨_, rfl, ?_⟩; have p246 : 0 ≤ (x5_2 : Int) := tB; have q246 : x5_2 < (l0_1.length : Int) := tB; obtain ⟨ad246, A246_6, c246_6, e246, hx246_0, hx246_1, hx246_2, hx246_3, hx246_4, hx246_5, hx246_6, hl246_6, hi246_6⟩ := at_T70 HR0_1.out x5_2 p246 q246; obtain rfl : ad244 = ad246 := (by injection e246); replace hx246_0 := cU HB hx246_0; replace hx246_1 := cU HB hx246_1; replace hx246_2 := cU HB hx246_2; replace hx246_3 := cU HB hx246_3; replace hx246_4 := cU HB hx246_4; replace hx246_5 := cU HB hx246_5; replace hx246_6 := cU HB hx246_6; have HR246_6 := Sd.mk hi246_6; have HC246_6 := Sd.mk hl246_6; clear hi246_6 hl246_6; replace p246 := eq_true p246; replace q246 := eq_true q246; have ea_ := Option.some.inj (hx244_6.symm.trans hx246_6); injection ea_ with ea_ en_ ec_; subst ea_; subst ec_; clear en_; obtain ⟨Ao37, co37, eo37⟩ := Kd.R_slice HO_4.out; subst eo37) | ((with_reducible refine gate_callee (f := 171) rfl ?_); refine goesL_ (some 72) rfl rfl Tryz.func171 (by kernel_rfl) rfl #[.slice Ao37 x4_2.length co37, .string ((rd_T70 l0_1 x5_2).f0)] rfl tM ?_; (with_reducible refine (rf_in.calls k2 _ _ x4_2 ((rd_T70 l0_1 x5_2).f0) true _ (cS ((Kd.R_reads' HO_4.out).2.2)) ((Kd.R_reads' HO_4.out).2.1) A34.out).mono ?_); rintro e w' ⟨rfl, ⟨nd, rfl⟩⟩; refine ⟨_, rfl, ?_⟩))
              go_ret
              exact ⟨tE, bBl HB.out⟩
             ·replace c35 := Bool.eq_false_iff.mpr c35
              subst c35
              have H1 : (if x4_2.length < 8796093022208 then ((rf_material.f k2 l0_0 l0_1 l0_2 l0_3 a0_4 a0_5 a0_6 ((rd_T70 l0_1 x5_2).f0) ((rd_T70 l0_1 x5_2).f1) ((rd_T70 l0_1 x5_2).f2) ((rd_T70 l0_1 x5_2).f3) ((rd_T70 l0_1 x5_2).f4) ((rd_T70 l0_1 x5_2).f5) ((rd_T70 l0_1 x5_2).f6)).bind fun t253 => (if t253 = 0 then (rf_Check.l1 k2 (x4_2 ++ [(rd_T70 l0_1 x5_2).f0]) (wrap64 (x5_2 + 1)) l0_0 l0_1 l0_2 l0_3 a0_4 a0_5 a0_6) else (some t253))) else (none)) = some r := by rw [if_neg (show ¬ (false = true) by decide)] at H; exact H
              clear H; have H := H1; clear H1
              by_cases c38 : x4_2.length < 8796093022208
              ·rw [if_pos c38] at H
               have LMc38 := Sd.mk c38; clear c38
               obtain ⟨y249, hy249⟩ : ∃ y_ : List ByteArray, y_ = (x4_2 ++ [(rd_T70 l0_1 x5_2).f0]) := ⟨_, rfl⟩
               replace H : ((rf_material.f k2 l0_0 l0_1 l0_2 l0_3 a0_4 a0_5 a0_6 ((rd_T70 l0_1 x5_2).f0) ((rd_T70 l0_1 x5_2).f1) ((rd_T70 l0_1 x5_2).f2) ((rd_T70 l0_1 x5_2).f3) ((rd_T70 l0_1 x5_2).f4) ((rd_T70 l0_1 x5_2).f5) ((rd_T70 l0_1 x5_2).f6)).bind fun t253 => (if t253 = 0 then (rf_Check.l1 k2 y249 (wrap64 (x5_2 + 1)) l0_0 l0_1 l0_2 l0_3 a0_4 a0_5 a0_6) else (some t253))) = some r := by first | (rw [hy249]; with_reducible exact H) | (have H2_ := (Option.bind_some _ _).symm.trans H; rw [hy249]; with_reducible exact H2_) | (have H2_ := (Option.bind_some _ _).symm.trans H; with_reducible exact H2_) | with_reducible exact H | (rw [hy249]; exact H) | exact H
               have Ny249 := Sd.mk hy249; clear hy249; replace H := Option.bind_eq_some_iff.mp H; obtain ⟨t253, A390, H⟩ := H
               try dsimp only at H
               have A39 := Sd.mk A390; clear A390
               have H' := Sd.mk H; clear H; obtain ⟨u41_0, u41_1, u41_2, u41_3, u41_4, u41_5, u41_6, o41_0, o41_1, o41_2, o41_3, o41_4, o41_5, o41_6⟩ := bc7 (w := wr) BK238.out
               have p244 : 0 ≤ (x5_2 : Int) := tB
               have q244 : x5_2 < (l0_1.length : Int) := tB
               obtain ⟨ad244, A244_6, c244_6, e244, hx244_0, hx244_1, hx244_2, hx244_3, hx244_4, hx244_5, hx244_6, hl244_6, hi244_6⟩ := at_T70 HR0_1.out x5_2 p244 q244; cases e244; replace hx244_0 := cU HB hx244_0; replace hx244_1 := cU HB hx244_1; replace hx244_2 := cU HB hx244_2; replace hx244_3 := cU HB hx244_3; replace hx244_4 := cU HB hx244_4; replace hx244_5 := cU HB hx244_5; replace hx244_6 := cU HB hx244_6; have HR244_6 := Sd.mk hi244_6; have HC244_6 := Sd.mk hl244_6; clear hi244_6 hl244_6; replace p244 := eq_true p244; replace q244 := eq_true q244
               try go_wp2_with (first | ((with_reducible refine gate_callee (f := 170) rfl ?_); refine goesL_ (some 63) rfl rfl Tryz.func170 (by kernel_rfl) rfl #[.string ((rd_T70 l0_1 x5_2).f0)] rfl tM ?_; (with_reducible refine (rf_Name.calls k2 ((rd_T70 l0_1 x5_2).f0) true _ A32.out).mono ?_); rintro e w' ⟨rfl, ⟨nd, rfl⟩⟩; refine ⟨_, rfl, ?_⟩; have p246 : 0 ≤ (x5_2 : Int) := tB; have q246 : x5_2 < (l0_1.length : Int) := tB; obtain ⟨ad246, A246_6, c246_6, e246, hx246_0, hx246_1, hx246_2, hx246_3, hx246_4, hx246_5, hx246_6, hl246_6, hi246_6⟩ := at_T70 HR0_1.out x5_2 p246 q246; obtain rfl : ad244 = ad246 := (by injection e246); replace hx246_0 := cU HB hx246_0; replace hx246_1 := cU HB hx246_1; replace hx246_2 := cU HB hx246_2; replace hx246_3 := cU HB hx246_3; replace hx246_4 := cU HB hx246_4; replace hx246_5 := cU HB hx246_5; replace hx246_6 := cU HB hx246_6; have HR246_6 := Sd.mk hi246_6; have HC246_6 := Sd.mk hl246_6; clear hi246_6 hl246_6; replace p246 := eq_true p246; replace q246 := eq_true q246; have ea_ := Option.some.inj (hx244_6.symm.trans hx246_6); injection ea_ with ea_ en_ ec_; subst ea_; subst ec_; clear en_; obtain ⟨Ao42, co42, eo42⟩ := Kd.R_slice HO_4.out; subst eo42) | ((with_reducible refine gate_callee (f := 171) rfl ?_); refine goesL_ (some 72) rfl rfl Tryz.func171 (by kernel_rfl) rfl #[.slice Ao42 x4_2.length co42, .string ((rd_T70 l0_1 x5_2).f0)] rfl tM ?_; (with_reducible refine (rf_in.calls k2 _ _ x4_2 ((rd_T70 l0_1 x5_2).f0) false _ (cS ((Kd.R_reads' HO_4.out).2.2)) ((Kd.R_reads' HO_4.out).2.1) A34.out).mono ?_); rintro e w' ⟨rfl, ⟨nd, rfl⟩⟩; refine ⟨_, rfl, ?_⟩; have p248 : 0 ≤ (x5_2 : Int) := tB; have q248 : x5_2 < (l0_1.length : Int) := tB; obtain ⟨ad248, A248_6, c248_6, e248, hx248_0, hx248_1, hx248_2, hx248_3, hx248_4, hx248_5, hx248_6, hl248_6, hi248_6⟩ := at_T70 HR0_1.out x5_2 p248 q248; obtain rfl : ad244 = ad248 := (by injection e248); replace hx248_0 := cU HB hx248_0; replace hx248_1 := cU HB hx248_1; replace hx248_2 := cU HB hx248_2; replace hx248_3 := cU HB hx248_3; replace hx248_4 := cU HB hx248_4; replace hx248_5 := cU HB hx248_5; replace hx248_6 := cU HB hx248_6; have HR248_6 := Sd.mk hi248_6; have HC248_6 := Sd.mk hl248_6; clear hi248_6 hl248_6; replace p248 := eq_true p248; replace q248 := eq_true q248; have ea_ := Option.some.inj (hx244_6.symm.trans hx248_6); injection ea_ with ea_ en_ ec_; subst ea_; subst ec_; clear en_) | ((with_reducible refine gate_builtin (b := .append) (xs := #[.tmp 73, .tmp 80]) rfl ?_); at_builtin; refine Kd.R_append Kd.string (w0 := w) w.heap.size rfl (.tmp 73) (.tmp 80) 22 9 (.string ⟨#[]⟩) 16 rfl Tryz.underlying22 info9 rfl (by decide) (by omega) (.slice Ao42 x4_2.length co42) x4_2 ((rd_T70 l0_1 x5_2).f0) [.string ((rd_T70 l0_1 x5_2).f0)] (fun _ => True) (fun _ => False) rfl rfl ?aP (fun _ hk => hk.elim) ?aF ?aO ?aB ?aS ?aL ?_; (case aP => exact rfl); (case aB => exact (bBl HB.out)); (case aF => exact (fun _ _ => trivial)); (case aO => exact (by (with_reducible repeat (first | apply Kd.R_alloc | apply Kd.R_drewN | apply Kd.R_drew)); exact HO_4.out)); (case aS => exact (below_size (bBl HB.out))); (case aL => have := LMc38.out; omega); intro v250 w43 ho hb hg hat; rw [← Ny249.out] at ho; replace BK238 := Sd.mk (blk_grown (bkA BK238.out) hg (Kd.R_ne HO_4.out BK238.out (by decide))); replace HB := Sd.mk (hb); have HO251 := Sd.mk (ho); clear HO_4; clear ho hb hg hat))
               replace HO251 := Sd.mk (Kd.R_drew HO251.out); replace BK238 := Sd.mk (blk_drew BK238.out); replace HB := Sd.mk (below_drew1 HB.out)
               have p252 : 0 ≤ (x5_2 : Int) := tB
               have q252 : x5_2 < (l0_1.length : Int) := tB
               obtain ⟨ad252, A252_6, c252_6, e252, hx252_0, hx252_1, hx252_2, hx252_3, hx252_4, hx252_5, hx252_6, hl252_6, hi252_6⟩ := at_T70 HR0_1.out x5_2 p252 q252; have hw252_6 := hx252_6; have hw252_5 := hx252_5; have hw252_4 := hx252_4; have hw252_3 := hx252_3; have hw252_2 := hx252_2; have hw252_1 := hx252_1; have hw252_0 := hx252_0
               obtain rfl : ad244 = ad252 := (by injection e252)
               replace hx252_0 := cU HB hx252_0; replace hx252_1 := cU HB hx252_1; replace hx252_2 := cU HB hx252_2; replace hx252_3 := cU HB hx252_3; replace hx252_4 := cU HB hx252_4; replace hx252_5 := cU HB hx252_5; replace hx252_6 := cU HB hx252_6; have HR252_6 := Sd.mk hi252_6; have HC252_6 := Sd.mk hl252_6; clear hi252_6 hl252_6; replace p252 := eq_true p252; replace q252 := eq_true q252
               refine start_ (n := 8) (S := fun w' => w'.cell? ⟨gb238, 0, none⟩ = some (.slice A0_0 l0_0.length c0_0) ∧ w'.cell? ⟨gb238, 1, none⟩ = some (.slice (some ad244) l0_1.length c0_1) ∧ w'.cell? ⟨gb238, 2, none⟩ = some (.slice A0_2 l0_2.length c0_2) ∧ w'.cell? ⟨gb238, 3, none⟩ = some (.slice A0_3 l0_3.length c0_3) ∧ w'.cell? ⟨gb238, 4, none⟩ = some (.int .i64 a0_4) ∧ w'.cell? ⟨gb238, 5, none⟩ = some (.int .i64 a0_5) ∧ w'.cell? ⟨gb238, 6, none⟩ = some (.int .i64 a0_6) ∧ w'.cell? (ad244.add ((x5_2).toNat * 7)) = some (.string ((rd_T70 l0_1 x5_2).f0)) ∧ w'.cell? ⟨(ad244.add ((x5_2).toNat * 7)).block, (ad244.add ((x5_2).toNat * 7)).off + 1, none⟩ = some (.int .i64 ((rd_T70 l0_1 x5_2).f1)) ∧ w'.cell? ⟨(ad244.add ((x5_2).toNat * 7)).block, (ad244.add ((x5_2).toNat * 7)).off + 2, none⟩ = some (.int .i64 ((rd_T70 l0_1 x5_2).f2)) ∧ w'.cell? ⟨(ad244.add ((x5_2).toNat * 7)).block, (ad244.add ((x5_2).toNat * 7)).off + 3, none⟩ = some (.int .i64 ((rd_T70 l0_1 x5_2).f3)) ∧ w'.cell? ⟨(ad244.add ((x5_2).toNat * 7)).block, (ad244.add ((x5_2).toNat * 7)).off + 4, none⟩ = some (.int .i64 ((rd_T70 l0_1 x5_2).f4)) ∧ w'.cell? ⟨(ad244.add ((x5_2).toNat * 7)).block, (ad244.add ((x5_2).toNat * 7)).off + 5, none⟩ = some (.int .i64 ((rd_T70 l0_1 x5_2).f5)) ∧ w'.cell? ⟨(ad244.add ((x5_2).toNat * 7)).block, (ad244.add ((x5_2).toNat * 7)).off + 6, none⟩ = some (.slice A252_6 ((rd_T70 l0_1 x5_2).f6).length c252_6)) (ds := []) (bA 8 0) (by kernel_rfl) rfl rfl ⟨(blk_cell BK238.out 0).trans rfl, (blk_cell BK238.out 1).trans rfl, (blk_cell BK238.out 2).trans rfl, (blk_cell BK238.out 3).trans rfl, (blk_cell BK238.out 4).trans rfl, (blk_cell BK238.out 5).trans rfl, (blk_cell BK238.out 6).trans rfl, (cU HB hw252_0 :), (cU HB hw252_1 :), (cU HB hw252_2 :), (cU HB hw252_3 :), (cU HB hw252_4 :), (cU HB hw252_5 :), (cU HB hw252_6 :)⟩ (fun hHeld => ?_); refine with_tabW rf_Check.tab25 rf_Check.bits25 (fun HT_ HW_ => ?_)
               generalize w43.drew = w44 at HO251 BK238 HB HR252_6 hx252_0 hx252_1 hx252_2 hx252_3 hx252_4 hx252_5 hx252_6 hHeld ⊢
               refine pQ 1 (some 83) (bA 8 2) ?_
               refine pQ 3 (some 85) (bA 8 10) ?_
               refine tQ 0 (some 82) (bA 8 11) ?_
               refine tQ 2 (some 84) (bA 8 15) ?_
               refine pQ 4 (some 86) (bA 8 31) ?_
               refine tQ 5 (some 87) (bA 8 63) ?_
               refine one_ (i := 6) (N := some 88) (bA 8 127) rfl rfl (one_of HT_.out (by kernel_rfl)) (by decide) (fun K hK => ?_)
               refine goes_ Tryz.func172 (by kernel_rfl) rfl #[.agg #[.slice A0_0 l0_0.length c0_0, .slice (some ad244) l0_1.length c0_1, .slice A0_2 l0_2.length c0_2, .slice A0_3 l0_3.length c0_3, .int .i64 a0_4, .int .i64 a0_5, .int .i64 a0_6], .agg #[.string ((rd_T70 l0_1 x5_2).f0), .int .i64 ((rd_T70 l0_1 x5_2).f1), .int .i64 ((rd_T70 l0_1 x5_2).f2), .int .i64 ((rd_T70 l0_1 x5_2).f3), .int .i64 ((rd_T70 l0_1 x5_2).f4), .int .i64 ((rd_T70 l0_1 x5_2).f5), .slice A252_6 ((rd_T70 l0_1 x5_2).f6).length c252_6]] (by rfl) rfl rfl tM ?_
               with_reducible refine (rf_material.calls k2 _ _ l0_0 _ _ l0_1 _ _ l0_2 _ _ l0_3 a0_4 a0_5 a0_6 ((rd_T70 l0_1 x5_2).f0) ((rd_T70 l0_1 x5_2).f1) ((rd_T70 l0_1 x5_2).f2) ((rd_T70 l0_1 x5_2).f3) ((rd_T70 l0_1 x5_2).f4) ((rd_T70 l0_1 x5_2).f5) _ _ ((rd_T70 l0_1 x5_2).f6) t253 _ ?side1 ?side2 ?side3 ?side4 ?side5 ?side6 ?side7 ?side8 ?side9 ?side10 A39.out).mono ?_
               (case side1 => exact cS (Kd.C_below HR0_0.out HB.out))
               (case side2 => exact HC0_0.out)
               (case side3 => exact cS (Kd.C_below HR0_1.out HB.out))
               (case side4 => exact HC0_1.out)
               (case side5 => exact cS (Kd.C_below HR0_2.out HB.out))
               (case side6 => exact HC0_2.out)
               (case side7 => exact cS (Kd.C_below HR0_3.out HB.out))
               (case side8 => exact HC0_3.out)
               (case side9 => exact cS (Kd.C_below HR252_6.out HB.out))
               (case side10 => exact HC252_6.out)
               rintro e w45 ⟨rfl, hb⟩
               refine ⟨_, rfl, ?_⟩
               replace HO251 := Sd.mk (Kd.R_below (by (with_reducible repeat (first | apply Kd.R_alloc | apply Kd.R_drewN | apply Kd.R_drew)); exact HO251.out) hb)
               replace BK238 := Sd.mk (blk_below (bkA BK238.out) hb); replace HB := Sd.mk (below_step (bBl HB.out) hb)
               (try clear hb)
               (try clear hb2)
               (try clear hk)
               (try clear hi)
               refine hK.out _ _ ⟨(blk_cell BK238.out 0).trans rfl, (blk_cell BK238.out 1).trans rfl, (blk_cell BK238.out 2).trans rfl, (blk_cell BK238.out 3).trans rfl, (blk_cell BK238.out 4).trans rfl, (blk_cell BK238.out 5).trans rfl, (blk_cell BK238.out 6).trans rfl, (cU HB hw252_0 :), (cU HB hw252_1 :), (cU HB hw252_2 :), (cU HB hw252_3 :), (cU HB hw252_4 :), (cU HB hw252_5 :), (cU HB hw252_6 :)⟩ (fun hHeld => ?_)
               clear hK K
               refine norm_ (a' := ?_) ?_ ?_
               rotate_left
               ·show Act.put _ (some 88) _ = _
                exact tP
               refine pQ 7 (some 6) (bA 8 255) ?_
               refine done_ (done_of HT_.out (by kernel_rfl)) ?_
               have H := H'.out; clear H'
               by_cases c40 : t253 = 0
               ·rw [if_pos c40] at H
                have c40b0 : (t253 == 0) = true := beq_iff_eq.mpr c40
                have c40b1 : (t253 != 0) = false := bne_eq_false_iff_eq.mpr c40
                clear c40; have H' := Sd.mk H; clear H
                try go_wp2
                go_roundg k2
                case measure => have := HK1.out; have := HK2.out; omega
                case rel => exact ⟨(y249), (wrap64 (x5_2 + 1)), tS, H', ⟨by have := HK1.out; have := HK2.out; omega⟩, ⟨by (with_reducible repeat (first | apply Kd.R_alloc | apply Kd.R_drewN | apply Kd.R_drew)); exact HO251.out⟩, ⟨bkA BK238.out⟩, ⟨bBl HB.out⟩⟩
               ·rw [if_neg c40] at H
                have c40b0 : (t253 == 0) = false := beq_eq_false_iff_ne.mpr c40
                have c40b1 : (t253 != 0) = true := bne_iff_ne.mpr c40
                obtain rfl := Option.some.inj H
                try go_wp2
                go_ret
                exact ⟨tE, bBl HB.out⟩
              ·rw [if_neg c38] at H
               exact absurd H (by simp)
            ·replace c33 := Bool.eq_false_iff.mpr c33
             subst c33
             have H1 : (some 5) = some r := by rw [if_neg (show ¬ (false = true) by decide)] at H; exact H
             clear H; have H := H1; clear H1; obtain rfl := Option.some.inj H; obtain ⟨u51_0, u51_1, u51_2, u51_3, u51_4, u51_5, u51_6, o51_0, o51_1, o51_2, o51_3, o51_4, o51_5, o51_6⟩ := bc7 (w := wr) BK238.out
             have p244 : 0 ≤ (x5_2 : Int) := tB
             have q244 : x5_2 < (l0_1.length : Int) := tB
             obtain ⟨ad244, A244_6, c244_6, e244, hx244_0, hx244_1, hx244_2, hx244_3, hx244_4, hx244_5, hx244_6, hl244_6, hi244_6⟩ := at_T70 HR0_1.out x5_2 p244 q244; cases e244; replace hx244_0 := cU HB hx244_0; replace hx244_1 := cU HB hx244_1; replace hx244_2 := cU HB hx244_2; replace hx244_3 := cU HB hx244_3; replace hx244_4 := cU HB hx244_4; replace hx244_5 := cU HB hx244_5; replace hx244_6 := cU HB hx244_6; have HR244_6 := Sd.mk hi244_6; have HC244_6 := Sd.mk hl244_6; clear hi244_6 hl244_6; replace p244 := eq_true p244; replace q244 := eq_true q244
             go_wp2_with (first | ((with_reducible refine gate_callee (f := 170) rfl ?_); refine goesL_ (some 63) rfl rfl Tryz.func170 (by kernel_rfl) rfl #[.string ((rd_T70 l0_1 x5_2).f0)] rfl tM ?_; (with_reducible refine (rf_Name.calls k2 ((rd_T70 l0_1 x5_2).f0) false _ A32.out).mono ?_); rintro e w' ⟨rfl, ⟨nd, rfl⟩⟩; refine ⟨_, rfl, ?_⟩))
             go_ret
             exact ⟨tE, bBl HB.out⟩
           ·rw [if_neg c31] at H
            exact absurd H (by simp)
          ·rw [if_neg c30] at H
           have c30b0 : decide (x5_2 < (l0_1.length : Int)) = false := decide_eq_false c30
           clear c30
           by_cases c52 : (l0_2.length : Int) = (l0_0.length : Int)
           ·rw [if_pos c52] at H
            have c52b0 : ((l0_2.length : Int) == (l0_0.length : Int)) = true := beq_iff_eq.mpr c52
            have c52b1 : ((l0_2.length : Int) != (l0_0.length : Int)) = false := bne_eq_false_iff_eq.mpr c52
            have c52b2 : (l0_2.length == l0_0.length) = true := by first | simpa using c52 | (simp at c52 ⊢; omega)
            clear c52; have H' := Sd.mk H; clear H; obtain ⟨u53_0, u53_1, u53_2, u53_3, u53_4, u53_5, u53_6, o53_0, o53_1, o53_2, o53_3, o53_4, o53_5, o53_6⟩ := bc7 (w := wr) BK238.out
            go_wp2
            go_loopg [7] k2 (fun kq v7 w' => ∃ (x7_3 : Int), v7 = .int .i64 x7_3 ∧ Sd (rf_Check.l2 kq x7_3 l0_0 l0_1 l0_2 l0_3 a0_4 a0_5 a0_6 = some r) ∧ Sd (kq ≤ k2) ∧ Sd (w'.heap[gb238]? = some (.cells #[(.slice A0_0 l0_0.length c0_0), (.slice A0_1 l0_1.length c0_1), (.slice A0_2 l0_2.length c0_2), (.slice A0_3 l0_3.length c0_3), .int .i64 a0_4, .int .i64 a0_5, .int .i64 a0_6] 29 (0, 0))) ∧ Sd (Below w.heap.size w w'))
            case atStart => exact ⟨(0), tS, H', ⟨Nat.le_refl _⟩, ⟨bkA BK238.out⟩, ⟨bBl HB.out⟩⟩
            case round =>
             clear H'; (try clear c1); (try clear c2); (try clear p2 p2); (try clear q2); (try clear hx2); (try clear c3); (try clear c4); (try clear c5); (try clear p6); (try clear c17); (try clear p23); (try clear q23); (try clear hx23); (try clear c24); (try clear p24); (try clear q24); (try clear hx24); (try clear c25); (try clear p25); (try clear q25); (try clear hx25); (try clear c30); (try clear c30b0); (try clear c31); (try clear c31b0); (try clear c33); (try clear c35); (try clear c38); (try clear c40); (try clear c40b0); (try clear c40b1); (try clear c52); (try clear c52b0); (try clear c52b1); (try clear c52b2); (try clear u28_5 u28_6); (try clear u29_0 u29_1 u29_2 u29_3 u29_4 u29_5 u29_6); (try clear u36_0 u36_1 u36_2 u36_3 u36_4 u36_5 u36_6); (try clear u41_0 u41_1 u41_2 u41_3 u41_4 u41_5 u41_6); (try clear u46_0 u46_1 u46_2 u46_3 u46_4 u46_5 u46_6); (try clear u4_0 u4_1 u4_2 u4_3 u4_4 u4_5 u4_6); (try clear u51_0 u51_1 u51_2 u51_3 u51_4 u51_5 u51_6); (try clear u53_0 u53_1 u53_2 u53_3 u53_4 u53_5 u53_6); (try clear u7_0 u7_1 u7_2 u7_3 u7_4 u7_5 u7_6); (try clear u9_0 u9_1 u9_2 u9_3 u9_4 u9_5 u9_6); (try clear o18_0 o18_1 o18_2 o18_3 o18_4 o18_5 o18_6); (try clear o21_0 o21_1 o21_2 o21_3 o21_4 o21_5 o21_6); (try clear o24_0 o24_1 o24_2 o24_3 o24_4 o24_5 o24_6); (try clear o26_0 o26_1 o26_2 o26_3 o26_4 o26_5 o26_6); (try clear o28_0 o28_1 o28_2 o28_3 o28_4 o28_5 o28_6); (try clear o29_0 o29_1 o29_2 o29_3 o29_4 o29_5 o29_6); (try clear o36_0 o36_1 o36_2 o36_3 o36_4 o36_5 o36_6); (try clear o41_0 o41_1 o41_2 o41_3 o41_4 o41_5 o41_6); (try clear o46_0 o46_1 o46_2 o46_3 o46_4 o46_5 o46_6); (try clear o4_0 o4_1 o4_2 o4_3 o4_4 o4_5 o4_6); (try clear o51_0 o51_1 o51_2 o51_3 o51_4 o51_5 o51_6); (try clear o53_0 o53_1 o53_2 o53_3 o53_4 o53_5 o53_6); (try clear o7_0 o7_1 o7_2 o7_3 o7_4 o7_5 o7_6); (try clear o9_0 o9_1 o9_2 o9_3 o9_4 o9_5 o9_6); (try clear hx239_0); (try clear hx242_0); (try clear hx244_0); (try clear hx244_1); (try clear hx244_2); (try clear hx244_3); (try clear hx244_4); (try clear hx244_5); (try clear hx244_6); (try clear hx246_0); (try clear hx246_1); (try clear hx246_2); (try clear hx246_3); (try clear hx246_4); (try clear hx246_5); (try clear hx246_6); (try clear hx248_0); (try clear hx248_1); (try clear hx248_2); (try clear hx248_3); (try clear hx248_4); (try clear hx248_5); (try clear hx248_6); (try clear hx252_0); (try clear hx252_1); (try clear hx252_2); (try clear hx252_3); (try clear hx252_4); (try clear hx252_5); (try clear hx252_6); (try clear p239); (try clear p242); (try clear p244); (try clear p246); (try clear p248); (try clear p252); (try clear q239); (try clear q242); (try clear q244); (try clear q246); (try clear q248); (try clear q252); obtain ⟨x7_3, rfl, HA, HK3, BK238, HB⟩ := hrel
             cases gk with
             | zero => exact absurd HA.out (by simp [rf_Check.l2])
             | succ k3 =>
              have H := HA.out; clear HA
              simp only [rf_Check.l2] at H
              by_cases c54 : x7_3 < (l0_2.length : Int)
              ·rw [if_pos c54] at H
               have c54b0 : decide (x7_3 < (l0_2.length : Int)) = true := decide_eq_true c54
               clear c54
               by_cases c55 : 0 ≤ x7_3
               ·rw [if_pos c55] at H
                have c55b0 : decide (0 ≤ x7_3) = true := decide_eq_true c55
                clear c55; replace H := Option.bind_eq_some_iff.mp H; obtain ⟨t255, A560, H⟩ := H
                try dsimp only at H
                have A56 := Sd.mk A560; clear A560
                by_cases c57 : t255 = true
                ·subst c57
                 have H1 : (rf_Check.l2 k3 (wrap64 (x7_3 + 1)) l0_0 l0_1 l0_2 l0_3 a0_4 a0_5 a0_6) = some r := by rw [if_pos rfl] at H; exact H
                 clear H; have H := H1; clear H1; have H' := Sd.mk H; clear H; obtain ⟨u58_0, u58_1, u58_2, u58_3, u58_4, u58_5, u58_6, o58_0, o58_1, o58_2, o58_3, o58_4, o58_5, o58_6⟩ := bc7 (w := wr) BK238.out
                 have p254 : 0 ≤ (x7_3 : Int) := tB
                 have q254 : x7_3 < (l0_2.length : Int) := tB
                 obtain ⟨ad254, e254, hx254_0, hx254_1⟩ := at_T27 HR0_2.out x7_3 p254 q254; cases e254; replace hx254_0 := cU HB hx254_0; replace hx254_1 := cU HB hx254_1; replace p254 := eq_true p254; replace q254 := eq_true q254
                 go_wp2_with (first | ((with_reducible refine gate_callee (f := 173) rfl ?_); refine goesL_ (some 111) rfl rfl Tryz.func173 (by kernel_rfl) rfl #[.agg #[.int .i64 ((rd_T27 l0_2 x7_3).f0), .int .i64 ((rd_T27 l0_2 x7_3).f1)], .int .i64 0, .int .i64 1000] rfl tM ?_; (with_reducible refine (rf_within.calls ((rd_T27 l0_2 x7_3).f0) ((rd_T27 l0_2 x7_3).f1) 0 1000 true _ A56.out).mono ?_); rintro e w59 ⟨rfl, hb⟩; refine ⟨_, rfl, ?_⟩; replace BK238 := Sd.mk (blk_below (bkA BK238.out) hb); replace HB := Sd.mk (below_step (bBl HB.out) hb); (try clear hb); (try clear hb2); (try clear hk); (try clear hi)))
                 go_roundg k3
                 case measure => have := HK1.out; have := HK2.out; have := HK3.out; omega
                 case rel => exact ⟨(wrap64 (x7_3 + 1)), tS, H', ⟨by have := HK1.out; have := HK2.out; have := HK3.out; omega⟩, ⟨bkA BK238.out⟩, ⟨bBl HB.out⟩⟩
                ·replace c57 := Bool.eq_false_iff.mpr c57
                 subst c57
                 have H1 : (some 1) = some r := by rw [if_neg (show ¬ (false = true) by decide)] at H; exact H
                 clear H; have H := H1; clear H1; obtain rfl := Option.some.inj H; obtain ⟨u60_0, u60_1, u60_2, u60_3, u60_4, u60_5, u60_6, o60_0, o60_1, o60_2, o60_3, o60_4, o60_5, o60_6⟩ := bc7 (w := wr) BK238.out
                 have p254 : 0 ≤ (x7_3 : Int) := tB
                 have q254 : x7_3 < (l0_2.length : Int) := tB
                 obtain ⟨ad254, e254, hx254_0, hx254_1⟩ := at_T27 HR0_2.out x7_3 p254 q254; cases e254; replace hx254_0 := cU HB hx254_0; replace hx254_1 := cU HB hx254_1; replace p254 := eq_true p254; replace q254 := eq_true q254
                 go_wp2_with (first | ((with_reducible refine gate_callee (f := 173) rfl ?_); refine goesL_ (some 111) rfl rfl Tryz.func173 (by kernel_rfl) rfl #[.agg #[.int .i64 ((rd_T27 l0_2 x7_3).f0), .int .i64 ((rd_T27 l0_2 x7_3).f1)], .int .i64 0, .int .i64 1000] rfl tM ?_; (with_reducible refine (rf_within.calls ((rd_T27 l0_2 x7_3).f0) ((rd_T27 l0_2 x7_3).f1) 0 1000 false _ A56.out).mono ?_); rintro e w61 ⟨rfl, hb⟩; refine ⟨_, rfl, ?_⟩; replace BK238 := Sd.mk (blk_below (bkA BK238.out) hb); replace HB := Sd.mk (below_step (bBl HB.out) hb); (try clear hb); (try clear hb2); (try clear hk); (try clear hi)))
                 go_ret
                 exact ⟨tE, bBl HB.out⟩
               ·rw [if_neg c55] at H
                exact absurd H (by simp)
              ·rw [if_neg c54] at H
               have c54b0 : decide (x7_3 < (l0_2.length : Int)) = false := decide_eq_false c54
               clear c54
               by_cases c62 : (l0_3.length : Int) > 6
               ·rw [if_pos c62] at H
                have c62b0 : decide (6 < (l0_3.length : Int)) = true := decide_eq_true c62
                have c62b1 : decide (6 < l0_3.length) = true := decide_eq_true (by omega)
                clear c62; obtain rfl := Option.some.inj H; obtain ⟨u63_0, u63_1, u63_2, u63_3, u63_4, u63_5, u63_6, o63_0, o63_1, o63_2, o63_3, o63_4, o63_5, o63_6⟩ := bc7 (w := wr) BK238.out
                go_wp2
                go_ret
                exact ⟨tE, bBl HB.out⟩
               ·rw [if_neg c62] at H
                have c62b0 : decide (6 < (l0_3.length : Int)) = false := decide_eq_false c62
                have c62b1 : decide (6 < l0_3.length) = false := decide_eq_false (by omega)
                clear c62; have H' := Sd.mk H; clear H; obtain ⟨u64_0, u64_1, u64_2, u64_3, u64_4, u64_5, u64_6, o64_0, o64_1, o64_2, o64_3, o64_4, o64_5, o64_6⟩ := bc7 (w := wr) BK238.out
                go_wp2
                go_loopg [4, 8] k3 (fun kq v4 v8 w' => ∃ (x4_4 : List ByteArray) (x8_4 : Int), v8 = .int .i64 x8_4 ∧ Sd (rf_Check.l3 kq x4_4 x8_4 l0_0 l0_1 l0_2 l0_3 a0_4 a0_5 a0_6 = some r) ∧ Sd (kq ≤ k3) ∧ Sd (Kd.R Kd.string 9 w' w.heap.size (fun _ => True) v4 x4_4) ∧ Sd (w'.heap[gb238]? = some (.cells #[(.slice A0_0 l0_0.length c0_0), (.slice A0_1 l0_1.length c0_1), (.slice A0_2 l0_2.length c0_2), (.slice A0_3 l0_3.length c0_3), .int .i64 a0_4, .int .i64 a0_5, .int .i64 a0_6] 29 (0, 0))) ∧ Sd (Below w.heap.size w w'))
                case atStart => exact ⟨(([] : List ByteArray)), (0), tS, H', ⟨Nat.le_refl _⟩, ⟨by first | exact Kd.R_nil _ _ _ _ _ | exact Kd.N_nil _ _ _ _ _ | exact Kd.V_nil _ _ _ _ _ | exact Kd.Q_nil _ _ _ _ _ | exact Kd.S_nil _ _ _ _ _⟩, ⟨bkA BK238.out⟩, ⟨bBl HB.out⟩⟩
                case round =>
                 clear H'; (try clear c1); (try clear c2); (try clear p2 p2); (try clear q2 q2); (try clear hx2); (try clear c3); (try clear c4); (try clear c5); (try clear c6); (try clear p6 p6); (try clear c17); (try clear p23 p23); (try clear q23 q23); (try clear hx23); (try clear c24); (try clear p24 p24); (try clear q24 q24); (try clear hx24); (try clear c25); (try clear p25 p25); (try clear q25 q25); (try clear hx25); (try clear c30); (try clear c30b0); (try clear c31); (try clear c31b0); (try clear c33); (try clear c35); (try clear c38); (try clear c40); (try clear c40b0); (try clear c40b1); (try clear c52); (try clear c52b0); (try clear c52b1); (try clear c52b2); (try clear c54); (try clear c54b0); (try clear c55); (try clear c55b0); (try clear c57); (try clear c62); (try clear c62b0); (try clear c62b1); (try clear p64); (try clear u28_5 u28_6); (try clear u29_0 u29_1 u29_2 u29_3 u29_4 u29_5 u29_6); (try clear u36_0 u36_1 u36_2 u36_3 u36_4 u36_5 u36_6); (try clear u41_0 u41_1 u41_2 u41_3 u41_4 u41_5 u41_6); (try clear u46_0 u46_1 u46_2 u46_3 u46_4 u46_5 u46_6); (try clear u4_0 u4_1 u4_2 u4_3 u4_4 u4_5 u4_6); (try clear u51_0 u51_1 u51_2 u51_3 u51_4 u51_5 u51_6); (try clear u53_0 u53_1 u53_2 u53_3 u53_4 u53_5 u53_6); (try clear u58_0 u58_1 u58_2 u58_3 u58_4 u58_5 u58_6); (try clear u60_0 u60_1 u60_2 u60_3 u60_4 u60_5 u60_6); (try clear u63_0 u63_1 u63_2 u63_3 u63_4 u63_5 u63_6); (try clear u64_0 u64_1 u64_2 u64_3 u64_4 u64_5 u64_6); (try clear u7_0 u7_1 u7_2 u7_3 u7_4 u7_5 u7_6); (try clear u9_0 u9_1 u9_2 u9_3 u9_4 u9_5 u9_6); (try clear o18_0 o18_1 o18_2 o18_3 o18_4 o18_5 o18_6); (try clear o21_0 o21_1 o21_2 o21_3 o21_4 o21_5 o21_6); (try clear o24_0 o24_1 o24_2 o24_3 o24_4 o24_5 o24_6); (try clear o26_0 o26_1 o26_2 o26_3 o26_4 o26_5 o26_6); (try clear o28_0 o28_1 o28_2 o28_3 o28_4 o28_5 o28_6); (try clear o29_0 o29_1 o29_2 o29_3 o29_4 o29_5 o29_6); (try clear o36_0 o36_1 o36_2 o36_3 o36_4 o36_5 o36_6); (try clear o41_0 o41_1 o41_2 o41_3 o41_4 o41_5 o41_6); (try clear o46_0 o46_1 o46_2 o46_3 o46_4 o46_5 o46_6); (try clear o4_0 o4_1 o4_2 o4_3 o4_4 o4_5 o4_6); (try clear o51_0 o51_1 o51_2 o51_3 o51_4 o51_5 o51_6); (try clear o53_0 o53_1 o53_2 o53_3 o53_4 o53_5 o53_6); (try clear o58_0 o58_1 o58_2 o58_3 o58_4 o58_5 o58_6); (try clear o60_0 o60_1 o60_2 o60_3 o60_4 o60_5 o60_6); (try clear o63_0 o63_1 o63_2 o63_3 o63_4 o63_5 o63_6); (try clear o64_0 o64_1 o64_2 o64_3 o64_4 o64_5 o64_6); (try clear o7_0 o7_1 o7_2 o7_3 o7_4 o7_5 o7_6); (try clear o9_0 o9_1 o9_2 o9_3 o9_4 o9_5 o9_6); (try clear hx239_0); (try clear hx242_0); (try clear hx244_0); (try clear hx244_1); (try clear hx244_2); (try clear hx244_3); (try clear hx244_4); (try clear hx244_5); (try clear hx244_6); (try clear hx246_0); (try clear hx246_1); (try clear hx246_2); (try clear hx246_3); (try clear hx246_4); (try clear hx246_5); (try clear hx246_6); (try clear hx248_0); (try clear hx248_1); (try clear hx248_2); (try clear hx248_3); (try clear hx248_4); (try clear hx248_5); (try clear hx248_6); (try clear hx252_0); (try clear hx252_1); (try clear hx252_2); (try clear hx252_3); (try clear hx252_4); (try clear hx252_5); (try clear hx252_6); (try clear hx254_0); (try clear hx254_1); (try clear p239); (try clear p242); (try clear p244); (try clear p246); (try clear p248); (try clear p252); (try clear p254); (try clear q239); (try clear q242); (try clear q244); (try clear q246); (try clear q248); (try clear q252); (try clear q254); obtain ⟨x4_4, x8_4, rfl, HA, HK4, HO_4, BK238, HB⟩ := hrel
                 cases gk with
                 | zero => exact absurd HA.out (by simp [rf_Check.l3])
                 | succ k4 =>
                  have H := HA.out; clear HA
                  simp only [rf_Check.l3] at H
                  by_cases c65 : x8_4 < (l0_3.length : Int)
                  ·rw [if_pos c65] at H
                   have c65b0 : decide (x8_4 < (l0_3.length : Int)) = true := decide_eq_true c65
                   clear c65
                   by_cases c66 : 0 ≤ x8_4
                   ·rw [if_pos c66] at H
                    have c66b0 : decide (0 ≤ x8_4) = true := decide_eq_true c66
                    clear c66; replace H := Option.bind_eq_some_iff.mp H; obtain ⟨t258, A670, H⟩ := H
                    try dsimp only at H
                    have A67 := Sd.mk A670; clear A670
                    by_cases c68 : t258 = true
                    ·subst c68
                     have H1 : ((rf_in.f k4 x4_4 ((rd_T89 l0_3 x8_4).f0)).bind fun t260 => (if t260 = true then (some 6) else (if x4_4.length < 8796093022208 then ((rf_property.f k4 l0_0 l0_1 l0_2 l0_3 a0_4 a0_5 a0_6 ((rd_T89 l0_3 x8_4).f0) ((rd_T89 l0_3 x8_4).f1) ((rd_T89 l0_3 x8_4).f2.f0) ((rd_T89 l0_3 x8_4).f2.f1)).bind fun t266 => (if t266 = 0 then (rf_Check.l3 k4 (x4_4 ++ [(rd_T89 l0_3 x8_4).f0]) (wrap64 (x8_4 + 1)) l0_0 l0_1 l0_2 l0_3 a0_4 a0_5 a0_6) else (some t266))) else (none)))) = some r := by rw [if_pos rfl] at H; exact H
                     clear H; have H := H1; clear H1; replace H := Option.bind_eq_some_iff.mp H; obtain ⟨t260, A690, H⟩ := H
                     try dsimp only at H
                     have A69 := Sd.mk A690; clear A690
                     by_cases c70 : t260 = true
                     ·subst c70
                      have H1 : (some 6) = some r := by rw [if_pos rfl] at H; exact H
                      clear H; have H := H1; clear H1; obtain rfl := Option.some.inj H; obtain ⟨u71_0, u71_1, u71_2, u71_3, u71_4, u71_5, u71_6, o71_0, o71_1, o71_2, o71_3, o71_4, o71_5, o71_6⟩ := bc7 (w := wr) BK238.out
                      have p257 : 0 ≤ (x8_4 : Int) := tB
                      have q257 : x8_4 < (l0_3.length : Int) := tB
                      obtain ⟨ad257, A257_1, c257_1, e257, hx257_0, hx257_1, hx257_2, hx257_3, hl257_1, hi257_1⟩ := at_T89 HR0_3.out x8_4 p257 q257; cases e257; replace hx257_0 := cU HB hx257_0; replace hx257_1 := cU HB hx257_1; replace hx257_2 := cU HB hx257_2; replace hx257_3 := cU HB hx257_3; have HR257_1 := Sd.mk hi257_1; have HC257_1 := Sd.mk hl257_1; clear hi257_1 hl257_1; replace p257 := eq_true p257; replace q257 := eq_true q257
                      go_wp2_with (first | ((with_reducible refine gate_callee (f := 170) rfl ?_); refine goesL_ (some 130) rfl rfl Tryz.func170 (by kernel_rfl) rfl #[.string ((rd_T89 l0_3 x8_4).f0)] rfl tM ?_; (with_reducible refine (rf_Name.calls k4 ((rd_T89 l0_3 x8_4).f0) true _ A67.out).mono ?_); rintro e w' ⟨rfl, ⟨nd, rfl⟩⟩; refine ⟨_, rfl, ?_⟩; have p259 : 0 ≤ (x8_4 : Int) := tB; have q259 : x8_4 < (l0_3.length : Int) := tB; obtain ⟨ad259, A259_1, c259_1, e259, hx259_0, hx259_1, hx259_2, hx259_3, hl259_1, hi259_1⟩ := at_T89 HR0_3.out x8_4 p259 q259; obtain rfl : ad257 = ad259 := (by injection e259); replace hx259_0 := cU HB hx259_0; replace hx259_1 := cU HB hx259_1; replace hx259_2 := cU HB hx259_2; replace hx259_3 := cU HB hx259_3; have HR259_1 := Sd.mk hi259_1; have HC259_1 := Sd.mk hl259_1; clear hi259_1 hl259_1; replace p259 := eq_true p259; replace q259 := eq_true q259; have ea_ := Option.some.inj (hx257_1.symm.trans hx259_1); injection ea_ with ea_ en_ ec_; subst ea_; subst ec_; clear en_; obtain ⟨Ao72, co72, eo72⟩ := Kd.R_slice HO_4.out; subst eo72) | ((with_reducible refine gate_callee (f := 171) rfl ?_); refine goesL_ (some 139) rfl rfl Tryz.func171 (by kernel_rfl) rfl #[.slice Ao72 x4_4.length co72, .string ((rd_T89 l0_3 x8_4).f0)] rfl tM ?_; (with_reducible refine (rf_in.calls k4 _ _ x4_4 ((rd_T89 l0_3 x8_4).f0) true _ (cS ((Kd.R_reads' HO_4.out).2.2)) ((Kd.R_reads' HO_4.out).2.1) A69.out).mono ?_); rintro e w' ⟨rfl, ⟨nd, rfl⟩⟩; refine ⟨_, rfl, ?_⟩))
                      go_ret
                      exact ⟨tE, bBl HB.out⟩
                     ·replace c70 := Bool.eq_false_iff.mpr c70
                      subst c70
                      have H1 : (if x4_4.length < 8796093022208 then ((rf_property.f k4 l0_0 l0_1 l0_2 l0_3 a0_4 a0_5 a0_6 ((rd_T89 l0_3 x8_4).f0) ((rd_T89 l0_3 x8_4).f1) ((rd_T89 l0_3 x8_4).f2.f0) ((rd_T89 l0_3 x8_4).f2.f1)).bind fun t266 => (if t266 = 0 then (rf_Check.l3 k4 (x4_4 ++ [(rd_T89 l0_3 x8_4).f0]) (wrap64 (x8_4 + 1)) l0_0 l0_1 l0_2 l0_3 a0_4 a0_5 a0_6) else (some t266))) else (none)) = some r := by rw [if_neg (show ¬ (false = true) by decide)] at H; exact H
                      clear H; have H := H1; clear H1
                      by_cases c73 : x4_4.length < 8796093022208
                      ·rw [if_pos c73] at H
                       have LMc73 := Sd.mk c73; clear c73
                       obtain ⟨y262, hy262⟩ : ∃ y_ : List ByteArray, y_ = (x4_4 ++ [(rd_T89 l0_3 x8_4).f0]) := ⟨_, rfl⟩
                       replace H : ((rf_property.f k4 l0_0 l0_1 l0_2 l0_3 a0_4 a0_5 a0_6 ((rd_T89 l0_3 x8_4).f0) ((rd_T89 l0_3 x8_4).f1) ((rd_T89 l0_3 x8_4).f2.f0) ((rd_T89 l0_3 x8_4).f2.f1)).bind fun t266 => (if t266 = 0 then (rf_Check.l3 k4 y262 (wrap64 (x8_4 + 1)) l0_0 l0_1 l0_2 l0_3 a0_4 a0_5 a0_6) else (some t266))) = some r := by first | (rw [hy262]; with_reducible exact H) | (have H2_ := (Option.bind_some _ _).symm.trans H; rw [hy262]; with_reducible exact H2_) | (have H2_ := (Option.bind_some _ _).symm.trans H; with_reducible exact H2_) | with_reducible exact H | (rw [hy262]; exact H) | exact H
                       have Ny262 := Sd.mk hy262; clear hy262; replace H := Option.bind_eq_some_iff.mp H; obtain ⟨t266, A740, H⟩ := H
                       try dsimp only at H
                       have A74 := Sd.mk A740; clear A740
                       have H' := Sd.mk H; clear H; obtain ⟨u76_0, u76_1, u76_2, u76_3, u76_4, u76_5, u76_6, o76_0, o76_1, o76_2, o76_3, o76_4, o76_5, o76_6⟩ := bc7 (w := wr) BK238.out
                       have p257 : 0 ≤ (x8_4 : Int) := tB
                       have q257 : x8_4 < (l0_3.length : Int) := tB
                       obtain ⟨ad257, A257_1, c257_1, e257, hx257_0, hx257_1, hx257_2, hx257_3, hl257_1, hi257_1⟩ := at_T89 HR0_3.out x8_4 p257 q257; cases e257; replace hx257_0 := cU HB hx257_0; replace hx257_1 := cU HB hx257_1; replace hx257_2 := cU HB hx257_2; replace hx257_3 := cU HB hx257_3; have HR257_1 := Sd.mk hi257_1; have HC257_1 := Sd.mk hl257_1; clear hi257_1 hl257_1; replace p257 := eq_true p257; replace q257 := eq_true q257
                       try go_wp2_with (first | ((with_reducible refine gate_callee (f := 170) rfl ?_); refine goesL_ (some 130) rfl rfl Tryz.func170 (by kernel_rfl) rfl #[.string ((rd_T89 l0_3 x8_4).f0)] rfl tM ?_; (with_reducible refine (rf_Name.calls k4 ((rd_T89 l0_3 x8_4).f0) true _ A67.out).mono ?_); rintro e w' ⟨rfl, ⟨nd, rfl⟩⟩; refine ⟨_, rfl, ?_⟩; have p259 : 0 ≤ (x8_4 : Int) := tB; have q259 : x8_4 < (l0_3.length : Int) := tB; obtain ⟨ad259, A259_1, c259_1, e259, hx259_0, hx259_1, hx259_2, hx259_3, hl259_1, hi259_1⟩ := at_T89 HR0_3.out x8_4 p259 q259; obtain rfl : ad257 = ad259 := (by injection e259); replace hx259_0 := cU HB hx259_0; replace hx259_1 := cU HB hx259_1; replace hx259_2 := cU HB hx259_2; replace hx259_3 := cU HB hx259_3; have HR259_1 := Sd.mk hi259_1; have HC259_1 := Sd.mk hl259_1; clear hi259_1 hl259_1; replace p259 := eq_true p259; replace q259 := eq_true q259; have ea_ := Option.some.inj (hx257_1.symm.trans hx259_1); injection ea_ with ea_ en_ ec_; subst ea_; subst ec_; clear en_; obtain ⟨Ao77, co77, eo77⟩ := Kd.R_slice HO_4.out; subst eo77) | ((with_reducible refine gate_callee (f := 171) rfl ?_); refine goesL_ (some 139) rfl rfl Tryz.func171 (by kernel_rfl) rfl #[.slice Ao77 x4_4.length co77, .string ((rd_T89 l0_3 x8_4).f0)] rfl tM ?_; (with_reducible refine (rf_in.calls k4 _ _ x4_4 ((rd_T89 l0_3 x8_4).f0) false _ (cS ((Kd.R_reads' HO_4.out).2.2)) ((Kd.R_reads' HO_4.out).2.1) A69.out).mono ?_); rintro e w' ⟨rfl, ⟨nd, rfl⟩⟩; refine ⟨_, rfl, ?_⟩; have p261 : 0 ≤ (x8_4 : Int) := tB; have q261 : x8_4 < (l0_3.length : Int) := tB; obtain ⟨ad261, A261_1, c261_1, e261, hx261_0, hx261_1, hx261_2, hx261_3, hl261_1, hi261_1⟩ := at_T89 HR0_3.out x8_4 p261 q261; obtain rfl : ad257 = ad261 := (by injection e261); replace hx261_0 := cU HB hx261_0; replace hx261_1 := cU HB hx261_1; replace hx261_2 := cU HB hx261_2; replace hx261_3 := cU HB hx261_3; have HR261_1 := Sd.mk hi261_1; have HC261_1 := Sd.mk hl261_1; clear hi261_1 hl261_1; replace p261 := eq_true p261; replace q261 := eq_true q261; have ea_ := Option.some.inj (hx257_1.symm.trans hx261_1); injection ea_ with ea_ en_ ec_; subst ea_; subst ec_; clear en_) | ((with_reducible refine gate_builtin (b := .append) (xs := #[.tmp 140, .tmp 147]) rfl ?_); at_builtin; refine Kd.R_append Kd.string (w0 := w) w.heap.size rfl (.tmp 140) (.tmp 147) 22 9 (.string ⟨#[]⟩) 16 rfl Tryz.underlying22 info9 rfl (by decide) (by omega) (.slice Ao77 x4_4.length co77) x4_4 ((rd_T89 l0_3 x8_4).f0) [.string ((rd_T89 l0_3 x8_4).f0)] (fun _ => True) (fun _ => False) rfl rfl ?aP (fun _ hk => hk.elim) ?aF ?aO ?aB ?aS ?aL ?_; (case aP => exact rfl); (case aB => exact (bBl HB.out)); (case aF => exact (fun _ _ => trivial)); (case aO => exact (by (with_reducible repeat (first | apply Kd.R_alloc | apply Kd.R_drewN | apply Kd.R_drew)); exact HO_4.out)); (case aS => exact (below_size (bBl HB.out))); (case aL => have := LMc73.out; omega); intro v263 w78 ho hb hg hat; rw [← Ny262.out] at ho; replace BK238 := Sd.mk (blk_grown (bkA BK238.out) hg (Kd.R_ne HO_4.out BK238.out (by decide))); replace HB := Sd.mk (hb); have HO264 := Sd.mk (ho); clear HO_4; clear ho hb hg hat))
                       replace HO264 := Sd.mk (Kd.R_drew HO264.out); replace BK238 := Sd.mk (blk_drew BK238.out); replace HB := Sd.mk (below_drew1 HB.out)
                       have p265 : 0 ≤ (x8_4 : Int) := tB
                       have q265 : x8_4 < (l0_3.length : Int) := tB
                       obtain ⟨ad265, A265_1, c265_1, e265, hx265_0, hx265_1, hx265_2, hx265_3, hl265_1, hi265_1⟩ := at_T89 HR0_3.out x8_4 p265 q265; have hw265_3 := hx265_3; have hw265_2 := hx265_2; have hw265_1 := hx265_1; have hw265_0 := hx265_0
                       obtain rfl : ad257 = ad265 := (by injection e265)
                       replace hx265_0 := cU HB hx265_0; replace hx265_1 := cU HB hx265_1; replace hx265_2 := cU HB hx265_2; replace hx265_3 := cU HB hx265_3; have HR265_1 := Sd.mk hi265_1; have HC265_1 := Sd.mk hl265_1; clear hi265_1 hl265_1; replace p265 := eq_true p265; replace q265 := eq_true q265
                       refine start_ (n := 8) (S := fun w' => w'.cell? ⟨gb238, 0, none⟩ = some (.slice A0_0 l0_0.length c0_0) ∧ w'.cell? ⟨gb238, 1, none⟩ = some (.slice A0_1 l0_1.length c0_1) ∧ w'.cell? ⟨gb238, 2, none⟩ = some (.slice A0_2 l0_2.length c0_2) ∧ w'.cell? ⟨gb238, 3, none⟩ = some (.slice (some ad257) l0_3.length c0_3) ∧ w'.cell? ⟨gb238, 4, none⟩ = some (.int .i64 a0_4) ∧ w'.cell? ⟨gb238, 5, none⟩ = some (.int .i64 a0_5) ∧ w'.cell? ⟨gb238, 6, none⟩ = some (.int .i64 a0_6) ∧ w'.cell? (ad257.add ((x8_4).toNat * 4)) = some (.string ((rd_T89 l0_3 x8_4).f0)) ∧ w'.cell? ⟨(ad257.add ((x8_4).toNat * 4)).block, (ad257.add ((x8_4).toNat * 4)).off + 1, none⟩ = some (.slice A265_1 ((rd_T89 l0_3 x8_4).f1).length c265_1) ∧ w'.cell? ⟨(ad257.add ((x8_4).toNat * 4)).block, (ad257.add ((x8_4).toNat * 4)).off + 2, none⟩ = some (.int .i64 ((rd_T89 l0_3 x8_4).f2.f0)) ∧ w'.cell? ⟨(ad257.add ((x8_4).toNat * 4)).block, (ad257.add ((x8_4).toNat * 4)).off + 3, none⟩ = some (.int .i64 ((rd_T89 l0_3 x8_4).f2.f1))) (ds := []) (bA 8 0) (by kernel_rfl) rfl rfl ⟨(blk_cell BK238.out 0).trans rfl, (blk_cell BK238.out 1).trans rfl, (blk_cell BK238.out 2).trans rfl, (blk_cell BK238.out 3).trans rfl, (blk_cell BK238.out 4).trans rfl, (blk_cell BK238.out 5).trans rfl, (blk_cell BK238.out 6).trans rfl, (cU HB hw265_0 :), (cU HB hw265_1 :), (cU HB hw265_2 :), (cU HB hw265_3 :)⟩ (fun hHeld => ?_); refine with_tabW rf_Check.tab46 rf_Check.bits46 (fun HT_ HW_ => ?_)
                       generalize w78.drew = w79 at HO264 BK238 HB HR265_1 hx265_0 hx265_1 hx265_2 hx265_3 hHeld ⊢
                       refine pQ 1 (some 150) (bA 8 2) ?_
                       refine pQ 3 (some 152) (bA 8 10) ?_
                       refine tQ 0 (some 149) (bA 8 11) ?_
                       refine tQ 2 (some 151) (bA 8 15) ?_
                       refine pQ 4 (some 153) (bA 8 31) ?_
                       refine tQ 5 (some 154) (bA 8 63) ?_
                       refine one_ (i := 6) (N := some 155) (bA 8 127) rfl rfl (one_of HT_.out (by kernel_rfl)) (by decide) (fun K hK => ?_)
                       refine goes_ Tryz.func174 (by kernel_rfl) rfl #[.agg #[.slice A0_0 l0_0.length c0_0, .slice A0_1 l0_1.length c0_1, .slice A0_2 l0_2.length c0_2, .slice (some ad257) l0_3.length c0_3, .int .i64 a0_4, .int .i64 a0_5, .int .i64 a0_6], .agg #[.string ((rd_T89 l0_3 x8_4).f0), .slice A265_1 ((rd_T89 l0_3 x8_4).f1).length c265_1, .int .i64 ((rd_T89 l0_3 x8_4).f2.f0), .int .i64 ((rd_T89 l0_3 x8_4).f2.f1)]] (by rfl) rfl rfl tM ?_
                       with_reducible refine (rf_property.calls k4 _ _ l0_0 _ _ l0_1 _ _ l0_2 _ _ l0_3 a0_4 a0_5 a0_6 ((rd_T89 l0_3 x8_4).f0) _ _ ((rd_T89 l0_3 x8_4).f1) ((rd_T89 l0_3 x8_4).f2.f0) ((rd_T89 l0_3 x8_4).f2.f1) t266 _ ?side1 ?side2 ?side3 ?side4 ?side5 ?side6 ?side7 ?side8 ?side9 ?side10 A74.out).mono ?_
                       (case side1 => exact cS (Kd.C_below HR0_0.out HB.out))
                       (case side2 => exact HC0_0.out)
                       (case side3 => exact cS (Kd.C_below HR0_1.out HB.out))
                       (case side4 => exact HC0_1.out)
                       (case side5 => exact cS (Kd.C_below HR0_2.out HB.out))
                       (case side6 => exact HC0_2.out)
                       (case side7 => exact cS (Kd.C_below HR0_3.out HB.out))
                       (case side8 => exact HC0_3.out)
                       (case side9 => exact cS (Kd.C_below HR265_1.out HB.out))
                       (case side10 => exact HC265_1.out)
                       rintro e w80 ⟨rfl, hb⟩
                       refine ⟨_, rfl, ?_⟩
                       replace HO264 := Sd.mk (Kd.R_below (by (with_reducible repeat (first | apply Kd.R_alloc | apply Kd.R_drewN | apply Kd.R_drew)); exact HO264.out) hb)
                       replace BK238 := Sd.mk (blk_below (bkA BK238.out) hb); replace HB := Sd.mk (below_step (bBl HB.out) hb)
                       (try clear hb)
                       (try clear hb2)
                       (try clear hk)
                       (try clear hi)
                       refine hK.out _ _ ⟨(blk_cell BK238.out 0).trans rfl, (blk_cell BK238.out 1).trans rfl, (blk_cell BK238.out 2).trans rfl, (blk_cell BK238.out 3).trans rfl, (blk_cell BK238.out 4).trans rfl, (blk_cell BK238.out 5).trans rfl, (blk_cell BK238.out 6).trans rfl, (cU HB hw265_0 :), (cU HB hw265_1 :), (cU HB hw265_2 :), (cU HB hw265_3 :)⟩ (fun hHeld => ?_)
                       clear hK K
                       refine norm_ (a' := ?_) ?_ ?_
                       rotate_left
                       ·show Act.put _ (some 155) _ = _
                        exact tP
                       refine pQ 7 (some 9) (bA 8 255) ?_
                       refine done_ (done_of HT_.out (by kernel_rfl)) ?_
                       have H := H'.out; clear H'
                       by_cases c75 : t266 = 0
                       ·rw [if_pos c75] at H
                        have c75b0 : (t266 == 0) = true := beq_iff_eq.mpr c75
                        have c75b1 : (t266 != 0) = false := bne_eq_false_iff_eq.mpr c75
                        clear c75; have H' := Sd.mk H; clear H
                        try go_wp2
                        go_roundg k4
                        case measure => have := HK1.out; have := HK2.out; have := HK3.out; have := HK4.out; omega
                        case rel => exact ⟨(y262), (wrap64 (x8_4 + 1)), tS, H', ⟨by have := HK1.out; have := HK2.out; have := HK3.out; have := HK4.out; omega⟩, ⟨by (with_reducible repeat (first | apply Kd.R_alloc | apply Kd.R_drewN | apply Kd.R_drew)); exact HO264.out⟩, ⟨bkA BK238.out⟩, ⟨bBl HB.out⟩⟩
                       ·rw [if_neg c75] at H
                        have c75b0 : (t266 == 0) = false := beq_eq_false_iff_ne.mpr c75
                        have c75b1 : (t266 != 0) = true := bne_iff_ne.mpr c75
                        obtain rfl := Option.some.inj H
                        try go_wp2
                        go_ret
                        exact ⟨tE, bBl HB.out⟩
                      ·rw [if_neg c73] at H
                       exact absurd H (by simp)
                    ·replace c68 := Bool.eq_false_iff.mpr c68
                     subst c68
                     have H1 : (some 5) = some r := by rw [if_neg (show ¬ (false = true) by decide)] at H; exact H
                     clear H; have H := H1; clear H1; obtain rfl := Option.some.inj H; obtain ⟨u86_0, u86_1, u86_2, u86_3, u86_4, u86_5, u86_6, o86_0, o86_1, o86_2, o86_3, o86_4, o86_5, o86_6⟩ := bc7 (w := wr) BK238.out
                     have p257 : 0 ≤ (x8_4 : Int) := tB
                     have q257 : x8_4 < (l0_3.length : Int) := tB
                     obtain ⟨ad257, A257_1, c257_1, e257, hx257_0, hx257_1, hx257_2, hx257_3, hl257_1, hi257_1⟩ := at_T89 HR0_3.out x8_4 p257 q257; cases e257; replace hx257_0 := cU HB hx257_0; replace hx257_1 := cU HB hx257_1; replace hx257_2 := cU HB hx257_2; replace hx257_3 := cU HB hx257_3; have HR257_1 := Sd.mk hi257_1; have HC257_1 := Sd.mk hl257_1; clear hi257_1 hl257_1; replace p257 := eq_true p257; replace q257 := eq_true q257
                     go_wp2_with (first | ((with_reducible refine gate_callee (f := 170) rfl ?_); refine goesL_ (some 130) rfl rfl Tryz.func170 (by kernel_rfl) rfl #[.string ((rd_T89 l0_3 x8_4).f0)] rfl tM ?_; (with_reducible refine (rf_Name.calls k4 ((rd_T89 l0_3 x8_4).f0) false _ A67.out).mono ?_); rintro e w' ⟨rfl, ⟨nd, rfl⟩⟩; refine ⟨_, rfl, ?_⟩))
                     go_ret
                     exact ⟨tE, bBl HB.out⟩
                   ·rw [if_neg c66] at H
                    exact absurd H (by simp)
                  ·rw [if_neg c65] at H
                   have c65b0 : decide (x8_4 < (l0_3.length : Int)) = false := decide_eq_false c65
                   clear c65; replace H := Option.bind_eq_some_iff.mp H; obtain ⟨t256, A870, H⟩ := H
                   try dsimp only at H
                   have A87 := Sd.mk A870; clear A870
                   by_cases c88 : t256 = true
                   ·subst c88
                    have H1 : (if a0_6 < 1 then (some 1) else (if a0_6 > 10000 then (some 1) else (some 0))) = some r := by rw [if_pos rfl] at H; exact H
                    clear H; have H := H1; clear H1
                    by_cases c89 : a0_6 < 1
                    ·rw [if_pos c89] at H
                     have c89b0 : decide (a0_6 < 1) = true := decide_eq_true c89
                     clear c89; obtain rfl := Option.some.inj H; obtain ⟨u90_0, u90_1, u90_2, u90_3, u90_4, u90_5, u90_6, o90_0, o90_1, o90_2, o90_3, o90_4, o90_5, o90_6⟩ := bc7 (w := wr) BK238.out
                     go_wp2_with (first | ((with_reducible refine gate_callee (f := 173) rfl ?_); refine goesL_ (some 161) rfl rfl Tryz.func173 (by kernel_rfl) rfl #[.agg #[.int .i64 a0_4, .int .i64 a0_5], .int .i64 (-10000), .int .i64 10000] rfl tM ?_; (with_reducible refine (rf_within.calls a0_4 a0_5 (-10000) 10000 true _ A87.out).mono ?_); rintro e w91 ⟨rfl, hb⟩; refine ⟨_, rfl, ?_⟩; replace HO_4 := Sd.mk (Kd.R_below (by (with_reducible repeat (first | apply Kd.R_alloc | apply Kd.R_drewN | apply Kd.R_drew)); exact HO_4.out) hb); replace BK238 := Sd.mk (blk_below (bkA BK238.out) hb); replace HB := Sd.mk (below_step (bBl HB.out) hb); (try clear hb); (try clear hb2); (try clear hk); (try clear hi); obtain ⟨u92_0, u92_1, u92_2, u92_3, u92_4, u92_5, u92_6, o92_0, o92_1, o92_2, o92_3, o92_4, o92_5, o92_6⟩ := bc7 (w := w91) BK238.out))
                     go_ret
                     exact ⟨tE, bBl HB.out⟩
                    ·rw [if_neg c89] at H
                     have c89b0 : decide (a0_6 < 1) = false := decide_eq_false c89
                     clear c89
                     by_cases c93 : a0_6 > 10000
                     ·rw [if_pos c93] at H
                      have c93b0 : decide (10000 < a0_6) = true := decide_eq_true c93
                      clear c93; obtain rfl := Option.some.inj H; obtain ⟨u94_0, u94_1, u94_2, u94_3, u94_4, u94_5, u94_6, o94_0, o94_1, o94_2, o94_3, o94_4, o94_5, o94_6⟩ := bc7 (w := wr) BK238.out
                      go_wp2_with (first | ((with_reducible refine gate_callee (f := 173) rfl ?_); refine goesL_ (some 161) rfl rfl Tryz.func173 (by kernel_rfl) rfl #[.agg #[.int .i64 a0_4, .int .i64 a0_5], .int .i64 (-10000), .int .i64 10000] rfl tM ?_; (with_reducible refine (rf_within.calls a0_4 a0_5 (-10000) 10000 true _ A87.out).mono ?_); rintro e w95 ⟨rfl, hb⟩; refine ⟨_, rfl, ?_⟩; replace HO_4 := Sd.mk (Kd.R_below (by (with_reducible repeat (first | apply Kd.R_alloc | apply Kd.R_drewN | apply Kd.R_drew)); exact HO_4.out) hb); replace BK238 := Sd.mk (blk_below (bkA BK238.out) hb); replace HB := Sd.mk (below_step (bBl HB.out) hb); (try clear hb); (try clear hb2); (try clear hk); (try clear hi); obtain ⟨u96_0, u96_1, u96_2, u96_3, u96_4, u96_5, u96_6, o96_0, o96_1, o96_2, o96_3, o96_4, o96_5, o96_6⟩ := bc7 (w := w95) BK238.out))
                      go_ret
                      exact ⟨tE, bBl HB.out⟩
                     ·rw [if_neg c93] at H
                      have c93b0 : decide (10000 < a0_6) = false := decide_eq_false c93
                      clear c93; obtain rfl := Option.some.inj H; obtain ⟨u97_0, u97_1, u97_2, u97_3, u97_4, u97_5, u97_6, o97_0, o97_1, o97_2, o97_3, o97_4, o97_5, o97_6⟩ := bc7 (w := wr) BK238.out
                      go_wp2_with (first | ((with_reducible refine gate_callee (f := 173) rfl ?_); refine goesL_ (some 161) rfl rfl Tryz.func173 (by kernel_rfl) rfl #[.agg #[.int .i64 a0_4, .int .i64 a0_5], .int .i64 (-10000), .int .i64 10000] rfl tM ?_; (with_reducible refine (rf_within.calls a0_4 a0_5 (-10000) 10000 true _ A87.out).mono ?_); rintro e w98 ⟨rfl, hb⟩; refine ⟨_, rfl, ?_⟩; replace HO_4 := Sd.mk (Kd.R_below (by (with_reducible repeat (first | apply Kd.R_alloc | apply Kd.R_drewN | apply Kd.R_drew)); exact HO_4.out) hb); replace BK238 := Sd.mk (blk_below (bkA BK238.out) hb); replace HB := Sd.mk (below_step (bBl HB.out) hb); (try clear hb); (try clear hb2); (try clear hk); (try clear hi); obtain ⟨u99_0, u99_1, u99_2, u99_3, u99_4, u99_5, u99_6, o99_0, o99_1, o99_2, o99_3, o99_4, o99_5, o99_6⟩ := bc7 (w := w98) BK238.out))
                      go_ret
                      exact ⟨tE, bBl HB.out⟩
                   ·replace c88 := Bool.eq_false_iff.mpr c88
                    subst c88
                    have H1 : (some 1) = some r := by rw [if_neg (show ¬ (false = true) by decide)] at H; exact H
                    clear H; have H := H1; clear H1; obtain rfl := Option.some.inj H; obtain ⟨u100_0, u100_1, u100_2, u100_3, u100_4, u100_5, u100_6, o100_0, o100_1, o100_2, o100_3, o100_4, o100_5, o100_6⟩ := bc7 (w := wr) BK238.out
                    go_wp2_with (first | ((with_reducible refine gate_callee (f := 173) rfl ?_); refine goesL_ (some 161) rfl rfl Tryz.func173 (by kernel_rfl) rfl #[.agg #[.int .i64 a0_4, .int .i64 a0_5], .int .i64 (-10000), .int .i64 10000] rfl tM ?_; (with_reducible refine (rf_within.calls a0_4 a0_5 (-10000) 10000 false _ A87.out).mono ?_); rintro e w101 ⟨rfl, hb⟩; refine ⟨_, rfl, ?_⟩; replace HO_4 := Sd.mk (Kd.R_below (by (with_reducible repeat (first | apply Kd.R_alloc | apply Kd.R_drewN | apply Kd.R_drew)); exact HO_4.out) hb); replace BK238 := Sd.mk (blk_below (bkA BK238.out) hb); replace HB := Sd.mk (below_step (bBl HB.out) hb); (try clear hb); (try clear hb2); (try clear hk); (try clear hi)))
                    go_ret
                    exact ⟨tE, bBl HB.out⟩
           ·rw [if_neg c52] at H
            have c52b0 : ((l0_2.length : Int) == (l0_0.length : Int)) = false := beq_eq_false_iff_ne.mpr c52
            have c52b1 : ((l0_2.length : Int) != (l0_0.length : Int)) = true := bne_iff_ne.mpr c52
            have c52b2 : (l0_2.length == l0_0.length) = false := by first | simpa using c52 | (simp at c52 ⊢; omega)
            obtain rfl := Option.some.inj H; obtain ⟨u102_0, u102_1, u102_2, u102_3, u102_4, u102_5, u102_6, o102_0, o102_1, o102_2, o102_3, o102_4, o102_5, o102_6⟩ := bc7 (w := wr) BK238.out
            go_wp2
            go_ret
            exact ⟨tE, bBl HB.out⟩
end
end Go.Proofs.YtljfljekcpdpiaaGreat.PB
