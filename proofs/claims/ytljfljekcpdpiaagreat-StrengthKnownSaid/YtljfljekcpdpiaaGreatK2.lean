import Derived.Test.YtljfljekcpdpiaaGreatK1
import Derived.Shelf.Abstract
import Derived.Below
set_option linter.unusedVariables false
set_option linter.unusedSimpArgs false
set_option maxHeartbeats 8000000
set_option maxRecDepth 1000000
namespace Go.Proofs.YtljfljekcpdpiaaGreat.PB
open Go.RowKit Go.Proofs.YtljfljekcpdpiaaGreatW.PrintWords Go.Proofs.YtljfljekcpdpiaaGreatW.PrintLast Go.Proofs.YtljfljekcpdpiaaGreatW.PrintMore
section
mutual
def st_steepest.l0 : Nat → Int → List (S94) → Int → Int → Int → Int → Int → Option (Int × Int)
 | 0, _, _, _, _, _, _, _ => none
 | k + 1, x6, x426q0, x426q1, x427q0, x427q1, x429q0, x429q1 => if x6 < (x426q0.length : Int) then (if 0 ≤ (wrap64 (x6 - 1)) then (if (wrap64 (x6 - 1)) < (x426q0.length : Int) then (if 0 ≤ x6 then (if ((rd_T94 x426q0 (wrap64 (x6 - 1))).f1) ≤ ((rd_T94 x426q0 x6).f1) then (st_steepest.j1 k x6 true x426q0 x426q1 x427q0 x427q1 x429q0 x429q1 ((rd_T94 x426q0 (wrap64 (x6 - 1))).f0) ((rd_T94 x426q0 (wrap64 (x6 - 1))).f1) ((rd_T94 x426q0 x6).f0) ((rd_T94 x426q0 x6).f1)) else (if ((rd_T94 x426q0 x6).f1) > x427q1 then (st_steepest.j1 k x6 true x426q0 x426q1 x427q0 x427q1 x429q0 x429q1 ((rd_T94 x426q0 (wrap64 (x6 - 1))).f0) ((rd_T94 x426q0 (wrap64 (x6 - 1))).f1) ((rd_T94 x426q0 x6).f0) ((rd_T94 x426q0 x6).f1)) else (st_steepest.j1 k x6 (decide (((rd_T94 x426q0 (wrap64 (x6 - 1))).f1) < x427q0)) x426q0 x426q1 x427q0 x427q1 x429q0 x429q1 ((rd_T94 x426q0 (wrap64 (x6 - 1))).f0) ((rd_T94 x426q0 (wrap64 (x6 - 1))).f1) ((rd_T94 x426q0 x6).f0) ((rd_T94 x426q0 x6).f1)))) else (none)) else (none)) else (none)) else (some (x429q0, x429q1))
def st_steepest.j1 : Nat → Int → Bool → List (S94) → Int → Int → Int → Int → Int → Int → Int → Int → Int → Option (Int × Int)
 | 0, _, _, _, _, _, _, _, _, _, _, _, _ => none
 | k + 1, x6, x47, x426q0, x426q1, x427q0, x427q1, x429q0, x429q1, x432q0, x432q1, x433q0, x433q1 => if x47 = true then (st_steepest.l0 k (wrap64 (x6 + 1)) x426q0 x426q1 x427q0 x427q1 x429q0 x429q1) else ((st_quotient_above.f (wrap64 (x432q1 - x433q1)) (wrap64 (x433q0 - x432q0)) x429q0 x429q1).bind fun t434 => (if t434 = true then (st_steepest.l0 k (wrap64 (x6 + 1)) x426q0 x426q1 x427q0 x427q1 (wrap64 (x432q1 - x433q1)) (wrap64 (x433q0 - x432q0))) else (st_steepest.l0 k (wrap64 (x6 + 1)) x426q0 x426q1 x427q0 x427q1 x429q0 x429q1)))
end
def st_steepest.f (k : Nat) (l0_0 : List (S94)) (a0_1 : Int) (a1_0 : Int) (a1_1 : Int) : Option (Int × Int) := st_steepest.l0 k 1 l0_0 a0_1 a1_0 a1_1 0 1
def st_steepest.T5 : Bool × List (List Nat × List Nat) := (true, [([], []), ([0], [0]), ([], []), ([2], [2]), ([1, 3], [1, 3]), ([4], [4]), ([], []), ([6], [6]), ([], []), ([7, 8], [7, 8]), ([9], [9]), ([], []), ([], []), ([11, 5, 0, 1, 2, 3, 4, 5, 11, 12], [5, 11]), ([12, 10, 13, 0, 1, 2, 3, 4, 5, 6, 7, 8, 9, 10, 11, 12, 13], [10, 12])])
def st_steepest.B5 : List Nat := [0, 1, 0, 4, 15, 31, 0, 64, 0, 448, 960, 0, 0, 6207, 16383]
theorem st_steepest.tab5 : rtab .any (opsOf Tryz.f127 5) = st_steepest.T5 := by kernel_rfl
theorem st_steepest.bits5 : waitsOk st_steepest.T5.2 st_steepest.B5 = true := by kernel_rfl
theorem st_steepest.calls (k : Nat) (A0_0 : Option Addr) (c0_0 : Nat) (l0_0 : List (S94)) (a0_1 : Int) (a1_0 : Int) (a1_1 : Int) (r1 : Int) (r2 : Int) (w : World) (hr0_0 : Kd.C k94 w A0_0 l0_0.length l0_0) (hc0_0 : l0_0.length ≤ c0_0) (h : st_steepest.f k l0_0 a0_1 a1_0 a1_1 = some (r1, r2)) :
  Calls Tryz.prog 127 #[.agg #[.slice A0_0 l0_0.length c0_0, .int .i64 a0_1], .agg #[.int .i64 a1_0, .int .i64 a1_1]] w fun e w' => e = .returned (.agg #[.int .i64 r1, .int .i64 r2]) ∧ Below w.heap.size w w' := by
 have hu46 := Tryz.underlying46; have hu27 := Tryz.underlying27; have hu163 := Tryz.underlying163; have hu94 := Tryz.underlying94; have HR0_0 := Sd.mk hr0_0; have HC0_0 := Sd.mk hc0_0; clear hr0_0 hc0_0; have HB := Sd.mk (Below.refl w.heap.size w)
 have H : (st_steepest.l0 k 1 l0_0 a0_1 a1_0 a1_1 0 1) = some (r1, r2) := h
 clear h; have H' := Sd.mk H; clear H
 go_enter Tryz.func127, Tryz.ntmps127
 go_wp2_with (first | ((with_reducible refine gate_dst (N := 2) rfl ?_); refine box_event ?hg (N := 2) ?hd (cs := #[.slice A0_0 l0_0.length c0_0, .int .i64 a0_1]) (t := 46) ?hr ?_; (case hd => rfl); (case hg => rfl); (case hr => exact tG); intro gb425 hg w3 hbox hb; have BK425 := Sd.mk (hbox); have GW425 := Sd.mk (bSz hg (bBl HB.out)); have GE425 := Sd.mk (bSz hg (bBl HB.out)); replace HB := Sd.mk (below_step (bBl HB.out) hb); clear hb hbox hg) | ((with_reducible refine gate_dst (N := 3) rfl ?_); refine box_event ?hg (N := 3) ?hd (cs := #[.int .i64 a1_0, .int .i64 a1_1]) (t := 27) ?hr ?_; (case hd => rfl); (case hg => rfl); (case hr => exact tG); intro gb426 hg w4 hbox hb; have BK426 := Sd.mk (hbox); have GW426 := Sd.mk (bSz hg (bBl HB.out)); have GE426 := Sd.mk (bSz hg (bBl HB.out)); replace HB := Sd.mk (below_step (bBl HB.out) hb); have NB425_426 := Sd.mk (bNl hg (bkA BK425.out)); have NB426_425 := Sd.mk (bNg hg (bkA BK425.out)); replace BK425 := Sd.mk (blk_below (bkA BK425.out) hb); clear hb hbox hg) | ((with_reducible refine gate_dst (N := 4) rfl ?_); refine box_event ?hg (N := 4) ?hd (cs := #[.int .i64 0, .int .i64 0]) (t := 163) ?hr ?_; (case hd => rfl); (case hg => rfl); (case hr => exact tG); intro gb427 hg w5 hbox hb; have BK427 := Sd.mk (hbox); have GW427 := Sd.mk (bSz hg (bBl HB.out)); have GE427 := Sd.mk (bSz hg (bBl HB.out)); replace HB := Sd.mk (below_step (bBl HB.out) hb); have NB425_427 := Sd.mk (bNl hg (bkA BK425.out)); have NB427_425 := Sd.mk (bNg hg (bkA BK425.out)); replace BK425 := Sd.mk (blk_below (bkA BK425.out) hb); have NB426_427 := Sd.mk (bNl hg (bkA BK426.out)); have NB427_426 := Sd.mk (bNg hg (bkA BK426.out)); replace BK426 := Sd.mk (blk_below (bkA BK426.out) hb); clear hb hbox hg) | ((with_reducible refine gate_dst (N := 5) rfl ?_); refine box_event ?hg (N := 5) ?hd (cs := #[.int .i64 0, .int .i64 0]) (t := 163) ?hr ?_; (case hd => rfl); (case hg => rfl); (case hr => exact tG); intro gb428 hg w6 hbox hb; have BK428 := Sd.mk (hbox); have GW428 := Sd.mk (bSz hg (bBl HB.out)); have GE428 := Sd.mk (bSz hg (bBl HB.out)); replace HB := Sd.mk (below_step (bBl HB.out) hb); have NB425_428 := Sd.mk (bNl hg (bkA BK425.out)); have NB428_425 := Sd.mk (bNg hg (bkA BK425.out)); replace BK425 := Sd.mk (blk_below (bkA BK425.out) hb); have NB426_428 := Sd.mk (bNl hg (bkA BK426.out)); have NB428_426 := Sd.mk (bNg hg (bkA BK426.out)); replace BK426 := Sd.mk (blk_below (bkA BK426.out) hb); have NB427_428 := Sd.mk (bNl hg (bkA BK427.out)); have NB428_427 := Sd.mk (bNg hg (bkA BK427.out)); replace BK427 := Sd.mk (blk_below (bkA BK427.out) hb); clear hb hbox hg; have hnb7 := NB428_425.out; have hnc7 := NB425_428.out; have hnb8 := NB428_426.out; have hnc8 := NB426_428.out; have hnb9 := NB428_427.out; have hnc9 := NB427_428.out; obtain ⟨u10_0, u10_1, o10_0, o10_1⟩ := bc2 (w := w6) BK428.out))
 go_loopg [6] k (fun kq v6 w' => ∃ (x6_1 : Int) (x429000_1 : Int) (x429001_1 : Int), v6 = .int .i64 x6_1 ∧ Sd (st_steepest.l0 kq x6_1 l0_0 a0_1 a1_0 a1_1 x429000_1 x429001_1 = some (r1, r2)) ∧ Sd (kq ≤ k) ∧ Sd (w'.heap[gb425]? = some (.cells #[(.slice A0_0 l0_0.length c0_0), .int .i64 a0_1] 46 (0, 0))) ∧ Sd (w'.heap[gb426]? = some (.cells #[.int .i64 a1_0, .int .i64 a1_1] 27 (0, 0))) ∧ Sd (w'.heap[gb427]? = some (.cells #[.int .i64 0, .int .i64 0] 163 (0, 0))) ∧ Sd (w'.heap[gb428]? = some (.cells #[.int .i64 x429000_1, .int .i64 x429001_1] 163 (0, 0))) ∧ Sd (Below w.heap.size w w'))
 case atStart => exact ⟨(1), (0), (1), tS, H', ⟨Nat.le_refl _⟩, ⟨by refine bkZ ?_; refine blk_far ?_ NB425_428.out _; refine bkZ ?_; refine blk_far ?_ NB425_428.out _; refine bkZ ?_; exact BK425.out⟩, ⟨by refine bkZ ?_; refine blk_far ?_ NB426_428.out _; refine bkZ ?_; refine blk_far ?_ NB426_428.out _; refine bkZ ?_; exact BK426.out⟩, ⟨by refine bkZ ?_; refine blk_far ?_ NB427_428.out _; refine bkZ ?_; refine blk_far ?_ NB427_428.out _; refine bkZ ?_; exact BK427.out⟩, ⟨by refine bkZ ?_; refine blk_put (cs := #[.int .i64 0, .int .i64 0]) ?_ 1 _ rfl; refine bkZ ?_; refine blk_put (cs := #[.int .i64 0, .int .i64 0]) ?_ 0 _ rfl; refine bkZ ?_; exact BK428.out⟩, ⟨bBl HB.out⟩⟩
 case round =>
  clear H'; (try clear c1); (try clear p2); (try clear c7); (try clear c8); (try clear c9); (try clear u10_0 u10_1); (try clear o10_0 o10_1); obtain ⟨x6_1, x429000_1, x429001_1, rfl, HA, HK1, BK425, BK426, BK427, BK428, HB⟩ := hrel
  cases gk with
  | zero => exact absurd HA.out (by simp [st_steepest.l0])
  | succ k1 =>
   have H := HA.out; clear HA
   simp only [st_steepest.l0] at H
   by_cases c11 : x6_1 < (l0_0.length : Int)
   ·rw [if_pos c11] at H
    have c11b0 : decide (x6_1 < (l0_0.length : Int)) = true := decide_eq_true c11
    clear c11
    obtain ⟨ji12, hji12⟩ : ∃ j_ : Int, (wrap64 (x6_1 - 1)) = j_ := ⟨_, rfl⟩
    replace H : (if 0 ≤ (ji12) then (if (ji12) < (l0_0.length : Int) then (if 0 ≤ x6_1 then (if ((rd_T94 l0_0 (ji12)).f1) ≤ ((rd_T94 l0_0 x6_1).f1) then (st_steepest.j1 k1 x6_1 true l0_0 a0_1 a1_0 a1_1 x429000_1 x429001_1 ((rd_T94 l0_0 (ji12)).f0) ((rd_T94 l0_0 (ji12)).f1) ((rd_T94 l0_0 x6_1).f0) ((rd_T94 l0_0 x6_1).f1)) else (if ((rd_T94 l0_0 x6_1).f1) > a1_1 then (st_steepest.j1 k1 x6_1 true l0_0 a0_1 a1_0 a1_1 x429000_1 x429001_1 ((rd_T94 l0_0 (ji12)).f0) ((rd_T94 l0_0 (ji12)).f1) ((rd_T94 l0_0 x6_1).f0) ((rd_T94 l0_0 x6_1).f1)) else (st_steepest.j1 k1 x6_1 (decide (((rd_T94 l0_0 (ji12)).f1) < a1_0)) l0_0 a0_1 a1_0 a1_1 x429000_1 x429001_1 ((rd_T94 l0_0 (ji12)).f0) ((rd_T94 l0_0 (ji12)).f1) ((rd_T94 l0_0 x6_1).f0) ((rd_T94 l0_0 x6_1).f1)))) else (none)) else (none)) else (none)) = some (r1, r2) := by first | (rw [hji12] at H; exact H) | (simp only [hji12] at H ⊢; exact H)
    have hji12w : (IntKind.i64.wrap (x6_1 - 1)) = ji12 := (i64_w _).trans hji12
    by_cases c13 : 0 ≤ (ji12)
    ·rw [if_pos c13] at H
     have c13b0 : decide (0 ≤ (ji12)) = true := decide_eq_true c13
     clear c13
     by_cases c14 : (ji12) < (l0_0.length : Int)
     ·rw [if_pos c14] at H
      have c14b0 : decide ((ji12) < (l0_0.length : Int)) = true := decide_eq_true c14
      clear c14
      by_cases c15 : 0 ≤ x6_1
      ·rw [if_pos c15] at H
       have c15b0 : decide (0 ≤ x6_1) = true := decide_eq_true c15
       clear c15; have HC16 := Sd.mk H; clear H; have hnb17 := NB425_426.out; have hnc17 := NB426_425.out; have hnb18 := NB425_427.out; have hnc18 := NB427_425.out; have hnb19 := NB425_428.out; have hnc19 := NB428_425.out; obtain ⟨u20_0, u20_1, o20_0, o20_1⟩ := bc2 (w := wr) BK425.out
       try go_wp2
       replace BK425 := Sd.mk (blk_drew BK425.out); replace BK426 := Sd.mk (blk_drew BK426.out); replace BK427 := Sd.mk (blk_drew BK427.out); replace BK428 := Sd.mk (blk_drew BK428.out); replace HB := Sd.mk (below_drew1 HB.out)
       have p429 : 0 ≤ ((ji12) : Int) := tB
       have q429 : (ji12) < (l0_0.length : Int) := tB
       obtain ⟨ad429, e429, hx429_0, hx429_1⟩ := at_T94 HR0_0.out (ji12) p429 q429; have hw429_1 := hx429_1; have hw429_0 := hx429_0; cases e429; replace hx429_0 := cU HB hx429_0; replace hx429_1 := cU HB hx429_1; replace p429 := eq_true p429; replace q429 := eq_true q429
       have p430 : 0 ≤ (x6_1 : Int) := tB
       have q430 : x6_1 < (l0_0.length : Int) := tB
       obtain ⟨ad430, e430, hx430_0, hx430_1⟩ := at_T94 HR0_0.out x6_1 p430 q430; have hw430_1 := hx430_1; have hw430_0 := hx430_0
       obtain rfl : ad429 = ad430 := (by injection e430)
       replace hx430_0 := cU HB hx430_0; replace hx430_1 := cU HB hx430_1; replace p430 := eq_true p430; replace q430 := eq_true q430
       refine start_ (n := 15) (S := fun w' => w'.cell? ⟨gb425, 0, none⟩ = some (.slice (some ad429) l0_0.length c0_0) ∧ w'.cell? ⟨gb425, 1, none⟩ = some (.int .i64 a0_1) ∧ w'.cell? (ad429.add (((ji12)).toNat * 2)) = some (.int .i64 ((rd_T94 l0_0 (ji12)).f0)) ∧ w'.cell? ⟨(ad429.add (((ji12)).toNat * 2)).block, (ad429.add (((ji12)).toNat * 2)).off + 1, none⟩ = some (.int .i64 ((rd_T94 l0_0 (ji12)).f1)) ∧ w'.cell? (ad429.add ((x6_1).toNat * 2)) = some (.int .i64 ((rd_T94 l0_0 x6_1).f0)) ∧ w'.cell? ⟨(ad429.add ((x6_1).toNat * 2)).block, (ad429.add ((x6_1).toNat * 2)).off + 1, none⟩ = some (.int .i64 ((rd_T94 l0_0 x6_1).f1))) (ds := []) (bA 15 0) (by kernel_rfl) rfl rfl ⟨(blk_cell BK425.out 0).trans rfl, (blk_cell BK425.out 1).trans rfl, (cU HB hw429_0), (cU HB hw429_1), (cU HB hw430_0), (cU HB hw430_1)⟩ (fun hHeld => ?_); refine with_tabW st_steepest.tab5 st_steepest.bits5 (fun HT_ HW_ => ?_)
       generalize wr.drew = w21 at BK425 BK426 BK427 BK428 HB hx429_0 hx429_1 hx430_0 hx430_1 hHeld ⊢
       refine pQ 0 (some 18) (bA 15 1) ?_
       refine pQ 2 (some 20) (bA 15 5) ?_
       refine pQ 3 (some 21) (bA 15 13) ?_
       refine pQ 6 (some 24) (bA 15 77) ?_
       refine pQ 8 (some 26) (bA 15 333) ?_
       refine tQ 1 (some 19) (bA 15 335) ?_
       refine pQ 4 (some 22) (bA 15 351) ?_
       refine tQ 5 (some 23) (bA 15 383) ?_
       refine tQ 7 (some 25) (bA 15 511) ?_
       refine pQ 9 (some 27) (bA 15 1023) ?_
       refine tQ 10 (some 28) (bA 15 2047) ?_
       refine join_ (σ := Nat × Nat) 2 (bA 15 8191) (fun s_ => [(7, .pointer (some ⟨s_.1, 0, none⟩)), (8, .pointer (some ⟨s_.2, 0, none⟩))]) (fun s_ w' => (w'.cell? ⟨gb425, 0, none⟩ = some (.slice (some ad429) l0_0.length c0_0) ∧ w'.cell? ⟨gb425, 1, none⟩ = some (.int .i64 a0_1) ∧ w'.cell? (ad429.add (((ji12)).toNat * 2)) = some (.int .i64 ((rd_T94 l0_0 (ji12)).f0)) ∧ w'.cell? ⟨(ad429.add (((ji12)).toNat * 2)).block, (ad429.add (((ji12)).toNat * 2)).off + 1, none⟩ = some (.int .i64 ((rd_T94 l0_0 (ji12)).f1)) ∧ w'.cell? (ad429.add ((x6_1).toNat * 2)) = some (.int .i64 ((rd_T94 l0_0 x6_1).f0)) ∧ w'.cell? ⟨(ad429.add ((x6_1).toNat * 2)).block, (ad429.add ((x6_1).toNat * 2)).off + 1, none⟩ = some (.int .i64 ((rd_T94 l0_0 x6_1).f1))) ∧ (w'.heap[gb425]? = some (.cells #[.slice (some ad429) l0_0.length c0_0, .int .i64 a0_1] 46 (0, 0))) ∧ (w'.heap[gb426]? = some (.cells #[.int .i64 a1_0, .int .i64 a1_1] 27 (0, 0))) ∧ (w'.heap[gb427]? = some (.cells #[.int .i64 0, .int .i64 0] 163 (0, 0))) ∧ (w'.heap[gb428]? = some (.cells #[.int .i64 x429000_1, .int .i64 x429001_1] 163 (0, 0))) ∧ (w'.heap[s_.1]? = some (.cells #[.int .i64 0, .int .i64 0] 94 (0, 0))) ∧ (w'.heap[s_.2]? = some (.cells #[.int .i64 0, .int .i64 0] 94 (0, 0))) ∧ (w.heap.size ≤ s_.1) ∧ (w.heap.size ≤ s_.1) ∧ (gb425 ≠ s_.1) ∧ (s_.1 ≠ gb425) ∧ (gb426 ≠ s_.1) ∧ (s_.1 ≠ gb426) ∧ (gb427 ≠ s_.1) ∧ (s_.1 ≠ gb427) ∧ (gb428 ≠ s_.1) ∧ (s_.1 ≠ gb428) ∧ (s_.2 ≠ s_.1) ∧ (s_.1 ≠ s_.2) ∧ (w.heap.size ≤ s_.2) ∧ (w.heap.size ≤ s_.2) ∧ (gb425 ≠ s_.2) ∧ (s_.2 ≠ gb425) ∧ (gb426 ≠ s_.2) ∧ (s_.2 ≠ gb426) ∧ (gb427 ≠ s_.2) ∧ (s_.2 ≠ gb427) ∧ (gb428 ≠ s_.2) ∧ (s_.2 ≠ gb428) ∧ (Below w.heap.size w w')) ?_ ?_
       rotate_left
       ·intro hCont
        refine two_ (i := 11) (j := 12) (Ni := some 7) (Nj := some 8) (bA 15 4095) (bA 15 6143) rfl rfl rfl rfl (two_of HT_.out (by kernel_rfl)) (by decide) (by decide) (fun K hK => ?_) (fun K hK => ?_)
        ·skip
         refine box_step ?hg (N := 7) ?hd (cs := #[.int .i64 0, .int .i64 0]) (t := 94) ?hr ?_; (case hd => rfl); (case hg => rfl); (case hr => exact tG)
         intro gb431 hg w22 hbox hb
         have BK431 := Sd.mk (hbox); have GW431 := Sd.mk (bSz hg (bBl HB.out)); have GE431 := Sd.mk (bSz hg (bBl HB.out)); replace HB := Sd.mk (below_step (bBl HB.out) hb); have NB425_431 := Sd.mk (bNl hg (bkA BK425.out)); have NB431_425 := Sd.mk (bNg hg (bkA BK425.out)); replace BK425 := Sd.mk (blk_below (bkA BK425.out) hb); have NB426_431 := Sd.mk (bNl hg (bkA BK426.out)); have NB431_426 := Sd.mk (bNg hg (bkA BK426.out)); replace BK426 := Sd.mk (blk_below (bkA BK426.out) hb); have NB427_431 := Sd.mk (bNl hg (bkA BK427.out)); have NB431_427 := Sd.mk (bNg hg (bkA BK427.out)); replace BK427 := Sd.mk (blk_below (bkA BK427.out) hb); have NB428_431 := Sd.mk (bNl hg (bkA BK428.out)); have NB431_428 := Sd.mk (bNg hg (bkA BK428.out)); replace BK428 := Sd.mk (blk_below (bkA BK428.out) hb); clear hb hbox hg
         refine hK.out _ _ ⟨(blk_cell BK425.out 0).trans rfl, (blk_cell BK425.out 1).trans rfl, (cU HB hw429_0), (cU HB hw429_1), (cU HB hw430_0), (cU HB hw430_1)⟩ (fun hHeld => ?_)
         clear hK K
         refine norm_ (a' := ?_) ?_ ?_
         rotate_left
         ·show Act.put _ (some 7) _ = _
          exact tP
         refine one_ (i := 12) (N := some 8) (bA 15 8191) rfl rfl (one_of HT_.out (by kernel_rfl)) (by decide) (fun K hK => ?_)
         refine box_step ?hg (N := 8) ?hd (cs := #[.int .i64 0, .int .i64 0]) (t := 94) ?hr ?_; (case hd => rfl); (case hg => rfl); (case hr => exact tG)
         intro gb432 hg w23 hbox hb
         have BK432 := Sd.mk (hbox); have GW432 := Sd.mk (bSz hg (bBl HB.out)); have GE432 := Sd.mk (bSz hg (bBl HB.out)); replace HB := Sd.mk (below_step (bBl HB.out) hb); have NB425_432 := Sd.mk (bNl hg (bkA BK425.out)); have NB432_425 := Sd.mk (bNg hg (bkA BK425.out)); replace BK425 := Sd.mk (blk_below (bkA BK425.out) hb); have NB426_432 := Sd.mk (bNl hg (bkA BK426.out)); have NB432_426 := Sd.mk (bNg hg (bkA BK426.out)); replace BK426 := Sd.mk (blk_below (bkA BK426.out) hb); have NB427_432 := Sd.mk (bNl hg (bkA BK427.out)); have NB432_427 := Sd.mk (bNg hg (bkA BK427.out)); replace BK427 := Sd.mk (blk_below (bkA BK427.out) hb); have NB428_432 := Sd.mk (bNl hg (bkA BK428.out)); have NB432_428 := Sd.mk (bNg hg (bkA BK428.out)); replace BK428 := Sd.mk (blk_below (bkA BK428.out) hb); have NB431_432 := Sd.mk (bNl hg (bkA BK431.out)); have NB432_431 := Sd.mk (bNg hg (bkA BK431.out)); replace BK431 := Sd.mk (blk_below (bkA BK431.out) hb); clear hb hbox hg
         refine hK.out _ _ ⟨(blk_cell BK425.out 0).trans rfl, (blk_cell BK425.out 1).trans rfl, (cU HB hw429_0), (cU HB hw429_1), (cU HB hw430_0), (cU HB hw430_1)⟩ (fun hHeld => ?_)
         clear hK K
         refine norm_ (a' := ?_) ?_ ?_
         rotate_left
         ·show Act.put _ (some 8) _ = _
          exact tP
         exact norm_ (by simp only [putAll, Act.put, List.setIfInBounds_toArray, List.set_cons_zero, List.set_cons_succ]) (hCont (gb431, gb432) _ ⟨hHeld, (bkA BK425.out), (bkA BK426.out), (bkA BK427.out), (bkA BK428.out), (bkA BK431.out), (bkA BK432.out), GW431.out, GE431.out, NB425_431.out, NB431_425.out, NB426_431.out, NB431_426.out, NB427_431.out, NB431_427.out, NB428_431.out, NB431_428.out, NB432_431.out, NB431_432.out, GW432.out, GE432.out, NB425_432.out, NB432_425.out, NB426_432.out, NB432_426.out, NB427_432.out, NB432_427.out, NB428_432.out, NB432_428.out, (bBl HB.out)⟩)
        ·skip
         refine box_step ?hg (N := 8) ?hd (cs := #[.int .i64 0, .int .i64 0]) (t := 94) ?hr ?_; (case hd => rfl); (case hg => rfl); (case hr => exact tG)
         intro gb432 hg w22 hbox hb
         have BK432 := Sd.mk (hbox); have GW432 := Sd.mk (bSz hg (bBl HB.out)); have GE432 := Sd.mk (bSz hg (bBl HB.out)); replace HB := Sd.mk (below_step (bBl HB.out) hb); have NB425_432 := Sd.mk (bNl hg (bkA BK425.out)); have NB432_425 := Sd.mk (bNg hg (bkA BK425.out)); replace BK425 := Sd.mk (blk_below (bkA BK425.out) hb); have NB426_432 := Sd.mk (bNl hg (bkA BK426.out)); have NB432_426 := Sd.mk (bNg hg (bkA BK426.out)); replace BK426 := Sd.mk (blk_below (bkA BK426.out) hb); have NB427_432 := Sd.mk (bNl hg (bkA BK427.out)); have NB432_427 := Sd.mk (bNg hg (bkA BK427.out)); replace BK427 := Sd.mk (blk_below (bkA BK427.out) hb); have NB428_432 := Sd.mk (bNl hg (bkA BK428.out)); have NB432_428 := Sd.mk (bNg hg (bkA BK428.out)); replace BK428 := Sd.mk (blk_below (bkA BK428.out) hb); clear hb hbox hg
         refine hK.out _ _ ⟨(blk_cell BK425.out 0).trans rfl, (blk_cell BK425.out 1).trans rfl, (cU HB hw429_0), (cU HB hw429_1), (cU HB hw430_0), (cU HB hw430_1)⟩ (fun hHeld => ?_)
         clear hK K
         refine norm_ (a' := ?_) ?_ ?_
         rotate_left
         ·show Act.put _ (some 8) _ = _
          exact tP
         refine one_ (i := 11) (N := some 7) (bA 15 8191) rfl rfl (one_of HT_.out (by kernel_rfl)) (by decide) (fun K hK => ?_)
         refine box_step ?hg (N := 7) ?hd (cs := #[.int .i64 0, .int .i64 0]) (t := 94) ?hr ?_; (case hd => rfl); (case hg => rfl); (case hr => exact tG)
         intro gb431 hg w23 hbox hb
         have BK431 := Sd.mk (hbox); have GW431 := Sd.mk (bSz hg (bBl HB.out)); have GE431 := Sd.mk (bSz hg (bBl HB.out)); replace HB := Sd.mk (below_step (bBl HB.out) hb); have NB425_431 := Sd.mk (bNl hg (bkA BK425.out)); have NB431_425 := Sd.mk (bNg hg (bkA BK425.out)); replace BK425 := Sd.mk (blk_below (bkA BK425.out) hb); have NB426_431 := Sd.mk (bNl hg (bkA BK426.out)); have NB431_426 := Sd.mk (bNg hg (bkA BK426.out)); replace BK426 := Sd.mk (blk_below (bkA BK426.out) hb); have NB427_431 := Sd.mk (bNl hg (bkA BK427.out)); have NB431_427 := Sd.mk (bNg hg (bkA BK427.out)); replace BK427 := Sd.mk (blk_below (bkA BK427.out) hb); have NB428_431 := Sd.mk (bNl hg (bkA BK428.out)); have NB431_428 := Sd.mk (bNg hg (bkA BK428.out)); replace BK428 := Sd.mk (blk_below (bkA BK428.out) hb); have NB432_431 := Sd.mk (bNl hg (bkA BK432.out)); have NB431_432 := Sd.mk (bNg hg (bkA BK432.out)); replace BK432 := Sd.mk (blk_below (bkA BK432.out) hb); clear hb hbox hg
         refine hK.out _ _ ⟨(blk_cell BK425.out 0).trans rfl, (blk_cell BK425.out 1).trans rfl, (cU HB hw429_0), (cU HB hw429_1), (cU HB hw430_0), (cU HB hw430_1)⟩ (fun hHeld => ?_)
         clear hK K
         refine norm_ (a' := ?_) ?_ ?_
         rotate_left
         ·show Act.put _ (some 7) _ = _
          exact tP
         exact norm_ (by simp only [putAll, Act.put, List.setIfInBounds_toArray, List.set_cons_zero, List.set_cons_succ]) (hCont (gb431, gb432) _ ⟨hHeld, (bkA BK425.out), (bkA BK426.out), (bkA BK427.out), (bkA BK428.out), (bkA BK431.out), (bkA BK432.out), GW431.out, GE431.out, NB425_431.out, NB431_425.out, NB426_431.out, NB431_426.out, NB427_431.out, NB431_427.out, NB428_431.out, NB431_428.out, NB432_431.out, NB431_432.out, GW432.out, GE432.out, NB425_432.out, NB432_425.out, NB426_432.out, NB432_426.out, NB427_432.out, NB432_427.out, NB428_432.out, NB432_428.out, (bBl HB.out)⟩)
       rintro ⟨gb431, gb432⟩ w24 ⟨hS_, h0_, h1_, h2_, h3_, h4_, h5_, h6_, h7_, h8_, h9_, h10_, h11_, h12_, h13_, h14_, h15_, h16_, h17_, h18_, h19_, h20_, h21_, h22_, h23_, h24_, h25_, h26_, h27_, h28_⟩
       have n0_ : Sd (w24.heap[gb425]? = some (.cells #[.slice (some ad429) l0_0.length c0_0, .int .i64 a0_1] 46 (0, 0))) := ⟨h0_⟩
       have n1_ : Sd (w24.heap[gb426]? = some (.cells #[.int .i64 a1_0, .int .i64 a1_1] 27 (0, 0))) := ⟨h1_⟩
       have n2_ : Sd (w24.heap[gb427]? = some (.cells #[.int .i64 0, .int .i64 0] 163 (0, 0))) := ⟨h2_⟩
       have n3_ : Sd (w24.heap[gb428]? = some (.cells #[.int .i64 x429000_1, .int .i64 x429001_1] 163 (0, 0))) := ⟨h3_⟩
       have n4_ : Sd (w24.heap[gb431]? = some (.cells #[.int .i64 0, .int .i64 0] 94 (0, 0))) := ⟨h4_⟩
       have n5_ : Sd (w24.heap[gb432]? = some (.cells #[.int .i64 0, .int .i64 0] 94 (0, 0))) := ⟨h5_⟩
       have n6_ : Sd (w.heap.size ≤ gb431) := ⟨h6_⟩
       have n7_ : Sd (w.heap.size ≤ gb431) := ⟨h7_⟩
       have n8_ : Sd (gb425 ≠ gb431) := ⟨h8_⟩
       have n9_ : Sd (gb431 ≠ gb425) := ⟨h9_⟩
       have n10_ : Sd (gb426 ≠ gb431) := ⟨h10_⟩
       have n11_ : Sd (gb431 ≠ gb426) := ⟨h11_⟩
       have n12_ : Sd (gb427 ≠ gb431) := ⟨h12_⟩
       have n13_ : Sd (gb431 ≠ gb427) := ⟨h13_⟩
       have n14_ : Sd (gb428 ≠ gb431) := ⟨h14_⟩
       have n15_ : Sd (gb431 ≠ gb428) := ⟨h15_⟩
       have n16_ : Sd (gb432 ≠ gb431) := ⟨h16_⟩
       have n17_ : Sd (gb431 ≠ gb432) := ⟨h17_⟩
       have n18_ : Sd (w.heap.size ≤ gb432) := ⟨h18_⟩
       have n19_ : Sd (w.heap.size ≤ gb432) := ⟨h19_⟩
       have n20_ : Sd (gb425 ≠ gb432) := ⟨h20_⟩
       have n21_ : Sd (gb432 ≠ gb425) := ⟨h21_⟩
       have n22_ : Sd (gb426 ≠ gb432) := ⟨h22_⟩
       have n23_ : Sd (gb432 ≠ gb426) := ⟨h23_⟩
       have n24_ : Sd (gb427 ≠ gb432) := ⟨h24_⟩
       have n25_ : Sd (gb432 ≠ gb427) := ⟨h25_⟩
       have n26_ : Sd (gb428 ≠ gb432) := ⟨h26_⟩
       have n27_ : Sd (gb432 ≠ gb428) := ⟨h27_⟩
       have n28_ : Sd (Below w.heap.size w w24) := ⟨h28_⟩
       clear BK425; clear BK426; clear BK427; clear BK428; clear HB; clear h0_ h1_ h2_ h3_ h4_ h5_ h6_ h7_ h8_ h9_ h10_ h11_ h12_ h13_ h14_ h15_ h16_ h17_ h18_ h19_ h20_ h21_ h22_ h23_ h24_ h25_ h26_ h27_ h28_; have BK425 := n0_; have BK426 := n1_; have BK427 := n2_; have BK428 := n3_; have BK431 := n4_; have BK432 := n5_; have GW431 := n6_; have GE431 := n7_; have NB425_431 := n8_; have NB431_425 := n9_; have NB426_431 := n10_; have NB431_426 := n11_; have NB427_431 := n12_; have NB431_427 := n13_; have NB428_431 := n14_; have NB431_428 := n15_; have NB432_431 := n16_; have NB431_432 := n17_; have GW432 := n18_; have GE432 := n19_; have NB425_432 := n20_; have NB432_425 := n21_; have NB426_432 := n22_; have NB432_426 := n23_; have NB427_432 := n24_; have NB432_427 := n25_; have NB428_432 := n26_; have NB432_428 := n27_; have HB := n28_; clear n0_ n1_ n2_ n3_ n4_ n5_ n6_ n7_ n8_ n9_ n10_ n11_ n12_ n13_ n14_ n15_ n16_ n17_ n18_ n19_ n20_ n21_ n22_ n23_ n24_ n25_ n26_ n27_ n28_
       have hHeld : w24.cell? ⟨gb425, 0, none⟩ = some (.slice (some ad429) l0_0.length c0_0) ∧ w24.cell? ⟨gb425, 1, none⟩ = some (.int .i64 a0_1) ∧ w24.cell? (ad429.add (((ji12)).toNat * 2)) = some (.int .i64 ((rd_T94 l0_0 (ji12)).f0)) ∧ w24.cell? ⟨(ad429.add (((ji12)).toNat * 2)).block, (ad429.add (((ji12)).toNat * 2)).off + 1, none⟩ = some (.int .i64 ((rd_T94 l0_0 (ji12)).f1)) ∧ w24.cell? (ad429.add ((x6_1).toNat * 2)) = some (.int .i64 ((rd_T94 l0_0 x6_1).f0)) ∧ w24.cell? ⟨(ad429.add ((x6_1).toNat * 2)).block, (ad429.add ((x6_1).toNat * 2)).off + 1, none⟩ = some (.int .i64 ((rd_T94 l0_0 x6_1).f1)) := hS_
       refine norm_ (a' := ?_) ?_ ?_
       rotate_left
       ·simp only [putAll, Act.put, List.setIfInBounds_toArray, List.set_cons_zero, List.set_cons_succ]
        rfl
       refine one_ (i := 13) (N := none) (bA 15 16383) rfl rfl (one_of HT_.out (by kernel_rfl)) (by decide) (fun K hK => ?_)
       have hs25 : w24.cell? ⟨gb431, 0, none⟩ = some (.int .i64 0) := (blk_cell BK431.out 0).trans rfl
       have hfs25 := blk_frozen BK431.out 0; have hns25_0 := NB425_431.out; have hns25_1 := NB426_431.out; have hns25_2 := NB427_431.out; have hns25_3 := NB428_431.out; have hns25_5 := NB432_431.out; have hms25_0 := NB431_425.out; have hms25_1 := NB431_426.out; have hms25_2 := NB431_427.out; have hms25_3 := NB431_428.out; have hms25_5 := NB431_432.out
       have hs26 : w24.cell? ⟨gb431, 1, none⟩ = some (.int .i64 0) := (blk_cell BK431.out 1).trans rfl
       have hfs26 := blk_frozen BK431.out 1; have hns26_0 := NB425_431.out; have hns26_1 := NB426_431.out; have hns26_2 := NB427_431.out; have hns26_3 := NB428_431.out; have hns26_5 := NB432_431.out; have hms26_0 := NB431_425.out; have hms26_1 := NB431_426.out; have hms26_2 := NB431_427.out; have hms26_3 := NB431_428.out; have hms26_5 := NB431_432.out
       refine skip_ (w1 := ?_) (by rfl) rfl ?_ ?_
       rotate_left
       ·go_simp
        rfl
       refine hK.out _ _ ⟨((cell_far (p := ⟨gb431, _, none⟩) NB425_431.out _).trans (((cell_far (p := ⟨gb431, _, none⟩) NB425_431.out _).trans (hHeld.1)))), ((cell_far (p := ⟨gb431, _, none⟩) NB425_431.out _).trans (((cell_far (p := ⟨gb431, _, none⟩) NB425_431.out _).trans (hHeld.2.1)))), ((cell_far (p := ⟨gb431, _, none⟩) (nX hw429_0 GW431.out) _).trans (((cell_far (p := ⟨gb431, _, none⟩) (nX hw429_0 GW431.out) _).trans (hHeld.2.2.1)))), ((cell_far (p := ⟨gb431, _, none⟩) (nX hw429_1 GW431.out) _).trans (((cell_far (p := ⟨gb431, _, none⟩) (nX hw429_1 GW431.out) _).trans (hHeld.2.2.2.1)))), ((cell_far (p := ⟨gb431, _, none⟩) (nX hw430_0 GW431.out) _).trans (((cell_far (p := ⟨gb431, _, none⟩) (nX hw430_0 GW431.out) _).trans (hHeld.2.2.2.2.1)))), ((cell_far (p := ⟨gb431, _, none⟩) (nX hw430_1 GW431.out) _).trans (((cell_far (p := ⟨gb431, _, none⟩) (nX hw430_1 GW431.out) _).trans (hHeld.2.2.2.2.2))))⟩ (fun hHeld => ?_)
       clear hK K
       refine one_ (i := 14) (N := none) (bA 15 32767) rfl rfl (one_of HT_.out (by kernel_rfl)) (by decide) (fun K hK => ?_)
       have hs27 : w24.cell? ⟨gb432, 0, none⟩ = some (.int .i64 0) := (blk_cell BK432.out 0).trans rfl
       have hfs27 := blk_frozen BK432.out 0; have hns27_0 := NB425_432.out; have hns27_1 := NB426_432.out; have hns27_2 := NB427_432.out; have hns27_3 := NB428_432.out; have hns27_4 := NB431_432.out; have hms27_0 := NB432_425.out; have hms27_1 := NB432_426.out; have hms27_2 := NB432_427.out; have hms27_3 := NB432_428.out; have hms27_4 := NB432_431.out
       have hs28 : w24.cell? ⟨gb432, 1, none⟩ = some (.int .i64 0) := (blk_cell BK432.out 1).trans rfl
       have hfs28 := blk_frozen BK432.out 1; have hns28_0 := NB425_432.out; have hns28_1 := NB426_432.out; have hns28_2 := NB427_432.out; have hns28_3 := NB428_432.out; have hns28_4 := NB431_432.out; have hms28_0 := NB432_425.out; have hms28_1 := NB432_426.out; have hms28_2 := NB432_427.out; have hms28_3 := NB432_428.out; have hms28_4 := NB432_431.out
       refine skip_ (w1 := ?_) (by rfl) rfl ?_ ?_
       rotate_left
       ·go_simp
        rfl
       refine hK.out _ _ ⟨((cell_far (p := ⟨gb432, _, none⟩) NB425_432.out _).trans (((cell_far (p := ⟨gb432, _, none⟩) NB425_432.out _).trans (hHeld.1)))), ((cell_far (p := ⟨gb432, _, none⟩) NB425_432.out _).trans (((cell_far (p := ⟨gb432, _, none⟩) NB425_432.out _).trans (hHeld.2.1)))), ((cell_far (p := ⟨gb432, _, none⟩) (nX hw429_0 GW432.out) _).trans (((cell_far (p := ⟨gb432, _, none⟩) (nX hw429_0 GW432.out) _).trans (hHeld.2.2.1)))), ((cell_far (p := ⟨gb432, _, none⟩) (nX hw429_1 GW432.out) _).trans (((cell_far (p := ⟨gb432, _, none⟩) (nX hw429_1 GW432.out) _).trans (hHeld.2.2.2.1)))), ((cell_far (p := ⟨gb432, _, none⟩) (nX hw430_0 GW432.out) _).trans (((cell_far (p := ⟨gb432, _, none⟩) (nX hw430_0 GW432.out) _).trans (hHeld.2.2.2.2.1)))), ((cell_far (p := ⟨gb432, _, none⟩) (nX hw430_1 GW432.out) _).trans (((cell_far (p := ⟨gb432, _, none⟩) (nX hw430_1 GW432.out) _).trans (hHeld.2.2.2.2.2))))⟩ (fun hHeld => ?_)
       clear hK K
       refine done_ (done_of HT_.out (by kernel_rfl)) ?_
       go_upto_region 6 with (fail)
       go_cut [47] (fun v47 wc => ∃ (kq : Nat) (x47_15 : Bool), v47 = .bool x47_15 ∧ Sd (st_steepest.j1 kq x6_1 x47_15 l0_0 a0_1 a1_0 a1_1 x429000_1 x429001_1 ((rd_T94 l0_0 (ji12)).f0) ((rd_T94 l0_0 (ji12)).f1) ((rd_T94 l0_0 x6_1).f0) ((rd_T94 l0_0 x6_1).f1) = some (r1, r2)) ∧ Sd (kq ≤ k1) ∧ Sd (wc.heap[gb425]? = some (.cells #[(.slice (some ad429) l0_0.length c0_0), .int .i64 a0_1] 46 (0, 0))) ∧ Sd (wc.heap[gb426]? = some (.cells #[.int .i64 a1_0, .int .i64 a1_1] 27 (0, 0))) ∧ Sd (wc.heap[gb427]? = some (.cells #[.int .i64 0, .int .i64 0] 163 (0, 0))) ∧ Sd (wc.heap[gb428]? = some (.cells #[.int .i64 x429000_1, .int .i64 x429001_1] 163 (0, 0))) ∧ Sd (wc.heap[gb431]? = some (.cells #[.int .i64 ((rd_T94 l0_0 (ji12)).f0), .int .i64 ((rd_T94 l0_0 (ji12)).f1)] 94 (0, 0))) ∧ Sd (wc.heap[gb432]? = some (.cells #[.int .i64 ((rd_T94 l0_0 x6_1).f0), .int .i64 ((rd_T94 l0_0 x6_1).f1)] 94 (0, 0))) ∧ Sd (Below w.heap.size w wc))
       case first =>
        have H := HC16.out; clear HC16
        by_cases c29 : ((rd_T94 l0_0 (ji12)).f1) ≤ ((rd_T94 l0_0 x6_1).f1)
        ·rw [if_pos c29] at H
         have c29b0 : decide (((rd_T94 l0_0 (ji12)).f1) ≤ ((rd_T94 l0_0 x6_1).f1)) = true := decide_eq_true c29
         clear c29
         (first | rw [c29b0] | (simp only [i64_w, i32_w]; rw [c29b0]) | skip)
         have H' := Sd.mk H; clear H; have hnb30 := NB431_425.out; have hnc30 := NB425_431.out; have hnb31 := NB431_426.out; have hnc31 := NB426_431.out; have hnb32 := NB431_427.out; have hnc32 := NB427_431.out; have hnb33 := NB431_428.out; have hnc33 := NB428_431.out; have hnb34 := NB431_432.out; have hnc34 := NB432_431.out; obtain ⟨u35_0, u35_1, o35_0, o35_1⟩ := bc2 (w := w24) BK431.out; have hnb36 := NB432_425.out; have hnc36 := NB425_432.out; have hnb37 := NB432_426.out; have hnc37 := NB426_432.out; have hnb38 := NB432_427.out; have hnc38 := NB427_432.out; have hnb39 := NB432_428.out; have hnc39 := NB428_432.out; obtain ⟨u40_0, u40_1, o40_0, o40_1⟩ := bc2 (w := w24) BK432.out
         go_wp2
         go_meet
         case rel => exact ⟨_, (true), tS, H', ⟨by have := HK1.out; first | omega | exact Nat.le_refl _⟩, ⟨by refine bkZ ?_; refine blk_far ?_ NB425_432.out _; refine bkZ ?_; refine blk_far ?_ NB425_432.out _; refine bkZ ?_; refine blk_far ?_ NB425_431.out _; refine bkZ ?_; refine blk_far ?_ NB425_431.out _; refine bkZ ?_; exact BK425.out⟩, ⟨by refine bkZ ?_; refine blk_far ?_ NB426_432.out _; refine bkZ ?_; refine blk_far ?_ NB426_432.out _; refine bkZ ?_; refine blk_far ?_ NB426_431.out _; refine bkZ ?_; refine blk_far ?_ NB426_431.out _; refine bkZ ?_; exact BK426.out⟩, ⟨by refine bkZ ?_; refine blk_far ?_ NB427_432.out _; refine bkZ ?_; refine blk_far ?_ NB427_432.out _; refine bkZ ?_; refine blk_far ?_ NB427_431.out _; refine bkZ ?_; refine blk_far ?_ NB427_431.out _; refine bkZ ?_; exact BK427.out⟩, ⟨by refine bkZ ?_; refine blk_far ?_ NB428_432.out _; refine bkZ ?_; refine blk_far ?_ NB428_432.out _; refine bkZ ?_; refine blk_far ?_ NB428_431.out _; refine bkZ ?_; refine blk_far ?_ NB428_431.out _; refine bkZ ?_; exact BK428.out⟩, ⟨by refine bkZ ?_; refine blk_far ?_ NB431_432.out _; refine bkZ ?_; refine blk_far ?_ NB431_432.out _; refine bkZ ?_; refine blk_put (cs := #[.int .i64 ((rd_T94 l0_0 (ji12)).f0), .int .i64 0]) ?_ 1 _ rfl; refine bkZ ?_; refine blk_put (cs := #[.int .i64 0, .int .i64 0]) ?_ 0 _ rfl; refine bkZ ?_; exact BK431.out⟩, ⟨by refine bkZ ?_; refine blk_put (cs := #[.int .i64 ((rd_T94 l0_0 x6_1).f0), .int .i64 0]) ?_ 1 _ rfl; refine bkZ ?_; refine blk_put (cs := #[.int .i64 0, .int .i64 0]) ?_ 0 _ rfl; refine bkZ ?_; refine blk_far ?_ NB432_431.out _; refine bkZ ?_; refine blk_far ?_ NB432_431.out _; refine bkZ ?_; exact BK432.out⟩, ⟨bBl HB.out⟩⟩
        ·rw [if_neg c29] at H
         have c29b0 : decide (((rd_T94 l0_0 (ji12)).f1) ≤ ((rd_T94 l0_0 x6_1).f1)) = false := decide_eq_false c29
         clear c29
         (first | rw [c29b0] | (simp only [i64_w, i32_w]; rw [c29b0]) | skip)
         by_cases c41 : ((rd_T94 l0_0 x6_1).f1) > a1_1
         ·rw [if_pos c41] at H
          have c41b0 : decide (a1_1 < ((rd_T94 l0_0 x6_1).f1)) = true := decide_eq_true c41
          clear c41; have H' := Sd.mk H; clear H; have hnb42 := NB431_425.out; have hnc42 := NB425_431.out; have hnb43 := NB431_426.out; have hnc43 := NB426_431.out; have hnb44 := NB431_427.out; have hnc44 := NB427_431.out; have hnb45 := NB431_428.out; have hnc45 := NB428_431.out; have hnb46 := NB431_432.out; have hnc46 := NB432_431.out; obtain ⟨u47_0, u47_1, o47_0, o47_1⟩ := bc2 (w := w24) BK431.out; have hnb48 := NB432_425.out; have hnc48 := NB425_432.out; have hnb49 := NB432_426.out; have hnc49 := NB426_432.out; have hnb50 := NB432_427.out; have hnc50 := NB427_432.out; have hnb51 := NB432_428.out; have hnc51 := NB428_432.out; obtain ⟨u52_0, u52_1, o52_0, o52_1⟩ := bc2 (w := w24) BK432.out; have hnb53 := NB426_425.out; have hnc53 := NB425_426.out; have hnb54 := NB426_427.out; have hnc54 := NB427_426.out; have hnb55 := NB426_428.out; have hnc55 := NB428_426.out; obtain ⟨u56_0, u56_1, o56_0, o56_1⟩ := bc2 (w := w24) BK426.out
          go_wp2
          go_meet
          case rel => exact ⟨_, (true), tS, H', ⟨by have := HK1.out; first | omega | exact Nat.le_refl _⟩, ⟨by refine bkZ ?_; refine blk_far ?_ NB425_432.out _; refine bkZ ?_; refine blk_far ?_ NB425_432.out _; refine bkZ ?_; refine blk_far ?_ NB425_431.out _; refine bkZ ?_; refine blk_far ?_ NB425_431.out _; refine bkZ ?_; exact BK425.out⟩, ⟨by refine bkZ ?_; refine blk_far ?_ NB426_432.out _; refine bkZ ?_; refine blk_far ?_ NB426_432.out _; refine bkZ ?_; refine blk_far ?_ NB426_431.out _; refine bkZ ?_; refine blk_far ?_ NB426_431.out _; refine bkZ ?_; exact BK426.out⟩, ⟨by refine bkZ ?_; refine blk_far ?_ NB427_432.out _; refine bkZ ?_; refine blk_far ?_ NB427_432.out _; refine bkZ ?_; refine blk_far ?_ NB427_431.out _; refine bkZ ?_; refine blk_far ?_ NB427_431.out _; refine bkZ ?_; exact BK427.out⟩, ⟨by refine bkZ ?_; refine blk_far ?_ NB428_432.out _; refine bkZ ?_; refine blk_far ?_ NB428_432.out _; refine bkZ ?_; refine blk_far ?_ NB428_431.out _; refine bkZ ?_; refine blk_far ?_ NB428_431.out _; refine bkZ ?_; exact BK428.out⟩, ⟨by refine bkZ ?_; refine blk_far ?_ NB431_432.out _; refine bkZ ?_; refine blk_far ?_ NB431_432.out _; refine bkZ ?_; refine blk_put (cs := #[.int .i64 ((rd_T94 l0_0 (ji12)).f0), .int .i64 0]) ?_ 1 _ rfl; refine bkZ ?_; refine blk_put (cs := #[.int .i64 0, .int .i64 0]) ?_ 0 _ rfl; refine bkZ ?_; exact BK431.out⟩, ⟨by refine bkZ ?_; refine blk_put (cs := #[.int .i64 ((rd_T94 l0_0 x6_1).f0), .int .i64 0]) ?_ 1 _ rfl; refine bkZ ?_; refine blk_put (cs := #[.int .i64 0, .int .i64 0]) ?_ 0 _ rfl; refine bkZ ?_; refine blk_far ?_ NB432_431.out _; refine bkZ ?_; refine blk_far ?_ NB432_431.out _; refine bkZ ?_; exact BK432.out⟩, ⟨bBl HB.out⟩⟩
         ·rw [if_neg c41] at H
          have c41b0 : decide (a1_1 < ((rd_T94 l0_0 x6_1).f1)) = false := decide_eq_false c41
          clear c41; have H' := Sd.mk H; clear H; have hnb57 := NB431_425.out; have hnc57 := NB425_431.out; have hnb58 := NB431_426.out; have hnc58 := NB426_431.out; have hnb59 := NB431_427.out; have hnc59 := NB427_431.out; have hnb60 := NB431_428.out; have hnc60 := NB428_431.out; have hnb61 := NB431_432.out; have hnc61 := NB432_431.out; obtain ⟨u62_0, u62_1, o62_0, o62_1⟩ := bc2 (w := w24) BK431.out; have hnb63 := NB432_425.out; have hnc63 := NB425_432.out; have hnb64 := NB432_426.out; have hnc64 := NB426_432.out; have hnb65 := NB432_427.out; have hnc65 := NB427_432.out; have hnb66 := NB432_428.out; have hnc66 := NB428_432.out; obtain ⟨u67_0, u67_1, o67_0, o67_1⟩ := bc2 (w := w24) BK432.out; have hnb68 := NB426_425.out; have hnc68 := NB425_426.out; have hnb69 := NB426_427.out; have hnc69 := NB427_426.out; have hnb70 := NB426_428.out; have hnc70 := NB428_426.out; obtain ⟨u71_0, u71_1, o71_0, o71_1⟩ := bc2 (w := w24) BK426.out
          go_wp2
          go_meet
          case rel => exact ⟨_, (decide (((rd_T94 l0_0 (ji12)).f1) < a1_0)), (by first | rfl | (simp; done) | (simp only [← hji12] <;> (first | rfl | simp)) | (simp [*]; done)), H', ⟨by have := HK1.out; first | omega | exact Nat.le_refl _⟩, ⟨by refine bkZ ?_; refine blk_far ?_ NB425_432.out _; refine bkZ ?_; refine blk_far ?_ NB425_432.out _; refine bkZ ?_; refine blk_far ?_ NB425_431.out _; refine bkZ ?_; refine blk_far ?_ NB425_431.out _; refine bkZ ?_; exact BK425.out⟩, ⟨by refine bkZ ?_; refine blk_far ?_ NB426_432.out _; refine bkZ ?_; refine blk_far ?_ NB426_432.out _; refine bkZ ?_; refine blk_far ?_ NB426_431.out _; refine bkZ ?_; refine blk_far ?_ NB426_431.out _; refine bkZ ?_; exact BK426.out⟩, ⟨by refine bkZ ?_; refine blk_far ?_ NB427_432.out _; refine bkZ ?_; refine blk_far ?_ NB427_432.out _; refine bkZ ?_; refine blk_far ?_ NB427_431.out _; refine bkZ ?_; refine blk_far ?_ NB427_431.out _; refine bkZ ?_; exact BK427.out⟩, ⟨by refine bkZ ?_; refine blk_far ?_ NB428_432.out _; refine bkZ ?_; refine blk_far ?_ NB428_432.out _; refine bkZ ?_; refine blk_far ?_ NB428_431.out _; refine bkZ ?_; refine blk_far ?_ NB428_431.out _; refine bkZ ?_; exact BK428.out⟩, ⟨by refine bkZ ?_; refine blk_far ?_ NB431_432.out _; refine bkZ ?_; refine blk_far ?_ NB431_432.out _; refine bkZ ?_; refine blk_put (cs := #[.int .i64 ((rd_T94 l0_0 (ji12)).f0), .int .i64 0]) ?_ 1 _ rfl; refine bkZ ?_; refine blk_put (cs := #[.int .i64 0, .int .i64 0]) ?_ 0 _ rfl; refine bkZ ?_; exact BK431.out⟩, ⟨by refine bkZ ?_; refine blk_put (cs := #[.int .i64 ((rd_T94 l0_0 x6_1).f0), .int .i64 0]) ?_ 1 _ rfl; refine bkZ ?_; refine blk_put (cs := #[.int .i64 0, .int .i64 0]) ?_ 0 _ rfl; refine bkZ ?_; refine blk_far ?_ NB432_431.out _; refine bkZ ?_; refine blk_far ?_ NB432_431.out _; refine bkZ ?_; exact BK432.out⟩, ⟨bBl HB.out⟩⟩
       case rest =>
        clear HC16; (try clear c2); (try clear p2); (try clear c3); (try clear c4); (try clear p4); (try clear q4); (try clear hx4); (try clear c5); (try clear c6); (try clear c7); (try clear c29); (try clear c29b0); (try clear c30); (try clear c31); (try clear c32); (try clear c33); (try clear c34); (try clear c36); (try clear c37); (try clear c38); (try clear c39); (try clear c41); (try clear c41b0); (try clear c42); (try clear p42); (try clear q42); (try clear hx42); (try clear c43); (try clear p43); (try clear q43); (try clear hx43); (try clear c44); (try clear c45); (try clear c46); (try clear c48); (try clear c49); (try clear c50); (try clear c51); (try clear c53); (try clear c54); (try clear c55); (try clear c57); (try clear c58); (try clear c59); (try clear c60); (try clear c61); (try clear c63); (try clear c64); (try clear c65); (try clear c66); (try clear c68); (try clear c69); (try clear c70); (try clear u35_0 u35_1); (try clear u40_0 u40_1); (try clear u47_0 u47_1); (try clear u52_0 u52_1); (try clear u56_0 u56_1); (try clear u62_0 u62_1); (try clear u67_0 u67_1); (try clear u71_0 u71_1); (try clear o35_0 o35_1); (try clear o40_0 o40_1); (try clear o47_0 o47_1); (try clear o52_0 o52_1); (try clear o56_0 o56_1); (try clear o62_0 o62_1); (try clear o67_0 o67_1); (try clear o71_0 o71_1); (try clear hx429_0); (try clear hx429_1); (try clear hx430_0); (try clear hx430_1); (try clear p429); (try clear p430); (try clear q429); (try clear q430); obtain ⟨kq, x47_15, rfl, HA, HJ15, BK425, BK426, BK427, BK428, BK431, BK432, HB⟩ := hcut
        cases kq with
        | zero => exact absurd HA.out (by simp [st_steepest.j1])
        | succ kj15 =>
         have H := HA.out; clear HA
         simp only [st_steepest.j1] at H
         by_cases c72 : x47_15 = true
         ·subst c72
          have H1 : (st_steepest.l0 kj15 (wrap64 (x6_1 + 1)) l0_0 a0_1 a1_0 a1_1 x429000_1 x429001_1) = some (r1, r2) := by rw [if_pos rfl] at H; exact H
          clear H; have H := H1; clear H1; have H' := Sd.mk H; clear H
          go_wp2
          go_roundg kj15
          case measure => have := HK1.out; have := HJ15.out; omega
          case rel => exact ⟨(wrap64 (x6_1 + 1)), (x429000_1), (x429001_1), tS, H', ⟨by have := HK1.out; have := HJ15.out; omega⟩, ⟨bkA BK425.out⟩, ⟨bkA BK426.out⟩, ⟨bkA BK427.out⟩, ⟨bkA BK428.out⟩, ⟨bBl HB.out⟩⟩
         ·replace c72 := Bool.eq_false_iff.mpr c72
          subst c72
          have H1 : ((st_quotient_above.f (wrap64 (((rd_T94 l0_0 (ji12)).f1) - ((rd_T94 l0_0 x6_1).f1))) (wrap64 (((rd_T94 l0_0 x6_1).f0) - ((rd_T94 l0_0 (ji12)).f0))) x429000_1 x429001_1).bind fun t434 => (if t434 = true then (st_steepest.l0 kj15 (wrap64 (x6_1 + 1)) l0_0 a0_1 a1_0 a1_1 (wrap64 (((rd_T94 l0_0 (ji12)).f1) - ((rd_T94 l0_0 x6_1).f1))) (wrap64 (((rd_T94 l0_0 x6_1).f0) - ((rd_T94 l0_0 (ji12)).f0)))) else (st_steepest.l0 kj15 (wrap64 (x6_1 + 1)) l0_0 a0_1 a1_0 a1_1 x429000_1 x429001_1))) = some (r1, r2) := by rw [if_neg (show ¬ (false = true) by decide)] at H; exact H
          clear H; have H := H1; clear H1; replace H := Option.bind_eq_some_iff.mp H; obtain ⟨t434, A730, H⟩ := H
          try dsimp only at H
          have A73 := Sd.mk A730; clear A730
          by_cases c74 : t434 = true
          ·subst c74
           have H1 : (st_steepest.l0 kj15 (wrap64 (x6_1 + 1)) l0_0 a0_1 a1_0 a1_1 (wrap64 (((rd_T94 l0_0 (ji12)).f1) - ((rd_T94 l0_0 x6_1).f1))) (wrap64 (((rd_T94 l0_0 x6_1).f0) - ((rd_T94 l0_0 (ji12)).f0)))) = some (r1, r2) := by rw [if_pos rfl] at H; exact H
           clear H; have H := H1; clear H1; have H' := Sd.mk H; clear H; have hnb75 := NB431_425.out; have hnc75 := NB425_431.out; have hnb76 := NB431_426.out; have hnc76 := NB426_431.out; have hnb77 := NB431_427.out; have hnc77 := NB427_431.out; have hnb78 := NB431_428.out; have hnc78 := NB428_431.out; have hnb79 := NB431_432.out; have hnc79 := NB432_431.out; obtain ⟨u80_0, u80_1, o80_0, o80_1⟩ := bc2 (w := wc) BK431.out; have hnb81 := NB432_425.out; have hnc81 := NB425_432.out; have hnb82 := NB432_426.out; have hnc82 := NB426_432.out; have hnb83 := NB432_427.out; have hnc83 := NB427_432.out; have hnb84 := NB432_428.out; have hnc84 := NB428_432.out; obtain ⟨u85_0, u85_1, o85_0, o85_1⟩ := bc2 (w := wc) BK432.out
           go_wp2_with (first | ((with_reducible refine gate_dst (N := 9) rfl ?_); refine box_event ?hg (N := 9) ?hd (cs := #[.int .i64 0, .int .i64 0]) (t := 163) ?hr ?_; (case hd => rfl); (case hg => rfl); (case hr => exact tG); intro gb433 hg w86 hbox hb; have BK433 := Sd.mk (hbox); have GW433 := Sd.mk (bSz hg (bBl HB.out)); have GE433 := Sd.mk (bSz hg (bBl HB.out)); replace HB := Sd.mk (below_step (bBl HB.out) hb); have NB425_433 := Sd.mk (bNl hg (bkA BK425.out)); have NB433_425 := Sd.mk (bNg hg (bkA BK425.out)); replace BK425 := Sd.mk (blk_below (bkA BK425.out) hb); have NB426_433 := Sd.mk (bNl hg (bkA BK426.out)); have NB433_426 := Sd.mk (bNg hg (bkA BK426.out)); replace BK426 := Sd.mk (blk_below (bkA BK426.out) hb); have NB427_433 := Sd.mk (bNl hg (bkA BK427.out)); have NB433_427 := Sd.mk (bNg hg (bkA BK427.out)); replace BK427 := Sd.mk (blk_below (bkA BK427.out) hb); have NB428_433 := Sd.mk (bNl hg (bkA BK428.out)); have NB433_428 := Sd.mk (bNg hg (bkA BK428.out)); replace BK428 := Sd.mk (blk_below (bkA BK428.out) hb); have NB431_433 := Sd.mk (bNl hg (bkA BK431.out)); have NB433_431 := Sd.mk (bNg hg (bkA BK431.out)); replace BK431 := Sd.mk (blk_below (bkA BK431.out) hb); have NB432_433 := Sd.mk (bNl hg (bkA BK432.out)); have NB433_432 := Sd.mk (bNg hg (bkA BK432.out)); replace BK432 := Sd.mk (blk_below (bkA BK432.out) hb); clear hb hbox hg; have hnb87 := NB433_425.out; have hnc87 := NB425_433.out; have hnb88 := NB433_426.out; have hnc88 := NB426_433.out; have hnb89 := NB433_427.out; have hnc89 := NB427_433.out; have hnb90 := NB433_428.out; have hnc90 := NB428_433.out; have hnb91 := NB433_431.out; have hnc91 := NB431_433.out; have hnb92 := NB433_432.out; have hnc92 := NB432_433.out; obtain ⟨u93_0, u93_1, o93_0, o93_1⟩ := bc2 (w := w86) BK433.out; have hnb94 := NB428_425.out; have hnc94 := NB425_428.out; have hnb95 := NB428_426.out; have hnc95 := NB426_428.out; have hnb96 := NB428_427.out; have hnc96 := NB427_428.out; obtain ⟨u97_0, u97_1, o97_0, o97_1⟩ := bc2 (w := w86) BK428.out) | ((with_reducible refine gate_callee (f := 195) rfl ?_); refine goesL_ (some 61) rfl rfl Tryz.func195 (by kernel_rfl) rfl #[.agg #[.int .i64 (wrap64 (((rd_T94 l0_0 (ji12)).f1) - ((rd_T94 l0_0 x6_1).f1))), .int .i64 (wrap64 (((rd_T94 l0_0 x6_1).f0) - ((rd_T94 l0_0 (ji12)).f0)))], .agg #[.int .i64 x429000_1, .int .i64 x429001_1]] rfl (by (try simp only [List.map_toArray, List.map_cons, List.map_nil]); first | done | (simp only [hji12]; rfl) | rfl | (simp only [List.length_drop, List.length_take]; rfl)) ?_; (with_reducible refine (st_quotient_above.calls (wrap64 (((rd_T94 l0_0 (ji12)).f1) - ((rd_T94 l0_0 x6_1).f1))) (wrap64 (((rd_T94 l0_0 x6_1).f0) - ((rd_T94 l0_0 (ji12)).f0))) x429000_1 x429001_1 true _ A73.out).mono ?_); rintro e w98 ⟨rfl, hb⟩; refine ⟨_, rfl, ?_⟩; replace BK425 := Sd.mk (blk_below (g := gb425) (o := .cells #[.slice (some ad429) l0_0.length c0_0, .int .i64 a0_1] 46 (0, 0)) (by refine bkZ ?_; refine blk_far ?_ NB425_433.out _; refine bkZ ?_; refine blk_far ?_ NB425_433.out _; refine bkZ ?_; exact BK425.out) hb); replace BK426 := Sd.mk (blk_below (g := gb426) (o := .cells #[.int .i64 a1_0, .int .i64 a1_1] 27 (0, 0)) (by refine bkZ ?_; refine blk_far ?_ NB426_433.out _; refine bkZ ?_; refine blk_far ?_ NB426_433.out _; refine bkZ ?_; exact BK426.out) hb); replace BK427 := Sd.mk (blk_below (g := gb427) (o := .cells #[.int .i64 0, .int .i64 0] 163 (0, 0)) (by refine bkZ ?_; refine blk_far ?_ NB427_433.out _; refine bkZ ?_; refine blk_far ?_ NB427_433.out _; refine bkZ ?_; exact BK427.out) hb); replace BK428 := Sd.mk (blk_below (g := gb428) (o := .cells #[.int .i64 x429000_1, .int .i64 x429001_1] 163 (0, 0)) (by refine bkZ ?_; refine blk_far ?_ NB428_433.out _; refine bkZ ?_; refine blk_far ?_ NB428_433.out _; refine bkZ ?_; exact BK428.out) hb); replace BK431 := Sd.mk (blk_below (g := gb431) (o := .cells #[.int .i64 ((rd_T94 l0_0 (ji12)).f0), .int .i64 ((rd_T94 l0_0 (ji12)).f1)] 94 (0, 0)) (by refine bkZ ?_; refine blk_far ?_ NB431_433.out _; refine bkZ ?_; refine blk_far ?_ NB431_433.out _; refine bkZ ?_; exact BK431.out) hb); replace BK432 := Sd.mk (blk_below (g := gb432) (o := .cells #[.int .i64 ((rd_T94 l0_0 x6_1).f0), .int .i64 ((rd_T94 l0_0 x6_1).f1)] 94 (0, 0)) (by refine bkZ ?_; refine blk_far ?_ NB432_433.out _; refine bkZ ?_; refine blk_far ?_ NB432_433.out _; refine bkZ ?_; exact BK432.out) hb); replace BK433 := Sd.mk (blk_below (g := gb433) (o := .cells #[.int .i64 (wrap64 (((rd_T94 l0_0 (ji12)).f1) - ((rd_T94 l0_0 x6_1).f1))), .int .i64 (wrap64 (((rd_T94 l0_0 x6_1).f0) - ((rd_T94 l0_0 (ji12)).f0)))] 163 (0, 0)) (by refine bkZ ?_; refine blk_put (cs := #[.int .i64 (wrap64 (((rd_T94 l0_0 (ji12)).f1) - ((rd_T94 l0_0 x6_1).f1))), .int .i64 0]) ?_ 1 _ rfl; refine bkZ ?_; refine blk_put (cs := #[.int .i64 0, .int .i64 0]) ?_ 0 _ rfl; refine bkZ ?_; exact BK433.out) hb); replace HB := Sd.mk (below_step (bBl HB.out) hb); (try clear hb); (try clear hb2); (try clear hk); (try clear hi); obtain ⟨u99_0, u99_1, o99_0, o99_1⟩ := bc2 (w := w98) BK433.out; obtain ⟨u100_0, u100_1, o100_0, o100_1⟩ := bc2 (w := w98) BK428.out))
           go_roundg kj15
           case measure => have := HK1.out; have := HJ15.out; omega
           case rel => exact ⟨(wrap64 (x6_1 + 1)), (wrap64 (((rd_T94 l0_0 (ji12)).f1) - ((rd_T94 l0_0 x6_1).f1))), (wrap64 (((rd_T94 l0_0 x6_1).f0) - ((rd_T94 l0_0 (ji12)).f0))), tS, H', ⟨by have := HK1.out; have := HJ15.out; omega⟩, ⟨by refine bkZ ?_; refine blk_far ?_ NB425_428.out _; refine bkZ ?_; refine blk_far ?_ NB425_428.out _; refine bkZ ?_; exact BK425.out⟩, ⟨by refine bkZ ?_; refine blk_far ?_ NB426_428.out _; refine bkZ ?_; refine blk_far ?_ NB426_428.out _; refine bkZ ?_; exact BK426.out⟩, ⟨by refine bkZ ?_; refine blk_far ?_ NB427_428.out _; refine bkZ ?_; refine blk_far ?_ NB427_428.out _; refine bkZ ?_; exact BK427.out⟩, ⟨by refine bkZ ?_; refine blk_put (cs := #[.int .i64 (wrap64 (((rd_T94 l0_0 (ji12)).f1) - ((rd_T94 l0_0 x6_1).f1))), .int .i64 x429001_1]) ?_ 1 _ rfl; refine bkZ ?_; refine blk_put (cs := #[.int .i64 x429000_1, .int .i64 x429001_1]) ?_ 0 _ rfl; refine bkZ ?_; exact BK428.out⟩, ⟨bBl HB.out⟩⟩
          ·replace c74 := Bool.eq_false_iff.mpr c74
           subst c74
           have H1 : (st_steepest.l0 kj15 (wrap64 (x6_1 + 1)) l0_0 a0_1 a1_0 a1_1 x429000_1 x429001_1) = some (r1, r2) := by rw [if_neg (show ¬ (false = true) by decide)] at H; exact H
           clear H; have H := H1; clear H1; have H' := Sd.mk H; clear H; have hnb101 := NB431_425.out; have hnc101 := NB425_431.out; have hnb102 := NB431_426.out; have hnc102 := NB426_431.out; have hnb103 := NB431_427.out; have hnc103 := NB427_431.out; have hnb104 := NB431_428.out; have hnc104 := NB428_431.out; have hnb105 := NB431_432.out; have hnc105 := NB432_431.out; obtain ⟨u106_0, u106_1, o106_0, o106_1⟩ := bc2 (w := wc) BK431.out; have hnb107 := NB432_425.out; have hnc107 := NB425_432.out; have hnb108 := NB432_426.out; have hnc108 := NB426_432.out; have hnb109 := NB432_427.out; have hnc109 := NB427_432.out; have hnb110 := NB432_428.out; have hnc110 := NB428_432.out; obtain ⟨u111_0, u111_1, o111_0, o111_1⟩ := bc2 (w := wc) BK432.out
           go_wp2_with (first | ((with_reducible refine gate_dst (N := 9) rfl ?_); refine box_event ?hg (N := 9) ?hd (cs := #[.int .i64 0, .int .i64 0]) (t := 163) ?hr ?_; (case hd => rfl); (case hg => rfl); (case hr => exact tG); intro gb433 hg w112 hbox hb; have BK433 := Sd.mk (hbox); have GW433 := Sd.mk (bSz hg (bBl HB.out)); have GE433 := Sd.mk (bSz hg (bBl HB.out)); replace HB := Sd.mk (below_step (bBl HB.out) hb); have NB425_433 := Sd.mk (bNl hg (bkA BK425.out)); have NB433_425 := Sd.mk (bNg hg (bkA BK425.out)); replace BK425 := Sd.mk (blk_below (bkA BK425.out) hb); have NB426_433 := Sd.mk (bNl hg (bkA BK426.out)); have NB433_426 := Sd.mk (bNg hg (bkA BK426.out)); replace BK426 := Sd.mk (blk_below (bkA BK426.out) hb); have NB427_433 := Sd.mk (bNl hg (bkA BK427.out)); have NB433_427 := Sd.mk (bNg hg (bkA BK427.out)); replace BK427 := Sd.mk (blk_below (bkA BK427.out) hb); have NB428_433 := Sd.mk (bNl hg (bkA BK428.out)); have NB433_428 := Sd.mk (bNg hg (bkA BK428.out)); replace BK428 := Sd.mk (blk_below (bkA BK428.out) hb); have NB431_433 := Sd.mk (bNl hg (bkA BK431.out)); have NB433_431 := Sd.mk (bNg hg (bkA BK431.out)); replace BK431 := Sd.mk (blk_below (bkA BK431.out) hb); have NB432_433 := Sd.mk (bNl hg (bkA BK432.out)); have NB433_432 := Sd.mk (bNg hg (bkA BK432.out)); replace BK432 := Sd.mk (blk_below (bkA BK432.out) hb); clear hb hbox hg; have hnb113 := NB433_425.out; have hnc113 := NB425_433.out; have hnb114 := NB433_426.out; have hnc114 := NB426_433.out; have hnb115 := NB433_427.out; have hnc115 := NB427_433.out; have hnb116 := NB433_428.out; have hnc116 := NB428_433.out; have hnb117 := NB433_431.out; have hnc117 := NB431_433.out; have hnb118 := NB433_432.out; have hnc118 := NB432_433.out; obtain ⟨u119_0, u119_1, o119_0, o119_1⟩ := bc2 (w := w112) BK433.out; have hnb120 := NB428_425.out; have hnc120 := NB425_428.out; have hnb121 := NB428_426.out; have hnc121 := NB426_428.out; have hnb122 := NB428_427.out; have hnc122 := NB427_428.out; obtain ⟨u123_0, u123_1, o123_0, o123_1⟩ := bc2 (w := w112) BK428.out) | ((with_reducible refine gate_callee (f := 195) rfl ?_); refine goesL_ (some 61) rfl rfl Tryz.func195 (by kernel_rfl) rfl #[.agg #[.int .i64 (wrap64 (((rd_T94 l0_0 (ji12)).f1) - ((rd_T94 l0_0 x6_1).f1))), .int .i64 (wrap64 (((rd_T94 l0_0 x6_1).f0) - ((rd_T94 l0_0 (ji12)).f0)))], .agg #[.int .i64 x429000_1, .int .i64 x429001_1]] rfl (by (try simp only [List.map_toArray, List.map_cons, List.map_nil]); first | done | (simp only [hji12]; rfl) | rfl | (simp only [List.length_drop, List.length_take]; rfl)) ?_; (with_reducible refine (st_quotient_above.calls (wrap64 (((rd_T94 l0_0 (ji12)).f1) - ((rd_T94 l0_0 x6_1).f1))) (wrap64 (((rd_T94 l0_0 x6_1).f0) - ((rd_T94 l0_0 (ji12)).f0))) x429000_1 x429001_1 false _ A73.out).mono ?_); rintro e w124 ⟨rfl, hb⟩; refine ⟨_, rfl, ?_⟩; replace BK425 := Sd.mk (blk_below (g := gb425) (o := .cells #[.slice (some ad429) l0_0.length c0_0, .int .i64 a0_1] 46 (0, 0)) (by refine bkZ ?_; refine blk_far ?_ NB425_433.out _; refine bkZ ?_; refine blk_far ?_ NB425_433.out _; refine bkZ ?_; exact BK425.out) hb); replace BK426 := Sd.mk (blk_below (g := gb426) (o := .cells #[.int .i64 a1_0, .int .i64 a1_1] 27 (0, 0)) (by refine bkZ ?_; refine blk_far ?_ NB426_433.out _; refine bkZ ?_; refine blk_far ?_ NB426_433.out _; refine bkZ ?_; exact BK426.out) hb); replace BK427 := Sd.mk (blk_below (g := gb427) (o := .cells #[.int .i64 0, .int .i64 0] 163 (0, 0)) (by refine bkZ ?_; refine blk_far ?_ NB427_433.out _; refine bkZ ?_; refine blk_far ?_ NB427_433.out _; refine bkZ ?_; exact BK427.out) hb); replace BK428 := Sd.mk (blk_below (g := gb428) (o := .cells #[.int .i64 x429000_1, .int .i64 x429001_1] 163 (0, 0)) (by refine bkZ ?_; refine blk_far ?_ NB428_433.out _; refine bkZ ?_; refine blk_far ?_ NB428_433.out _; refine bkZ ?_; exact BK428.out) hb); replace BK431 := Sd.mk (blk_below (g := gb431) (o := .cells #[.int .i64 ((rd_T94 l0_0 (ji12)).f0), .int .i64 ((rd_T94 l0_0 (ji12)).f1)] 94 (0, 0)) (by refine bkZ ?_; refine blk_far ?_ NB431_433.out _; refine bkZ ?_; refine blk_far ?_ NB431_433.out _; refine bkZ ?_; exact BK431.out) hb); replace BK432 := Sd.mk (blk_below (g := gb432) (o := .cells #[.int .i64 ((rd_T94 l0_0 x6_1).f0), .int .i64 ((rd_T94 l0_0 x6_1).f1)] 94 (0, 0)) (by refine bkZ ?_; refine blk_far ?_ NB432_433.out _; refine bkZ ?_; refine blk_far ?_ NB432_433.out _; refine bkZ ?_; exact BK432.out) hb); replace BK433 := Sd.mk (blk_below (g := gb433) (o := .cells #[.int .i64 (wrap64 (((rd_T94 l0_0 (ji12)).f1) - ((rd_T94 l0_0 x6_1).f1))), .int .i64 (wrap64 (((rd_T94 l0_0 x6_1).f0) - ((rd_T94 l0_0 (ji12)).f0)))] 163 (0, 0)) (by refine bkZ ?_; refine blk_put (cs := #[.int .i64 (wrap64 (((rd_T94 l0_0 (ji12)).f1) - ((rd_T94 l0_0 x6_1).f1))), .int .i64 0]) ?_ 1 _ rfl; refine bkZ ?_; refine blk_put (cs := #[.int .i64 0, .int .i64 0]) ?_ 0 _ rfl; refine bkZ ?_; exact BK433.out) hb); replace HB := Sd.mk (below_step (bBl HB.out) hb); (try clear hb); (try clear hb2); (try clear hk); (try clear hi)))
           go_roundg kj15
           case measure => have := HK1.out; have := HJ15.out; omega
           case rel => exact ⟨(wrap64 (x6_1 + 1)), (x429000_1), (x429001_1), tS, H', ⟨by have := HK1.out; have := HJ15.out; omega⟩, ⟨bkA BK425.out⟩, ⟨bkA BK426.out⟩, ⟨bkA BK427.out⟩, ⟨bkA BK428.out⟩, ⟨bBl HB.out⟩⟩
      ·rw [if_neg c15] at H
       exact absurd H (by simp)
     ·rw [if_neg c14] at H
      exact absurd H (by simp)
    ·rw [if_neg c13] at H
     exact absurd H (by simp)
   ·rw [if_neg c11] at H
    have c11b0 : decide (x6_1 < (l0_0.length : Int)) = false := decide_eq_false c11
    clear c11
    simp only [Option.some.injEq, Prod.mk.injEq] at H
    obtain ⟨rfl, rfl⟩ := H; have hnb125 := NB425_426.out; have hnc125 := NB426_425.out; have hnb126 := NB425_427.out; have hnc126 := NB427_425.out; have hnb127 := NB425_428.out; have hnc127 := NB428_425.out; obtain ⟨u128_0, u128_1, o128_0, o128_1⟩ := bc2 (w := wr) BK425.out; have hnb129 := NB428_426.out; have hnc129 := NB426_428.out; have hnb130 := NB428_427.out; have hnc130 := NB427_428.out; obtain ⟨u131_0, u131_1, o131_0, o131_1⟩ := bc2 (w := wr) BK428.out; have hnb132 := NB427_426.out; have hnc132 := NB426_427.out; obtain ⟨u133_0, u133_1, o133_0, o133_1⟩ := bc2 (w := wr) BK427.out
    go_wp2
    refine bodyPost_ret (results_cell_row rfl _ _ gb427 163 #[.int .i64 x429000_1, .int .i64 x429001_1] (0, 0) _ rfl (by refine bkZ ?_; refine blk_put (cs := #[.int .i64 x429000_1, .int .i64 0]) ?_ 1 _ rfl; refine bkZ ?_; refine blk_put (cs := #[.int .i64 0, .int .i64 0]) ?_ 0 _ rfl; refine bkZ ?_; exact BK427.out) Tryz.underlying163 rfl (by kernel_rfl)) rfl ?_
    exact ⟨tE, bBl HB.out⟩
end
section
def st_strain.f (k : Nat) (l0_0 : List (S94)) (a0_1 : Int) (a1_0 : Int) (a1_1 : Int) (a2 : Int) : Option (Int) := (st_steepest.f k l0_0 a0_1 a1_0 a1_1).bind fun bt437 => ((st_up.f (wrap64 ((wrap64 ((wrap64 (a0_1 * bt437.1)) * a2)) * a2)) (wrap64 (1000000 * bt437.2))).bind fun t440 => (some t440))
theorem st_strain.calls (k : Nat) (A0_0 : Option Addr) (c0_0 : Nat) (l0_0 : List (S94)) (a0_1 : Int) (a1_0 : Int) (a1_1 : Int) (a2 : Int) (r : Int) (w : World) (hr0_0 : Kd.C k94 w A0_0 l0_0.length l0_0) (hc0_0 : l0_0.length ≤ c0_0) (h : st_strain.f k l0_0 a0_1 a1_0 a1_1 a2 = some r) :
  Calls Tryz.prog 75 #[.agg #[.slice A0_0 l0_0.length c0_0, .int .i64 a0_1], .agg #[.int .i64 a1_0, .int .i64 a1_1], .int .i64 a2] w fun e w' => e = .returned (.int .i64 r) ∧ Below w.heap.size w w' := by
 have hu46 := Tryz.underlying46; have hu27 := Tryz.underlying27; have hu163 := Tryz.underlying163; have HR0_0 := Sd.mk hr0_0; have HC0_0 := Sd.mk hc0_0; clear hr0_0 hc0_0; have HB := Sd.mk (Below.refl w.heap.size w)
 have H : ((st_steepest.f k l0_0 a0_1 a1_0 a1_1).bind fun bt437 => ((st_up.f (wrap64 ((wrap64 ((wrap64 (a0_1 * bt437.1)) * a2)) * a2)) (wrap64 (1000000 * bt437.2))).bind fun t440 => (some t440))) = some r := h
 clear h; replace H := Option.bind_eq_some_iff.mp H
 obtain ⟨⟨t437, t438⟩, A40, H⟩ := H
 try dsimp only at H
 have A4 := Sd.mk A40; clear A40; replace H := Option.bind_eq_some_iff.mp H; obtain ⟨t440, A50, H⟩ := H
 try dsimp only at H
 have A5 := Sd.mk A50; clear A50; obtain rfl := Option.some.inj H
 go_enter Tryz.func75, Tryz.ntmps75
 go_wp2_with (first | ((with_reducible refine gate_dst (N := 3) rfl ?_); refine box_event ?hg (N := 3) ?hd (cs := #[.slice A0_0 l0_0.length c0_0, .int .i64 a0_1]) (t := 46) ?hr ?_; (case hd => rfl); (case hg => rfl); (case hr => exact tG); intro gb435 hg w6 hbox hb; have BK435 := Sd.mk (hbox); have GW435 := Sd.mk (bSz hg (bBl HB.out)); have GE435 := Sd.mk (bSz hg (bBl HB.out)); replace HB := Sd.mk (below_step (bBl HB.out) hb); clear hb hbox hg) | ((with_reducible refine gate_dst (N := 4) rfl ?_); refine box_event ?hg (N := 4) ?hd (cs := #[.int .i64 a1_0, .int .i64 a1_1]) (t := 27) ?hr ?_; (case hd => rfl); (case hg => rfl); (case hr => exact tG); intro gb436 hg w7 hbox hb; have BK436 := Sd.mk (hbox); have GW436 := Sd.mk (bSz hg (bBl HB.out)); have GE436 := Sd.mk (bSz hg (bBl HB.out)); replace HB := Sd.mk (below_step (bBl HB.out) hb); have NB435_436 := Sd.mk (bNl hg (bkA BK435.out)); have NB436_435 := Sd.mk (bNg hg (bkA BK435.out)); replace BK435 := Sd.mk (blk_below (bkA BK435.out) hb); clear hb hbox hg; have hnb8 := NB435_436.out; have hnc8 := NB436_435.out; obtain ⟨u9_0, u9_1, o9_0, o9_1⟩ := bc2 (w := w7) BK435.out; obtain ⟨u10_0, u10_1, o10_0, o10_1⟩ := bc2 (w := w7) BK436.out) | ((with_reducible refine gate_callee (f := 127) rfl ?_); refine goesL_ (some 10) rfl rfl Tryz.func127 (by kernel_rfl) rfl #[.agg #[.slice A0_0 l0_0.length c0_0, .int .i64 a0_1], .agg #[.int .i64 a1_0, .int .i64 a1_1]] rfl tM ?_; (with_reducible refine (st_steepest.calls k _ _ l0_0 a0_1 a1_0 a1_1 t437 t438 _ (cS (Kd.C_below HR0_0.out HB.out)) HC0_0.out A4.out).mono ?_); rintro e w11 ⟨rfl, hb⟩; refine ⟨_, rfl, ?_⟩; replace BK435 := Sd.mk (blk_below (bkA BK435.out) hb); replace BK436 := Sd.mk (blk_below (bkA BK436.out) hb); replace HB := Sd.mk (below_step (bBl HB.out) hb); (try clear hb); (try clear hb2); (try clear hk); (try clear hi)) | ((with_reducible refine gate_dst (N := 7) rfl ?_); refine box_event ?hg (N := 7) ?hd (cs := #[.int .i64 0, .int .i64 0]) (t := 163) ?hr ?_; (case hd => rfl); (case hg => rfl); (case hr => exact tG); intro gb439 hg w12 hbox hb; have BK439 := Sd.mk (hbox); have GW439 := Sd.mk (bSz hg (bBl HB.out)); have GE439 := Sd.mk (bSz hg (bBl HB.out)); replace HB := Sd.mk (below_step (bBl HB.out) hb); have NB435_439 := Sd.mk (bNl hg (bkA BK435.out)); have NB439_435 := Sd.mk (bNg hg (bkA BK435.out)); replace BK435 := Sd.mk (blk_below (bkA BK435.out) hb); have NB436_439 := Sd.mk (bNl hg (bkA BK436.out)); have NB439_436 := Sd.mk (bNg hg (bkA BK436.out)); replace BK436 := Sd.mk (blk_below (bkA BK436.out) hb); clear hb hbox hg; have hnb13 := NB439_435.out; have hnc13 := NB435_439.out; have hnb14 := NB439_436.out; have hnc14 := NB436_439.out; obtain ⟨u15_0, u15_1, o15_0, o15_1⟩ := bc2 (w := w12) BK439.out; obtain ⟨u16_0, u16_1, o16_0, o16_1⟩ := bc2 (w := w12) BK435.out) | ((with_reducible refine gate_callee (f := 159) rfl ?_); refine goesL_ (some 23) rfl rfl Tryz.func159 (by kernel_rfl) rfl #[.int .i64 (wrap64 ((wrap64 ((wrap64 (a0_1 * t437)) * a2)) * a2)), .int .i64 (wrap64 (1000000 * t438))] rfl tM ?_; (with_reducible refine (st_up.calls (wrap64 ((wrap64 ((wrap64 (a0_1 * t437)) * a2)) * a2)) (wrap64 (1000000 * t438)) t440 _ A5.out).mono ?_); rintro e w' ⟨rfl, ⟨nd, rfl⟩⟩; refine ⟨_, rfl, ?_⟩))
 go_ret
 exact ⟨tE, bBl HB.out⟩
end
section
def x_Strain.f (k : Nat) (kn : List S94) (fac t0 t1 th : Int) : Option (Int × Int) := if tempsV kn fac t0 t1 = 0 then (if inB th 1 2000 = true then (st_strain.f k kn fac t0 t1 th).bind fun t => some (t, 0) else some (0, 1)) else some (0, tempsV kn fac t0 t1)
theorem x_Strain.calls (k : Nat) (A0_0 : Option Addr) (c0_0 : Nat) (l0_0 : List S94) (a0_1 : Int) (a1_0 a1_1 a2 : Int) (r1 r2 : Int) (w : World) (hr0_0 : Kd.C k94 w A0_0 l0_0.length l0_0) (hc0_0 : l0_0.length ≤ c0_0) (h : x_Strain.f k l0_0 a0_1 a1_0 a1_1 a2 = some (r1, r2)) :
    Calls Tryz.prog 44 #[.agg #[.slice A0_0 l0_0.length c0_0, .int .i64 a0_1], .agg #[.int .i64 a1_0, .int .i64 a1_1], .int .i64 a2] w fun e w' => e = .returned (.tuple #[.int .i64 r1, .int .i64 r2]) ∧ Below w.heap.size w w' := by
  have hmf := run_makeFunc_
  obtain ⟨b1, b2, b3, hb0, hsz⟩ := blk_three w (.cells #[.slice A0_0 l0_0.length c0_0, .int .i64 a0_1] 46) (.cells #[.int .i64 a1_0, .int .i64 a1_1] 27) (.cells #[.int .i64 0] 38)
  have BX := Sd.mk b1
  have BT := Sd.mk b2
  have BE := Sd.mk b3
  have HSZ := Sd.mk hsz
  have HB := Sd.mk hb0
  have HR := Sd.mk (Kd.C_below hr0_0 hb0)
  have ht00 := (blk_cell b2 0).trans rfl
  have ht01 := (blk_cell b2 1).trans rfl
  clear b1 b2 b3 hsz hb0 hr0_0
  unfold x_Strain.f at h
  by_cases h0 : tempsV l0_0 a0_1 a1_0 a1_1 = 0
  · rw [if_pos h0] at h
    have H0 := Sd.mk h0
    clear h0
    cases hi : inB a2 1 2000 with
    | true =>
      rw [if_pos hi] at h
      obtain ⟨t, ht, h⟩ := Option.bind_eq_some_iff.mp h
      simp only [Option.some.injEq, Prod.mk.injEq] at h
      obtain ⟨rfl, rfl⟩ := h
      have HI := Sd.mk hi
      have HT := Sd.mk ht
      clear hi ht
      go_enter_defers Tryz.func44, Tryz.ntmps44
      go_wp2_with (first | (go_at_call 126; refine (temps_ok A0_0 c0_0 l0_0 a0_1 a1_0 a1_1 _ HR.out H0.out).mono ?_; rintro e w1 ⟨rfl, hb1⟩; have BX1 := Sd.mk (blk_below BX.out hb1); have BT1 := Sd.mk (blk_below BT.out hb1); have BE1 := Sd.mk (blk_below BE.out hb1); have HR1 := Sd.mk (Kd.C_below HR.out hb1); have HB1 := Sd.mk (below_then HB.out (by have := HSZ.out; omega) hb1); have hl0 : w1.cell? ⟨w.heap.size, 0, none⟩ = some (.slice A0_0 l0_0.length c0_0) := (blk_cell BX1.out 0).trans rfl; have hl1 : w1.cell? ⟨w.heap.size, 0 + 1, none⟩ = some (.int .i64 a0_1) := (blk_cell BX1.out 1).trans rfl; have ht0 : w1.cell? ⟨w.heap.size + 1, 0, none⟩ = some (.int .i64 a1_0) := (blk_cell BT1.out 0).trans rfl; have ht1 : w1.cell? ⟨w.heap.size + 1, 0 + 1, none⟩ = some (.int .i64 a1_1) := (blk_cell BT1.out 1).trans rfl; clear hb1) | (go_at_call 66; refine (swithin_f _ _ _ _).mono ?_; rw [HI.out]; rintro e w2 ⟨rfl, q, rfl⟩) | (go_at_call 65; (with_reducible refine (demand_ok _ _).mono ?_); rintro e w' ⟨rfl, rfl⟩) | (go_at_call 75; refine (st_strain.calls k _ _ l0_0 a0_1 a1_0 a1_1 a2 t _ (Kd.C_drewN HR1.out _) hc0_0 HT.out).mono ?_; rintro e w3 ⟨rfl, hb3⟩; have BE3 := Sd.mk (blk_below (blk_drewN BE1.out _) hb3); have HB3 := Sd.mk (below_then (pw_below_drewN HB1.out _) (pw_below_drewN HB1.out _).size hb3); have he0 : w3.cell? ⟨w.heap.size + 1 + 1, 0, none⟩ = some (.int .i64 0) := (blk_cell BE3.out 0).trans rfl; have he1 := blk_frozen BE3.out 0))
      refine leaves_cons (f := 130) (args := #[.pointer (some ⟨w.heap.size + 1 + 1, 0, none⟩)]) (by simp) (by simp [go_sem]) ?_
      refine (door96_ok _ _).mono ?_
      rintro e u' w'' ⟨rfl, rfl, rfl⟩
      exact ⟨_, results_te rfl _ _ (w.heap.size + 1 + 1) 0 rfl (blk_put BE3.out 0 _ rfl), rfl, below_set HB3.out (by omega)⟩
    | false =>
      rw [if_neg (by rw [hi]; simp)] at h
      simp only [Option.some.injEq, Prod.mk.injEq] at h
      obtain ⟨rfl, rfl⟩ := h
      have HI := Sd.mk hi
      clear hi
      go_enter_defers Tryz.func44, Tryz.ntmps44
      go_wp2_with (first | (go_at_call 126; refine (temps_ok A0_0 c0_0 l0_0 a0_1 a1_0 a1_1 _ HR.out H0.out).mono ?_; rintro e w1 ⟨rfl, hb1⟩; have BE1 := Sd.mk (blk_below BE.out hb1); have HB1 := Sd.mk (below_then HB.out (by have := HSZ.out; omega) hb1); clear hb1) | (go_at_call 66; refine (swithin_f _ _ _ _).mono ?_; rw [HI.out]; rintro e w2 ⟨rfl, q, rfl⟩) | (go_at_call 65; (with_reducible refine (demand_no _ _).mono ?_); rintro e w' ⟨rfl, rfl⟩))
      refine leaves_cons (f := 130) (args := #[.pointer (some ⟨w.heap.size + 1 + 1, 0, none⟩)]) (by simp) (by simp [go_sem]) ?_
      refine (door96_fail _ _ 0 [] _ (blk_drewN BE1.out _)).mono ?_
      rintro e u' w'' ⟨rfl, rfl, rfl⟩
      exact ⟨_, results_te rfl _ _ (w.heap.size + 1 + 1) 1 rfl (blk_put (blk_alloc (blk_drewN BE1.out _) _) 0 _ rfl), rfl, below_set (below_alloc (pw_below_drewN HB1.out _) _) (by omega)⟩
  · rw [if_neg h0] at h
    simp only [Option.some.injEq, Prod.mk.injEq] at h
    obtain ⟨rfl, rfl⟩ := h
    have H0 := Sd.mk h0
    clear h0
    go_enter_defers Tryz.func44, Tryz.ntmps44
    go_wp2_with (go_at_call 126; refine (temps_no A0_0 c0_0 l0_0 a0_1 a1_0 a1_1 _ HR.out H0.out).mono ?_; rintro e w1 ⟨rfl, hb1⟩)
    refine leaves_cons (f := 130) (args := #[.pointer (some ⟨w.heap.size + 1 + 1, 0, none⟩)]) (by simp) (by simp [go_sem]) ?_
    refine (door96_fail _ _ 0 [] _ (blk_below BE.out hb1)).mono ?_
    rintro e u' w'' ⟨rfl, rfl, rfl⟩
    exact ⟨_, results_te rfl _ _ (w.heap.size + 1 + 1) _ rfl (blk_put (blk_alloc (blk_below BE.out hb1) _) 0 _ rfl), rfl, below_set (below_alloc (below_then HB.out (by have := HSZ.out; omega) hb1) _) (by omega)⟩
end
section
def st_quotient_lowest.l0 : Nat → Int → Int → Int → Int → Option (Int × Int)
 | 0, _, _, _, _ => none
 | k + 1, x3, x4, x988q0, x988q1 => if x4 = 0 then (if x3 = 0 then (none) else (some (wrap64 (Int.tdiv x988q0 x3), wrap64 (Int.tdiv x988q1 x3)))) else (st_quotient_lowest.l0 k x4 (Int.tmod x3 x4) x988q0 x988q1)
def st_quotient_lowest.f (k : Nat) (a0_0 : Int) (a0_1 : Int) : Option (Int × Int) := st_quotient_lowest.l0 k a0_0 a0_1 a0_0 a0_1
def st_quotient_lowest.T4 : Bool × List (List Nat × List Nat) := (true, [([], []), ([0], [0]), ([], []), ([1, 2], [1, 2]), ([], []), ([4], [4]), ([], []), ([5, 6], [5, 6]), ([3, 7], [3, 7]), ([8, 0, 1, 2, 3, 4, 5, 6, 7, 8], [8])])
def st_quotient_lowest.B4 : List Nat := [0, 1, 0, 7, 0, 16, 0, 112, 255, 511]
theorem st_quotient_lowest.tab4 : rtab .any (opsOf Tryz.f128 4) = st_quotient_lowest.T4 := by kernel_rfl
theorem st_quotient_lowest.bits4 : waitsOk st_quotient_lowest.T4.2 st_quotient_lowest.B4 = true := by kernel_rfl
theorem st_quotient_lowest.calls (k : Nat) (a0_0 : Int) (a0_1 : Int) (r1 : Int) (r2 : Int) (w : World) (h : st_quotient_lowest.f k a0_0 a0_1 = some (r1, r2)) :
  Calls Tryz.prog 128 #[.agg #[.int .i64 a0_0, .int .i64 a0_1]] w fun e w' => e = .returned (.agg #[.int .i64 r1, .int .i64 r2]) ∧ Below w.heap.size w w' := by
 have hu163 := Tryz.underlying163; have hu82 := Tryz.underlying82; have HB := Sd.mk (Below.refl w.heap.size w)
 have H : (st_quotient_lowest.l0 k a0_0 a0_1 a0_0 a0_1) = some (r1, r2) := h
 clear h; have H' := Sd.mk H; clear H
 go_enter Tryz.func128, Tryz.ntmps128
 try go_wp2_with (first | ((with_reducible refine gate_dst (N := 1) rfl ?_); refine box_event ?hg (N := 1) ?hd (cs := #[.int .i64 a0_0, .int .i64 a0_1]) (t := 163) ?hr ?_; (case hd => rfl); (case hg => rfl); (case hr => exact tG); intro gb987 hg w2 hbox hb; have BK987 := Sd.mk (hbox); have GW987 := Sd.mk (bSz hg (bBl HB.out)); have GE987 := Sd.mk (bSz hg (bBl HB.out)); replace HB := Sd.mk (below_step (bBl HB.out) hb); clear hb hbox hg) | ((with_reducible refine gate_dst (N := 2) rfl ?_); refine box_event ?hg (N := 2) ?hd (cs := #[.int .i64 0, .int .i64 0]) (t := 82) ?hr ?_; (case hd => rfl); (case hg => rfl); (case hr => exact tG); intro gb988 hg w3 hbox hb; have BK988 := Sd.mk (hbox); have GW988 := Sd.mk (bSz hg (bBl HB.out)); have GE988 := Sd.mk (bSz hg (bBl HB.out)); replace HB := Sd.mk (below_step (bBl HB.out) hb); have NB987_988 := Sd.mk (bNl hg (bkA BK987.out)); have NB988_987 := Sd.mk (bNg hg (bkA BK987.out)); replace BK987 := Sd.mk (blk_below (bkA BK987.out) hb); clear hb hbox hg))
 replace BK987 := Sd.mk (blk_drew BK987.out); replace BK988 := Sd.mk (blk_drew BK988.out); replace HB := Sd.mk (below_drew1 HB.out)
 refine start_ (n := 6) (S := fun w' => w'.cell? ⟨gb987, 0, none⟩ = some (.int .i64 a0_0) ∧ w'.cell? ⟨gb987, 1, none⟩ = some (.int .i64 a0_1)) (ds := []) (bA 6 0) (by kernel_rfl) rfl rfl ⟨(blk_cell BK987.out 0).trans rfl, (blk_cell BK987.out 1).trans rfl⟩ (fun hHeld => ?_)
 generalize w3.drew = w4 at BK987 BK988 HB hHeld ⊢
 refine pure_ (i := 0) (N := some 5) (v := ?_) (a' := ?_) (bA 6 1) rfl rfl (by kernel_rfl) (fun _ _ _ h => h) (Or.inl ⟨by rfl, ?_⟩) ?_ ?_
 rotate_left
 ·exact tW
 rotate_left
 ·exact tP
 refine pure_ (i := 2) (N := some 7) (v := ?_) (a' := ?_) (bA 6 5) rfl rfl (by kernel_rfl) (fun _ _ _ h => h) (Or.inl ⟨by rfl, ?_⟩) ?_ ?_
 rotate_left
 ·exact tW
 rotate_left
 ·exact tP
 refine take_ (i := 1) (N := some 6) (v := ?_) (a' := ?_) (bA 6 7) rfl rfl (by kernel_rfl) (fun _ _ _ h => h) (Or.inl ⟨by rfl, ?_⟩) hHeld ?_ ?_
 rotate_left
 ·rintro w' ⟨s0, s1⟩
  go_simp
  with_reducible rfl
 rotate_left
 ·exact tP
 refine pure_ (i := 4) (N := some 3) (v := ?_) (a' := ?_) (bA 6 23) rfl rfl (by kernel_rfl) (fun _ _ _ h => h) (Or.inl ⟨by rfl, ?_⟩) ?_ ?_
 rotate_left
 ·exact tW
 rotate_left
 ·exact tP
 refine take_ (i := 3) (N := some 8) (v := ?_) (a' := ?_) (bA 6 31) rfl rfl (by kernel_rfl) (fun _ _ _ h => h) (Or.inl ⟨by rfl, ?_⟩) hHeld ?_ ?_
 rotate_left
 ·rintro w' ⟨s0, s1⟩
  go_simp
  with_reducible rfl
 rotate_left
 ·exact tP
 refine pure_ (i := 5) (N := some 4) (v := ?_) (a' := ?_) (bA 6 63) rfl rfl (by kernel_rfl) (fun _ _ _ h => h) (Or.inl ⟨by rfl, ?_⟩) ?_ ?_
 rotate_left
 ·exact tW
 rotate_left
 ·exact tP
 refine done_ (by kernel_rfl) ?_
 try go_wp2
 go_loopg [3, 4] k (fun kq v3 v4 w' => ∃ (x3_1 : Int) (x4_1 : Int), v3 = .int .i64 x3_1 ∧ v4 = .int .i64 x4_1 ∧ Sd (st_quotient_lowest.l0 kq x3_1 x4_1 a0_0 a0_1 = some (r1, r2)) ∧ Sd (kq ≤ k) ∧ Sd (w'.heap[gb987]? = some (.cells #[.int .i64 a0_0, .int .i64 a0_1] 163 (0, 0))) ∧ Sd (w'.heap[gb988]? = some (.cells #[.int .i64 0, .int .i64 0] 82 (0, 0))) ∧ Sd (Below w.heap.size w w'))
 case atStart => exact ⟨(a0_0), (a0_1), tS, tS, H', ⟨Nat.le_refl _⟩, ⟨bkA BK987.out⟩, ⟨bkA BK988.out⟩, ⟨bBl HB.out⟩⟩
 case round =>
  clear H'; (try clear c1); (try clear p2); obtain ⟨x3_1, x4_1, rfl, rfl, HA, HK1, BK987, BK988, HB⟩ := hrel
  cases gk with
  | zero => exact absurd HA.out (by simp [st_quotient_lowest.l0])
  | succ k1 =>
   have H := HA.out; clear HA
   simp only [st_quotient_lowest.l0] at H
   by_cases c5 : x4_1 = 0
   ·rw [if_pos c5] at H
    have c5b0 : (x4_1 == 0) = true := beq_iff_eq.mpr c5
    have c5b1 : (x4_1 != 0) = false := bne_eq_false_iff_eq.mpr c5
    clear c5
    by_cases c6 : x3_1 = 0
    ·rw [if_pos c6] at H
     exact absurd H (by simp)
    ·rw [if_neg c6] at H
     have c6b0 : (x3_1 == 0) = false := beq_eq_false_iff_ne.mpr c6
     have c6b1 : (x3_1 != 0) = true := bne_iff_ne.mpr c6
     simp only [Option.some.injEq, Prod.mk.injEq] at H
     obtain ⟨rfl, rfl⟩ := H
     try go_wp2
     replace BK987 := Sd.mk (blk_drew BK987.out); replace BK988 := Sd.mk (blk_drew BK988.out); replace HB := Sd.mk (below_drew1 HB.out)
     refine start_ (n := 10) (S := fun w' => w'.cell? ⟨gb987, 0, none⟩ = some (.int .i64 a0_0) ∧ w'.cell? ⟨gb987, 1, none⟩ = some (.int .i64 a0_1)) (ds := []) (bA 10 0) (by kernel_rfl) rfl rfl ⟨(blk_cell BK987.out 0).trans rfl, (blk_cell BK987.out 1).trans rfl⟩ (fun hHeld => ?_); refine with_tabW st_quotient_lowest.tab4 st_quotient_lowest.bits4 (fun HT_ HW_ => ?_)
     generalize wr.drew = w7 at BK987 BK988 HB hHeld ⊢
     refine pQ 0 (some 15) (bA 10 1) ?_
     refine pQ 2 (some 17) (bA 10 5) ?_
     refine pQ 4 (some 19) (bA 10 21) ?_
     refine pQ 6 (some 21) (bA 10 85) ?_
     refine tQ 1 (some 16) (bA 10 87) ?_
     refine pQ 3 (some 18) (bA 10 95) ?_
     refine tQ 5 (some 20) (bA 10 127) ?_
     refine pQ 7 (some 22) (bA 10 255) ?_
     refine pQ 8 (some 23) (bA 10 511) ?_
     refine one_ (i := 9) (N := none) (bA 10 1023) rfl rfl (one_of HT_.out (by kernel_rfl)) (by decide) (fun K hK => ?_)
     have hs8 : w7.cell? ⟨gb988, 0, none⟩ = some (.int .i64 0) := (blk_cell BK988.out 0).trans rfl
     have hfs8 := blk_frozen BK988.out 0; have hns8_0 := NB987_988.out; have hms8_0 := NB988_987.out
     have hs9 : w7.cell? ⟨gb988, 1, none⟩ = some (.int .i64 0) := (blk_cell BK988.out 1).trans rfl
     have hfs9 := blk_frozen BK988.out 1; have hns9_0 := NB987_988.out; have hms9_0 := NB988_987.out
     refine skip_ (w1 := ?_) (by rfl) rfl ?_ ?_
     rotate_left
     ·go_simp
      rfl
     refine hK.out _ _ ⟨((cell_far (p := ⟨gb988, _, none⟩) NB987_988.out _).trans (((cell_far (p := ⟨gb988, _, none⟩) NB987_988.out _).trans (hHeld.1)))), ((cell_far (p := ⟨gb988, _, none⟩) NB987_988.out _).trans (((cell_far (p := ⟨gb988, _, none⟩) NB987_988.out _).trans (hHeld.2))))⟩ (fun hHeld => ?_)
     clear hK K
     refine done_ (done_of HT_.out (by kernel_rfl)) ?_
     try go_wp2
     refine bodyPost_ret (results_cell_row rfl _ _ gb988 82 #[.int .i64 (wrap64 (Int.tdiv a0_0 x3_1)), .int .i64 (wrap64 (Int.tdiv a0_1 x3_1))] (0, 0) _ rfl (by refine bkZ ?_; refine blk_put (cs := #[.int .i64 (wrap64 (Int.tdiv a0_0 x3_1)), .int .i64 0]) ?_ 1 _ rfl; refine bkZ ?_; refine blk_put (cs := #[.int .i64 0, .int .i64 0]) ?_ 0 _ rfl; refine bkZ ?_; exact BK988.out) Tryz.underlying82 rfl (by kernel_rfl)) rfl ?_
     exact ⟨tE, bBl HB.out⟩
   ·rw [if_neg c5] at H
    have c5b0 : (x4_1 == 0) = false := beq_eq_false_iff_ne.mpr c5
    have c5b1 : (x4_1 != 0) = true := bne_iff_ne.mpr c5
    have H' := Sd.mk H; clear H
    try go_wp2
    replace BK987 := Sd.mk (blk_drew BK987.out); replace BK988 := Sd.mk (blk_drew BK988.out); replace HB := Sd.mk (below_drew1 HB.out)
    refine start_ (n := 6) (S := fun w' => True) (ds := []) (bA 6 0) (by kernel_rfl) rfl rfl trivial (fun hHeld => ?_)
    generalize wr.drew = w10 at BK987 BK988 HB hHeld ⊢
    refine pure_ (i := 0) (N := some 11) (v := ?_) (a' := ?_) (bA 6 1) rfl rfl (by kernel_rfl) (fun _ _ _ h => h) (Or.inl ⟨by rfl, ?_⟩) ?_ ?_
    rotate_left
    ·exact tW
    rotate_left
    ·exact tP
    refine pure_ (i := 1) (N := some 12) (v := ?_) (a' := ?_) (bA 6 3) rfl rfl (by kernel_rfl) (fun _ _ _ h => h) (Or.inl ⟨by rfl, ?_⟩) ?_ ?_
    rotate_left
    ·exact tW
    rotate_left
    ·exact tP
    refine pure_ (i := 2) (N := some 13) (v := ?_) (a' := ?_) (bA 6 7) rfl rfl (by kernel_rfl) (fun _ _ _ h => h) (Or.inl ⟨by rfl, ?_⟩) ?_ ?_
    rotate_left
    ·exact tW
    rotate_left
    ·exact tP
    refine pure_ (i := 3) (N := some 14) (v := ?_) (a' := ?_) (bA 6 15) rfl rfl (by kernel_rfl) (fun _ _ _ h => h) (Or.inl ⟨by rfl, ?_⟩) ?_ ?_
    rotate_left
    ·exact tW
    rotate_left
    ·exact tP
    refine pure_ (i := 4) (N := some 3) (v := ?_) (a' := ?_) (bA 6 31) rfl rfl (by kernel_rfl) (fun _ _ _ h => h) (Or.inl ⟨by rfl, ?_⟩) ?_ ?_
    rotate_left
    ·exact tW
    rotate_left
    ·exact tP
    refine pure_ (i := 5) (N := some 4) (v := ?_) (a' := ?_) (bA 6 63) rfl rfl (by kernel_rfl) (fun _ _ _ h => h) (Or.inl ⟨by rfl, ?_⟩) ?_ ?_
    rotate_left
    ·exact tW
    rotate_left
    ·exact tP
    refine done_ (by kernel_rfl) ?_
    try go_wp2
    go_roundg k1
    case measure => have := HK1.out; omega
    case rel => exact ⟨(x4_1), (Int.tmod x3_1 x4_1), tS, tS, H', ⟨by have := HK1.out; omega⟩, ⟨bkA BK987.out⟩, ⟨bkA BK988.out⟩, ⟨bBl HB.out⟩⟩
end
section
theorem blk_four (w : World) (o1 o2 o3 o4 : Obj) : ((((w.alloc o1).alloc o2).alloc o3).alloc o4).heap[w.heap.size]? = some o1 ∧ ((((w.alloc o1).alloc o2).alloc o3).alloc o4).heap[w.heap.size + 1]? = some o2 ∧ ((((w.alloc o1).alloc o2).alloc o3).alloc o4).heap[w.heap.size + 1 + 1]? = some o3 ∧ ((((w.alloc o1).alloc o2).alloc o3).alloc o4).heap[w.heap.size + 1 + 1 + 1]? = some o4 ∧ Below w.heap.size w ((((w.alloc o1).alloc o2).alloc o3).alloc o4) ∧ ((((w.alloc o1).alloc o2).alloc o3).alloc o4).heap.size = w.heap.size + 1 + 1 + 1 + 1 :=
  ⟨blk_alloc (blk_three w o1 o2 o3).1 o4, blk_alloc (blk_three w o1 o2 o3).2.1 o4, blk_alloc (blk_three w o1 o2 o3).2.2.1 o4, by simpa using blk_new (((w.alloc o1).alloc o2).alloc o3) o4, below_alloc (blk_three w o1 o2 o3).2.2.2.1 o4, by simp⟩
def x_Steepest.f (k : Nat) (kn : List S94) (fac t0 t1 : Int) : Option (Int × Int × Int) := if tempsV kn fac t0 t1 = 0 then (st_steepest.f k kn fac t0 t1).bind fun q => (st_quotient_lowest.f k q.1 q.2).bind fun r => some (r.1, r.2, 0) else some (0, 0, tempsV kn fac t0 t1)
theorem x_Steepest.calls (k : Nat) (A0_0 : Option Addr) (c0_0 : Nat) (l0_0 : List S94) (a0_1 : Int) (a1_0 a1_1 : Int) (r1 r2 r3 : Int) (w : World) (hr0_0 : Kd.C k94 w A0_0 l0_0.length l0_0) (hc0_0 : l0_0.length ≤ c0_0) (h : x_Steepest.f k l0_0 a0_1 a1_0 a1_1 = some (r1, r2, r3)) :
    Calls Tryz.prog 42 #[.agg #[.slice A0_0 l0_0.length c0_0, .int .i64 a0_1], .agg #[.int .i64 a1_0, .int .i64 a1_1]] w fun e w' => e = .returned (.tuple #[.agg #[.int .i64 r1, .int .i64 r2], .int .i64 r3]) ∧ Below w.heap.size w w' := by
  have hmf := run_makeFunc_
  obtain ⟨b1, b2, b3, b4, hb0, hsz⟩ := blk_four w (.cells #[.slice A0_0 l0_0.length c0_0, .int .i64 a0_1] 46) (.cells #[.int .i64 a1_0, .int .i64 a1_1] 27) (.cells #[.int .i64 0, .int .i64 0] 82) (.cells #[.int .i64 0] 38)
  have BX := Sd.mk b1
  have BT := Sd.mk b2
  have BR := Sd.mk b3
  have BE := Sd.mk b4
  have HSZ := Sd.mk hsz
  have HB := Sd.mk hb0
  have HR := Sd.mk (Kd.C_below hr0_0 hb0)
  clear b1 b2 b3 b4 hsz hb0 hr0_0
  unfold x_Steepest.f at h
  by_cases h0 : tempsV l0_0 a0_1 a1_0 a1_1 = 0
  · rw [if_pos h0] at h
    have H0 := Sd.mk h0
    clear h0
    obtain ⟨⟨q1, q2⟩, hq, h⟩ := Option.bind_eq_some_iff.mp h
    obtain ⟨⟨p1, p2⟩, hp, h⟩ := Option.bind_eq_some_iff.mp h
    simp only [Option.some.injEq, Prod.mk.injEq] at h
    obtain ⟨rfl, rfl, rfl⟩ := h
    have HQ := Sd.mk hq
    have HP := Sd.mk hp
    clear hq hp
    go_enter_defers Tryz.func42, Tryz.ntmps42
    go_wp2_with (first | (go_at_call 126; refine (temps_ok A0_0 c0_0 l0_0 a0_1 a1_0 a1_1 _ HR.out H0.out).mono ?_; rintro e w1 ⟨rfl, hb1⟩; have BX1 := Sd.mk (blk_below BX.out hb1); have BT1 := Sd.mk (blk_below BT.out hb1); have BR1 := Sd.mk (blk_below BR.out hb1); have BE1 := Sd.mk (blk_below BE.out hb1); have HR1 := Sd.mk (Kd.C_below HR.out hb1); have HB1 := Sd.mk (below_then HB.out (by have := HSZ.out; omega) hb1); have hl0 : w1.cell? ⟨w.heap.size, 0, none⟩ = some (.slice A0_0 l0_0.length c0_0) := (blk_cell BX1.out 0).trans rfl; have hl1 : w1.cell? ⟨w.heap.size, 0 + 1, none⟩ = some (.int .i64 a0_1) := (blk_cell BX1.out 1).trans rfl; have ht0 : w1.cell? ⟨w.heap.size + 1, 0, none⟩ = some (.int .i64 a1_0) := (blk_cell BT1.out 0).trans rfl; have ht1 : w1.cell? ⟨w.heap.size + 1, 0 + 1, none⟩ = some (.int .i64 a1_1) := (blk_cell BT1.out 1).trans rfl; clear hb1) | (go_at_call 127; refine (st_steepest.calls k _ _ l0_0 a0_1 a1_0 a1_1 q1 q2 _ HR1.out hc0_0 HQ.out).mono ?_; rintro e w2 ⟨rfl, hb2⟩; have BR2 := Sd.mk (blk_below BR1.out hb2); have BE2 := Sd.mk (blk_below BE1.out hb2); have HB2 := Sd.mk (below_then HB1.out HB1.out.size hb2); clear hb2) | (go_at_call 128; refine (st_quotient_lowest.calls k q1 q2 p1 p2 _ HP.out).mono ?_; rintro e w3 ⟨rfl, hb3⟩; have BR3 := Sd.mk (blk_below BR2.out hb3); have BE3 := Sd.mk (blk_below BE2.out hb3); have HB3 := Sd.mk (below_then HB2.out HB2.out.size hb3); have he0 : w3.cell? ⟨w.heap.size + 1 + 1 + 1, 0, none⟩ = some (.int .i64 0) := (blk_cell BE3.out 0).trans rfl; have he1 := blk_frozen BE3.out 0; have hq0 : w3.cell? ⟨w.heap.size + 1 + 1, 0, none⟩ = some (.int .i64 0) := (blk_cell BR3.out 0).trans rfl; have hq1 : w3.cell? ⟨w.heap.size + 1 + 1, 0 + 1, none⟩ = some (.int .i64 0) := (blk_cell BR3.out 1).trans rfl; have hq2 := blk_frozen BR3.out 0; have hq3 := blk_frozen BR3.out 1))
    refine leaves_cons (f := 125) (args := #[.pointer (some ⟨w.heap.size + 1 + 1 + 1, 0, none⟩)]) (by simp) (by simp [go_sem]) ?_
    refine (door99_ok _ _).mono ?_
    rintro e u' w'' ⟨rfl, rfl, rfl⟩
    have BRf := blk_far (blk_put (blk_put BR3.out 0 (.int .i64 p1) rfl) 1 (.int .i64 p2) rfl) (show w.heap.size + 1 + 1 ≠ (⟨w.heap.size + 1 + 1 + 1, 0, none⟩ : Addr).block by show _ ≠ _; simp) (.int .i64 0)
    have BEf := blk_put (blk_far (blk_far BE3.out (show w.heap.size + 1 + 1 + 1 ≠ (⟨w.heap.size + 1 + 1, 0, none⟩ : Addr).block by show _ ≠ _; simp) (.int .i64 p1)) (show w.heap.size + 1 + 1 + 1 ≠ (⟨w.heap.size + 1 + 1, 1, none⟩ : Addr).block by show _ ≠ _; simp) (.int .i64 p2)) 0 (.int .i64 0) rfl
    exact ⟨_, results_ce rfl _ _ (w.heap.size + 1 + 1) (w.heap.size + 1 + 1 + 1) _ _ rfl (run_loadVar_row _ _ 82 82 _ (0, 0) _ BRf Tryz.underlying82 rfl (by kernel_rfl)) rfl BEf, rfl, below_set (below_set (below_set HB3.out (by omega)) (by omega)) (by omega)⟩
  · rw [if_neg h0] at h
    simp only [Option.some.injEq, Prod.mk.injEq] at h
    obtain ⟨rfl, rfl, rfl⟩ := h
    have H0 := Sd.mk h0
    clear h0
    go_enter_defers Tryz.func42, Tryz.ntmps42
    go_wp2_with (go_at_call 126; refine (temps_no A0_0 c0_0 l0_0 a0_1 a1_0 a1_1 _ HR.out H0.out).mono ?_; rintro e w1 ⟨rfl, hb1⟩)
    refine leaves_cons (f := 125) (args := #[.pointer (some ⟨w.heap.size + 1 + 1 + 1, 0, none⟩)]) (by simp) (by simp [go_sem]) ?_
    refine (door99_fail _ _ 0 [] _ (blk_below BE.out hb1)).mono ?_
    rintro e u' w'' ⟨rfl, rfl, rfl⟩
    have BRf : ((w1.alloc (.cells #[.int .i64 (tempsV l0_0 a0_1 a1_0 a1_1)] 183)).setCell ⟨w.heap.size + 1 + 1 + 1, 0, none⟩ (.int .i64 (tempsV l0_0 a0_1 a1_0 a1_1))).heap[w.heap.size + 1 + 1]? = some (.cells #[.int .i64 0, .int .i64 0] 82 (0, 0)) :=
      blk_far (blk_alloc (blk_below BR.out hb1) _) (by show _ ≠ _; simp) _
    exact ⟨_, results_ce rfl _ _ (w.heap.size + 1 + 1) (w.heap.size + 1 + 1 + 1) _ _ rfl (run_loadVar_row _ _ 82 82 _ (0, 0) _ BRf Tryz.underlying82 rfl (by kernel_rfl)) rfl (blk_put (blk_alloc (blk_below BE.out hb1) _) 0 _ rfl), rfl, below_set (below_alloc (below_then HB.out (by have := HSZ.out; omega) hb1) _) (by omega)⟩
end
section
def idxFrom {α : Type} (p : α → Bool) : List α → Int → Int
  | [], _ => -1
  | x :: l, i => if p x = true then i else idxFrom p l (i + 1)
theorem idxFrom_any {α : Type} (p : α → Bool) : ∀ (l : List α) (i : Int), 0 ≤ i → (decide (0 ≤ idxFrom p l i) = l.any p) := by
  intro l
  induction l with
  | nil => intro i _; simp [idxFrom]
  | cons x l ih =>
    intro i hi
    simp only [idxFrom, List.any_cons]
    by_cases h : p x = true
    · simp [h, hi]
    · simp only [h, Bool.false_or]
      exact ih (i + 1) (by omega)
theorem idxFrom_drop {α : Type} (p : α → Bool) (z : α) (l : List α) (k : Nat) (hk : k < l.length) (i : Int) :
    idxFrom p (l.drop k) i = if p (l.getD k z) = true then i else idxFrom p (l.drop (k + 1)) (i + 1) := by
  rw [List.drop_eq_getElem_cons hk]
  simp only [idxFrom]
  rw [show l.getD k z = l[k] from by simp [List.getD_eq_getElem?_getD, List.getElem?_eq_getElem hk]]
def Tells (g : Nat) (lb : Array Value) (v : Value) (b : Bool) (w : World) : Prop :=
  ∀ W, Below w.heap.size w W → Calls Tryz.prog g (#[v] ++ lb) W fun e W' => e = .returned (.bool b) ∧ Below W.heap.size W W'
theorem below_trans' {w W W' : World} (h : Below w.heap.size w W) (h' : Below W.heap.size W W') : Below w.heap.size w W' := below_then h h.size h'
theorem indexFunc_int (p : Int → Bool) (g : Nat) (lb : Array Value) (eg : ∀ args w, (callFunc g args).run Tryz.prog w = .ok (.enter g args) w)
    (A : Option Addr) (c : Nat) (l : List Int) (w : World) (hr : Kd.C (Kd.int .i64) w A l.length l) (hg : ∀ x ∈ l, Tells g lb (.int .i64 x) (p x) w) :
    Calls Tryz.prog 185 #[.slice A l.length c, .func (.func g) #[] lb] w fun e w' => e = .returned (.int .i64 (idxFrom p l 0)) ∧ Below w.heap.size w w' := by
  have HR := Sd.mk hr
  have HG := Sd.mk hg
  have hmax := Kd.C_max hr
  clear hr hg
  go_enter Tryz.func185, Tryz.ntmps185
  go_wp2
  go_loopg [5, 8] l.length (fun kq _ v8 w' => ∃ k : Nat, v8 = .int .i64 k ∧ k ≤ l.length ∧ Sd (l.length - k ≤ kq) ∧ Sd (idxFrom p l 0 = idxFrom p (l.drop k) k) ∧ Sd (Below w.heap.size w w'))
  case atStart => exact ⟨0, rfl, Nat.zero_le _, ⟨by omega⟩, ⟨rfl⟩, ⟨Below.refl _ _⟩⟩
  case round =>
    obtain ⟨k, rfl, hk, HM, HI, HB⟩ := hrel
    by_cases hlt : k < l.length
    · have hltz : (k : Int) < (l.length : Int) := by omega
      obtain ⟨ad, e, hc⟩ := Kd.at_int (Kd.C_below HR.out HB.out) (k : Int) (by omega) hltz
      cases e
      have HD := idxFrom_drop p 0 l k hlt k
      have hx : rd l (k : Int) = l.getD k 0 := by simp [rd]
      have hmem : l.getD k 0 ∈ l := by
        rw [List.getD_eq_getElem?_getD, List.getElem?_eq_getElem hlt]; exact List.getElem_mem hlt
      have hcall := HG.out _ hmem _ HB.out
      rw [hx] at hc
      generalize hxx : l.getD k 0 = x at hc hcall HD
      have HX := Sd.mk hxx
      have HD' := Sd.mk HD
      clear hxx HD hx hmem
      simp only [Int.toNat_natCast] at hc
      cases hp : p x with
      | true =>
        rw [hp] at hcall
        have HP := Sd.mk hp
        clear hp
        go_wp2_with (go_at_fn g; refine (hcall).mono ?_; rintro e w1 ⟨rfl, hb1⟩)
        go_ret
        exact ⟨by rw [HI.out, HD'.out, if_pos HP.out]; rfl, below_trans' HB.out hb1⟩
      | false =>
        rw [hp] at hcall
        have HP := Sd.mk hp
        clear hp
        go_wp2_with (go_at_fn g; refine (hcall).mono ?_; rintro e w1 ⟨rfl, hb1⟩)
        go_roundg (l.length - (k + 1))
        case measure => have := HM.out; omega
        case rel =>
          exact ⟨k + 1, by go_num, by omega, ⟨by omega⟩, ⟨by rw [HI.out, HD'.out, if_neg (by rw [HP.out]; simp)]; simp⟩, ⟨below_trans' HB.out hb1⟩⟩
    · have hltz : ¬ (k : Int) < (l.length : Int) := by omega
      go_wp2
      go_ret
      exact ⟨by rw [HI.out, List.drop_eq_nil_of_le (by omega)]; rfl, HB.out⟩
theorem containsFunc_int (p : Int → Bool) (g : Nat) (lb : Array Value) (eg : ∀ args w, (callFunc g args).run Tryz.prog w = .ok (.enter g args) w)
    (A : Option Addr) (c : Nat) (l : List Int) (w : World) (hr : Kd.C (Kd.int .i64) w A l.length l) (hg : ∀ x ∈ l, Tells g lb (.int .i64 x) (p x) w) :
    Calls Tryz.prog 106 #[.slice A l.length c, .func (.func g) #[] lb] w fun e w' => e = .returned (.bool (l.any p)) ∧ Below w.heap.size w w' := by
  have H := indexFunc_int p g lb eg A c l w hr hg
  have HA := Sd.mk (idxFrom_any p l 0 (Int.le_refl 0))
  clear hr hg eg
  go_enter Tryz.func106, Tryz.ntmps106
  go_wp2_with (go_at_call 185; refine H.mono ?_; rintro e w1 ⟨rfl, hb1⟩)
  go_ret
  exact ⟨by rw [← HA.out]; rfl, hb1⟩
theorem indexFunc_span (p : S27 → Bool) (g : Nat) (lb : Array Value) (eg : ∀ args w, (callFunc g args).run Tryz.prog w = .ok (.enter g args) w)
    (A : Option Addr) (c : Nat) (l : List S27) (w : World) (hr : Kd.C k27 w A l.length l) (hg : ∀ x ∈ l, Tells g lb (.agg #[.int .i64 x.f0, .int .i64 x.f1]) (p x) w) :
    Calls Tryz.prog 181 #[.slice A l.length c, .func (.func g) #[] lb] w fun e w' => e = .returned (.int .i64 (idxFrom p l 0)) ∧ Below w.heap.size w w' := by
  have HR := Sd.mk hr
  have HG := Sd.mk hg
  have hmax := Kd.C_max hr
  clear hr hg
  go_enter Tryz.func181, Tryz.ntmps181
  go_wp2
  go_loopg [5, 8] l.length (fun kq _ v8 w' => ∃ k : Nat, v8 = .int .i64 k ∧ k ≤ l.length ∧ Sd (l.length - k ≤ kq) ∧ Sd (idxFrom p l 0 = idxFrom p (l.drop k) k) ∧ Sd (Below w.heap.size w w'))
  case atStart => exact ⟨0, rfl, Nat.zero_le _, ⟨by omega⟩, ⟨rfl⟩, ⟨Below.refl _ _⟩⟩
  case round =>
    obtain ⟨k, rfl, hk, HM, HI, HB⟩ := hrel
    by_cases hlt : k < l.length
    · have hltz : (k : Int) < (l.length : Int) := by omega
      obtain ⟨ad, e, hc0, hc1⟩ := at_T27 (Kd.C_below HR.out HB.out) (k : Int) (by omega) hltz
      cases e
      have HD := idxFrom_drop p z27 l k hlt k
      have hx : rd_T27 l (k : Int) = l.getD k z27 := by simp [rd_T27]
      have hmem : l.getD k z27 ∈ l := by
        rw [List.getD_eq_getElem?_getD, List.getElem?_eq_getElem hlt]; exact List.getElem_mem hlt
      have hcall := HG.out _ hmem _ HB.out
      rw [hx] at hc0 hc1
      generalize hxx : l.getD k z27 = x at hc0 hc1 hcall HD
      have HX := Sd.mk hxx
      have HD' := Sd.mk HD
      clear hxx HD hx hmem
      simp only [Int.toNat_natCast] at hc0 hc1
      cases hp : p x with
      | true =>
        rw [hp] at hcall
        have HP := Sd.mk hp
        clear hp
        go_wp2_with (go_at_fn g; refine (hcall).mono ?_; rintro e w1 ⟨rfl, hb1⟩)
        go_ret
        exact ⟨by rw [HI.out, HD'.out, if_pos HP.out]; rfl, below_trans' HB.out hb1⟩
      | false =>
        rw [hp] at hcall
        have HP := Sd.mk hp
        clear hp
        go_wp2_with (go_at_fn g; refine (hcall).mono ?_; rintro e w1 ⟨rfl, hb1⟩)
        go_roundg (l.length - (k + 1))
        case measure => have := HM.out; omega
        case rel =>
          exact ⟨k + 1, by go_num, by omega, ⟨by omega⟩, ⟨by rw [HI.out, HD'.out, if_neg (by rw [HP.out]; simp)]; simp⟩, ⟨below_trans' HB.out hb1⟩⟩
    · have hltz : ¬ (k : Int) < (l.length : Int) := by omega
      go_wp2
      go_ret
      exact ⟨by rw [HI.out, List.drop_eq_nil_of_le (by omega)]; rfl, HB.out⟩
theorem containsFunc_span (p : S27 → Bool) (g : Nat) (lb : Array Value) (eg : ∀ args w, (callFunc g args).run Tryz.prog w = .ok (.enter g args) w)
    (A : Option Addr) (c : Nat) (l : List S27) (w : World) (hr : Kd.C k27 w A l.length l) (hg : ∀ x ∈ l, Tells g lb (.agg #[.int .i64 x.f0, .int .i64 x.f1]) (p x) w) :
    Calls Tryz.prog 99 #[.slice A l.length c, .func (.func g) #[] lb] w fun e w' => e = .returned (.bool (l.any p)) ∧ Below w.heap.size w w' := by
  have H := indexFunc_span p g lb eg A c l w hr hg
  have HA := Sd.mk (idxFrom_any p l 0 (Int.le_refl 0))
  clear hr hg eg
  go_enter Tryz.func99, Tryz.ntmps99
  go_wp2_with (go_at_call 181; refine H.mono ?_; rintro e w1 ⟨rfl, hb1⟩)
  go_ret
  exact ⟨by rw [← HA.out]; rfl, hb1⟩
theorem indexFunc_mat (p : S70 → Bool) (g : Nat) (lb : Array Value) (eg : ∀ args w, (callFunc g args).run Tryz.prog w = .ok (.enter g args) w)
    (A : Option Addr) (c : Nat) (l : List S70) (w : World) (hr : Kd.C k70 w A l.length l) (hg : ∀ x ∈ l, ∀ (A6 : Option Addr) (c6 : Nat), Tells g lb (.agg #[.string x.f0, .int .i64 x.f1, .int .i64 x.f2, .int .i64 x.f3, .int .i64 x.f4, .int .i64 x.f5, .slice A6 x.f6.length c6]) (p x) w) :
    Calls Tryz.prog 236 #[.slice A l.length c, .func (.func g) #[] lb] w fun e w' => e = .returned (.int .i64 (idxFrom p l 0)) ∧ Below w.heap.size w w' := by
  have HR := Sd.mk hr
  have HG := Sd.mk hg
  have hmax := Kd.C_max hr
  clear hr hg
  go_enter Tryz.func236, Tryz.ntmps236
  go_wp2
  go_loopg [5, 8] l.length (fun kq _ v8 w' => ∃ k : Nat, v8 = .int .i64 k ∧ k ≤ l.length ∧ Sd (l.length - k ≤ kq) ∧ Sd (idxFrom p l 0 = idxFrom p (l.drop k) k) ∧ Sd (Below w.heap.size w w'))
  case atStart => exact ⟨0, rfl, Nat.zero_le _, ⟨by omega⟩, ⟨rfl⟩, ⟨Below.refl _ _⟩⟩
  case round =>
    obtain ⟨k, rfl, hk, HM, HI, HB⟩ := hrel
    by_cases hlt : k < l.length
    · have hltz : (k : Int) < (l.length : Int) := by omega
      obtain ⟨ad, A6, c6, e, hc0, hc1, hc2, hc3, hc4, hc5, hc6, _, _⟩ := at_T70 (Kd.C_below HR.out HB.out) (k : Int) (by omega) hltz
      cases e
      have HD := idxFrom_drop p z70 l k hlt k
      have hx : rd_T70 l (k : Int) = l.getD k z70 := by simp [rd_T70]
      have hmem : l.getD k z70 ∈ l := by
        rw [List.getD_eq_getElem?_getD, List.getElem?_eq_getElem hlt]; exact List.getElem_mem hlt
      have hcall := HG.out _ hmem A6 c6 _ HB.out
      rw [hx] at hc0 hc1 hc2 hc3 hc4 hc5 hc6
      generalize hxx : l.getD k z70 = x at hc0 hc1 hc2 hc3 hc4 hc5 hc6 hcall HD
      have HX := Sd.mk hxx
      have HD' := Sd.mk HD
      clear hxx HD hx hmem
      simp only [Int.toNat_natCast] at hc0 hc1 hc2 hc3 hc4 hc5 hc6
      cases hp : p x with
      | true =>
        rw [hp] at hcall
        have HP := Sd.mk hp
        clear hp
        go_wp2_with (go_at_fn g; refine (hcall).mono ?_; rintro e w1 ⟨rfl, hb1⟩)
        go_ret
        exact ⟨by rw [HI.out, HD'.out, if_pos HP.out]; rfl, below_trans' HB.out hb1⟩
      | false =>
        rw [hp] at hcall
        have HP := Sd.mk hp
        clear hp
        go_wp2_with (go_at_fn g; refine (hcall).mono ?_; rintro e w1 ⟨rfl, hb1⟩)
        go_roundg (l.length - (k + 1))
        case measure => have := HM.out; omega
        case rel =>
          exact ⟨k + 1, by go_num, by omega, ⟨by omega⟩, ⟨by rw [HI.out, HD'.out, if_neg (by rw [HP.out]; simp)]; simp⟩, ⟨below_trans' HB.out hb1⟩⟩
    · have hltz : ¬ (k : Int) < (l.length : Int) := by omega
      go_wp2
      go_ret
      exact ⟨by rw [HI.out, List.drop_eq_nil_of_le (by omega)]; rfl, HB.out⟩
theorem containsFunc_mat (p : S70 → Bool) (g : Nat) (lb : Array Value) (eg : ∀ args w, (callFunc g args).run Tryz.prog w = .ok (.enter g args) w)
    (A : Option Addr) (c : Nat) (l : List S70) (w : World) (hr : Kd.C k70 w A l.length l) (hg : ∀ x ∈ l, ∀ (A6 : Option Addr) (c6 : Nat), Tells g lb (.agg #[.string x.f0, .int .i64 x.f1, .int .i64 x.f2, .int .i64 x.f3, .int .i64 x.f4, .int .i64 x.f5, .slice A6 x.f6.length c6]) (p x) w) :
    Calls Tryz.prog 209 #[.slice A l.length c, .func (.func g) #[] lb] w fun e w' => e = .returned (.bool (l.any p)) ∧ Below w.heap.size w w' := by
  have H := indexFunc_mat p g lb eg A c l w hr hg
  have HA := Sd.mk (idxFrom_any p l 0 (Int.le_refl 0))
  clear hr hg eg
  go_enter Tryz.func209, Tryz.ntmps209
  go_wp2_with (go_at_call 236; refine H.mono ?_; rintro e w1 ⟨rfl, hb1⟩)
  go_ret
  exact ⟨by rw [← HA.out]; rfl, hb1⟩
theorem indexFunc_prop (p : S89 → Bool) (g : Nat) (lb : Array Value) (eg : ∀ args w, (callFunc g args).run Tryz.prog w = .ok (.enter g args) w)
    (A : Option Addr) (c : Nat) (l : List S89) (w : World) (hr : Kd.C k89 w A l.length l) (hg : ∀ x ∈ l, ∀ (A1 : Option Addr) (c1 : Nat), Tells g lb (.agg #[.string x.f0, .slice A1 x.f1.length c1, .int .i64 x.f2.f0, .int .i64 x.f2.f1]) (p x) w) :
    Calls Tryz.prog 211 #[.slice A l.length c, .func (.func g) #[] lb] w fun e w' => e = .returned (.int .i64 (idxFrom p l 0)) ∧ Below w.heap.size w w' := by
  have HR := Sd.mk hr
  have HG := Sd.mk hg
  have hmax := Kd.C_max hr
  clear hr hg
  go_enter Tryz.func211, Tryz.ntmps211
  go_wp2
  go_loopg [5, 8] l.length (fun kq _ v8 w' => ∃ k : Nat, v8 = .int .i64 k ∧ k ≤ l.length ∧ Sd (l.length - k ≤ kq) ∧ Sd (idxFrom p l 0 = idxFrom p (l.drop k) k) ∧ Sd (Below w.heap.size w w'))
  case atStart => exact ⟨0, rfl, Nat.zero_le _, ⟨by omega⟩, ⟨rfl⟩, ⟨Below.refl _ _⟩⟩
  case round =>
    obtain ⟨k, rfl, hk, HM, HI, HB⟩ := hrel
    by_cases hlt : k < l.length
    · have hltz : (k : Int) < (l.length : Int) := by omega
      obtain ⟨ad, A1, c1, e, hc0, hc1, hc2, hc3, _, _⟩ := at_T89 (Kd.C_below HR.out HB.out) (k : Int) (by omega) hltz
      cases e
      have HD := idxFrom_drop p z89 l k hlt k
      have hx : rd_T89 l (k : Int) = l.getD k z89 := by simp [rd_T89]
      have hmem : l.getD k z89 ∈ l := by
        rw [List.getD_eq_getElem?_getD, List.getElem?_eq_getElem hlt]; exact List.getElem_mem hlt
      have hcall := HG.out _ hmem A1 c1 _ HB.out
      rw [hx] at hc0 hc1 hc2 hc3
      generalize hxx : l.getD k z89 = x at hc0 hc1 hc2 hc3 hcall HD
      have HX := Sd.mk hxx
      have HD' := Sd.mk HD
      clear hxx HD hx hmem
      simp only [Int.toNat_natCast] at hc0 hc1 hc2 hc3
      cases hp : p x with
      | true =>
        rw [hp] at hcall
        have HP := Sd.mk hp
        clear hp
        go_wp2_with (go_at_fn g; refine (hcall).mono ?_; rintro e w1 ⟨rfl, hb1⟩)
        go_ret
        exact ⟨by rw [HI.out, HD'.out, if_pos HP.out]; rfl, below_trans' HB.out hb1⟩
      | false =>
        rw [hp] at hcall
        have HP := Sd.mk hp
        clear hp
        go_wp2_with (go_at_fn g; refine (hcall).mono ?_; rintro e w1 ⟨rfl, hb1⟩)
        go_roundg (l.length - (k + 1))
        case measure => have := HM.out; omega
        case rel =>
          exact ⟨k + 1, by go_num, by omega, ⟨by omega⟩, ⟨by rw [HI.out, HD'.out, if_neg (by rw [HP.out]; simp)]; simp⟩, ⟨below_trans' HB.out hb1⟩⟩
    · have hltz : ¬ (k : Int) < (l.length : Int) := by omega
      go_wp2
      go_ret
      exact ⟨by rw [HI.out, List.drop_eq_nil_of_le (by omega)]; rfl, HB.out⟩
theorem containsFunc_prop (p : S89 → Bool) (g : Nat) (lb : Array Value) (eg : ∀ args w, (callFunc g args).run Tryz.prog w = .ok (.enter g args) w)
    (A : Option Addr) (c : Nat) (l : List S89) (w : World) (hr : Kd.C k89 w A l.length l) (hg : ∀ x ∈ l, ∀ (A1 : Option Addr) (c1 : Nat), Tells g lb (.agg #[.string x.f0, .slice A1 x.f1.length c1, .int .i64 x.f2.f0, .int .i64 x.f2.f1]) (p x) w) :
    Calls Tryz.prog 182 #[.slice A l.length c, .func (.func g) #[] lb] w fun e w' => e = .returned (.bool (l.any p)) ∧ Below w.heap.size w w' := by
  have H := indexFunc_prop p g lb eg A c l w hr hg
  have HA := Sd.mk (idxFrom_any p l 0 (Int.le_refl 0))
  clear hr hg eg
  go_enter Tryz.func182, Tryz.ntmps182
  go_wp2_with (go_at_call 211; refine H.mono ?_; rintro e w1 ⟨rfl, hb1⟩)
  go_ret
  exact ⟨by rw [← HA.out]; rfl, hb1⟩
end
section
def b_within.f (a0 : Int) (a1 : Int) (a2 : Int) : Option (Bool) := if a0 ≥ a1 then (some (decide (a0 ≤ a2))) else (some false)
theorem b_within.calls (a0 : Int) (a1 : Int) (a2 : Int) (r : Bool) (w : World) (h : b_within.f a0 a1 a2 = some r) :
  Calls Tryz.prog 56 #[.int .i64 a0, .int .i64 a1, .int .i64 a2] w fun e w' => e = .returned (.bool r) ∧ Drawn0 w w' := by
 have H : (if a0 ≥ a1 then (some (decide (a0 ≤ a2))) else (some false)) = some r := h
 clear h
 by_cases c4 : a0 ≥ a1
 ·rw [if_pos c4] at H
  have c4b0 : decide (a1 ≤ a0) = true := decide_eq_true c4
  clear c4; obtain rfl := Option.some.inj H
  go_enter Tryz.func56, Tryz.ntmps56
  go_wp2
  go_ret
  exact ⟨by first | rfl | (simp; done) | (simp [*]; done), by repeat (first | exact Drawn0.refl _ | apply Drawn0.step)⟩
 ·rw [if_neg c4] at H
  have c4b0 : decide (a1 ≤ a0) = false := decide_eq_false c4
  clear c4; obtain rfl := Option.some.inj H
  go_enter Tryz.func56, Tryz.ntmps56
  go_wp2
  go_ret
  exact ⟨by first | rfl | (simp; done) | (simp [*]; done), by repeat (first | exact Drawn0.refl _ | apply Drawn0.step)⟩
end
section
mutual
def b_name.j0 : Nat → ByteArray → Bool → Option (Bool)
 | 0, _, _ => none
 | k + 1, x0, x22 => if x22 = true then (some false) else (b_name.l0 k x0 (x0.size : Int) 0)
def b_name.l0 : Nat → ByteArray → Int → Int → Option (Bool)
 | 0, _, _, _ => none
 | k + 1, x0, x24, x25 => if x25 < x24 then (if 0 ≤ x25 then (if x25 < (x0.size : Int) then (if (bt x0 x25) ≥ 97 then (if (bt x0 x25) ≤ 122 then (b_name.l0 k x0 x24 (wrap64 (x25 + 1))) else (if (bt x0 x25) ≥ 48 then (if (bt x0 x25) ≤ 57 then (b_name.l0 k x0 x24 (wrap64 (x25 + 1))) else (if ((bt x0 x25) = 45) then (b_name.l0 k x0 x24 (wrap64 (x25 + 1))) else (some false))) else (if ((bt x0 x25) = 45) then (b_name.l0 k x0 x24 (wrap64 (x25 + 1))) else (some false)))) else (if (bt x0 x25) ≥ 48 then (if (bt x0 x25) ≤ 57 then (b_name.l0 k x0 x24 (wrap64 (x25 + 1))) else (if ((bt x0 x25) = 45) then (b_name.l0 k x0 x24 (wrap64 (x25 + 1))) else (some false))) else (if ((bt x0 x25) = 45) then (b_name.l0 k x0 x24 (wrap64 (x25 + 1))) else (some false)))) else (none)) else (none)) else (some true)
end
def b_name.f (k : Nat) (a0 : ByteArray) : Option (Bool) := if (a0.size : Int) < 1 then (b_name.j0 k a0 true) else (if (a0.size : Int) > 16 then (b_name.j0 k a0 true) else (if 0 < (a0.size : Int) then (if (bt a0 0) < 97 then (b_name.j0 k a0 true) else (b_name.j0 k a0 (decide ((bt a0 0) > 122)))) else (none)))
theorem b_name.calls (k : Nat) (a0 : ByteArray) (r : Bool) (w : World) (h : b_name.f k a0 = some r) :
  Calls Tryz.prog 102 #[.string a0] w fun e w' => e = .returned (.bool r) ∧ Drawn0 w w' := by
 have H : (if (a0.size : Int) < 1 then (b_name.j0 k a0 true) else (if (a0.size : Int) > 16 then (b_name.j0 k a0 true) else (if 0 < (a0.size : Int) then (if (bt a0 0) < 97 then (b_name.j0 k a0 true) else (b_name.j0 k a0 (decide ((bt a0 0) > 122)))) else (none)))) = some r := h
 clear h; have HC2 := Sd.mk H; clear H
 go_enter Tryz.func102, Tryz.ntmps102
 go_upto_region 1 with (fail)
 go_cut [22] (fun v22 wc => ∃ (kq : Nat) (x22_1 : Bool), v22 = .bool x22_1 ∧ Sd (b_name.j0 kq a0 x22_1 = some r) ∧ Sd (kq ≤ k) ∧ Drawn0 w wc)
 case first =>
  have H := HC2.out; clear HC2
  by_cases c3 : (a0.size : Int) < 1
  ·rw [if_pos c3] at H
   have c3b0 : decide ((a0.size : Int) < 1) = true := decide_eq_true c3
   have c3b1 : decide (a0.size < 1) = true := decide_eq_true (by omega)
   clear c3
   (first | rw [c3b0] | (simp only [i64_w, i32_w]; rw [c3b0]) | skip)
   have H' := Sd.mk H; clear H
   go_wp2
   go_meet
   case rel => exact ⟨_, (true), tS, H', ⟨by first | omega | exact Nat.le_refl _⟩, by repeat (first | exact Drawn0.refl _ | apply Drawn0.step)⟩
  ·rw [if_neg c3] at H
   have c3b0 : decide ((a0.size : Int) < 1) = false := decide_eq_false c3
   have c3b1 : decide (a0.size < 1) = false := decide_eq_false (by omega)
   clear c3
   (first | rw [c3b0] | (simp only [i64_w, i32_w]; rw [c3b0]) | skip)
   by_cases c4 : (a0.size : Int) > 16
   ·rw [if_pos c4] at H
    have c4b0 : decide (16 < (a0.size : Int)) = true := decide_eq_true c4
    have c4b1 : decide (16 < a0.size) = true := decide_eq_true (by omega)
    clear c4; have H' := Sd.mk H; clear H
    go_wp2
    go_meet
    case rel => exact ⟨_, (true), tS, H', ⟨by first | omega | exact Nat.le_refl _⟩, by repeat (first | exact Drawn0.refl _ | apply Drawn0.step)⟩
   ·rw [if_neg c4] at H
    have c4b0 : decide (16 < (a0.size : Int)) = false := decide_eq_false c4
    have c4b1 : decide (16 < a0.size) = false := decide_eq_false (by omega)
    clear c4
    by_cases c5 : 0 < (a0.size : Int)
    ·rw [if_pos c5] at H
     have c5b0 : decide (0 < (a0.size : Int)) = true := decide_eq_true c5
     have c5b1 : decide (0 < a0.size) = true := decide_eq_true (by omega)
     clear c5
     by_cases c7 : (bt a0 0) < 97
     ·rw [if_pos c7] at H
      have c7b0 : decide ((bt a0 0) < 97) = true := decide_eq_true c7
      clear c7; have H' := Sd.mk H; clear H
      have p6 : 0 ≤ (0 : Int) := (by omega)
      have q6 : 0 < a0.size := (by have : (0 : Int) < (a0.size : Int) := tB; omega)
      have hx6 : ∀ h : 0 < a0.size, ((a0[0]'h).toNat : Int) = bt a0 0 := bt_at a0 0
      clear p6
      have qi6 : (0 < (a0.size : Int)) = True := eq_true (tB)
      replace q6 := eq_true q6
      go_wp2
      go_meet
      case rel => exact ⟨_, (true), tS, H', ⟨by first | omega | exact Nat.le_refl _⟩, by repeat (first | exact Drawn0.refl _ | apply Drawn0.step)⟩
     ·rw [if_neg c7] at H
      have c7b0 : decide ((bt a0 0) < 97) = false := decide_eq_false c7
      clear c7; have H' := Sd.mk H; clear H
      have p6 : 0 ≤ (0 : Int) := (by omega)
      have q6 : 0 < a0.size := (by have : (0 : Int) < (a0.size : Int) := tB; omega)
      have hx6 : ∀ h : 0 < a0.size, ((a0[0]'h).toNat : Int) = bt a0 0 := bt_at a0 0
      clear p6
      have qi6 : (0 < (a0.size : Int)) = True := eq_true (tB)
      replace q6 := eq_true q6
      have p8 : 0 ≤ (0 : Int) := (by omega)
      have q8 : 0 < a0.size := (by have : (0 : Int) < (a0.size : Int) := tB; omega)
      have hx8 : ∀ h : 0 < a0.size, ((a0[0]'h).toNat : Int) = bt a0 0 := bt_at a0 0
      clear p8
      have qi8 : (0 < (a0.size : Int)) = True := eq_true (tB)
      replace q8 := eq_true q8
      go_wp2
      go_meet
      case rel => exact ⟨_, (decide ((bt a0 0) > 122)), tS, H', ⟨by first | omega | exact Nat.le_refl _⟩, by repeat (first | exact Drawn0.refl _ | apply Drawn0.step)⟩
    ·rw [if_neg c5] at H
     exact absurd H (by simp)
 case rest =>
  clear HC2; (try clear c1); (try clear p2); (try clear c3); (try clear c3b0); (try clear c3b1); (try clear c4); (try clear c4b0); (try clear c4b1); (try clear c5); (try clear c5b0); (try clear c5b1); (try clear p6 p6); (try clear q6 q6); (try clear hx6); (try clear qi6); (try clear c7); (try clear c7b0); (try clear p8 p8); (try clear q8 q8); (try clear hx8); (try clear qi8)
  obtain ⟨kq, x22_1, rfl, HA, HJ1, ⟨mc1, rfl⟩⟩ := hcut
  cases kq with
  | zero => exact absurd HA.out (by simp [b_name.j0])
  | succ kj1 =>
   have H := HA.out; clear HA
   simp only [b_name.j0] at H
   by_cases c9 : x22_1 = true
   ·subst c9
    have H1 : (some false) = some r := by rw [if_pos rfl] at H; exact H
    clear H; have H := H1; clear H1; obtain rfl := Option.some.inj H
    go_wp2
    go_ret
    exact ⟨by first | rfl | (simp; done) | (simp [*]; done), by repeat (first | exact Drawn0.refl _ | apply Drawn0.step)⟩
   ·replace c9 := Bool.eq_false_iff.mpr c9
    subst c9
    have H1 : (b_name.l0 kj1 a0 (a0.size : Int) 0) = some r := by rw [if_neg (show ¬ (false = true) by decide)] at H; exact H
    clear H; have H := H1; clear H1; have H' := Sd.mk H; clear H
    go_wp2
    go_loopg [25] kj1 (fun kq v25 w' => ∃ (x25_2 : Int), v25 = .int .i64 x25_2 ∧ Sd (b_name.l0 kq a0 (a0.size : Int) x25_2 = some r) ∧ Sd (kq ≤ kj1) ∧ Drawn0 w w')
    case atStart => exact ⟨(0), tS, H', ⟨Nat.le_refl _⟩, by repeat (first | exact Drawn0.refl _ | apply Drawn0.step)⟩
    case round =>
     clear H'; (try clear c1); (try clear p2 p2); (try clear c3); (try clear c3b0); (try clear c3b1); (try clear c4); (try clear c4b0); (try clear c4b1); (try clear c5); (try clear c5b0); (try clear c5b1); (try clear p6 p6); (try clear q6 q6); (try clear hx6); (try clear qi6); (try clear c7); (try clear c7b0); (try clear p8 p8); (try clear q8 q8); (try clear hx8); (try clear qi8); (try clear c9)
     obtain ⟨x25_2, rfl, HA, HK2, ⟨m2, rfl⟩⟩ := hrel
     cases gk with
     | zero => exact absurd HA.out (by simp [b_name.l0])
     | succ k2 =>
      have H := HA.out; clear HA
      simp only [b_name.l0] at H
      by_cases c10 : x25_2 < (a0.size : Int)
      ·rw [if_pos c10] at H
       have c10b0 : decide (x25_2 < (a0.size : Int)) = true := decide_eq_true c10
       clear c10
       by_cases c11 : 0 ≤ x25_2
       ·rw [if_pos c11] at H
        have c11b0 : decide (0 ≤ x25_2) = true := decide_eq_true c11
        clear c11
        by_cases c12 : x25_2 < (a0.size : Int)
        ·rw [if_pos c12] at H
         have c12b0 : decide (x25_2 < (a0.size : Int)) = true := decide_eq_true c12
         clear c12
         by_cases c14 : (bt a0 x25_2) ≥ 97
         ·rw [if_pos c14] at H
          have c14b0 : decide (97 ≤ (bt a0 x25_2)) = true := decide_eq_true c14
          clear c14
          by_cases c15 : (bt a0 x25_2) ≤ 122
          ·rw [if_pos c15] at H
           have c15b0 : decide ((bt a0 x25_2) ≤ 122) = true := decide_eq_true c15
           clear c15; have H' := Sd.mk H; clear H
           have p13 : 0 ≤ (x25_2 : Int) := tB
           have q13 : x25_2 < (a0.size : Int) := tB
           have hx13 := bt_at a0 x25_2; replace p13 := eq_true p13; replace q13 := eq_true q13
           go_wp2
           go_roundg k2
           case measure => have := HJ1.out; have := HK2.out; omega
           case rel => exact ⟨(wrap64 (x25_2 + 1)), tS, H', ⟨by have := HJ1.out; have := HK2.out; omega⟩, by repeat (first | exact Drawn0.refl _ | apply Drawn0.step)⟩
          ·rw [if_neg c15] at H
           have c15b0 : decide ((bt a0 x25_2) ≤ 122) = false := decide_eq_false c15
           clear c15
           by_cases c16 : (bt a0 x25_2) ≥ 48
           ·rw [if_pos c16] at H
            have c16b0 : decide (48 ≤ (bt a0 x25_2)) = true := decide_eq_true c16
            clear c16
            by_cases c17 : (bt a0 x25_2) ≤ 57
            ·rw [if_pos c17] at H
             have c17b0 : decide ((bt a0 x25_2) ≤ 57) = true := decide_eq_true c17
             clear c17; have H' := Sd.mk H; clear H
             have p13 : 0 ≤ (x25_2 : Int) := tB
             have q13 : x25_2 < (a0.size : Int) := tB
             have hx13 := bt_at a0 x25_2; replace p13 := eq_true p13; replace q13 := eq_true q13
             go_wp2
             go_roundg k2
             case measure => have := HJ1.out; have := HK2.out; omega
             case rel => exact ⟨(wrap64 (x25_2 + 1)), tS, H', ⟨by have := HJ1.out; have := HK2.out; omega⟩, by repeat (first | exact Drawn0.refl _ | apply Drawn0.step)⟩
            ·rw [if_neg c17] at H
             have c17b0 : decide ((bt a0 x25_2) ≤ 57) = false := decide_eq_false c17
             clear c17
             by_cases c18 : ((bt a0 x25_2) = 45)
             ·rw [if_pos c18] at H
              have c18b0 : ((bt a0 x25_2) == 45) = true := beq_iff_eq.mpr c18
              have c18b1 : ((bt a0 x25_2) != 45) = false := bne_eq_false_iff_eq.mpr c18
              clear c18; have H' := Sd.mk H; clear H
              have p13 : 0 ≤ (x25_2 : Int) := tB
              have q13 : x25_2 < (a0.size : Int) := tB
              have hx13 := bt_at a0 x25_2; replace p13 := eq_true p13; replace q13 := eq_true q13
              go_wp2
              go_roundg k2
              case measure => have := HJ1.out; have := HK2.out; omega
              case rel => exact ⟨(wrap64 (x25_2 + 1)), tS, H', ⟨by have := HJ1.out; have := HK2.out; omega⟩, by repeat (first | exact Drawn0.refl _ | apply Drawn0.step)⟩
             ·rw [if_neg c18] at H
              have c18b0 : ((bt a0 x25_2) == 45) = false := beq_eq_false_iff_ne.mpr c18
              have c18b1 : ((bt a0 x25_2) != 45) = true := bne_iff_ne.mpr c18
              obtain rfl := Option.some.inj H
              have p13 : 0 ≤ (x25_2 : Int) := tB
              have q13 : x25_2 < (a0.size : Int) := tB
              have hx13 := bt_at a0 x25_2; replace p13 := eq_true p13; replace q13 := eq_true q13
              go_wp2
              go_ret
              exact ⟨by first | rfl | (simp; done) | (simp [*]; done), by repeat (first | exact Drawn0.refl _ | apply Drawn0.step)⟩
           ·rw [if_neg c16] at H
            have c16b0 : decide (48 ≤ (bt a0 x25_2)) = false := decide_eq_false c16
            clear c16
            by_cases c19 : ((bt a0 x25_2) = 45)
            ·rw [if_pos c19] at H
             have c19b0 : ((bt a0 x25_2) == 45) = true := beq_iff_eq.mpr c19
             have c19b1 : ((bt a0 x25_2) != 45) = false := bne_eq_false_iff_eq.mpr c19
             clear c19; have H' := Sd.mk H; clear H
             have p13 : 0 ≤ (x25_2 : Int) := tB
             have q13 : x25_2 < (a0.size : Int) := tB
             have hx13 := bt_at a0 x25_2; replace p13 := eq_true p13; replace q13 := eq_true q13
             go_wp2
             go_roundg k2
             case measure => have := HJ1.out; have := HK2.out; omega
             case rel => exact ⟨(wrap64 (x25_2 + 1)), tS, H', ⟨by have := HJ1.out; have := HK2.out; omega⟩, by repeat (first | exact Drawn0.refl _ | apply Drawn0.step)⟩
            ·rw [if_neg c19] at H
             have c19b0 : ((bt a0 x25_2) == 45) = false := beq_eq_false_iff_ne.mpr c19
             have c19b1 : ((bt a0 x25_2) != 45) = true := bne_iff_ne.mpr c19
             obtain rfl := Option.some.inj H
             have p13 : 0 ≤ (x25_2 : Int) := tB
             have q13 : x25_2 < (a0.size : Int) := tB
             have hx13 := bt_at a0 x25_2; replace p13 := eq_true p13; replace q13 := eq_true q13
             go_wp2
             go_ret
             exact ⟨by first | rfl | (simp; done) | (simp [*]; done), by repeat (first | exact Drawn0.refl _ | apply Drawn0.step)⟩
         ·rw [if_neg c14] at H
          have c14b0 : decide (97 ≤ (bt a0 x25_2)) = false := decide_eq_false c14
          clear c14
          by_cases c20 : (bt a0 x25_2) ≥ 48
          ·rw [if_pos c20] at H
           have c20b0 : decide (48 ≤ (bt a0 x25_2)) = true := decide_eq_true c20
           clear c20
           by_cases c21 : (bt a0 x25_2) ≤ 57
           ·rw [if_pos c21] at H
            have c21b0 : decide ((bt a0 x25_2) ≤ 57) = true := decide_eq_true c21
            clear c21; have H' := Sd.mk H; clear H
            have p13 : 0 ≤ (x25_2 : Int) := tB
            have q13 : x25_2 < (a0.size : Int) := tB
            have hx13 := bt_at a0 x25_2; replace p13 := eq_true p13; replace q13 := eq_true q13
            go_wp2
            go_roundg k2
            case measure => have := HJ1.out; have := HK2.out; omega
            case rel => exact ⟨(wrap64 (x25_2 + 1)), tS, H', ⟨by have := HJ1.out; have := HK2.out; omega⟩, by repeat (first | exact Drawn0.refl _ | apply Drawn0.step)⟩
           ·rw [if_neg c21] at H
            have c21b0 : decide ((bt a0 x25_2) ≤ 57) = false := decide_eq_false c21
            clear c21
            by_cases c22 : ((bt a0 x25_2) = 45)
            ·rw [if_pos c22] at H
             have c22b0 : ((bt a0 x25_2) == 45) = true := beq_iff_eq.mpr c22
             have c22b1 : ((bt a0 x25_2) != 45) = false := bne_eq_false_iff_eq.mpr c22
             clear c22; have H' := Sd.mk H; clear H
             have p13 : 0 ≤ (x25_2 : Int) := tB
             have q13 : x25_2 < (a0.size : Int) := tB
             have hx13 := bt_at a0 x25_2; replace p13 := eq_true p13; replace q13 := eq_true q13
             go_wp2
             go_roundg k2
             case measure => have := HJ1.out; have := HK2.out; omega
             case rel => exact ⟨(wrap64 (x25_2 + 1)), tS, H', ⟨by have := HJ1.out; have := HK2.out; omega⟩, by repeat (first | exact Drawn0.refl _ | apply Drawn0.step)⟩
            ·rw [if_neg c22] at H
             have c22b0 : ((bt a0 x25_2) == 45) = false := beq_eq_false_iff_ne.mpr c22
             have c22b1 : ((bt a0 x25_2) != 45) = true := bne_iff_ne.mpr c22
             obtain rfl := Option.some.inj H
             have p13 : 0 ≤ (x25_2 : Int) := tB
             have q13 : x25_2 < (a0.size : Int) := tB
             have hx13 := bt_at a0 x25_2; replace p13 := eq_true p13; replace q13 := eq_true q13
             go_wp2
             go_ret
             exact ⟨by first | rfl | (simp; done) | (simp [*]; done), by repeat (first | exact Drawn0.refl _ | apply Drawn0.step)⟩
          ·rw [if_neg c20] at H
           have c20b0 : decide (48 ≤ (bt a0 x25_2)) = false := decide_eq_false c20
           clear c20
           by_cases c23 : ((bt a0 x25_2) = 45)
           ·rw [if_pos c23] at H
            have c23b0 : ((bt a0 x25_2) == 45) = true := beq_iff_eq.mpr c23
            have c23b1 : ((bt a0 x25_2) != 45) = false := bne_eq_false_iff_eq.mpr c23
            clear c23; have H' := Sd.mk H; clear H
            have p13 : 0 ≤ (x25_2 : Int) := tB
            have q13 : x25_2 < (a0.size : Int) := tB
            have hx13 := bt_at a0 x25_2; replace p13 := eq_true p13; replace q13 := eq_true q13
            go_wp2
            go_roundg k2
            case measure => have := HJ1.out; have := HK2.out; omega
            case rel => exact ⟨(wrap64 (x25_2 + 1)), tS, H', ⟨by have := HJ1.out; have := HK2.out; omega⟩, by repeat (first | exact Drawn0.refl _ | apply Drawn0.step)⟩
           ·rw [if_neg c23] at H
            have c23b0 : ((bt a0 x25_2) == 45) = false := beq_eq_false_iff_ne.mpr c23
            have c23b1 : ((bt a0 x25_2) != 45) = true := bne_iff_ne.mpr c23
            obtain rfl := Option.some.inj H
            have p13 : 0 ≤ (x25_2 : Int) := tB
            have q13 : x25_2 < (a0.size : Int) := tB
            have hx13 := bt_at a0 x25_2; replace p13 := eq_true p13; replace q13 := eq_true q13
            go_wp2
            go_ret
            exact ⟨by first | rfl | (simp; done) | (simp [*]; done), by repeat (first | exact Drawn0.refl _ | apply Drawn0.step)⟩
        ·rw [if_neg c12] at H
         exact absurd H (by simp)
       ·rw [if_neg c11] at H
        exact absurd H (by simp)
      ·rw [if_neg c10] at H
       have c10b0 : decide (x25_2 < (a0.size : Int)) = false := decide_eq_false c10
       clear c10; obtain rfl := Option.some.inj H
       go_wp2
       go_ret
       exact ⟨by first | rfl | (simp; done) | (simp [*]; done), by repeat (first | exact Drawn0.refl _ | apply Drawn0.step)⟩
end
section
def slices_Index_string_string.l0 : Nat → List ByteArray → ByteArray → Int → Int → Option (Int)
 | 0, _, _, _, _ => none
 | k + 1, x0, x1, x7, x8 => if x8 < x7 then (if 0 ≤ x8 then (if x8 < (x0.length : Int) then (if x1.toList = (rdOf ByteArray.empty x0 x8).toList then (some x8) else (slices_Index_string_string.l0 k x0 x1 x7 (wrap64 (x8 + 1)))) else (none)) else (none)) else (some (-1))
def slices_Index_string_string.f (k : Nat) (l0 : List ByteArray) (a1 : ByteArray) : Option (Int) := slices_Index_string_string.l0 k l0 a1 (l0.length : Int) 0
theorem slices_Index_string_string.calls (k : Nat) (A0 : Option Addr) (c0 : Nat) (l0 : List ByteArray) (a1 : ByteArray) (r : Int) (w : World) (hr0 : Kd.C Kd.string w A0 l0.length l0) (hc0 : l0.length ≤ c0) (h : slices_Index_string_string.f k l0 a1 = some r) :
  Calls Tryz.prog 208 #[.slice A0 l0.length c0, .string a1] w fun e w' => e = .returned (.int .i64 r) ∧ Drawn0 w w' := by
 have HR0 := Sd.mk hr0; have HC0 := Sd.mk hc0; clear hr0 hc0
 have H : (slices_Index_string_string.l0 k l0 a1 (l0.length : Int) 0) = some r := h
 clear h; have H' := Sd.mk H; clear H
 go_enter Tryz.func208, Tryz.ntmps208
 go_wp2
 go_loopg [8] k (fun kq v8 w' => ∃ (x8_1 : Int), v8 = .int .i64 x8_1 ∧ Sd (slices_Index_string_string.l0 kq l0 a1 (l0.length : Int) x8_1 = some r) ∧ Sd (kq ≤ k) ∧ Drawn0 w w')
 case atStart => exact ⟨(0), tS, H', ⟨Nat.le_refl _⟩, by repeat (first | exact Drawn0.refl _ | apply Drawn0.step)⟩
 case round =>
  clear H'; (try clear c2); (try clear p2)
  obtain ⟨x8_1, rfl, HA, HK1, ⟨m1, rfl⟩⟩ := hrel
  cases gk with
  | zero => exact absurd HA.out (by simp [slices_Index_string_string.l0])
  | succ k1 =>
   have H := HA.out; clear HA
   simp only [slices_Index_string_string.l0] at H
   by_cases c3 : x8_1 < (l0.length : Int)
   ·rw [if_pos c3] at H
    have c3b0 : decide (x8_1 < (l0.length : Int)) = true := decide_eq_true c3
    clear c3
    by_cases c4 : 0 ≤ x8_1
    ·rw [if_pos c4] at H
     have c4b0 : decide (0 ≤ x8_1) = true := decide_eq_true c4
     clear c4
     by_cases c5 : x8_1 < (l0.length : Int)
     ·rw [if_pos c5] at H
      have c5b0 : decide (x8_1 < (l0.length : Int)) = true := decide_eq_true c5
      clear c5
      by_cases c6 : a1.toList = (rdOf ByteArray.empty l0 x8_1).toList
      ·rw [if_pos c6] at H
       have c6b0 : (a1.toList == (rdOf ByteArray.empty l0 x8_1).toList) = true := beq_iff_eq.mpr c6
       have c6b1 : (a1.toList != (rdOf ByteArray.empty l0 x8_1).toList) = false := bne_eq_false_iff_eq.mpr c6
       clear c6; obtain rfl := Option.some.inj H
       have p108 : 0 ≤ (x8_1 : Int) := tB
       have q108 : x8_1 < (l0.length : Int) := tB
       obtain ⟨ad108, e108, hx108_0⟩ := Kd.at_string HR0.out x8_1 p108 q108; cases e108; replace p108 := eq_true p108; replace q108 := eq_true q108
       go_wp2
       go_ret
       exact ⟨by first | rfl | (simp; done) | (simp [*]; done), by repeat (first | exact Drawn0.refl _ | apply Drawn0.step)⟩
      ·rw [if_neg c6] at H
       have c6b0 : (a1.toList == (rdOf ByteArray.empty l0 x8_1).toList) = false := beq_eq_false_iff_ne.mpr c6
       have c6b1 : (a1.toList != (rdOf ByteArray.empty l0 x8_1).toList) = true := bne_iff_ne.mpr c6
       have H' := Sd.mk H; clear H
       have p108 : 0 ≤ (x8_1 : Int) := tB
       have q108 : x8_1 < (l0.length : Int) := tB
       obtain ⟨ad108, e108, hx108_0⟩ := Kd.at_string HR0.out x8_1 p108 q108; cases e108; replace p108 := eq_true p108; replace q108 := eq_true q108
       go_wp2
       go_roundg k1
       case measure => have := HK1.out; omega
       case rel => exact ⟨(wrap64 (x8_1 + 1)), tS, H', ⟨by have := HK1.out; omega⟩, by repeat (first | exact Drawn0.refl _ | apply Drawn0.step)⟩
     ·rw [if_neg c5] at H
      exact absurd H (by simp)
    ·rw [if_neg c4] at H
     exact absurd H (by simp)
   ·rw [if_neg c3] at H
    have c3b0 : decide (x8_1 < (l0.length : Int)) = false := decide_eq_false c3
    clear c3; obtain rfl := Option.some.inj H
    go_wp2
    go_ret
    exact ⟨by first | rfl | (simp; done) | (simp [*]; done), by repeat (first | exact Drawn0.refl _ | apply Drawn0.step)⟩
end
section
def slices_Contains_string_string.f (k : Nat) (l0 : List ByteArray) (a1 : ByteArray) : Option (Bool) := (slices_Index_string_string.f k l0 a1).bind fun t109 => (some (decide (t109 ≥ 0)))
theorem slices_Contains_string_string.calls (k : Nat) (A0 : Option Addr) (c0 : Nat) (l0 : List ByteArray) (a1 : ByteArray) (r : Bool) (w : World) (hr0 : Kd.C Kd.string w A0 l0.length l0) (hc0 : l0.length ≤ c0) (h : slices_Contains_string_string.f k l0 a1 = some r) :
  Calls Tryz.prog 177 #[.slice A0 l0.length c0, .string a1] w fun e w' => e = .returned (.bool r) ∧ Drawn0 w w' := by
 have HR0 := Sd.mk hr0; have HC0 := Sd.mk hc0; clear hr0 hc0
 have H : ((slices_Index_string_string.f k l0 a1).bind fun t109 => (some (decide (t109 ≥ 0)))) = some r := h
 clear h; replace H := Option.bind_eq_some_iff.mp H; obtain ⟨t109, A30, H⟩ := H
 try dsimp only at H
 have A3 := Sd.mk A30; clear A30; obtain rfl := Option.some.inj H
 go_enter Tryz.func177, Tryz.ntmps177
 go_wp2_with (first | ((with_reducible refine gate_callee (f := 208) rfl ?_); refine goesL_ (some 7) rfl rfl Tryz.func208 (by kernel_rfl) rfl #[.slice A0 l0.length c0, .string a1] rfl tM ?_; (with_reducible refine (slices_Index_string_string.calls k _ _ l0 a1 t109 _ ?side1 ?side2 A3.out).mono ?_); (case side1 => repeat (first | exact HR0.out | (with_reducible refine Kd.C_alloc ?_ _) | (with_reducible refine Kd.C_drewN ?_ _) | (with_reducible refine Kd.C_drew ?_))); (case side2 => exact HC0.out); rintro e w' ⟨rfl, ⟨nd, rfl⟩⟩; refine ⟨_, rfl, ?_⟩))
 go_ret
 exact ⟨by first | rfl | (simp; done) | (simp [*]; done), by repeat (first | exact Drawn0.refl _ | apply Drawn0.step)⟩
end
section
def b_checkOxides.l0 : Nat → List ByteArray → Int → Int → List ByteArray → List (S70) → List (S27) → List (S89) → Int → Int → Int → Option (Int)
 | 0, _, _, _, _, _, _, _, _, _, _ => none
 | k + 1, x16, x17, x18, x111q0, x111q1, x111q2, x111q3, x111q4, x111q5, x111q6 => if x18 < x17 then (if 0 ≤ x18 then (if x18 < (x16.length : Int) then ((b_name.f k (rdOf ByteArray.empty x16 x18)).bind fun t112 => (if t112 = true then (if x18 ≤ (x111q0.length : Int) then ((slices_Contains_string_string.f k (x111q0.take (x18 : Int).toNat) (rdOf ByteArray.empty x16 x18)).bind fun t114 => (if t114 = true then (some 6) else (b_checkOxides.l0 k x16 x17 (wrap64 (x18 + 1)) x111q0 x111q1 x111q2 x111q3 x111q4 x111q5 x111q6))) else (none)) else (some 5))) else (none)) else (none)) else (some 0)
def b_checkOxides.f (k : Nat) (l0_0 : List ByteArray) (l0_1 : List (S70)) (l0_2 : List (S27)) (l0_3 : List (S89)) (a0_4 : Int) (a0_5 : Int) (a0_6 : Int) : Option (Int) := if (l0_0.length : Int) > 12 then (some 3) else (if (l0_0.length : Int) = 0 then (some 1) else (b_checkOxides.l0 k l0_0 (l0_0.length : Int) 0 l0_0 l0_1 l0_2 l0_3 a0_4 a0_5 a0_6))
theorem b_checkOxides.calls (k : Nat) (A0_0 : Option Addr) (c0_0 : Nat) (l0_0 : List ByteArray) (A0_1 : Option Addr) (c0_1 : Nat) (l0_1 : List (S70)) (A0_2 : Option Addr) (c0_2 : Nat) (l0_2 : List (S27)) (A0_3 : Option Addr) (c0_3 : Nat) (l0_3 : List (S89)) (a0_4 : Int) (a0_5 : Int) (a0_6 : Int) (r : Int) (w : World) (hr0_0 : Kd.C Kd.string w A0_0 l0_0.length l0_0) (hc0_0 : l0_0.length ≤ c0_0) (hr0_1 : Kd.C k70 w A0_1 l0_1.length l0_1) (hc0_1 : l0_1.length ≤ c0_1) (hr0_2 : Kd.C k27 w A0_2 l0_2.length l0_2) (hc0_2 : l0_2.length ≤ c0_2) (hr0_3 : Kd.C k89 w A0_3 l0_3.length l0_3) (hc0_3 : l0_3.length ≤ c0_3) (h : b_checkOxides.f k l0_0 l0_1 l0_2 l0_3 a0_4 a0_5 a0_6 = some r) :
  Calls Tryz.prog 97 #[.agg #[.slice A0_0 l0_0.length c0_0, .slice A0_1 l0_1.length c0_1, .slice A0_2 l0_2.length c0_2, .slice A0_3 l0_3.length c0_3, .int .i64 a0_4, .int .i64 a0_5, .int .i64 a0_6]] w fun e w' => e = .returned (.int .i64 r) ∧ Below w.heap.size w w' := by
 have hu29 := Tryz.underlying29; have HR0_0 := Sd.mk hr0_0; have HC0_0 := Sd.mk hc0_0; clear hr0_0 hc0_0; have HR0_1 := Sd.mk hr0_1; have HC0_1 := Sd.mk hc0_1; clear hr0_1 hc0_1; have HR0_2 := Sd.mk hr0_2; have HC0_2 := Sd.mk hc0_2; clear hr0_2 hc0_2; have HR0_3 := Sd.mk hr0_3; have HC0_3 := Sd.mk hc0_3; clear hr0_3 hc0_3; have HB := Sd.mk (Below.refl w.heap.size w)
 have H : (if (l0_0.length : Int) > 12 then (some 3) else (if (l0_0.length : Int) = 0 then (some 1) else (b_checkOxides.l0 k l0_0 (l0_0.length : Int) 0 l0_0 l0_1 l0_2 l0_3 a0_4 a0_5 a0_6))) = some r := h
 clear h
 by_cases c2 : (l0_0.length : Int) > 12
 ·rw [if_pos c2] at H
  have c2b0 : decide (12 < (l0_0.length : Int)) = true := decide_eq_true c2
  have c2b1 : decide (12 < l0_0.length) = true := decide_eq_true (by omega)
  clear c2; obtain rfl := Option.some.inj H
  go_enter Tryz.func97, Tryz.ntmps97
  go_wp2_with (first | ((with_reducible refine gate_dst (N := 1) rfl ?_); refine box_event ?hg (N := 1) ?hd (cs := #[.slice A0_0 l0_0.length c0_0, .slice A0_1 l0_1.length c0_1, .slice A0_2 l0_2.length c0_2, .slice A0_3 l0_3.length c0_3, .int .i64 a0_4, .int .i64 a0_5, .int .i64 a0_6]) (t := 29) ?hr ?_; (case hd => rfl); (case hg => rfl); (case hr => exact tG); intro gb110 hg w3 hbox hb; have BK110 := Sd.mk (hbox); have GW110 := Sd.mk (bSz hg (bBl HB.out)); have GE110 := Sd.mk (bSz hg (bBl HB.out)); replace HB := Sd.mk (below_step (bBl HB.out) hb); clear hb hbox hg; obtain ⟨u4_0, u4_1, u4_2, u4_3, u4_4, u4_5, u4_6, o4_0, o4_1, o4_2, o4_3, o4_4, o4_5, o4_6⟩ := bc7 (w := w3) BK110.out))
  go_ret
  exact ⟨tE, bBl HB.out⟩
 ·rw [if_neg c2] at H
  have c2b0 : decide (12 < (l0_0.length : Int)) = false := decide_eq_false c2
  have c2b1 : decide (12 < l0_0.length) = false := decide_eq_false (by omega)
  clear c2
  by_cases c5 : (l0_0.length : Int) = 0
  ·rw [if_pos c5] at H
   have c5b0 : ((l0_0.length : Int) == 0) = true := beq_iff_eq.mpr c5
   have c5b1 : ((l0_0.length : Int) != 0) = false := bne_eq_false_iff_eq.mpr c5
   clear c5; obtain rfl := Option.some.inj H
   go_enter Tryz.func97, Tryz.ntmps97
   go_wp2_with (first | ((with_reducible refine gate_dst (N := 1) rfl ?_); refine box_event ?hg (N := 1) ?hd (cs := #[.slice A0_0 l0_0.length c0_0, .slice A0_1 l0_1.length c0_1, .slice A0_2 l0_2.length c0_2, .slice A0_3 l0_3.length c0_3, .int .i64 a0_4, .int .i64 a0_5, .int .i64 a0_6]) (t := 29) ?hr ?_; (case hd => rfl); (case hg => rfl); (case hr => exact tG); intro gb110 hg w6 hbox hb; have BK110 := Sd.mk (hbox); have GW110 := Sd.mk (bSz hg (bBl HB.out)); have GE110 := Sd.mk (bSz hg (bBl HB.out)); replace HB := Sd.mk (below_step (bBl HB.out) hb); clear hb hbox hg; obtain ⟨u7_0, u7_1, u7_2, u7_3, u7_4, u7_5, u7_6, o7_0, o7_1, o7_2, o7_3, o7_4, o7_5, o7_6⟩ := bc7 (w := w6) BK110.out))
   go_ret
   exact ⟨tE, bBl HB.out⟩
  ·rw [if_neg c5] at H
   have c5b0 : ((l0_0.length : Int) == 0) = false := beq_eq_false_iff_ne.mpr c5
   have c5b1 : ((l0_0.length : Int) != 0) = true := bne_iff_ne.mpr c5
   have c5b2 : ¬ (l0_0 = []) := fun h_ => c5 (by rw [h_]; rfl)
   have H' := Sd.mk H; clear H
   go_enter Tryz.func97, Tryz.ntmps97
   go_wp2_with (first | ((with_reducible refine gate_dst (N := 1) rfl ?_); refine box_event ?hg (N := 1) ?hd (cs := #[.slice A0_0 l0_0.length c0_0, .slice A0_1 l0_1.length c0_1, .slice A0_2 l0_2.length c0_2, .slice A0_3 l0_3.length c0_3, .int .i64 a0_4, .int .i64 a0_5, .int .i64 a0_6]) (t := 29) ?hr ?_; (case hd => rfl); (case hg => rfl); (case hr => exact tG); intro gb110 hg w8 hbox hb; have BK110 := Sd.mk (hbox); have GW110 := Sd.mk (bSz hg (bBl HB.out)); have GE110 := Sd.mk (bSz hg (bBl HB.out)); replace HB := Sd.mk (below_step (bBl HB.out) hb); clear hb hbox hg; obtain ⟨u9_0, u9_1, u9_2, u9_3, u9_4, u9_5, u9_6, o9_0, o9_1, o9_2, o9_3, o9_4, o9_5, o9_6⟩ := bc7 (w := w8) BK110.out))
   go_loopg [18] k (fun kq v18 w' => ∃ (x18_1 : Int), v18 = .int .i64 x18_1 ∧ Sd (b_checkOxides.l0 kq l0_0 (l0_0.length : Int) x18_1 l0_0 l0_1 l0_2 l0_3 a0_4 a0_5 a0_6 = some r) ∧ Sd (kq ≤ k) ∧ Sd (w'.heap[gb110]? = some (.cells #[(.slice A0_0 l0_0.length c0_0), (.slice A0_1 l0_1.length c0_1), (.slice A0_2 l0_2.length c0_2), (.slice A0_3 l0_3.length c0_3), .int .i64 a0_4, .int .i64 a0_5, .int .i64 a0_6] 29 (0, 0))) ∧ Sd (Below w.heap.size w w'))
   case atStart => exact ⟨(0), tS, H', ⟨Nat.le_refl _⟩, ⟨bkA BK110.out⟩, ⟨bBl HB.out⟩⟩
   case round =>
    clear H'; (try clear c2); (try clear c2b0); (try clear c2b1); (try clear p2); (try clear c5); (try clear c5b0); (try clear c5b1); (try clear c5b2); (try clear c9); (try clear u4_0 u4_1 u4_2 u4_3 u4_4 u4_5 u4_6); (try clear u7_0 u7_1 u7_2 u7_3 u7_4 u7_5 u7_6); (try clear u9_0 u9_1 u9_2 u9_3 u9_4 u9_5 u9_6); (try clear o4_0 o4_1 o4_2 o4_3 o4_4 o4_5 o4_6); (try clear o7_0 o7_1 o7_2 o7_3 o7_4 o7_5 o7_6); (try clear o9_0 o9_1 o9_2 o9_3 o9_4 o9_5 o9_6); obtain ⟨x18_1, rfl, HA, HK1, BK110, HB⟩ := hrel
    cases gk with
    | zero => exact absurd HA.out (by simp [b_checkOxides.l0])
    | succ k1 =>
     have H := HA.out; clear HA
     simp only [b_checkOxides.l0] at H
     by_cases c10 : x18_1 < (l0_0.length : Int)
     ·rw [if_pos c10] at H
      have c10b0 : decide (x18_1 < (l0_0.length : Int)) = true := decide_eq_true c10
      clear c10
      by_cases c11 : 0 ≤ x18_1
      ·rw [if_pos c11] at H
       have c11b0 : decide (0 ≤ x18_1) = true := decide_eq_true c11
       clear c11
       by_cases c12 : x18_1 < (l0_0.length : Int)
       ·rw [if_pos c12] at H
        have c12b0 : decide (x18_1 < (l0_0.length : Int)) = true := decide_eq_true c12
        clear c12; replace H := Option.bind_eq_some_iff.mp H; obtain ⟨t112, A130, H⟩ := H
        try dsimp only at H
        have A13 := Sd.mk A130; clear A130
        by_cases c14 : t112 = true
        ·subst c14
         have H1 : (if x18_1 ≤ (l0_0.length : Int) then ((slices_Contains_string_string.f k1 (l0_0.take (x18_1 : Int).toNat) (rdOf ByteArray.empty l0_0 x18_1)).bind fun t114 => (if t114 = true then (some 6) else (b_checkOxides.l0 k1 l0_0 (l0_0.length : Int) (wrap64 (x18_1 + 1)) l0_0 l0_1 l0_2 l0_3 a0_4 a0_5 a0_6))) else (none)) = some r := by rw [if_pos rfl] at H; exact H
         clear H; have H := H1; clear H1; have c15b0 := eq_true (tB : 0 ≤ x18_1)
         by_cases c16 : x18_1 ≤ (l0_0.length : Int)
         ·rw [if_pos c16] at H
          have c16b0 := eq_true c16
          have c16b1 : decide (x18_1 ≤ (l0_0.length : Int)) = true := decide_eq_true c16
          clear c16; replace H := Option.bind_eq_some_iff.mp H; obtain ⟨t114, A170, H⟩ := H
          try dsimp only at H
          have A17 := Sd.mk A170; clear A170
          by_cases c18 : t114 = true
          ·subst c18
           have H1 : (some 6) = some r := by rw [if_pos rfl] at H; exact H
           clear H; have H := H1; clear H1; obtain rfl := Option.some.inj H
           have p111 : 0 ≤ (x18_1 : Int) := tB
           have q111 : x18_1 < (l0_0.length : Int) := tB
           obtain ⟨ad111, e111, hx111_0⟩ := Kd.at_string HR0_0.out x18_1 p111 q111; cases e111; replace hx111_0 := cU HB hx111_0; replace p111 := eq_true p111; replace q111 := eq_true q111
           go_wp2_with (first | ((with_reducible refine gate_callee (f := 102) rfl ?_); refine goesL_ (some 25) rfl rfl Tryz.func102 (by kernel_rfl) rfl #[.string (rdOf ByteArray.empty l0_0 x18_1)] rfl tM ?_; (with_reducible refine (b_name.calls k1 (rdOf ByteArray.empty l0_0 x18_1) true _ A13.out).mono ?_); rintro e w' ⟨rfl, ⟨nd, rfl⟩⟩; refine ⟨_, rfl, ?_⟩; obtain ⟨u19_0, u19_1, u19_2, u19_3, u19_4, u19_5, u19_6, o19_0, o19_1, o19_2, o19_3, o19_4, o19_5, o19_6⟩ := bc7 (w := wr) BK110.out; obtain ⟨i020, hi020, _, hsz20, _⟩ := info_parts info9; obtain ⟨hcut20, hA20, hC20⟩ := print_take_of (P := Tryz.prog) Value.string (⟨#[]⟩ : ByteArray) 22 9 .i64 Tryz.underlying22 hi020 hsz20 (some ad111) c0_0 l0_0 x18_1 (tB) (tB) HC0_0.out; have HR113 := Sd.mk (Kd.C_of_reads (h1 := fun _ => rfl) (hA20 _ (Kd.reads_of_C HR0_0.out))); have HC113 := Sd.mk hC20; clear hA20 hC20 hi020 hsz20) | ((with_reducible refine gate_callee (f := 177) rfl ?_); refine goesL_ (some 33) rfl rfl Tryz.func177 (by kernel_rfl) rfl #[.slice (some ad111) (l0_0.take (x18_1 : Int).toNat).length c0_0, .string (rdOf ByteArray.empty l0_0 x18_1)] rfl (by (try simp only [List.map_toArray, List.map_cons, List.map_nil]); first | done | (rw [show (l0_0.take (x18_1 : Int).toNat).length = x18_1.toNat from (by rw [List.length_take]; have h_ : (x18_1 : Int) ≤ (l0_0.length : Int) := tB; omega)] <;> rfl) | rfl | (simp only [List.length_drop, List.length_take]; rfl)) ?_; (with_reducible refine (slices_Contains_string_string.calls k1 _ _ (l0_0.take (x18_1 : Int).toNat) (rdOf ByteArray.empty l0_0 x18_1) true _ ?side1 ?side2 A17.out).mono ?_); (case side1 => exact cS (Kd.C_below HR113.out (bBl HB.out))); (case side2 => exact HC113.out); rintro e w' ⟨rfl, ⟨nd, rfl⟩⟩; refine ⟨_, rfl, ?_⟩))
           go_ret
           exact ⟨tE, bBl HB.out⟩
          ·replace c18 := Bool.eq_false_iff.mpr c18
           subst c18
           have H1 : (b_checkOxides.l0 k1 l0_0 (l0_0.length : Int) (wrap64 (x18_1 + 1)) l0_0 l0_1 l0_2 l0_3 a0_4 a0_5 a0_6) = some r := by rw [if_neg (show ¬ (false = true) by decide)] at H; exact H
           clear H; have H := H1; clear H1; have H' := Sd.mk H; clear H
           have p111 : 0 ≤ (x18_1 : Int) := tB
           have q111 : x18_1 < (l0_0.length : Int) := tB
           obtain ⟨ad111, e111, hx111_0⟩ := Kd.at_string HR0_0.out x18_1 p111 q111; cases e111; replace hx111_0 := cU HB hx111_0; replace p111 := eq_true p111; replace q111 := eq_true q111
           go_wp2_with (first | ((with_reducible refine gate_callee (f := 102) rfl ?_); refine goesL_ (some 25) rfl rfl Tryz.func102 (by kernel_rfl) rfl #[.string (rdOf ByteArray.empty l0_0 x18_1)] rfl tM ?_; (with_reducible refine (b_name.calls k1 (rdOf ByteArray.empty l0_0 x18_1) true _ A13.out).mono ?_); rintro e w' ⟨rfl, ⟨nd, rfl⟩⟩; refine ⟨_, rfl, ?_⟩; obtain ⟨u21_0, u21_1, u21_2, u21_3, u21_4, u21_5, u21_6, o21_0, o21_1, o21_2, o21_3, o21_4, o21_5, o21_6⟩ := bc7 (w := wr) BK110.out; obtain ⟨i022, hi022, _, hsz22, _⟩ := info_parts info9; obtain ⟨hcut22, hA22, hC22⟩ := print_take_of (P := Tryz.prog) Value.string (⟨#[]⟩ : ByteArray) 22 9 .i64 Tryz.underlying22 hi022 hsz22 (some ad111) c0_0 l0_0 x18_1 (tB) (tB) HC0_0.out; have HR113 := Sd.mk (Kd.C_of_reads (h1 := fun _ => rfl) (hA22 _ (Kd.reads_of_C HR0_0.out))); have HC113 := Sd.mk hC22; clear hA22 hC22 hi022 hsz22) | ((with_reducible refine gate_callee (f := 177) rfl ?_); refine goesL_ (some 33) rfl rfl Tryz.func177 (by kernel_rfl) rfl #[.slice (some ad111) (l0_0.take (x18_1 : Int).toNat).length c0_0, .string (rdOf ByteArray.empty l0_0 x18_1)] rfl (by (try simp only [List.map_toArray, List.map_cons, List.map_nil]); first | done | (rw [show (l0_0.take (x18_1 : Int).toNat).length = x18_1.toNat from (by rw [List.length_take]; have h_ : (x18_1 : Int) ≤ (l0_0.length : Int) := tB; omega)] <;> rfl) | rfl | (simp only [List.length_drop, List.length_take]; rfl)) ?_; (with_reducible refine (slices_Contains_string_string.calls k1 _ _ (l0_0.take (x18_1 : Int).toNat) (rdOf ByteArray.empty l0_0 x18_1) false _ ?side1 ?side2 A17.out).mono ?_); (case side1 => exact cS (Kd.C_below HR113.out (bBl HB.out))); (case side2 => exact HC113.out); rintro e w' ⟨rfl, ⟨nd, rfl⟩⟩; refine ⟨_, rfl, ?_⟩))
           go_roundg k1
           case measure => have := HK1.out; omega
           case rel => exact ⟨(wrap64 (x18_1 + 1)), tS, H', ⟨by have := HK1.out; omega⟩, ⟨bkA BK110.out⟩, ⟨bBl HB.out⟩⟩
         ·rw [if_neg c16] at H
          exact absurd H (by simp)
        ·replace c14 := Bool.eq_false_iff.mpr c14
         subst c14
         have H1 : (some 5) = some r := by rw [if_neg (show ¬ (false = true) by decide)] at H; exact H
         clear H; have H := H1; clear H1; obtain rfl := Option.some.inj H
         have p111 : 0 ≤ (x18_1 : Int) := tB
         have q111 : x18_1 < (l0_0.length : Int) := tB
         obtain ⟨ad111, e111, hx111_0⟩ := Kd.at_string HR0_0.out x18_1 p111 q111; cases e111; replace hx111_0 := cU HB hx111_0; replace p111 := eq_true p111; replace q111 := eq_true q111
         go_wp2_with (first | ((with_reducible refine gate_callee (f := 102) rfl ?_); refine goesL_ (some 25) rfl rfl Tryz.func102 (by kernel_rfl) rfl #[.string (rdOf ByteArray.empty l0_0 x18_1)] rfl tM ?_; (with_reducible refine (b_name.calls k1 (rdOf ByteArray.empty l0_0 x18_1) false _ A13.out).mono ?_); rintro e w' ⟨rfl, ⟨nd, rfl⟩⟩; refine ⟨_, rfl, ?_⟩))
         go_ret
         exact ⟨tE, bBl HB.out⟩
       ·rw [if_neg c12] at H
        exact absurd H (by simp)
      ·rw [if_neg c11] at H
       exact absurd H (by simp)
     ·rw [if_neg c10] at H
      have c10b0 : decide (x18_1 < (l0_0.length : Int)) = false := decide_eq_false c10
      clear c10; obtain rfl := Option.some.inj H
      go_wp2
      go_ret
      exact ⟨tE, bBl HB.out⟩
end
section
def b_span.f (a0_0 : Int) (a0_1 : Int) (a1 : Int) (a2 : Int) : Option (Bool) := if a0_0 ≥ a1 then (if a0_0 ≤ a0_1 then (some (decide (a0_1 ≤ a2))) else (some false)) else (some false)
theorem b_span.calls (a0_0 : Int) (a0_1 : Int) (a1 : Int) (a2 : Int) (r : Bool) (w : World) (h : b_span.f a0_0 a0_1 a1 a2 = some r) :
  Calls Tryz.prog 101 #[.agg #[.int .i64 a0_0, .int .i64 a0_1], .int .i64 a1, .int .i64 a2] w fun e w' => e = .returned (.bool r) ∧ Below w.heap.size w w' := by
 have hu27 := Tryz.underlying27; have HB := Sd.mk (Below.refl w.heap.size w)
 have H : (if a0_0 ≥ a1 then (if a0_0 ≤ a0_1 then (some (decide (a0_1 ≤ a2))) else (some false)) else (some false)) = some r := h
 clear h
 by_cases c4 : a0_0 ≥ a1
 ·rw [if_pos c4] at H
  have c4b0 : decide (a1 ≤ a0_0) = true := decide_eq_true c4
  clear c4
  by_cases c5 : a0_0 ≤ a0_1
  ·rw [if_pos c5] at H
   have c5b0 : decide (a0_0 ≤ a0_1) = true := decide_eq_true c5
   clear c5; obtain rfl := Option.some.inj H
   go_enter Tryz.func101, Tryz.ntmps101
   go_wp2_with (first | ((with_reducible refine gate_dst (N := 3) rfl ?_); refine box_event ?hg (N := 3) ?hd (cs := #[.int .i64 a0_0, .int .i64 a0_1]) (t := 27) ?hr ?_; (case hd => rfl); (case hg => rfl); (case hr => exact tG); intro gb115 hg w6 hbox hb; have BK115 := Sd.mk (hbox); have GW115 := Sd.mk (bSz hg (bBl HB.out)); have GE115 := Sd.mk (bSz hg (bBl HB.out)); replace HB := Sd.mk (below_step (bBl HB.out) hb); clear hb hbox hg; obtain ⟨u7_0, u7_1, o7_0, o7_1⟩ := bc2 (w := w6) BK115.out))
   go_ret
   exact ⟨tE, bBl HB.out⟩
  ·rw [if_neg c5] at H
   have c5b0 : decide (a0_0 ≤ a0_1) = false := decide_eq_false c5
   clear c5; obtain rfl := Option.some.inj H
   go_enter Tryz.func101, Tryz.ntmps101
   go_wp2_with (first | ((with_reducible refine gate_dst (N := 3) rfl ?_); refine box_event ?hg (N := 3) ?hd (cs := #[.int .i64 a0_0, .int .i64 a0_1]) (t := 27) ?hr ?_; (case hd => rfl); (case hg => rfl); (case hr => exact tG); intro gb115 hg w8 hbox hb; have BK115 := Sd.mk (hbox); have GW115 := Sd.mk (bSz hg (bBl HB.out)); have GE115 := Sd.mk (bSz hg (bBl HB.out)); replace HB := Sd.mk (below_step (bBl HB.out) hb); clear hb hbox hg; obtain ⟨u9_0, u9_1, o9_0, o9_1⟩ := bc2 (w := w8) BK115.out))
   go_ret
   exact ⟨tE, bBl HB.out⟩
 ·rw [if_neg c4] at H
  have c4b0 : decide (a1 ≤ a0_0) = false := decide_eq_false c4
  clear c4; obtain rfl := Option.some.inj H
  go_enter Tryz.func101, Tryz.ntmps101
  go_wp2_with (first | ((with_reducible refine gate_dst (N := 3) rfl ?_); refine box_event ?hg (N := 3) ?hd (cs := #[.int .i64 a0_0, .int .i64 a0_1]) (t := 27) ?hr ?_; (case hd => rfl); (case hg => rfl); (case hr => exact tG); intro gb115 hg w10 hbox hb; have BK115 := Sd.mk (hbox); have GW115 := Sd.mk (bSz hg (bBl HB.out)); have GE115 := Sd.mk (bSz hg (bBl HB.out)); replace HB := Sd.mk (below_step (bBl HB.out) hb); clear hb hbox hg; obtain ⟨u11_0, u11_1, o11_0, o11_1⟩ := bc2 (w := w10) BK115.out))
  go_ret
  exact ⟨tE, bBl HB.out⟩
end
section
mutual
def b_checkMaterial.j0 : Nat → Bool → ByteArray → Int → Int → Int → Int → Int → List (S27) → Option (Int)
 | 0, _, _, _, _, _, _, _, _ => none
 | k + 1, x46, x118q0, x118q1, x118q2, x118q3, x118q4, x118q5, x118q6 => if x46 = true then (some 1) else (b_checkMaterial.l0 k 0 x118q6 (x118q6.length : Int) 0)
def b_checkMaterial.l0 : Nat → Int → List (S27) → Int → Int → Option (Int)
 | 0, _, _, _, _ => none
 | k + 1, x5, x48, x49, x50 => if x50 < x49 then (if 0 ≤ x50 then (if x50 < (x48.length : Int) then ((b_span.f ((rd_T27 x48 x50).f0) ((rd_T27 x48 x50).f1) 0 1000).bind fun t125 => (if t125 = true then (b_checkMaterial.l0 k (wrap64 (x5 + ((rd_T27 x48 x50).f0))) x48 x49 (wrap64 (x50 + 1))) else (some 1))) else (none)) else (none)) else (if x5 > 1000 then (some 12) else (some 0))
end
def b_checkMaterial.f (k : Nat) (l0_0 : List ByteArray) (l0_1 : List (S70)) (l0_2 : List (S27)) (l0_3 : List (S89)) (a0_4 : Int) (a0_5 : Int) (a0_6 : Int) (a1_0 : ByteArray) (a1_1 : Int) (a1_2 : Int) (a1_3 : Int) (a1_4 : Int) (a1_5 : Int) (l1_6 : List (S27)) : Option (Int) := (b_within.f a1_1 0 10000).bind fun t118 => (if t118 = true then ((b_within.f a1_2 (-1000) 1000).bind fun t119 => (if t119 = true then ((b_within.f a1_3 0 10000).bind fun t120 => (if t120 = true then ((b_within.f a1_4 a1_3 10000).bind fun t121 => (if t121 = true then ((b_within.f a1_5 1 10000).bind fun t122 => (if t122 = true then (b_checkMaterial.j0 k ((l1_6.length : Int) != (l0_0.length : Int)) a1_0 a1_1 a1_2 a1_3 a1_4 a1_5 l1_6) else (b_checkMaterial.j0 k true a1_0 a1_1 a1_2 a1_3 a1_4 a1_5 l1_6))) else (b_checkMaterial.j0 k true a1_0 a1_1 a1_2 a1_3 a1_4 a1_5 l1_6))) else (b_checkMaterial.j0 k true a1_0 a1_1 a1_2 a1_3 a1_4 a1_5 l1_6))) else (b_checkMaterial.j0 k true a1_0 a1_1 a1_2 a1_3 a1_4 a1_5 l1_6))) else (b_checkMaterial.j0 k true a1_0 a1_1 a1_2 a1_3 a1_4 a1_5 l1_6))
theorem b_checkMaterial.calls (k : Nat) (A0_0 : Option Addr) (c0_0 : Nat) (l0_0 : List ByteArray) (A0_1 : Option Addr) (c0_1 : Nat) (l0_1 : List (S70)) (A0_2 : Option Addr) (c0_2 : Nat) (l0_2 : List (S27)) (A0_3 : Option Addr) (c0_3 : Nat) (l0_3 : List (S89)) (a0_4 : Int) (a0_5 : Int) (a0_6 : Int) (a1_0 : ByteArray) (a1_1 : Int) (a1_2 : Int) (a1_3 : Int) (a1_4 : Int) (a1_5 : Int) (A1_6 : Option Addr) (c1_6 : Nat) (l1_6 : List (S27)) (r : Int) (w : World) (hr0_0 : Kd.C Kd.string w A0_0 l0_0.length l0_0) (hc0_0 : l0_0.length ≤ c0_0) (hr0_1 : Kd.C k70 w A0_1 l0_1.length l0_1) (hc0_1 : l0_1.length ≤ c0_1) (hr0_2 : Kd.C k27 w A0_2 l0_2.length l0_2) (hc0_2 : l0_2.length ≤ c0_2) (hr0_3 : Kd.C k89 w A0_3 l0_3.length l0_3) (hc0_3 : l0_3.length ≤ c0_3) (hr1_6 : Kd.C k27 w A1_6 l1_6.length l1_6) (hc1_6 : l1_6.length ≤ c1_6) (h : b_checkMaterial.f k l0_0 l0_1 l0_2 l0_3 a0_4 a0_5 a0_6 a1_0 a1_1 a1_2 a1_3 a1_4 a1_5 l1_6 = some r) :
  Calls Tryz.prog 180 #[.agg #[.slice A0_0 l0_0.length c0_0, .slice A0_1 l0_1.length c0_1, .slice A0_2 l0_2.length c0_2, .slice A0_3 l0_3.length c0_3, .int .i64 a0_4, .int .i64 a0_5, .int .i64 a0_6], .agg #[.string a1_0, .int .i64 a1_1, .int .i64 a1_2, .int .i64 a1_3, .int .i64 a1_4, .int .i64 a1_5, .slice A1_6 l1_6.length c1_6]] w fun e w' => e = .returned (.int .i64 r) ∧ Below w.heap.size w w' := by
 have hu29 := Tryz.underlying29; have hu70 := Tryz.underlying70; have hu27 := Tryz.underlying27; have HR0_0 := Sd.mk hr0_0; have HC0_0 := Sd.mk hc0_0; clear hr0_0 hc0_0; have HR0_1 := Sd.mk hr0_1; have HC0_1 := Sd.mk hc0_1; clear hr0_1 hc0_1; have HR0_2 := Sd.mk hr0_2; have HC0_2 := Sd.mk hc0_2; clear hr0_2 hc0_2; have HR0_3 := Sd.mk hr0_3; have HC0_3 := Sd.mk hc0_3; clear hr0_3 hc0_3; have HR1_6 := Sd.mk hr1_6; have HC1_6 := Sd.mk hc1_6; clear hr1_6 hc1_6; have HB := Sd.mk (Below.refl w.heap.size w)
 have H : ((b_within.f a1_1 0 10000).bind fun t118 => (if t118 = true then ((b_within.f a1_2 (-1000) 1000).bind fun t119 => (if t119 = true then ((b_within.f a1_3 0 10000).bind fun t120 => (if t120 = true then ((b_within.f a1_4 a1_3 10000).bind fun t121 => (if t121 = true then ((b_within.f a1_5 1 10000).bind fun t122 => (if t122 = true then (b_checkMaterial.j0 k ((l1_6.length : Int) != (l0_0.length : Int)) a1_0 a1_1 a1_2 a1_3 a1_4 a1_5 l1_6) else (b_checkMaterial.j0 k true a1_0 a1_1 a1_2 a1_3 a1_4 a1_5 l1_6))) else (b_checkMaterial.j0 k true a1_0 a1_1 a1_2 a1_3 a1_4 a1_5 l1_6))) else (b_checkMaterial.j0 k true a1_0 a1_1 a1_2 a1_3 a1_4 a1_5 l1_6))) else (b_checkMaterial.j0 k true a1_0 a1_1 a1_2 a1_3 a1_4 a1_5 l1_6))) else (b_checkMaterial.j0 k true a1_0 a1_1 a1_2 a1_3 a1_4 a1_5 l1_6))) = some r := h
 clear h; have HC3 := Sd.mk H; clear H
 go_enter Tryz.func180, Tryz.ntmps180
 go_upto_region 1 with (first | ((with_reducible refine gate_dst (N := 2) rfl ?_); (try (refine gate_guard (by rfl) ?_; dsimp only)); refine box_event ?hg (N := 2) ?hd (cs := #[.slice A0_0 l0_0.length c0_0, .slice A0_1 l0_1.length c0_1, .slice A0_2 l0_2.length c0_2, .slice A0_3 l0_3.length c0_3, .int .i64 a0_4, .int .i64 a0_5, .int .i64 a0_6]) (t := 29) ?hr ?_; (case hd => rfl); (case hg => rfl); (case hr => exact tG); intro gb116 hg w4 hbox hb; have BK116 := Sd.mk (hbox); have GW116 := Sd.mk (bSz hg (bBl HB.out)); have GE116 := Sd.mk (bSz hg (bBl HB.out)); replace HB := Sd.mk (below_step (bBl HB.out) hb); clear hb hbox hg) | ((with_reducible refine gate_dst (N := 3) rfl ?_); (try (refine gate_guard (by rfl) ?_; dsimp only)); refine box_event ?hg (N := 3) ?hd (cs := #[.string a1_0, .int .i64 a1_1, .int .i64 a1_2, .int .i64 a1_3, .int .i64 a1_4, .int .i64 a1_5, .slice A1_6 l1_6.length c1_6]) (t := 70) ?hr ?_; (case hd => rfl); (case hg => rfl); (case hr => exact tG); intro gb117 hg w5 hbox hb; have BK117 := Sd.mk (hbox); have GW117 := Sd.mk (bSz hg (bBl HB.out)); have GE117 := Sd.mk (bSz hg (bBl HB.out)); replace HB := Sd.mk (below_step (bBl HB.out) hb); have NB116_117 := Sd.mk (bNl hg (bkA BK116.out)); have NB117_116 := Sd.mk (bNg hg (bkA BK116.out)); replace BK116 := Sd.mk (blk_below (bkA BK116.out) hb); clear hb hbox hg))
 (try simp only [Act.put, List.setIfInBounds_toArray, List.set_cons_zero, List.set_cons_succ])
 go_cut [46] (fun v46 wc => ∃ (kq : Nat) (x46_2 : Bool), v46 = .bool x46_2 ∧ Sd (b_checkMaterial.j0 kq x46_2 a1_0 a1_1 a1_2 a1_3 a1_4 a1_5 l1_6 = some r) ∧ Sd (kq ≤ k) ∧ Sd (wc.heap[gb116]? = some (.cells #[(.slice A0_0 l0_0.length c0_0), (.slice A0_1 l0_1.length c0_1), (.slice A0_2 l0_2.length c0_2), (.slice A0_3 l0_3.length c0_3), .int .i64 a0_4, .int .i64 a0_5, .int .i64 a0_6] 29 (0, 0))) ∧ Sd (wc.heap[gb117]? = some (.cells #[.string a1_0, .int .i64 a1_1, .int .i64 a1_2, .int .i64 a1_3, .int .i64 a1_4, .int .i64 a1_5, (.slice A1_6 l1_6.length c1_6)] 70 (0, 0))) ∧ Sd (Below w.heap.size w wc))
 case first =>
  have H := HC3.out; clear HC3; replace H := Option.bind_eq_some_iff.mp H; obtain ⟨t118, A60, H⟩ := H
  try dsimp only at H
  have A6 := Sd.mk A60; clear A60
  by_cases c7 : t118 = true
  ·subst c7
   have H1 : ((b_within.f a1_2 (-1000) 1000).bind fun t119 => (if t119 = true then ((b_within.f a1_3 0 10000).bind fun t120 => (if t120 = true then ((b_within.f a1_4 a1_3 10000).bind fun t121 => (if t121 = true then ((b_within.f a1_5 1 10000).bind fun t122 => (if t122 = true then (b_checkMaterial.j0 k ((l1_6.length : Int) != (l0_0.length : Int)) a1_0 a1_1 a1_2 a1_3 a1_4 a1_5 l1_6) else (b_checkMaterial.j0 k true a1_0 a1_1 a1_2 a1_3 a1_4 a1_5 l1_6))) else (b_checkMaterial.j0 k true a1_0 a1_1 a1_2 a1_3 a1_4 a1_5 l1_6))) else (b_checkMaterial.j0 k true a1_0 a1_1 a1_2 a1_3 a1_4 a1_5 l1_6))) else (b_checkMaterial.j0 k true a1_0 a1_1 a1_2 a1_3 a1_4 a1_5 l1_6))) = some r := by rw [if_pos rfl] at H; exact H
   clear H; have H := H1; clear H1; replace H := Option.bind_eq_some_iff.mp H; obtain ⟨t119, A80, H⟩ := H
   try dsimp only at H
   have A8 := Sd.mk A80; clear A80
   by_cases c9 : t119 = true
   ·subst c9
    have H1 : ((b_within.f a1_3 0 10000).bind fun t120 => (if t120 = true then ((b_within.f a1_4 a1_3 10000).bind fun t121 => (if t121 = true then ((b_within.f a1_5 1 10000).bind fun t122 => (if t122 = true then (b_checkMaterial.j0 k ((l1_6.length : Int) != (l0_0.length : Int)) a1_0 a1_1 a1_2 a1_3 a1_4 a1_5 l1_6) else (b_checkMaterial.j0 k true a1_0 a1_1 a1_2 a1_3 a1_4 a1_5 l1_6))) else (b_checkMaterial.j0 k true a1_0 a1_1 a1_2 a1_3 a1_4 a1_5 l1_6))) else (b_checkMaterial.j0 k true a1_0 a1_1 a1_2 a1_3 a1_4 a1_5 l1_6))) = some r := by rw [if_pos rfl] at H; exact H
    clear H; have H := H1; clear H1; replace H := Option.bind_eq_some_iff.mp H; obtain ⟨t120, A100, H⟩ := H
    try dsimp only at H
    have A10 := Sd.mk A100; clear A100
    by_cases c11 : t120 = true
    ·subst c11
     have H1 : ((b_within.f a1_4 a1_3 10000).bind fun t121 => (if t121 = true then ((b_within.f a1_5 1 10000).bind fun t122 => (if t122 = true then (b_checkMaterial.j0 k ((l1_6.length : Int) != (l0_0.length : Int)) a1_0 a1_1 a1_2 a1_3 a1_4 a1_5 l1_6) else (b_checkMaterial.j0 k true a1_0 a1_1 a1_2 a1_3 a1_4 a1_5 l1_6))) else (b_checkMaterial.j0 k true a1_0 a1_1 a1_2 a1_3 a1_4 a1_5 l1_6))) = some r := by rw [if_pos rfl] at H; exact H
     clear H; have H := H1; clear H1; replace H := Option.bind_eq_some_iff.mp H; obtain ⟨t121, A120, H⟩ := H
     try dsimp only at H
     have A12 := Sd.mk A120; clear A120
     by_cases c13 : t121 = true
     ·subst c13
      have H1 : ((b_within.f a1_5 1 10000).bind fun t122 => (if t122 = true then (b_checkMaterial.j0 k ((l1_6.length : Int) != (l0_0.length : Int)) a1_0 a1_1 a1_2 a1_3 a1_4 a1_5 l1_6) else (b_checkMaterial.j0 k true a1_0 a1_1 a1_2 a1_3 a1_4 a1_5 l1_6))) = some r := by rw [if_pos rfl] at H; exact H
      clear H; have H := H1; clear H1; replace H := Option.bind_eq_some_iff.mp H; obtain ⟨t122, A140, H⟩ := H
      try dsimp only at H
      have A14 := Sd.mk A140; clear A140
      by_cases c15 : t122 = true
      ·subst c15
       have H1 : (b_checkMaterial.j0 k ((l1_6.length : Int) != (l0_0.length : Int)) a1_0 a1_1 a1_2 a1_3 a1_4 a1_5 l1_6) = some r := by rw [if_pos rfl] at H; exact H
       clear H; have H := H1; clear H1; have H' := Sd.mk H; clear H; have hnb16 := NB117_116.out; have hnc16 := NB116_117.out; obtain ⟨u17_0, u17_1, u17_2, u17_3, u17_4, u17_5, u17_6, o17_0, o17_1, o17_2, o17_3, o17_4, o17_5, o17_6⟩ := bc7 (w := w5) BK117.out
       go_wp2_with (first | ((with_reducible refine gate_callee (f := 56) rfl ?_); refine goesL_ (some 10) rfl rfl Tryz.func56 (by kernel_rfl) rfl #[.int .i64 a1_1, .int .i64 0, .int .i64 10000] rfl tM ?_; (with_reducible refine (b_within.calls a1_1 0 10000 true _ A6.out).mono ?_); rintro e w' ⟨rfl, ⟨nd, rfl⟩⟩; refine ⟨_, rfl, ?_⟩) | (go_at_call 56; (with_reducible refine (b_within.calls a1_2 (-1000) 1000 true _ A8.out).mono ?_); rintro e w' ⟨rfl, ⟨nd, rfl⟩⟩) | (go_at_call 56; (with_reducible refine (b_within.calls a1_3 0 10000 true _ A10.out).mono ?_); rintro e w' ⟨rfl, ⟨nd, rfl⟩⟩) | (go_at_call 56; (with_reducible refine (b_within.calls a1_4 a1_3 10000 true _ A12.out).mono ?_); rintro e w' ⟨rfl, ⟨nd, rfl⟩⟩) | (go_at_call 56; (with_reducible refine (b_within.calls a1_5 1 10000 true _ A14.out).mono ?_); rintro e w' ⟨rfl, ⟨nd, rfl⟩⟩; obtain ⟨u18_0, u18_1, u18_2, u18_3, u18_4, u18_5, u18_6, o18_0, o18_1, o18_2, o18_3, o18_4, o18_5, o18_6⟩ := bc7 (w := w5) BK116.out))
       go_meet
       case rel => exact ⟨_, (((l1_6.length : Int) != (l0_0.length : Int))), tS, H', ⟨by first | omega | exact Nat.le_refl _⟩, ⟨bkA BK116.out⟩, ⟨bkA BK117.out⟩, ⟨bBl HB.out⟩⟩
      ·replace c15 := Bool.eq_false_iff.mpr c15
       subst c15
       have H1 : (b_checkMaterial.j0 k true a1_0 a1_1 a1_2 a1_3 a1_4 a1_5 l1_6) = some r := by rw [if_neg (show ¬ (false = true) by decide)] at H; exact H
       clear H; have H := H1; clear H1; have H' := Sd.mk H; clear H; have hnb19 := NB117_116.out; have hnc19 := NB116_117.out; obtain ⟨u20_0, u20_1, u20_2, u20_3, u20_4, u20_5, u20_6, o20_0, o20_1, o20_2, o20_3, o20_4, o20_5, o20_6⟩ := bc7 (w := w5) BK117.out
       go_wp2_with (first | ((with_reducible refine gate_callee (f := 56) rfl ?_); refine goesL_ (some 10) rfl rfl Tryz.func56 (by kernel_rfl) rfl #[.int .i64 a1_1, .int .i64 0, .int .i64 10000] rfl tM ?_; (with_reducible refine (b_within.calls a1_1 0 10000 true _ A6.out).mono ?_); rintro e w' ⟨rfl, ⟨nd, rfl⟩⟩; refine ⟨_, rfl, ?_⟩) | (go_at_call 56; (with_reducible refine (b_within.calls a1_2 (-1000) 1000 true _ A8.out).mono ?_); rintro e w' ⟨rfl, ⟨nd, rfl⟩⟩) | (go_at_call 56; (with_reducible refine (b_within.calls a1_3 0 10000 true _ A10.out).mono ?_); rintro e w' ⟨rfl, ⟨nd, rfl⟩⟩) | (go_at_call 56; (with_reducible refine (b_within.calls a1_4 a1_3 10000 true _ A12.out).mono ?_); rintro e w' ⟨rfl, ⟨nd, rfl⟩⟩) | (go_at_call 56; (with_reducible refine (b_within.calls a1_5 1 10000 false _ A14.out).mono ?_); rintro e w' ⟨rfl, ⟨nd, rfl⟩⟩))
       go_meet
       case rel => exact ⟨_, (true), tS, H', ⟨by first | omega | exact Nat.le_refl _⟩, ⟨bkA BK116.out⟩, ⟨bkA BK117.out⟩, ⟨bBl HB.out⟩⟩
     ·replace c13 := Bool.eq_false_iff.mpr c13
      subst c13
      have H1 : (b_checkMaterial.j0 k true a1_0 a1_1 a1_2 a1_3 a1_4 a1_5 l1_6) = some r := by rw [if_neg (show ¬ (false = true) by decide)] at H; exact H
      clear H; have H := H1; clear H1; have H' := Sd.mk H; clear H; have hnb21 := NB117_116.out; have hnc21 := NB116_117.out; obtain ⟨u22_0, u22_1, u22_2, u22_3, u22_4, u22_5, u22_6, o22_0, o22_1, o22_2, o22_3, o22_4, o22_5, o22_6⟩ := bc7 (w := w5) BK117.out
      go_wp2_with (first | ((with_reducible refine gate_callee (f := 56) rfl ?_); refine goesL_ (some 10) rfl rfl Tryz.func56 (by kernel_rfl) rfl #[.int .i64 a1_1, .int .i64 0, .int .i64 10000] rfl tM ?_; (with_reducible refine (b_within.calls a1_1 0 10000 true _ A6.out).mono ?_); rintro e w' ⟨rfl, ⟨nd, rfl⟩⟩; refine ⟨_, rfl, ?_⟩) | (go_at_call 56; (with_reducible refine (b_within.calls a1_2 (-1000) 1000 true _ A8.out).mono ?_); rintro e w' ⟨rfl, ⟨nd, rfl⟩⟩) | (go_at_call 56; (with_reducible refine (b_within.calls a1_3 0 10000 true _ A10.out).mono ?_); rintro e w' ⟨rfl, ⟨nd, rfl⟩⟩) | (go_at_call 56; (with_reducible refine (b_within.calls a1_4 a1_3 10000 false _ A12.out).mono ?_); rintro e w' ⟨rfl, ⟨nd, rfl⟩⟩))
      go_meet
      case rel => exact ⟨_, (true), tS, H', ⟨by first | omega | exact Nat.le_refl _⟩, ⟨bkA BK116.out⟩, ⟨bkA BK117.out⟩, ⟨bBl HB.out⟩⟩
    ·replace c11 := Bool.eq_false_iff.mpr c11
     subst c11
     have H1 : (b_checkMaterial.j0 k true a1_0 a1_1 a1_2 a1_3 a1_4 a1_5 l1_6) = some r := by rw [if_neg (show ¬ (false = true) by decide)] at H; exact H
     clear H; have H := H1; clear H1; have H' := Sd.mk H; clear H; have hnb23 := NB117_116.out; have hnc23 := NB116_117.out; obtain ⟨u24_0, u24_1, u24_2, u24_3, u24_4, u24_5, u24_6, o24_0, o24_1, o24_2, o24_3, o24_4, o24_5, o24_6⟩ := bc7 (w := w5) BK117.out
     go_wp2_with (first | ((with_reducible refine gate_callee (f := 56) rfl ?_); refine goesL_ (some 10) rfl rfl Tryz.func56 (by kernel_rfl) rfl #[.int .i64 a1_1, .int .i64 0, .int .i64 10000] rfl tM ?_; (with_reducible refine (b_within.calls a1_1 0 10000 true _ A6.out).mono ?_); rintro e w' ⟨rfl, ⟨nd, rfl⟩⟩; refine ⟨_, rfl, ?_⟩) | (go_at_call 56; (with_reducible refine (b_within.calls a1_2 (-1000) 1000 true _ A8.out).mono ?_); rintro e w' ⟨rfl, ⟨nd, rfl⟩⟩) | (go_at_call 56; (with_reducible refine (b_within.calls a1_3 0 10000 false _ A10.out).mono ?_); rintro e w' ⟨rfl, ⟨nd, rfl⟩⟩))
     go_meet
     case rel => exact ⟨_, (true), tS, H', ⟨by first | omega | exact Nat.le_refl _⟩, ⟨bkA BK116.out⟩, ⟨bkA BK117.out⟩, ⟨bBl HB.out⟩⟩
   ·replace c9 := Bool.eq_false_iff.mpr c9
    subst c9
    have H1 : (b_checkMaterial.j0 k true a1_0 a1_1 a1_2 a1_3 a1_4 a1_5 l1_6) = some r := by rw [if_neg (show ¬ (false = true) by decide)] at H; exact H
    clear H; have H := H1; clear H1; have H' := Sd.mk H; clear H; have hnb25 := NB117_116.out; have hnc25 := NB116_117.out; obtain ⟨u26_0, u26_1, u26_2, u26_3, u26_4, u26_5, u26_6, o26_0, o26_1, o26_2, o26_3, o26_4, o26_5, o26_6⟩ := bc7 (w := w5) BK117.out
    go_wp2_with (first | ((with_reducible refine gate_callee (f := 56) rfl ?_); refine goesL_ (some 10) rfl rfl Tryz.func56 (by kernel_rfl) rfl #[.int .i64 a1_1, .int .i64 0, .int .i64 10000] rfl tM ?_; (with_reducible refine (b_within.calls a1_1 0 10000 true _ A6.out).mono ?_); rintro e w' ⟨rfl, ⟨nd, rfl⟩⟩; refine ⟨_, rfl, ?_⟩) | (go_at_call 56; (with_reducible refine (b_within.calls a1_2 (-1000) 1000 false _ A8.out).mono ?_); rintro e w' ⟨rfl, ⟨nd, rfl⟩⟩))
    go_meet
    case rel => exact ⟨_, (true), tS, H', ⟨by first | omega | exact Nat.le_refl _⟩, ⟨bkA BK116.out⟩, ⟨bkA BK117.out⟩, ⟨bBl HB.out⟩⟩
  ·replace c7 := Bool.eq_false_iff.mpr c7
   subst c7
   have H1 : (b_checkMaterial.j0 k true a1_0 a1_1 a1_2 a1_3 a1_4 a1_5 l1_6) = some r := by rw [if_neg (show ¬ (false = true) by decide)] at H; exact H
   clear H; have H := H1; clear H1; have H' := Sd.mk H; clear H; have hnb27 := NB117_116.out; have hnc27 := NB116_117.out; obtain ⟨u28_0, u28_1, u28_2, u28_3, u28_4, u28_5, u28_6, o28_0, o28_1, o28_2, o28_3, o28_4, o28_5, o28_6⟩ := bc7 (w := w5) BK117.out
   go_wp2_with (first | ((with_reducible refine gate_callee (f := 56) rfl ?_); refine goesL_ (some 10) rfl rfl Tryz.func56 (by kernel_rfl) rfl #[.int .i64 a1_1, .int .i64 0, .int .i64 10000] rfl tM ?_; (with_reducible refine (b_within.calls a1_1 0 10000 false _ A6.out).mono ?_); rintro e w' ⟨rfl, ⟨nd, rfl⟩⟩; refine ⟨_, rfl, ?_⟩))
   go_meet
   case rel => exact ⟨_, (true), tS, H', ⟨by first | omega | exact Nat.le_refl _⟩, ⟨bkA BK116.out⟩, ⟨bkA BK117.out⟩, ⟨bBl HB.out⟩⟩
 case rest =>
  clear HC3; (try clear c1); (try clear c2); (try clear p2); (try clear c5); (try clear c7); (try clear c9); (try clear c11); (try clear c13); (try clear c15); (try clear c16); (try clear c18); (try clear c19); (try clear c21); (try clear c23); (try clear c25); (try clear c27); (try clear u17_0 u17_1 u17_2 u17_3 u17_4 u17_5 u17_6); (try clear u18_0 u18_1 u18_2 u18_3 u18_4 u18_5 u18_6); (try clear u20_0 u20_1 u20_2 u20_3 u20_4 u20_5 u20_6); (try clear u22_0 u22_1 u22_2 u22_3 u22_4 u22_5 u22_6); (try clear u24_0 u24_1 u24_2 u24_3 u24_4 u24_5 u24_6); (try clear u26_0 u26_1 u26_2 u26_3 u26_4 u26_5 u26_6); (try clear u28_0 u28_1 u28_2 u28_3 u28_4 u28_5 u28_6); (try clear o17_0 o17_1 o17_2 o17_3 o17_4 o17_5 o17_6); (try clear o18_0 o18_1 o18_2 o18_3 o18_4 o18_5 o18_6); (try clear o20_0 o20_1 o20_2 o20_3 o20_4 o20_5 o20_6); (try clear o22_0 o22_1 o22_2 o22_3 o22_4 o22_5 o22_6); (try clear o24_0 o24_1 o24_2 o24_3 o24_4 o24_5 o24_6); (try clear o26_0 o26_1 o26_2 o26_3 o26_4 o26_5 o26_6); (try clear o28_0 o28_1 o28_2 o28_3 o28_4 o28_5 o28_6); obtain ⟨kq, x46_2, rfl, HA, HJ2, BK116, BK117, HB⟩ := hcut
  cases kq with
  | zero => exact absurd HA.out (by simp [b_checkMaterial.j0])
  | succ kj2 =>
   have H := HA.out; clear HA
   simp only [b_checkMaterial.j0] at H
   by_cases c29 : x46_2 = true
   ·subst c29
    have H1 : (some 1) = some r := by rw [if_pos rfl] at H; exact H
    clear H; have H := H1; clear H1; obtain rfl := Option.some.inj H
    go_wp2
    go_ret
    exact ⟨tE, bBl HB.out⟩
   ·replace c29 := Bool.eq_false_iff.mpr c29
    subst c29
    have H1 : (b_checkMaterial.l0 kj2 0 l1_6 (l1_6.length : Int) 0) = some r := by rw [if_neg (show ¬ (false = true) by decide)] at H; exact H
    clear H; have H := H1; clear H1; have H' := Sd.mk H; clear H; have hnb30 := NB117_116.out; have hnc30 := NB116_117.out; obtain ⟨u31_0, u31_1, u31_2, u31_3, u31_4, u31_5, u31_6, o31_0, o31_1, o31_2, o31_3, o31_4, o31_5, o31_6⟩ := bc7 (w := wc) BK117.out
    go_wp2
    go_loopg [5, 50] kj2 (fun kq v5 v50 w' => ∃ (x5_2 : Int) (x50_2 : Int), v5 = .int .i64 x5_2 ∧ v50 = .int .i64 x50_2 ∧ Sd (b_checkMaterial.l0 kq x5_2 l1_6 (l1_6.length : Int) x50_2 = some r) ∧ Sd (kq ≤ kj2) ∧ Sd (w'.heap[gb116]? = some (.cells #[(.slice A0_0 l0_0.length c0_0), (.slice A0_1 l0_1.length c0_1), (.slice A0_2 l0_2.length c0_2), (.slice A0_3 l0_3.length c0_3), .int .i64 a0_4, .int .i64 a0_5, .int .i64 a0_6] 29 (0, 0))) ∧ Sd (w'.heap[gb117]? = some (.cells #[.string a1_0, .int .i64 a1_1, .int .i64 a1_2, .int .i64 a1_3, .int .i64 a1_4, .int .i64 a1_5, (.slice A1_6 l1_6.length c1_6)] 70 (0, 0))) ∧ Sd (Below w.heap.size w w'))
    case atStart => exact ⟨(0), (0), tS, tS, H', ⟨Nat.le_refl _⟩, ⟨bkA BK116.out⟩, ⟨bkA BK117.out⟩, ⟨bBl HB.out⟩⟩
    case round =>
     clear H'; (try clear c1); (try clear c2); (try clear p2 p2); (try clear c3); (try clear c5); (try clear c7); (try clear c9); (try clear c11); (try clear c13); (try clear c15); (try clear c16); (try clear c18); (try clear c19); (try clear c21); (try clear c23); (try clear c25); (try clear c27); (try clear c29); (try clear c30); (try clear u17_0 u17_1 u17_2 u17_3 u17_4 u17_5 u17_6); (try clear u18_0 u18_1 u18_2 u18_3 u18_4 u18_5 u18_6); (try clear u20_0 u20_1 u20_2 u20_3 u20_4 u20_5 u20_6); (try clear u22_0 u22_1 u22_2 u22_3 u22_4 u22_5 u22_6); (try clear u24_0 u24_1 u24_2 u24_3 u24_4 u24_5 u24_6); (try clear u26_0 u26_1 u26_2 u26_3 u26_4 u26_5 u26_6); (try clear u28_0 u28_1 u28_2 u28_3 u28_4 u28_5 u28_6); (try clear u31_0 u31_1 u31_2 u31_3 u31_4 u31_5 u31_6); (try clear o17_0 o17_1 o17_2 o17_3 o17_4 o17_5 o17_6); (try clear o18_0 o18_1 o18_2 o18_3 o18_4 o18_5 o18_6); (try clear o20_0 o20_1 o20_2 o20_3 o20_4 o20_5 o20_6); (try clear o22_0 o22_1 o22_2 o22_3 o22_4 o22_5 o22_6); (try clear o24_0 o24_1 o24_2 o24_3 o24_4 o24_5 o24_6); (try clear o26_0 o26_1 o26_2 o26_3 o26_4 o26_5 o26_6); (try clear o28_0 o28_1 o28_2 o28_3 o28_4 o28_5 o28_6); (try clear o31_0 o31_1 o31_2 o31_3 o31_4 o31_5 o31_6); obtain ⟨x5_2, x50_2, rfl, rfl, HA, HK2, BK116, BK117, HB⟩ := hrel
     cases gk with
     | zero => exact absurd HA.out (by simp [b_checkMaterial.l0])
     | succ k2 =>
      have H := HA.out; clear HA
      simp only [b_checkMaterial.l0] at H
      by_cases c32 : x50_2 < (l1_6.length : Int)
      ·rw [if_pos c32] at H
       have c32b0 : decide (x50_2 < (l1_6.length : Int)) = true := decide_eq_true c32
       clear c32
       by_cases c33 : 0 ≤ x50_2
       ·rw [if_pos c33] at H
        have c33b0 : decide (0 ≤ x50_2) = true := decide_eq_true c33
        clear c33
        by_cases c34 : x50_2 < (l1_6.length : Int)
        ·rw [if_pos c34] at H
         have c34b0 : decide (x50_2 < (l1_6.length : Int)) = true := decide_eq_true c34
         clear c34; replace H := Option.bind_eq_some_iff.mp H; obtain ⟨t125, A350, H⟩ := H
         try dsimp only at H
         have A35 := Sd.mk A350; clear A350
         by_cases c36 : t125 = true
         ·subst c36
          have H1 : (b_checkMaterial.l0 k2 (wrap64 (x5_2 + ((rd_T27 l1_6 x50_2).f0))) l1_6 (l1_6.length : Int) (wrap64 (x50_2 + 1))) = some r := by rw [if_pos rfl] at H; exact H
          clear H; have H := H1; clear H1; have H' := Sd.mk H; clear H
          have p123 : 0 ≤ (x50_2 : Int) := tB
          have q123 : x50_2 < (l1_6.length : Int) := tB
          obtain ⟨ad123, e123, hx123_0, hx123_1⟩ := at_T27 HR1_6.out x50_2 p123 q123; cases e123; replace hx123_0 := cU HB hx123_0; replace hx123_1 := cU HB hx123_1; replace p123 := eq_true p123; replace q123 := eq_true q123
          go_wp2_with (first | ((with_reducible refine gate_dst (N := 7) rfl ?_); (try (refine gate_guard (by rfl) ?_; dsimp only)); refine box_event ?hg (N := 7) ?hd (cs := #[.int .i64 0, .int .i64 0]) (t := 27) ?hr ?_; (case hd => rfl); (case hg => rfl); (case hr => exact tG); intro gb124 hg w37 hbox hb; have BK124 := Sd.mk (hbox); have GW124 := Sd.mk (bSz hg (bBl HB.out)); have GE124 := Sd.mk (bSz hg (bBl HB.out)); replace HB := Sd.mk (below_step (bBl HB.out) hb); have NB116_124 := Sd.mk (bNl hg (bkA BK116.out)); have NB124_116 := Sd.mk (bNg hg (bkA BK116.out)); replace BK116 := Sd.mk (blk_below (bkA BK116.out) hb); have NB117_124 := Sd.mk (bNl hg (bkA BK117.out)); have NB124_117 := Sd.mk (bNg hg (bkA BK117.out)); replace BK117 := Sd.mk (blk_below (bkA BK117.out) hb); clear hb hbox hg; have hnb38 := NB124_116.out; have hnc38 := NB116_124.out; have hnb39 := NB124_117.out; have hnc39 := NB117_124.out; obtain ⟨u40_0, u40_1, o40_0, o40_1⟩ := bc2 (w := w37) BK124.out) | ((with_reducible refine gate_callee (f := 101) rfl ?_); refine goesL_ (some 55) rfl rfl Tryz.func101 (by kernel_rfl) rfl #[.agg #[.int .i64 ((rd_T27 l1_6 x50_2).f0), .int .i64 ((rd_T27 l1_6 x50_2).f1)], .int .i64 0, .int .i64 1000] rfl tM ?_; (with_reducible refine (b_span.calls ((rd_T27 l1_6 x50_2).f0) ((rd_T27 l1_6 x50_2).f1) 0 1000 true _ A35.out).mono ?_); rintro e w41 ⟨rfl, hb⟩; refine ⟨_, rfl, ?_⟩; replace BK116 := Sd.mk (blk_below (g := gb116) (o := .cells #[.slice A0_0 l0_0.length c0_0, .slice A0_1 l0_1.length c0_1, .slice A0_2 l0_2.length c0_2, .slice A0_3 l0_3.length c0_3, .int .i64 a0_4, .int .i64 a0_5, .int .i64 a0_6] 29 (0, 0)) (by refine bkZ ?_; refine blk_far ?_ NB116_124.out _; refine bkZ ?_; refine blk_far ?_ NB116_124.out _; refine bkZ ?_; exact BK116.out) hb); replace BK117 := Sd.mk (blk_below (g := gb117) (o := .cells #[.string a1_0, .int .i64 a1_1, .int .i64 a1_2, .int .i64 a1_3, .int .i64 a1_4, .int .i64 a1_5, .slice (some ad123) l1_6.length c1_6] 70 (0, 0)) (by refine bkZ ?_; refine blk_far ?_ NB117_124.out _; refine bkZ ?_; refine blk_far ?_ NB117_124.out _; refine bkZ ?_; exact BK117.out) hb); replace BK124 := Sd.mk (blk_below (g := gb124) (o := .cells #[.int .i64 ((rd_T27 l1_6 x50_2).f0), .int .i64 ((rd_T27 l1_6 x50_2).f1)] 27 (0, 0)) (by refine bkZ ?_; refine blk_put (cs := #[.int .i64 ((rd_T27 l1_6 x50_2).f0), .int .i64 0]) ?_ 1 _ rfl; refine bkZ ?_; refine blk_put (cs := #[.int .i64 0, .int .i64 0]) ?_ 0 _ rfl; refine bkZ ?_; exact BK124.out) hb); replace HB := Sd.mk (below_step (bBl HB.out) hb); (try clear hb); (try clear hb2); (try clear hk); (try clear hi); obtain ⟨u42_0, u42_1, o42_0, o42_1⟩ := bc2 (w := w41) BK124.out))
          go_roundg k2
          case measure => have := HJ2.out; have := HK2.out; omega
          case rel => exact ⟨(wrap64 (x5_2 + ((rd_T27 l1_6 x50_2).f0))), (wrap64 (x50_2 + 1)), tS, tS, H', ⟨by have := HJ2.out; have := HK2.out; omega⟩, ⟨bkA BK116.out⟩, ⟨bkA BK117.out⟩, ⟨bBl HB.out⟩⟩
         ·replace c36 := Bool.eq_false_iff.mpr c36
          subst c36
          have H1 : (some 1) = some r := by rw [if_neg (show ¬ (false = true) by decide)] at H; exact H
          clear H; have H := H1; clear H1; obtain rfl := Option.some.inj H
          have p123 : 0 ≤ (x50_2 : Int) := tB
          have q123 : x50_2 < (l1_6.length : Int) := tB
          obtain ⟨ad123, e123, hx123_0, hx123_1⟩ := at_T27 HR1_6.out x50_2 p123 q123; cases e123; replace hx123_0 := cU HB hx123_0; replace hx123_1 := cU HB hx123_1; replace p123 := eq_true p123; replace q123 := eq_true q123
          go_wp2_with (first | ((with_reducible refine gate_dst (N := 7) rfl ?_); (try (refine gate_guard (by rfl) ?_; dsimp only)); refine box_event ?hg (N := 7) ?hd (cs := #[.int .i64 0, .int .i64 0]) (t := 27) ?hr ?_; (case hd => rfl); (case hg => rfl); (case hr => exact tG); intro gb124 hg w43 hbox hb; have BK124 := Sd.mk (hbox); have GW124 := Sd.mk (bSz hg (bBl HB.out)); have GE124 := Sd.mk (bSz hg (bBl HB.out)); replace HB := Sd.mk (below_step (bBl HB.out) hb); have NB116_124 := Sd.mk (bNl hg (bkA BK116.out)); have NB124_116 := Sd.mk (bNg hg (bkA BK116.out)); replace BK116 := Sd.mk (blk_below (bkA BK116.out) hb); have NB117_124 := Sd.mk (bNl hg (bkA BK117.out)); have NB124_117 := Sd.mk (bNg hg (bkA BK117.out)); replace BK117 := Sd.mk (blk_below (bkA BK117.out) hb); clear hb hbox hg; have hnb44 := NB124_116.out; have hnc44 := NB116_124.out; have hnb45 := NB124_117.out; have hnc45 := NB117_124.out; obtain ⟨u46_0, u46_1, o46_0, o46_1⟩ := bc2 (w := w43) BK124.out) | ((with_reducible refine gate_callee (f := 101) rfl ?_); refine goesL_ (some 55) rfl rfl Tryz.func101 (by kernel_rfl) rfl #[.agg #[.int .i64 ((rd_T27 l1_6 x50_2).f0), .int .i64 ((rd_T27 l1_6 x50_2).f1)], .int .i64 0, .int .i64 1000] rfl tM ?_; (with_reducible refine (b_span.calls ((rd_T27 l1_6 x50_2).f0) ((rd_T27 l1_6 x50_2).f1) 0 1000 false _ A35.out).mono ?_); rintro e w47 ⟨rfl, hb⟩; refine ⟨_, rfl, ?_⟩; replace BK116 := Sd.mk (blk_below (g := gb116) (o := .cells #[.slice A0_0 l0_0.length c0_0, .slice A0_1 l0_1.length c0_1, .slice A0_2 l0_2.length c0_2, .slice A0_3 l0_3.length c0_3, .int .i64 a0_4, .int .i64 a0_5, .int .i64 a0_6] 29 (0, 0)) (by refine bkZ ?_; refine blk_far ?_ NB116_124.out _; refine bkZ ?_; refine blk_far ?_ NB116_124.out _; refine bkZ ?_; exact BK116.out) hb); replace BK117 := Sd.mk (blk_below (g := gb117) (o := .cells #[.string a1_0, .int .i64 a1_1, .int .i64 a1_2, .int .i64 a1_3, .int .i64 a1_4, .int .i64 a1_5, .slice (some ad123) l1_6.length c1_6] 70 (0, 0)) (by refine bkZ ?_; refine blk_far ?_ NB117_124.out _; refine bkZ ?_; refine blk_far ?_ NB117_124.out _; refine bkZ ?_; exact BK117.out) hb); replace BK124 := Sd.mk (blk_below (g := gb124) (o := .cells #[.int .i64 ((rd_T27 l1_6 x50_2).f0), .int .i64 ((rd_T27 l1_6 x50_2).f1)] 27 (0, 0)) (by refine bkZ ?_; refine blk_put (cs := #[.int .i64 ((rd_T27 l1_6 x50_2).f0), .int .i64 0]) ?_ 1 _ rfl; refine bkZ ?_; refine blk_put (cs := #[.int .i64 0, .int .i64 0]) ?_ 0 _ rfl; refine bkZ ?_; exact BK124.out) hb); replace HB := Sd.mk (below_step (bBl HB.out) hb); (try clear hb); (try clear hb2); (try clear hk); (try clear hi)))
          go_ret
          exact ⟨tE, bBl HB.out⟩
        ·rw [if_neg c34] at H
         exact absurd H (by simp)
       ·rw [if_neg c33] at H
        exact absurd H (by simp)
      ·rw [if_neg c32] at H
       have c32b0 : decide (x50_2 < (l1_6.length : Int)) = false := decide_eq_false c32
       clear c32
       by_cases c48 : x5_2 > 1000
       ·rw [if_pos c48] at H
        have c48b0 : decide (1000 < x5_2) = true := decide_eq_true c48
        clear c48; obtain rfl := Option.some.inj H
        go_wp2
        go_ret
        exact ⟨tE, bBl HB.out⟩
       ·rw [if_neg c48] at H
        have c48b0 : decide (1000 < x5_2) = false := decide_eq_false c48
        clear c48; obtain rfl := Option.some.inj H
        go_wp2
        go_ret
        exact ⟨tE, bBl HB.out⟩
end
section
theorem name_prop (s : ByteArray) (v1 v2 v3 : Value) (w : World) : Calls Tryz.prog 104 #[.agg #[.string s, v1, v2, v3]] w fun e w' => e = .returned (.string s) ∧ Below w.heap.size w w' := by
  go_enter Tryz.func104, Tryz.ntmps104
  go_wp2
  go_ret
  exact ⟨rfl, below_alloc (Below.refl _ _) _⟩
theorem same_prop (B1 B2 B3 : Nat) (A : Option Addr) (c : Nat) (l : List S89) (i : Int) (x : S89) (Ax : Option Addr) (cx : Nat) (W : World)
    (h1 : W.cell? ⟨B1, 0, none⟩ = some (.func (.func 104) #[] #[])) (h2 : W.cell? ⟨B2, 0, none⟩ = some (.slice A l.length c)) (h3 : W.cell? ⟨B3, 0, none⟩ = some (.int .i64 i))
    (hr : Kd.C k89 W A l.length l) (hi0 : 0 ≤ i) (hi1 : i < l.length) :
    Calls Tryz.prog 183 #[.agg #[.string x.f0, .slice Ax x.f1.length cx, .int .i64 x.f2.f0, .int .i64 x.f2.f1], .pointer (some ⟨B1, 0, none⟩), .pointer (some ⟨B2, 0, none⟩), .pointer (some ⟨B3, 0, none⟩)] W fun e W' => e = .returned (.bool (x.f0.toList == (rd_T89 l i).f0.toList)) ∧ Below W.heap.size W W' := by
  obtain ⟨ad, Ay, cy, e, hc0, hc1, hc2, hc3, _, _⟩ := at_T89 hr i hi0 hi1
  cases e
  generalize rd_T89 l i = y at hc0 hc1 hc2 hc3 ⊢
  have b1 := World.block_lt_of_cell? W _ h1
  have b2 := World.block_lt_of_cell? W _ h2
  have b3 := World.block_lt_of_cell? W _ h3
  have b4 := World.block_lt_of_cell? W _ hc0
  simp only at b1 b2 b3 b4
  go_enter Tryz.func183, Tryz.ntmps183
  go_wp2_with fail
  go_region_held3 (fun w' => w'.cell? ⟨B1, 0, none⟩ = some (.func (.func 104) #[] #[]) ∧ w'.cell? ⟨B2, 0, none⟩ = some (.slice (some ad) l.length c) ∧ w'.cell? ⟨B3, 0, none⟩ = some (.int .i64 i) ∧ w'.cell? ⟨W.heap.size, 0, none⟩ = some (.string x.f0) ∧ w'.cell? ⟨W.heap.size, 1, none⟩ = some (.slice Ax x.f1.length cx) ∧ w'.cell? ⟨W.heap.size, 2, none⟩ = some (.int .i64 x.f2.f0) ∧ w'.cell? ⟨W.heap.size, 3, none⟩ = some (.int .i64 x.f2.f1) ∧ w'.cell? (ad.add (i.toNat * 4)) = some (.string y.f0) ∧ w'.cell? ⟨(ad.add (i.toNat * 4)).block, (ad.add (i.toNat * 4)).off + 1, none⟩ = some (.slice Ay y.f1.length cy) ∧ w'.cell? ⟨(ad.add (i.toNat * 4)).block, (ad.add (i.toNat * 4)).off + 2, none⟩ = some (.int .i64 y.f2.f0) ∧ w'.cell? ⟨(ad.add (i.toNat * 4)).block, (ad.add (i.toNat * 4)).off + 3, none⟩ = some (.int .i64 y.f2.f1)) (first | (simp [*, go_sem]; done) | (go_split_ands; refine ⟨?_, ?_, ?_, ?_, ?_, ?_, ?_, ?_, ?_, ?_, ?_⟩ <;> first | assumption | exact pw_cell_below hb (by assumption)))
    (first | (go_at_call 104; refine (name_prop _ _ _ _ _).mono ?_; rintro e w' ⟨rfl, hb⟩))
  all_goals
    go_wp2
    go_ret
    refine ⟨rfl, ?_⟩
    repeat (first | exact below_drew (below_alloc (Below.refl _ _) _) | refine below_trans' ?_ (by assumption))
def x_twiceP.f (l : List S89) (i : Int) : Option Bool := if 0 ≤ i then if i < l.length then some ((l.take i.toNat).any fun x => x.f0.toList == (rd_T89 l i).f0.toList) else none else none
theorem x_twiceP.calls (A0 : Option Addr) (c0 : Nat) (l0 : List S89) (a1 : Int) (r : Bool) (w : World) (hr0 : Kd.C k89 w A0 l0.length l0) (hc0 : l0.length ≤ c0) (h : x_twiceP.f l0 a1 = some r) :
    Calls Tryz.prog 103 #[.slice A0 l0.length c0, .int .i64 a1, .func (.func 104) #[] #[]] w fun e w' => e = .returned (.bool r) ∧ Below w.heap.size w w' := by
  unfold x_twiceP.f at h
  by_cases hi0 : 0 ≤ a1
  · rw [if_pos hi0] at h
    by_cases hi1 : a1 < l0.length
    · rw [if_pos hi1] at h
      have HR := Sd.mk (Option.some.inj h)
      have HC := Sd.mk hr0
      clear h hr0
      obtain ⟨i, rfl⟩ := Int.eq_ofNat_of_zero_le hi0
      have hi2 : i < l0.length := by omega
      have hi3 : ¬ (i : Int) > (c0 : Int) := by omega
      have hlen : (l0.take i).length = i := by simp; omega
      have HL := Sd.mk hlen
      have HK := fun (W : World) (B1 B2 B3 : Nat) (h1 : W.cell? ⟨B1, 0, none⟩ = some (.func (.func 104) #[] #[])) (h2 : W.cell? ⟨B2, 0, none⟩ = some (.slice A0 l0.length c0)) (h3 : W.cell? ⟨B3, 0, none⟩ = some (.int .i64 (i : Int))) (hb : Below w.heap.size w W) =>
        containsFunc_prop (fun x => x.f0.toList == (rd_T89 l0 (i : Int)).f0.toList) 183 #[.pointer (some ⟨B1, 0, none⟩), .pointer (some ⟨B2, 0, none⟩), .pointer (some ⟨B3, 0, none⟩)] (enters_of Tryz.func183 (by kernel_rfl) rfl)
          A0 c0 (l0.take i) W (Kd.C_below (Kd.C_take HC.out (by omega)) hb)
          (fun x _ Ax cx W' hb' => same_prop B1 B2 B3 A0 c0 l0 (i : Int) x Ax cx W' (pw_cell_below hb' h1) (pw_cell_below hb' h2) (pw_cell_below hb' h3) (Kd.C_below (Kd.C_below HC.out hb) hb') hi0 hi1)
      have HK' := Sd.mk HK
      clear HK hlen
      go_enter Tryz.func103, Tryz.ntmps103
      go_wp2_with fail
      have hc := HK'.out (((w.alloc (.cells #[.slice A0 l0.length c0] 25)).alloc (.cells #[.int .i64 (i : Int)] 3)).alloc (.cells #[.func (.func 104) #[] #[]] 144)) (w.heap.size + 1 + 1) w.heap.size (w.heap.size + 1) (by simp [go_sem]) (by simp [go_sem]) (by simp [go_sem]) (below_alloc (below_alloc (below_alloc (Below.refl _ _) _) _) _)
      rw [HL.out] at hc
      refine hc.mono ?_
      clear hc HK'
      rintro e w1 ⟨rfl, hb⟩
      go_wp2
      go_ret
      exact ⟨by rw [← HR.out]; rfl, below_trans' (below_alloc (below_alloc (below_alloc (Below.refl _ _) _) _) _) hb⟩
    · rw [if_neg hi1] at h; cases h
  · rw [if_neg hi0] at h; cases h
theorem name_mat (s : ByteArray) (v1 v2 v3 v4 v5 v6 : Value) (w : World) : Calls Tryz.prog 179 #[.agg #[.string s, v1, v2, v3, v4, v5, v6]] w fun e w' => e = .returned (.string s) ∧ Below w.heap.size w w' := by
  go_enter Tryz.func179, Tryz.ntmps179
  go_wp2
  go_ret
  exact ⟨rfl, below_alloc (Below.refl _ _) _⟩
theorem same_mat (B1 B2 B3 : Nat) (A : Option Addr) (c : Nat) (l : List S70) (i : Int) (x : S70) (Ax : Option Addr) (cx : Nat) (W : World)
    (h1 : W.cell? ⟨B1, 0, none⟩ = some (.func (.func 179) #[] #[])) (h2 : W.cell? ⟨B2, 0, none⟩ = some (.slice A l.length c)) (h3 : W.cell? ⟨B3, 0, none⟩ = some (.int .i64 i))
    (hr : Kd.C k70 W A l.length l) (hi0 : 0 ≤ i) (hi1 : i < l.length) :
    Calls Tryz.prog 210 #[.agg #[.string x.f0, .int .i64 x.f1, .int .i64 x.f2, .int .i64 x.f3, .int .i64 x.f4, .int .i64 x.f5, .slice Ax x.f6.length cx], .pointer (some ⟨B1, 0, none⟩), .pointer (some ⟨B2, 0, none⟩), .pointer (some ⟨B3, 0, none⟩)] W fun e W' => e = .returned (.bool (x.f0.toList == (rd_T70 l i).f0.toList)) ∧ Below W.heap.size W W' := by
  obtain ⟨ad, Ay, cy, e, hc0, hc1, hc2, hc3, hc4, hc5, hc6, _, _⟩ := at_T70 hr i hi0 hi1
  cases e
  generalize rd_T70 l i = y at hc0 hc1 hc2 hc3 hc4 hc5 hc6 ⊢
  have b1 := World.block_lt_of_cell? W _ h1
  have b2 := World.block_lt_of_cell? W _ h2
  have b3 := World.block_lt_of_cell? W _ h3
  have b4 := World.block_lt_of_cell? W _ hc0
  simp only at b1 b2 b3 b4
  go_enter Tryz.func210, Tryz.ntmps210
  go_wp2_with fail
  go_region_held3 (fun w' => w'.cell? ⟨B1, 0, none⟩ = some (.func (.func 179) #[] #[]) ∧ w'.cell? ⟨B2, 0, none⟩ = some (.slice (some ad) l.length c) ∧ w'.cell? ⟨B3, 0, none⟩ = some (.int .i64 i) ∧ w'.cell? ⟨W.heap.size, 0, none⟩ = some (.string x.f0) ∧ w'.cell? ⟨W.heap.size, 1, none⟩ = some (.int .i64 x.f1) ∧ w'.cell? ⟨W.heap.size, 2, none⟩ = some (.int .i64 x.f2) ∧ w'.cell? ⟨W.heap.size, 3, none⟩ = some (.int .i64 x.f3) ∧ w'.cell? ⟨W.heap.size, 4, none⟩ = some (.int .i64 x.f4) ∧ w'.cell? ⟨W.heap.size, 5, none⟩ = some (.int .i64 x.f5) ∧ w'.cell? ⟨W.heap.size, 6, none⟩ = some (.slice Ax x.f6.length cx) ∧ w'.cell? (ad.add (i.toNat * 7)) = some (.string y.f0) ∧ w'.cell? ⟨(ad.add (i.toNat * 7)).block, (ad.add (i.toNat * 7)).off + 1, none⟩ = some (.int .i64 y.f1) ∧ w'.cell? ⟨(ad.add (i.toNat * 7)).block, (ad.add (i.toNat * 7)).off + 2, none⟩ = some (.int .i64 y.f2) ∧ w'.cell? ⟨(ad.add (i.toNat * 7)).block, (ad.add (i.toNat * 7)).off + 3, none⟩ = some (.int .i64 y.f3) ∧ w'.cell? ⟨(ad.add (i.toNat * 7)).block, (ad.add (i.toNat * 7)).off + 4, none⟩ = some (.int .i64 y.f4) ∧ w'.cell? ⟨(ad.add (i.toNat * 7)).block, (ad.add (i.toNat * 7)).off + 5, none⟩ = some (.int .i64 y.f5) ∧ w'.cell? ⟨(ad.add (i.toNat * 7)).block, (ad.add (i.toNat * 7)).off + 6, none⟩ = some (.slice Ay y.f6.length cy)) (first | (simp [*, go_sem]; done) | (go_split_ands; refine ⟨?_, ?_, ?_, ?_, ?_, ?_, ?_, ?_, ?_, ?_, ?_, ?_, ?_, ?_, ?_, ?_, ?_⟩ <;> first | assumption | exact pw_cell_below hb (by assumption)))
    (first | (go_at_call 179; refine (name_mat _ _ _ _ _ _ _ _).mono ?_; rintro e w' ⟨rfl, hb⟩))
  all_goals
    go_wp2
    go_ret
    refine ⟨rfl, ?_⟩
    repeat (first | exact below_drew (below_alloc (Below.refl _ _) _) | refine below_trans' ?_ (by assumption))
def x_twiceM.f (l : List S70) (i : Int) : Option Bool := if 0 ≤ i then if i < l.length then some ((l.take i.toNat).any fun x => x.f0.toList == (rd_T70 l i).f0.toList) else none else none
theorem x_twiceM.calls (A0 : Option Addr) (c0 : Nat) (l0 : List S70) (a1 : Int) (r : Bool) (w : World) (hr0 : Kd.C k70 w A0 l0.length l0) (hc0 : l0.length ≤ c0) (h : x_twiceM.f l0 a1 = some r) :
    Calls Tryz.prog 178 #[.slice A0 l0.length c0, .int .i64 a1, .func (.func 179) #[] #[]] w fun e w' => e = .returned (.bool r) ∧ Below w.heap.size w w' := by
  unfold x_twiceM.f at h
  by_cases hi0 : 0 ≤ a1
  · rw [if_pos hi0] at h
    by_cases hi1 : a1 < l0.length
    · rw [if_pos hi1] at h
      have HR := Sd.mk (Option.some.inj h)
      have HC := Sd.mk hr0
      clear h hr0
      obtain ⟨i, rfl⟩ := Int.eq_ofNat_of_zero_le hi0
      have hi2 : i < l0.length := by omega
      have hi3 : ¬ (i : Int) > (c0 : Int) := by omega
      have hlen : (l0.take i).length = i := by simp; omega
      have HL := Sd.mk hlen
      have HK := fun (W : World) (B1 B2 B3 : Nat) (h1 : W.cell? ⟨B1, 0, none⟩ = some (.func (.func 179) #[] #[])) (h2 : W.cell? ⟨B2, 0, none⟩ = some (.slice A0 l0.length c0)) (h3 : W.cell? ⟨B3, 0, none⟩ = some (.int .i64 (i : Int))) (hb : Below w.heap.size w W) =>
        containsFunc_mat (fun x => x.f0.toList == (rd_T70 l0 (i : Int)).f0.toList) 210 #[.pointer (some ⟨B1, 0, none⟩), .pointer (some ⟨B2, 0, none⟩), .pointer (some ⟨B3, 0, none⟩)] (enters_of Tryz.func210 (by kernel_rfl) rfl)
          A0 c0 (l0.take i) W (Kd.C_below (Kd.C_take HC.out (by omega)) hb)
          (fun x _ Ax cx W' hb' => same_mat B1 B2 B3 A0 c0 l0 (i : Int) x Ax cx W' (pw_cell_below hb' h1) (pw_cell_below hb' h2) (pw_cell_below hb' h3) (Kd.C_below (Kd.C_below HC.out hb) hb') hi0 hi1)
      have HK' := Sd.mk HK
      clear HK hlen
      go_enter Tryz.func178, Tryz.ntmps178
      go_wp2_with fail
      have hc := HK'.out (((w.alloc (.cells #[.slice A0 l0.length c0] 23)).alloc (.cells #[.int .i64 (i : Int)] 3)).alloc (.cells #[.func (.func 179) #[] #[]] 198)) (w.heap.size + 1 + 1) w.heap.size (w.heap.size + 1) (by simp [go_sem]) (by simp [go_sem]) (by simp [go_sem]) (below_alloc (below_alloc (below_alloc (Below.refl _ _) _) _) _)
      rw [HL.out] at hc
      refine hc.mono ?_
      clear hc HK'
      rintro e w1 ⟨rfl, hb⟩
      go_wp2
      go_ret
      exact ⟨by rw [← HR.out]; rfl, below_trans' (below_alloc (below_alloc (below_alloc (Below.refl _ _) _) _) _) hb⟩
    · rw [if_neg hi1] at h; cases h
  · rw [if_neg hi0] at h; cases h
end
section
def b_checkMaterials.l0 : Nat → List (S70) → Int → Int → List ByteArray → List (S70) → List (S27) → List (S89) → Int → Int → Int → Option (Int)
 | 0, _, _, _, _, _, _, _, _, _, _ => none
 | k + 1, x17, x18, x19, x127q0, x127q1, x127q2, x127q3, x127q4, x127q5, x127q6 => if x19 < x18 then (if 0 ≤ x19 then (if x19 < (x17.length : Int) then ((b_name.f k ((rd_T70 x17 x19).f0)).bind fun t129 => (if t129 = true then ((x_twiceM.f x127q1 x19).bind fun t130 => (if t130 = true then (some 6) else ((b_checkMaterial.f k x127q0 x127q1 x127q2 x127q3 x127q4 x127q5 x127q6 ((rd_T70 x17 x19).f0) ((rd_T70 x17 x19).f1) ((rd_T70 x17 x19).f2) ((rd_T70 x17 x19).f3) ((rd_T70 x17 x19).f4) ((rd_T70 x17 x19).f5) ((rd_T70 x17 x19).f6)).bind fun t131 => (if t131 = 0 then (b_checkMaterials.l0 k x17 x18 (wrap64 (x19 + 1)) x127q0 x127q1 x127q2 x127q3 x127q4 x127q5 x127q6) else (some t131))))) else (some 5))) else (none)) else (none)) else (some 0)
def b_checkMaterials.f (k : Nat) (l0_0 : List ByteArray) (l0_1 : List (S70)) (l0_2 : List (S27)) (l0_3 : List (S89)) (a0_4 : Int) (a0_5 : Int) (a0_6 : Int) : Option (Int) := if (l0_1.length : Int) > 12 then (some 3) else (if (l0_1.length : Int) = 0 then (some 1) else (b_checkMaterials.l0 k l0_1 (l0_1.length : Int) 0 l0_0 l0_1 l0_2 l0_3 a0_4 a0_5 a0_6))
theorem b_checkMaterials.calls (k : Nat) (A0_0 : Option Addr) (c0_0 : Nat) (l0_0 : List ByteArray) (A0_1 : Option Addr) (c0_1 : Nat) (l0_1 : List (S70)) (A0_2 : Option Addr) (c0_2 : Nat) (l0_2 : List (S27)) (A0_3 : Option Addr) (c0_3 : Nat) (l0_3 : List (S89)) (a0_4 : Int) (a0_5 : Int) (a0_6 : Int) (r : Int) (w : World) (hr0_0 : Kd.C Kd.string w A0_0 l0_0.length l0_0) (hc0_0 : l0_0.length ≤ c0_0) (hr0_1 : Kd.C k70 w A0_1 l0_1.length l0_1) (hc0_1 : l0_1.length ≤ c0_1) (hr0_2 : Kd.C k27 w A0_2 l0_2.length l0_2) (hc0_2 : l0_2.length ≤ c0_2) (hr0_3 : Kd.C k89 w A0_3 l0_3.length l0_3) (hc0_3 : l0_3.length ≤ c0_3) (h : b_checkMaterials.f k l0_0 l0_1 l0_2 l0_3 a0_4 a0_5 a0_6 = some r) :
  Calls Tryz.prog 98 #[.agg #[.slice A0_0 l0_0.length c0_0, .slice A0_1 l0_1.length c0_1, .slice A0_2 l0_2.length c0_2, .slice A0_3 l0_3.length c0_3, .int .i64 a0_4, .int .i64 a0_5, .int .i64 a0_6]] w fun e w' => e = .returned (.int .i64 r) ∧ Below w.heap.size w w' := by
 have hu29 := Tryz.underlying29; have hu70 := Tryz.underlying70; have HR0_0 := Sd.mk hr0_0; have HC0_0 := Sd.mk hc0_0; clear hr0_0 hc0_0; have HR0_1 := Sd.mk hr0_1; have HC0_1 := Sd.mk hc0_1; clear hr0_1 hc0_1; have HR0_2 := Sd.mk hr0_2; have HC0_2 := Sd.mk hc0_2; clear hr0_2 hc0_2; have HR0_3 := Sd.mk hr0_3; have HC0_3 := Sd.mk hc0_3; clear hr0_3 hc0_3; have HB := Sd.mk (Below.refl w.heap.size w)
 have H : (if (l0_1.length : Int) > 12 then (some 3) else (if (l0_1.length : Int) = 0 then (some 1) else (b_checkMaterials.l0 k l0_1 (l0_1.length : Int) 0 l0_0 l0_1 l0_2 l0_3 a0_4 a0_5 a0_6))) = some r := h
 clear h
 by_cases c2 : (l0_1.length : Int) > 12
 ·rw [if_pos c2] at H
  have c2b0 : decide (12 < (l0_1.length : Int)) = true := decide_eq_true c2
  have c2b1 : decide (12 < l0_1.length) = true := decide_eq_true (by omega)
  clear c2; obtain rfl := Option.some.inj H
  go_enter Tryz.func98, Tryz.ntmps98
  go_wp2_with (first | ((with_reducible refine gate_dst (N := 1) rfl ?_); refine box_event ?hg (N := 1) ?hd (cs := #[.slice A0_0 l0_0.length c0_0, .slice A0_1 l0_1.length c0_1, .slice A0_2 l0_2.length c0_2, .slice A0_3 l0_3.length c0_3, .int .i64 a0_4, .int .i64 a0_5, .int .i64 a0_6]) (t := 29) ?hr ?_; (case hd => rfl); (case hg => rfl); (case hr => exact tG); intro gb126 hg w3 hbox hb; have BK126 := Sd.mk (hbox); have GW126 := Sd.mk (bSz hg (bBl HB.out)); have GE126 := Sd.mk (bSz hg (bBl HB.out)); replace HB := Sd.mk (below_step (bBl HB.out) hb); clear hb hbox hg; obtain ⟨u4_0, u4_1, u4_2, u4_3, u4_4, u4_5, u4_6, o4_0, o4_1, o4_2, o4_3, o4_4, o4_5, o4_6⟩ := bc7 (w := w3) BK126.out))
  go_ret
  exact ⟨tE, bBl HB.out⟩
 ·rw [if_neg c2] at H
  have c2b0 : decide (12 < (l0_1.length : Int)) = false := decide_eq_false c2
  have c2b1 : decide (12 < l0_1.length) = false := decide_eq_false (by omega)
  clear c2
  by_cases c5 : (l0_1.length : Int) = 0
  ·rw [if_pos c5] at H
   have c5b0 : ((l0_1.length : Int) == 0) = true := beq_iff_eq.mpr c5
   have c5b1 : ((l0_1.length : Int) != 0) = false := bne_eq_false_iff_eq.mpr c5
   clear c5; obtain rfl := Option.some.inj H
   go_enter Tryz.func98, Tryz.ntmps98
   go_wp2_with (first | ((with_reducible refine gate_dst (N := 1) rfl ?_); refine box_event ?hg (N := 1) ?hd (cs := #[.slice A0_0 l0_0.length c0_0, .slice A0_1 l0_1.length c0_1, .slice A0_2 l0_2.length c0_2, .slice A0_3 l0_3.length c0_3, .int .i64 a0_4, .int .i64 a0_5, .int .i64 a0_6]) (t := 29) ?hr ?_; (case hd => rfl); (case hg => rfl); (case hr => exact tG); intro gb126 hg w6 hbox hb; have BK126 := Sd.mk (hbox); have GW126 := Sd.mk (bSz hg (bBl HB.out)); have GE126 := Sd.mk (bSz hg (bBl HB.out)); replace HB := Sd.mk (below_step (bBl HB.out) hb); clear hb hbox hg; obtain ⟨u7_0, u7_1, u7_2, u7_3, u7_4, u7_5, u7_6, o7_0, o7_1, o7_2, o7_3, o7_4, o7_5, o7_6⟩ := bc7 (w := w6) BK126.out))
   go_ret
   exact ⟨tE, bBl HB.out⟩
  ·rw [if_neg c5] at H
   have c5b0 : ((l0_1.length : Int) == 0) = false := beq_eq_false_iff_ne.mpr c5
   have c5b1 : ((l0_1.length : Int) != 0) = true := bne_iff_ne.mpr c5
   have c5b2 : ¬ (l0_1 = []) := fun h_ => c5 (by rw [h_]; rfl)
   have H' := Sd.mk H; clear H
   go_enter Tryz.func98, Tryz.ntmps98
   go_wp2_with (first | ((with_reducible refine gate_dst (N := 1) rfl ?_); refine box_event ?hg (N := 1) ?hd (cs := #[.slice A0_0 l0_0.length c0_0, .slice A0_1 l0_1.length c0_1, .slice A0_2 l0_2.length c0_2, .slice A0_3 l0_3.length c0_3, .int .i64 a0_4, .int .i64 a0_5, .int .i64 a0_6]) (t := 29) ?hr ?_; (case hd => rfl); (case hg => rfl); (case hr => exact tG); intro gb126 hg w8 hbox hb; have BK126 := Sd.mk (hbox); have GW126 := Sd.mk (bSz hg (bBl HB.out)); have GE126 := Sd.mk (bSz hg (bBl HB.out)); replace HB := Sd.mk (below_step (bBl HB.out) hb); clear hb hbox hg; obtain ⟨u9_0, u9_1, u9_2, u9_3, u9_4, u9_5, u9_6, o9_0, o9_1, o9_2, o9_3, o9_4, o9_5, o9_6⟩ := bc7 (w := w8) BK126.out))
   go_loopg [19] k (fun kq v19 w' => ∃ (x19_1 : Int), v19 = .int .i64 x19_1 ∧ Sd (b_checkMaterials.l0 kq l0_1 (l0_1.length : Int) x19_1 l0_0 l0_1 l0_2 l0_3 a0_4 a0_5 a0_6 = some r) ∧ Sd (kq ≤ k) ∧ Sd (w'.heap[gb126]? = some (.cells #[(.slice A0_0 l0_0.length c0_0), (.slice A0_1 l0_1.length c0_1), (.slice A0_2 l0_2.length c0_2), (.slice A0_3 l0_3.length c0_3), .int .i64 a0_4, .int .i64 a0_5, .int .i64 a0_6] 29 (0, 0))) ∧ Sd (Below w.heap.size w w'))
   case atStart => exact ⟨(0), tS, H', ⟨Nat.le_refl _⟩, ⟨bkA BK126.out⟩, ⟨bBl HB.out⟩⟩
   case round =>
    clear H'; (try clear c2); (try clear c2b0); (try clear c2b1); (try clear p2); (try clear c5); (try clear c5b0); (try clear c5b1); (try clear c5b2); (try clear c9); (try clear u4_0 u4_1 u4_2 u4_3 u4_4 u4_5 u4_6); (try clear u7_0 u7_1 u7_2 u7_3 u7_4 u7_5 u7_6); (try clear u9_0 u9_1 u9_2 u9_3 u9_4 u9_5 u9_6); (try clear o4_0 o4_1 o4_2 o4_3 o4_4 o4_5 o4_6); (try clear o7_0 o7_1 o7_2 o7_3 o7_4 o7_5 o7_6); (try clear o9_0 o9_1 o9_2 o9_3 o9_4 o9_5 o9_6); obtain ⟨x19_1, rfl, HA, HK1, BK126, HB⟩ := hrel
    cases gk with
    | zero => exact absurd HA.out (by simp [b_checkMaterials.l0])
    | succ k1 =>
     have H := HA.out; clear HA
     simp only [b_checkMaterials.l0] at H
     by_cases c10 : x19_1 < (l0_1.length : Int)
     ·rw [if_pos c10] at H
      have c10b0 : decide (x19_1 < (l0_1.length : Int)) = true := decide_eq_true c10
      clear c10
      by_cases c11 : 0 ≤ x19_1
      ·rw [if_pos c11] at H
       have c11b0 : decide (0 ≤ x19_1) = true := decide_eq_true c11
       clear c11
       by_cases c12 : x19_1 < (l0_1.length : Int)
       ·rw [if_pos c12] at H
        have c12b0 : decide (x19_1 < (l0_1.length : Int)) = true := decide_eq_true c12
        clear c12; replace H := Option.bind_eq_some_iff.mp H; obtain ⟨t129, A130, H⟩ := H
        try dsimp only at H
        have A13 := Sd.mk A130; clear A130
        by_cases c14 : t129 = true
        ·subst c14
         have H1 : ((x_twiceM.f l0_1 x19_1).bind fun t130 => (if t130 = true then (some 6) else ((b_checkMaterial.f k1 l0_0 l0_1 l0_2 l0_3 a0_4 a0_5 a0_6 ((rd_T70 l0_1 x19_1).f0) ((rd_T70 l0_1 x19_1).f1) ((rd_T70 l0_1 x19_1).f2) ((rd_T70 l0_1 x19_1).f3) ((rd_T70 l0_1 x19_1).f4) ((rd_T70 l0_1 x19_1).f5) ((rd_T70 l0_1 x19_1).f6)).bind fun t131 => (if t131 = 0 then (b_checkMaterials.l0 k1 l0_1 (l0_1.length : Int) (wrap64 (x19_1 + 1)) l0_0 l0_1 l0_2 l0_3 a0_4 a0_5 a0_6) else (some t131))))) = some r := by rw [if_pos rfl] at H; exact H
         clear H; have H := H1; clear H1; replace H := Option.bind_eq_some_iff.mp H; obtain ⟨t130, A150, H⟩ := H
         try dsimp only at H
         have A15 := Sd.mk A150; clear A150
         by_cases c16 : t130 = true
         ·subst c16
          have H1 : (some 6) = some r := by rw [if_pos rfl] at H; exact H
          clear H; have H := H1; clear H1; obtain rfl := Option.some.inj H
          have p127 : 0 ≤ (x19_1 : Int) := tB
          have q127 : x19_1 < (l0_1.length : Int) := tB
          obtain ⟨ad127, A127_6, c127_6, e127, hx127_0, hx127_1, hx127_2, hx127_3, hx127_4, hx127_5, hx127_6, hl127_6, hi127_6⟩ := at_T70 HR0_1.out x19_1 p127 q127; cases e127; replace hx127_0 := cU HB hx127_0; replace hx127_1 := cU HB hx127_1; replace hx127_2 := cU HB hx127_2; replace hx127_3 := cU HB hx127_3; replace hx127_4 := cU HB hx127_4; replace hx127_5 := cU HB hx127_5; replace hx127_6 := cU HB hx127_6; have HR127_6 := Sd.mk hi127_6; have HC127_6 := Sd.mk hl127_6; clear hi127_6 hl127_6; replace p127 := eq_true p127; replace q127 := eq_true q127
          go_wp2_with (first | ((with_reducible refine gate_dst (N := 4) rfl ?_); refine box_event ?hg (N := 4) ?hd (cs := #[.string (⟨#[]⟩ : ByteArray), .int .i64 0, .int .i64 0, .int .i64 0, .int .i64 0, .int .i64 0, .slice none 0 0]) (t := 70) ?hr ?_; (case hd => rfl); (case hg => rfl); (case hr => exact tG); intro gb128 hg w17 hbox hb; have BK128 := Sd.mk (hbox); have GW128 := Sd.mk (bSz hg (bBl HB.out)); have GE128 := Sd.mk (bSz hg (bBl HB.out)); replace HB := Sd.mk (below_step (bBl HB.out) hb); have NB126_128 := Sd.mk (bNl hg (bkA BK126.out)); have NB128_126 := Sd.mk (bNg hg (bkA BK126.out)); replace BK126 := Sd.mk (blk_below (bkA BK126.out) hb); clear hb hbox hg; have hnb18 := NB128_126.out; have hnc18 := NB126_128.out; obtain ⟨u19_0, u19_1, u19_2, u19_3, u19_4, u19_5, u19_6, o19_0, o19_1, o19_2, o19_3, o19_4, o19_5, o19_6⟩ := bc7 (w := w17) BK128.out) | ((with_reducible refine gate_callee (f := 102) rfl ?_); refine goesL_ (some 27) rfl rfl Tryz.func102 (by kernel_rfl) rfl #[.string ((rd_T70 l0_1 x19_1).f0)] rfl tM ?_; (with_reducible refine (b_name.calls k1 ((rd_T70 l0_1 x19_1).f0) true _ A13.out).mono ?_); rintro e w' ⟨rfl, ⟨nd, rfl⟩⟩; refine ⟨_, rfl, ?_⟩; obtain ⟨u20_0, u20_1, u20_2, u20_3, u20_4, u20_5, u20_6, o20_0, o20_1, o20_2, o20_3, o20_4, o20_5, o20_6⟩ := bc7 (w := w17) BK126.out) | ((with_reducible refine gate_callee (f := 178) rfl ?_); refine goesL_ (some 33) rfl rfl Tryz.func178 (by kernel_rfl) rfl #[.slice (some ad127) l0_1.length c0_1, .int .i64 x19_1, .func (.func 179) #[] #[]] rfl tM ?_; (with_reducible refine (x_twiceM.calls _ _ l0_1 x19_1 true _ (Kd.C_below HR0_1.out (bBl HB.out)) HC0_1.out A15.out).mono ?_); rintro e w21 ⟨rfl, hb⟩; refine ⟨_, rfl, ?_⟩; replace BK126 := Sd.mk (blk_below (g := gb126) (o := .cells #[.slice A0_0 l0_0.length c0_0, .slice (some ad127) l0_1.length c0_1, .slice A0_2 l0_2.length c0_2, .slice A0_3 l0_3.length c0_3, .int .i64 a0_4, .int .i64 a0_5, .int .i64 a0_6] 29 (0, 0)) (by refine bkZ ?_; refine blk_far ?_ NB126_128.out _; refine bkZ ?_; refine blk_far ?_ NB126_128.out _; refine bkZ ?_; refine blk_far ?_ NB126_128.out _; refine bkZ ?_; refine blk_far ?_ NB126_128.out _; refine bkZ ?_; refine blk_far ?_ NB126_128.out _; refine bkZ ?_; refine blk_far ?_ NB126_128.out _; refine bkZ ?_; refine blk_far ?_ NB126_128.out _; refine bkZ ?_; exact BK126.out) hb); replace BK128 := Sd.mk (blk_below (g := gb128) (o := .cells #[.string ((rd_T70 l0_1 x19_1).f0), .int .i64 ((rd_T70 l0_1 x19_1).f1), .int .i64 ((rd_T70 l0_1 x19_1).f2), .int .i64 ((rd_T70 l0_1 x19_1).f3), .int .i64 ((rd_T70 l0_1 x19_1).f4), .int .i64 ((rd_T70 l0_1 x19_1).f5), .slice A127_6 ((rd_T70 l0_1 x19_1).f6).length c127_6] 70 (0, 0)) (by refine bkZ ?_; refine blk_put (cs := #[.string ((rd_T70 l0_1 x19_1).f0), .int .i64 ((rd_T70 l0_1 x19_1).f1), .int .i64 ((rd_T70 l0_1 x19_1).f2), .int .i64 ((rd_T70 l0_1 x19_1).f3), .int .i64 ((rd_T70 l0_1 x19_1).f4), .int .i64 ((rd_T70 l0_1 x19_1).f5), .slice none 0 0]) ?_ 6 _ rfl; refine bkZ ?_; refine blk_put (cs := #[.string ((rd_T70 l0_1 x19_1).f0), .int .i64 ((rd_T70 l0_1 x19_1).f1), .int .i64 ((rd_T70 l0_1 x19_1).f2), .int .i64 ((rd_T70 l0_1 x19_1).f3), .int .i64 ((rd_T70 l0_1 x19_1).f4), .int .i64 0, .slice none 0 0]) ?_ 5 _ rfl; refine bkZ ?_; refine blk_put (cs := #[.string ((rd_T70 l0_1 x19_1).f0), .int .i64 ((rd_T70 l0_1 x19_1).f1), .int .i64 ((rd_T70 l0_1 x19_1).f2), .int .i64 ((rd_T70 l0_1 x19_1).f3), .int .i64 0, .int .i64 0, .slice none 0 0]) ?_ 4 _ rfl; refine bkZ ?_; refine blk_put (cs := #[.string ((rd_T70 l0_1 x19_1).f0), .int .i64 ((rd_T70 l0_1 x19_1).f1), .int .i64 ((rd_T70 l0_1 x19_1).f2), .int .i64 0, .int .i64 0, .int .i64 0, .slice none 0 0]) ?_ 3 _ rfl; refine bkZ ?_; refine blk_put (cs := #[.string ((rd_T70 l0_1 x19_1).f0), .int .i64 ((rd_T70 l0_1 x19_1).f1), .int .i64 0, .int .i64 0, .int .i64 0, .int .i64 0, .slice none 0 0]) ?_ 2 _ rfl; refine bkZ ?_; refine blk_put (cs := #[.string ((rd_T70 l0_1 x19_1).f0), .int .i64 0, .int .i64 0, .int .i64 0, .int .i64 0, .int .i64 0, .slice none 0 0]) ?_ 1 _ rfl; refine bkZ ?_; refine blk_put (cs := #[.string (⟨#[]⟩ : ByteArray), .int .i64 0, .int .i64 0, .int .i64 0, .int .i64 0, .int .i64 0, .slice none 0 0]) ?_ 0 _ rfl; refine bkZ ?_; exact BK128.out) hb); replace HB := Sd.mk (below_step (bBl HB.out) hb); (try clear hb); (try clear hb2); (try clear hk); (try clear hi)))
          go_ret
          exact ⟨tE, bBl HB.out⟩
         ·replace c16 := Bool.eq_false_iff.mpr c16
          subst c16
          have H1 : ((b_checkMaterial.f k1 l0_0 l0_1 l0_2 l0_3 a0_4 a0_5 a0_6 ((rd_T70 l0_1 x19_1).f0) ((rd_T70 l0_1 x19_1).f1) ((rd_T70 l0_1 x19_1).f2) ((rd_T70 l0_1 x19_1).f3) ((rd_T70 l0_1 x19_1).f4) ((rd_T70 l0_1 x19_1).f5) ((rd_T70 l0_1 x19_1).f6)).bind fun t131 => (if t131 = 0 then (b_checkMaterials.l0 k1 l0_1 (l0_1.length : Int) (wrap64 (x19_1 + 1)) l0_0 l0_1 l0_2 l0_3 a0_4 a0_5 a0_6) else (some t131))) = some r := by rw [if_neg (show ¬ (false = true) by decide)] at H; exact H
          clear H; have H := H1; clear H1; replace H := Option.bind_eq_some_iff.mp H; obtain ⟨t131, A220, H⟩ := H
          try dsimp only at H
          have A22 := Sd.mk A220; clear A220
          by_cases c23 : t131 = 0
          ·rw [if_pos c23] at H
           have c23b0 : (t131 == 0) = true := beq_iff_eq.mpr c23
           have c23b1 : (t131 != 0) = false := bne_eq_false_iff_eq.mpr c23
           clear c23; have H' := Sd.mk H; clear H
           have p127 : 0 ≤ (x19_1 : Int) := tB
           have q127 : x19_1 < (l0_1.length : Int) := tB
           obtain ⟨ad127, A127_6, c127_6, e127, hx127_0, hx127_1, hx127_2, hx127_3, hx127_4, hx127_5, hx127_6, hl127_6, hi127_6⟩ := at_T70 HR0_1.out x19_1 p127 q127; cases e127; replace hx127_0 := cU HB hx127_0; replace hx127_1 := cU HB hx127_1; replace hx127_2 := cU HB hx127_2; replace hx127_3 := cU HB hx127_3; replace hx127_4 := cU HB hx127_4; replace hx127_5 := cU HB hx127_5; replace hx127_6 := cU HB hx127_6; have HR127_6 := Sd.mk hi127_6; have HC127_6 := Sd.mk hl127_6; clear hi127_6 hl127_6; replace p127 := eq_true p127; replace q127 := eq_true q127
           go_wp2_with (first | ((with_reducible refine gate_dst (N := 4) rfl ?_); refine box_event ?hg (N := 4) ?hd (cs := #[.string (⟨#[]⟩ : ByteArray), .int .i64 0, .int .i64 0, .int .i64 0, .int .i64 0, .int .i64 0, .slice none 0 0]) (t := 70) ?hr ?_; (case hd => rfl); (case hg => rfl); (case hr => exact tG); intro gb128 hg w24 hbox hb; have BK128 := Sd.mk (hbox); have GW128 := Sd.mk (bSz hg (bBl HB.out)); have GE128 := Sd.mk (bSz hg (bBl HB.out)); replace HB := Sd.mk (below_step (bBl HB.out) hb); have NB126_128 := Sd.mk (bNl hg (bkA BK126.out)); have NB128_126 := Sd.mk (bNg hg (bkA BK126.out)); replace BK126 := Sd.mk (blk_below (bkA BK126.out) hb); clear hb hbox hg; have hnb25 := NB128_126.out; have hnc25 := NB126_128.out; obtain ⟨u26_0, u26_1, u26_2, u26_3, u26_4, u26_5, u26_6, o26_0, o26_1, o26_2, o26_3, o26_4, o26_5, o26_6⟩ := bc7 (w := w24) BK128.out) | ((with_reducible refine gate_callee (f := 102) rfl ?_); refine goesL_ (some 27) rfl rfl Tryz.func102 (by kernel_rfl) rfl #[.string ((rd_T70 l0_1 x19_1).f0)] rfl tM ?_; (with_reducible refine (b_name.calls k1 ((rd_T70 l0_1 x19_1).f0) true _ A13.out).mono ?_); rintro e w' ⟨rfl, ⟨nd, rfl⟩⟩; refine ⟨_, rfl, ?_⟩; obtain ⟨u27_0, u27_1, u27_2, u27_3, u27_4, u27_5, u27_6, o27_0, o27_1, o27_2, o27_3, o27_4, o27_5, o27_6⟩ := bc7 (w := w24) BK126.out) | ((with_reducible refine gate_callee (f := 178) rfl ?_); refine goesL_ (some 33) rfl rfl Tryz.func178 (by kernel_rfl) rfl #[.slice (some ad127) l0_1.length c0_1, .int .i64 x19_1, .func (.func 179) #[] #[]] rfl tM ?_; (with_reducible refine (x_twiceM.calls _ _ l0_1 x19_1 false _ (Kd.C_below HR0_1.out (bBl HB.out)) HC0_1.out A15.out).mono ?_); rintro e w28 ⟨rfl, hb⟩; refine ⟨_, rfl, ?_⟩; replace BK126 := Sd.mk (blk_below (g := gb126) (o := .cells #[.slice A0_0 l0_0.length c0_0, .slice (some ad127) l0_1.length c0_1, .slice A0_2 l0_2.length c0_2, .slice A0_3 l0_3.length c0_3, .int .i64 a0_4, .int .i64 a0_5, .int .i64 a0_6] 29 (0, 0)) (by refine bkZ ?_; refine blk_far ?_ NB126_128.out _; refine bkZ ?_; refine blk_far ?_ NB126_128.out _; refine bkZ ?_; refine blk_far ?_ NB126_128.out _; refine bkZ ?_; refine blk_far ?_ NB126_128.out _; refine bkZ ?_; refine blk_far ?_ NB126_128.out _; refine bkZ ?_; refine blk_far ?_ NB126_128.out _; refine bkZ ?_; refine blk_far ?_ NB126_128.out _; refine bkZ ?_; exact BK126.out) hb); replace BK128 := Sd.mk (blk_below (g := gb128) (o := .cells #[.string ((rd_T70 l0_1 x19_1).f0), .int .i64 ((rd_T70 l0_1 x19_1).f1), .int .i64 ((rd_T70 l0_1 x19_1).f2), .int .i64 ((rd_T70 l0_1 x19_1).f3), .int .i64 ((rd_T70 l0_1 x19_1).f4), .int .i64 ((rd_T70 l0_1 x19_1).f5), .slice A127_6 ((rd_T70 l0_1 x19_1).f6).length c127_6] 70 (0, 0)) (by refine bkZ ?_; refine blk_put (cs := #[.string ((rd_T70 l0_1 x19_1).f0), .int .i64 ((rd_T70 l0_1 x19_1).f1), .int .i64 ((rd_T70 l0_1 x19_1).f2), .int .i64 ((rd_T70 l0_1 x19_1).f3), .int .i64 ((rd_T70 l0_1 x19_1).f4), .int .i64 ((rd_T70 l0_1 x19_1).f5), .slice none 0 0]) ?_ 6 _ rfl; refine bkZ ?_; refine blk_put (cs := #[.string ((rd_T70 l0_1 x19_1).f0), .int .i64 ((rd_T70 l0_1 x19_1).f1), .int .i64 ((rd_T70 l0_1 x19_1).f2), .int .i64 ((rd_T70 l0_1 x19_1).f3), .int .i64 ((rd_T70 l0_1 x19_1).f4), .int .i64 0, .slice none 0 0]) ?_ 5 _ rfl; refine bkZ ?_; refine blk_put (cs := #[.string ((rd_T70 l0_1 x19_1).f0), .int .i64 ((rd_T70 l0_1 x19_1).f1), .int .i64 ((rd_T70 l0_1 x19_1).f2), .int .i64 ((rd_T70 l0_1 x19_1).f3), .int .i64 0, .int .i64 0, .slice none 0 0]) ?_ 4 _ rfl; refine bkZ ?_; refine blk_put (cs := #[.string ((rd_T70 l0_1 x19_1).f0), .int .i64 ((rd_T70 l0_1 x19_1).f1), .int .i64 ((rd_T70 l0_1 x19_1).f2), .int .i64 0, .int .i64 0, .int .i64 0, .slice none 0 0]) ?_ 3 _ rfl; refine bkZ ?_; refine blk_put (cs := #[.string ((rd_T70 l0_1 x19_1).f0), .int .i64 ((rd_T70 l0_1 x19_1).f1), .int .i64 0, .int .i64 0, .int .i64 0, .int .i64 0, .slice none 0 0]) ?_ 2 _ rfl; refine bkZ ?_; refine blk_put (cs := #[.string ((rd_T70 l0_1 x19_1).f0), .int .i64 0, .int .i64 0, .int .i64 0, .int .i64 0, .int .i64 0, .slice none 0 0]) ?_ 1 _ rfl; refine bkZ ?_; refine blk_put (cs := #[.string (⟨#[]⟩ : ByteArray), .int .i64 0, .int .i64 0, .int .i64 0, .int .i64 0, .int .i64 0, .slice none 0 0]) ?_ 0 _ rfl; refine bkZ ?_; exact BK128.out) hb); replace HB := Sd.mk (below_step (bBl HB.out) hb); (try clear hb); (try clear hb2); (try clear hk); (try clear hi); obtain ⟨u29_0, u29_1, u29_2, u29_3, u29_4, u29_5, u29_6, o29_0, o29_1, o29_2, o29_3, o29_4, o29_5, o29_6⟩ := bc7 (w := w28) BK126.out; obtain ⟨u30_0, u30_1, u30_2, u30_3, u30_4, u30_5, u30_6, o30_0, o30_1, o30_2, o30_3, o30_4, o30_5, o30_6⟩ := bc7 (w := w28) BK128.out) | ((with_reducible refine gate_callee (f := 180) rfl ?_); refine goesL_ (some 36) rfl rfl Tryz.func180 (by kernel_rfl) rfl #[.agg #[.slice A0_0 l0_0.length c0_0, .slice (some ad127) l0_1.length c0_1, .slice A0_2 l0_2.length c0_2, .slice A0_3 l0_3.length c0_3, .int .i64 a0_4, .int .i64 a0_5, .int .i64 a0_6], .agg #[.string ((rd_T70 l0_1 x19_1).f0), .int .i64 ((rd_T70 l0_1 x19_1).f1), .int .i64 ((rd_T70 l0_1 x19_1).f2), .int .i64 ((rd_T70 l0_1 x19_1).f3), .int .i64 ((rd_T70 l0_1 x19_1).f4), .int .i64 ((rd_T70 l0_1 x19_1).f5), .slice A127_6 ((rd_T70 l0_1 x19_1).f6).length c127_6]] rfl tM ?_; (with_reducible refine (b_checkMaterial.calls k1 _ _ l0_0 _ _ l0_1 _ _ l0_2 _ _ l0_3 a0_4 a0_5 a0_6 ((rd_T70 l0_1 x19_1).f0) ((rd_T70 l0_1 x19_1).f1) ((rd_T70 l0_1 x19_1).f2) ((rd_T70 l0_1 x19_1).f3) ((rd_T70 l0_1 x19_1).f4) ((rd_T70 l0_1 x19_1).f5) _ _ ((rd_T70 l0_1 x19_1).f6) t131 _ (cS (Kd.C_below HR0_0.out HB.out)) HC0_0.out (cS (Kd.C_below HR0_1.out HB.out)) HC0_1.out (cS (Kd.C_below HR0_2.out HB.out)) HC0_2.out (cS (Kd.C_below HR0_3.out HB.out)) HC0_3.out (cS (Kd.C_below HR127_6.out HB.out)) HC127_6.out A22.out).mono ?_); rintro e w31 ⟨rfl, hb⟩; refine ⟨_, rfl, ?_⟩; replace BK126 := Sd.mk (blk_below (bkA BK126.out) hb); replace BK128 := Sd.mk (blk_below (bkA BK128.out) hb); replace HB := Sd.mk (below_step (bBl HB.out) hb); (try clear hb); (try clear hb2); (try clear hk); (try clear hi)))
           go_roundg k1
           case measure => have := HK1.out; omega
           case rel => exact ⟨(wrap64 (x19_1 + 1)), tS, H', ⟨by have := HK1.out; omega⟩, ⟨bkA BK126.out⟩, ⟨bBl HB.out⟩⟩
          ·rw [if_neg c23] at H
           have c23b0 : (t131 == 0) = false := beq_eq_false_iff_ne.mpr c23
           have c23b1 : (t131 != 0) = true := bne_iff_ne.mpr c23
           obtain rfl := Option.some.inj H
           have p127 : 0 ≤ (x19_1 : Int) := tB
           have q127 : x19_1 < (l0_1.length : Int) := tB
           obtain ⟨ad127, A127_6, c127_6, e127, hx127_0, hx127_1, hx127_2, hx127_3, hx127_4, hx127_5, hx127_6, hl127_6, hi127_6⟩ := at_T70 HR0_1.out x19_1 p127 q127; cases e127; replace hx127_0 := cU HB hx127_0; replace hx127_1 := cU HB hx127_1; replace hx127_2 := cU HB hx127_2; replace hx127_3 := cU HB hx127_3; replace hx127_4 := cU HB hx127_4; replace hx127_5 := cU HB hx127_5; replace hx127_6 := cU HB hx127_6; have HR127_6 := Sd.mk hi127_6; have HC127_6 := Sd.mk hl127_6; clear hi127_6 hl127_6; replace p127 := eq_true p127; replace q127 := eq_true q127
           go_wp2_with (first | ((with_reducible refine gate_dst (N := 4) rfl ?_); refine box_event ?hg (N := 4) ?hd (cs := #[.string (⟨#[]⟩ : ByteArray), .int .i64 0, .int .i64 0, .int .i64 0, .int .i64 0, .int .i64 0, .slice none 0 0]) (t := 70) ?hr ?_; (case hd => rfl); (case hg => rfl); (case hr => exact tG); intro gb128 hg w32 hbox hb; have BK128 := Sd.mk (hbox); have GW128 := Sd.mk (bSz hg (bBl HB.out)); have GE128 := Sd.mk (bSz hg (bBl HB.out)); replace HB := Sd.mk (below_step (bBl HB.out) hb); have NB126_128 := Sd.mk (bNl hg (bkA BK126.out)); have NB128_126 := Sd.mk (bNg hg (bkA BK126.out)); replace BK126 := Sd.mk (blk_below (bkA BK126.out) hb); clear hb hbox hg; have hnb33 := NB128_126.out; have hnc33 := NB126_128.out; obtain ⟨u34_0, u34_1, u34_2, u34_3, u34_4, u34_5, u34_6, o34_0, o34_1, o34_2, o34_3, o34_4, o34_5, o34_6⟩ := bc7 (w := w32) BK128.out) | ((with_reducible refine gate_callee (f := 102) rfl ?_); refine goesL_ (some 27) rfl rfl Tryz.func102 (by kernel_rfl) rfl #[.string ((rd_T70 l0_1 x19_1).f0)] rfl tM ?_; (with_reducible refine (b_name.calls k1 ((rd_T70 l0_1 x19_1).f0) true _ A13.out).mono ?_); rintro e w' ⟨rfl, ⟨nd, rfl⟩⟩; refine ⟨_, rfl, ?_⟩; obtain ⟨u35_0, u35_1, u35_2, u35_3, u35_4, u35_5, u35_6, o35_0, o35_1, o35_2, o35_3, o35_4, o35_5, o35_6⟩ := bc7 (w := w32) BK126.out) | ((with_reducible refine gate_callee (f := 178) rfl ?_); refine goesL_ (some 33) rfl rfl Tryz.func178 (by kernel_rfl) rfl #[.slice (some ad127) l0_1.length c0_1, .int .i64 x19_1, .func (.func 179) #[] #[]] rfl tM ?_; (with_reducible refine (x_twiceM.calls _ _ l0_1 x19_1 false _ (Kd.C_below HR0_1.out (bBl HB.out)) HC0_1.out A15.out).mono ?_); rintro e w36 ⟨rfl, hb⟩; refine ⟨_, rfl, ?_⟩; replace BK126 := Sd.mk (blk_below (g := gb126) (o := .cells #[.slice A0_0 l0_0.length c0_0, .slice (some ad127) l0_1.length c0_1, .slice A0_2 l0_2.length c0_2, .slice A0_3 l0_3.length c0_3, .int .i64 a0_4, .int .i64 a0_5, .int .i64 a0_6] 29 (0, 0)) (by refine bkZ ?_; refine blk_far ?_ NB126_128.out _; refine bkZ ?_; refine blk_far ?_ NB126_128.out _; refine bkZ ?_; refine blk_far ?_ NB126_128.out _; refine bkZ ?_; refine blk_far ?_ NB126_128.out _; refine bkZ ?_; refine blk_far ?_ NB126_128.out _; refine bkZ ?_; refine blk_far ?_ NB126_128.out _; refine bkZ ?_; refine blk_far ?_ NB126_128.out _; refine bkZ ?_; exact BK126.out) hb); replace BK128 := Sd.mk (blk_below (g := gb128) (o := .cells #[.string ((rd_T70 l0_1 x19_1).f0), .int .i64 ((rd_T70 l0_1 x19_1).f1), .int .i64 ((rd_T70 l0_1 x19_1).f2), .int .i64 ((rd_T70 l0_1 x19_1).f3), .int .i64 ((rd_T70 l0_1 x19_1).f4), .int .i64 ((rd_T70 l0_1 x19_1).f5), .slice A127_6 ((rd_T70 l0_1 x19_1).f6).length c127_6] 70 (0, 0)) (by refine bkZ ?_; refine blk_put (cs := #[.string ((rd_T70 l0_1 x19_1).f0), .int .i64 ((rd_T70 l0_1 x19_1).f1), .int .i64 ((rd_T70 l0_1 x19_1).f2), .int .i64 ((rd_T70 l0_1 x19_1).f3), .int .i64 ((rd_T70 l0_1 x19_1).f4), .int .i64 ((rd_T70 l0_1 x19_1).f5), .slice none 0 0]) ?_ 6 _ rfl; refine bkZ ?_; refine blk_put (cs := #[.string ((rd_T70 l0_1 x19_1).f0), .int .i64 ((rd_T70 l0_1 x19_1).f1), .int .i64 ((rd_T70 l0_1 x19_1).f2), .int .i64 ((rd_T70 l0_1 x19_1).f3), .int .i64 ((rd_T70 l0_1 x19_1).f4), .int .i64 0, .slice none 0 0]) ?_ 5 _ rfl; refine bkZ ?_; refine blk_put (cs := #[.string ((rd_T70 l0_1 x19_1).f0), .int .i64 ((rd_T70 l0_1 x19_1).f1), .int .i64 ((rd_T70 l0_1 x19_1).f2), .int .i64 ((rd_T70 l0_1 x19_1).f3), .int .i64 0, .int .i64 0, .slice none 0 0]) ?_ 4 _ rfl; refine bkZ ?_; refine blk_put (cs := #[.string ((rd_T70 l0_1 x19_1).f0), .int .i64 ((rd_T70 l0_1 x19_1).f1), .int .i64 ((rd_T70 l0_1 x19_1).f2), .int .i64 0, .int .i64 0, .int .i64 0, .slice none 0 0]) ?_ 3 _ rfl; refine bkZ ?_; refine blk_put (cs := #[.string ((rd_T70 l0_1 x19_1).f0), .int .i64 ((rd_T70 l0_1 x19_1).f1), .int .i64 0, .int .i64 0, .int .i64 0, .int .i64 0, .slice none 0 0]) ?_ 2 _ rfl; refine bkZ ?_; refine blk_put (cs := #[.string ((rd_T70 l0_1 x19_1).f0), .int .i64 0, .int .i64 0, .int .i64 0, .int .i64 0, .int .i64 0, .slice none 0 0]) ?_ 1 _ rfl; refine bkZ ?_; refine blk_put (cs := #[.string (⟨#[]⟩ : ByteArray), .int .i64 0, .int .i64 0, .int .i64 0, .int .i64 0, .int .i64 0, .slice none 0 0]) ?_ 0 _ rfl; refine bkZ ?_; exact BK128.out) hb); replace HB := Sd.mk (below_step (bBl HB.out) hb); (try clear hb); (try clear hb2); (try clear hk); (try clear hi); obtain ⟨u37_0, u37_1, u37_2, u37_3, u37_4, u37_5, u37_6, o37_0, o37_1, o37_2, o37_3, o37_4, o37_5, o37_6⟩ := bc7 (w := w36) BK126.out; obtain ⟨u38_0, u38_1, u38_2, u38_3, u38_4, u38_5, u38_6, o38_0, o38_1, o38_2, o38_3, o38_4, o38_5, o38_6⟩ := bc7 (w := w36) BK128.out) | ((with_reducible refine gate_callee (f := 180) rfl ?_); refine goesL_ (some 36) rfl rfl Tryz.func180 (by kernel_rfl) rfl #[.agg #[.slice A0_0 l0_0.length c0_0, .slice (some ad127) l0_1.length c0_1, .slice A0_2 l0_2.length c0_2, .slice A0_3 l0_3.length c0_3, .int .i64 a0_4, .int .i64 a0_5, .int .i64 a0_6], .agg #[.string ((rd_T70 l0_1 x19_1).f0), .int .i64 ((rd_T70 l0_1 x19_1).f1), .int .i64 ((rd_T70 l0_1 x19_1).f2), .int .i64 ((rd_T70 l0_1 x19_1).f3), .int .i64 ((rd_T70 l0_1 x19_1).f4), .int .i64 ((rd_T70 l0_1 x19_1).f5), .slice A127_6 ((rd_T70 l0_1 x19_1).f6).length c127_6]] rfl tM ?_; (with_reducible refine (b_checkMaterial.calls k1 _ _ l0_0 _ _ l0_1 _ _ l0_2 _ _ l0_3 a0_4 a0_5 a0_6 ((rd_T70 l0_1 x19_1).f0) ((rd_T70 l0_1 x19_1).f1) ((rd_T70 l0_1 x19_1).f2) ((rd_T70 l0_1 x19_1).f3) ((rd_T70 l0_1 x19_1).f4) ((rd_T70 l0_1 x19_1).f5) _ _ ((rd_T70 l0_1 x19_1).f6) t131 _ (cS (Kd.C_below HR0_0.out HB.out)) HC0_0.out (cS (Kd.C_below HR0_1.out HB.out)) HC0_1.out (cS (Kd.C_below HR0_2.out HB.out)) HC0_2.out (cS (Kd.C_below HR0_3.out HB.out)) HC0_3.out (cS (Kd.C_below HR127_6.out HB.out)) HC127_6.out A22.out).mono ?_); rintro e w39 ⟨rfl, hb⟩; refine ⟨_, rfl, ?_⟩; replace BK126 := Sd.mk (blk_below (bkA BK126.out) hb); replace BK128 := Sd.mk (blk_below (bkA BK128.out) hb); replace HB := Sd.mk (below_step (bBl HB.out) hb); (try clear hb); (try clear hb2); (try clear hk); (try clear hi)))
           go_ret
           exact ⟨tE, bBl HB.out⟩
        ·replace c14 := Bool.eq_false_iff.mpr c14
         subst c14
         have H1 : (some 5) = some r := by rw [if_neg (show ¬ (false = true) by decide)] at H; exact H
         clear H; have H := H1; clear H1; obtain rfl := Option.some.inj H
         have p127 : 0 ≤ (x19_1 : Int) := tB
         have q127 : x19_1 < (l0_1.length : Int) := tB
         obtain ⟨ad127, A127_6, c127_6, e127, hx127_0, hx127_1, hx127_2, hx127_3, hx127_4, hx127_5, hx127_6, hl127_6, hi127_6⟩ := at_T70 HR0_1.out x19_1 p127 q127; cases e127; replace hx127_0 := cU HB hx127_0; replace hx127_1 := cU HB hx127_1; replace hx127_2 := cU HB hx127_2; replace hx127_3 := cU HB hx127_3; replace hx127_4 := cU HB hx127_4; replace hx127_5 := cU HB hx127_5; replace hx127_6 := cU HB hx127_6; have HR127_6 := Sd.mk hi127_6; have HC127_6 := Sd.mk hl127_6; clear hi127_6 hl127_6; replace p127 := eq_true p127; replace q127 := eq_true q127
         go_wp2_with (first | ((with_reducible refine gate_dst (N := 4) rfl ?_); refine box_event ?hg (N := 4) ?hd (cs := #[.string (⟨#[]⟩ : ByteArray), .int .i64 0, .int .i64 0, .int .i64 0, .int .i64 0, .int .i64 0, .slice none 0 0]) (t := 70) ?hr ?_; (case hd => rfl); (case hg => rfl); (case hr => exact tG); intro gb128 hg w40 hbox hb; have BK128 := Sd.mk (hbox); have GW128 := Sd.mk (bSz hg (bBl HB.out)); have GE128 := Sd.mk (bSz hg (bBl HB.out)); replace HB := Sd.mk (below_step (bBl HB.out) hb); have NB126_128 := Sd.mk (bNl hg (bkA BK126.out)); have NB128_126 := Sd.mk (bNg hg (bkA BK126.out)); replace BK126 := Sd.mk (blk_below (bkA BK126.out) hb); clear hb hbox hg; have hnb41 := NB128_126.out; have hnc41 := NB126_128.out; obtain ⟨u42_0, u42_1, u42_2, u42_3, u42_4, u42_5, u42_6, o42_0, o42_1, o42_2, o42_3, o42_4, o42_5, o42_6⟩ := bc7 (w := w40) BK128.out) | ((with_reducible refine gate_callee (f := 102) rfl ?_); refine goesL_ (some 27) rfl rfl Tryz.func102 (by kernel_rfl) rfl #[.string ((rd_T70 l0_1 x19_1).f0)] rfl tM ?_; (with_reducible refine (b_name.calls k1 ((rd_T70 l0_1 x19_1).f0) false _ A13.out).mono ?_); rintro e w' ⟨rfl, ⟨nd, rfl⟩⟩; refine ⟨_, rfl, ?_⟩))
         go_ret
         exact ⟨tE, bBl HB.out⟩
       ·rw [if_neg c12] at H
        exact absurd H (by simp)
      ·rw [if_neg c11] at H
       exact absurd H (by simp)
     ·rw [if_neg c10] at H
      have c10b0 : decide (x19_1 < (l0_1.length : Int)) = false := decide_eq_false c10
      clear c10; obtain rfl := Option.some.inj H
      go_wp2
      go_ret
      exact ⟨tE, bBl HB.out⟩
end
end Go.Proofs.YtljfljekcpdpiaaGreat.PB
namespace Go.Proofs.YtljfljekcpdpiaaGreat.MeanMath
def lsum {α : Type} (f : α → Int) : List α → Int
  | [] => 0
  | x :: l => f x + lsum f l
variable {α : Type}
@[simp] theorem lsum_nil (f : α → Int) : lsum f [] = 0 := rfl
@[simp] theorem lsum_cons (f : α → Int) (x : α) (l : List α) : lsum f (x :: l) = f x + lsum f l := rfl
theorem lsum_append (f : α → Int) (l m : List α) : lsum f (l ++ m) = lsum f l + lsum f m := by
  induction l with
  | nil => simp
  | cons x l ih => simp [ih]; omega
theorem lsum_perm (f : α → Int) {l m : List α} (h : l.Perm m) : lsum f l = lsum f m := by
  induction h with
  | nil => rfl
  | cons x _ ih => simp [ih]
  | swap x y l => simp; omega
  | trans _ _ h1 h2 => exact h1.trans h2
def below (c lo hi : α → Int) (m : Int) (o : List α) : Int := lsum (fun a => max ((m - c a) * lo a) ((m - c a) * hi a)) o
end Go.Proofs.YtljfljekcpdpiaaGreat.MeanMath

namespace Go.Proofs.YtljfljekcpdpiaaGreat.PB
open Go.RowKit Go.Proofs.YtljfljekcpdpiaaGreatW.PrintWords Go.Proofs.YtljfljekcpdpiaaGreatW.PrintLast Go.Proofs.YtljfljekcpdpiaaGreatW.PrintMore
section
def outside (lo hi x : Int) : Bool := !(decide (lo ≤ x) && decide (x ≤ hi))
theorem within_f (a lo hi : Int) : b_within.f a lo hi = some (decide (lo ≤ a) && decide (a ≤ hi)) := by
  unfold b_within.f
  by_cases h : lo ≤ a <;> simp [h]
theorem span_f (a b lo hi : Int) : b_span.f a b lo hi = some (decide (lo ≤ a) && decide (a ≤ b) && decide (b ≤ hi)) := by
  unfold b_span.f
  by_cases h : lo ≤ a <;> by_cases h' : a ≤ b <;> simp [h, h']
theorem tells_coefs (x : Int) (w : World) : Tells 184 #[] (.int .i64 x) (outside (-10000) 10000 x) w := by
  intro W _
  have H := Sd.mk (b_within.calls x (-10000) 10000 _ W (within_f _ _ _))
  show Calls Tryz.prog 184 #[.int .i64 x] W _
  unfold outside
  go_enter Tryz.func184, Tryz.ntmps184
  go_wp2_with (go_at_call 56; refine H.out.mono ?_; rintro e w1 ⟨rfl, hb⟩)
  go_ret
  exact ⟨by first | rfl | simp [Bool.not_and], Drawn0.below hb⟩
def x_coefs.f (l : List Int) : Option Bool := some (l.any (outside (-10000) 10000))
theorem x_coefs.calls (A0 : Option Addr) (c0 : Nat) (l0 : List Int) (r : Bool) (w : World) (hr0 : Kd.C (Kd.int .i64) w A0 l0.length l0) (hc0 : l0.length ≤ c0) (h : x_coefs.f l0 = some r) :
    Calls Tryz.prog 106 #[.slice A0 l0.length c0, .func (.func 184) #[] #[]] w fun e w' => e = .returned (.bool r) ∧ Below w.heap.size w w' := by
  obtain rfl := Option.some.inj h
  exact containsFunc_int _ 184 #[] (enters_of Tryz.func184 (by kernel_rfl) rfl) A0 c0 l0 w hr0 (fun x _ => tells_coefs x w)
theorem tells_kilos (x : Int) (w : World) : Tells 196 #[] (.int .i64 x) (outside (0) 10000 x) w := by
  intro W _
  have H := Sd.mk (b_within.calls x (0) 10000 _ W (within_f _ _ _))
  show Calls Tryz.prog 196 #[.int .i64 x] W _
  unfold outside
  go_enter Tryz.func196, Tryz.ntmps196
  go_wp2_with (go_at_call 56; refine H.out.mono ?_; rintro e w1 ⟨rfl, hb⟩)
  go_ret
  exact ⟨by first | rfl | simp [Bool.not_and], Drawn0.below hb⟩
def x_kilos.f (l : List Int) : Option Bool := some (l.any (outside (0) 10000))
theorem x_kilos.calls (A0 : Option Addr) (c0 : Nat) (l0 : List Int) (r : Bool) (w : World) (hr0 : Kd.C (Kd.int .i64) w A0 l0.length l0) (hc0 : l0.length ≤ c0) (h : x_kilos.f l0 = some r) :
    Calls Tryz.prog 106 #[.slice A0 l0.length c0, .func (.func 196) #[] #[]] w fun e w' => e = .returned (.bool r) ∧ Below w.heap.size w w' := by
  obtain rfl := Option.some.inj h
  exact containsFunc_int _ 196 #[] (enters_of Tryz.func196 (by kernel_rfl) rfl) A0 c0 l0 w hr0 (fun x _ => tells_kilos x w)
def badSpan (s : S27) : Bool := !(decide (0 ≤ s.f0) && decide (s.f0 ≤ s.f1) && decide (s.f1 ≤ 1000))
theorem tells_spans (x : S27) (w : World) : Tells 100 #[] (.agg #[.int .i64 x.f0, .int .i64 x.f1]) (badSpan x) w := by
  intro W _
  have H := fun W => b_span.calls x.f0 x.f1 0 1000 _ W (span_f _ _ _ _)
  have H' := Sd.mk H
  clear H
  show Calls Tryz.prog 100 #[.agg #[.int .i64 x.f0, .int .i64 x.f1]] W _
  unfold badSpan
  generalize x.f0 = a at *
  generalize x.f1 = b at *
  go_enter Tryz.func100, Tryz.ntmps100
  go_wp2_with (go_at_call 101; refine (H'.out _).mono ?_; rintro e w1 ⟨rfl, hb⟩)
  go_ret
  exact ⟨by first | rfl | simp [Bool.not_and], below_trans' (below_alloc (Below.refl _ _) _) hb⟩
def x_spans.f (l : List S27) : Option Bool := some (l.any badSpan)
theorem x_spans.calls (A0 : Option Addr) (c0 : Nat) (l0 : List S27) (r : Bool) (w : World) (hr0 : Kd.C k27 w A0 l0.length l0) (hc0 : l0.length ≤ c0) (h : x_spans.f l0 = some r) :
    Calls Tryz.prog 99 #[.slice A0 l0.length c0, .func (.func 100) #[] #[]] w fun e w' => e = .returned (.bool r) ∧ Below w.heap.size w w' := by
  obtain rfl := Option.some.inj h
  exact containsFunc_span _ 100 #[] (enters_of Tryz.func100 (by kernel_rfl) rfl) A0 c0 l0 w hr0 (fun x _ => tells_spans x w)
end
section
def b_checkProperty.f (l0_0 : List ByteArray) (l0_1 : List (S70)) (l0_2 : List (S27)) (l0_3 : List (S89)) (a0_4 : Int) (a0_5 : Int) (a0_6 : Int) (a1_0 : ByteArray) (l1_1 : List Int) (a1_2 : Int) (a1_3 : Int) : Option (Int) := if (l1_1.length : Int) = (l0_0.length : Int) then ((x_coefs.f l1_1).bind fun t134 => (if t134 = true then (some 1) else ((b_span.f a1_2 a1_3 (-10000) 10000).bind fun t135 => (if t135 = true then (some 0) else (some 1))))) else (some 1)
theorem b_checkProperty.calls (A0_0 : Option Addr) (c0_0 : Nat) (l0_0 : List ByteArray) (A0_1 : Option Addr) (c0_1 : Nat) (l0_1 : List (S70)) (A0_2 : Option Addr) (c0_2 : Nat) (l0_2 : List (S27)) (A0_3 : Option Addr) (c0_3 : Nat) (l0_3 : List (S89)) (a0_4 : Int) (a0_5 : Int) (a0_6 : Int) (a1_0 : ByteArray) (A1_1 : Option Addr) (c1_1 : Nat) (l1_1 : List Int) (a1_2 : Int) (a1_3 : Int) (r : Int) (w : World) (hr0_0 : Kd.C Kd.string w A0_0 l0_0.length l0_0) (hc0_0 : l0_0.length ≤ c0_0) (hr0_1 : Kd.C k70 w A0_1 l0_1.length l0_1) (hc0_1 : l0_1.length ≤ c0_1) (hr0_2 : Kd.C k27 w A0_2 l0_2.length l0_2) (hc0_2 : l0_2.length ≤ c0_2) (hr0_3 : Kd.C k89 w A0_3 l0_3.length l0_3) (hc0_3 : l0_3.length ≤ c0_3) (hr1_1 : Kd.C (Kd.int .i64) w A1_1 l1_1.length l1_1) (hc1_1 : l1_1.length ≤ c1_1) (h : b_checkProperty.f l0_0 l0_1 l0_2 l0_3 a0_4 a0_5 a0_6 a1_0 l1_1 a1_2 a1_3 = some r) :
  Calls Tryz.prog 105 #[.agg #[.slice A0_0 l0_0.length c0_0, .slice A0_1 l0_1.length c0_1, .slice A0_2 l0_2.length c0_2, .slice A0_3 l0_3.length c0_3, .int .i64 a0_4, .int .i64 a0_5, .int .i64 a0_6], .agg #[.string a1_0, .slice A1_1 l1_1.length c1_1, .int .i64 a1_2, .int .i64 a1_3]] w fun e w' => e = .returned (.int .i64 r) ∧ Below w.heap.size w w' := by
 have hu29 := Tryz.underlying29; have hu89 := Tryz.underlying89; have hu27 := Tryz.underlying27; have HR0_0 := Sd.mk hr0_0; have HC0_0 := Sd.mk hc0_0; clear hr0_0 hc0_0; have HR0_1 := Sd.mk hr0_1; have HC0_1 := Sd.mk hc0_1; clear hr0_1 hc0_1; have HR0_2 := Sd.mk hr0_2; have HC0_2 := Sd.mk hc0_2; clear hr0_2 hc0_2; have HR0_3 := Sd.mk hr0_3; have HC0_3 := Sd.mk hc0_3; clear hr0_3 hc0_3; have HR1_1 := Sd.mk hr1_1; have HC1_1 := Sd.mk hc1_1; clear hr1_1 hc1_1; have HB := Sd.mk (Below.refl w.heap.size w)
 have H : (if (l1_1.length : Int) = (l0_0.length : Int) then ((x_coefs.f l1_1).bind fun t134 => (if t134 = true then (some 1) else ((b_span.f a1_2 a1_3 (-10000) 10000).bind fun t135 => (if t135 = true then (some 0) else (some 1))))) else (some 1)) = some r := h
 clear h
 by_cases c3 : (l1_1.length : Int) = (l0_0.length : Int)
 ·rw [if_pos c3] at H
  have c3b0 : ((l1_1.length : Int) == (l0_0.length : Int)) = true := beq_iff_eq.mpr c3
  have c3b1 : ((l1_1.length : Int) != (l0_0.length : Int)) = false := bne_eq_false_iff_eq.mpr c3
  have c3b2 : (l1_1.length == l0_0.length) = true := by first | simpa using c3 | (simp at c3 ⊢; omega)
  clear c3; replace H := Option.bind_eq_some_iff.mp H; obtain ⟨t134, A40, H⟩ := H
  try dsimp only at H
  have A4 := Sd.mk A40; clear A40
  by_cases c5 : t134 = true
  ·subst c5
   have H1 : (some 1) = some r := by rw [if_pos rfl] at H; exact H
   clear H; have H := H1; clear H1; obtain rfl := Option.some.inj H
   go_enter Tryz.func105, Tryz.ntmps105
   go_wp2_with (first | ((with_reducible refine gate_dst (N := 2) rfl ?_); refine box_event ?hg (N := 2) ?hd (cs := #[.slice A0_0 l0_0.length c0_0, .slice A0_1 l0_1.length c0_1, .slice A0_2 l0_2.length c0_2, .slice A0_3 l0_3.length c0_3, .int .i64 a0_4, .int .i64 a0_5, .int .i64 a0_6]) (t := 29) ?hr ?_; (case hd => rfl); (case hg => rfl); (case hr => exact tG); intro gb132 hg w6 hbox hb; have BK132 := Sd.mk (hbox); have GW132 := Sd.mk (bSz hg (bBl HB.out)); have GE132 := Sd.mk (bSz hg (bBl HB.out)); replace HB := Sd.mk (below_step (bBl HB.out) hb); clear hb hbox hg) | ((with_reducible refine gate_dst (N := 3) rfl ?_); refine box_event ?hg (N := 3) ?hd (cs := #[.string a1_0, .slice A1_1 l1_1.length c1_1, .int .i64 a1_2, .int .i64 a1_3]) (t := 89) ?hr ?_; (case hd => rfl); (case hg => rfl); (case hr => exact tG); intro gb133 hg w7 hbox hb; have BK133 := Sd.mk (hbox); have GW133 := Sd.mk (bSz hg (bBl HB.out)); have GE133 := Sd.mk (bSz hg (bBl HB.out)); replace HB := Sd.mk (below_step (bBl HB.out) hb); have NB132_133 := Sd.mk (bNl hg (bkA BK132.out)); have NB133_132 := Sd.mk (bNg hg (bkA BK132.out)); replace BK132 := Sd.mk (blk_below (bkA BK132.out) hb); clear hb hbox hg; have hnb8 := NB133_132.out; have hnc8 := NB132_133.out; obtain ⟨u9_0, u9_1, u9_2, u9_3, o9_0, o9_1, o9_2, o9_3⟩ := bc4 (w := w7) BK133.out; obtain ⟨u10_0, u10_1, u10_2, u10_3, u10_4, u10_5, u10_6, o10_0, o10_1, o10_2, o10_3, o10_4, o10_5, o10_6⟩ := bc7 (w := w7) BK132.out) | (go_at_call 106; (with_reducible refine (x_coefs.calls _ _ l1_1 true _ (cS (Kd.C_below HR1_1.out HB.out)) HC1_1.out A4.out).mono ?_); rintro e w11 ⟨rfl, hb⟩; replace BK132 := Sd.mk (blk_below (bkA BK132.out) hb); replace BK133 := Sd.mk (blk_below (bkA BK133.out) hb); replace HB := Sd.mk (below_step (bBl HB.out) hb); (try clear hb); (try clear hb2); (try clear hk); (try clear hi)))
   go_ret
   exact ⟨tE, bBl HB.out⟩
  ·replace c5 := Bool.eq_false_iff.mpr c5
   subst c5
   have H1 : ((b_span.f a1_2 a1_3 (-10000) 10000).bind fun t135 => (if t135 = true then (some 0) else (some 1))) = some r := by rw [if_neg (show ¬ (false = true) by decide)] at H; exact H
   clear H; have H := H1; clear H1; replace H := Option.bind_eq_some_iff.mp H; obtain ⟨t135, A120, H⟩ := H
   try dsimp only at H
   have A12 := Sd.mk A120; clear A120
   by_cases c13 : t135 = true
   ·subst c13
    have H1 : (some 0) = some r := by rw [if_pos rfl] at H; exact H
    clear H; have H := H1; clear H1; obtain rfl := Option.some.inj H
    go_enter Tryz.func105, Tryz.ntmps105
    go_wp2_with (first | ((with_reducible refine gate_dst (N := 2) rfl ?_); refine box_event ?hg (N := 2) ?hd (cs := #[.slice A0_0 l0_0.length c0_0, .slice A0_1 l0_1.length c0_1, .slice A0_2 l0_2.length c0_2, .slice A0_3 l0_3.length c0_3, .int .i64 a0_4, .int .i64 a0_5, .int .i64 a0_6]) (t := 29) ?hr ?_; (case hd => rfl); (case hg => rfl); (case hr => exact tG); intro gb132 hg w14 hbox hb; have BK132 := Sd.mk (hbox); have GW132 := Sd.mk (bSz hg (bBl HB.out)); have GE132 := Sd.mk (bSz hg (bBl HB.out)); replace HB := Sd.mk (below_step (bBl HB.out) hb); clear hb hbox hg) | ((with_reducible refine gate_dst (N := 3) rfl ?_); refine box_event ?hg (N := 3) ?hd (cs := #[.string a1_0, .slice A1_1 l1_1.length c1_1, .int .i64 a1_2, .int .i64 a1_3]) (t := 89) ?hr ?_; (case hd => rfl); (case hg => rfl); (case hr => exact tG); intro gb133 hg w15 hbox hb; have BK133 := Sd.mk (hbox); have GW133 := Sd.mk (bSz hg (bBl HB.out)); have GE133 := Sd.mk (bSz hg (bBl HB.out)); replace HB := Sd.mk (below_step (bBl HB.out) hb); have NB132_133 := Sd.mk (bNl hg (bkA BK132.out)); have NB133_132 := Sd.mk (bNg hg (bkA BK132.out)); replace BK132 := Sd.mk (blk_below (bkA BK132.out) hb); clear hb hbox hg; have hnb16 := NB133_132.out; have hnc16 := NB132_133.out; obtain ⟨u17_0, u17_1, u17_2, u17_3, o17_0, o17_1, o17_2, o17_3⟩ := bc4 (w := w15) BK133.out; obtain ⟨u18_0, u18_1, u18_2, u18_3, u18_4, u18_5, u18_6, o18_0, o18_1, o18_2, o18_3, o18_4, o18_5, o18_6⟩ := bc7 (w := w15) BK132.out) | (go_at_call 106; (with_reducible refine (x_coefs.calls _ _ l1_1 false _ (cS (Kd.C_below HR1_1.out HB.out)) HC1_1.out A4.out).mono ?_); rintro e w19 ⟨rfl, hb⟩; replace BK132 := Sd.mk (blk_below (bkA BK132.out) hb); replace BK133 := Sd.mk (blk_below (bkA BK133.out) hb); replace HB := Sd.mk (below_step (bBl HB.out) hb); (try clear hb); (try clear hb2); (try clear hk); (try clear hi); obtain ⟨u20_0, u20_1, u20_2, u20_3, o20_0, o20_1, o20_2, o20_3⟩ := bc4 (w := w19) BK133.out) | (go_at_call 101; (with_reducible refine (b_span.calls a1_2 a1_3 (-10000) 10000 true _ A12.out).mono ?_); rintro e w21 ⟨rfl, hb⟩; replace BK132 := Sd.mk (blk_below (bkA BK132.out) hb); replace BK133 := Sd.mk (blk_below (bkA BK133.out) hb); replace HB := Sd.mk (below_step (bBl HB.out) hb); (try clear hb); (try clear hb2); (try clear hk); (try clear hi)))
    go_ret
    exact ⟨tE, bBl HB.out⟩
   ·replace c13 := Bool.eq_false_iff.mpr c13
    subst c13
    have H1 : (some 1) = some r := by rw [if_neg (show ¬ (false = true) by decide)] at H; exact H
    clear H; have H := H1; clear H1; obtain rfl := Option.some.inj H
    go_enter Tryz.func105, Tryz.ntmps105
    go_wp2_with (first | ((with_reducible refine gate_dst (N := 2) rfl ?_); refine box_event ?hg (N := 2) ?hd (cs := #[.slice A0_0 l0_0.length c0_0, .slice A0_1 l0_1.length c0_1, .slice A0_2 l0_2.length c0_2, .slice A0_3 l0_3.length c0_3, .int .i64 a0_4, .int .i64 a0_5, .int .i64 a0_6]) (t := 29) ?hr ?_; (case hd => rfl); (case hg => rfl); (case hr => exact tG); intro gb132 hg w22 hbox hb; have BK132 := Sd.mk (hbox); have GW132 := Sd.mk (bSz hg (bBl HB.out)); have GE132 := Sd.mk (bSz hg (bBl HB.out)); replace HB := Sd.mk (below_step (bBl HB.out) hb); clear hb hbox hg) | ((with_reducible refine gate_dst (N := 3) rfl ?_); refine box_event ?hg (N := 3) ?hd (cs := #[.string a1_0, .slice A1_1 l1_1.length c1_1, .int .i64 a1_2, .int .i64 a1_3]) (t := 89) ?hr ?_; (case hd => rfl); (case hg => rfl); (case hr => exact tG); intro gb133 hg w23 hbox hb; have BK133 := Sd.mk (hbox); have GW133 := Sd.mk (bSz hg (bBl HB.out)); have GE133 := Sd.mk (bSz hg (bBl HB.out)); replace HB := Sd.mk (below_step (bBl HB.out) hb); have NB132_133 := Sd.mk (bNl hg (bkA BK132.out)); have NB133_132 := Sd.mk (bNg hg (bkA BK132.out)); replace BK132 := Sd.mk (blk_below (bkA BK132.out) hb); clear hb hbox hg; have hnb24 := NB133_132.out; have hnc24 := NB132_133.out; obtain ⟨u25_0, u25_1, u25_2, u25_3, o25_0, o25_1, o25_2, o25_3⟩ := bc4 (w := w23) BK133.out; obtain ⟨u26_0, u26_1, u26_2, u26_3, u26_4, u26_5, u26_6, o26_0, o26_1, o26_2, o26_3, o26_4, o26_5, o26_6⟩ := bc7 (w := w23) BK132.out) | (go_at_call 106; (with_reducible refine (x_coefs.calls _ _ l1_1 false _ (cS (Kd.C_below HR1_1.out HB.out)) HC1_1.out A4.out).mono ?_); rintro e w27 ⟨rfl, hb⟩; replace BK132 := Sd.mk (blk_below (bkA BK132.out) hb); replace BK133 := Sd.mk (blk_below (bkA BK133.out) hb); replace HB := Sd.mk (below_step (bBl HB.out) hb); (try clear hb); (try clear hb2); (try clear hk); (try clear hi); obtain ⟨u28_0, u28_1, u28_2, u28_3, o28_0, o28_1, o28_2, o28_3⟩ := bc4 (w := w27) BK133.out) | (go_at_call 101; (with_reducible refine (b_span.calls a1_2 a1_3 (-10000) 10000 false _ A12.out).mono ?_); rintro e w29 ⟨rfl, hb⟩; replace BK132 := Sd.mk (blk_below (bkA BK132.out) hb); replace BK133 := Sd.mk (blk_below (bkA BK133.out) hb); replace HB := Sd.mk (below_step (bBl HB.out) hb); (try clear hb); (try clear hb2); (try clear hk); (try clear hi)))
    go_ret
    exact ⟨tE, bBl HB.out⟩
 ·rw [if_neg c3] at H
  have c3b0 : ((l1_1.length : Int) == (l0_0.length : Int)) = false := beq_eq_false_iff_ne.mpr c3
  have c3b1 : ((l1_1.length : Int) != (l0_0.length : Int)) = true := bne_iff_ne.mpr c3
  have c3b2 : (l1_1.length == l0_0.length) = false := by first | simpa using c3 | (simp at c3 ⊢; omega)
  obtain rfl := Option.some.inj H
  go_enter Tryz.func105, Tryz.ntmps105
  go_wp2_with (first | ((with_reducible refine gate_dst (N := 2) rfl ?_); refine box_event ?hg (N := 2) ?hd (cs := #[.slice A0_0 l0_0.length c0_0, .slice A0_1 l0_1.length c0_1, .slice A0_2 l0_2.length c0_2, .slice A0_3 l0_3.length c0_3, .int .i64 a0_4, .int .i64 a0_5, .int .i64 a0_6]) (t := 29) ?hr ?_; (case hd => rfl); (case hg => rfl); (case hr => exact tG); intro gb132 hg w30 hbox hb; have BK132 := Sd.mk (hbox); have GW132 := Sd.mk (bSz hg (bBl HB.out)); have GE132 := Sd.mk (bSz hg (bBl HB.out)); replace HB := Sd.mk (below_step (bBl HB.out) hb); clear hb hbox hg) | ((with_reducible refine gate_dst (N := 3) rfl ?_); refine box_event ?hg (N := 3) ?hd (cs := #[.string a1_0, .slice A1_1 l1_1.length c1_1, .int .i64 a1_2, .int .i64 a1_3]) (t := 89) ?hr ?_; (case hd => rfl); (case hg => rfl); (case hr => exact tG); intro gb133 hg w31 hbox hb; have BK133 := Sd.mk (hbox); have GW133 := Sd.mk (bSz hg (bBl HB.out)); have GE133 := Sd.mk (bSz hg (bBl HB.out)); replace HB := Sd.mk (below_step (bBl HB.out) hb); have NB132_133 := Sd.mk (bNl hg (bkA BK132.out)); have NB133_132 := Sd.mk (bNg hg (bkA BK132.out)); replace BK132 := Sd.mk (blk_below (bkA BK132.out) hb); clear hb hbox hg; have hnb32 := NB133_132.out; have hnc32 := NB132_133.out; obtain ⟨u33_0, u33_1, u33_2, u33_3, o33_0, o33_1, o33_2, o33_3⟩ := bc4 (w := w31) BK133.out; obtain ⟨u34_0, u34_1, u34_2, u34_3, u34_4, u34_5, u34_6, o34_0, o34_1, o34_2, o34_3, o34_4, o34_5, o34_6⟩ := bc7 (w := w31) BK132.out))
  go_ret
  exact ⟨tE, bBl HB.out⟩
end
section
mutual
def b_Check.j0 : Nat → Bool → List ByteArray → List (S70) → List (S27) → List (S89) → Int → Int → Int → Option (Int)
 | 0, _, _, _, _, _, _, _, _ => none
 | k + 1, x29, x137q0, x137q1, x137q2, x137q3, x137q4, x137q5, x137q6 => if x29 = true then (some 1) else (if (x137q3.length : Int) > 6 then (some 3) else (b_Check.l0 k x137q3 (x137q3.length : Int) 0 x137q0 x137q1 x137q2 x137q3 x137q4 x137q5 x137q6))
def b_Check.l0 : Nat → List (S89) → Int → Int → List ByteArray → List (S70) → List (S27) → List (S89) → Int → Int → Int → Option (Int)
 | 0, _, _, _, _, _, _, _, _, _, _ => none
 | k + 1, x35, x36, x37, x137q0, x137q1, x137q2, x137q3, x137q4, x137q5, x137q6 => if x37 < x36 then (if 0 ≤ x37 then (if x37 < (x35.length : Int) then ((b_name.f k ((rd_T89 x35 x37).f0)).bind fun t142 => (if t142 = true then ((x_twiceP.f x137q3 x37).bind fun t143 => (if t143 = true then (some 6) else ((b_checkProperty.f x137q0 x137q1 x137q2 x137q3 x137q4 x137q5 x137q6 ((rd_T89 x35 x37).f0) ((rd_T89 x35 x37).f1) ((rd_T89 x35 x37).f2.f0) ((rd_T89 x35 x37).f2.f1)).bind fun t144 => (if t144 = 0 then (b_Check.l0 k x35 x36 (wrap64 (x37 + 1)) x137q0 x137q1 x137q2 x137q3 x137q4 x137q5 x137q6) else (some t144))))) else (some 5))) else (none)) else (none)) else ((b_span.f x137q4 x137q5 (-10000) 10000).bind fun t145 => (if t145 = true then ((b_within.f x137q6 1 10000).bind fun t146 => (if t146 = true then (some 0) else (some 1))) else (some 1)))
end
def b_Check.f (k : Nat) (l0_0 : List ByteArray) (l0_1 : List (S70)) (l0_2 : List (S27)) (l0_3 : List (S89)) (a0_4 : Int) (a0_5 : Int) (a0_6 : Int) : Option (Int) := (b_checkOxides.f k l0_0 l0_1 l0_2 l0_3 a0_4 a0_5 a0_6).bind fun t137 => (if t137 = 0 then ((b_checkMaterials.f k l0_0 l0_1 l0_2 l0_3 a0_4 a0_5 a0_6).bind fun t138 => (if t138 = 0 then (if (l0_2.length : Int) = (l0_0.length : Int) then ((x_spans.f l0_2).bind fun t139 => (b_Check.j0 k t139 l0_0 l0_1 l0_2 l0_3 a0_4 a0_5 a0_6)) else (b_Check.j0 k true l0_0 l0_1 l0_2 l0_3 a0_4 a0_5 a0_6)) else (some t138))) else (some t137))
theorem b_Check.calls (k : Nat) (A0_0 : Option Addr) (c0_0 : Nat) (l0_0 : List ByteArray) (A0_1 : Option Addr) (c0_1 : Nat) (l0_1 : List (S70)) (A0_2 : Option Addr) (c0_2 : Nat) (l0_2 : List (S27)) (A0_3 : Option Addr) (c0_3 : Nat) (l0_3 : List (S89)) (a0_4 : Int) (a0_5 : Int) (a0_6 : Int) (r : Int) (w : World) (hr0_0 : Kd.C Kd.string w A0_0 l0_0.length l0_0) (hc0_0 : l0_0.length ≤ c0_0) (hr0_1 : Kd.C k70 w A0_1 l0_1.length l0_1) (hc0_1 : l0_1.length ≤ c0_1) (hr0_2 : Kd.C k27 w A0_2 l0_2.length l0_2) (hc0_2 : l0_2.length ≤ c0_2) (hr0_3 : Kd.C k89 w A0_3 l0_3.length l0_3) (hc0_3 : l0_3.length ≤ c0_3) (h : b_Check.f k l0_0 l0_1 l0_2 l0_3 a0_4 a0_5 a0_6 = some r) :
  Calls Tryz.prog 34 #[.agg #[.slice A0_0 l0_0.length c0_0, .slice A0_1 l0_1.length c0_1, .slice A0_2 l0_2.length c0_2, .slice A0_3 l0_3.length c0_3, .int .i64 a0_4, .int .i64 a0_5, .int .i64 a0_6]] w fun e w' => e = .returned (.int .i64 r) ∧ Below w.heap.size w w' := by
 have hu29 := Tryz.underlying29; have hu89 := Tryz.underlying89; have hu27 := Tryz.underlying27; have HR0_0 := Sd.mk hr0_0; have HC0_0 := Sd.mk hc0_0; clear hr0_0 hc0_0; have HR0_1 := Sd.mk hr0_1; have HC0_1 := Sd.mk hc0_1; clear hr0_1 hc0_1; have HR0_2 := Sd.mk hr0_2; have HC0_2 := Sd.mk hc0_2; clear hr0_2 hc0_2; have HR0_3 := Sd.mk hr0_3; have HC0_3 := Sd.mk hc0_3; clear hr0_3 hc0_3; have HB := Sd.mk (Below.refl w.heap.size w)
 have H : ((b_checkOxides.f k l0_0 l0_1 l0_2 l0_3 a0_4 a0_5 a0_6).bind fun t137 => (if t137 = 0 then ((b_checkMaterials.f k l0_0 l0_1 l0_2 l0_3 a0_4 a0_5 a0_6).bind fun t138 => (if t138 = 0 then (if (l0_2.length : Int) = (l0_0.length : Int) then ((x_spans.f l0_2).bind fun t139 => (b_Check.j0 k t139 l0_0 l0_1 l0_2 l0_3 a0_4 a0_5 a0_6)) else (b_Check.j0 k true l0_0 l0_1 l0_2 l0_3 a0_4 a0_5 a0_6)) else (some t138))) else (some t137))) = some r := h
 clear h; replace H := Option.bind_eq_some_iff.mp H; obtain ⟨t137, A20, H⟩ := H
 try dsimp only at H
 have A2 := Sd.mk A20; clear A20
 by_cases c3 : t137 = 0
 ·rw [if_pos c3] at H
  have c3b0 : (t137 == 0) = true := beq_iff_eq.mpr c3
  have c3b1 : (t137 != 0) = false := bne_eq_false_iff_eq.mpr c3
  clear c3; replace H := Option.bind_eq_some_iff.mp H; obtain ⟨t138, A40, H⟩ := H
  try dsimp only at H
  have A4 := Sd.mk A40; clear A40
  by_cases c5 : t138 = 0
  ·rw [if_pos c5] at H
   have c5b0 : (t138 == 0) = true := beq_iff_eq.mpr c5
   have c5b1 : (t138 != 0) = false := bne_eq_false_iff_eq.mpr c5
   clear c5; have HC6 := Sd.mk H; clear H
   go_enter Tryz.func34, Tryz.ntmps34
   go_upto_region 7 with (first | ((with_reducible refine gate_dst (N := 1) rfl ?_); refine box_event ?hg (N := 1) ?hd (cs := #[.slice A0_0 l0_0.length c0_0, .slice A0_1 l0_1.length c0_1, .slice A0_2 l0_2.length c0_2, .slice A0_3 l0_3.length c0_3, .int .i64 a0_4, .int .i64 a0_5, .int .i64 a0_6]) (t := 29) ?hr ?_; (case hd => rfl); (case hg => rfl); (case hr => exact tG); intro gb136 hg w7 hbox hb; have BK136 := Sd.mk (hbox); have GW136 := Sd.mk (bSz hg (bBl HB.out)); have GE136 := Sd.mk (bSz hg (bBl HB.out)); replace HB := Sd.mk (below_step (bBl HB.out) hb); clear hb hbox hg; obtain ⟨u8_0, u8_1, u8_2, u8_3, u8_4, u8_5, u8_6, o8_0, o8_1, o8_2, o8_3, o8_4, o8_5, o8_6⟩ := bc7 (w := w7) BK136.out) | ((with_reducible refine gate_callee (f := 97) rfl ?_); refine goesL_ (some 9) rfl rfl Tryz.func97 (by kernel_rfl) rfl #[.agg #[.slice A0_0 l0_0.length c0_0, .slice A0_1 l0_1.length c0_1, .slice A0_2 l0_2.length c0_2, .slice A0_3 l0_3.length c0_3, .int .i64 a0_4, .int .i64 a0_5, .int .i64 a0_6]] rfl tM ?_; (with_reducible refine (b_checkOxides.calls k _ _ l0_0 _ _ l0_1 _ _ l0_2 _ _ l0_3 a0_4 a0_5 a0_6 t137 _ (cS (Kd.C_below HR0_0.out HB.out)) HC0_0.out (cS (Kd.C_below HR0_1.out HB.out)) HC0_1.out (cS (Kd.C_below HR0_2.out HB.out)) HC0_2.out (cS (Kd.C_below HR0_3.out HB.out)) HC0_3.out A2.out).mono ?_); rintro e w9 ⟨rfl, hb⟩; refine ⟨_, rfl, ?_⟩; replace BK136 := Sd.mk (blk_below (bkA BK136.out) hb); replace HB := Sd.mk (below_step (bBl HB.out) hb); (try clear hb); (try clear hb2); (try clear hk); (try clear hi); obtain ⟨u10_0, u10_1, u10_2, u10_3, u10_4, u10_5, u10_6, o10_0, o10_1, o10_2, o10_3, o10_4, o10_5, o10_6⟩ := bc7 (w := w9) BK136.out) | ((with_reducible refine gate_callee (f := 98) rfl ?_); refine goesL_ (some 14) rfl rfl Tryz.func98 (by kernel_rfl) rfl #[.agg #[.slice A0_0 l0_0.length c0_0, .slice A0_1 l0_1.length c0_1, .slice A0_2 l0_2.length c0_2, .slice A0_3 l0_3.length c0_3, .int .i64 a0_4, .int .i64 a0_5, .int .i64 a0_6]] rfl tM ?_; (with_reducible refine (b_checkMaterials.calls k _ _ l0_0 _ _ l0_1 _ _ l0_2 _ _ l0_3 a0_4 a0_5 a0_6 t138 _ (cS (Kd.C_below HR0_0.out HB.out)) HC0_0.out (cS (Kd.C_below HR0_1.out HB.out)) HC0_1.out (cS (Kd.C_below HR0_2.out HB.out)) HC0_2.out (cS (Kd.C_below HR0_3.out HB.out)) HC0_3.out A4.out).mono ?_); rintro e w11 ⟨rfl, hb⟩; refine ⟨_, rfl, ?_⟩; replace BK136 := Sd.mk (blk_below (bkA BK136.out) hb); replace HB := Sd.mk (below_step (bBl HB.out) hb); (try clear hb); (try clear hb2); (try clear hk); (try clear hi)))
   (try simp only [Act.put, List.setIfInBounds_toArray, List.set_cons_zero, List.set_cons_succ])
   go_cut [29] (fun v29 wc => ∃ (kq : Nat) (x29_5 : Bool), v29 = .bool x29_5 ∧ Sd (b_Check.j0 kq x29_5 l0_0 l0_1 l0_2 l0_3 a0_4 a0_5 a0_6 = some r) ∧ Sd (kq ≤ k) ∧ Sd (wc.heap[gb136]? = some (.cells #[(.slice A0_0 l0_0.length c0_0), (.slice A0_1 l0_1.length c0_1), (.slice A0_2 l0_2.length c0_2), (.slice A0_3 l0_3.length c0_3), .int .i64 a0_4, .int .i64 a0_5, .int .i64 a0_6] 29 (0, 0))) ∧ Sd (Below w.heap.size w wc))
   case first =>
    have H := HC6.out; clear HC6
    by_cases c12 : (l0_2.length : Int) = (l0_0.length : Int)
    ·rw [if_pos c12] at H
     have c12b0 : ((l0_2.length : Int) == (l0_0.length : Int)) = true := beq_iff_eq.mpr c12
     have c12b1 : ((l0_2.length : Int) != (l0_0.length : Int)) = false := bne_eq_false_iff_eq.mpr c12
     have c12b2 : (l0_2.length == l0_0.length) = true := by first | simpa using c12 | (simp at c12 ⊢; omega)
     clear c12
     (first | rw [c12b0] | (simp only [i64_w, i32_w]; rw [c12b0]) | skip)
     replace H := Option.bind_eq_some_iff.mp H; obtain ⟨t139, A130, H⟩ := H
     try dsimp only at H
     have A13 := Sd.mk A130; clear A130; have H' := Sd.mk H; clear H; obtain ⟨u14_0, u14_1, u14_2, u14_3, u14_4, u14_5, u14_6, o14_0, o14_1, o14_2, o14_3, o14_4, o14_5, o14_6⟩ := bc7 (w := w11) BK136.out
     go_wp2_with (first | (go_at_call 99; (with_reducible refine (x_spans.calls _ _ l0_2 t139 _ (cS (Kd.C_below HR0_2.out HB.out)) HC0_2.out A13.out).mono ?_); rintro e w15 ⟨rfl, hb⟩; replace BK136 := Sd.mk (blk_below (bkA BK136.out) hb); replace HB := Sd.mk (below_step (bBl HB.out) hb); (try clear hb); (try clear hb2); (try clear hk); (try clear hi)))
     go_meet
     case rel => exact ⟨_, (t139), tS, H', ⟨by first | omega | exact Nat.le_refl _⟩, ⟨bkA BK136.out⟩, ⟨bBl HB.out⟩⟩
    ·rw [if_neg c12] at H
     have c12b0 : ((l0_2.length : Int) == (l0_0.length : Int)) = false := beq_eq_false_iff_ne.mpr c12
     have c12b1 : ((l0_2.length : Int) != (l0_0.length : Int)) = true := bne_iff_ne.mpr c12
     have c12b2 : (l0_2.length == l0_0.length) = false := by first | simpa using c12 | (simp at c12 ⊢; omega)
     (first | rw [c12b0] | (simp only [i64_w, i32_w]; rw [c12b0]) | skip)
     have H' := Sd.mk H; clear H; obtain ⟨u16_0, u16_1, u16_2, u16_3, u16_4, u16_5, u16_6, o16_0, o16_1, o16_2, o16_3, o16_4, o16_5, o16_6⟩ := bc7 (w := w11) BK136.out
     go_wp2
     go_meet
     case rel => exact ⟨_, (true), tS, H', ⟨by first | omega | exact Nat.le_refl _⟩, ⟨bkA BK136.out⟩, ⟨bBl HB.out⟩⟩
   case rest =>
    clear HC6; (try clear c1); (try clear p2); (try clear c3); (try clear c3b0); (try clear c3b1); (try clear c5); (try clear c5b0); (try clear c5b1); (try clear c9); (try clear c12); (try clear c12b0); (try clear c12b1); (try clear c12b2); (try clear u10_0 u10_1 u10_2 u10_3 u10_4 u10_5 u10_6); (try clear u14_0 u14_1 u14_2 u14_3 u14_4 u14_5 u14_6); (try clear u16_0 u16_1 u16_2 u16_3 u16_4 u16_5 u16_6); (try clear u8_0 u8_1 u8_2 u8_3 u8_4 u8_5 u8_6); (try clear o10_0 o10_1 o10_2 o10_3 o10_4 o10_5 o10_6); (try clear o14_0 o14_1 o14_2 o14_3 o14_4 o14_5 o14_6); (try clear o16_0 o16_1 o16_2 o16_3 o16_4 o16_5 o16_6); (try clear o8_0 o8_1 o8_2 o8_3 o8_4 o8_5 o8_6); obtain ⟨kq, x29_5, rfl, HA, HJ5, BK136, HB⟩ := hcut
    cases kq with
    | zero => exact absurd HA.out (by simp [b_Check.j0])
    | succ kj5 =>
     have H := HA.out; clear HA
     simp only [b_Check.j0] at H
     by_cases c17 : x29_5 = true
     ·subst c17
      have H1 : (some 1) = some r := by rw [if_pos rfl] at H; exact H
      clear H; have H := H1; clear H1; obtain rfl := Option.some.inj H
      go_wp2
      go_ret
      exact ⟨tE, bBl HB.out⟩
     ·replace c17 := Bool.eq_false_iff.mpr c17
      subst c17
      have H1 : (if (l0_3.length : Int) > 6 then (some 3) else (b_Check.l0 kj5 l0_3 (l0_3.length : Int) 0 l0_0 l0_1 l0_2 l0_3 a0_4 a0_5 a0_6)) = some r := by rw [if_neg (show ¬ (false = true) by decide)] at H; exact H
      clear H; have H := H1; clear H1
      by_cases c18 : (l0_3.length : Int) > 6
      ·rw [if_pos c18] at H
       have c18b0 : decide (6 < (l0_3.length : Int)) = true := decide_eq_true c18
       have c18b1 : decide (6 < l0_3.length) = true := decide_eq_true (by omega)
       clear c18; obtain rfl := Option.some.inj H; obtain ⟨u19_0, u19_1, u19_2, u19_3, u19_4, u19_5, u19_6, o19_0, o19_1, o19_2, o19_3, o19_4, o19_5, o19_6⟩ := bc7 (w := wc) BK136.out
       go_wp2
       go_ret
       exact ⟨tE, bBl HB.out⟩
      ·rw [if_neg c18] at H
       have c18b0 : decide (6 < (l0_3.length : Int)) = false := decide_eq_false c18
       have c18b1 : decide (6 < l0_3.length) = false := decide_eq_false (by omega)
       clear c18; have H' := Sd.mk H; clear H; obtain ⟨u20_0, u20_1, u20_2, u20_3, u20_4, u20_5, u20_6, o20_0, o20_1, o20_2, o20_3, o20_4, o20_5, o20_6⟩ := bc7 (w := wc) BK136.out
       go_wp2
       go_loopg [37] kj5 (fun kq v37 w' => ∃ (x37_2 : Int), v37 = .int .i64 x37_2 ∧ Sd (b_Check.l0 kq l0_3 (l0_3.length : Int) x37_2 l0_0 l0_1 l0_2 l0_3 a0_4 a0_5 a0_6 = some r) ∧ Sd (kq ≤ kj5) ∧ Sd (w'.heap[gb136]? = some (.cells #[(.slice A0_0 l0_0.length c0_0), (.slice A0_1 l0_1.length c0_1), (.slice A0_2 l0_2.length c0_2), (.slice A0_3 l0_3.length c0_3), .int .i64 a0_4, .int .i64 a0_5, .int .i64 a0_6] 29 (0, 0))) ∧ Sd (Below w.heap.size w w'))
       case atStart => exact ⟨(0), tS, H', ⟨Nat.le_refl _⟩, ⟨bkA BK136.out⟩, ⟨bBl HB.out⟩⟩
       case round =>
        clear H'; (try clear c1); (try clear p2 p2); (try clear c3); (try clear c3b0); (try clear c3b1); (try clear c5); (try clear c5b0); (try clear c5b1); (try clear c9); (try clear c12); (try clear c12b0); (try clear c12b1); (try clear c12b2); (try clear c17); (try clear c18); (try clear c18b0); (try clear c18b1); (try clear u10_0 u10_1 u10_2 u10_3 u10_4 u10_5 u10_6); (try clear u14_0 u14_1 u14_2 u14_3 u14_4 u14_5 u14_6); (try clear u16_0 u16_1 u16_2 u16_3 u16_4 u16_5 u16_6); (try clear u19_0 u19_1 u19_2 u19_3 u19_4 u19_5 u19_6); (try clear u20_0 u20_1 u20_2 u20_3 u20_4 u20_5 u20_6); (try clear u8_0 u8_1 u8_2 u8_3 u8_4 u8_5 u8_6); (try clear o10_0 o10_1 o10_2 o10_3 o10_4 o10_5 o10_6); (try clear o14_0 o14_1 o14_2 o14_3 o14_4 o14_5 o14_6); (try clear o16_0 o16_1 o16_2 o16_3 o16_4 o16_5 o16_6); (try clear o19_0 o19_1 o19_2 o19_3 o19_4 o19_5 o19_6); (try clear o20_0 o20_1 o20_2 o20_3 o20_4 o20_5 o20_6); (try clear o8_0 o8_1 o8_2 o8_3 o8_4 o8_5 o8_6); obtain ⟨x37_2, rfl, HA, HK2, BK136, HB⟩ := hrel
        cases gk with
        | zero => exact absurd HA.out (by simp [b_Check.l0])
        | succ k2 =>
         have H := HA.out; clear HA
         simp only [b_Check.l0] at H
         by_cases c21 : x37_2 < (l0_3.length : Int)
         ·rw [if_pos c21] at H
          have c21b0 : decide (x37_2 < (l0_3.length : Int)) = true := decide_eq_true c21
          clear c21
          by_cases c22 : 0 ≤ x37_2
          ·rw [if_pos c22] at H
           have c22b0 : decide (0 ≤ x37_2) = true := decide_eq_true c22
           clear c22
           by_cases c23 : x37_2 < (l0_3.length : Int)
           ·rw [if_pos c23] at H
            have c23b0 : decide (x37_2 < (l0_3.length : Int)) = true := decide_eq_true c23
            clear c23; replace H := Option.bind_eq_some_iff.mp H; obtain ⟨t142, A240, H⟩ := H
            try dsimp only at H
            have A24 := Sd.mk A240; clear A240
            by_cases c25 : t142 = true
            ·subst c25
             have H1 : ((x_twiceP.f l0_3 x37_2).bind fun t143 => (if t143 = true then (some 6) else ((b_checkProperty.f l0_0 l0_1 l0_2 l0_3 a0_4 a0_5 a0_6 ((rd_T89 l0_3 x37_2).f0) ((rd_T89 l0_3 x37_2).f1) ((rd_T89 l0_3 x37_2).f2.f0) ((rd_T89 l0_3 x37_2).f2.f1)).bind fun t144 => (if t144 = 0 then (b_Check.l0 k2 l0_3 (l0_3.length : Int) (wrap64 (x37_2 + 1)) l0_0 l0_1 l0_2 l0_3 a0_4 a0_5 a0_6) else (some t144))))) = some r := by rw [if_pos rfl] at H; exact H
             clear H; have H := H1; clear H1; replace H := Option.bind_eq_some_iff.mp H; obtain ⟨t143, A260, H⟩ := H
             try dsimp only at H
             have A26 := Sd.mk A260; clear A260
             by_cases c27 : t143 = true
             ·subst c27
              have H1 : (some 6) = some r := by rw [if_pos rfl] at H; exact H
              clear H; have H := H1; clear H1; obtain rfl := Option.some.inj H
              have p140 : 0 ≤ (x37_2 : Int) := tB
              have q140 : x37_2 < (l0_3.length : Int) := tB
              obtain ⟨ad140, A140_1, c140_1, e140, hx140_0, hx140_1, hx140_2, hx140_3, hl140_1, hi140_1⟩ := at_T89 HR0_3.out x37_2 p140 q140; cases e140; replace hx140_0 := cU HB hx140_0; replace hx140_1 := cU HB hx140_1; replace hx140_2 := cU HB hx140_2; replace hx140_3 := cU HB hx140_3; have HR140_1 := Sd.mk hi140_1; have HC140_1 := Sd.mk hl140_1; clear hi140_1 hl140_1; replace p140 := eq_true p140; replace q140 := eq_true q140
              go_wp2_with (first | ((with_reducible refine gate_dst (N := 6) rfl ?_); refine box_event ?hg (N := 6) ?hd (cs := #[.string (⟨#[]⟩ : ByteArray), .slice none 0 0, .int .i64 0, .int .i64 0]) (t := 89) ?hr ?_; (case hd => rfl); (case hg => rfl); (case hr => exact tG); intro gb141 hg w28 hbox hb; have BK141 := Sd.mk (hbox); have GW141 := Sd.mk (bSz hg (bBl HB.out)); have GE141 := Sd.mk (bSz hg (bBl HB.out)); replace HB := Sd.mk (below_step (bBl HB.out) hb); have NB136_141 := Sd.mk (bNl hg (bkA BK136.out)); have NB141_136 := Sd.mk (bNg hg (bkA BK136.out)); replace BK136 := Sd.mk (blk_below (bkA BK136.out) hb); clear hb hbox hg; have hnb29 := NB141_136.out; have hnc29 := NB136_141.out; obtain ⟨u30_0, u30_1, u30_2, u30_3, o30_0, o30_1, o30_2, o30_3⟩ := bc4 (w := w28) BK141.out) | ((with_reducible refine gate_callee (f := 102) rfl ?_); refine goesL_ (some 45) rfl rfl Tryz.func102 (by kernel_rfl) rfl #[.string ((rd_T89 l0_3 x37_2).f0)] rfl tM ?_; (with_reducible refine (b_name.calls k2 ((rd_T89 l0_3 x37_2).f0) true _ A24.out).mono ?_); rintro e w' ⟨rfl, ⟨nd, rfl⟩⟩; refine ⟨_, rfl, ?_⟩; obtain ⟨u31_0, u31_1, u31_2, u31_3, u31_4, u31_5, u31_6, o31_0, o31_1, o31_2, o31_3, o31_4, o31_5, o31_6⟩ := bc7 (w := w28) BK136.out) | ((with_reducible refine gate_callee (f := 103) rfl ?_); refine goesL_ (some 51) rfl rfl Tryz.func103 (by kernel_rfl) rfl #[.slice (some ad140) l0_3.length c0_3, .int .i64 x37_2, .func (.func 104) #[] #[]] rfl tM ?_; (with_reducible refine (x_twiceP.calls _ _ l0_3 x37_2 true _ (Kd.C_below HR0_3.out (bBl HB.out)) HC0_3.out A26.out).mono ?_); rintro e w32 ⟨rfl, hb⟩; refine ⟨_, rfl, ?_⟩; replace BK136 := Sd.mk (blk_below (g := gb136) (o := .cells #[.slice A0_0 l0_0.length c0_0, .slice A0_1 l0_1.length c0_1, .slice A0_2 l0_2.length c0_2, .slice (some ad140) l0_3.length c0_3, .int .i64 a0_4, .int .i64 a0_5, .int .i64 a0_6] 29 (0, 0)) (by refine bkZ ?_; refine blk_far ?_ NB136_141.out _; refine bkZ ?_; refine blk_far ?_ NB136_141.out _; refine bkZ ?_; refine blk_far ?_ NB136_141.out _; refine bkZ ?_; refine blk_far ?_ NB136_141.out _; refine bkZ ?_; exact BK136.out) hb); replace BK141 := Sd.mk (blk_below (g := gb141) (o := .cells #[.string ((rd_T89 l0_3 x37_2).f0), .slice A140_1 ((rd_T89 l0_3 x37_2).f1).length c140_1, .int .i64 ((rd_T89 l0_3 x37_2).f2.f0), .int .i64 ((rd_T89 l0_3 x37_2).f2.f1)] 89 (0, 0)) (by refine bkZ ?_; refine blk_put (cs := #[.string ((rd_T89 l0_3 x37_2).f0), .slice A140_1 ((rd_T89 l0_3 x37_2).f1).length c140_1, .int .i64 ((rd_T89 l0_3 x37_2).f2.f0), .int .i64 0]) ?_ 3 _ rfl; refine bkZ ?_; refine blk_put (cs := #[.string ((rd_T89 l0_3 x37_2).f0), .slice A140_1 ((rd_T89 l0_3 x37_2).f1).length c140_1, .int .i64 0, .int .i64 0]) ?_ 2 _ rfl; refine bkZ ?_; refine blk_put (cs := #[.string ((rd_T89 l0_3 x37_2).f0), .slice none 0 0, .int .i64 0, .int .i64 0]) ?_ 1 _ rfl; refine bkZ ?_; refine blk_put (cs := #[.string (⟨#[]⟩ : ByteArray), .slice none 0 0, .int .i64 0, .int .i64 0]) ?_ 0 _ rfl; refine bkZ ?_; exact BK141.out) hb); replace HB := Sd.mk (below_step (bBl HB.out) hb); (try clear hb); (try clear hb2); (try clear hk); (try clear hi)))
              go_ret
              exact ⟨tE, bBl HB.out⟩
             ·replace c27 := Bool.eq_false_iff.mpr c27
              subst c27
              have H1 : ((b_checkProperty.f l0_0 l0_1 l0_2 l0_3 a0_4 a0_5 a0_6 ((rd_T89 l0_3 x37_2).f0) ((rd_T89 l0_3 x37_2).f1) ((rd_T89 l0_3 x37_2).f2.f0) ((rd_T89 l0_3 x37_2).f2.f1)).bind fun t144 => (if t144 = 0 then (b_Check.l0 k2 l0_3 (l0_3.length : Int) (wrap64 (x37_2 + 1)) l0_0 l0_1 l0_2 l0_3 a0_4 a0_5 a0_6) else (some t144))) = some r := by rw [if_neg (show ¬ (false = true) by decide)] at H; exact H
              clear H; have H := H1; clear H1; replace H := Option.bind_eq_some_iff.mp H; obtain ⟨t144, A330, H⟩ := H
              try dsimp only at H
              have A33 := Sd.mk A330; clear A330
              by_cases c34 : t144 = 0
              ·rw [if_pos c34] at H
               have c34b0 : (t144 == 0) = true := beq_iff_eq.mpr c34
               have c34b1 : (t144 != 0) = false := bne_eq_false_iff_eq.mpr c34
               clear c34; have H' := Sd.mk H; clear H
               have p140 : 0 ≤ (x37_2 : Int) := tB
               have q140 : x37_2 < (l0_3.length : Int) := tB
               obtain ⟨ad140, A140_1, c140_1, e140, hx140_0, hx140_1, hx140_2, hx140_3, hl140_1, hi140_1⟩ := at_T89 HR0_3.out x37_2 p140 q140; cases e140; replace hx140_0 := cU HB hx140_0; replace hx140_1 := cU HB hx140_1; replace hx140_2 := cU HB hx140_2; replace hx140_3 := cU HB hx140_3; have HR140_1 := Sd.mk hi140_1; have HC140_1 := Sd.mk hl140_1; clear hi140_1 hl140_1; replace p140 := eq_true p140; replace q140 := eq_true q140
               go_wp2_with (first | ((with_reducible refine gate_dst (N := 6) rfl ?_); refine box_event ?hg (N := 6) ?hd (cs := #[.string (⟨#[]⟩ : ByteArray), .slice none 0 0, .int .i64 0, .int .i64 0]) (t := 89) ?hr ?_; (case hd => rfl); (case hg => rfl); (case hr => exact tG); intro gb141 hg w35 hbox hb; have BK141 := Sd.mk (hbox); have GW141 := Sd.mk (bSz hg (bBl HB.out)); have GE141 := Sd.mk (bSz hg (bBl HB.out)); replace HB := Sd.mk (below_step (bBl HB.out) hb); have NB136_141 := Sd.mk (bNl hg (bkA BK136.out)); have NB141_136 := Sd.mk (bNg hg (bkA BK136.out)); replace BK136 := Sd.mk (blk_below (bkA BK136.out) hb); clear hb hbox hg; have hnb36 := NB141_136.out; have hnc36 := NB136_141.out; obtain ⟨u37_0, u37_1, u37_2, u37_3, o37_0, o37_1, o37_2, o37_3⟩ := bc4 (w := w35) BK141.out) | ((with_reducible refine gate_callee (f := 102) rfl ?_); refine goesL_ (some 45) rfl rfl Tryz.func102 (by kernel_rfl) rfl #[.string ((rd_T89 l0_3 x37_2).f0)] rfl tM ?_; (with_reducible refine (b_name.calls k2 ((rd_T89 l0_3 x37_2).f0) true _ A24.out).mono ?_); rintro e w' ⟨rfl, ⟨nd, rfl⟩⟩; refine ⟨_, rfl, ?_⟩; obtain ⟨u38_0, u38_1, u38_2, u38_3, u38_4, u38_5, u38_6, o38_0, o38_1, o38_2, o38_3, o38_4, o38_5, o38_6⟩ := bc7 (w := w35) BK136.out) | ((with_reducible refine gate_callee (f := 103) rfl ?_); refine goesL_ (some 51) rfl rfl Tryz.func103 (by kernel_rfl) rfl #[.slice (some ad140) l0_3.length c0_3, .int .i64 x37_2, .func (.func 104) #[] #[]] rfl tM ?_; (with_reducible refine (x_twiceP.calls _ _ l0_3 x37_2 false _ (Kd.C_below HR0_3.out (bBl HB.out)) HC0_3.out A26.out).mono ?_); rintro e w39 ⟨rfl, hb⟩; refine ⟨_, rfl, ?_⟩; replace BK136 := Sd.mk (blk_below (g := gb136) (o := .cells #[.slice A0_0 l0_0.length c0_0, .slice A0_1 l0_1.length c0_1, .slice A0_2 l0_2.length c0_2, .slice (some ad140) l0_3.length c0_3, .int .i64 a0_4, .int .i64 a0_5, .int .i64 a0_6] 29 (0, 0)) (by refine bkZ ?_; refine blk_far ?_ NB136_141.out _; refine bkZ ?_; refine blk_far ?_ NB136_141.out _; refine bkZ ?_; refine blk_far ?_ NB136_141.out _; refine bkZ ?_; refine blk_far ?_ NB136_141.out _; refine bkZ ?_; exact BK136.out) hb); replace BK141 := Sd.mk (blk_below (g := gb141) (o := .cells #[.string ((rd_T89 l0_3 x37_2).f0), .slice A140_1 ((rd_T89 l0_3 x37_2).f1).length c140_1, .int .i64 ((rd_T89 l0_3 x37_2).f2.f0), .int .i64 ((rd_T89 l0_3 x37_2).f2.f1)] 89 (0, 0)) (by refine bkZ ?_; refine blk_put (cs := #[.string ((rd_T89 l0_3 x37_2).f0), .slice A140_1 ((rd_T89 l0_3 x37_2).f1).length c140_1, .int .i64 ((rd_T89 l0_3 x37_2).f2.f0), .int .i64 0]) ?_ 3 _ rfl; refine bkZ ?_; refine blk_put (cs := #[.string ((rd_T89 l0_3 x37_2).f0), .slice A140_1 ((rd_T89 l0_3 x37_2).f1).length c140_1, .int .i64 0, .int .i64 0]) ?_ 2 _ rfl; refine bkZ ?_; refine blk_put (cs := #[.string ((rd_T89 l0_3 x37_2).f0), .slice none 0 0, .int .i64 0, .int .i64 0]) ?_ 1 _ rfl; refine bkZ ?_; refine blk_put (cs := #[.string (⟨#[]⟩ : ByteArray), .slice none 0 0, .int .i64 0, .int .i64 0]) ?_ 0 _ rfl; refine bkZ ?_; exact BK141.out) hb); replace HB := Sd.mk (below_step (bBl HB.out) hb); (try clear hb); (try clear hb2); (try clear hk); (try clear hi); obtain ⟨u40_0, u40_1, u40_2, u40_3, u40_4, u40_5, u40_6, o40_0, o40_1, o40_2, o40_3, o40_4, o40_5, o40_6⟩ := bc7 (w := w39) BK136.out; obtain ⟨u41_0, u41_1, u41_2, u41_3, o41_0, o41_1, o41_2, o41_3⟩ := bc4 (w := w39) BK141.out) | ((with_reducible refine gate_callee (f := 105) rfl ?_); refine goesL_ (some 54) rfl rfl Tryz.func105 (by kernel_rfl) rfl #[.agg #[.slice A0_0 l0_0.length c0_0, .slice A0_1 l0_1.length c0_1, .slice A0_2 l0_2.length c0_2, .slice (some ad140) l0_3.length c0_3, .int .i64 a0_4, .int .i64 a0_5, .int .i64 a0_6], .agg #[.string ((rd_T89 l0_3 x37_2).f0), .slice A140_1 ((rd_T89 l0_3 x37_2).f1).length c140_1, .int .i64 ((rd_T89 l0_3 x37_2).f2.f0), .int .i64 ((rd_T89 l0_3 x37_2).f2.f1)]] rfl tM ?_; (with_reducible refine (b_checkProperty.calls _ _ l0_0 _ _ l0_1 _ _ l0_2 _ _ l0_3 a0_4 a0_5 a0_6 ((rd_T89 l0_3 x37_2).f0) _ _ ((rd_T89 l0_3 x37_2).f1) ((rd_T89 l0_3 x37_2).f2.f0) ((rd_T89 l0_3 x37_2).f2.f1) t144 _ (cS (Kd.C_below HR0_0.out HB.out)) HC0_0.out (cS (Kd.C_below HR0_1.out HB.out)) HC0_1.out (cS (Kd.C_below HR0_2.out HB.out)) HC0_2.out (cS (Kd.C_below HR0_3.out HB.out)) HC0_3.out (cS (Kd.C_below HR140_1.out HB.out)) HC140_1.out A33.out).mono ?_); rintro e w42 ⟨rfl, hb⟩; refine ⟨_, rfl, ?_⟩; replace BK136 := Sd.mk (blk_below (bkA BK136.out) hb); replace BK141 := Sd.mk (blk_below (bkA BK141.out) hb); replace HB := Sd.mk (below_step (bBl HB.out) hb); (try clear hb); (try clear hb2); (try clear hk); (try clear hi)))
               go_roundg k2
               case measure => have := HJ5.out; have := HK2.out; omega
               case rel => exact ⟨(wrap64 (x37_2 + 1)), tS, H', ⟨by have := HJ5.out; have := HK2.out; omega⟩, ⟨bkA BK136.out⟩, ⟨bBl HB.out⟩⟩
              ·rw [if_neg c34] at H
               have c34b0 : (t144 == 0) = false := beq_eq_false_iff_ne.mpr c34
               have c34b1 : (t144 != 0) = true := bne_iff_ne.mpr c34
               obtain rfl := Option.some.inj H
               have p140 : 0 ≤ (x37_2 : Int) := tB
               have q140 : x37_2 < (l0_3.length : Int) := tB
               obtain ⟨ad140, A140_1, c140_1, e140, hx140_0, hx140_1, hx140_2, hx140_3, hl140_1, hi140_1⟩ := at_T89 HR0_3.out x37_2 p140 q140; cases e140; replace hx140_0 := cU HB hx140_0; replace hx140_1 := cU HB hx140_1; replace hx140_2 := cU HB hx140_2; replace hx140_3 := cU HB hx140_3; have HR140_1 := Sd.mk hi140_1; have HC140_1 := Sd.mk hl140_1; clear hi140_1 hl140_1; replace p140 := eq_true p140; replace q140 := eq_true q140
               go_wp2_with (first | ((with_reducible refine gate_dst (N := 6) rfl ?_); refine box_event ?hg (N := 6) ?hd (cs := #[.string (⟨#[]⟩ : ByteArray), .slice none 0 0, .int .i64 0, .int .i64 0]) (t := 89) ?hr ?_; (case hd => rfl); (case hg => rfl); (case hr => exact tG); intro gb141 hg w43 hbox hb; have BK141 := Sd.mk (hbox); have GW141 := Sd.mk (bSz hg (bBl HB.out)); have GE141 := Sd.mk (bSz hg (bBl HB.out)); replace HB := Sd.mk (below_step (bBl HB.out) hb); have NB136_141 := Sd.mk (bNl hg (bkA BK136.out)); have NB141_136 := Sd.mk (bNg hg (bkA BK136.out)); replace BK136 := Sd.mk (blk_below (bkA BK136.out) hb); clear hb hbox hg; have hnb44 := NB141_136.out; have hnc44 := NB136_141.out; obtain ⟨u45_0, u45_1, u45_2, u45_3, o45_0, o45_1, o45_2, o45_3⟩ := bc4 (w := w43) BK141.out) | ((with_reducible refine gate_callee (f := 102) rfl ?_); refine goesL_ (some 45) rfl rfl Tryz.func102 (by kernel_rfl) rfl #[.string ((rd_T89 l0_3 x37_2).f0)] rfl tM ?_; (with_reducible refine (b_name.calls k2 ((rd_T89 l0_3 x37_2).f0) true _ A24.out).mono ?_); rintro e w' ⟨rfl, ⟨nd, rfl⟩⟩; refine ⟨_, rfl, ?_⟩; obtain ⟨u46_0, u46_1, u46_2, u46_3, u46_4, u46_5, u46_6, o46_0, o46_1, o46_2, o46_3, o46_4, o46_5, o46_6⟩ := bc7 (w := w43) BK136.out) | ((with_reducible refine gate_callee (f := 103) rfl ?_); refine goesL_ (some 51) rfl rfl Tryz.func103 (by kernel_rfl) rfl #[.slice (some ad140) l0_3.length c0_3, .int .i64 x37_2, .func (.func 104) #[] #[]] rfl tM ?_; (with_reducible refine (x_twiceP.calls _ _ l0_3 x37_2 false _ (Kd.C_below HR0_3.out (bBl HB.out)) HC0_3.out A26.out).mono ?_); rintro e w47 ⟨rfl, hb⟩; refine ⟨_, rfl, ?_⟩; replace BK136 := Sd.mk (blk_below (g := gb136) (o := .cells #[.slice A0_0 l0_0.length c0_0, .slice A0_1 l0_1.length c0_1, .slice A0_2 l0_2.length c0_2, .slice (some ad140) l0_3.length c0_3, .int .i64 a0_4, .int .i64 a0_5, .int .i64 a0_6] 29 (0, 0)) (by refine bkZ ?_; refine blk_far ?_ NB136_141.out _; refine bkZ ?_; refine blk_far ?_ NB136_141.out _; refine bkZ ?_; refine blk_far ?_ NB136_141.out _; refine bkZ ?_; refine blk_far ?_ NB136_141.out _; refine bkZ ?_; exact BK136.out) hb); replace BK141 := Sd.mk (blk_below (g := gb141) (o := .cells #[.string ((rd_T89 l0_3 x37_2).f0), .slice A140_1 ((rd_T89 l0_3 x37_2).f1).length c140_1, .int .i64 ((rd_T89 l0_3 x37_2).f2.f0), .int .i64 ((rd_T89 l0_3 x37_2).f2.f1)] 89 (0, 0)) (by refine bkZ ?_; refine blk_put (cs := #[.string ((rd_T89 l0_3 x37_2).f0), .slice A140_1 ((rd_T89 l0_3 x37_2).f1).length c140_1, .int .i64 ((rd_T89 l0_3 x37_2).f2.f0), .int .i64 0]) ?_ 3 _ rfl; refine bkZ ?_; refine blk_put (cs := #[.string ((rd_T89 l0_3 x37_2).f0), .slice A140_1 ((rd_T89 l0_3 x37_2).f1).length c140_1, .int .i64 0, .int .i64 0]) ?_ 2 _ rfl; refine bkZ ?_; refine blk_put (cs := #[.string ((rd_T89 l0_3 x37_2).f0), .slice none 0 0, .int .i64 0, .int .i64 0]) ?_ 1 _ rfl; refine bkZ ?_; refine blk_put (cs := #[.string (⟨#[]⟩ : ByteArray), .slice none 0 0, .int .i64 0, .int .i64 0]) ?_ 0 _ rfl; refine bkZ ?_; exact BK141.out) hb); replace HB := Sd.mk (below_step (bBl HB.out) hb); (try clear hb); (try clear hb2); (try clear hk); (try clear hi); obtain ⟨u48_0, u48_1, u48_2, u48_3, u48_4, u48_5, u48_6, o48_0, o48_1, o48_2, o48_3, o48_4, o48_5, o48_6⟩ := bc7 (w := w47) BK136.out; obtain ⟨u49_0, u49_1, u49_2, u49_3, o49_0, o49_1, o49_2, o49_3⟩ := bc4 (w := w47) BK141.out) | ((with_reducible refine gate_callee (f := 105) rfl ?_); refine goesL_ (some 54) rfl rfl Tryz.func105 (by kernel_rfl) rfl #[.agg #[.slice A0_0 l0_0.length c0_0, .slice A0_1 l0_1.length c0_1, .slice A0_2 l0_2.length c0_2, .slice (some ad140) l0_3.length c0_3, .int .i64 a0_4, .int .i64 a0_5, .int .i64 a0_6], .agg #[.string ((rd_T89 l0_3 x37_2).f0), .slice A140_1 ((rd_T89 l0_3 x37_2).f1).length c140_1, .int .i64 ((rd_T89 l0_3 x37_2).f2.f0), .int .i64 ((rd_T89 l0_3 x37_2).f2.f1)]] rfl tM ?_; (with_reducible refine (b_checkProperty.calls _ _ l0_0 _ _ l0_1 _ _ l0_2 _ _ l0_3 a0_4 a0_5 a0_6 ((rd_T89 l0_3 x37_2).f0) _ _ ((rd_T89 l0_3 x37_2).f1) ((rd_T89 l0_3 x37_2).f2.f0) ((rd_T89 l0_3 x37_2).f2.f1) t144 _ (cS (Kd.C_below HR0_0.out HB.out)) HC0_0.out (cS (Kd.C_below HR0_1.out HB.out)) HC0_1.out (cS (Kd.C_below HR0_2.out HB.out)) HC0_2.out (cS (Kd.C_below HR0_3.out HB.out)) HC0_3.out (cS (Kd.C_below HR140_1.out HB.out)) HC140_1.out A33.out).mono ?_); rintro e w50 ⟨rfl, hb⟩; refine ⟨_, rfl, ?_⟩; replace BK136 := Sd.mk (blk_below (bkA BK136.out) hb); replace BK141 := Sd.mk (blk_below (bkA BK141.out) hb); replace HB := Sd.mk (below_step (bBl HB.out) hb); (try clear hb); (try clear hb2); (try clear hk); (try clear hi)))
               go_ret
               exact ⟨tE, bBl HB.out⟩
            ·replace c25 := Bool.eq_false_iff.mpr c25
             subst c25
             have H1 : (some 5) = some r := by rw [if_neg (show ¬ (false = true) by decide)] at H; exact H
             clear H; have H := H1; clear H1; obtain rfl := Option.some.inj H
             have p140 : 0 ≤ (x37_2 : Int) := tB
             have q140 : x37_2 < (l0_3.length : Int) := tB
             obtain ⟨ad140, A140_1, c140_1, e140, hx140_0, hx140_1, hx140_2, hx140_3, hl140_1, hi140_1⟩ := at_T89 HR0_3.out x37_2 p140 q140; cases e140; replace hx140_0 := cU HB hx140_0; replace hx140_1 := cU HB hx140_1; replace hx140_2 := cU HB hx140_2; replace hx140_3 := cU HB hx140_3; have HR140_1 := Sd.mk hi140_1; have HC140_1 := Sd.mk hl140_1; clear hi140_1 hl140_1; replace p140 := eq_true p140; replace q140 := eq_true q140
             go_wp2_with (first | ((with_reducible refine gate_dst (N := 6) rfl ?_); refine box_event ?hg (N := 6) ?hd (cs := #[.string (⟨#[]⟩ : ByteArray), .slice none 0 0, .int .i64 0, .int .i64 0]) (t := 89) ?hr ?_; (case hd => rfl); (case hg => rfl); (case hr => exact tG); intro gb141 hg w51 hbox hb; have BK141 := Sd.mk (hbox); have GW141 := Sd.mk (bSz hg (bBl HB.out)); have GE141 := Sd.mk (bSz hg (bBl HB.out)); replace HB := Sd.mk (below_step (bBl HB.out) hb); have NB136_141 := Sd.mk (bNl hg (bkA BK136.out)); have NB141_136 := Sd.mk (bNg hg (bkA BK136.out)); replace BK136 := Sd.mk (blk_below (bkA BK136.out) hb); clear hb hbox hg; have hnb52 := NB141_136.out; have hnc52 := NB136_141.out; obtain ⟨u53_0, u53_1, u53_2, u53_3, o53_0, o53_1, o53_2, o53_3⟩ := bc4 (w := w51) BK141.out) | ((with_reducible refine gate_callee (f := 102) rfl ?_); refine goesL_ (some 45) rfl rfl Tryz.func102 (by kernel_rfl) rfl #[.string ((rd_T89 l0_3 x37_2).f0)] rfl tM ?_; (with_reducible refine (b_name.calls k2 ((rd_T89 l0_3 x37_2).f0) false _ A24.out).mono ?_); rintro e w' ⟨rfl, ⟨nd, rfl⟩⟩; refine ⟨_, rfl, ?_⟩))
             go_ret
             exact ⟨tE, bBl HB.out⟩
           ·rw [if_neg c23] at H
            exact absurd H (by simp)
          ·rw [if_neg c22] at H
           exact absurd H (by simp)
         ·rw [if_neg c21] at H
          have c21b0 : decide (x37_2 < (l0_3.length : Int)) = false := decide_eq_false c21
          clear c21; replace H := Option.bind_eq_some_iff.mp H; obtain ⟨t145, A540, H⟩ := H
          try dsimp only at H
          have A54 := Sd.mk A540; clear A540
          by_cases c55 : t145 = true
          ·subst c55
           have H1 : ((b_within.f a0_6 1 10000).bind fun t146 => (if t146 = true then (some 0) else (some 1))) = some r := by rw [if_pos rfl] at H; exact H
           clear H; have H := H1; clear H1; replace H := Option.bind_eq_some_iff.mp H; obtain ⟨t146, A560, H⟩ := H
           try dsimp only at H
           have A56 := Sd.mk A560; clear A560
           by_cases c57 : t146 = true
           ·subst c57
            have H1 : (some 0) = some r := by rw [if_pos rfl] at H; exact H
            clear H; have H := H1; clear H1; obtain rfl := Option.some.inj H; obtain ⟨u58_0, u58_1, u58_2, u58_3, u58_4, u58_5, u58_6, o58_0, o58_1, o58_2, o58_3, o58_4, o58_5, o58_6⟩ := bc7 (w := wr) BK136.out
            go_wp2_with (first | ((with_reducible refine gate_callee (f := 101) rfl ?_); refine goesL_ (some 61) rfl rfl Tryz.func101 (by kernel_rfl) rfl #[.agg #[.int .i64 a0_4, .int .i64 a0_5], .int .i64 (-10000), .int .i64 10000] rfl tM ?_; (with_reducible refine (b_span.calls a0_4 a0_5 (-10000) 10000 true _ A54.out).mono ?_); rintro e w59 ⟨rfl, hb⟩; refine ⟨_, rfl, ?_⟩; replace BK136 := Sd.mk (blk_below (bkA BK136.out) hb); replace HB := Sd.mk (below_step (bBl HB.out) hb); (try clear hb); (try clear hb2); (try clear hk); (try clear hi); obtain ⟨u60_0, u60_1, u60_2, u60_3, u60_4, u60_5, u60_6, o60_0, o60_1, o60_2, o60_3, o60_4, o60_5, o60_6⟩ := bc7 (w := w59) BK136.out) | (go_at_call 56; (with_reducible refine (b_within.calls a0_6 1 10000 true _ A56.out).mono ?_); rintro e w' ⟨rfl, ⟨nd, rfl⟩⟩))
            go_ret
            exact ⟨tE, bBl HB.out⟩
           ·replace c57 := Bool.eq_false_iff.mpr c57
            subst c57
            have H1 : (some 1) = some r := by rw [if_neg (show ¬ (false = true) by decide)] at H; exact H
            clear H; have H := H1; clear H1; obtain rfl := Option.some.inj H; obtain ⟨u61_0, u61_1, u61_2, u61_3, u61_4, u61_5, u61_6, o61_0, o61_1, o61_2, o61_3, o61_4, o61_5, o61_6⟩ := bc7 (w := wr) BK136.out
            go_wp2_with (first | ((with_reducible refine gate_callee (f := 101) rfl ?_); refine goesL_ (some 61) rfl rfl Tryz.func101 (by kernel_rfl) rfl #[.agg #[.int .i64 a0_4, .int .i64 a0_5], .int .i64 (-10000), .int .i64 10000] rfl tM ?_; (with_reducible refine (b_span.calls a0_4 a0_5 (-10000) 10000 true _ A54.out).mono ?_); rintro e w62 ⟨rfl, hb⟩; refine ⟨_, rfl, ?_⟩; replace BK136 := Sd.mk (blk_below (bkA BK136.out) hb); replace HB := Sd.mk (below_step (bBl HB.out) hb); (try clear hb); (try clear hb2); (try clear hk); (try clear hi); obtain ⟨u63_0, u63_1, u63_2, u63_3, u63_4, u63_5, u63_6, o63_0, o63_1, o63_2, o63_3, o63_4, o63_5, o63_6⟩ := bc7 (w := w62) BK136.out) | (go_at_call 56; (with_reducible refine (b_within.calls a0_6 1 10000 false _ A56.out).mono ?_); rintro e w' ⟨rfl, ⟨nd, rfl⟩⟩))
            go_ret
            exact ⟨tE, bBl HB.out⟩
          ·replace c55 := Bool.eq_false_iff.mpr c55
           subst c55
           have H1 : (some 1) = some r := by rw [if_neg (show ¬ (false = true) by decide)] at H; exact H
           clear H; have H := H1; clear H1; obtain rfl := Option.some.inj H; obtain ⟨u64_0, u64_1, u64_2, u64_3, u64_4, u64_5, u64_6, o64_0, o64_1, o64_2, o64_3, o64_4, o64_5, o64_6⟩ := bc7 (w := wr) BK136.out
           go_wp2_with (first | ((with_reducible refine gate_callee (f := 101) rfl ?_); refine goesL_ (some 61) rfl rfl Tryz.func101 (by kernel_rfl) rfl #[.agg #[.int .i64 a0_4, .int .i64 a0_5], .int .i64 (-10000), .int .i64 10000] rfl tM ?_; (with_reducible refine (b_span.calls a0_4 a0_5 (-10000) 10000 false _ A54.out).mono ?_); rintro e w65 ⟨rfl, hb⟩; refine ⟨_, rfl, ?_⟩; replace BK136 := Sd.mk (blk_below (bkA BK136.out) hb); replace HB := Sd.mk (below_step (bBl HB.out) hb); (try clear hb); (try clear hb2); (try clear hk); (try clear hi)))
           go_ret
           exact ⟨tE, bBl HB.out⟩
  ·rw [if_neg c5] at H
   have c5b0 : (t138 == 0) = false := beq_eq_false_iff_ne.mpr c5
   have c5b1 : (t138 != 0) = true := bne_iff_ne.mpr c5
   obtain rfl := Option.some.inj H
   go_enter Tryz.func34, Tryz.ntmps34
   go_wp2_with (first | ((with_reducible refine gate_dst (N := 1) rfl ?_); refine box_event ?hg (N := 1) ?hd (cs := #[.slice A0_0 l0_0.length c0_0, .slice A0_1 l0_1.length c0_1, .slice A0_2 l0_2.length c0_2, .slice A0_3 l0_3.length c0_3, .int .i64 a0_4, .int .i64 a0_5, .int .i64 a0_6]) (t := 29) ?hr ?_; (case hd => rfl); (case hg => rfl); (case hr => exact tG); intro gb136 hg w66 hbox hb; have BK136 := Sd.mk (hbox); have GW136 := Sd.mk (bSz hg (bBl HB.out)); have GE136 := Sd.mk (bSz hg (bBl HB.out)); replace HB := Sd.mk (below_step (bBl HB.out) hb); clear hb hbox hg; obtain ⟨u67_0, u67_1, u67_2, u67_3, u67_4, u67_5, u67_6, o67_0, o67_1, o67_2, o67_3, o67_4, o67_5, o67_6⟩ := bc7 (w := w66) BK136.out) | ((with_reducible refine gate_callee (f := 97) rfl ?_); refine goesL_ (some 9) rfl rfl Tryz.func97 (by kernel_rfl) rfl #[.agg #[.slice A0_0 l0_0.length c0_0, .slice A0_1 l0_1.length c0_1, .slice A0_2 l0_2.length c0_2, .slice A0_3 l0_3.length c0_3, .int .i64 a0_4, .int .i64 a0_5, .int .i64 a0_6]] rfl tM ?_; (with_reducible refine (b_checkOxides.calls k _ _ l0_0 _ _ l0_1 _ _ l0_2 _ _ l0_3 a0_4 a0_5 a0_6 t137 _ (cS (Kd.C_below HR0_0.out HB.out)) HC0_0.out (cS (Kd.C_below HR0_1.out HB.out)) HC0_1.out (cS (Kd.C_below HR0_2.out HB.out)) HC0_2.out (cS (Kd.C_below HR0_3.out HB.out)) HC0_3.out A2.out).mono ?_); rintro e w68 ⟨rfl, hb⟩; refine ⟨_, rfl, ?_⟩; replace BK136 := Sd.mk (blk_below (bkA BK136.out) hb); replace HB := Sd.mk (below_step (bBl HB.out) hb); (try clear hb); (try clear hb2); (try clear hk); (try clear hi); obtain ⟨u69_0, u69_1, u69_2, u69_3, u69_4, u69_5, u69_6, o69_0, o69_1, o69_2, o69_3, o69_4, o69_5, o69_6⟩ := bc7 (w := w68) BK136.out) | ((with_reducible refine gate_callee (f := 98) rfl ?_); refine goesL_ (some 14) rfl rfl Tryz.func98 (by kernel_rfl) rfl #[.agg #[.slice A0_0 l0_0.length c0_0, .slice A0_1 l0_1.length c0_1, .slice A0_2 l0_2.length c0_2, .slice A0_3 l0_3.length c0_3, .int .i64 a0_4, .int .i64 a0_5, .int .i64 a0_6]] rfl tM ?_; (with_reducible refine (b_checkMaterials.calls k _ _ l0_0 _ _ l0_1 _ _ l0_2 _ _ l0_3 a0_4 a0_5 a0_6 t138 _ (cS (Kd.C_below HR0_0.out HB.out)) HC0_0.out (cS (Kd.C_below HR0_1.out HB.out)) HC0_1.out (cS (Kd.C_below HR0_2.out HB.out)) HC0_2.out (cS (Kd.C_below HR0_3.out HB.out)) HC0_3.out A4.out).mono ?_); rintro e w70 ⟨rfl, hb⟩; refine ⟨_, rfl, ?_⟩; replace BK136 := Sd.mk (blk_below (bkA BK136.out) hb); replace HB := Sd.mk (below_step (bBl HB.out) hb); (try clear hb); (try clear hb2); (try clear hk); (try clear hi)))
   go_ret
   exact ⟨tE, bBl HB.out⟩
 ·rw [if_neg c3] at H
  have c3b0 : (t137 == 0) = false := beq_eq_false_iff_ne.mpr c3
  have c3b1 : (t137 != 0) = true := bne_iff_ne.mpr c3
  obtain rfl := Option.some.inj H
  go_enter Tryz.func34, Tryz.ntmps34
  go_wp2_with (first | ((with_reducible refine gate_dst (N := 1) rfl ?_); refine box_event ?hg (N := 1) ?hd (cs := #[.slice A0_0 l0_0.length c0_0, .slice A0_1 l0_1.length c0_1, .slice A0_2 l0_2.length c0_2, .slice A0_3 l0_3.length c0_3, .int .i64 a0_4, .int .i64 a0_5, .int .i64 a0_6]) (t := 29) ?hr ?_; (case hd => rfl); (case hg => rfl); (case hr => exact tG); intro gb136 hg w71 hbox hb; have BK136 := Sd.mk (hbox); have GW136 := Sd.mk (bSz hg (bBl HB.out)); have GE136 := Sd.mk (bSz hg (bBl HB.out)); replace HB := Sd.mk (below_step (bBl HB.out) hb); clear hb hbox hg; obtain ⟨u72_0, u72_1, u72_2, u72_3, u72_4, u72_5, u72_6, o72_0, o72_1, o72_2, o72_3, o72_4, o72_5, o72_6⟩ := bc7 (w := w71) BK136.out) | ((with_reducible refine gate_callee (f := 97) rfl ?_); refine goesL_ (some 9) rfl rfl Tryz.func97 (by kernel_rfl) rfl #[.agg #[.slice A0_0 l0_0.length c0_0, .slice A0_1 l0_1.length c0_1, .slice A0_2 l0_2.length c0_2, .slice A0_3 l0_3.length c0_3, .int .i64 a0_4, .int .i64 a0_5, .int .i64 a0_6]] rfl tM ?_; (with_reducible refine (b_checkOxides.calls k _ _ l0_0 _ _ l0_1 _ _ l0_2 _ _ l0_3 a0_4 a0_5 a0_6 t137 _ (cS (Kd.C_below HR0_0.out HB.out)) HC0_0.out (cS (Kd.C_below HR0_1.out HB.out)) HC0_1.out (cS (Kd.C_below HR0_2.out HB.out)) HC0_2.out (cS (Kd.C_below HR0_3.out HB.out)) HC0_3.out A2.out).mono ?_); rintro e w73 ⟨rfl, hb⟩; refine ⟨_, rfl, ?_⟩; replace BK136 := Sd.mk (blk_below (bkA BK136.out) hb); replace HB := Sd.mk (below_step (bBl HB.out) hb); (try clear hb); (try clear hb2); (try clear hk); (try clear hi)))
  go_ret
  exact ⟨tE, bBl HB.out⟩
end
end Go.Proofs.YtljfljekcpdpiaaGreat.PB
