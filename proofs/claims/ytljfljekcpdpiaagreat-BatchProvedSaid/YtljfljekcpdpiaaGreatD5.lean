import Derived.Test.YtljfljekcpdpiaaGreatD4
import Derived.Deep.RegionWith
import Derived.Deep.DeepCutAuto
import Derived.Lib.LazyBuf
import Derived.Shelf.Abstract
set_option linter.unusedVariables false
set_option linter.unusedSimpArgs false
set_option maxHeartbeats 8000000
set_option maxRecDepth 1000000
namespace Go.Proofs.YtljfljekcpdpiaaGreat.PB
open Go.RowKit Go.Proofs.YtljfljekcpdpiaaGreatW.PrintWords Go.Proofs.YtljfljekcpdpiaaGreatW.PrintLast Go.Proofs.YtljfljekcpdpiaaGreatW.PrintMore
section
def b_Allowed.l0 : Nat → List Int → List (S70) → Int → Int → Option (Bool × Int)
 | 0, _, _, _, _ => none
 | k + 1, x1, x16, x17, x18 => if x18 < x17 then (if 0 ≤ x18 then (if x18 < (x16.length : Int) then (if x18 < (x1.length : Int) then ((b_within.f (rd x1 x18) ((rd_T70 x16 x18).f3) ((rd_T70 x16 x18).f4)).bind fun t311 => (if t311 = true then (if ((rd_T70 x16 x18).f5) = 0 then (none) else (if (Int.tmod (wrap64 ((rd x1 x18) - ((rd_T70 x16 x18).f3))) ((rd_T70 x16 x18).f5)) = 0 then (b_Allowed.l0 k x1 x16 x17 (wrap64 (x18 + 1))) else (some (false, 0)))) else (some (false, 0)))) else (none)) else (none)) else (none)) else (some (true, 0))
def b_Allowed.f (k : Nat) (l0_0 : List ByteArray) (l0_1 : List (S70)) (l0_2 : List (S27)) (l0_3 : List (S89)) (a0_4 : Int) (a0_5 : Int) (a0_6 : Int) (l1 : List Int) : Option (Bool × Int) := (b_asked.f k l0_0 l0_1 l0_2 l0_3 a0_4 a0_5 a0_6 l1).bind fun t307 => (if t307 = 0 then (b_Allowed.l0 k l1 l0_1 (l0_1.length : Int) 0) else (some (false, t307)))
theorem within_q (a b c : Int) (r : Bool) (w : World) (h : b_within.f a b c = some r) : Calls Tryz.prog 56 #[.int .i64 a, .int .i64 b, .int .i64 c] w fun e w' => e = .returned (.bool r) ∧ ∃ q, w' = w.drewN q :=
 (b_within.calls a b c r w h).mono fun e w' he => ⟨he.1, he.2.out⟩
theorem b_Allowed.calls (k : Nat) (A0_0 : Option Addr) (c0_0 : Nat) (l0_0 : List ByteArray) (A0_1 : Option Addr) (c0_1 : Nat) (l0_1 : List (S70)) (A0_2 : Option Addr) (c0_2 : Nat) (l0_2 : List (S27)) (A0_3 : Option Addr) (c0_3 : Nat) (l0_3 : List (S89)) (a0_4 : Int) (a0_5 : Int) (a0_6 : Int) (A1 : Option Addr) (c1 : Nat) (l1 : List Int) (r1 : Bool) (r2 : Int) (w : World) (hr0_0 : Kd.C Kd.string w A0_0 l0_0.length l0_0) (hc0_0 : l0_0.length ≤ c0_0) (hr0_1 : Kd.C k70 w A0_1 l0_1.length l0_1) (hc0_1 : l0_1.length ≤ c0_1) (hr0_2 : Kd.C k27 w A0_2 l0_2.length l0_2) (hc0_2 : l0_2.length ≤ c0_2) (hr0_3 : Kd.C k89 w A0_3 l0_3.length l0_3) (hc0_3 : l0_3.length ≤ c0_3) (hr1 : Kd.C (Kd.int .i64) w A1 l1.length l1) (hc1 : l1.length ≤ c1) (h : b_Allowed.f k l0_0 l0_1 l0_2 l0_3 a0_4 a0_5 a0_6 l1 = some (r1, r2)) :
  Calls Tryz.prog 15 #[.agg #[.slice A0_0 l0_0.length c0_0, .slice A0_1 l0_1.length c0_1, .slice A0_2 l0_2.length c0_2, .slice A0_3 l0_3.length c0_3, .int .i64 a0_4, .int .i64 a0_5, .int .i64 a0_6], .slice A1 l1.length c1] w fun e w' => e = .returned (.tuple #[.bool r1, .int .i64 r2]) ∧ Below w.heap.size w w' := by
 unfold b_Allowed.f at h
 obtain ⟨ea, ha, H⟩ := Option.bind_eq_some_iff.mp h
 have hx0 : (w.alloc (.cells #[.slice A0_0 l0_0.length c0_0, .slice A0_1 l0_1.length c0_1, .slice A0_2 l0_2.length c0_2, .slice A0_3 l0_3.length c0_3, .int .i64 a0_4, .int .i64 a0_5, .int .i64 a0_6] 29)).cell? ⟨w.heap.size, 0, none⟩ = some (.slice A0_0 l0_0.length c0_0) := (blk_cell (blk_new w (.cells #[.slice A0_0 l0_0.length c0_0, .slice A0_1 l0_1.length c0_1, .slice A0_2 l0_2.length c0_2, .slice A0_3 l0_3.length c0_3, .int .i64 a0_4, .int .i64 a0_5, .int .i64 a0_6] 29)) 0).trans rfl
 have hb0 := below_alloc (Below.refl w.heap.size w) (.cells #[.slice A0_0 l0_0.length c0_0, .slice A0_1 l0_1.length c0_1, .slice A0_2 l0_2.length c0_2, .slice A0_3 l0_3.length c0_3, .int .i64 a0_4, .int .i64 a0_5, .int .i64 a0_6] 29)
 have BX := Sd.mk (blk_new w (.cells #[.slice A0_0 l0_0.length c0_0, .slice A0_1 l0_1.length c0_1, .slice A0_2 l0_2.length c0_2, .slice A0_3 l0_3.length c0_3, .int .i64 a0_4, .int .i64 a0_5, .int .i64 a0_6] 29))
 have HB0 := Sd.mk hb0
 have HR := Sd.mk hr0_1
 have HR1 := Sd.mk hr1
 have HASK := b_asked.calls k A0_0 c0_0 l0_0 A0_1 c0_1 l0_1 A0_2 c0_2 l0_2 A0_3 c0_3 l0_3 a0_4 a0_5 a0_6 A1 c1 l1 ea (w.alloc (.cells #[.slice A0_0 l0_0.length c0_0, .slice A0_1 l0_1.length c0_1, .slice A0_2 l0_2.length c0_2, .slice A0_3 l0_3.length c0_3, .int .i64 a0_4, .int .i64 a0_5, .int .i64 a0_6] 29)) (Kd.C_alloc hr0_0 _) hc0_0 (Kd.C_alloc hr0_1 _) hc0_1 (Kd.C_alloc hr0_2 _) hc0_2 (Kd.C_alloc hr0_3 _) hc0_3 (Kd.C_alloc hr1 _) hc1 ha
 have HH := Sd.mk H
 clear hr0_0 hr0_1 hr0_2 hr0_3 hr1 h ha H hb0
 have hbc := blk_cell BX.out
 have hx1 : (w.alloc (.cells #[.slice A0_0 l0_0.length c0_0, .slice A0_1 l0_1.length c0_1, .slice A0_2 l0_2.length c0_2, .slice A0_3 l0_3.length c0_3, .int .i64 a0_4, .int .i64 a0_5, .int .i64 a0_6] 29)).cell? ⟨w.heap.size, 1, none⟩ = some (.slice A0_1 l0_1.length c0_1) := (hbc 1).trans rfl
 have hx2 : (w.alloc (.cells #[.slice A0_0 l0_0.length c0_0, .slice A0_1 l0_1.length c0_1, .slice A0_2 l0_2.length c0_2, .slice A0_3 l0_3.length c0_3, .int .i64 a0_4, .int .i64 a0_5, .int .i64 a0_6] 29)).cell? ⟨w.heap.size, 2, none⟩ = some (.slice A0_2 l0_2.length c0_2) := (hbc 2).trans rfl
 have hx3 : (w.alloc (.cells #[.slice A0_0 l0_0.length c0_0, .slice A0_1 l0_1.length c0_1, .slice A0_2 l0_2.length c0_2, .slice A0_3 l0_3.length c0_3, .int .i64 a0_4, .int .i64 a0_5, .int .i64 a0_6] 29)).cell? ⟨w.heap.size, 3, none⟩ = some (.slice A0_3 l0_3.length c0_3) := (hbc 3).trans rfl
 have hx4 : (w.alloc (.cells #[.slice A0_0 l0_0.length c0_0, .slice A0_1 l0_1.length c0_1, .slice A0_2 l0_2.length c0_2, .slice A0_3 l0_3.length c0_3, .int .i64 a0_4, .int .i64 a0_5, .int .i64 a0_6] 29)).cell? ⟨w.heap.size, 4, none⟩ = some (.int .i64 a0_4) := (hbc 4).trans rfl
 have hx5 : (w.alloc (.cells #[.slice A0_0 l0_0.length c0_0, .slice A0_1 l0_1.length c0_1, .slice A0_2 l0_2.length c0_2, .slice A0_3 l0_3.length c0_3, .int .i64 a0_4, .int .i64 a0_5, .int .i64 a0_6] 29)).cell? ⟨w.heap.size, 5, none⟩ = some (.int .i64 a0_5) := (hbc 5).trans rfl
 have hx6 : (w.alloc (.cells #[.slice A0_0 l0_0.length c0_0, .slice A0_1 l0_1.length c0_1, .slice A0_2 l0_2.length c0_2, .slice A0_3 l0_3.length c0_3, .int .i64 a0_4, .int .i64 a0_5, .int .i64 a0_6] 29)).cell? ⟨w.heap.size, 6, none⟩ = some (.int .i64 a0_6) := (hbc 6).trans rfl
 clear hbc
 have HSZ := Sd.mk (show (w.alloc (.cells #[.slice A0_0 l0_0.length c0_0, .slice A0_1 l0_1.length c0_1, .slice A0_2 l0_2.length c0_2, .slice A0_3 l0_3.length c0_3, .int .i64 a0_4, .int .i64 a0_5, .int .i64 a0_6] 29)).heap.size = w.heap.size + 1 from World.size_alloc _ _)
 go_enter Tryz.func15, Tryz.ntmps15
 go_upto_region 1 with (fail)
 generalize w.alloc (.cells #[.slice A0_0 l0_0.length c0_0, .slice A0_1 l0_1.length c0_1, .slice A0_2 l0_2.length c0_2, .slice A0_3 l0_3.length c0_3, .int .i64 a0_4, .int .i64 a0_5, .int .i64 a0_6] 29) = w0 at *
 by_cases he : ea = 0
 ·subst he
  rw [if_pos rfl] at HH
  go_wp2_with (go_at_call 50; refine HASK.mono ?_; rintro e w1 ⟨rfl, hbl⟩; have BX1 := blk_below BX.out hbl; have hy1 : w1.cell? ⟨w.heap.size, 1, none⟩ = some (.slice A0_1 l0_1.length c0_1) := (blk_cell BX1 1).trans rfl)
  have HB1 := Sd.mk (below_then HB0.out (by have := HSZ.out; omega) hbl)
  clear HASK hx0 hx1 hx2 hx3 hx4 hx5 hx6 hbl BX BX1 HB0
  go_wp2
  clear hy1
  go_loopg [18] k (fun kq v11 w' => ∃ (x11 : Int), v11 = .int .i64 x11 ∧ Sd (b_Allowed.l0 kq l1 l0_1 (l0_1.length : Int) x11 = some (r1, r2)) ∧ Sd (Below w.heap.size w w'))
  case atStart => exact ⟨0, rfl, HH, HB1⟩
  case round =>
   clear HH HB1
   obtain ⟨x11, rfl, HA, HB⟩ := hrel
   cases gk with
   | zero => exact absurd HA.out (by simp [b_Allowed.l0])
   | succ k1 =>
    have H := HA.out
    clear HA
    simp only [b_Allowed.l0] at H
    by_cases c5 : x11 < (l0_1.length : Int)
    ·rw [if_pos c5] at H
     by_cases c6 : 0 ≤ x11
     ·rw [if_pos c6, if_pos c5] at H
      by_cases c8 : x11 < (l1.length : Int)
      ·rw [if_pos c8] at H
       obtain ⟨b, hb, H⟩ := Option.bind_eq_some_iff.mp H
       obtain ⟨ad, A6, c6', rfl, hx0, hx1, hx2, hx3, hx4, hx5, hx6, hl6, hi6⟩ := at_T70 (Kd.C_below HR.out HB.out) x11 c6 c5
       obtain ⟨ae, rfl, hy0⟩ := Kd.at_int (Kd.C_alloc (Kd.C_below HR1.out HB.out) (.cells #[.string (rd_T70 l0_1 x11).f0, .int .i64 (rd_T70 l0_1 x11).f1, .int .i64 (rd_T70 l0_1 x11).f2, .int .i64 (rd_T70 l0_1 x11).f3, .int .i64 (rd_T70 l0_1 x11).f4, .int .i64 (rd_T70 l0_1 x11).f5, .slice A6 (rd_T70 l0_1 x11).f6.length c6'] 70)) x11 c6 c8
       have BN := blk_new wr (.cells #[.string (rd_T70 l0_1 x11).f0, .int .i64 (rd_T70 l0_1 x11).f1, .int .i64 (rd_T70 l0_1 x11).f2, .int .i64 (rd_T70 l0_1 x11).f3, .int .i64 (rd_T70 l0_1 x11).f4, .int .i64 (rd_T70 l0_1 x11).f5, .slice A6 (rd_T70 l0_1 x11).f6.length c6'] 70)
       have BM3 : (wr.alloc (.cells #[.string (rd_T70 l0_1 x11).f0, .int .i64 (rd_T70 l0_1 x11).f1, .int .i64 (rd_T70 l0_1 x11).f2, .int .i64 (rd_T70 l0_1 x11).f3, .int .i64 (rd_T70 l0_1 x11).f4, .int .i64 (rd_T70 l0_1 x11).f5, .slice A6 (rd_T70 l0_1 x11).f6.length c6'] 70)).cell? ⟨wr.heap.size, 3, none⟩ = some (.int .i64 (rd_T70 l0_1 x11).f3) := (blk_cell BN 3).trans rfl
       have BM4 : (wr.alloc (.cells #[.string (rd_T70 l0_1 x11).f0, .int .i64 (rd_T70 l0_1 x11).f1, .int .i64 (rd_T70 l0_1 x11).f2, .int .i64 (rd_T70 l0_1 x11).f3, .int .i64 (rd_T70 l0_1 x11).f4, .int .i64 (rd_T70 l0_1 x11).f5, .slice A6 (rd_T70 l0_1 x11).f6.length c6'] 70)).cell? ⟨wr.heap.size, 4, none⟩ = some (.int .i64 (rd_T70 l0_1 x11).f4) := (blk_cell BN 4).trans rfl
       have BM5 : (wr.alloc (.cells #[.string (rd_T70 l0_1 x11).f0, .int .i64 (rd_T70 l0_1 x11).f1, .int .i64 (rd_T70 l0_1 x11).f2, .int .i64 (rd_T70 l0_1 x11).f3, .int .i64 (rd_T70 l0_1 x11).f4, .int .i64 (rd_T70 l0_1 x11).f5, .slice A6 (rd_T70 l0_1 x11).f6.length c6'] 70)).cell? ⟨wr.heap.size, 5, none⟩ = some (.int .i64 (rd_T70 l0_1 x11).f5) := (blk_cell BN 5).trans rfl
       have HB1 := Sd.mk (below_alloc HB.out (.cells #[.string (rd_T70 l0_1 x11).f0, .int .i64 (rd_T70 l0_1 x11).f1, .int .i64 (rd_T70 l0_1 x11).f2, .int .i64 (rd_T70 l0_1 x11).f3, .int .i64 (rd_T70 l0_1 x11).f4, .int .i64 (rd_T70 l0_1 x11).f5, .slice A6 (rd_T70 l0_1 x11).f6.length c6'] 70))
       have HW := Sd.mk hb
       clear HB hl6 hi6 BN hb
       have H' := Sd.mk H
       clear H
       go_upto_region 7 with (fail)
       clear hx0 hx1 hx2 hx3 hx4 hx5 hx6
       generalize wr.alloc (.cells #[.string (rd_T70 l0_1 x11).f0, .int .i64 (rd_T70 l0_1 x11).f1, .int .i64 (rd_T70 l0_1 x11).f2, .int .i64 (rd_T70 l0_1 x11).f3, .int .i64 (rd_T70 l0_1 x11).f4, .int .i64 (rd_T70 l0_1 x11).f5, .slice A6 (rd_T70 l0_1 x11).f6.length c6'] 70) = WX at BM3 BM4 BM5 hy0 HB1 ⊢
       generalize wr.heap.size = X at BM3 BM4 BM5 ⊢
       generalize rd_T70 l0_1 x11 = m at *
       generalize hv : rd l1 x11 = v at *
       clear hv
       cases b with
       | true =>
        have H2 := H'.out
        rw [if_pos rfl] at H2
        by_cases c9 : m.f5 = 0
        ·rw [if_pos c9] at H2
         exact absurd H2 (by simp)
        ·rw [if_neg c9] at H2
         by_cases c10 : Int.tmod (wrap64 (v - m.f3)) m.f5 = 0
         ·rw [if_pos c10] at H2
          have H3 := Sd.mk H2
          have HC10 : ((Int.tmod (wrap64 (v - m.f3)) m.f5) != 0) = false := by simp [c10]
          have C10 := Sd.mk c10
          clear H2 H' c10
          go_quiet (first | (go_at_call 56; exact Calls.quiet_of (within_q _ _ _ _ _ HW.out)))
          go_wp2
          go_roundg k1
          case measure => omega
          case rel => exact ⟨_, rfl, H3, ⟨by first | exact HB1.out | exact pw_below_drewN HB1.out _⟩⟩
         ·rw [if_neg c10] at H2
          have H3 := Sd.mk H2
          have HC10 : ((Int.tmod (wrap64 (v - m.f3)) m.f5) != 0) = true := by simp [c10]
          have C10 := Sd.mk c10
          clear H2 H' c10
          go_quiet (first | (go_at_call 56; exact Calls.quiet_of (within_q _ _ _ _ _ HW.out)))
          go_wp2
          go_ret2
          have := H3.out
          simp only [Option.some.injEq, Prod.mk.injEq] at this
          obtain ⟨rfl, rfl⟩ := this
          exact ⟨rfl, by first | exact HB1.out | exact pw_below_drewN HB1.out _⟩
       | false =>
        have H2 := H'.out
        rw [if_neg (by simp)] at H2
        have H3 := Sd.mk H2
        clear H2 H'
        go_quiet (first | (go_at_call 56; exact Calls.quiet_of (within_q _ _ _ _ _ HW.out)))
        go_wp2
        go_ret2
        have := H3.out
        simp only [Option.some.injEq, Prod.mk.injEq] at this
        obtain ⟨rfl, rfl⟩ := this
        exact ⟨rfl, by first | exact HB1.out | exact pw_below_drewN HB1.out _⟩
      ·rw [if_neg c8] at H
       exact absurd H (by simp)
     ·rw [if_neg c6] at H
      exact absurd H (by simp)
    ·rw [if_neg c5] at H
     have c5b0 : decide (x11 < (l0_1.length : Int)) = false := decide_eq_false c5
     clear c5
     simp only [Option.some.injEq, Prod.mk.injEq] at H
     obtain ⟨rfl, rfl⟩ := H
     go_wp2
     go_ret2
     exact ⟨rfl, HB.out⟩
 ·rw [if_neg he] at HH
  have heb : (ea != 0) = true := by simp [he]
  have := HH.out
  simp only [Option.some.injEq, Prod.mk.injEq] at this
  obtain ⟨rfl, rfl⟩ := this
  go_wp2_with (go_at_call 50; refine HASK.mono ?_; rintro e w1 ⟨rfl, hbl⟩)
  have HB1 := Sd.mk (below_then HB0.out (by have := HSZ.out; omega) hbl)
  clear HASK hx0 hx1 hx2 hx3 hx4 hx5 hx6 hbl
  go_wp2
  go_ret2
  exact ⟨rfl, HB1.out⟩
end
section
end
section
end
section
end
section
end
section
end
section
def b_Cost.f (k : Nat) (l0_0 : List ByteArray) (l0_1 : List (S70)) (l0_2 : List (S27)) (l0_3 : List (S89)) (a0_4 : Int) (a0_5 : Int) (a0_6 : Int) (l1 : List Int) : Option (Int × Int) := (b_asked.f k l0_0 l0_1 l0_2 l0_3 a0_4 a0_5 a0_6 l1).bind fun t313 => (if t313 = 0 then ((b_cost.f k l0_0 l0_1 l0_2 l0_3 a0_4 a0_5 a0_6 l1).bind fun t314 => (some (t314, 0))) else (some (0, t313)))
theorem b_Cost.calls (k : Nat) (A0_0 : Option Addr) (c0_0 : Nat) (l0_0 : List ByteArray) (A0_1 : Option Addr) (c0_1 : Nat) (l0_1 : List (S70)) (A0_2 : Option Addr) (c0_2 : Nat) (l0_2 : List (S27)) (A0_3 : Option Addr) (c0_3 : Nat) (l0_3 : List (S89)) (a0_4 : Int) (a0_5 : Int) (a0_6 : Int) (A1 : Option Addr) (c1 : Nat) (l1 : List Int) (r1 : Int) (r2 : Int) (w : World) (hr0_0 : Kd.C Kd.string w A0_0 l0_0.length l0_0) (hc0_0 : l0_0.length ≤ c0_0) (hr0_1 : Kd.C k70 w A0_1 l0_1.length l0_1) (hc0_1 : l0_1.length ≤ c0_1) (hr0_2 : Kd.C k27 w A0_2 l0_2.length l0_2) (hc0_2 : l0_2.length ≤ c0_2) (hr0_3 : Kd.C k89 w A0_3 l0_3.length l0_3) (hc0_3 : l0_3.length ≤ c0_3) (hr1 : Kd.C (Kd.int .i64) w A1 l1.length l1) (hc1 : l1.length ≤ c1) (h : b_Cost.f k l0_0 l0_1 l0_2 l0_3 a0_4 a0_5 a0_6 l1 = some (r1, r2)) :
  Calls Tryz.prog 17 #[.agg #[.slice A0_0 l0_0.length c0_0, .slice A0_1 l0_1.length c0_1, .slice A0_2 l0_2.length c0_2, .slice A0_3 l0_3.length c0_3, .int .i64 a0_4, .int .i64 a0_5, .int .i64 a0_6], .slice A1 l1.length c1] w fun e w' => e = .returned (.tuple #[.int .i64 r1, .int .i64 r2]) ∧ Below w.heap.size w w' := by
 have hu29 := Tryz.underlying29; have HR0_0 := Sd.mk hr0_0; have HC0_0 := Sd.mk hc0_0; clear hr0_0 hc0_0; have HR0_1 := Sd.mk hr0_1; have HC0_1 := Sd.mk hc0_1; clear hr0_1 hc0_1; have HR0_2 := Sd.mk hr0_2; have HC0_2 := Sd.mk hc0_2; clear hr0_2 hc0_2; have HR0_3 := Sd.mk hr0_3; have HC0_3 := Sd.mk hc0_3; clear hr0_3 hc0_3; have HR1 := Sd.mk hr1; have HC1 := Sd.mk hc1; clear hr1 hc1; have HB := Sd.mk (Below.refl w.heap.size w)
 have H : ((b_asked.f k l0_0 l0_1 l0_2 l0_3 a0_4 a0_5 a0_6 l1).bind fun t313 => (if t313 = 0 then ((b_cost.f k l0_0 l0_1 l0_2 l0_3 a0_4 a0_5 a0_6 l1).bind fun t314 => (some (t314, 0))) else (some (0, t313)))) = some (r1, r2) := h
 clear h; replace H := Option.bind_eq_some_iff.mp H; obtain ⟨t313, A30, H⟩ := H
 try dsimp only at H
 have A3 := Sd.mk A30; clear A30
 by_cases c4 : t313 = 0
 ·rw [if_pos c4] at H
  have c4b0 : (t313 == 0) = true := beq_iff_eq.mpr c4
  have c4b1 : (t313 != 0) = false := bne_eq_false_iff_eq.mpr c4
  clear c4; replace H := Option.bind_eq_some_iff.mp H; obtain ⟨t314, A50, H⟩ := H
  try dsimp only at H
  have A5 := Sd.mk A50; clear A50
  simp only [Option.some.injEq, Prod.mk.injEq] at H
  obtain ⟨rfl, rfl⟩ := H
  go_enter Tryz.func17, Tryz.ntmps17
  go_wp2_with (first | ((with_reducible refine gate_dst (N := 2) rfl ?_); refine box_event ?hg (N := 2) ?hd (cs := #[.slice A0_0 l0_0.length c0_0, .slice A0_1 l0_1.length c0_1, .slice A0_2 l0_2.length c0_2, .slice A0_3 l0_3.length c0_3, .int .i64 a0_4, .int .i64 a0_5, .int .i64 a0_6]) (t := 29) ?hr ?_; (case hd => rfl); (case hg => rfl); (case hr => exact tG); intro gb312 hg w6 hbox hb; have BK312 := Sd.mk (hbox); have GW312 := Sd.mk (bSz hg (bBl HB.out)); have GE312 := Sd.mk (bSz hg (bBl HB.out)); replace HB := Sd.mk (below_step (bBl HB.out) hb); clear hb hbox hg; obtain ⟨u7_0, u7_1, u7_2, u7_3, u7_4, u7_5, u7_6, o7_0, o7_1, o7_2, o7_3, o7_4, o7_5, o7_6⟩ := bc7 (w := w6) BK312.out) | ((with_reducible refine gate_callee (f := 50) rfl ?_); refine goesL_ (some 9) rfl rfl Tryz.func50 (by kernel_rfl) rfl #[.agg #[.slice A0_0 l0_0.length c0_0, .slice A0_1 l0_1.length c0_1, .slice A0_2 l0_2.length c0_2, .slice A0_3 l0_3.length c0_3, .int .i64 a0_4, .int .i64 a0_5, .int .i64 a0_6], .slice A1 l1.length c1] rfl tM ?_; (with_reducible refine (b_asked.calls k _ _ l0_0 _ _ l0_1 _ _ l0_2 _ _ l0_3 a0_4 a0_5 a0_6 _ _ l1 t313 _ (cS (Kd.C_below HR0_0.out HB.out)) HC0_0.out (cS (Kd.C_below HR0_1.out HB.out)) HC0_1.out (cS (Kd.C_below HR0_2.out HB.out)) HC0_2.out (cS (Kd.C_below HR0_3.out HB.out)) HC0_3.out (cS (Kd.C_below HR1.out HB.out)) HC1.out A3.out).mono ?_); rintro e w8 ⟨rfl, hb⟩; refine ⟨_, rfl, ?_⟩; replace BK312 := Sd.mk (blk_below (bkA BK312.out) hb); replace HB := Sd.mk (below_step (bBl HB.out) hb); (try clear hb); (try clear hb2); (try clear hk); (try clear hi); obtain ⟨u9_0, u9_1, u9_2, u9_3, u9_4, u9_5, u9_6, o9_0, o9_1, o9_2, o9_3, o9_4, o9_5, o9_6⟩ := bc7 (w := w8) BK312.out) | ((with_reducible refine gate_callee (f := 58) rfl ?_); refine goesL_ (some 15) rfl rfl Tryz.func58 (by kernel_rfl) rfl #[.agg #[.slice A0_0 l0_0.length c0_0, .slice A0_1 l0_1.length c0_1, .slice A0_2 l0_2.length c0_2, .slice A0_3 l0_3.length c0_3, .int .i64 a0_4, .int .i64 a0_5, .int .i64 a0_6], .slice A1 l1.length c1] rfl tM ?_; (with_reducible refine (b_cost.calls k _ _ l0_0 _ _ l0_1 _ _ l0_2 _ _ l0_3 a0_4 a0_5 a0_6 _ _ l1 t314 _ (cS (Kd.C_below HR0_0.out HB.out)) HC0_0.out (cS (Kd.C_below HR0_1.out HB.out)) HC0_1.out (cS (Kd.C_below HR0_2.out HB.out)) HC0_2.out (cS (Kd.C_below HR0_3.out HB.out)) HC0_3.out (cS (Kd.C_below HR1.out HB.out)) HC1.out A5.out).mono ?_); rintro e w10 ⟨rfl, hb⟩; refine ⟨_, rfl, ?_⟩; replace BK312 := Sd.mk (blk_below (bkA BK312.out) hb); replace HB := Sd.mk (below_step (bBl HB.out) hb); (try clear hb); (try clear hb2); (try clear hk); (try clear hi)))
  go_ret2
  exact ⟨tE, bBl HB.out⟩
 ·rw [if_neg c4] at H
  have c4b0 : (t313 == 0) = false := beq_eq_false_iff_ne.mpr c4
  have c4b1 : (t313 != 0) = true := bne_iff_ne.mpr c4
  simp only [Option.some.injEq, Prod.mk.injEq] at H
  obtain ⟨rfl, rfl⟩ := H
  go_enter Tryz.func17, Tryz.ntmps17
  go_wp2_with (first | ((with_reducible refine gate_dst (N := 2) rfl ?_); refine box_event ?hg (N := 2) ?hd (cs := #[.slice A0_0 l0_0.length c0_0, .slice A0_1 l0_1.length c0_1, .slice A0_2 l0_2.length c0_2, .slice A0_3 l0_3.length c0_3, .int .i64 a0_4, .int .i64 a0_5, .int .i64 a0_6]) (t := 29) ?hr ?_; (case hd => rfl); (case hg => rfl); (case hr => exact tG); intro gb312 hg w11 hbox hb; have BK312 := Sd.mk (hbox); have GW312 := Sd.mk (bSz hg (bBl HB.out)); have GE312 := Sd.mk (bSz hg (bBl HB.out)); replace HB := Sd.mk (below_step (bBl HB.out) hb); clear hb hbox hg; obtain ⟨u12_0, u12_1, u12_2, u12_3, u12_4, u12_5, u12_6, o12_0, o12_1, o12_2, o12_3, o12_4, o12_5, o12_6⟩ := bc7 (w := w11) BK312.out) | ((with_reducible refine gate_callee (f := 50) rfl ?_); refine goesL_ (some 9) rfl rfl Tryz.func50 (by kernel_rfl) rfl #[.agg #[.slice A0_0 l0_0.length c0_0, .slice A0_1 l0_1.length c0_1, .slice A0_2 l0_2.length c0_2, .slice A0_3 l0_3.length c0_3, .int .i64 a0_4, .int .i64 a0_5, .int .i64 a0_6], .slice A1 l1.length c1] rfl tM ?_; (with_reducible refine (b_asked.calls k _ _ l0_0 _ _ l0_1 _ _ l0_2 _ _ l0_3 a0_4 a0_5 a0_6 _ _ l1 t313 _ (cS (Kd.C_below HR0_0.out HB.out)) HC0_0.out (cS (Kd.C_below HR0_1.out HB.out)) HC0_1.out (cS (Kd.C_below HR0_2.out HB.out)) HC0_2.out (cS (Kd.C_below HR0_3.out HB.out)) HC0_3.out (cS (Kd.C_below HR1.out HB.out)) HC1.out A3.out).mono ?_); rintro e w13 ⟨rfl, hb⟩; refine ⟨_, rfl, ?_⟩; replace BK312 := Sd.mk (blk_below (bkA BK312.out) hb); replace HB := Sd.mk (below_step (bBl HB.out) hb); (try clear hb); (try clear hb2); (try clear hk); (try clear hi)))
  go_ret2
  exact ⟨tE, bBl HB.out⟩
end
section
end
section
end
section
end
section
end
section
section
variable {o : List ByteArray} {mt : List S70} {s : List S27} {p : List S89} {a4 a5 a6 : Int}
theorem linesV_len : (linesV mt s p a4 a5 a6).length = 1 + 2 * (s.length + p.length) + 2 := by
  simp [linesV, headL_len]
end
section
variable (o : List ByteArray) (mt : List S70) (s : List S27) (p : List S89) (a4 a5 a6 : Int)
end
end
section
section
variable (o : List ByteArray) (mt : List S70) (s : List S27) (p : List S89) (a4 a5 a6 : Int) (r : List Int)
def may (m : S70) (n : Int) : Bool := decide (m.f3 ≤ n) && decide (n ≤ m.f4) && (Int.tmod (wrap64 (n - m.f3)) m.f5 == 0)
def mayL (mt : List S70) (r : List Int) : Nat → Nat → Bool
  | 0, _ => true
  | m + 1, i => may (rd_T70 mt (i : Int)) (rd r (i : Int)) && mayL mt r m (i + 1)
theorem bmay_l0 (H : BatchOk o mt s p a4 a5 a6) (hr : RecOk mt r) : ∀ (m i : Nat), i + m = mt.length → Ev (fun k => b_Allowed.l0 k r mt (mt.length : Int) (i : Int)) (mayL mt r m i, 0)
  | 0, i, hi => by
    apply Ev.step
    simp only [b_Allowed.l0, if_neg (show ¬ (i : Int) < (mt.length : Int) by omega), mayL]
    exact Ev.const _
  | m + 1, i, hi => by
    have ih := bmay_l0 H hr m (i + 1) (by omega)
    have M := H.mats i (by omega)
    have hm := H.m12
    have hrl := hr.len
    have hs : ¬ (rd_T70 mt (i : Int)).f5 = 0 := by have := M.step; omega
    apply Ev.step
    simp only [b_Allowed.l0, if_pos (show (i : Int) < (mt.length : Int) by omega), if_pos (i_pos i), if_pos (show (i : Int) < (r.length : Int) by omega), if_neg hs, wrap_succ (i_pos i) (show (i : Int) ≤ 1000000000 by omega), b_within.f, mayL, may]
    by_cases h1 : rd r (i : Int) ≥ (rd_T70 mt (i : Int)).f3
    · by_cases h2 : rd r (i : Int) ≤ (rd_T70 mt (i : Int)).f4
      · simp only [if_pos h1, decide_eq_true h1, decide_eq_true h2, Option.bind_some, if_true, Bool.true_and]
        by_cases h3 : Int.tmod (wrap64 (rd r (i : Int) - (rd_T70 mt (i : Int)).f3)) (rd_T70 mt (i : Int)).f5 = 0
        · simp only [if_pos h3, beq_iff_eq.2 h3, Bool.true_and]; exact ih
        · simp only [if_neg h3, beq_eq_false_iff_ne.2 h3, Bool.false_and]; exact Ev.const _
      · simp only [if_pos h1, decide_eq_true h1, decide_eq_false h2, Option.bind_some, Bool.false_eq_true, if_false, Bool.true_and, Bool.false_and]; exact Ev.const _
    · simp only [if_neg h1, decide_eq_false h1, Option.bind_some, Bool.false_eq_true, if_false, Bool.false_and]; exact Ev.const _
def MayV : Bool × Int := if askV o mt s p a4 a5 a6 r = 0 then (mayL mt r mt.length 0, 0) else (false, askV o mt s p a4 a5 a6 r)
theorem bAllowed : Ev (fun k => b_Allowed.f k o mt s p a4 a5 a6 r) (MayV o mt s p a4 a5 a6 r) := by
  unfold b_Allowed.f MayV
  refine Ev.bind (basked o mt s p a4 a5 a6 r) ?_
  by_cases h : askV o mt s p a4 a5 a6 r = 0
  · obtain ⟨H, hr⟩ := ask_ok h
    simp only [if_pos h]
    exact bmay_l0 o mt s p a4 a5 a6 r H hr mt.length 0 (by omega)
  · simp only [if_neg h]; exact Ev.const _
def cW (mt : List S70) (r : List Int) : Nat → Int
  | 0 => 0
  | i + 1 => wrap64 (cW mt r i + wrap64 (rd r (i : Int) * (rd_T70 mt (i : Int)).f1))
theorem bcost_l0 (hm : mt.length ≤ 12) (hrl : r.length = mt.length) : ∀ (m i : Nat), i + m = mt.length → Ev (fun k => b_cost.l0 k r (cW mt r i) mt (mt.length : Int) (i : Int)) (cW mt r mt.length)
  | 0, i, hi => by
    apply Ev.step
    simp only [b_cost.l0, if_neg (show ¬ (i : Int) < (mt.length : Int) by omega)]
    rw [show i = mt.length by omega]
    exact Ev.const _
  | m + 1, i, hi => by
    have ih := bcost_l0 hm hrl m (i + 1) (by omega)
    apply Ev.step
    simp only [b_cost.l0, if_pos (show (i : Int) < (mt.length : Int) by omega), if_pos (i_pos i), if_pos (show (i : Int) < (r.length : Int) by omega), wrap_succ (i_pos i) (show (i : Int) ≤ 1000000000 by omega)]
    exact ih
def CostV : Int × Int := if askV o mt s p a4 a5 a6 r = 0 then (cW mt r mt.length, 0) else (0, askV o mt s p a4 a5 a6 r)
theorem bCost : Ev (fun k => b_Cost.f k o mt s p a4 a5 a6 r) (CostV o mt s p a4 a5 a6 r) := by
  unfold b_Cost.f CostV
  refine Ev.bind (basked o mt s p a4 a5 a6 r) ?_
  by_cases h : askV o mt s p a4 a5 a6 r = 0
  · obtain ⟨H, hr⟩ := ask_ok h
    simp only [if_pos h]
    exact Ev.bind (bcost_l0 mt r H.m12 hr.len mt.length 0 (by omega)) (Ev.const _)
  · simp only [if_neg h]; exact Ev.const _
end
section
variable (o : List ByteArray) (mt : List S70) (s : List S27) (p : List S89) (a4 a5 a6 : Int) (r q : List Int) (n b3 b4 : Int) (l5 : List Int)
end
end
section
def b_few.l0 : Nat → Int → List (S70) → Int → Int → Option (Bool)
 | 0, _, _, _, _ => none
 | k + 1, x3, x7, x8, x9 => if x9 < x8 then (if 0 ≤ x9 then (if x9 < (x7.length : Int) then (if ((rd_T70 x7 x9).f5) = 0 then (none) else (if (wrap64 (x3 * (wrap64 ((wrap64 (Int.tdiv (wrap64 (((rd_T70 x7 x9).f4) - ((rd_T70 x7 x9).f3))) ((rd_T70 x7 x9).f5))) + 1)))) > 100000 then (some false) else (b_few.l0 k (wrap64 (x3 * (wrap64 ((wrap64 (Int.tdiv (wrap64 (((rd_T70 x7 x9).f4) - ((rd_T70 x7 x9).f3))) ((rd_T70 x7 x9).f5))) + 1)))) x7 x8 (wrap64 (x9 + 1))))) else (none)) else (none)) else (some true)
def b_few.f (k : Nat) (l0_0 : List ByteArray) (l0_1 : List (S70)) (l0_2 : List (S27)) (l0_3 : List (S89)) (a0_4 : Int) (a0_5 : Int) (a0_6 : Int) : Option (Bool) := b_few.l0 k 1 l0_1 (l0_1.length : Int) 0
theorem b_few.calls (k : Nat) (A0_0 : Option Addr) (c0_0 : Nat) (l0_0 : List ByteArray) (A0_1 : Option Addr) (c0_1 : Nat) (l0_1 : List (S70)) (A0_2 : Option Addr) (c0_2 : Nat) (l0_2 : List (S27)) (A0_3 : Option Addr) (c0_3 : Nat) (l0_3 : List (S89)) (a0_4 : Int) (a0_5 : Int) (a0_6 : Int) (r : Bool) (w : World) (hr0_0 : Kd.C Kd.string w A0_0 l0_0.length l0_0) (hc0_0 : l0_0.length ≤ c0_0) (hr0_1 : Kd.C k70 w A0_1 l0_1.length l0_1) (hc0_1 : l0_1.length ≤ c0_1) (hr0_2 : Kd.C k27 w A0_2 l0_2.length l0_2) (hc0_2 : l0_2.length ≤ c0_2) (hr0_3 : Kd.C k89 w A0_3 l0_3.length l0_3) (hc0_3 : l0_3.length ≤ c0_3) (h : b_few.f k l0_0 l0_1 l0_2 l0_3 a0_4 a0_5 a0_6 = some r) :
  Calls Tryz.prog 88 #[.agg #[.slice A0_0 l0_0.length c0_0, .slice A0_1 l0_1.length c0_1, .slice A0_2 l0_2.length c0_2, .slice A0_3 l0_3.length c0_3, .int .i64 a0_4, .int .i64 a0_5, .int .i64 a0_6]] w fun e w' => e = .returned (.bool r) ∧ Below w.heap.size w w' := by
 have hu29 := Tryz.underlying29; have hu70 := Tryz.underlying70; have HR0_0 := Sd.mk hr0_0; have HC0_0 := Sd.mk hc0_0; clear hr0_0 hc0_0; have HR0_1 := Sd.mk hr0_1; have HC0_1 := Sd.mk hc0_1; clear hr0_1 hc0_1; have HR0_2 := Sd.mk hr0_2; have HC0_2 := Sd.mk hc0_2; clear hr0_2 hc0_2; have HR0_3 := Sd.mk hr0_3; have HC0_3 := Sd.mk hc0_3; clear hr0_3 hc0_3; have HB := Sd.mk (Below.refl w.heap.size w)
 have H : (b_few.l0 k 1 l0_1 (l0_1.length : Int) 0) = some r := h
 clear h; have H' := Sd.mk H; clear H
 go_enter Tryz.func88, Tryz.ntmps88
 go_wp2_with (first | ((with_reducible refine gate_dst (N := 1) rfl ?_); refine box_event ?hg (N := 1) ?hd (cs := #[.slice A0_0 l0_0.length c0_0, .slice A0_1 l0_1.length c0_1, .slice A0_2 l0_2.length c0_2, .slice A0_3 l0_3.length c0_3, .int .i64 a0_4, .int .i64 a0_5, .int .i64 a0_6]) (t := 29) ?hr ?_; (case hd => rfl); (case hg => rfl); (case hr => exact tG); intro gb484 hg w2 hbox hb; have BK484 := Sd.mk (hbox); have GW484 := Sd.mk (bSz hg (bBl HB.out)); have GE484 := Sd.mk (bSz hg (bBl HB.out)); replace HB := Sd.mk (below_step (bBl HB.out) hb); clear hb hbox hg; obtain ⟨u3_0, u3_1, u3_2, u3_3, u3_4, u3_5, u3_6, o3_0, o3_1, o3_2, o3_3, o3_4, o3_5, o3_6⟩ := bc7 (w := w2) BK484.out))
 go_loopg [3, 9] k (fun kq v3 v9 w' => ∃ (x3_1 : Int) (x9_1 : Int), v3 = .int .i64 x3_1 ∧ v9 = .int .i64 x9_1 ∧ Sd (b_few.l0 kq x3_1 l0_1 (l0_1.length : Int) x9_1 = some r) ∧ Sd (kq ≤ k) ∧ Sd (w'.heap[gb484]? = some (.cells #[(.slice A0_0 l0_0.length c0_0), (.slice A0_1 l0_1.length c0_1), (.slice A0_2 l0_2.length c0_2), (.slice A0_3 l0_3.length c0_3), .int .i64 a0_4, .int .i64 a0_5, .int .i64 a0_6] 29 (0, 0))) ∧ Sd (Below w.heap.size w w'))
 case atStart => exact ⟨(1), (0), tS, tS, H', ⟨Nat.le_refl _⟩, ⟨bkA BK484.out⟩, ⟨bBl HB.out⟩⟩
 case round =>
  clear H'; (try clear p2); (try clear u3_0 u3_1 u3_2 u3_3 u3_4 u3_5 u3_6); (try clear o3_0 o3_1 o3_2 o3_3 o3_4 o3_5 o3_6); obtain ⟨x3_1, x9_1, rfl, rfl, HA, HK1, BK484, HB⟩ := hrel
  cases gk with
  | zero => exact absurd HA.out (by simp [b_few.l0])
  | succ k1 =>
   have H := HA.out; clear HA
   simp only [b_few.l0] at H
   by_cases c4 : x9_1 < (l0_1.length : Int)
   ·rw [if_pos c4] at H
    have c4b0 : decide (x9_1 < (l0_1.length : Int)) = true := decide_eq_true c4
    clear c4
    by_cases c5 : 0 ≤ x9_1
    ·rw [if_pos c5] at H
     have c5b0 : decide (0 ≤ x9_1) = true := decide_eq_true c5
     clear c5
     by_cases c6 : x9_1 < (l0_1.length : Int)
     ·rw [if_pos c6] at H
      have c6b0 : decide (x9_1 < (l0_1.length : Int)) = true := decide_eq_true c6
      clear c6
      by_cases c7 : ((rd_T70 l0_1 x9_1).f5) = 0
      ·rw [if_pos c7] at H
       exact absurd H (by simp)
      ·rw [if_neg c7] at H
       have c7b0 : (((rd_T70 l0_1 x9_1).f5) == 0) = false := beq_eq_false_iff_ne.mpr c7
       have c7b1 : (((rd_T70 l0_1 x9_1).f5) != 0) = true := bne_iff_ne.mpr c7
       by_cases c8 : (wrap64 (x3_1 * (wrap64 ((wrap64 (Int.tdiv (wrap64 (((rd_T70 l0_1 x9_1).f4) - ((rd_T70 l0_1 x9_1).f3))) ((rd_T70 l0_1 x9_1).f5))) + 1)))) > 100000
       ·rw [if_pos c8] at H
        have c8b0 : decide (100000 < (wrap64 (x3_1 * (wrap64 ((wrap64 (Int.tdiv (wrap64 (((rd_T70 l0_1 x9_1).f4) - ((rd_T70 l0_1 x9_1).f3))) ((rd_T70 l0_1 x9_1).f5))) + 1))))) = true := decide_eq_true c8
        clear c8; obtain rfl := Option.some.inj H
        have p485 : 0 ≤ (x9_1 : Int) := tB
        have q485 : x9_1 < (l0_1.length : Int) := tB
        obtain ⟨ad485, A485_6, c485_6, e485, hx485_0, hx485_1, hx485_2, hx485_3, hx485_4, hx485_5, hx485_6, hl485_6, hi485_6⟩ := at_T70 HR0_1.out x9_1 p485 q485; cases e485; replace hx485_0 := cU HB hx485_0; replace hx485_1 := cU HB hx485_1; replace hx485_2 := cU HB hx485_2; replace hx485_3 := cU HB hx485_3; replace hx485_4 := cU HB hx485_4; replace hx485_5 := cU HB hx485_5; replace hx485_6 := cU HB hx485_6; have HR485_6 := Sd.mk hi485_6; have HC485_6 := Sd.mk hl485_6; clear hi485_6 hl485_6; replace p485 := eq_true p485; replace q485 := eq_true q485
        go_wp2_with (first | ((with_reducible refine gate_dst (N := 5) rfl ?_); refine box_event ?hg (N := 5) ?hd (cs := #[.string (⟨#[]⟩ : ByteArray), .int .i64 0, .int .i64 0, .int .i64 0, .int .i64 0, .int .i64 0, .slice none 0 0]) (t := 70) ?hr ?_; (case hd => rfl); (case hg => rfl); (case hr => exact tG); intro gb486 hg w9 hbox hb; have BK486 := Sd.mk (hbox); have GW486 := Sd.mk (bSz hg (bBl HB.out)); have GE486 := Sd.mk (bSz hg (bBl HB.out)); replace HB := Sd.mk (below_step (bBl HB.out) hb); have NB484_486 := Sd.mk (bNl hg (bkA BK484.out)); have NB486_484 := Sd.mk (bNg hg (bkA BK484.out)); replace BK484 := Sd.mk (blk_below (bkA BK484.out) hb); clear hb hbox hg; have hnb10 := NB486_484.out; have hnc10 := NB484_486.out; obtain ⟨u11_0, u11_1, u11_2, u11_3, u11_4, u11_5, u11_6, o11_0, o11_1, o11_2, o11_3, o11_4, o11_5, o11_6⟩ := bc7 (w := w9) BK486.out))
        go_ret
        exact ⟨tE, bBl HB.out⟩
       ·rw [if_neg c8] at H
        have c8b0 : decide (100000 < (wrap64 (x3_1 * (wrap64 ((wrap64 (Int.tdiv (wrap64 (((rd_T70 l0_1 x9_1).f4) - ((rd_T70 l0_1 x9_1).f3))) ((rd_T70 l0_1 x9_1).f5))) + 1))))) = false := decide_eq_false c8
        clear c8; have H' := Sd.mk H; clear H
        have p485 : 0 ≤ (x9_1 : Int) := tB
        have q485 : x9_1 < (l0_1.length : Int) := tB
        obtain ⟨ad485, A485_6, c485_6, e485, hx485_0, hx485_1, hx485_2, hx485_3, hx485_4, hx485_5, hx485_6, hl485_6, hi485_6⟩ := at_T70 HR0_1.out x9_1 p485 q485; cases e485; replace hx485_0 := cU HB hx485_0; replace hx485_1 := cU HB hx485_1; replace hx485_2 := cU HB hx485_2; replace hx485_3 := cU HB hx485_3; replace hx485_4 := cU HB hx485_4; replace hx485_5 := cU HB hx485_5; replace hx485_6 := cU HB hx485_6; have HR485_6 := Sd.mk hi485_6; have HC485_6 := Sd.mk hl485_6; clear hi485_6 hl485_6; replace p485 := eq_true p485; replace q485 := eq_true q485
        go_wp2_with (first | ((with_reducible refine gate_dst (N := 5) rfl ?_); refine box_event ?hg (N := 5) ?hd (cs := #[.string (⟨#[]⟩ : ByteArray), .int .i64 0, .int .i64 0, .int .i64 0, .int .i64 0, .int .i64 0, .slice none 0 0]) (t := 70) ?hr ?_; (case hd => rfl); (case hg => rfl); (case hr => exact tG); intro gb486 hg w12 hbox hb; have BK486 := Sd.mk (hbox); have GW486 := Sd.mk (bSz hg (bBl HB.out)); have GE486 := Sd.mk (bSz hg (bBl HB.out)); replace HB := Sd.mk (below_step (bBl HB.out) hb); have NB484_486 := Sd.mk (bNl hg (bkA BK484.out)); have NB486_484 := Sd.mk (bNg hg (bkA BK484.out)); replace BK484 := Sd.mk (blk_below (bkA BK484.out) hb); clear hb hbox hg; have hnb13 := NB486_484.out; have hnc13 := NB484_486.out; obtain ⟨u14_0, u14_1, u14_2, u14_3, u14_4, u14_5, u14_6, o14_0, o14_1, o14_2, o14_3, o14_4, o14_5, o14_6⟩ := bc7 (w := w12) BK486.out))
        go_roundg k1
        case measure => have := HK1.out; omega
        case rel => exact ⟨(wrap64 (x3_1 * (wrap64 ((wrap64 (Int.tdiv (wrap64 (((rd_T70 l0_1 x9_1).f4) - ((rd_T70 l0_1 x9_1).f3))) ((rd_T70 l0_1 x9_1).f5))) + 1)))), (wrap64 (x9_1 + 1)), tS, tS, H', ⟨by have := HK1.out; omega⟩, ⟨by refine bkZ ?_; refine blk_far ?_ NB484_486.out _; refine bkZ ?_; refine blk_far ?_ NB484_486.out _; refine bkZ ?_; refine blk_far ?_ NB484_486.out _; refine bkZ ?_; refine blk_far ?_ NB484_486.out _; refine bkZ ?_; refine blk_far ?_ NB484_486.out _; refine bkZ ?_; refine blk_far ?_ NB484_486.out _; refine bkZ ?_; refine blk_far ?_ NB484_486.out _; refine bkZ ?_; exact BK484.out⟩, ⟨bBl HB.out⟩⟩
     ·rw [if_neg c6] at H
      exact absurd H (by simp)
    ·rw [if_neg c5] at H
     exact absurd H (by simp)
   ·rw [if_neg c4] at H
    have c4b0 : decide (x9_1 < (l0_1.length : Int)) = false := decide_eq_false c4
    clear c4; obtain rfl := Option.some.inj H
    go_wp2
    go_ret
    exact ⟨tE, bBl HB.out⟩
end
section
theorem MatOk.b {n : Nat} {x : S70} (h : MatOk n x) : MatB x := ⟨h.least.1, h.most.1, h.most.2, h.step.1, h.step.2⟩
theorem mats_b {o : List ByteArray} {mt : List S70} {s : List S27} {p : List S89} {a4 a5 a6 : Int} (H : BatchOk o mt s p a4 a5 a6) : ∀ m ∈ mt, MatB m := by
 intro m hm
 obtain ⟨i, hi, rfl⟩ := List.getElem_of_mem hm
 have := (H.mats i hi).b
 simpa [rd_T70, hi] using this
theorem kilosF_mem (s : Int) (hs : 0 ≤ s) : ∀ (c : Nat) (k x : Int), x ∈ kilosF s c k → ∃ j : Nat, j < c ∧ x = k + (j : Int) * s
 | 0, _, _, h => by simp [kilosF] at h
 | c + 1, k, x, h => by
  rw [kilosF, List.mem_cons] at h
  rcases h with rfl | h
  ·exact ⟨0, by omega, by simp⟩
  ·obtain ⟨j, hj, rfl⟩ := kilosF_mem s hs c (k + s) x h
   exact ⟨j + 1, by omega, by push_cast; rw [Int.add_mul, Int.one_mul]; omega⟩
theorem kilosF_bd {m : S70} (M : MatB m) {x : Int} (h : x ∈ kilosF m.f5 (cntM m) m.f3) : m.f3 ≤ x ∧ x ≤ m.f4 ∧ Int.tmod (x - m.f3) m.f5 = 0 := by
 obtain ⟨j, hj, rfl⟩ := kilosF_mem m.f5 (by have := M.s1; omega) _ _ _ h
 have h1 := (cntM_last M).1
 have h2 : (j : Int) * m.f5 ≤ ((cntM m : Int) - 1) * m.f5 := Int.mul_le_mul_of_nonneg_right (by omega) (by have := M.s1; omega)
 have h3 : 0 ≤ (j : Int) * m.f5 := Int.mul_nonneg (by omega) (by have := M.s1; omega)
 refine ⟨by omega, by omega, ?_⟩
 rw [show m.f3 + (j : Int) * m.f5 - m.f3 = (j : Int) * m.f5 by omega]
 exact Int.mul_tmod_left _ _
theorem allR_rec : ∀ (mt : List S70), (∀ m ∈ mt, MatB m) → ∀ r ∈ allR mt, RecOk mt r
 | [], _, r, h => ⟨allR_len _ _ h, fun j hj => by simp at hj⟩
 | m :: ms, H, r, h => by
  have h' := h
  simp only [allR, List.mem_flatMap, List.mem_map] at h
  obtain ⟨k, hk, q, hq, rfl⟩ := h
  have ih := allR_rec ms (fun x hx => H x (List.mem_cons_of_mem _ hx)) q hq
  have M := H m List.mem_cons_self
  have hb := kilosF_bd M hk
  refine ⟨allR_len _ _ h', fun j hj => ?_⟩
  cases j with
  | zero => exact ⟨by have := M.lo; simp [rd]; omega, by have := M.hi; simp [rd]; omega⟩
  | succ j =>
   have := ih.kilos j (by simpa using hj)
   simpa [rd] using this
theorem rsAt_rec {mt : List S70} (H : ∀ m ∈ mt, MatB m) (k : Nat) (hk : k < (allR mt).length) : RecOk mt (rsAt mt k) := by
 unfold rsAt
 rw [getD_lt _ _ _ hk]
 exact allR_rec mt H _ (List.getElem_mem hk)
def bestV (mt : List S70) (s : List S27) (p : List S89) (a4 a5 a6 : Int) : List Int × Int × Bool :=
 (allR mt).foldl (chStep (passB mt s p a4 a5 a6) (fun r => cW mt r mt.length)) ([], 0, false)
theorem chF_best (mt : List S70) (s : List S27) (p : List S89) (a4 a5 a6 : Int) : chF (passB mt s p a4 a5 a6) (fun r => cW mt r mt.length) (rsAt mt) (allR mt).length = bestV mt s p a4 a5 a6 := by
 unfold chF bestV
 rw [rs_map]
def b_Best.f (k : Nat) (o : List ByteArray) (mt : List S70) (s : List S27) (p : List S89) (a4 a5 a6 : Int) : Option (List Int × Int × Bool × Int) :=
 (b_Check.f k o mt s p a4 a5 a6).bind fun e => if e = 0 then (b_few.f k o mt s p a4 a5 a6).bind fun b => if b = true then (if checkV o mt s p a4 a5 a6 = 0 then some ((bestV mt s p a4 a5 a6).1, (bestV mt s p a4 a5 a6).2.1, (bestV mt s p a4 a5 a6).2.2, 0) else none) else some ([], 0, false, 9) else some ([], 0, false, e)
theorem best1_calls (Bl : Nat) (Al : Option Addr) (cl : Nat) (ls : List S168) (A : Addr) (r : List Int) (b : Bool) (W : World) (hl : W.heap[Bl]? = some (.cells #[.slice Al ls.length cl] 100 (0, 0))) (hr : Kd.C k168 W Al ls.length ls) (hc : ls.length ≤ cl)
  (hri : Kd.C (Kd.int .i64) W (some A) r.length r) (h : x_keeps.f ls r 1 = some b) :
  Calls Tryz.prog 90 #[.slice (some A) r.length r.length, .pointer (some ⟨Bl, 0, none⟩)] W fun e W' => e = .returned (.bool b) ∧ Below W.heap.size W W' := by
 have hx : W.cell? ⟨Bl, 0, none⟩ = some (.slice Al ls.length cl) := (blk_cell hl 0).trans rfl
 have HC := x_keeps.calls Al cl ls (some A) r.length r 1 b W hr hc hri (Nat.le_refl _) h
 go_enter Tryz.func90, Tryz.ntmps90
 go_wp2_with (go_at_call 51; (with_reducible refine HC.mono ?_); rintro e w' ⟨rfl, hb⟩)
 go_ret
 exact ⟨rfl, hb⟩
theorem b_Best.calls (k : Nat) (A0_0 : Option Addr) (c0_0 : Nat) (l0_0 : List ByteArray) (A0_1 : Option Addr) (c0_1 : Nat) (l0_1 : List (S70)) (A0_2 : Option Addr) (c0_2 : Nat) (l0_2 : List (S27)) (A0_3 : Option Addr) (c0_3 : Nat) (l0_3 : List (S89)) (a0_4 : Int) (a0_5 : Int) (a0_6 : Int) (r1 : List Int) (r2 : Int) (r3 : Bool) (r4 : Int) (w : World) (hr0_0 : Kd.C Kd.string w A0_0 l0_0.length l0_0) (hc0_0 : l0_0.length ≤ c0_0) (hr0_1 : Kd.C k70 w A0_1 l0_1.length l0_1) (hc0_1 : l0_1.length ≤ c0_1) (hr0_2 : Kd.C k27 w A0_2 l0_2.length l0_2) (hc0_2 : l0_2.length ≤ c0_2) (hr0_3 : Kd.C k89 w A0_3 l0_3.length l0_3) (hc0_3 : l0_3.length ≤ c0_3) (h : b_Best.f k l0_0 l0_1 l0_2 l0_3 a0_4 a0_5 a0_6 = some (r1, r2, r3, r4)) :
  Calls Tryz.prog 28 #[.agg #[.slice A0_0 l0_0.length c0_0, .slice A0_1 l0_1.length c0_1, .slice A0_2 l0_2.length c0_2, .slice A0_3 l0_3.length c0_3, .int .i64 a0_4, .int .i64 a0_5, .int .i64 a0_6]] w fun e w' => ∃ v0_ : Value, e = .returned (.tuple #[v0_, .int .i64 r2, .bool r3, .int .i64 r4]) ∧ Kd.R (Kd.int .i64) 3 w' w.heap.size (fun _ => True) v0_ r1 ∧ Below w.heap.size w w' := by
 unfold b_Best.f at h
 obtain ⟨e0, he0, H⟩ := Option.bind_eq_some_iff.mp h
 clear h
 have BX := Sd.mk (blk_new w (.cells #[.slice A0_0 l0_0.length c0_0, .slice A0_1 l0_1.length c0_1, .slice A0_2 l0_2.length c0_2, .slice A0_3 l0_3.length c0_3, .int .i64 a0_4, .int .i64 a0_5, .int .i64 a0_6] 29))
 have HB := Sd.mk (below_alloc (Below.refl w.heap.size w) (.cells #[.slice A0_0 l0_0.length c0_0, .slice A0_1 l0_1.length c0_1, .slice A0_2 l0_2.length c0_2, .slice A0_3 l0_3.length c0_3, .int .i64 a0_4, .int .i64 a0_5, .int .i64 a0_6] 29))
 have HR := Sd.mk (And.intro hr0_0 (And.intro hr0_1 (And.intro hr0_2 hr0_3)))
 clear hr0_0 hr0_1 hr0_2 hr0_3
 have HE := Sd.mk he0
 have HH := Sd.mk H
 clear he0 H
 go_enter Tryz.func28, Tryz.ntmps28
 go_upto_region 1 with (fail)
 generalize w.alloc (.cells #[.slice A0_0 l0_0.length c0_0, .slice A0_1 l0_1.length c0_1, .slice A0_2 l0_2.length c0_2, .slice A0_3 l0_3.length c0_3, .int .i64 a0_4, .int .i64 a0_5, .int .i64 a0_6] 29) = W0 at BX HB ⊢
 obtain ⟨g0, g1, g2, g3, g4, g5, g6, _⟩ := bc7 BX.out
 go_upto_region 2 with (go_at_call 34; (refine (b_Check.calls k A0_0 c0_0 l0_0 A0_1 c0_1 l0_1 A0_2 c0_2 l0_2 A0_3 c0_3 l0_3 a0_4 a0_5 a0_6 e0 _ (Kd.C_below HR.out.1 HB.out) hc0_0 (Kd.C_below HR.out.2.1 HB.out) hc0_1 (Kd.C_below HR.out.2.2.1 HB.out) hc0_2 (Kd.C_below HR.out.2.2.2 HB.out) hc0_3 HE.out).mono ?_); rintro e W1 ⟨rfl, hb⟩; clear g0 g1 g2 g3 g4 g5 g6; replace BX := Sd.mk (blk_below BX.out hb); replace HB := Sd.mk (below_then HB.out HB.out.size hb); clear hb; obtain ⟨g0, g1, g2, g3, g4, g5, g6, _⟩ := bc7 BX.out)
 by_cases hz : e0 = 0
 ·have H := HH.out
  rw [if_pos hz] at H
  obtain ⟨b0, hb0, H⟩ := Option.bind_eq_some_iff.mp H
  have HF := Sd.mk hb0
  replace HH := Sd.mk H
  clear H hb0
  cases b0 with
  | false =>
   have H := HH.out
   simp only [Bool.false_eq_true, if_false, Option.some.injEq, Prod.mk.injEq] at H
   obtain ⟨rfl, rfl, rfl, rfl⟩ := H
   clear HH
   go_wp2_with (first | (go_at_call 88; (refine (b_few.calls k A0_0 c0_0 l0_0 A0_1 c0_1 l0_1 A0_2 c0_2 l0_2 A0_3 c0_3 l0_3 a0_4 a0_5 a0_6 _ _ (Kd.C_below HR.out.1 HB.out) hc0_0 (Kd.C_below HR.out.2.1 HB.out) hc0_1 (Kd.C_below HR.out.2.2.1 HB.out) hc0_2 (Kd.C_below HR.out.2.2.2 HB.out) hc0_3 HF.out).mono ?_); rintro e W2 ⟨rfl, hb⟩; clear g0 g1 g2 g3 g4 g5 g6; replace BX := Sd.mk (blk_below BX.out hb); replace HB := Sd.mk (below_then HB.out HB.out.size hb); clear hb; obtain ⟨g0, g1, g2, g3, g4, g5, g6, _⟩ := bc7 BX.out))
   refine bodyPost_ret (v := .tuple #[.slice none 0 0, .int .i64 0, .bool false, .int .i64 9]) (by simp [results, Tryz.results28]) rfl ?_
   exact ⟨_, rfl, Kd.R_nil _ _ _ _ _, HB.out⟩
  | true =>
   have H := HH.out
   rw [if_pos rfl] at H
   by_cases hck : checkV l0_0 l0_1 l0_2 l0_3 a0_4 a0_5 a0_6 = 0
   rotate_left
   ·rw [if_neg hck] at H; cases H
   rw [if_pos hck] at H
   simp only [Option.some.injEq, Prod.mk.injEq] at H
   obtain ⟨rfl, rfl, rfl, rfl⟩ := H
   have CKV := Sd.mk hck
   clear HH hck
   go_upto_region 7 with (first | (go_at_call 88; (refine (b_few.calls k A0_0 c0_0 l0_0 A0_1 c0_1 l0_1 A0_2 c0_2 l0_2 A0_3 c0_3 l0_3 a0_4 a0_5 a0_6 _ _ (Kd.C_below HR.out.1 HB.out) hc0_0 (Kd.C_below HR.out.2.1 HB.out) hc0_1 (Kd.C_below HR.out.2.2.1 HB.out) hc0_2 (Kd.C_below HR.out.2.2.2 HB.out) hc0_3 HF.out).mono ?_); rintro e W2 ⟨rfl, hb⟩; clear g0 g1 g2 g3 g4 g5 g6; replace BX := Sd.mk (blk_below BX.out hb); replace HB := Sd.mk (below_then HB.out HB.out.size hb); clear hb; obtain ⟨g0, g1, g2, g3, g4, g5, g6, _⟩ := bc7 BX.out) | (go_at_call 52; (refine (x_lines.calls A0_0 c0_0 l0_0 A0_1 c0_1 l0_1 A0_2 c0_2 l0_2 A0_3 c0_3 l0_3 a0_4 a0_5 a0_6 (linesV l0_1 l0_2 l0_3 a0_4 a0_5 a0_6) _ (Kd.C_below HR.out.1 HB.out) hc0_0 (Kd.C_below HR.out.2.1 HB.out) hc0_1 (Kd.C_below HR.out.2.2.1 HB.out) hc0_2 (Kd.C_below HR.out.2.2.2 HB.out) hc0_3 (by unfold x_lines.f; rw [if_pos CKV.out])).mono ?_); rintro e W3 ⟨v3, rfl, hl3, hb⟩; obtain ⟨A9, c9, rfl, hlc, hl9⟩ := Kd.R_reads hl3; have LN := Sd.mk (And.intro hlc hl9); clear hlc hl9 hl3; clear g0 g1 g2 g3 g4 g5 g6; replace BX := Sd.mk (blk_below BX.out hb); replace HB := Sd.mk (below_then HB.out HB.out.size hb); clear hb; obtain ⟨g0, g1, g2, g3, g4, g5, g6, _⟩ := bc7 BX.out))
   have BL := Sd.mk (blk_new W3 (.cells #[.slice A9 (linesV l0_1 l0_2 l0_3 a0_4 a0_5 a0_6).length c9] 100))
   have hb := below_alloc (Below.refl W3.heap.size W3) (.cells #[.slice A9 (linesV l0_1 l0_2 l0_3 a0_4 a0_5 a0_6).length c9] 100)
   replace LN := Sd.mk (And.intro LN.out.1 (Kd.C_below LN.out.2 hb))
   clear g0 g1 g2 g3 g4 g5 g6; replace BX := Sd.mk (blk_below BX.out hb); replace HB := Sd.mk (below_then HB.out HB.out.size hb); clear hb
   generalize W3.alloc (.cells #[.slice A9 (linesV l0_1 l0_2 l0_3 a0_4 a0_5 a0_6).length c9] 100) = W4 at BX HB BL LN ⊢
   generalize W3.heap.size = Bl at BL ⊢
   obtain ⟨g0, g1, g2, g3, g4, g5, g6, _⟩ := bc7 BX.out
   have HK := check_ok CKV.out
   have hBl := blk_lt BL.out
   have HC := cheapest_calls 90 #[.pointer (some ⟨Bl, 0, none⟩)] A0_0 A0_1 A0_2 A0_3 c0_0 c0_1 c0_2 c0_3 l0_0 l0_1 l0_2 l0_3 a0_4 a0_5 a0_6 (enters_of Tryz.func90 (by kernel_rfl) rfl) (passB l0_1 l0_2 l0_3 a0_4 a0_5 a0_6) (fun r => cW l0_1 r l0_1.length) (allR l0_1).length (rsAt l0_1) (fun W => Below W4.heap.size W4 W) W4 (by have := HK.m1; omega) HK.m12 hc0_0 hc0_1 hc0_2 hc0_3 (allR_pos l0_1) (rsAt_zero l0_1) (rsAt_len l0_1) (rsAt_next l0_1 (mats_b HK))
    (fun i hi => by
     obtain ⟨K, hK⟩ := bcost_l0 l0_1 (rsAt l0_1 i) HK.m12 (rsAt_len l0_1 i) l0_1.length 0 (by omega)
     exact ⟨K, hK K (Nat.le_refl _)⟩)
    (fun W W' hb h => h.trans hb)
    (fun W h => ⟨Kd.C_below (Kd.C_below HR.out.1 HB.out) h, Kd.C_below (Kd.C_below HR.out.2.1 HB.out) h, Kd.C_below (Kd.C_below HR.out.2.2.1 HB.out) h, Kd.C_below (Kd.C_below HR.out.2.2.2 HB.out) h⟩)
    (fun i hi W A h hs _ hri => by
     have hq := best1_calls Bl A9 c9 (linesV l0_1 l0_2 l0_3 a0_4 a0_5 a0_6) A (rsAt l0_1 i) (passB l0_1 l0_2 l0_3 a0_4 a0_5 a0_6 (rsAt l0_1 i)) W (blk_below BL.out h) (Kd.C_below LN.out.2 h) LN.out.1 hri (keeps_f l0_0 l0_1 l0_2 l0_3 a0_4 a0_5 a0_6 (rsAt l0_1 i) HK (rsAt_rec (mats_b HK) i hi))
     exact Calls.mono hq (fun e W' he => ⟨he.1, h.trans (he.2.mono hs), KeepHi.of_below he.2⟩))
    (Below.refl _ _)
   rw [chF_best] at HC
   go_wp2_with (go_at_call 89; (refine HC.mono ?_); rintro e W5 ⟨v5, rfl, hv5, hb5, hs5⟩)
   refine bodyPost_ret (v := .tuple #[v5, .int .i64 (bestV l0_1 l0_2 l0_3 a0_4 a0_5 a0_6).2.1, .bool (bestV l0_1 l0_2 l0_3 a0_4 a0_5 a0_6).2.2, .int .i64 0]) (by simp [results, Tryz.results28]) rfl ?_
   exact ⟨_, rfl, Kd.R_lower (Kd.R_mono hv5 (fun _ _ => trivial)) HB.out.size, below_then HB.out HB.out.size hb5⟩
 ·have H := HH.out
  rw [if_neg hz] at H
  simp only [Option.some.injEq, Prod.mk.injEq] at H
  obtain ⟨rfl, rfl, rfl, rfl⟩ := H
  clear HH
  go_wp2
  refine bodyPost_ret (v := .tuple #[.slice none 0 0, .int .i64 0, .bool false, .int .i64 e0]) (by simp [results, Tryz.results28]) rfl ?_
  exact ⟨_, rfl, Kd.R_nil _ _ _ _ _, HB.out⟩
end
section
def rf_Choices.l0 : Nat → Int → Int → List ByteArray → List (S70) → List (S27) → List (S89) → Int → Int → Int → Option (Int)
 | 0, _, _, _, _, _, _, _, _, _ => none
 | k + 1, x3, x4, x887q0, x887q1, x887q2, x887q3, x887q4, x887q5, x887q6 => if x4 < (x887q1.length : Int) then (if x3 ≤ 100000 then (if 0 ≤ x4 then (if ((rd_T70 x887q1 x4).f5) = 0 then (none) else (rf_Choices.l0 k (wrap64 (x3 * (wrap64 ((wrap64 (Int.tdiv (wrap64 (((rd_T70 x887q1 x4).f4) - ((rd_T70 x887q1 x4).f3))) ((rd_T70 x887q1 x4).f5))) + 1)))) (wrap64 (x4 + 1)) x887q0 x887q1 x887q2 x887q3 x887q4 x887q5 x887q6)) else (none)) else (some x3)) else (some x3)
def rf_Choices.f (k : Nat) (l0_0 : List ByteArray) (l0_1 : List (S70)) (l0_2 : List (S27)) (l0_3 : List (S89)) (a0_4 : Int) (a0_5 : Int) (a0_6 : Int) : Option (Int) := rf_Choices.l0 k 1 0 l0_0 l0_1 l0_2 l0_3 a0_4 a0_5 a0_6
theorem rf_Choices.calls (k : Nat) (A0_0 : Option Addr) (c0_0 : Nat) (l0_0 : List ByteArray) (A0_1 : Option Addr) (c0_1 : Nat) (l0_1 : List (S70)) (A0_2 : Option Addr) (c0_2 : Nat) (l0_2 : List (S27)) (A0_3 : Option Addr) (c0_3 : Nat) (l0_3 : List (S89)) (a0_4 : Int) (a0_5 : Int) (a0_6 : Int) (r : Int) (w : World) (hr0_0 : Kd.C Kd.string w A0_0 l0_0.length l0_0) (hc0_0 : l0_0.length ≤ c0_0) (hr0_1 : Kd.C k70 w A0_1 l0_1.length l0_1) (hc0_1 : l0_1.length ≤ c0_1) (hr0_2 : Kd.C k27 w A0_2 l0_2.length l0_2) (hc0_2 : l0_2.length ≤ c0_2) (hr0_3 : Kd.C k89 w A0_3 l0_3.length l0_3) (hc0_3 : l0_3.length ≤ c0_3) (h : rf_Choices.f k l0_0 l0_1 l0_2 l0_3 a0_4 a0_5 a0_6 = some r) :
  Calls Tryz.prog 87 #[.agg #[.slice A0_0 l0_0.length c0_0, .slice A0_1 l0_1.length c0_1, .slice A0_2 l0_2.length c0_2, .slice A0_3 l0_3.length c0_3, .int .i64 a0_4, .int .i64 a0_5, .int .i64 a0_6]] w fun e w' => e = .returned (.int .i64 r) ∧ Below w.heap.size w w' := by
 have hu29 := Tryz.underlying29; have hu70 := Tryz.underlying70; have HR0_0 := Sd.mk hr0_0; have HC0_0 := Sd.mk hc0_0; clear hr0_0 hc0_0; have HR0_1 := Sd.mk hr0_1; have HC0_1 := Sd.mk hc0_1; clear hr0_1 hc0_1; have HR0_2 := Sd.mk hr0_2; have HC0_2 := Sd.mk hc0_2; clear hr0_2 hc0_2; have HR0_3 := Sd.mk hr0_3; have HC0_3 := Sd.mk hc0_3; clear hr0_3 hc0_3; have HB := Sd.mk (Below.refl w.heap.size w)
 have H : (rf_Choices.l0 k 1 0 l0_0 l0_1 l0_2 l0_3 a0_4 a0_5 a0_6) = some r := h
 clear h; have H' := Sd.mk H; clear H
 go_enter Tryz.func87, Tryz.ntmps87
 go_wp2_with (first | ((with_reducible refine gate_dst (N := 1) rfl ?_); refine box_event ?hg (N := 1) ?hd (cs := #[.slice A0_0 l0_0.length c0_0, .slice A0_1 l0_1.length c0_1, .slice A0_2 l0_2.length c0_2, .slice A0_3 l0_3.length c0_3, .int .i64 a0_4, .int .i64 a0_5, .int .i64 a0_6]) (t := 29) ?hr ?_; (case hd => rfl); (case hg => rfl); (case hr => exact tG); intro gb886 hg w2 hbox hb; have BK886 := Sd.mk (hbox); have GW886 := Sd.mk (bSz hg (bBl HB.out)); have GE886 := Sd.mk (bSz hg (bBl HB.out)); replace HB := Sd.mk (below_step (bBl HB.out) hb); clear hb hbox hg))
 go_loopg [3, 4] k (fun kq v3 v4 w' => ∃ (x3_1 : Int) (x4_1 : Int), v3 = .int .i64 x3_1 ∧ v4 = .int .i64 x4_1 ∧ Sd (rf_Choices.l0 kq x3_1 x4_1 l0_0 l0_1 l0_2 l0_3 a0_4 a0_5 a0_6 = some r) ∧ Sd (kq ≤ k) ∧ Sd (w'.heap[gb886]? = some (.cells #[(.slice A0_0 l0_0.length c0_0), (.slice A0_1 l0_1.length c0_1), (.slice A0_2 l0_2.length c0_2), (.slice A0_3 l0_3.length c0_3), .int .i64 a0_4, .int .i64 a0_5, .int .i64 a0_6] 29 (0, 0))) ∧ Sd (Below w.heap.size w w'))
 case atStart => exact ⟨(1), (0), tS, tS, H', ⟨Nat.le_refl _⟩, ⟨bkA BK886.out⟩, ⟨bBl HB.out⟩⟩
 case round =>
  clear H'; (try clear p2); obtain ⟨x3_1, x4_1, rfl, rfl, HA, HK1, BK886, HB⟩ := hrel
  cases gk with
  | zero => exact absurd HA.out (by simp [rf_Choices.l0])
  | succ k1 =>
   have H := HA.out; clear HA
   simp only [rf_Choices.l0] at H
   by_cases c3 : x4_1 < (l0_1.length : Int)
   ·rw [if_pos c3] at H
    have c3b0 : decide (x4_1 < (l0_1.length : Int)) = true := decide_eq_true c3
    clear c3
    by_cases c4 : x3_1 ≤ 100000
    ·rw [if_pos c4] at H
     have c4b0 : decide (x3_1 ≤ 100000) = true := decide_eq_true c4
     clear c4
     by_cases c5 : 0 ≤ x4_1
     ·rw [if_pos c5] at H
      have c5b0 : decide (0 ≤ x4_1) = true := decide_eq_true c5
      clear c5
      by_cases c6 : ((rd_T70 l0_1 x4_1).f5) = 0
      ·rw [if_pos c6] at H
       exact absurd H (by simp)
      ·rw [if_neg c6] at H
       have c6b0 : (((rd_T70 l0_1 x4_1).f5) == 0) = false := beq_eq_false_iff_ne.mpr c6
       have c6b1 : (((rd_T70 l0_1 x4_1).f5) != 0) = true := bne_iff_ne.mpr c6
       have H' := Sd.mk H; clear H; obtain ⟨u7_0, u7_1, u7_2, u7_3, u7_4, u7_5, u7_6, o7_0, o7_1, o7_2, o7_3, o7_4, o7_5, o7_6⟩ := bc7 (w := wr) BK886.out
       have p887 : 0 ≤ (x4_1 : Int) := tB
       have q887 : x4_1 < (l0_1.length : Int) := tB
       obtain ⟨ad887, A887_6, c887_6, e887, hx887_0, hx887_1, hx887_2, hx887_3, hx887_4, hx887_5, hx887_6, hl887_6, hi887_6⟩ := at_T70 HR0_1.out x4_1 p887 q887; cases e887; replace hx887_0 := cU HB hx887_0; replace hx887_1 := cU HB hx887_1; replace hx887_2 := cU HB hx887_2; replace hx887_3 := cU HB hx887_3; replace hx887_4 := cU HB hx887_4; replace hx887_5 := cU HB hx887_5; replace hx887_6 := cU HB hx887_6; have HR887_6 := Sd.mk hi887_6; have HC887_6 := Sd.mk hl887_6; clear hi887_6 hl887_6; replace p887 := eq_true p887; replace q887 := eq_true q887
       go_wp2_with (first | ((with_reducible refine gate_dst (N := 5) rfl ?_); refine box_event ?hg (N := 5) ?hd (cs := #[.string (⟨#[]⟩ : ByteArray), .int .i64 0, .int .i64 0, .int .i64 0, .int .i64 0, .int .i64 0, .slice none 0 0]) (t := 70) ?hr ?_; (case hd => rfl); (case hg => rfl); (case hr => exact tG); intro gb888 hg w8 hbox hb; have BK888 := Sd.mk (hbox); have GW888 := Sd.mk (bSz hg (bBl HB.out)); have GE888 := Sd.mk (bSz hg (bBl HB.out)); replace HB := Sd.mk (below_step (bBl HB.out) hb); have NB886_888 := Sd.mk (bNl hg (bkA BK886.out)); have NB888_886 := Sd.mk (bNg hg (bkA BK886.out)); replace BK886 := Sd.mk (blk_below (bkA BK886.out) hb); clear hb hbox hg; have hnb9 := NB888_886.out; have hnc9 := NB886_888.out; obtain ⟨u10_0, u10_1, u10_2, u10_3, u10_4, u10_5, u10_6, o10_0, o10_1, o10_2, o10_3, o10_4, o10_5, o10_6⟩ := bc7 (w := w8) BK888.out))
       go_roundg k1
       case measure => have := HK1.out; omega
       case rel => exact ⟨(wrap64 (x3_1 * (wrap64 ((wrap64 (Int.tdiv (wrap64 (((rd_T70 l0_1 x4_1).f4) - ((rd_T70 l0_1 x4_1).f3))) ((rd_T70 l0_1 x4_1).f5))) + 1)))), (wrap64 (x4_1 + 1)), tS, tS, H', ⟨by have := HK1.out; omega⟩, ⟨by refine bkZ ?_; refine blk_far ?_ NB886_888.out _; refine bkZ ?_; refine blk_far ?_ NB886_888.out _; refine bkZ ?_; refine blk_far ?_ NB886_888.out _; refine bkZ ?_; refine blk_far ?_ NB886_888.out _; refine bkZ ?_; refine blk_far ?_ NB886_888.out _; refine bkZ ?_; refine blk_far ?_ NB886_888.out _; refine bkZ ?_; refine blk_far ?_ NB886_888.out _; refine bkZ ?_; exact BK886.out⟩, ⟨bBl HB.out⟩⟩
     ·rw [if_neg c5] at H
      exact absurd H (by simp)
    ·rw [if_neg c4] at H
     have c4b0 : decide (x3_1 ≤ 100000) = false := decide_eq_false c4
     clear c4; obtain rfl := Option.some.inj H; obtain ⟨u11_0, u11_1, u11_2, u11_3, u11_4, u11_5, u11_6, o11_0, o11_1, o11_2, o11_3, o11_4, o11_5, o11_6⟩ := bc7 (w := wr) BK886.out
     go_wp2
     go_ret
     exact ⟨tE, bBl HB.out⟩
   ·rw [if_neg c3] at H
    have c3b0 : decide (x4_1 < (l0_1.length : Int)) = false := decide_eq_false c3
    clear c3; obtain rfl := Option.some.inj H; obtain ⟨u12_0, u12_1, u12_2, u12_3, u12_4, u12_5, u12_6, o12_0, o12_1, o12_2, o12_3, o12_4, o12_5, o12_6⟩ := bc7 (w := wr) BK886.out
    go_wp2
    go_ret
    exact ⟨tE, bBl HB.out⟩
end
section
def lw_many.f (k : Nat) (l0_0 : List ByteArray) (l0_1 : List (S70)) (l0_2 : List (S27)) (l0_3 : List (S89)) (a0_4 : Int) (a0_5 : Int) (a0_6 : Int) : Option (Bool) := (rf_Check.f k l0_0 l0_1 l0_2 l0_3 a0_4 a0_5 a0_6).bind fun t890 => (if t890 = 0 then ((rf_Choices.f k l0_0 l0_1 l0_2 l0_3 a0_4 a0_5 a0_6).bind fun t891 => (if t891 > 3000 then (some (decide (t891 ≤ 100000))) else (some false))) else (some false))
theorem lw_many.calls (k : Nat) (A0_0 : Option Addr) (c0_0 : Nat) (l0_0 : List ByteArray) (A0_1 : Option Addr) (c0_1 : Nat) (l0_1 : List (S70)) (A0_2 : Option Addr) (c0_2 : Nat) (l0_2 : List (S27)) (A0_3 : Option Addr) (c0_3 : Nat) (l0_3 : List (S89)) (a0_4 : Int) (a0_5 : Int) (a0_6 : Int) (r : Bool) (w : World) (hr0_0 : Kd.C Kd.string w A0_0 l0_0.length l0_0) (hc0_0 : l0_0.length ≤ c0_0) (hr0_1 : Kd.C k70 w A0_1 l0_1.length l0_1) (hc0_1 : l0_1.length ≤ c0_1) (hr0_2 : Kd.C k27 w A0_2 l0_2.length l0_2) (hc0_2 : l0_2.length ≤ c0_2) (hr0_3 : Kd.C k89 w A0_3 l0_3.length l0_3) (hc0_3 : l0_3.length ≤ c0_3) (h : lw_many.f k l0_0 l0_1 l0_2 l0_3 a0_4 a0_5 a0_6 = some r) :
  Calls Tryz.prog 27 #[.agg #[.slice A0_0 l0_0.length c0_0, .slice A0_1 l0_1.length c0_1, .slice A0_2 l0_2.length c0_2, .slice A0_3 l0_3.length c0_3, .int .i64 a0_4, .int .i64 a0_5, .int .i64 a0_6]] w fun e w' => e = .returned (.bool r) ∧ Below w.heap.size w w' := by
 have hu29 := Tryz.underlying29; have HR0_0 := Sd.mk hr0_0; have HC0_0 := Sd.mk hc0_0; clear hr0_0 hc0_0; have HR0_1 := Sd.mk hr0_1; have HC0_1 := Sd.mk hc0_1; clear hr0_1 hc0_1; have HR0_2 := Sd.mk hr0_2; have HC0_2 := Sd.mk hc0_2; clear hr0_2 hc0_2; have HR0_3 := Sd.mk hr0_3; have HC0_3 := Sd.mk hc0_3; clear hr0_3 hc0_3; have HB := Sd.mk (Below.refl w.heap.size w)
 have H : ((rf_Check.f k l0_0 l0_1 l0_2 l0_3 a0_4 a0_5 a0_6).bind fun t890 => (if t890 = 0 then ((rf_Choices.f k l0_0 l0_1 l0_2 l0_3 a0_4 a0_5 a0_6).bind fun t891 => (if t891 > 3000 then (some (decide (t891 ≤ 100000))) else (some false))) else (some false))) = some r := h
 clear h; replace H := Option.bind_eq_some_iff.mp H; obtain ⟨t890, A20, H⟩ := H
 try dsimp only at H
 have A2 := Sd.mk A20; clear A20
 by_cases c3 : t890 = 0
 ·rw [if_pos c3] at H
  have c3b0 : (t890 == 0) = true := beq_iff_eq.mpr c3
  have c3b1 : (t890 != 0) = false := bne_eq_false_iff_eq.mpr c3
  clear c3; replace H := Option.bind_eq_some_iff.mp H; obtain ⟨t891, A40, H⟩ := H
  try dsimp only at H
  have A4 := Sd.mk A40; clear A40
  by_cases c5 : t891 > 3000
  ·rw [if_pos c5] at H
   have c5b0 : decide (3000 < t891) = true := decide_eq_true c5
   clear c5; obtain rfl := Option.some.inj H
   go_enter Tryz.func27, Tryz.ntmps27
   go_wp2_with (first | ((with_reducible refine gate_dst (N := 1) rfl ?_); refine box_event ?hg (N := 1) ?hd (cs := #[.slice A0_0 l0_0.length c0_0, .slice A0_1 l0_1.length c0_1, .slice A0_2 l0_2.length c0_2, .slice A0_3 l0_3.length c0_3, .int .i64 a0_4, .int .i64 a0_5, .int .i64 a0_6]) (t := 29) ?hr ?_; (case hd => rfl); (case hg => rfl); (case hr => exact tG); intro gb889 hg w6 hbox hb; have BK889 := Sd.mk (hbox); have GW889 := Sd.mk (bSz hg (bBl HB.out)); have GE889 := Sd.mk (bSz hg (bBl HB.out)); replace HB := Sd.mk (below_step (bBl HB.out) hb); clear hb hbox hg; obtain ⟨u7_0, u7_1, u7_2, u7_3, u7_4, u7_5, u7_6, o7_0, o7_1, o7_2, o7_3, o7_4, o7_5, o7_6⟩ := bc7 (w := w6) BK889.out) | ((with_reducible refine gate_callee (f := 86) rfl ?_); refine goesL_ (some 5) rfl rfl Tryz.func86 (by kernel_rfl) rfl #[.agg #[.slice A0_0 l0_0.length c0_0, .slice A0_1 l0_1.length c0_1, .slice A0_2 l0_2.length c0_2, .slice A0_3 l0_3.length c0_3, .int .i64 a0_4, .int .i64 a0_5, .int .i64 a0_6]] rfl tM ?_; (with_reducible refine (rf_Check.calls k _ _ l0_0 _ _ l0_1 _ _ l0_2 _ _ l0_3 a0_4 a0_5 a0_6 t890 _ (cS (Kd.C_below HR0_0.out HB.out)) HC0_0.out (cS (Kd.C_below HR0_1.out HB.out)) HC0_1.out (cS (Kd.C_below HR0_2.out HB.out)) HC0_2.out (cS (Kd.C_below HR0_3.out HB.out)) HC0_3.out A2.out).mono ?_); rintro e w8 ⟨rfl, hb⟩; refine ⟨_, rfl, ?_⟩; replace BK889 := Sd.mk (blk_below (bkA BK889.out) hb); replace HB := Sd.mk (below_step (bBl HB.out) hb); (try clear hb); (try clear hb2); (try clear hk); (try clear hi); obtain ⟨u9_0, u9_1, u9_2, u9_3, u9_4, u9_5, u9_6, o9_0, o9_1, o9_2, o9_3, o9_4, o9_5, o9_6⟩ := bc7 (w := w8) BK889.out) | ((with_reducible refine gate_callee (f := 87) rfl ?_); refine goesL_ (some 8) rfl rfl Tryz.func87 (by kernel_rfl) rfl #[.agg #[.slice A0_0 l0_0.length c0_0, .slice A0_1 l0_1.length c0_1, .slice A0_2 l0_2.length c0_2, .slice A0_3 l0_3.length c0_3, .int .i64 a0_4, .int .i64 a0_5, .int .i64 a0_6]] rfl tM ?_; (with_reducible refine (rf_Choices.calls k _ _ l0_0 _ _ l0_1 _ _ l0_2 _ _ l0_3 a0_4 a0_5 a0_6 t891 _ (cS (Kd.C_below HR0_0.out HB.out)) HC0_0.out (cS (Kd.C_below HR0_1.out HB.out)) HC0_1.out (cS (Kd.C_below HR0_2.out HB.out)) HC0_2.out (cS (Kd.C_below HR0_3.out HB.out)) HC0_3.out A4.out).mono ?_); rintro e w10 ⟨rfl, hb⟩; refine ⟨_, rfl, ?_⟩; replace BK889 := Sd.mk (blk_below (bkA BK889.out) hb); replace HB := Sd.mk (below_step (bBl HB.out) hb); (try clear hb); (try clear hb2); (try clear hk); (try clear hi)))
   go_ret
   exact ⟨tE, bBl HB.out⟩
  ·rw [if_neg c5] at H
   have c5b0 : decide (3000 < t891) = false := decide_eq_false c5
   clear c5; obtain rfl := Option.some.inj H
   go_enter Tryz.func27, Tryz.ntmps27
   go_wp2_with (first | ((with_reducible refine gate_dst (N := 1) rfl ?_); refine box_event ?hg (N := 1) ?hd (cs := #[.slice A0_0 l0_0.length c0_0, .slice A0_1 l0_1.length c0_1, .slice A0_2 l0_2.length c0_2, .slice A0_3 l0_3.length c0_3, .int .i64 a0_4, .int .i64 a0_5, .int .i64 a0_6]) (t := 29) ?hr ?_; (case hd => rfl); (case hg => rfl); (case hr => exact tG); intro gb889 hg w11 hbox hb; have BK889 := Sd.mk (hbox); have GW889 := Sd.mk (bSz hg (bBl HB.out)); have GE889 := Sd.mk (bSz hg (bBl HB.out)); replace HB := Sd.mk (below_step (bBl HB.out) hb); clear hb hbox hg; obtain ⟨u12_0, u12_1, u12_2, u12_3, u12_4, u12_5, u12_6, o12_0, o12_1, o12_2, o12_3, o12_4, o12_5, o12_6⟩ := bc7 (w := w11) BK889.out) | ((with_reducible refine gate_callee (f := 86) rfl ?_); refine goesL_ (some 5) rfl rfl Tryz.func86 (by kernel_rfl) rfl #[.agg #[.slice A0_0 l0_0.length c0_0, .slice A0_1 l0_1.length c0_1, .slice A0_2 l0_2.length c0_2, .slice A0_3 l0_3.length c0_3, .int .i64 a0_4, .int .i64 a0_5, .int .i64 a0_6]] rfl tM ?_; (with_reducible refine (rf_Check.calls k _ _ l0_0 _ _ l0_1 _ _ l0_2 _ _ l0_3 a0_4 a0_5 a0_6 t890 _ (cS (Kd.C_below HR0_0.out HB.out)) HC0_0.out (cS (Kd.C_below HR0_1.out HB.out)) HC0_1.out (cS (Kd.C_below HR0_2.out HB.out)) HC0_2.out (cS (Kd.C_below HR0_3.out HB.out)) HC0_3.out A2.out).mono ?_); rintro e w13 ⟨rfl, hb⟩; refine ⟨_, rfl, ?_⟩; replace BK889 := Sd.mk (blk_below (bkA BK889.out) hb); replace HB := Sd.mk (below_step (bBl HB.out) hb); (try clear hb); (try clear hb2); (try clear hk); (try clear hi); obtain ⟨u14_0, u14_1, u14_2, u14_3, u14_4, u14_5, u14_6, o14_0, o14_1, o14_2, o14_3, o14_4, o14_5, o14_6⟩ := bc7 (w := w13) BK889.out) | ((with_reducible refine gate_callee (f := 87) rfl ?_); refine goesL_ (some 8) rfl rfl Tryz.func87 (by kernel_rfl) rfl #[.agg #[.slice A0_0 l0_0.length c0_0, .slice A0_1 l0_1.length c0_1, .slice A0_2 l0_2.length c0_2, .slice A0_3 l0_3.length c0_3, .int .i64 a0_4, .int .i64 a0_5, .int .i64 a0_6]] rfl tM ?_; (with_reducible refine (rf_Choices.calls k _ _ l0_0 _ _ l0_1 _ _ l0_2 _ _ l0_3 a0_4 a0_5 a0_6 t891 _ (cS (Kd.C_below HR0_0.out HB.out)) HC0_0.out (cS (Kd.C_below HR0_1.out HB.out)) HC0_1.out (cS (Kd.C_below HR0_2.out HB.out)) HC0_2.out (cS (Kd.C_below HR0_3.out HB.out)) HC0_3.out A4.out).mono ?_); rintro e w15 ⟨rfl, hb⟩; refine ⟨_, rfl, ?_⟩; replace BK889 := Sd.mk (blk_below (bkA BK889.out) hb); replace HB := Sd.mk (below_step (bBl HB.out) hb); (try clear hb); (try clear hb2); (try clear hk); (try clear hi)))
   go_ret
   exact ⟨tE, bBl HB.out⟩
 ·rw [if_neg c3] at H
  have c3b0 : (t890 == 0) = false := beq_eq_false_iff_ne.mpr c3
  have c3b1 : (t890 != 0) = true := bne_iff_ne.mpr c3
  obtain rfl := Option.some.inj H
  go_enter Tryz.func27, Tryz.ntmps27
  go_wp2_with (first | ((with_reducible refine gate_dst (N := 1) rfl ?_); refine box_event ?hg (N := 1) ?hd (cs := #[.slice A0_0 l0_0.length c0_0, .slice A0_1 l0_1.length c0_1, .slice A0_2 l0_2.length c0_2, .slice A0_3 l0_3.length c0_3, .int .i64 a0_4, .int .i64 a0_5, .int .i64 a0_6]) (t := 29) ?hr ?_; (case hd => rfl); (case hg => rfl); (case hr => exact tG); intro gb889 hg w16 hbox hb; have BK889 := Sd.mk (hbox); have GW889 := Sd.mk (bSz hg (bBl HB.out)); have GE889 := Sd.mk (bSz hg (bBl HB.out)); replace HB := Sd.mk (below_step (bBl HB.out) hb); clear hb hbox hg; obtain ⟨u17_0, u17_1, u17_2, u17_3, u17_4, u17_5, u17_6, o17_0, o17_1, o17_2, o17_3, o17_4, o17_5, o17_6⟩ := bc7 (w := w16) BK889.out) | ((with_reducible refine gate_callee (f := 86) rfl ?_); refine goesL_ (some 5) rfl rfl Tryz.func86 (by kernel_rfl) rfl #[.agg #[.slice A0_0 l0_0.length c0_0, .slice A0_1 l0_1.length c0_1, .slice A0_2 l0_2.length c0_2, .slice A0_3 l0_3.length c0_3, .int .i64 a0_4, .int .i64 a0_5, .int .i64 a0_6]] rfl tM ?_; (with_reducible refine (rf_Check.calls k _ _ l0_0 _ _ l0_1 _ _ l0_2 _ _ l0_3 a0_4 a0_5 a0_6 t890 _ (cS (Kd.C_below HR0_0.out HB.out)) HC0_0.out (cS (Kd.C_below HR0_1.out HB.out)) HC0_1.out (cS (Kd.C_below HR0_2.out HB.out)) HC0_2.out (cS (Kd.C_below HR0_3.out HB.out)) HC0_3.out A2.out).mono ?_); rintro e w18 ⟨rfl, hb⟩; refine ⟨_, rfl, ?_⟩; replace BK889 := Sd.mk (blk_below (bkA BK889.out) hb); replace HB := Sd.mk (below_step (bBl HB.out) hb); (try clear hb); (try clear hb2); (try clear hk); (try clear hi)))
  go_ret
  exact ⟨tE, bBl HB.out⟩
end
section
def stepP (mt : List S70) (x : Int) (i : Nat) : Int := wrap64 (x * wrap64 (wrap64 (Int.tdiv (wrap64 ((rd_T70 mt (i : Int)).f4 - (rd_T70 mt (i : Int)).f3)) (rd_T70 mt (i : Int)).f5) + 1))
def fewW (mt : List S70) : Nat → Nat → Int → Bool
 | 0, _, _ => true
 | m + 1, i, x => if stepP mt x i > 100000 then false else fewW mt m (i + 1) (stepP mt x i)
def choW (mt : List S70) : Nat → Nat → Int → Int
 | 0, _, x => x
 | m + 1, i, x => if x ≤ 100000 then choW mt m (i + 1) (stepP mt x i) else x
section
variable (o : List ByteArray) (mt : List S70) (s : List S27) (p : List S89) (a4 a5 a6 : Int) (r : List Int)
theorem few_l0 (H : BatchOk o mt s p a4 a5 a6) : ∀ (m i : Nat) (x : Int), i + m = mt.length → Ev (fun k => b_few.l0 k x mt (mt.length : Int) (i : Int)) (fewW mt m i x)
 | 0, i, x, hi => by
  apply Ev.step
  simp only [b_few.l0, if_neg (show ¬ (i : Int) < (mt.length : Int) by omega), fewW]
  exact Ev.const _
 | m + 1, i, x, hi => by
  have ih := few_l0 H m (i + 1) (stepP mt x i) (by omega)
  have M := H.mats i (by omega)
  have hm := H.m12
  apply Ev.step
  simp only [b_few.l0, if_pos (show (i : Int) < (mt.length : Int) by omega), if_pos (i_pos i), if_neg (show ¬ (rd_T70 mt (i : Int)).f5 = 0 by have := M.step; omega), wrap_succ (i_pos i) (show (i : Int) ≤ 1000000000 by omega), fewW]
  show Ev (fun k => if stepP mt x i > 100000 then some false else b_few.l0 k (stepP mt x i) mt (mt.length : Int) ((i + 1 : Nat) : Int)) _
  by_cases h : stepP mt x i > 100000
  ·simp only [if_pos h]; exact Ev.const _
  ·simp only [if_neg h]; exact ih
theorem few_ev (H : BatchOk o mt s p a4 a5 a6) : Ev (fun k => b_few.f k o mt s p a4 a5 a6) (fewW mt mt.length 0 1) := by
 have := few_l0 o mt s p a4 a5 a6 H mt.length 0 1 (by omega)
 exact this
theorem cho_l0 (H : BatchOk o mt s p a4 a5 a6) : ∀ (m i : Nat) (x : Int), i + m = mt.length → Ev (fun k => rf_Choices.l0 k x (i : Int) o mt s p a4 a5 a6) (choW mt m i x)
 | 0, i, x, hi => by
  apply Ev.step
  simp only [rf_Choices.l0, if_neg (show ¬ (i : Int) < (mt.length : Int) by omega), choW]
  exact Ev.const _
 | m + 1, i, x, hi => by
  have ih := cho_l0 H m (i + 1) (stepP mt x i) (by omega)
  have M := H.mats i (by omega)
  have hm := H.m12
  apply Ev.step
  simp only [rf_Choices.l0, if_pos (show (i : Int) < (mt.length : Int) by omega), if_pos (i_pos i), if_neg (show ¬ (rd_T70 mt (i : Int)).f5 = 0 by have := M.step; omega), wrap_succ (i_pos i) (show (i : Int) ≤ 1000000000 by omega), choW]
  by_cases h : x ≤ 100000
  ·simp only [if_pos h]; exact ih
  ·simp only [if_neg h]; exact Ev.const _
theorem cho_ev (H : BatchOk o mt s p a4 a5 a6) : Ev (fun k => rf_Choices.f k o mt s p a4 a5 a6) (choW mt mt.length 0 1) := cho_l0 o mt s p a4 a5 a6 H mt.length 0 1 (by omega)
theorem many_ev : ∃ b, Ev (fun k => lw_many.f k o mt s p a4 a5 a6) b := by
 by_cases h : checkV o mt s p a4 a5 a6 = 0
 ·by_cases h2 : choW mt mt.length 0 1 > 3000
  ·refine ⟨decide (choW mt mt.length 0 1 ≤ 100000), ?_⟩
   unfold lw_many.f
   refine Ev.bind (rcheck o mt s p a4 a5 a6) ?_
   simp only [if_pos h]
   refine Ev.bind (cho_ev o mt s p a4 a5 a6 (check_ok h)) ?_
   simp only [if_pos h2]
   exact Ev.const _
  ·refine ⟨false, ?_⟩
   unfold lw_many.f
   refine Ev.bind (rcheck o mt s p a4 a5 a6) ?_
   simp only [if_pos h]
   refine Ev.bind (cho_ev o mt s p a4 a5 a6 (check_ok h)) ?_
   simp only [if_neg h2]
   exact Ev.const _
 ·refine ⟨false, ?_⟩
  unfold lw_many.f
  refine Ev.bind (rcheck o mt s p a4 a5 a6) ?_
  simp only [if_neg h]
  exact Ev.const _
def BestV : List Int × Int × Bool × Int :=
 if checkV o mt s p a4 a5 a6 = 0 then (if fewW mt mt.length 0 1 = true then ((bestV mt s p a4 a5 a6).1, (bestV mt s p a4 a5 a6).2.1, (bestV mt s p a4 a5 a6).2.2, 0) else ([], 0, false, 9)) else ([], 0, false, checkV o mt s p a4 a5 a6)
theorem best_ev : Ev (fun k => b_Best.f k o mt s p a4 a5 a6) (BestV o mt s p a4 a5 a6) := by
 unfold b_Best.f BestV
 refine Ev.bind (bcheck o mt s p a4 a5 a6) ?_
 by_cases h : checkV o mt s p a4 a5 a6 = 0
 ·simp only [if_pos h]
  refine Ev.bind (few_ev o mt s p a4 a5 a6 (check_ok h)) ?_
  by_cases h2 : fewW mt mt.length 0 1 = true
  ·simp only [if_pos h2]; exact Ev.const _
  ·simp only [if_neg h2]; exact Ev.const _
 ·simp only [if_neg h]; exact Ev.const _
end
structure ChQ (rt : List Int → Bool) (cst : List Int → Int) (L : List (List Int)) (st : List Int × Int × Bool) : Prop where
 no : st.2.2 = false → st = ([], 0, false) ∧ ∀ r ∈ L, rt r = false
 yes : st.2.2 = true → rt st.1 = true ∧ st.2.1 = cst st.1 ∧ ∃ L1 L2, L = L1 ++ st.1 :: L2 ∧ (∀ r ∈ L1, rt r = true → cst st.1 < cst r) ∧ (∀ r ∈ L2, rt r = true → cst st.1 ≤ cst r)
theorem ChQ.step {rt : List Int → Bool} {cst : List Int → Int} {L : List (List Int)} {st : List Int × Int × Bool} (h : ChQ rt cst L st) (r : List Int) : ChQ rt cst (L ++ [r]) (chStep rt cst st r) := by
 obtain ⟨b, n, f⟩ := st
 unfold chStep
 cases hr : rt r with
 | false =>
  simp only [Bool.and_false, Bool.false_eq_true, if_false]
  refine ⟨fun hf => ⟨(h.no hf).1, fun x hx => ?_⟩, fun hf => ?_⟩
  ·rcases List.mem_append.1 hx with hx | hx
   ·exact (h.no hf).2 x hx
   ·rw [List.mem_singleton.1 hx]; exact hr
  ·obtain ⟨h1, h2, L1, L2, h3, h4, h5⟩ := h.yes hf
   refine ⟨h1, h2, L1, L2 ++ [r], by rw [h3]; simp, h4, fun x hx hx2 => ?_⟩
   rcases List.mem_append.1 hx with hx | hx
   ·exact h5 x hx hx2
   ·rw [List.mem_singleton.1 hx, hr] at hx2; cases hx2
 | true =>
  simp only [Bool.and_true]
  by_cases hc : (!f || decide (cst r < n)) = true
  ·rw [if_pos hc]
   refine ⟨fun hf => (by cases hf), fun _ => ⟨hr, rfl, L, [], rfl, fun x hx hx2 => ?_, fun x hx => by cases hx⟩⟩
   cases f with
   | false => rw [(h.no rfl).2 x hx] at hx2; cases hx2
   | true =>
    simp at hc
    obtain ⟨h1, h2, L1, L2, h3, h4, h5⟩ := h.yes rfl
    simp only at h1 h2 h3 h4 h5
    rw [h3] at hx
    rcases List.mem_append.1 hx with hx | hx
    ·have := h4 x hx hx2; show cst r < cst x; omega
    ·rcases List.mem_cons.1 hx with rfl | hx
     ·show cst r < cst x; omega
     ·have := h5 x hx hx2; show cst r < cst x; omega
  ·rw [if_neg hc]
   cases f with
   | false => simp at hc
   | true =>
    simp at hc
    refine ⟨fun hf => (by cases hf), fun hf => ?_⟩
    obtain ⟨h1, h2, L1, L2, h3, h4, h5⟩ := h.yes hf
    simp only at h1 h2 h3 h4 h5
    refine ⟨h1, h2, L1, L2 ++ [r], by rw [h3]; simp, h4, fun x hx hx2 => ?_⟩
    rcases List.mem_append.1 hx with hx | hx
    ·exact h5 x hx hx2
    ·rw [List.mem_singleton.1 hx]; show cst b ≤ cst r; omega
theorem ChQ.fold {rt : List Int → Bool} {cst : List Int → Int} : ∀ (L pre : List (List Int)) (st : List Int × Int × Bool), ChQ rt cst pre st → ChQ rt cst (pre ++ L) (L.foldl (chStep rt cst) st)
 | [], pre, st, h => by simpa using h
 | r :: L, pre, st, h => by
  have := ChQ.fold L (pre ++ [r]) _ (h.step r)
  simpa using this
theorem best_q (mt : List S70) (s : List S27) (p : List S89) (a4 a5 a6 : Int) : ChQ (passB mt s p a4 a5 a6) (fun r => cW mt r mt.length) (allR mt) (bestV mt s p a4 a5 a6) := by
 have h : ChQ (passB mt s p a4 a5 a6) (fun r => cW mt r mt.length) [] ([], 0, false) := ⟨fun _ => ⟨rfl, fun r hr => by cases hr⟩, fun hf => by cases hf⟩
 exact ChQ.fold (allR mt) [] _ h
theorem kilosF_in (s : Int) : ∀ (c : Nat) (k : Int) (j : Nat), j < c → k + (j : Int) * s ∈ kilosF s c k
 | c + 1, k, 0, _ => by simp [kilosF]
 | c + 1, k, j + 1, h => by
  rw [kilosF, List.mem_cons]
  right
  have := kilosF_in s c (k + s) j (by omega)
  rwa [show k + ((j + 1 : Nat) : Int) * s = k + s + (j : Int) * s by push_cast; rw [Int.add_mul, Int.one_mul]; omega]
theorem kilosF_iff {m : S70} (M : MatB m) (x : Int) : x ∈ kilosF m.f5 (cntM m) m.f3 ↔ may m x = true := by
 have hw : ∀ x, m.f3 ≤ x → x ≤ m.f4 → wrap64 (x - m.f3) = x - m.f3 := fun x h1 h2 => wrap_id (by omega) (by have := M.hi; have := M.lo; omega)
 constructor
 ·intro h
  obtain ⟨h1, h2, h3⟩ := kilosF_bd M h
  simp only [may, hw x h1 h2, h3, decide_eq_true h1, decide_eq_true h2, Bool.and_true, beq_self_eq_true]
 ·intro h
  simp only [may, Bool.and_eq_true, decide_eq_true_eq, beq_iff_eq] at h
  obtain ⟨⟨h1, h2⟩, h3⟩ := h
  rw [hw x h1 h2] at h3
  have hd : m.f5 ∣ x - m.f3 := Int.dvd_of_tmod_eq_zero h3
  obtain ⟨q, hq⟩ := hd
  have hs := M.s1
  have hq0 : 0 ≤ q := by
   rcases Int.lt_or_le q 0 with hn | hn
   ·have := Int.mul_le_mul_of_nonneg_left (show q ≤ -1 by omega) (show 0 ≤ m.f5 by omega)
    rw [← hq, Int.mul_neg, Int.mul_one] at this; omega
   ·exact hn
  have hl := cntM_last M
  have hlt : q < (cntM m : Int) := by
   rcases Int.lt_or_le q (cntM m : Int) with hn | hn
   ·exact hn
   ·have := Int.mul_le_mul_of_nonneg_left hn (show 0 ≤ m.f5 by omega)
    rw [← hq, Int.mul_comm m.f5] at this; omega
  have := kilosF_in m.f5 (cntM m) m.f3 q.toNat (by omega)
  rwa [show m.f3 + ((q.toNat : Nat) : Int) * m.f5 = x by rw [Int.toNat_of_nonneg hq0, Int.mul_comm]; omega] at this
theorem mem_allR : ∀ (mt : List S70), (∀ m ∈ mt, MatB m) → ∀ r, r ∈ allR mt ↔ (r.length = mt.length ∧ ∀ j : Nat, j < mt.length → may (rd_T70 mt (j : Int)) (rd r (j : Int)) = true)
 | [], _, r => by
  simp only [allR, List.mem_singleton]
  constructor
  ·rintro rfl; exact ⟨rfl, fun j hj => by simp at hj⟩
  ·rintro ⟨h, _⟩; exact List.length_eq_zero_iff.1 (by simpa using h)
 | m :: ms, H, r => by
  have M := H m List.mem_cons_self
  have ih := mem_allR ms (fun x hx => H x (List.mem_cons_of_mem _ hx))
  simp only [allR, List.mem_flatMap, List.mem_map]
  constructor
  ·rintro ⟨k, hk, q, hq, rfl⟩
   have h := (ih q).1 hq
   refine ⟨by simp [h.1], fun j hj => ?_⟩
   cases j with
   | zero => simpa [rd, rd_T70] using (kilosF_iff M k).1 hk
   | succ j =>
    have := h.2 j (by simpa using hj)
    simpa [rd, rd_T70] using this
  ·rintro ⟨h1, h2⟩
   cases r with
   | nil => simp at h1
   | cons k q =>
    refine ⟨k, (kilosF_iff M k).2 (by simpa [rd, rd_T70] using h2 0 (by simp)), q, (ih q).2 ⟨by simpa using h1, fun j hj => ?_⟩, rfl⟩
    have := h2 (j + 1) (by simpa using hj)
    simpa [rd, rd_T70] using this
theorem mayL_iff (mt : List S70) (r : List Int) : ∀ (m i : Nat), mayL mt r m i = true ↔ ∀ j : Nat, i ≤ j → j < i + m → may (rd_T70 mt (j : Int)) (rd r (j : Int)) = true
 | 0, i => ⟨fun _ j h1 h2 => by omega, fun _ => rfl⟩
 | m + 1, i => by
  rw [mayL, Bool.and_eq_true, mayL_iff mt r m (i + 1)]
  constructor
  ·rintro ⟨h1, h2⟩ j h3 h4
   by_cases hj : j = i
   ·rw [hj]; exact h1
   ·exact h2 j (by omega) (by omega)
  ·intro h
   exact ⟨h i (Nat.le_refl _) (by omega), fun j h1 h2 => h j (by omega) (by omega)⟩
theorem allowed_iff {mt : List S70} (H : ∀ m ∈ mt, MatB m) (r : List Int) : r ∈ allR mt ↔ (r.length = mt.length ∧ mayL mt r mt.length 0 = true) := by
 rw [mem_allR mt H, mayL_iff]
 constructor
 ·rintro ⟨h1, h2⟩; exact ⟨h1, fun j _ hj => h2 j (by omega)⟩
 ·rintro ⟨h1, h2⟩; exact ⟨h1, fun j hj => h2 j (by omega) (by omega)⟩
end
section
attribute [local go_sem] max2_int min2_int max_two min_two max_three min_three max_four min_four
mutual
def b_least.l0 : Nat → List (S168) → Int → List (S168) → Int → Int → List ByteArray → List (S70) → List (S27) → List (S89) → Int → Int → Int → Int → List Int → Option (Int)
 | 0, _, _, _, _, _, _, _, _, _, _, _, _, _, _ => none
 | k + 1, x1, x7, x16, x17, x18, x930q0, x930q1, x930q2, x930q3, x930q4, x930q5, x930q6, x931q0, x931q1 => if x18 < x17 then (if 0 ≤ x18 then (if x18 < (x16.length : Int) then (if x18 < (x931q1.length : Int) then (b_least.l0 k x1 (wrap64 (x7 - (wrap64 ((rd x931q1 x18) * ((rd_T168 x16 x18).f1))))) x16 x17 (wrap64 (x18 + 1)) x930q0 x930q1 x930q2 x930q3 x930q4 x930q5 x930q6 x931q0 x931q1) else (none)) else (none)) else (none)) else (b_least.l1 k x1 x7 x930q1 (x930q1.length : Int) 0 x931q0 x931q1)
def b_least.l1 : Nat → List (S168) → Int → List (S70) → Int → Int → Int → List Int → Option (Int)
 | 0, _, _, _, _, _, _, _ => none
 | k + 1, x1, x7, x35, x36, x37, x931q0, x931q1 => if x37 < x36 then (if 0 ≤ x37 then (if x37 < (x35.length : Int) then (b_least.l2 k x1 x7 x37 (wrap64 (x931q0 * ((rd_T70 x35 x37).f1))) x35 x36 x37 x1 (x1.length : Int) 0 x931q0 x931q1 ((rd_T70 x35 x37).f0) ((rd_T70 x35 x37).f1) ((rd_T70 x35 x37).f2) ((rd_T70 x35 x37).f3) ((rd_T70 x35 x37).f4) ((rd_T70 x35 x37).f5) ((rd_T70 x35 x37).f6)) else (none)) else (none)) else (some x7)
def b_least.l2 : Nat → List (S168) → Int → Int → Int → List (S70) → Int → Int → List (S168) → Int → Int → Int → List Int → ByteArray → Int → Int → Int → Int → Int → List (S27) → Option (Int)
 | 0, _, _, _, _, _, _, _, _, _, _, _, _, _, _, _, _, _, _, _ => none
 | k + 1, x1, x7, x10, x12, x35, x36, x37, x47, x48, x49, x931q0, x931q1, x936q0, x936q1, x936q2, x936q3, x936q4, x936q5, x936q6 => if x49 < x48 then (if 0 ≤ x49 then (if x49 < (x47.length : Int) then (if x49 < (x931q1.length : Int) then (if 0 ≤ x10 then (if x10 < (((rd_T168 x47 x49).f0).length : Int) then (b_least.l2 k x1 x7 x10 (wrap64 (x12 + (wrap64 ((rd x931q1 x49) * (rd ((rd_T168 x47 x49).f0) x10))))) x35 x36 x37 x47 x48 (wrap64 (x49 + 1)) x931q0 x931q1 x936q0 x936q1 x936q2 x936q3 x936q4 x936q5 x936q6) else (none)) else (none)) else (none)) else (none)) else (none)) else (if x936q5 = 0 then (none) else (b_least.l1 k x1 (wrap64 (x7 + (mn (wrap64 (x12 * x936q3)) (wrap64 (x12 * (wrap64 (x936q4 - (Int.tmod (wrap64 (x936q4 - x936q3)) x936q5)))))))) x35 x36 (wrap64 (x37 + 1)) x931q0 x931q1))
end
def b_least.f (k : Nat) (l0_0 : List ByteArray) (l0_1 : List (S70)) (l0_2 : List (S27)) (l0_3 : List (S89)) (a0_4 : Int) (a0_5 : Int) (a0_6 : Int) (l1 : List (S168)) (a2_0 : Int) (l2_1 : List Int) : Option (Int) := b_least.l0 k l1 0 l1 (l1.length : Int) 0 l0_0 l0_1 l0_2 l0_3 a0_4 a0_5 a0_6 a2_0 l2_1
theorem b_least.calls (k : Nat) (A0_0 : Option Addr) (c0_0 : Nat) (l0_0 : List ByteArray) (A0_1 : Option Addr) (c0_1 : Nat) (l0_1 : List (S70)) (A0_2 : Option Addr) (c0_2 : Nat) (l0_2 : List (S27)) (A0_3 : Option Addr) (c0_3 : Nat) (l0_3 : List (S89)) (a0_4 : Int) (a0_5 : Int) (a0_6 : Int) (A1 : Option Addr) (c1 : Nat) (l1 : List (S168)) (a2_0 : Int) (A2_1 : Option Addr) (c2_1 : Nat) (l2_1 : List Int) (r : Int) (w : World) (hr0_0 : Kd.C Kd.string w A0_0 l0_0.length l0_0) (hc0_0 : l0_0.length ≤ c0_0) (hr0_1 : Kd.C k70 w A0_1 l0_1.length l0_1) (hc0_1 : l0_1.length ≤ c0_1) (hr0_2 : Kd.C k27 w A0_2 l0_2.length l0_2) (hc0_2 : l0_2.length ≤ c0_2) (hr0_3 : Kd.C k89 w A0_3 l0_3.length l0_3) (hc0_3 : l0_3.length ≤ c0_3) (hr1 : Kd.C k168 w A1 l1.length l1) (hc1 : l1.length ≤ c1) (hr2_1 : Kd.C (Kd.int .i64) w A2_1 l2_1.length l2_1) (hc2_1 : l2_1.length ≤ c2_1) (h : b_least.f k l0_0 l0_1 l0_2 l0_3 a0_4 a0_5 a0_6 l1 a2_0 l2_1 = some r) :
  Calls Tryz.prog 95 #[.agg #[.slice A0_0 l0_0.length c0_0, .slice A0_1 l0_1.length c0_1, .slice A0_2 l0_2.length c0_2, .slice A0_3 l0_3.length c0_3, .int .i64 a0_4, .int .i64 a0_5, .int .i64 a0_6], .slice A1 l1.length c1, .agg #[.int .i64 a2_0, .slice A2_1 l2_1.length c2_1]] w fun e w' => e = .returned (.int .i64 r) ∧ Below w.heap.size w w' := by
 have hu29 := Tryz.underlying29; have hu32 := Tryz.underlying32; have hu168 := Tryz.underlying168; have hu70 := Tryz.underlying70; have HR0_0 := Sd.mk hr0_0; have HC0_0 := Sd.mk hc0_0; clear hr0_0 hc0_0; have HR0_1 := Sd.mk hr0_1; have HC0_1 := Sd.mk hc0_1; clear hr0_1 hc0_1; have HR0_2 := Sd.mk hr0_2; have HC0_2 := Sd.mk hc0_2; clear hr0_2 hc0_2; have HR0_3 := Sd.mk hr0_3; have HC0_3 := Sd.mk hc0_3; clear hr0_3 hc0_3; have HR1 := Sd.mk hr1; have HC1 := Sd.mk hc1; clear hr1 hc1; have HR2_1 := Sd.mk hr2_1; have HC2_1 := Sd.mk hc2_1; clear hr2_1 hc2_1; have HB := Sd.mk (Below.refl w.heap.size w)
 have H : (b_least.l0 k l1 0 l1 (l1.length : Int) 0 l0_0 l0_1 l0_2 l0_3 a0_4 a0_5 a0_6 a2_0 l2_1) = some r := h
 clear h; have H' := Sd.mk H; clear H
 go_enter Tryz.func95, Tryz.ntmps95
 go_wp2_with (first | ((with_reducible refine gate_dst (N := 3) rfl ?_); refine box_event ?hg (N := 3) ?hd (cs := #[.slice A0_0 l0_0.length c0_0, .slice A0_1 l0_1.length c0_1, .slice A0_2 l0_2.length c0_2, .slice A0_3 l0_3.length c0_3, .int .i64 a0_4, .int .i64 a0_5, .int .i64 a0_6]) (t := 29) ?hr ?_; (case hd => rfl); (case hg => rfl); (case hr => exact tG); intro gb929 hg w4 hbox hb; have BK929 := Sd.mk (hbox); have GW929 := Sd.mk (bSz hg (bBl HB.out)); have GE929 := Sd.mk (bSz hg (bBl HB.out)); replace HB := Sd.mk (below_step (bBl HB.out) hb); clear hb hbox hg) | ((with_reducible refine gate_dst (N := 5) rfl ?_); refine box_event ?hg (N := 5) ?hd (cs := #[.int .i64 a2_0, .slice A2_1 l2_1.length c2_1]) (t := 32) ?hr ?_; (case hd => rfl); (case hg => rfl); (case hr => exact tG); intro gb930 hg w5 hbox hb; have BK930 := Sd.mk (hbox); have GW930 := Sd.mk (bSz hg (bBl HB.out)); have GE930 := Sd.mk (bSz hg (bBl HB.out)); replace HB := Sd.mk (below_step (bBl HB.out) hb); have NB929_930 := Sd.mk (bNl hg (bkA BK929.out)); have NB930_929 := Sd.mk (bNg hg (bkA BK929.out)); replace BK929 := Sd.mk (blk_below (bkA BK929.out) hb); clear hb hbox hg))
 repeat (go_quiet (first | ((with_reducible refine gate_dst (N := 3) rfl ?_); refine box_event ?hg (N := 3) ?hd (cs := #[.slice A0_0 l0_0.length c0_0, .slice A0_1 l0_1.length c0_1, .slice A0_2 l0_2.length c0_2, .slice A0_3 l0_3.length c0_3, .int .i64 a0_4, .int .i64 a0_5, .int .i64 a0_6]) (t := 29) ?hr ?_; (case hd => rfl); (case hg => rfl); (case hr => exact tG); intro gb929 hg w4 hbox hb; have BK929 := Sd.mk (hbox); have GW929 := Sd.mk (bSz hg (bBl HB.out)); have GE929 := Sd.mk (bSz hg (bBl HB.out)); replace HB := Sd.mk (below_step (bBl HB.out) hb); clear hb hbox hg) | ((with_reducible refine gate_dst (N := 5) rfl ?_); refine box_event ?hg (N := 5) ?hd (cs := #[.int .i64 a2_0, .slice A2_1 l2_1.length c2_1]) (t := 32) ?hr ?_; (case hd => rfl); (case hg => rfl); (case hr => exact tG); intro gb930 hg w5 hbox hb; have BK930 := Sd.mk (hbox); have GW930 := Sd.mk (bSz hg (bBl HB.out)); have GE930 := Sd.mk (bSz hg (bBl HB.out)); replace HB := Sd.mk (below_step (bBl HB.out) hb); have NB929_930 := Sd.mk (bNl hg (bkA BK929.out)); have NB930_929 := Sd.mk (bNg hg (bkA BK929.out)); replace BK929 := Sd.mk (blk_below (bkA BK929.out) hb); clear hb hbox hg)); try go_wp2_with (first | ((with_reducible refine gate_dst (N := 3) rfl ?_); refine box_event ?hg (N := 3) ?hd (cs := #[.slice A0_0 l0_0.length c0_0, .slice A0_1 l0_1.length c0_1, .slice A0_2 l0_2.length c0_2, .slice A0_3 l0_3.length c0_3, .int .i64 a0_4, .int .i64 a0_5, .int .i64 a0_6]) (t := 29) ?hr ?_; (case hd => rfl); (case hg => rfl); (case hr => exact tG); intro gb929 hg w4 hbox hb; have BK929 := Sd.mk (hbox); have GW929 := Sd.mk (bSz hg (bBl HB.out)); have GE929 := Sd.mk (bSz hg (bBl HB.out)); replace HB := Sd.mk (below_step (bBl HB.out) hb); clear hb hbox hg) | ((with_reducible refine gate_dst (N := 5) rfl ?_); refine box_event ?hg (N := 5) ?hd (cs := #[.int .i64 a2_0, .slice A2_1 l2_1.length c2_1]) (t := 32) ?hr ?_; (case hd => rfl); (case hg => rfl); (case hr => exact tG); intro gb930 hg w5 hbox hb; have BK930 := Sd.mk (hbox); have GW930 := Sd.mk (bSz hg (bBl HB.out)); have GE930 := Sd.mk (bSz hg (bBl HB.out)); replace HB := Sd.mk (below_step (bBl HB.out) hb); have NB929_930 := Sd.mk (bNl hg (bkA BK929.out)); have NB930_929 := Sd.mk (bNg hg (bkA BK929.out)); replace BK929 := Sd.mk (blk_below (bkA BK929.out) hb); clear hb hbox hg)))
 go_loopg [7, 18] k (fun kq v7 v18 w' => ∃ (x7_1 : Int) (x18_1 : Int), v7 = .int .i64 x7_1 ∧ v18 = .int .i64 x18_1 ∧ Sd (b_least.l0 kq l1 x7_1 l1 (l1.length : Int) x18_1 l0_0 l0_1 l0_2 l0_3 a0_4 a0_5 a0_6 a2_0 l2_1 = some r) ∧ Sd (kq ≤ k) ∧ Sd (w'.heap[gb929]? = some (.cells #[(.slice A0_0 l0_0.length c0_0), (.slice A0_1 l0_1.length c0_1), (.slice A0_2 l0_2.length c0_2), (.slice A0_3 l0_3.length c0_3), .int .i64 a0_4, .int .i64 a0_5, .int .i64 a0_6] 29 (0, 0))) ∧ Sd (w'.heap[gb930]? = some (.cells #[.int .i64 a2_0, (.slice A2_1 l2_1.length c2_1)] 32 (0, 0))) ∧ Sd (Below w.heap.size w w'))
 case atStart => exact ⟨(0), (0), tS, tS, H', ⟨Nat.le_refl _⟩, ⟨bkA BK929.out⟩, ⟨bkA BK930.out⟩, ⟨bBl HB.out⟩⟩
 case round =>
  clear H'; (try clear c1); (try clear c2); (try clear p2); obtain ⟨x7_1, x18_1, rfl, rfl, HA, HK1, BK929, BK930, HB⟩ := hrel
  cases gk with
  | zero => exact absurd HA.out (by simp [b_least.l0])
  | succ k1 =>
   have H := HA.out; clear HA
   simp only [b_least.l0] at H
   by_cases c6 : x18_1 < (l1.length : Int)
   ·rw [if_pos c6] at H
    have c6b0 : decide (x18_1 < (l1.length : Int)) = true := decide_eq_true c6
    clear c6
    by_cases c7 : 0 ≤ x18_1
    ·rw [if_pos c7] at H
     have c7b0 : decide (0 ≤ x18_1) = true := decide_eq_true c7
     clear c7
     by_cases c8 : x18_1 < (l1.length : Int)
     ·rw [if_pos c8] at H
      have c8b0 : decide (x18_1 < (l1.length : Int)) = true := decide_eq_true c8
      clear c8
      by_cases c9 : x18_1 < (l2_1.length : Int)
      ·rw [if_pos c9] at H
       have c9b0 : decide (x18_1 < (l2_1.length : Int)) = true := decide_eq_true c9
       clear c9; have H' := Sd.mk H; clear H
       have p931 : 0 ≤ (x18_1 : Int) := tB
       have q931 : x18_1 < (l1.length : Int) := tB
       obtain ⟨ad931, A931_0, c931_0, e931, hx931_0, hx931_1, hl931_0, hi931_0⟩ := at_T168 HR1.out x18_1 p931 q931; cases e931; replace hx931_0 := cU HB hx931_0; replace hx931_1 := cU HB hx931_1; have HR931_0 := Sd.mk hi931_0; have HC931_0 := Sd.mk hl931_0; clear hi931_0 hl931_0; replace p931 := eq_true p931; replace q931 := eq_true q931
       go_wp2_with (first | ((with_reducible refine gate_dst (N := 9) rfl ?_); refine box_event ?hg (N := 9) ?hd (cs := #[.slice none 0 0, .int .i64 0]) (t := 168) ?hr ?_; (case hd => rfl); (case hg => rfl); (case hr => exact tG); intro gb932 hg w10 hbox hb; have BK932 := Sd.mk (hbox); have GW932 := Sd.mk (bSz hg (bBl HB.out)); have GE932 := Sd.mk (bSz hg (bBl HB.out)); replace HB := Sd.mk (below_step (bBl HB.out) hb); have NB929_932 := Sd.mk (bNl hg (bkA BK929.out)); have NB932_929 := Sd.mk (bNg hg (bkA BK929.out)); replace BK929 := Sd.mk (blk_below (bkA BK929.out) hb); have NB930_932 := Sd.mk (bNl hg (bkA BK930.out)); have NB932_930 := Sd.mk (bNg hg (bkA BK930.out)); replace BK930 := Sd.mk (blk_below (bkA BK930.out) hb); clear hb hbox hg; have hnb11 := NB932_929.out; have hnc11 := NB929_932.out; have hnb12 := NB932_930.out; have hnc12 := NB930_932.out; obtain ⟨u13_0, u13_1, o13_0, o13_1⟩ := bc2 (w := w10) BK932.out; have hnb14 := NB930_929.out; have hnc14 := NB929_930.out; obtain ⟨u15_0, u15_1, o15_0, o15_1⟩ := bc2 (w := w10) BK930.out; have p933 : 0 ≤ (x18_1 : Int) := tB; have q933 : x18_1 < (l2_1.length : Int) := tB; obtain ⟨ad933, e933, hx933_0⟩ := Kd.at_int HR2_1.out x18_1 p933 q933; cases e933; have hn933_0 : ad933.block ≠ gb932 := Nat.ne_of_lt (Nat.lt_of_lt_of_le (by have := World.block_lt_of_cell? _ _ hx933_0; first | rwa [add_block] at this | exact this) GW932.out); have hn933_1 : ad933.block ≠ gb932 := Nat.ne_of_lt (Nat.lt_of_lt_of_le (by have := World.block_lt_of_cell? _ _ hx933_0; first | rwa [add_block] at this | exact this) GW932.out); replace hx933_0 := cU HB hx933_0; replace hx933_0 := (cell_far (p := ⟨gb932, 0, none⟩) (by first | (rw [add_block]; exact hn933_0) | (show (Addr.add _ _).block ≠ _; rw [add_block]; exact hn933_0) | exact hn933_0) (.slice A931_0 ((rd_T168 l1 x18_1).f0).length c931_0)).trans hx933_0; replace hx933_0 := (cell_far (p := ⟨gb932, 1, none⟩) (by first | (rw [add_block]; exact hn933_1) | (show (Addr.add _ _).block ≠ _; rw [add_block]; exact hn933_1) | exact hn933_1) (.int .i64 ((rd_T168 l1 x18_1).f1))).trans hx933_0; (try have hy933_0 := fun (n_ : Nat) => (show ((((w10.drewN n_).setCell ⟨gb932, 0, none⟩ (.slice A931_0 ((rd_T168 l1 x18_1).f0).length c931_0)).setCell ⟨gb932, 1, none⟩ (.int .i64 ((rd_T168 l1 x18_1).f1)))).cell? _ = some _ from hx933_0)); clear hn933_0; clear hn933_1; replace p933 := eq_true p933; replace q933 := eq_true q933))
       repeat (go_quiet (first | ((with_reducible refine gate_dst (N := 9) rfl ?_); refine box_event ?hg (N := 9) ?hd (cs := #[.slice none 0 0, .int .i64 0]) (t := 168) ?hr ?_; (case hd => rfl); (case hg => rfl); (case hr => exact tG); intro gb932 hg w10 hbox hb; have BK932 := Sd.mk (hbox); have GW932 := Sd.mk (bSz hg (bBl HB.out)); have GE932 := Sd.mk (bSz hg (bBl HB.out)); replace HB := Sd.mk (below_step (bBl HB.out) hb); have NB929_932 := Sd.mk (bNl hg (bkA BK929.out)); have NB932_929 := Sd.mk (bNg hg (bkA BK929.out)); replace BK929 := Sd.mk (blk_below (bkA BK929.out) hb); have NB930_932 := Sd.mk (bNl hg (bkA BK930.out)); have NB932_930 := Sd.mk (bNg hg (bkA BK930.out)); replace BK930 := Sd.mk (blk_below (bkA BK930.out) hb); clear hb hbox hg; have hnb11 := NB932_929.out; have hnc11 := NB929_932.out; have hnb12 := NB932_930.out; have hnc12 := NB930_932.out; obtain ⟨u13_0, u13_1, o13_0, o13_1⟩ := bc2 (w := w10) BK932.out; have hnb14 := NB930_929.out; have hnc14 := NB929_930.out; obtain ⟨u15_0, u15_1, o15_0, o15_1⟩ := bc2 (w := w10) BK930.out; have p933 : 0 ≤ (x18_1 : Int) := tB; have q933 : x18_1 < (l2_1.length : Int) := tB; obtain ⟨ad933, e933, hx933_0⟩ := Kd.at_int HR2_1.out x18_1 p933 q933; cases e933; have hn933_0 : ad933.block ≠ gb932 := Nat.ne_of_lt (Nat.lt_of_lt_of_le (by have := World.block_lt_of_cell? _ _ hx933_0; first | rwa [add_block] at this | exact this) GW932.out); have hn933_1 : ad933.block ≠ gb932 := Nat.ne_of_lt (Nat.lt_of_lt_of_le (by have := World.block_lt_of_cell? _ _ hx933_0; first | rwa [add_block] at this | exact this) GW932.out); replace hx933_0 := cU HB hx933_0; replace hx933_0 := (cell_far (p := ⟨gb932, 0, none⟩) (by first | (rw [add_block]; exact hn933_0) | (show (Addr.add _ _).block ≠ _; rw [add_block]; exact hn933_0) | exact hn933_0) (.slice A931_0 ((rd_T168 l1 x18_1).f0).length c931_0)).trans hx933_0; replace hx933_0 := (cell_far (p := ⟨gb932, 1, none⟩) (by first | (rw [add_block]; exact hn933_1) | (show (Addr.add _ _).block ≠ _; rw [add_block]; exact hn933_1) | exact hn933_1) (.int .i64 ((rd_T168 l1 x18_1).f1))).trans hx933_0; (try have hy933_0 := fun (n_ : Nat) => (show ((((w10.drewN n_).setCell ⟨gb932, 0, none⟩ (.slice A931_0 ((rd_T168 l1 x18_1).f0).length c931_0)).setCell ⟨gb932, 1, none⟩ (.int .i64 ((rd_T168 l1 x18_1).f1)))).cell? _ = some _ from hx933_0)); clear hn933_0; clear hn933_1; replace p933 := eq_true p933; replace q933 := eq_true q933)); try go_wp2_with (first | ((with_reducible refine gate_dst (N := 9) rfl ?_); refine box_event ?hg (N := 9) ?hd (cs := #[.slice none 0 0, .int .i64 0]) (t := 168) ?hr ?_; (case hd => rfl); (case hg => rfl); (case hr => exact tG); intro gb932 hg w10 hbox hb; have BK932 := Sd.mk (hbox); have GW932 := Sd.mk (bSz hg (bBl HB.out)); have GE932 := Sd.mk (bSz hg (bBl HB.out)); replace HB := Sd.mk (below_step (bBl HB.out) hb); have NB929_932 := Sd.mk (bNl hg (bkA BK929.out)); have NB932_929 := Sd.mk (bNg hg (bkA BK929.out)); replace BK929 := Sd.mk (blk_below (bkA BK929.out) hb); have NB930_932 := Sd.mk (bNl hg (bkA BK930.out)); have NB932_930 := Sd.mk (bNg hg (bkA BK930.out)); replace BK930 := Sd.mk (blk_below (bkA BK930.out) hb); clear hb hbox hg; have hnb11 := NB932_929.out; have hnc11 := NB929_932.out; have hnb12 := NB932_930.out; have hnc12 := NB930_932.out; obtain ⟨u13_0, u13_1, o13_0, o13_1⟩ := bc2 (w := w10) BK932.out; have hnb14 := NB930_929.out; have hnc14 := NB929_930.out; obtain ⟨u15_0, u15_1, o15_0, o15_1⟩ := bc2 (w := w10) BK930.out; have p933 : 0 ≤ (x18_1 : Int) := tB; have q933 : x18_1 < (l2_1.length : Int) := tB; obtain ⟨ad933, e933, hx933_0⟩ := Kd.at_int HR2_1.out x18_1 p933 q933; cases e933; have hn933_0 : ad933.block ≠ gb932 := Nat.ne_of_lt (Nat.lt_of_lt_of_le (by have := World.block_lt_of_cell? _ _ hx933_0; first | rwa [add_block] at this | exact this) GW932.out); have hn933_1 : ad933.block ≠ gb932 := Nat.ne_of_lt (Nat.lt_of_lt_of_le (by have := World.block_lt_of_cell? _ _ hx933_0; first | rwa [add_block] at this | exact this) GW932.out); replace hx933_0 := cU HB hx933_0; replace hx933_0 := (cell_far (p := ⟨gb932, 0, none⟩) (by first | (rw [add_block]; exact hn933_0) | (show (Addr.add _ _).block ≠ _; rw [add_block]; exact hn933_0) | exact hn933_0) (.slice A931_0 ((rd_T168 l1 x18_1).f0).length c931_0)).trans hx933_0; replace hx933_0 := (cell_far (p := ⟨gb932, 1, none⟩) (by first | (rw [add_block]; exact hn933_1) | (show (Addr.add _ _).block ≠ _; rw [add_block]; exact hn933_1) | exact hn933_1) (.int .i64 ((rd_T168 l1 x18_1).f1))).trans hx933_0; (try have hy933_0 := fun (n_ : Nat) => (show ((((w10.drewN n_).setCell ⟨gb932, 0, none⟩ (.slice A931_0 ((rd_T168 l1 x18_1).f0).length c931_0)).setCell ⟨gb932, 1, none⟩ (.int .i64 ((rd_T168 l1 x18_1).f1)))).cell? _ = some _ from hx933_0)); clear hn933_0; clear hn933_1; replace p933 := eq_true p933; replace q933 := eq_true q933)))
       go_roundg k1
       case measure => have := HK1.out; omega
       case rel => exact ⟨(wrap64 (x7_1 - (wrap64 ((rd l2_1 x18_1) * ((rd_T168 l1 x18_1).f1))))), (wrap64 (x18_1 + 1)), tS, tS, H', ⟨by have := HK1.out; omega⟩, ⟨by refine bkZ ?_; refine blk_far ?_ NB929_932.out _; refine bkZ ?_; refine blk_far ?_ NB929_932.out _; refine bkZ ?_; exact BK929.out⟩, ⟨by refine bkZ ?_; refine blk_far ?_ NB930_932.out _; refine bkZ ?_; refine blk_far ?_ NB930_932.out _; refine bkZ ?_; exact BK930.out⟩, ⟨bBl HB.out⟩⟩
      ·rw [if_neg c9] at H
       exact absurd H (by simp)
     ·rw [if_neg c8] at H
      exact absurd H (by simp)
    ·rw [if_neg c7] at H
     exact absurd H (by simp)
   ·rw [if_neg c6] at H
    have c6b0 : decide (x18_1 < (l1.length : Int)) = false := decide_eq_false c6
    clear c6; have H' := Sd.mk H; clear H; have hnb16 := NB929_930.out; have hnc16 := NB930_929.out; obtain ⟨u17_0, u17_1, u17_2, u17_3, u17_4, u17_5, u17_6, o17_0, o17_1, o17_2, o17_3, o17_4, o17_5, o17_6⟩ := bc7 (w := wr) BK929.out
    go_wp2
    repeat (go_quiet (fail); try go_wp2)
    go_loopg [7, 37] k1 (fun kq v7 v37 w' => ∃ (x7_2 : Int) (x37_2 : Int), v7 = .int .i64 x7_2 ∧ v37 = .int .i64 x37_2 ∧ Sd (b_least.l1 kq l1 x7_2 l0_1 (l0_1.length : Int) x37_2 a2_0 l2_1 = some r) ∧ Sd (kq ≤ k1) ∧ Sd (w'.heap[gb929]? = some (.cells #[(.slice A0_0 l0_0.length c0_0), (.slice A0_1 l0_1.length c0_1), (.slice A0_2 l0_2.length c0_2), (.slice A0_3 l0_3.length c0_3), .int .i64 a0_4, .int .i64 a0_5, .int .i64 a0_6] 29 (0, 0))) ∧ Sd (w'.heap[gb930]? = some (.cells #[.int .i64 a2_0, (.slice A2_1 l2_1.length c2_1)] 32 (0, 0))) ∧ Sd (Below w.heap.size w w'))
    case atStart => exact ⟨(x7_1), (0), tS, tS, H', ⟨Nat.le_refl _⟩, ⟨bkA BK929.out⟩, ⟨bkA BK930.out⟩, ⟨bBl HB.out⟩⟩
    case round =>
     clear H'; (try clear c1); (try clear c2); (try clear p2 p2); (try clear c6); (try clear c6b0); (try clear p6); (try clear c7); (try clear c7b0); (try clear c8); (try clear c8b0); (try clear c9); (try clear c9b0); (try clear p9); (try clear q9); (try clear hx9); (try clear c11); (try clear c12); (try clear c14); (try clear c16); (try clear u13_0 u13_1); (try clear u15_0 u15_1); (try clear u17_0 u17_1 u17_2 u17_3 u17_4 u17_5 u17_6); (try clear o13_0 o13_1); (try clear o15_0 o15_1); (try clear o17_0 o17_1 o17_2 o17_3 o17_4 o17_5 o17_6); (try clear hx931_0); (try clear hx931_1); (try clear hx933_0); (try clear p931); (try clear p933); (try clear q931); (try clear q933); obtain ⟨x7_2, x37_2, rfl, rfl, HA, HK2, BK929, BK930, HB⟩ := hrel
     cases gk with
     | zero => exact absurd HA.out (by simp [b_least.l1])
     | succ k2 =>
      have H := HA.out; clear HA
      simp only [b_least.l1] at H
      by_cases c18 : x37_2 < (l0_1.length : Int)
      ·rw [if_pos c18] at H
       have c18b0 : decide (x37_2 < (l0_1.length : Int)) = true := decide_eq_true c18
       clear c18
       by_cases c19 : 0 ≤ x37_2
       ·rw [if_pos c19] at H
        have c19b0 : decide (0 ≤ x37_2) = true := decide_eq_true c19
        clear c19
        by_cases c20 : x37_2 < (l0_1.length : Int)
        ·rw [if_pos c20] at H
         have c20b0 : decide (x37_2 < (l0_1.length : Int)) = true := decide_eq_true c20
         clear c20; have H' := Sd.mk H; clear H
         have p934 : 0 ≤ (x37_2 : Int) := tB
         have q934 : x37_2 < (l0_1.length : Int) := tB
         obtain ⟨ad934, A934_6, c934_6, e934, hx934_0, hx934_1, hx934_2, hx934_3, hx934_4, hx934_5, hx934_6, hl934_6, hi934_6⟩ := at_T70 HR0_1.out x37_2 p934 q934; cases e934; replace hx934_0 := cU HB hx934_0; replace hx934_1 := cU HB hx934_1; replace hx934_2 := cU HB hx934_2; replace hx934_3 := cU HB hx934_3; replace hx934_4 := cU HB hx934_4; replace hx934_5 := cU HB hx934_5; replace hx934_6 := cU HB hx934_6; have HR934_6 := Sd.mk hi934_6; have HC934_6 := Sd.mk hl934_6; clear hi934_6 hl934_6; replace p934 := eq_true p934; replace q934 := eq_true q934
         go_wp2_with (first | ((with_reducible refine gate_dst (N := 11) rfl ?_); refine box_event ?hg (N := 11) ?hd (cs := #[.string (⟨#[]⟩ : ByteArray), .int .i64 0, .int .i64 0, .int .i64 0, .int .i64 0, .int .i64 0, .slice none 0 0]) (t := 70) ?hr ?_; (case hd => rfl); (case hg => rfl); (case hr => exact tG); intro gb935 hg w21 hbox hb; have BK935 := Sd.mk (hbox); have GW935 := Sd.mk (bSz hg (bBl HB.out)); have GE935 := Sd.mk (bSz hg (bBl HB.out)); replace HB := Sd.mk (below_step (bBl HB.out) hb); have NB929_935 := Sd.mk (bNl hg (bkA BK929.out)); have NB935_929 := Sd.mk (bNg hg (bkA BK929.out)); replace BK929 := Sd.mk (blk_below (bkA BK929.out) hb); have NB930_935 := Sd.mk (bNl hg (bkA BK930.out)); have NB935_930 := Sd.mk (bNg hg (bkA BK930.out)); replace BK930 := Sd.mk (blk_below (bkA BK930.out) hb); clear hb hbox hg; have hnb22 := NB935_929.out; have hnc22 := NB929_935.out; have hnb23 := NB935_930.out; have hnc23 := NB930_935.out; obtain ⟨u24_0, u24_1, u24_2, u24_3, u24_4, u24_5, u24_6, o24_0, o24_1, o24_2, o24_3, o24_4, o24_5, o24_6⟩ := bc7 (w := w21) BK935.out; have hnb25 := NB930_929.out; have hnc25 := NB929_930.out; obtain ⟨u26_0, u26_1, o26_0, o26_1⟩ := bc2 (w := w21) BK930.out))
         repeat (go_quiet (first | ((with_reducible refine gate_dst (N := 11) rfl ?_); refine box_event ?hg (N := 11) ?hd (cs := #[.string (⟨#[]⟩ : ByteArray), .int .i64 0, .int .i64 0, .int .i64 0, .int .i64 0, .int .i64 0, .slice none 0 0]) (t := 70) ?hr ?_; (case hd => rfl); (case hg => rfl); (case hr => exact tG); intro gb935 hg w21 hbox hb; have BK935 := Sd.mk (hbox); have GW935 := Sd.mk (bSz hg (bBl HB.out)); have GE935 := Sd.mk (bSz hg (bBl HB.out)); replace HB := Sd.mk (below_step (bBl HB.out) hb); have NB929_935 := Sd.mk (bNl hg (bkA BK929.out)); have NB935_929 := Sd.mk (bNg hg (bkA BK929.out)); replace BK929 := Sd.mk (blk_below (bkA BK929.out) hb); have NB930_935 := Sd.mk (bNl hg (bkA BK930.out)); have NB935_930 := Sd.mk (bNg hg (bkA BK930.out)); replace BK930 := Sd.mk (blk_below (bkA BK930.out) hb); clear hb hbox hg; have hnb22 := NB935_929.out; have hnc22 := NB929_935.out; have hnb23 := NB935_930.out; have hnc23 := NB930_935.out; obtain ⟨u24_0, u24_1, u24_2, u24_3, u24_4, u24_5, u24_6, o24_0, o24_1, o24_2, o24_3, o24_4, o24_5, o24_6⟩ := bc7 (w := w21) BK935.out; have hnb25 := NB930_929.out; have hnc25 := NB929_930.out; obtain ⟨u26_0, u26_1, o26_0, o26_1⟩ := bc2 (w := w21) BK930.out)); try go_wp2_with (first | ((with_reducible refine gate_dst (N := 11) rfl ?_); refine box_event ?hg (N := 11) ?hd (cs := #[.string (⟨#[]⟩ : ByteArray), .int .i64 0, .int .i64 0, .int .i64 0, .int .i64 0, .int .i64 0, .slice none 0 0]) (t := 70) ?hr ?_; (case hd => rfl); (case hg => rfl); (case hr => exact tG); intro gb935 hg w21 hbox hb; have BK935 := Sd.mk (hbox); have GW935 := Sd.mk (bSz hg (bBl HB.out)); have GE935 := Sd.mk (bSz hg (bBl HB.out)); replace HB := Sd.mk (below_step (bBl HB.out) hb); have NB929_935 := Sd.mk (bNl hg (bkA BK929.out)); have NB935_929 := Sd.mk (bNg hg (bkA BK929.out)); replace BK929 := Sd.mk (blk_below (bkA BK929.out) hb); have NB930_935 := Sd.mk (bNl hg (bkA BK930.out)); have NB935_930 := Sd.mk (bNg hg (bkA BK930.out)); replace BK930 := Sd.mk (blk_below (bkA BK930.out) hb); clear hb hbox hg; have hnb22 := NB935_929.out; have hnc22 := NB929_935.out; have hnb23 := NB935_930.out; have hnc23 := NB930_935.out; obtain ⟨u24_0, u24_1, u24_2, u24_3, u24_4, u24_5, u24_6, o24_0, o24_1, o24_2, o24_3, o24_4, o24_5, o24_6⟩ := bc7 (w := w21) BK935.out; have hnb25 := NB930_929.out; have hnc25 := NB929_930.out; obtain ⟨u26_0, u26_1, o26_0, o26_1⟩ := bc2 (w := w21) BK930.out)))
         go_loopg [12, 49] k2 (fun kq v12 v49 w' => ∃ (x12_3 : Int) (x49_3 : Int), v12 = .int .i64 x12_3 ∧ v49 = .int .i64 x49_3 ∧ Sd (b_least.l2 kq l1 x7_2 x37_2 x12_3 l0_1 (l0_1.length : Int) x37_2 l1 (l1.length : Int) x49_3 a2_0 l2_1 ((rd_T70 l0_1 x37_2).f0) ((rd_T70 l0_1 x37_2).f1) ((rd_T70 l0_1 x37_2).f2) ((rd_T70 l0_1 x37_2).f3) ((rd_T70 l0_1 x37_2).f4) ((rd_T70 l0_1 x37_2).f5) ((rd_T70 l0_1 x37_2).f6) = some r) ∧ Sd (kq ≤ k2) ∧ Sd (w'.heap[gb929]? = some (.cells #[(.slice A0_0 l0_0.length c0_0), (.slice (some ad934) l0_1.length c0_1), (.slice A0_2 l0_2.length c0_2), (.slice A0_3 l0_3.length c0_3), .int .i64 a0_4, .int .i64 a0_5, .int .i64 a0_6] 29 (0, 0))) ∧ Sd (w'.heap[gb930]? = some (.cells #[.int .i64 a2_0, (.slice A2_1 l2_1.length c2_1)] 32 (0, 0))) ∧ Sd (w'.heap[gb935]? = some (.cells #[.string ((rd_T70 l0_1 x37_2).f0), .int .i64 ((rd_T70 l0_1 x37_2).f1), .int .i64 ((rd_T70 l0_1 x37_2).f2), .int .i64 ((rd_T70 l0_1 x37_2).f3), .int .i64 ((rd_T70 l0_1 x37_2).f4), .int .i64 ((rd_T70 l0_1 x37_2).f5), (.slice A934_6 ((rd_T70 l0_1 x37_2).f6).length c934_6)] 70 (0, 0))) ∧ Sd (Below w.heap.size w w'))
         case atStart => exact ⟨(wrap64 (a2_0 * ((rd_T70 l0_1 x37_2).f1))), (0), tS, tS, H', ⟨Nat.le_refl _⟩, ⟨by refine bkZ ?_; refine blk_far ?_ NB929_935.out _; refine bkZ ?_; refine blk_far ?_ NB929_935.out _; refine bkZ ?_; refine blk_far ?_ NB929_935.out _; refine bkZ ?_; refine blk_far ?_ NB929_935.out _; refine bkZ ?_; refine blk_far ?_ NB929_935.out _; refine bkZ ?_; refine blk_far ?_ NB929_935.out _; refine bkZ ?_; refine blk_far ?_ NB929_935.out _; refine bkZ ?_; exact BK929.out⟩, ⟨by refine bkZ ?_; refine blk_far ?_ NB930_935.out _; refine bkZ ?_; refine blk_far ?_ NB930_935.out _; refine bkZ ?_; refine blk_far ?_ NB930_935.out _; refine bkZ ?_; refine blk_far ?_ NB930_935.out _; refine bkZ ?_; refine blk_far ?_ NB930_935.out _; refine bkZ ?_; refine blk_far ?_ NB930_935.out _; refine bkZ ?_; refine blk_far ?_ NB930_935.out _; refine bkZ ?_; exact BK930.out⟩, ⟨by refine bkZ ?_; refine blk_put (cs := #[.string ((rd_T70 l0_1 x37_2).f0), .int .i64 ((rd_T70 l0_1 x37_2).f1), .int .i64 ((rd_T70 l0_1 x37_2).f2), .int .i64 ((rd_T70 l0_1 x37_2).f3), .int .i64 ((rd_T70 l0_1 x37_2).f4), .int .i64 ((rd_T70 l0_1 x37_2).f5), .slice none 0 0]) ?_ 6 _ rfl; refine bkZ ?_; refine blk_put (cs := #[.string ((rd_T70 l0_1 x37_2).f0), .int .i64 ((rd_T70 l0_1 x37_2).f1), .int .i64 ((rd_T70 l0_1 x37_2).f2), .int .i64 ((rd_T70 l0_1 x37_2).f3), .int .i64 ((rd_T70 l0_1 x37_2).f4), .int .i64 0, .slice none 0 0]) ?_ 5 _ rfl; refine bkZ ?_; refine blk_put (cs := #[.string ((rd_T70 l0_1 x37_2).f0), .int .i64 ((rd_T70 l0_1 x37_2).f1), .int .i64 ((rd_T70 l0_1 x37_2).f2), .int .i64 ((rd_T70 l0_1 x37_2).f3), .int .i64 0, .int .i64 0, .slice none 0 0]) ?_ 4 _ rfl; refine bkZ ?_; refine blk_put (cs := #[.string ((rd_T70 l0_1 x37_2).f0), .int .i64 ((rd_T70 l0_1 x37_2).f1), .int .i64 ((rd_T70 l0_1 x37_2).f2), .int .i64 0, .int .i64 0, .int .i64 0, .slice none 0 0]) ?_ 3 _ rfl; refine bkZ ?_; refine blk_put (cs := #[.string ((rd_T70 l0_1 x37_2).f0), .int .i64 ((rd_T70 l0_1 x37_2).f1), .int .i64 0, .int .i64 0, .int .i64 0, .int .i64 0, .slice none 0 0]) ?_ 2 _ rfl; refine bkZ ?_; refine blk_put (cs := #[.string ((rd_T70 l0_1 x37_2).f0), .int .i64 0, .int .i64 0, .int .i64 0, .int .i64 0, .int .i64 0, .slice none 0 0]) ?_ 1 _ rfl; refine bkZ ?_; refine blk_put (cs := #[.string (⟨#[]⟩ : ByteArray), .int .i64 0, .int .i64 0, .int .i64 0, .int .i64 0, .int .i64 0, .slice none 0 0]) ?_ 0 _ rfl; refine bkZ ?_; exact BK935.out⟩, ⟨bBl HB.out⟩⟩
         case round =>
          clear H'; (try clear c1); (try clear c2); (try clear p2 p2); (try clear c6); (try clear c6b0); (try clear p6 p6); (try clear c7); (try clear c7b0); (try clear c8); (try clear c8b0); (try clear c9); (try clear c9b0); (try clear p9 p9); (try clear q9 q9); (try clear hx9); (try clear c11); (try clear c12); (try clear c14); (try clear c16); (try clear c18); (try clear c18b0); (try clear c19); (try clear c19b0); (try clear c20); (try clear c20b0); (try clear c22); (try clear c23); (try clear c25); (try clear u13_0 u13_1); (try clear u15_0 u15_1); (try clear u17_0 u17_1 u17_2 u17_3 u17_4 u17_5 u17_6); (try clear u24_0 u24_1 u24_2 u24_3 u24_4 u24_5 u24_6); (try clear u26_0 u26_1); (try clear o13_0 o13_1); (try clear o15_0 o15_1); (try clear o17_0 o17_1 o17_2 o17_3 o17_4 o17_5 o17_6); (try clear o24_0 o24_1 o24_2 o24_3 o24_4 o24_5 o24_6); (try clear o26_0 o26_1); (try clear hx931_0); (try clear hx931_1); (try clear hx933_0); (try clear hx934_0); (try clear hx934_1); (try clear hx934_2); (try clear hx934_3); (try clear hx934_4); (try clear hx934_5); (try clear hx934_6); (try clear p931); (try clear p933); (try clear p934); (try clear q931); (try clear q933); (try clear q934); obtain ⟨x12_3, x49_3, rfl, rfl, HA, HK3, BK929, BK930, BK935, HB⟩ := hrel
          cases gk with
          | zero => exact absurd HA.out (by simp [b_least.l2])
          | succ k3 =>
           have H := HA.out; clear HA
           simp only [b_least.l2] at H
           by_cases c27 : x49_3 < (l1.length : Int)
           ·rw [if_pos c27] at H
            have c27b0 : decide (x49_3 < (l1.length : Int)) = true := decide_eq_true c27
            clear c27
            by_cases c28 : 0 ≤ x49_3
            ·rw [if_pos c28] at H
             have c28b0 : decide (0 ≤ x49_3) = true := decide_eq_true c28
             clear c28
             by_cases c29 : x49_3 < (l1.length : Int)
             ·rw [if_pos c29] at H
              have c29b0 : decide (x49_3 < (l1.length : Int)) = true := decide_eq_true c29
              clear c29
              by_cases c30 : x49_3 < (l2_1.length : Int)
              ·rw [if_pos c30] at H
               have c30b0 : decide (x49_3 < (l2_1.length : Int)) = true := decide_eq_true c30
               clear c30
               by_cases c31 : 0 ≤ x37_2
               ·rw [if_pos c31] at H
                have c31b0 : decide (0 ≤ x37_2) = true := decide_eq_true c31
                clear c31
                by_cases c32 : x37_2 < (((rd_T168 l1 x49_3).f0).length : Int)
                ·rw [if_pos c32] at H
                 have c32b0 : decide (x37_2 < (((rd_T168 l1 x49_3).f0).length : Int)) = true := decide_eq_true c32
                 clear c32; have H' := Sd.mk H; clear H
                 have p936 : 0 ≤ (x49_3 : Int) := tB
                 have q936 : x49_3 < (l1.length : Int) := tB
                 obtain ⟨ad936, A936_0, c936_0, e936, hx936_0, hx936_1, hl936_0, hi936_0⟩ := at_T168 HR1.out x49_3 p936 q936; cases e936; replace hx936_0 := cU HB hx936_0; replace hx936_1 := cU HB hx936_1; have HR936_0 := Sd.mk hi936_0; have HC936_0 := Sd.mk hl936_0; clear hi936_0 hl936_0; replace p936 := eq_true p936; replace q936 := eq_true q936
                 go_wp2_with (first | ((with_reducible refine gate_dst (N := 14) rfl ?_); refine box_event ?hg (N := 14) ?hd (cs := #[.slice none 0 0, .int .i64 0]) (t := 168) ?hr ?_; (case hd => rfl); (case hg => rfl); (case hr => exact tG); intro gb937 hg w33 hbox hb; have BK937 := Sd.mk (hbox); have GW937 := Sd.mk (bSz hg (bBl HB.out)); have GE937 := Sd.mk (bSz hg (bBl HB.out)); replace HB := Sd.mk (below_step (bBl HB.out) hb); have NB929_937 := Sd.mk (bNl hg (bkA BK929.out)); have NB937_929 := Sd.mk (bNg hg (bkA BK929.out)); replace BK929 := Sd.mk (blk_below (bkA BK929.out) hb); have NB930_937 := Sd.mk (bNl hg (bkA BK930.out)); have NB937_930 := Sd.mk (bNg hg (bkA BK930.out)); replace BK930 := Sd.mk (blk_below (bkA BK930.out) hb); have NB935_937 := Sd.mk (bNl hg (bkA BK935.out)); have NB937_935 := Sd.mk (bNg hg (bkA BK935.out)); replace BK935 := Sd.mk (blk_below (bkA BK935.out) hb); clear hb hbox hg; have hnb34 := NB937_929.out; have hnc34 := NB929_937.out; have hnb35 := NB937_930.out; have hnc35 := NB930_937.out; have hnb36 := NB937_935.out; have hnc36 := NB935_937.out; obtain ⟨u37_0, u37_1, o37_0, o37_1⟩ := bc2 (w := w33) BK937.out; have hnb38 := NB930_929.out; have hnc38 := NB929_930.out; have hnb39 := NB930_935.out; have hnc39 := NB935_930.out; obtain ⟨u40_0, u40_1, o40_0, o40_1⟩ := bc2 (w := w33) BK930.out; have p938 : 0 ≤ (x49_3 : Int) := tB; have q938 : x49_3 < (l2_1.length : Int) := tB; obtain ⟨ad938, e938, hx938_0⟩ := Kd.at_int HR2_1.out x49_3 p938 q938; cases e938; have hn938_0 : ad938.block ≠ gb937 := Nat.ne_of_lt (Nat.lt_of_lt_of_le (by have := World.block_lt_of_cell? _ _ hx938_0; first | rwa [add_block] at this | exact this) GW937.out); have hn938_1 : ad938.block ≠ gb937 := Nat.ne_of_lt (Nat.lt_of_lt_of_le (by have := World.block_lt_of_cell? _ _ hx938_0; first | rwa [add_block] at this | exact this) GW937.out); replace hx938_0 := cU HB hx938_0; replace hx938_0 := (cell_far (p := ⟨gb937, 0, none⟩) (by first | (rw [add_block]; exact hn938_0) | (show (Addr.add _ _).block ≠ _; rw [add_block]; exact hn938_0) | exact hn938_0) (.slice A936_0 ((rd_T168 l1 x49_3).f0).length c936_0)).trans hx938_0; replace hx938_0 := (cell_far (p := ⟨gb937, 1, none⟩) (by first | (rw [add_block]; exact hn938_1) | (show (Addr.add _ _).block ≠ _; rw [add_block]; exact hn938_1) | exact hn938_1) (.int .i64 ((rd_T168 l1 x49_3).f1))).trans hx938_0; (try have hy938_0 := fun (n_ : Nat) => (show ((((w33.drewN n_).setCell ⟨gb937, 0, none⟩ (.slice A936_0 ((rd_T168 l1 x49_3).f0).length c936_0)).setCell ⟨gb937, 1, none⟩ (.int .i64 ((rd_T168 l1 x49_3).f1)))).cell? _ = some _ from hx938_0)); clear hn938_0; clear hn938_1; replace p938 := eq_true p938; replace q938 := eq_true q938; have p939 : 0 ≤ (x37_2 : Int) := tB; have q939 : x37_2 < (((rd_T168 l1 x49_3).f0).length : Int) := tB; obtain ⟨ad939, e939, hx939_0⟩ := Kd.at_int HR936_0.out x37_2 p939 q939; cases e939; have hn939_0 : ad939.block ≠ gb937 := Nat.ne_of_lt (Nat.lt_of_lt_of_le (by have := World.block_lt_of_cell? _ _ hx939_0; first | rwa [add_block] at this | exact this) GW937.out); have hn939_1 : ad939.block ≠ gb937 := Nat.ne_of_lt (Nat.lt_of_lt_of_le (by have := World.block_lt_of_cell? _ _ hx939_0; first | rwa [add_block] at this | exact this) GW937.out); replace hx939_0 := cU HB hx939_0; replace hx939_0 := (cell_far (p := ⟨gb937, 0, none⟩) (by first | (rw [add_block]; exact hn939_0) | (show (Addr.add _ _).block ≠ _; rw [add_block]; exact hn939_0) | exact hn939_0) (.slice (some ad939) ((rd_T168 l1 x49_3).f0).length c936_0)).trans hx939_0; replace hx939_0 := (cell_far (p := ⟨gb937, 1, none⟩) (by first | (rw [add_block]; exact hn939_1) | (show (Addr.add _ _).block ≠ _; rw [add_block]; exact hn939_1) | exact hn939_1) (.int .i64 ((rd_T168 l1 x49_3).f1))).trans hx939_0; (try have hy939_0 := fun (n_ : Nat) => (show ((((w33.drewN n_).setCell ⟨gb937, 0, none⟩ (.slice (some ad939) ((rd_T168 l1 x49_3).f0).length c936_0)).setCell ⟨gb937, 1, none⟩ (.int .i64 ((rd_T168 l1 x49_3).f1)))).cell? _ = some _ from hx939_0)); clear hn939_0; clear hn939_1; replace p939 := eq_true p939; replace q939 := eq_true q939))
                 repeat (go_quiet (first | ((with_reducible refine gate_dst (N := 14) rfl ?_); refine box_event ?hg (N := 14) ?hd (cs := #[.slice none 0 0, .int .i64 0]) (t := 168) ?hr ?_; (case hd => rfl); (case hg => rfl); (case hr => exact tG); intro gb937 hg w33 hbox hb; have BK937 := Sd.mk (hbox); have GW937 := Sd.mk (bSz hg (bBl HB.out)); have GE937 := Sd.mk (bSz hg (bBl HB.out)); replace HB := Sd.mk (below_step (bBl HB.out) hb); have NB929_937 := Sd.mk (bNl hg (bkA BK929.out)); have NB937_929 := Sd.mk (bNg hg (bkA BK929.out)); replace BK929 := Sd.mk (blk_below (bkA BK929.out) hb); have NB930_937 := Sd.mk (bNl hg (bkA BK930.out)); have NB937_930 := Sd.mk (bNg hg (bkA BK930.out)); replace BK930 := Sd.mk (blk_below (bkA BK930.out) hb); have NB935_937 := Sd.mk (bNl hg (bkA BK935.out)); have NB937_935 := Sd.mk (bNg hg (bkA BK935.out)); replace BK935 := Sd.mk (blk_below (bkA BK935.out) hb); clear hb hbox hg; have hnb34 := NB937_929.out; have hnc34 := NB929_937.out; have hnb35 := NB937_930.out; have hnc35 := NB930_937.out; have hnb36 := NB937_935.out; have hnc36 := NB935_937.out; obtain ⟨u37_0, u37_1, o37_0, o37_1⟩ := bc2 (w := w33) BK937.out; have hnb38 := NB930_929.out; have hnc38 := NB929_930.out; have hnb39 := NB930_935.out; have hnc39 := NB935_930.out; obtain ⟨u40_0, u40_1, o40_0, o40_1⟩ := bc2 (w := w33) BK930.out; have p938 : 0 ≤ (x49_3 : Int) := tB; have q938 : x49_3 < (l2_1.length : Int) := tB; obtain ⟨ad938, e938, hx938_0⟩ := Kd.at_int HR2_1.out x49_3 p938 q938; cases e938; have hn938_0 : ad938.block ≠ gb937 := Nat.ne_of_lt (Nat.lt_of_lt_of_le (by have := World.block_lt_of_cell? _ _ hx938_0; first | rwa [add_block] at this | exact this) GW937.out); have hn938_1 : ad938.block ≠ gb937 := Nat.ne_of_lt (Nat.lt_of_lt_of_le (by have := World.block_lt_of_cell? _ _ hx938_0; first | rwa [add_block] at this | exact this) GW937.out); replace hx938_0 := cU HB hx938_0; replace hx938_0 := (cell_far (p := ⟨gb937, 0, none⟩) (by first | (rw [add_block]; exact hn938_0) | (show (Addr.add _ _).block ≠ _; rw [add_block]; exact hn938_0) | exact hn938_0) (.slice A936_0 ((rd_T168 l1 x49_3).f0).length c936_0)).trans hx938_0; replace hx938_0 := (cell_far (p := ⟨gb937, 1, none⟩) (by first | (rw [add_block]; exact hn938_1) | (show (Addr.add _ _).block ≠ _; rw [add_block]; exact hn938_1) | exact hn938_1) (.int .i64 ((rd_T168 l1 x49_3).f1))).trans hx938_0; (try have hy938_0 := fun (n_ : Nat) => (show ((((w33.drewN n_).setCell ⟨gb937, 0, none⟩ (.slice A936_0 ((rd_T168 l1 x49_3).f0).length c936_0)).setCell ⟨gb937, 1, none⟩ (.int .i64 ((rd_T168 l1 x49_3).f1)))).cell? _ = some _ from hx938_0)); clear hn938_0; clear hn938_1; replace p938 := eq_true p938; replace q938 := eq_true q938; have p939 : 0 ≤ (x37_2 : Int) := tB; have q939 : x37_2 < (((rd_T168 l1 x49_3).f0).length : Int) := tB; obtain ⟨ad939, e939, hx939_0⟩ := Kd.at_int HR936_0.out x37_2 p939 q939; cases e939; have hn939_0 : ad939.block ≠ gb937 := Nat.ne_of_lt (Nat.lt_of_lt_of_le (by have := World.block_lt_of_cell? _ _ hx939_0; first | rwa [add_block] at this | exact this) GW937.out); have hn939_1 : ad939.block ≠ gb937 := Nat.ne_of_lt (Nat.lt_of_lt_of_le (by have := World.block_lt_of_cell? _ _ hx939_0; first | rwa [add_block] at this | exact this) GW937.out); replace hx939_0 := cU HB hx939_0; replace hx939_0 := (cell_far (p := ⟨gb937, 0, none⟩) (by first | (rw [add_block]; exact hn939_0) | (show (Addr.add _ _).block ≠ _; rw [add_block]; exact hn939_0) | exact hn939_0) (.slice (some ad939) ((rd_T168 l1 x49_3).f0).length c936_0)).trans hx939_0; replace hx939_0 := (cell_far (p := ⟨gb937, 1, none⟩) (by first | (rw [add_block]; exact hn939_1) | (show (Addr.add _ _).block ≠ _; rw [add_block]; exact hn939_1) | exact hn939_1) (.int .i64 ((rd_T168 l1 x49_3).f1))).trans hx939_0; (try have hy939_0 := fun (n_ : Nat) => (show ((((w33.drewN n_).setCell ⟨gb937, 0, none⟩ (.slice (some ad939) ((rd_T168 l1 x49_3).f0).length c936_0)).setCell ⟨gb937, 1, none⟩ (.int .i64 ((rd_T168 l1 x49_3).f1)))).cell? _ = some _ from hx939_0)); clear hn939_0; clear hn939_1; replace p939 := eq_true p939; replace q939 := eq_true q939)); try go_wp2_with (first | ((with_reducible refine gate_dst (N := 14) rfl ?_); refine box_event ?hg (N := 14) ?hd (cs := #[.slice none 0 0, .int .i64 0]) (t := 168) ?hr ?_; (case hd => rfl); (case hg => rfl); (case hr => exact tG); intro gb937 hg w33 hbox hb; have BK937 := Sd.mk (hbox); have GW937 := Sd.mk (bSz hg (bBl HB.out)); have GE937 := Sd.mk (bSz hg (bBl HB.out)); replace HB := Sd.mk (below_step (bBl HB.out) hb); have NB929_937 := Sd.mk (bNl hg (bkA BK929.out)); have NB937_929 := Sd.mk (bNg hg (bkA BK929.out)); replace BK929 := Sd.mk (blk_below (bkA BK929.out) hb); have NB930_937 := Sd.mk (bNl hg (bkA BK930.out)); have NB937_930 := Sd.mk (bNg hg (bkA BK930.out)); replace BK930 := Sd.mk (blk_below (bkA BK930.out) hb); have NB935_937 := Sd.mk (bNl hg (bkA BK935.out)); have NB937_935 := Sd.mk (bNg hg (bkA BK935.out)); replace BK935 := Sd.mk (blk_below (bkA BK935.out) hb); clear hb hbox hg; have hnb34 := NB937_929.out; have hnc34 := NB929_937.out; have hnb35 := NB937_930.out; have hnc35 := NB930_937.out; have hnb36 := NB937_935.out; have hnc36 := NB935_937.out; obtain ⟨u37_0, u37_1, o37_0, o37_1⟩ := bc2 (w := w33) BK937.out; have hnb38 := NB930_929.out; have hnc38 := NB929_930.out; have hnb39 := NB930_935.out; have hnc39 := NB935_930.out; obtain ⟨u40_0, u40_1, o40_0, o40_1⟩ := bc2 (w := w33) BK930.out; have p938 : 0 ≤ (x49_3 : Int) := tB; have q938 : x49_3 < (l2_1.length : Int) := tB; obtain ⟨ad938, e938, hx938_0⟩ := Kd.at_int HR2_1.out x49_3 p938 q938; cases e938; have hn938_0 : ad938.block ≠ gb937 := Nat.ne_of_lt (Nat.lt_of_lt_of_le (by have := World.block_lt_of_cell? _ _ hx938_0; first | rwa [add_block] at this | exact this) GW937.out); have hn938_1 : ad938.block ≠ gb937 := Nat.ne_of_lt (Nat.lt_of_lt_of_le (by have := World.block_lt_of_cell? _ _ hx938_0; first | rwa [add_block] at this | exact this) GW937.out); replace hx938_0 := cU HB hx938_0; replace hx938_0 := (cell_far (p := ⟨gb937, 0, none⟩) (by first | (rw [add_block]; exact hn938_0) | (show (Addr.add _ _).block ≠ _; rw [add_block]; exact hn938_0) | exact hn938_0) (.slice A936_0 ((rd_T168 l1 x49_3).f0).length c936_0)).trans hx938_0; replace hx938_0 := (cell_far (p := ⟨gb937, 1, none⟩) (by first | (rw [add_block]; exact hn938_1) | (show (Addr.add _ _).block ≠ _; rw [add_block]; exact hn938_1) | exact hn938_1) (.int .i64 ((rd_T168 l1 x49_3).f1))).trans hx938_0; (try have hy938_0 := fun (n_ : Nat) => (show ((((w33.drewN n_).setCell ⟨gb937, 0, none⟩ (.slice A936_0 ((rd_T168 l1 x49_3).f0).length c936_0)).setCell ⟨gb937, 1, none⟩ (.int .i64 ((rd_T168 l1 x49_3).f1)))).cell? _ = some _ from hx938_0)); clear hn938_0; clear hn938_1; replace p938 := eq_true p938; replace q938 := eq_true q938; have p939 : 0 ≤ (x37_2 : Int) := tB; have q939 : x37_2 < (((rd_T168 l1 x49_3).f0).length : Int) := tB; obtain ⟨ad939, e939, hx939_0⟩ := Kd.at_int HR936_0.out x37_2 p939 q939; cases e939; have hn939_0 : ad939.block ≠ gb937 := Nat.ne_of_lt (Nat.lt_of_lt_of_le (by have := World.block_lt_of_cell? _ _ hx939_0; first | rwa [add_block] at this | exact this) GW937.out); have hn939_1 : ad939.block ≠ gb937 := Nat.ne_of_lt (Nat.lt_of_lt_of_le (by have := World.block_lt_of_cell? _ _ hx939_0; first | rwa [add_block] at this | exact this) GW937.out); replace hx939_0 := cU HB hx939_0; replace hx939_0 := (cell_far (p := ⟨gb937, 0, none⟩) (by first | (rw [add_block]; exact hn939_0) | (show (Addr.add _ _).block ≠ _; rw [add_block]; exact hn939_0) | exact hn939_0) (.slice (some ad939) ((rd_T168 l1 x49_3).f0).length c936_0)).trans hx939_0; replace hx939_0 := (cell_far (p := ⟨gb937, 1, none⟩) (by first | (rw [add_block]; exact hn939_1) | (show (Addr.add _ _).block ≠ _; rw [add_block]; exact hn939_1) | exact hn939_1) (.int .i64 ((rd_T168 l1 x49_3).f1))).trans hx939_0; (try have hy939_0 := fun (n_ : Nat) => (show ((((w33.drewN n_).setCell ⟨gb937, 0, none⟩ (.slice (some ad939) ((rd_T168 l1 x49_3).f0).length c936_0)).setCell ⟨gb937, 1, none⟩ (.int .i64 ((rd_T168 l1 x49_3).f1)))).cell? _ = some _ from hx939_0)); clear hn939_0; clear hn939_1; replace p939 := eq_true p939; replace q939 := eq_true q939)))
                 go_roundg k3
                 case measure => have := HK1.out; have := HK2.out; have := HK3.out; omega
                 case rel => exact ⟨(wrap64 (x12_3 + (wrap64 ((rd l2_1 x49_3) * (rd ((rd_T168 l1 x49_3).f0) x37_2))))), (wrap64 (x49_3 + 1)), tS, tS, H', ⟨by have := HK1.out; have := HK2.out; have := HK3.out; omega⟩, ⟨by refine bkZ ?_; refine blk_far ?_ NB929_937.out _; refine bkZ ?_; refine blk_far ?_ NB929_937.out _; refine bkZ ?_; exact BK929.out⟩, ⟨by refine bkZ ?_; refine blk_far ?_ NB930_937.out _; refine bkZ ?_; refine blk_far ?_ NB930_937.out _; refine bkZ ?_; exact BK930.out⟩, ⟨by refine bkZ ?_; refine blk_far ?_ NB935_937.out _; refine bkZ ?_; refine blk_far ?_ NB935_937.out _; refine bkZ ?_; exact BK935.out⟩, ⟨bBl HB.out⟩⟩
                ·rw [if_neg c32] at H
                 exact absurd H (by simp)
               ·rw [if_neg c31] at H
                exact absurd H (by simp)
              ·rw [if_neg c30] at H
               exact absurd H (by simp)
             ·rw [if_neg c29] at H
              exact absurd H (by simp)
            ·rw [if_neg c28] at H
             exact absurd H (by simp)
           ·rw [if_neg c27] at H
            have c27b0 : decide (x49_3 < (l1.length : Int)) = false := decide_eq_false c27
            clear c27
            by_cases c41 : ((rd_T70 l0_1 x37_2).f5) = 0
            ·rw [if_pos c41] at H
             exact absurd H (by simp)
            ·rw [if_neg c41] at H
             have c41b0 : (((rd_T70 l0_1 x37_2).f5) == 0) = false := beq_eq_false_iff_ne.mpr c41
             have c41b1 : (((rd_T70 l0_1 x37_2).f5) != 0) = true := bne_iff_ne.mpr c41
             obtain ⟨ji42, hji42⟩ : ∃ j_ : Int, (mn (wrap64 (x12_3 * ((rd_T70 l0_1 x37_2).f3))) (wrap64 (x12_3 * (wrap64 (((rd_T70 l0_1 x37_2).f4) - (Int.tmod (wrap64 (((rd_T70 l0_1 x37_2).f4) - ((rd_T70 l0_1 x37_2).f3))) ((rd_T70 l0_1 x37_2).f5))))))) = j_ := ⟨_, rfl⟩
             replace H : (b_least.l1 k3 l1 (wrap64 (x7_2 + (ji42))) l0_1 (l0_1.length : Int) (wrap64 (x37_2 + 1)) a2_0 l2_1) = some r := by first | (rw [hji42] at H; exact H) | (simp only [hji42] at H ⊢; exact H)
             have hji42_ : (if (wrap64 (x12_3 * (wrap64 (((rd_T70 l0_1 x37_2).f4) - (Int.tmod (wrap64 (((rd_T70 l0_1 x37_2).f4) - ((rd_T70 l0_1 x37_2).f3))) ((rd_T70 l0_1 x37_2).f5)))))) < (wrap64 (x12_3 * ((rd_T70 l0_1 x37_2).f3))) then (wrap64 (x12_3 * (wrap64 (((rd_T70 l0_1 x37_2).f4) - (Int.tmod (wrap64 (((rd_T70 l0_1 x37_2).f4) - ((rd_T70 l0_1 x37_2).f3))) ((rd_T70 l0_1 x37_2).f5)))))) else (wrap64 (x12_3 * ((rd_T70 l0_1 x37_2).f3)))) = ji42 := hji42
             have H' := Sd.mk H; clear H; have hnb43 := NB935_929.out; have hnc43 := NB929_935.out; have hnb44 := NB935_930.out; have hnc44 := NB930_935.out; obtain ⟨u45_0, u45_1, u45_2, u45_3, u45_4, u45_5, u45_6, o45_0, o45_1, o45_2, o45_3, o45_4, o45_5, o45_6⟩ := bc7 (w := wr) BK935.out
             go_wp2
             repeat (go_quiet (fail); try go_wp2)
             go_roundg k3
             case measure => have := HK1.out; have := HK2.out; have := HK3.out; omega
             case rel => exact ⟨(wrap64 (x7_2 + (ji42))), (wrap64 (x37_2 + 1)), (by first | rfl | (simp; done) | (simp only [← hji42] <;> (first | rfl | simp)) | (simp [*]; done)), tS, H', ⟨by have := HK1.out; have := HK2.out; have := HK3.out; omega⟩, ⟨bkA BK929.out⟩, ⟨bkA BK930.out⟩, ⟨bBl HB.out⟩⟩
        ·rw [if_neg c20] at H
         exact absurd H (by simp)
       ·rw [if_neg c19] at H
        exact absurd H (by simp)
      ·rw [if_neg c18] at H
       have c18b0 : decide (x37_2 < (l0_1.length : Int)) = false := decide_eq_false c18
       clear c18; obtain rfl := Option.some.inj H
       go_wp2
       repeat (go_quiet (fail); try go_wp2)
       go_ret
       exact ⟨tE, bBl HB.out⟩
end
section
def b_Bound.j0 : Nat → List (S168) → Bool → List ByteArray → List (S70) → List (S27) → List (S89) → Int → Int → Int → Int → List Int → Option (Int × Bool × Int)
 | 0, _, _, _, _, _, _, _, _, _, _, _ => none
 | k + 1, x8, x33, x955q0, x955q1, x955q2, x955q3, x955q4, x955q5, x955q6, x956q0, x956q1 => if x33 = true then (some (0, false, 1)) else ((b_least.f k x955q0 x955q1 x955q2 x955q3 x955q4 x955q5 x955q6 x8 x956q0 x956q1).bind fun t962 => (if x956q0 = 0 then (some (0, decide (t962 > 0), 0)) else ((b_up.f t962 x956q0).bind fun t963 => (some (t963, false, 0)))))
def b_Bound.f (k : Nat) (l0_0 : List ByteArray) (l0_1 : List (S70)) (l0_2 : List (S27)) (l0_3 : List (S89)) (a0_4 : Int) (a0_5 : Int) (a0_6 : Int) (a1_0 : Int) (l1_1 : List Int) : Option (Int × Bool × Int) := (b_Check.f k l0_0 l0_1 l0_2 l0_3 a0_4 a0_5 a0_6).bind fun t956 => (if t956 = 0 then ((x_lines.f l0_0 l0_1 l0_2 l0_3 a0_4 a0_5 a0_6).bind fun t957 => ((b_within.f a1_0 0 1000000).bind fun t960 => (if t960 = true then (if (l1_1.length : Int) = (t957.length : Int) then ((x_weights.f l1_1).bind fun t961 => (b_Bound.j0 k t957 t961 l0_0 l0_1 l0_2 l0_3 a0_4 a0_5 a0_6 a1_0 l1_1)) else (b_Bound.j0 k t957 true l0_0 l0_1 l0_2 l0_3 a0_4 a0_5 a0_6 a1_0 l1_1)) else (b_Bound.j0 k t957 true l0_0 l0_1 l0_2 l0_3 a0_4 a0_5 a0_6 a1_0 l1_1)))) else (some (0, false, t956)))
theorem b_Bound.calls (k : Nat) (A0_0 : Option Addr) (c0_0 : Nat) (l0_0 : List ByteArray) (A0_1 : Option Addr) (c0_1 : Nat) (l0_1 : List (S70)) (A0_2 : Option Addr) (c0_2 : Nat) (l0_2 : List (S27)) (A0_3 : Option Addr) (c0_3 : Nat) (l0_3 : List (S89)) (a0_4 : Int) (a0_5 : Int) (a0_6 : Int) (a1_0 : Int) (A1_1 : Option Addr) (c1_1 : Nat) (l1_1 : List Int) (r1 : Int) (r2 : Bool) (r3 : Int) (w : World) (hr0_0 : Kd.C Kd.string w A0_0 l0_0.length l0_0) (hc0_0 : l0_0.length ≤ c0_0) (hr0_1 : Kd.C k70 w A0_1 l0_1.length l0_1) (hc0_1 : l0_1.length ≤ c0_1) (hr0_2 : Kd.C k27 w A0_2 l0_2.length l0_2) (hc0_2 : l0_2.length ≤ c0_2) (hr0_3 : Kd.C k89 w A0_3 l0_3.length l0_3) (hc0_3 : l0_3.length ≤ c0_3) (hr1_1 : Kd.C (Kd.int .i64) w A1_1 l1_1.length l1_1) (hc1_1 : l1_1.length ≤ c1_1) (h : b_Bound.f k l0_0 l0_1 l0_2 l0_3 a0_4 a0_5 a0_6 a1_0 l1_1 = some (r1, r2, r3)) :
  Calls Tryz.prog 35 #[.agg #[.slice A0_0 l0_0.length c0_0, .slice A0_1 l0_1.length c0_1, .slice A0_2 l0_2.length c0_2, .slice A0_3 l0_3.length c0_3, .int .i64 a0_4, .int .i64 a0_5, .int .i64 a0_6], .agg #[.int .i64 a1_0, .slice A1_1 l1_1.length c1_1]] w fun e w' => e = .returned (.tuple #[.int .i64 r1, .bool r2, .int .i64 r3]) ∧ Below w.heap.size w w' := by
 have hu29 := Tryz.underlying29; have hu32 := Tryz.underlying32; have HR0_0 := Sd.mk hr0_0; have HC0_0 := Sd.mk hc0_0; clear hr0_0 hc0_0; have HR0_1 := Sd.mk hr0_1; have HC0_1 := Sd.mk hc0_1; clear hr0_1 hc0_1; have HR0_2 := Sd.mk hr0_2; have HC0_2 := Sd.mk hc0_2; clear hr0_2 hc0_2; have HR0_3 := Sd.mk hr0_3; have HC0_3 := Sd.mk hc0_3; clear hr0_3 hc0_3; have HR1_1 := Sd.mk hr1_1; have HC1_1 := Sd.mk hc1_1; clear hr1_1 hc1_1; have HB := Sd.mk (Below.refl w.heap.size w)
 have H : ((b_Check.f k l0_0 l0_1 l0_2 l0_3 a0_4 a0_5 a0_6).bind fun t956 => (if t956 = 0 then ((x_lines.f l0_0 l0_1 l0_2 l0_3 a0_4 a0_5 a0_6).bind fun t957 => ((b_within.f a1_0 0 1000000).bind fun t960 => (if t960 = true then (if (l1_1.length : Int) = (t957.length : Int) then ((x_weights.f l1_1).bind fun t961 => (b_Bound.j0 k t957 t961 l0_0 l0_1 l0_2 l0_3 a0_4 a0_5 a0_6 a1_0 l1_1)) else (b_Bound.j0 k t957 true l0_0 l0_1 l0_2 l0_3 a0_4 a0_5 a0_6 a1_0 l1_1)) else (b_Bound.j0 k t957 true l0_0 l0_1 l0_2 l0_3 a0_4 a0_5 a0_6 a1_0 l1_1)))) else (some (0, false, t956)))) = some (r1, r2, r3) := h
 clear h; replace H := Option.bind_eq_some_iff.mp H; obtain ⟨t956, A30, H⟩ := H
 try dsimp only at H
 have A3 := Sd.mk A30; clear A30
 by_cases c4 : t956 = 0
 ·rw [if_pos c4] at H
  have c4b0 : (t956 == 0) = true := beq_iff_eq.mpr c4
  have c4b1 : (t956 != 0) = false := bne_eq_false_iff_eq.mpr c4
  clear c4; replace H := Option.bind_eq_some_iff.mp H; obtain ⟨t957, A50, H⟩ := H
  try dsimp only at H
  have A5 := Sd.mk A50; clear A50; have HC6 := Sd.mk H; clear H
  go_enter Tryz.func35, Tryz.ntmps35
  go_upto_region 5 with (first | ((with_reducible refine gate_dst (N := 2) rfl ?_); (try (refine gate_guard (by rfl) ?_; dsimp only)); refine box_event ?hg (N := 2) ?hd (cs := #[.slice A0_0 l0_0.length c0_0, .slice A0_1 l0_1.length c0_1, .slice A0_2 l0_2.length c0_2, .slice A0_3 l0_3.length c0_3, .int .i64 a0_4, .int .i64 a0_5, .int .i64 a0_6]) (t := 29) ?hr ?_; (case hd => rfl); (case hg => rfl); (case hr => exact tG); intro gb954 hg w7 hbox hb; have BK954 := Sd.mk (hbox); have GW954 := Sd.mk (bSz hg (bBl HB.out)); have GE954 := Sd.mk (bSz hg (bBl HB.out)); replace HB := Sd.mk (below_step (bBl HB.out) hb); clear hb hbox hg) | ((with_reducible refine gate_dst (N := 3) rfl ?_); (try (refine gate_guard (by rfl) ?_; dsimp only)); refine box_event ?hg (N := 3) ?hd (cs := #[.int .i64 a1_0, .slice A1_1 l1_1.length c1_1]) (t := 32) ?hr ?_; (case hd => rfl); (case hg => rfl); (case hr => exact tG); intro gb955 hg w8 hbox hb; have BK955 := Sd.mk (hbox); have GW955 := Sd.mk (bSz hg (bBl HB.out)); have GE955 := Sd.mk (bSz hg (bBl HB.out)); replace HB := Sd.mk (below_step (bBl HB.out) hb); have NB954_955 := Sd.mk (bNl hg (bkA BK954.out)); have NB955_954 := Sd.mk (bNg hg (bkA BK954.out)); replace BK954 := Sd.mk (blk_below (bkA BK954.out) hb); clear hb hbox hg; have hnb9 := NB954_955.out; have hnc9 := NB955_954.out; obtain ⟨u10_0, u10_1, u10_2, u10_3, u10_4, u10_5, u10_6, o10_0, o10_1, o10_2, o10_3, o10_4, o10_5, o10_6⟩ := bc7 (w := w8) BK954.out) | ((with_reducible refine gate_callee (f := 34) rfl ?_); refine goesL_ (some 11) rfl rfl Tryz.func34 (by kernel_rfl) rfl #[.agg #[.slice A0_0 l0_0.length c0_0, .slice A0_1 l0_1.length c0_1, .slice A0_2 l0_2.length c0_2, .slice A0_3 l0_3.length c0_3, .int .i64 a0_4, .int .i64 a0_5, .int .i64 a0_6]] rfl tM ?_; (with_reducible refine (b_Check.calls k _ _ l0_0 _ _ l0_1 _ _ l0_2 _ _ l0_3 a0_4 a0_5 a0_6 t956 _ (cS (Kd.C_below HR0_0.out HB.out)) HC0_0.out (cS (Kd.C_below HR0_1.out HB.out)) HC0_1.out (cS (Kd.C_below HR0_2.out HB.out)) HC0_2.out (cS (Kd.C_below HR0_3.out HB.out)) HC0_3.out A3.out).mono ?_); rintro e w11 ⟨rfl, hb⟩; refine ⟨_, rfl, ?_⟩; replace BK954 := Sd.mk (blk_below (bkA BK954.out) hb); replace BK955 := Sd.mk (blk_below (bkA BK955.out) hb); replace HB := Sd.mk (below_step (bBl HB.out) hb); (try clear hb); (try clear hb2); (try clear hk); (try clear hi); obtain ⟨u12_0, u12_1, u12_2, u12_3, u12_4, u12_5, u12_6, o12_0, o12_1, o12_2, o12_3, o12_4, o12_5, o12_6⟩ := bc7 (w := w11) BK954.out) | ((with_reducible refine gate_callee (f := 52) rfl ?_); refine goesL_ (some 16) rfl rfl Tryz.func52 (by kernel_rfl) rfl #[.agg #[.slice A0_0 l0_0.length c0_0, .slice A0_1 l0_1.length c0_1, .slice A0_2 l0_2.length c0_2, .slice A0_3 l0_3.length c0_3, .int .i64 a0_4, .int .i64 a0_5, .int .i64 a0_6]] rfl tM ?_; (with_reducible refine (x_lines.calls _ _ l0_0 _ _ l0_1 _ _ l0_2 _ _ l0_3 a0_4 a0_5 a0_6 t957 _ (cS (Kd.C_below HR0_0.out HB.out)) HC0_0.out (cS (Kd.C_below HR0_1.out HB.out)) HC0_1.out (cS (Kd.C_below HR0_2.out HB.out)) HC0_2.out (cS (Kd.C_below HR0_3.out HB.out)) HC0_3.out A5.out).mono ?_); rintro e w13 ⟨v958, rfl, ho0, hb⟩; refine ⟨_, rfl, ?_⟩; have HO959 := Sd.mk (Kd.R_lower ho0 (below_size (bBl HB.out))); replace BK954 := Sd.mk (blk_below (bkA BK954.out) hb); replace BK955 := Sd.mk (blk_below (bkA BK955.out) hb); replace HB := Sd.mk (below_step (bBl HB.out) hb); (try clear hb); (try clear hb2); (try clear hk); (try clear hi); (try clear ho0)))
  (try simp only [Act.put, List.setIfInBounds_toArray, List.set_cons_zero, List.set_cons_succ])
  go_cut [33] (fun v33 wc => ∃ (kq : Nat) (x33_5 : Bool), v33 = .bool x33_5 ∧ Sd (b_Bound.j0 kq t957 x33_5 l0_0 l0_1 l0_2 l0_3 a0_4 a0_5 a0_6 a1_0 l1_1 = some (r1, r2, r3)) ∧ Sd (kq ≤ k) ∧ Sd (Kd.R k168 168 wc w.heap.size (fun _ => True) v958 t957) ∧ Sd (wc.heap[gb954]? = some (.cells #[(.slice A0_0 l0_0.length c0_0), (.slice A0_1 l0_1.length c0_1), (.slice A0_2 l0_2.length c0_2), (.slice A0_3 l0_3.length c0_3), .int .i64 a0_4, .int .i64 a0_5, .int .i64 a0_6] 29 (0, 0))) ∧ Sd (wc.heap[gb955]? = some (.cells #[.int .i64 a1_0, (.slice A1_1 l1_1.length c1_1)] 32 (0, 0))) ∧ Sd (Below w.heap.size w wc))
  case first =>
   have H := HC6.out; clear HC6; replace H := Option.bind_eq_some_iff.mp H; obtain ⟨t960, A140, H⟩ := H
   try dsimp only at H
   have A14 := Sd.mk A140; clear A140
   by_cases c15 : t960 = true
   ·subst c15
    have H1 : (if (l1_1.length : Int) = (t957.length : Int) then ((x_weights.f l1_1).bind fun t961 => (b_Bound.j0 k t957 t961 l0_0 l0_1 l0_2 l0_3 a0_4 a0_5 a0_6 a1_0 l1_1)) else (b_Bound.j0 k t957 true l0_0 l0_1 l0_2 l0_3 a0_4 a0_5 a0_6 a1_0 l1_1)) = some (r1, r2, r3) := by rw [if_pos rfl] at H; exact H
    clear H; have H := H1; clear H1
    by_cases c16 : (l1_1.length : Int) = (t957.length : Int)
    ·rw [if_pos c16] at H
     have c16b0 : ((l1_1.length : Int) == (t957.length : Int)) = true := beq_iff_eq.mpr c16
     have c16b1 : ((l1_1.length : Int) != (t957.length : Int)) = false := bne_eq_false_iff_eq.mpr c16
     have c16b2 : (l1_1.length == t957.length) = true := by first | simpa using c16 | (simp at c16 ⊢; omega)
     clear c16
     (first | rw [c16b0] | (simp only [i64_w, i32_w]; rw [c16b0]) | skip)
     replace H := Option.bind_eq_some_iff.mp H; obtain ⟨t961, A170, H⟩ := H
     try dsimp only at H
     have A17 := Sd.mk A170; clear A170; have H' := Sd.mk H; clear H; have hnb18 := NB955_954.out; have hnc18 := NB954_955.out; obtain ⟨u19_0, u19_1, o19_0, o19_1⟩ := bc2 (w := w13) BK955.out
     go_wp2_with (first | ((with_reducible refine gate_callee (f := 56) rfl ?_); refine goesL_ (some 19) rfl rfl Tryz.func56 (by kernel_rfl) rfl #[.int .i64 a1_0, .int .i64 0, .int .i64 1000000] rfl tM ?_; (with_reducible refine (b_within.calls a1_0 0 1000000 true _ A14.out).mono ?_); rintro e w' ⟨rfl, ⟨nd, rfl⟩⟩; refine ⟨_, rfl, ?_⟩; obtain ⟨Ao20, co20, eo20⟩ := Kd.R_slice HO959.out; subst eo20) | (go_at_call 106; (with_reducible refine (x_weights.calls _ _ l1_1 t961 _ (cS (Kd.C_below HR1_1.out (bBl HB.out))) HC1_1.out A17.out).mono ?_); rintro e w21 ⟨rfl, hb⟩; replace HO959 := Sd.mk (Kd.R_below (by (with_reducible repeat (first | apply Kd.R_alloc | apply Kd.R_drewN | apply Kd.R_drew)); exact HO959.out) hb); replace BK954 := Sd.mk (blk_below (bkA BK954.out) hb); replace BK955 := Sd.mk (blk_below (bkA BK955.out) hb); replace HB := Sd.mk (below_step (bBl HB.out) hb); (try clear hb); (try clear hb2); (try clear hk); (try clear hi)))
     go_meet
     case rel => exact ⟨_, (t961), tS, H', ⟨by first | omega | exact Nat.le_refl _⟩, ⟨by (with_reducible repeat (first | apply Kd.R_alloc | apply Kd.R_drewN | apply Kd.R_drew)); exact HO959.out⟩, ⟨bkA BK954.out⟩, ⟨bkA BK955.out⟩, ⟨bBl HB.out⟩⟩
    ·rw [if_neg c16] at H
     have c16b0 : ((l1_1.length : Int) == (t957.length : Int)) = false := beq_eq_false_iff_ne.mpr c16
     have c16b1 : ((l1_1.length : Int) != (t957.length : Int)) = true := bne_iff_ne.mpr c16
     have c16b2 : (l1_1.length == t957.length) = false := by first | simpa using c16 | (simp at c16 ⊢; omega)
     (first | rw [c16b0] | (simp only [i64_w, i32_w]; rw [c16b0]) | skip)
     have H' := Sd.mk H; clear H; have hnb22 := NB955_954.out; have hnc22 := NB954_955.out; obtain ⟨u23_0, u23_1, o23_0, o23_1⟩ := bc2 (w := w13) BK955.out
     go_wp2_with (first | ((with_reducible refine gate_callee (f := 56) rfl ?_); refine goesL_ (some 19) rfl rfl Tryz.func56 (by kernel_rfl) rfl #[.int .i64 a1_0, .int .i64 0, .int .i64 1000000] rfl tM ?_; (with_reducible refine (b_within.calls a1_0 0 1000000 true _ A14.out).mono ?_); rintro e w' ⟨rfl, ⟨nd, rfl⟩⟩; refine ⟨_, rfl, ?_⟩; obtain ⟨Ao24, co24, eo24⟩ := Kd.R_slice HO959.out; subst eo24))
     go_meet
     case rel => exact ⟨_, (true), tS, H', ⟨by first | omega | exact Nat.le_refl _⟩, ⟨by (with_reducible repeat (first | apply Kd.R_alloc | apply Kd.R_drewN | apply Kd.R_drew)); exact HO959.out⟩, ⟨bkA BK954.out⟩, ⟨bkA BK955.out⟩, ⟨bBl HB.out⟩⟩
   ·replace c15 := Bool.eq_false_iff.mpr c15
    subst c15
    have H1 : (b_Bound.j0 k t957 true l0_0 l0_1 l0_2 l0_3 a0_4 a0_5 a0_6 a1_0 l1_1) = some (r1, r2, r3) := by rw [if_neg (show ¬ (false = true) by decide)] at H; exact H
    clear H; have H := H1; clear H1; have H' := Sd.mk H; clear H; have hnb25 := NB955_954.out; have hnc25 := NB954_955.out; obtain ⟨u26_0, u26_1, o26_0, o26_1⟩ := bc2 (w := w13) BK955.out
    go_wp2_with (first | ((with_reducible refine gate_callee (f := 56) rfl ?_); refine goesL_ (some 19) rfl rfl Tryz.func56 (by kernel_rfl) rfl #[.int .i64 a1_0, .int .i64 0, .int .i64 1000000] rfl tM ?_; (with_reducible refine (b_within.calls a1_0 0 1000000 false _ A14.out).mono ?_); rintro e w' ⟨rfl, ⟨nd, rfl⟩⟩; refine ⟨_, rfl, ?_⟩))
    go_meet
    case rel => exact ⟨_, (true), tS, H', ⟨by first | omega | exact Nat.le_refl _⟩, ⟨by (with_reducible repeat (first | apply Kd.R_alloc | apply Kd.R_drewN | apply Kd.R_drew)); exact HO959.out⟩, ⟨bkA BK954.out⟩, ⟨bkA BK955.out⟩, ⟨bBl HB.out⟩⟩
  case rest =>
   clear HC6; (try clear c1); (try clear c2); (try clear p2); (try clear c3); (try clear c4); (try clear c4b0); (try clear c4b1); (try clear c5); (try clear c9); (try clear c15); (try clear c16); (try clear c16b0); (try clear c16b1); (try clear c16b2); (try clear c18); (try clear c22); (try clear c25); (try clear u10_0 u10_1 u10_2 u10_3 u10_4 u10_5 u10_6); (try clear u12_0 u12_1 u12_2 u12_3 u12_4 u12_5 u12_6); (try clear u19_0 u19_1); (try clear u23_0 u23_1); (try clear u26_0 u26_1); (try clear o10_0 o10_1 o10_2 o10_3 o10_4 o10_5 o10_6); (try clear o12_0 o12_1 o12_2 o12_3 o12_4 o12_5 o12_6); (try clear o19_0 o19_1); (try clear o23_0 o23_1); (try clear o26_0 o26_1); obtain ⟨kq, x33_5, rfl, HA, HJ5, HO_8, BK954, BK955, HB⟩ := hcut
   cases kq with
   | zero => exact absurd HA.out (by simp [b_Bound.j0])
   | succ kj5 =>
    have H := HA.out; clear HA
    simp only [b_Bound.j0] at H
    by_cases c27 : x33_5 = true
    ·subst c27
     have H1 : (some (0, false, 1)) = some (r1, r2, r3) := by rw [if_pos rfl] at H; exact H
     clear H; have H := H1; clear H1
     simp only [Option.some.injEq, Prod.mk.injEq] at H
     obtain ⟨rfl, rfl, rfl⟩ := H
     go_wp2
     go_ret3
     exact ⟨tE, bBl HB.out⟩
    ·replace c27 := Bool.eq_false_iff.mpr c27
     subst c27
     have H1 : ((b_least.f kj5 l0_0 l0_1 l0_2 l0_3 a0_4 a0_5 a0_6 t957 a1_0 l1_1).bind fun t962 => (if a1_0 = 0 then (some (0, decide (t962 > 0), 0)) else ((b_up.f t962 a1_0).bind fun t963 => (some (t963, false, 0))))) = some (r1, r2, r3) := by rw [if_neg (show ¬ (false = true) by decide)] at H; exact H
     clear H; have H := H1; clear H1; replace H := Option.bind_eq_some_iff.mp H; obtain ⟨t962, A280, H⟩ := H
     try dsimp only at H
     have A28 := Sd.mk A280; clear A280
     by_cases c29 : a1_0 = 0
     ·rw [if_pos c29] at H
      have c29b0 : (a1_0 == 0) = true := beq_iff_eq.mpr c29
      have c29b1 : (a1_0 != 0) = false := bne_eq_false_iff_eq.mpr c29
      clear c29
      simp only [Option.some.injEq, Prod.mk.injEq] at H
      obtain ⟨rfl, rfl, rfl⟩ := H; have hnb30 := NB954_955.out; have hnc30 := NB955_954.out; obtain ⟨u31_0, u31_1, u31_2, u31_3, u31_4, u31_5, u31_6, o31_0, o31_1, o31_2, o31_3, o31_4, o31_5, o31_6⟩ := bc7 (w := wc) BK954.out; obtain ⟨u32_0, u32_1, o32_0, o32_1⟩ := bc2 (w := wc) BK955.out; obtain ⟨Ao33, co33, eo33⟩ := Kd.R_slice HO_8.out; subst eo33
      go_wp2_with (first | ((with_reducible refine gate_callee (f := 95) rfl ?_); refine goesL_ (some 37) rfl rfl Tryz.func95 (by kernel_rfl) rfl #[.agg #[.slice A0_0 l0_0.length c0_0, .slice A0_1 l0_1.length c0_1, .slice A0_2 l0_2.length c0_2, .slice A0_3 l0_3.length c0_3, .int .i64 a0_4, .int .i64 a0_5, .int .i64 a0_6], .slice Ao33 t957.length co33, .agg #[.int .i64 a1_0, .slice A1_1 l1_1.length c1_1]] rfl tM ?_; (with_reducible refine (b_least.calls kj5 _ _ l0_0 _ _ l0_1 _ _ l0_2 _ _ l0_3 a0_4 a0_5 a0_6 _ _ t957 a1_0 _ _ l1_1 t962 _ (cS (Kd.C_below HR0_0.out HB.out)) HC0_0.out (cS (Kd.C_below HR0_1.out HB.out)) HC0_1.out (cS (Kd.C_below HR0_2.out HB.out)) HC0_2.out (cS (Kd.C_below HR0_3.out HB.out)) HC0_3.out (cS ((Kd.R_reads' HO_8.out).2.2)) ((Kd.R_reads' HO_8.out).2.1) (cS (Kd.C_below HR1_1.out HB.out)) HC1_1.out A28.out).mono ?_); rintro e w34 ⟨rfl, hb⟩; refine ⟨_, rfl, ?_⟩; replace HO_8 := Sd.mk (Kd.R_below (by (with_reducible repeat (first | apply Kd.R_alloc | apply Kd.R_drewN | apply Kd.R_drew)); exact HO_8.out) hb); replace BK954 := Sd.mk (blk_below (bkA BK954.out) hb); replace BK955 := Sd.mk (blk_below (bkA BK955.out) hb); replace HB := Sd.mk (below_step (bBl HB.out) hb); (try clear hb); (try clear hb2); (try clear hk); (try clear hi); obtain ⟨u35_0, u35_1, o35_0, o35_1⟩ := bc2 (w := w34) BK955.out))
      go_ret3
      exact ⟨tE, bBl HB.out⟩
     ·rw [if_neg c29] at H
      have c29b0 : (a1_0 == 0) = false := beq_eq_false_iff_ne.mpr c29
      have c29b1 : (a1_0 != 0) = true := bne_iff_ne.mpr c29
      replace H := Option.bind_eq_some_iff.mp H; obtain ⟨t963, A360, H⟩ := H
      try dsimp only at H
      have A36 := Sd.mk A360; clear A360
      simp only [Option.some.injEq, Prod.mk.injEq] at H
      obtain ⟨rfl, rfl, rfl⟩ := H; have hnb37 := NB954_955.out; have hnc37 := NB955_954.out; obtain ⟨u38_0, u38_1, u38_2, u38_3, u38_4, u38_5, u38_6, o38_0, o38_1, o38_2, o38_3, o38_4, o38_5, o38_6⟩ := bc7 (w := wc) BK954.out; obtain ⟨u39_0, u39_1, o39_0, o39_1⟩ := bc2 (w := wc) BK955.out; obtain ⟨Ao40, co40, eo40⟩ := Kd.R_slice HO_8.out; subst eo40
      go_wp2_with (first | ((with_reducible refine gate_callee (f := 95) rfl ?_); refine goesL_ (some 37) rfl rfl Tryz.func95 (by kernel_rfl) rfl #[.agg #[.slice A0_0 l0_0.length c0_0, .slice A0_1 l0_1.length c0_1, .slice A0_2 l0_2.length c0_2, .slice A0_3 l0_3.length c0_3, .int .i64 a0_4, .int .i64 a0_5, .int .i64 a0_6], .slice Ao40 t957.length co40, .agg #[.int .i64 a1_0, .slice A1_1 l1_1.length c1_1]] rfl tM ?_; (with_reducible refine (b_least.calls kj5 _ _ l0_0 _ _ l0_1 _ _ l0_2 _ _ l0_3 a0_4 a0_5 a0_6 _ _ t957 a1_0 _ _ l1_1 t962 _ (cS (Kd.C_below HR0_0.out HB.out)) HC0_0.out (cS (Kd.C_below HR0_1.out HB.out)) HC0_1.out (cS (Kd.C_below HR0_2.out HB.out)) HC0_2.out (cS (Kd.C_below HR0_3.out HB.out)) HC0_3.out (cS ((Kd.R_reads' HO_8.out).2.2)) ((Kd.R_reads' HO_8.out).2.1) (cS (Kd.C_below HR1_1.out HB.out)) HC1_1.out A28.out).mono ?_); rintro e w41 ⟨rfl, hb⟩; refine ⟨_, rfl, ?_⟩; replace HO_8 := Sd.mk (Kd.R_below (by (with_reducible repeat (first | apply Kd.R_alloc | apply Kd.R_drewN | apply Kd.R_drew)); exact HO_8.out) hb); replace BK954 := Sd.mk (blk_below (bkA BK954.out) hb); replace BK955 := Sd.mk (blk_below (bkA BK955.out) hb); replace HB := Sd.mk (below_step (bBl HB.out) hb); (try clear hb); (try clear hb2); (try clear hk); (try clear hi); obtain ⟨u42_0, u42_1, o42_0, o42_1⟩ := bc2 (w := w41) BK955.out) | ((with_reducible refine gate_callee (f := 96) rfl ?_); refine goesL_ (some 46) rfl rfl Tryz.func96 (by kernel_rfl) rfl #[.int .i64 t962, .int .i64 a1_0] rfl tM ?_; (with_reducible refine (b_up.calls t962 a1_0 t963 _ A36.out).mono ?_); rintro e w' ⟨rfl, ⟨nd, rfl⟩⟩; refine ⟨_, rfl, ?_⟩))
      go_ret3
      exact ⟨tE, bBl HB.out⟩
 ·rw [if_neg c4] at H
  have c4b0 : (t956 == 0) = false := beq_eq_false_iff_ne.mpr c4
  have c4b1 : (t956 != 0) = true := bne_iff_ne.mpr c4
  simp only [Option.some.injEq, Prod.mk.injEq] at H
  obtain ⟨rfl, rfl, rfl⟩ := H
  go_enter Tryz.func35, Tryz.ntmps35
  go_wp2_with (first | ((with_reducible refine gate_dst (N := 2) rfl ?_); (try (refine gate_guard (by rfl) ?_; dsimp only)); refine box_event ?hg (N := 2) ?hd (cs := #[.slice A0_0 l0_0.length c0_0, .slice A0_1 l0_1.length c0_1, .slice A0_2 l0_2.length c0_2, .slice A0_3 l0_3.length c0_3, .int .i64 a0_4, .int .i64 a0_5, .int .i64 a0_6]) (t := 29) ?hr ?_; (case hd => rfl); (case hg => rfl); (case hr => exact tG); intro gb954 hg w43 hbox hb; have BK954 := Sd.mk (hbox); have GW954 := Sd.mk (bSz hg (bBl HB.out)); have GE954 := Sd.mk (bSz hg (bBl HB.out)); replace HB := Sd.mk (below_step (bBl HB.out) hb); clear hb hbox hg) | ((with_reducible refine gate_dst (N := 3) rfl ?_); (try (refine gate_guard (by rfl) ?_; dsimp only)); refine box_event ?hg (N := 3) ?hd (cs := #[.int .i64 a1_0, .slice A1_1 l1_1.length c1_1]) (t := 32) ?hr ?_; (case hd => rfl); (case hg => rfl); (case hr => exact tG); intro gb955 hg w44 hbox hb; have BK955 := Sd.mk (hbox); have GW955 := Sd.mk (bSz hg (bBl HB.out)); have GE955 := Sd.mk (bSz hg (bBl HB.out)); replace HB := Sd.mk (below_step (bBl HB.out) hb); have NB954_955 := Sd.mk (bNl hg (bkA BK954.out)); have NB955_954 := Sd.mk (bNg hg (bkA BK954.out)); replace BK954 := Sd.mk (blk_below (bkA BK954.out) hb); clear hb hbox hg; have hnb45 := NB954_955.out; have hnc45 := NB955_954.out; obtain ⟨u46_0, u46_1, u46_2, u46_3, u46_4, u46_5, u46_6, o46_0, o46_1, o46_2, o46_3, o46_4, o46_5, o46_6⟩ := bc7 (w := w44) BK954.out) | ((with_reducible refine gate_callee (f := 34) rfl ?_); refine goesL_ (some 11) rfl rfl Tryz.func34 (by kernel_rfl) rfl #[.agg #[.slice A0_0 l0_0.length c0_0, .slice A0_1 l0_1.length c0_1, .slice A0_2 l0_2.length c0_2, .slice A0_3 l0_3.length c0_3, .int .i64 a0_4, .int .i64 a0_5, .int .i64 a0_6]] rfl tM ?_; (with_reducible refine (b_Check.calls k _ _ l0_0 _ _ l0_1 _ _ l0_2 _ _ l0_3 a0_4 a0_5 a0_6 t956 _ (cS (Kd.C_below HR0_0.out HB.out)) HC0_0.out (cS (Kd.C_below HR0_1.out HB.out)) HC0_1.out (cS (Kd.C_below HR0_2.out HB.out)) HC0_2.out (cS (Kd.C_below HR0_3.out HB.out)) HC0_3.out A3.out).mono ?_); rintro e w47 ⟨rfl, hb⟩; refine ⟨_, rfl, ?_⟩; replace BK954 := Sd.mk (blk_below (bkA BK954.out) hb); replace BK955 := Sd.mk (blk_below (bkA BK955.out) hb); replace HB := Sd.mk (below_step (bBl HB.out) hb); (try clear hb); (try clear hb2); (try clear hk); (try clear hi)))
  go_ret3
  exact ⟨tE, bBl HB.out⟩
end
section
structure LnOk (n : Nat) (x : S168) : Prop where
  len : x.f0.length = n
  at_ : ∀ j : Nat, j < n → -1200000000 ≤ rd x.f0 (j : Int) ∧ rd x.f0 (j : Int) ≤ 1200000000
  b0 : x.f1 ≤ 0
  b1 : -10000000 ≤ x.f1
theorem ln_ok {mt : List S70} {fc : S70 → Int} {b : Int} (h : ∀ i : Nat, i < mt.length → -1200000000 ≤ fc (rd_T70 mt (i : Int)) ∧ fc (rd_T70 mt (i : Int)) ≤ 1200000000) (h0 : b ≤ 0) (h1 : -10000000 ≤ b) : LnOk mt.length ⟨mt.map fc, b⟩ := by
  refine ⟨List.length_map _, fun j hj => ?_, h0, h1⟩
  show -1200000000 ≤ rd (mt.map fc) (j : Int) ∧ rd (mt.map fc) (j : Int) ≤ 1200000000
  rw [rd_map mt fc j hj]
  exact h j hj
theorem mulc {c x : Int} (h1 : -20000 ≤ c) (h2 : c ≤ 20000) (h3 : 0 ≤ x) (h4 : x ≤ 1000) : -20000000 ≤ c * x ∧ c * x ≤ 20000000 := by
  have e1 := Int.mul_le_mul_of_nonneg_right h1 h3
  have e2 := Int.mul_le_mul_of_nonneg_right h2 h3
  omega
theorem muld {c x : Int} (h1 : -10000 ≤ c) (h2 : c ≤ 10000) (h3 : 0 ≤ x) (h4 : x ≤ 12000) : -120000000 ≤ c * x ∧ c * x ≤ 120000000 := by
  have e1 := Int.mul_le_mul_of_nonneg_right h1 h3
  have e2 := Int.mul_le_mul_of_nonneg_right h2 h3
  omega
theorem mat_tS {n : Nat} {x : S70} (M : MatOk n x) (hn : n ≤ 12) {df : Int → Int} (C : DfOk df n) : -240000000 ≤ gTS df x.f6 x.f6.length ∧ gTS df x.f6 x.f6.length ≤ 240000000 := by
  have h := sumTo_bound (f := gT df x.f6) (M := 20000000) (n := x.f6.length) (fun j hj => by
    rw [M.len] at hj
    have a1 := M.con j hj
    have a2 := C.at_ j hj
    have b1 := mulc (c := df j) (x := (rd_T27 x.f6 (j : Int)).f0) (by omega) (by omega) (by omega) (by omega)
    have b2 := mulc (c := df j) (x := (rd_T27 x.f6 (j : Int)).f1) (by omega) (by omega) (by omega) (by omega)
    unfold gT
    omega) x.f6.length (Nat.le_refl _)
  have := M.len
  unfold gTS
  omega
theorem mat_low {n : Nat} {x : S70} (M : MatOk n x) (hn : n ≤ 12) : (0 ≤ lowM x ∧ lowM x ≤ 12000) ∧ 0 ≤ highM x ∧ highM x ≤ 12000 := by
  have ha := lowM_bound (x := x) ⟨by rw [M.len]; exact hn, fun j hj => by rw [M.len] at hj; have := M.con j hj; omega⟩
  have h := sumTo_bound (f := fun j => (rd_T27 x.f6 (j : Int)).f1) (M := 1000) (n := x.f6.length) (fun j hj => by
    rw [M.len] at hj
    have a1 := M.con j hj
    omega) x.f6.length (Nat.le_refl _)
  have e : highM x = sumTo (fun j => (rd_T27 x.f6 (j : Int)).f1) x.f6.length := rfl
  have := M.len
  omega
section
variable {o : List ByteArray} {mt : List S70} {s : List S27} {p : List S89} {a4 a5 a6 : Int}
theorem pair_ln (H : BatchOk o mt s p a4 a5 a6) {j : Nat} (hj : j < s.length + p.length) : ∀ x ∈ pairL mt s p j, LnOk mt.length x := by
  have T := tg_ok H hj
  have C := coef_cfok H hj
  have ho := H.o12
  intro x hx
  simp only [pairL, List.mem_cons, List.not_mem_nil, or_false] at hx
  rcases hx with rfl | rfl
  · refine ln_ok (fun i hi => ?_) (by omega) (by omega)
    have := mat_tS (H.mats i hi) ho (df := fun k => coefOf s p j k - (tgOf s p j).f1) ⟨fun j' hj' => by
      have := C.at_ j' hj'
      omega⟩
    unfold upF
    omega
  · refine ln_ok (fun i hi => ?_) (by omega) (by omega)
    have := mat_tS (H.mats i hi) ho (df := fun k => (tgOf s p j).f0 - coefOf s p j k) ⟨fun j' hj' => by
      have := C.at_ j' hj'
      omega⟩
    unfold dnF
    omega
theorem head_ln (H : BatchOk o mt s p a4 a5 a6) : ∀ n, n ≤ s.length + p.length → ∀ x ∈ headL mt s p a6 n, LnOk mt.length x := by
  intro n
  induction n with
  | zero =>
    intro _ x hx
    simp only [headL, List.mem_cons, List.not_mem_nil, or_false] at hx
    subst hx
    have hw := H.wanted
    refine ln_ok (fun i hi => ?_) (by omega) (by omega)
    have := mat_low (H.mats i hi) H.o12
    omega
  | succ n ih =>
    intro hn x hx
    simp only [headL, List.mem_append] at hx
    rcases hx with hx | hx
    · exact ih (by omega) x hx
    · exact pair_ln H (by omega) x hx
theorem red_ln (H : BatchOk o mt s p a4 a5 a6) {u : Int} (hu : -10000 ≤ u ∧ u ≤ 10000) {i : Nat} (hi : i < mt.length) :
    (-1200000000 ≤ rUp u (rd_T70 mt (i : Int)) ∧ rUp u (rd_T70 mt (i : Int)) ≤ 1200000000) ∧ -1200000000 ≤ rDn u (rd_T70 mt (i : Int)) ∧ rDn u (rd_T70 mt (i : Int)) ≤ 1200000000 := by
  have hl := mat_low (H.mats i hi) H.o12
  have hr := (H.mats i hi).redox
  have h1 := muld hu.1 hu.2 hl.1.1 hl.1.2
  have h2 := muld hu.1 hu.2 hl.2.1 hl.2.2
  unfold rUp rDn mn mx
  constructor <;> split <;> omega
theorem lines_ln (H : BatchOk o mt s p a4 a5 a6) : ∀ x ∈ linesV mt s p a4 a5 a6, LnOk mt.length x := by
  have hr := H.redox
  intro x hx
  simp only [linesV, List.mem_append, List.mem_cons, List.not_mem_nil, or_false] at hx
  rcases hx with hx | rfl | rfl
  · exact head_ln H _ (Nat.le_refl _) x hx
  · exact ln_ok (fun i hi => (red_ln H (by omega) hi).1) (by omega) (by omega)
  · exact ln_ok (fun i hi => (red_ln H (by omega) hi).2) (by omega) (by omega)
end
end
section
structure BdOk (m : Nat) (L : List S168) (D : Int) (y : List Int) : Prop where
  n : L.length ≤ 39
  line : ∀ j : Nat, j < L.length → LnOk m (rd_T168 L (j : Int))
  d : 0 ≤ D ∧ D ≤ 1000000
  len : y.length = L.length
  y : ∀ j : Nat, j < L.length → 0 ≤ rd y (j : Int) ∧ rd y (j : Int) ≤ 1000
section
variable (o : List ByteArray) (mt : List S70) (s : List S27) (p : List S89) (a4 a5 a6 : Int) (L : List S168) (D : Int) (y : List Int)
def tbS (i : Nat) : Int := sumTo (fun j => -(rd y (j : Int) * (rd_T168 L (j : Int)).f1)) i
def cS_ (i n : Nat) : Int := D * (rd_T70 mt (i : Int)).f1 + sumTo (fun j => rd y (j : Int) * rd (rd_T168 L (j : Int)).f0 (i : Int)) n
def mostM (x : S70) : Int := x.f4 - Int.tmod (x.f4 - x.f3) x.f5
def gM (i : Nat) : Int := mn (cS_ mt L D y i L.length * (rd_T70 mt (i : Int)).f3) (cS_ mt L D y i L.length * mostM (rd_T70 mt (i : Int)))
def bdV : Int := tbS L y L.length + sumTo (gM mt L D y) mt.length
variable (H : BatchOk o mt s p a4 a5 a6) (B : BdOk mt.length L D y)
theorem mule {c x : Int} {X : Int} (h3 : 0 ≤ c) (h4 : c ≤ 1000) (h1 : -X ≤ x) (h2 : x ≤ X) : -(1000 * X) ≤ c * x ∧ c * x ≤ 1000 * X := by
  have e1 := Int.mul_le_mul_of_nonneg_left h1 h3
  have e2 := Int.mul_le_mul_of_nonneg_left h2 h3
  have e3 := Int.mul_le_mul_of_nonneg_right h4 (show 0 ≤ X by omega)
  have e4 : c * -X = -(c * X) := Int.mul_neg _ _
  omega
include B in
theorem tb_at (j : Nat) (hj : j < L.length) : -10000000000 ≤ rd y (j : Int) * (rd_T168 L (j : Int)).f1 ∧ rd y (j : Int) * (rd_T168 L (j : Int)).f1 ≤ 10000000000 := by
  have a := B.y j hj
  have b := (B.line j hj).b0
  have c := (B.line j hj).b1
  have := mule (X := 10000000) a.1 a.2 c (by omega)
  omega
include B in
theorem tb_bound (i : Nat) (hi : i ≤ L.length) : -390000000000 ≤ tbS L y i ∧ tbS L y i ≤ 390000000000 := by
  have h := sumTo_bound (f := fun j => -(rd y (j : Int) * (rd_T168 L (j : Int)).f1)) (M := 10000000000) (n := L.length) (fun j hj => by have := tb_at mt L D y B j hj; omega) i hi
  have := B.n
  unfold tbS
  omega
include B in
theorem c_at (i : Nat) (hi : i < mt.length) (j : Nat) (hj : j < L.length) : -1200000000000 ≤ rd y (j : Int) * rd (rd_T168 L (j : Int)).f0 (i : Int) ∧ rd y (j : Int) * rd (rd_T168 L (j : Int)).f0 (i : Int) ≤ 1200000000000 := by
  have a := B.y j hj
  have b := (B.line j hj).at_ i hi
  have := mule (X := 1200000000) a.1 a.2 b.1 b.2
  omega
include H B in
theorem price_bound (i : Nat) (hi : i < mt.length) : 0 ≤ D * (rd_T70 mt (i : Int)).f1 ∧ D * (rd_T70 mt (i : Int)).f1 ≤ 10000000000 := by
  have a := (H.mats i hi).price
  have b := B.d
  have e1 := Int.mul_le_mul_of_nonneg_right b.2 a.1
  have e2 := Int.mul_nonneg b.1 a.1
  omega
include H B in
theorem c_bound (i : Nat) (hi : i < mt.length) (n : Nat) (hn : n ≤ L.length) : -47000000000000 ≤ cS_ mt L D y i n ∧ cS_ mt L D y i n ≤ 47000000000000 := by
  have h := sumTo_bound (f := fun j => rd y (j : Int) * rd (rd_T168 L (j : Int)).f0 (i : Int)) (M := 1200000000000) (n := L.length) (fun j hj => c_at mt L D y B i hi j hj) n hn
  have h1 := price_bound o mt s p a4 a5 a6 L D y H B i hi
  have := B.n
  unfold cS_
  omega
theorem most_eq {x : S70} {n : Nat} (M : MatOk n x) : x.f3 ≤ mostM x ∧ mostM x ≤ x.f4 ∧ (-10000 ≤ x.f4 - x.f3 ∧ x.f4 - x.f3 ≤ 10000) ∧ mostM x = x.f3 + Int.tdiv (x.f4 - x.f3) x.f5 * x.f5 ∧ 0 ≤ Int.tdiv (x.f4 - x.f3) x.f5 ∧ Int.tdiv (x.f4 - x.f3) x.f5 ≤ 10000 := by
  have h1 := M.least
  have h2 := M.most
  have h3 := M.step
  have e1 := Int.mul_tdiv_add_tmod (x.f4 - x.f3) x.f5
  have e2 := Int.tmod_nonneg (a := x.f4 - x.f3) x.f5 (by omega)
  have e3 : Int.tdiv (x.f4 - x.f3) x.f5 = (x.f4 - x.f3) / x.f5 := Int.tdiv_eq_ediv_of_nonneg (by omega)
  have e4 : 0 ≤ (x.f4 - x.f3) / x.f5 := Int.ediv_nonneg (by omega) (by omega)
  have e5 : x.f5 * Int.tdiv (x.f4 - x.f3) x.f5 = Int.tdiv (x.f4 - x.f3) x.f5 * x.f5 := Int.mul_comm _ _
  have e6 : 0 ≤ Int.tdiv (x.f4 - x.f3) x.f5 * x.f5 := Int.mul_nonneg (by omega) (by omega)
  have e7 := Int.ediv_le_self x.f5 (show 0 ≤ x.f4 - x.f3 by omega)
  unfold mostM
  refine ⟨?_, ?_, ?_, ?_, ?_, ?_⟩ <;> omega
theorem mulf {c x : Int} (h1 : -47000000000000 ≤ c) (h2 : c ≤ 47000000000000) (h3 : 0 ≤ x) (h4 : x ≤ 10000) : -470000000000000000 ≤ c * x ∧ c * x ≤ 470000000000000000 := by
  have e1 := Int.mul_le_mul_of_nonneg_right h1 h3
  have e2 := Int.mul_le_mul_of_nonneg_right h2 h3
  omega
include H B in
theorem g_bound (i : Nat) (hi : i < mt.length) : -470000000000000000 ≤ gM mt L D y i ∧ gM mt L D y i ≤ 470000000000000000 := by
  have M := H.mats i hi
  have hm := most_eq M
  have h1 := M.least
  have h2 := M.most
  have c := c_bound o mt s p a4 a5 a6 L D y H B i hi L.length (Nat.le_refl _)
  exact mn_in (mulf c.1 c.2 h1.1 h1.2) (mulf c.1 c.2 (by omega) (by omega))
include H B in
theorem V_bound (i : Nat) (hi : i ≤ mt.length) : -6000000000000000000 ≤ tbS L y L.length + sumTo (gM mt L D y) i ∧ tbS L y L.length + sumTo (gM mt L D y) i ≤ 6000000000000000000 := by
  have h := sumTo_bound (f := gM mt L D y) (M := 470000000000000000) (n := mt.length) (fun j hj => g_bound o mt s p a4 a5 a6 L D y H B j hj) i hi
  have h2 := tb_bound mt L D y B L.length (Nat.le_refl _)
  have := H.m12
  omega
include H B in
theorem least_l2 (i : Nat) (hi : i < mt.length) (x7 v : Int) (hv : Ev (fun k => b_least.l1 k L (wrap64 (x7 + gM mt L D y i)) mt (mt.length : Int) (wrap64 ((i : Int) + 1)) D y) v) :
    ∀ (m j : Nat), j + m = L.length → Ev (fun k => b_least.l2 k L x7 (i : Int) (cS_ mt L D y i j) mt (mt.length : Int) (i : Int) L (L.length : Int) (j : Int) D y (rd_T70 mt (i : Int)).f0 (rd_T70 mt (i : Int)).f1 (rd_T70 mt (i : Int)).f2 (rd_T70 mt (i : Int)).f3 (rd_T70 mt (i : Int)).f4 (rd_T70 mt (i : Int)).f5 (rd_T70 mt (i : Int)).f6) v
  | 0, j, hj => by
    have M := H.mats i hi
    have hm := most_eq M
    have h1 := M.least
    have h2 := M.most
    have h3 := M.step
    obtain rfl : j = L.length := by omega
    have c := c_bound o mt s p a4 a5 a6 L D y H B i hi L.length (Nat.le_refl _)
    have b1 := mulf c.1 c.2 h1.1 h1.2
    have b2 := mulf c.1 c.2 (show 0 ≤ mostM (rd_T70 mt (i : Int)) by omega) (by omega)
    have e : wrap64 ((rd_T70 mt (i : Int)).f4 - Int.tmod ((rd_T70 mt (i : Int)).f4 - (rd_T70 mt (i : Int)).f3) (rd_T70 mt (i : Int)).f5) = mostM (rd_T70 mt (i : Int)) := wrap_id (by unfold mostM at *; omega) (by unfold mostM at *; omega)
    apply Ev.step
    simp only [b_least.l2, if_neg (show ¬ (L.length : Int) < (L.length : Int) by omega), if_neg (show ¬ (rd_T70 mt (i : Int)).f5 = 0 by omega)]
    rw [wrap_id (x := (rd_T70 mt (i : Int)).f4 - (rd_T70 mt (i : Int)).f3) (by omega) (by omega), e, wrap_id (x := cS_ mt L D y i L.length * (rd_T70 mt (i : Int)).f3) (by omega) (by omega), wrap_id (x := cS_ mt L D y i L.length * mostM (rd_T70 mt (i : Int))) (by omega) (by omega)]
    exact hv
  | m + 1, j, hj => by
    have ih := least_l2 i hi x7 v hv m (j + 1) (by omega)
    have hl := (B.line j (by omega)).len
    have hyl := B.len
    have hn := B.n
    have a := c_at mt L D y B i hi j (by omega)
    have b := c_bound o mt s p a4 a5 a6 L D y H B i hi (j + 1) (by omega)
    have e : cS_ mt L D y i j + rd y (j : Int) * rd (rd_T168 L (j : Int)).f0 (i : Int) = cS_ mt L D y i (j + 1) := by unfold cS_; simp only [sumTo]; omega
    apply Ev.step
    simp only [b_least.l2, if_pos (show (j : Int) < (L.length : Int) by omega), if_pos (i_pos j), if_pos (show (j : Int) < (y.length : Int) by omega), if_pos (i_pos i), if_pos (show (i : Int) < ((rd_T168 L (j : Int)).f0.length : Int) by omega), wrap_succ (i_pos j) (show (j : Int) ≤ 1000000000 by omega)]
    rw [wrap_id (x := rd y (j : Int) * rd (rd_T168 L (j : Int)).f0 (i : Int)) (by omega) (by omega), e, wrap_id (by omega) (by omega)]
    exact ih
include H B in
theorem least_l1 : ∀ (m i : Nat), i + m = mt.length → Ev (fun k => b_least.l1 k L (tbS L y L.length + sumTo (gM mt L D y) i) mt (mt.length : Int) (i : Int) D y) (bdV mt L D y)
  | 0, i, hi => by
    obtain rfl : i = mt.length := by omega
    apply Ev.step
    simp only [b_least.l1, if_neg (show ¬ (mt.length : Int) < (mt.length : Int) by omega)]
    exact Ev.const _
  | m + 1, i, hi => by
    have ih := least_l1 m (i + 1) (by omega)
    have hm := H.m12
    have hp := price_bound o mt s p a4 a5 a6 L D y H B i (by omega)
    have hV := V_bound o mt s p a4 a5 a6 L D y H B (i + 1) (by omega)
    have hl := least_l2 o mt s p a4 a5 a6 L D y H B i (by omega) (tbS L y L.length + sumTo (gM mt L D y) i) (bdV mt L D y) (by
      rw [wrap_succ (i_pos i) (show (i : Int) ≤ 1000000000 by omega)]
      have e : tbS L y L.length + sumTo (gM mt L D y) i + gM mt L D y i = tbS L y L.length + sumTo (gM mt L D y) (i + 1) := by simp only [sumTo]; omega
      rw [e, wrap_id (by omega) (by omega)]
      exact ih) L.length 0 (by omega)
    have e0 : cS_ mt L D y i 0 = D * (rd_T70 mt (i : Int)).f1 := by unfold cS_; simp [sumTo]
    rw [e0] at hl
    apply Ev.step
    simp only [b_least.l1, if_pos (show (i : Int) < (mt.length : Int) by omega), if_pos (i_pos i)]
    rw [wrap_id (x := D * (rd_T70 mt (i : Int)).f1) (by omega) (by omega)]
    exact hl
include H B in
theorem least_l0 : ∀ (m i : Nat), i + m = L.length → Ev (fun k => b_least.l0 k L (tbS L y i) L (L.length : Int) (i : Int) o mt s p a4 a5 a6 D y) (bdV mt L D y)
  | 0, i, hi => by
    obtain rfl : i = L.length := by omega
    have h := least_l1 o mt s p a4 a5 a6 L D y H B mt.length 0 (by omega)
    have e : tbS L y L.length + sumTo (gM mt L D y) 0 = tbS L y L.length := by simp [sumTo]
    rw [e] at h
    apply Ev.step
    simp only [b_least.l0, if_neg (show ¬ (L.length : Int) < (L.length : Int) by omega)]
    exact h
  | m + 1, i, hi => by
    have ih := least_l0 m (i + 1) (by omega)
    have hyl := B.len
    have hn := B.n
    have a := tb_at mt L D y B i (by omega)
    have b := tb_bound mt L D y B (i + 1) (by omega)
    have e : tbS L y i - rd y (i : Int) * (rd_T168 L (i : Int)).f1 = tbS L y (i + 1) := by unfold tbS; simp only [sumTo]; omega
    apply Ev.step
    simp only [b_least.l0, if_pos (show (i : Int) < (L.length : Int) by omega), if_pos (i_pos i), if_pos (show (i : Int) < (y.length : Int) by omega), wrap_succ (i_pos i) (show (i : Int) ≤ 1000000000 by omega)]
    rw [wrap_id (x := rd y (i : Int) * (rd_T168 L (i : Int)).f1) (by omega) (by omega), e, wrap_id (by omega) (by omega)]
    exact ih
def upV (v : Int) : Int := (b_up.f v D).getD 0
def bndV : Int × Bool × Int := if D = 0 then (0, decide (bdV mt L D y > 0), 0) else (upV D (bdV mt L D y), false, 0)
include H B in
include H B in
include H in
include H B in
include H B in
include H B in
end
end
section
theorem sumTo_add9 (f g : Nat → Int) : ∀ n, sumTo (fun j => f j + g j) n = sumTo f n + sumTo g n
  | 0 => by simp [sumTo]
  | n + 1 => by simp only [sumTo, sumTo_add9 f g n]; omega
theorem sumTo_mul9 (k : Int) (f : Nat → Int) : ∀ n, sumTo (fun j => k * f j) n = k * sumTo f n
  | 0 => by simp [sumTo]
  | n + 1 => by simp only [sumTo, sumTo_mul9 k f n, Int.mul_add]
theorem sumTo_swap9 (f : Nat → Nat → Int) (m : Nat) : ∀ n, sumTo (fun i => sumTo (fun k => f i k) n) m = sumTo (fun k => sumTo (fun i => f i k) m) n
  | 0 => by simp only [sumTo]; exact sumTo_zero m
  | n + 1 => by simp only [sumTo, sumTo_add9, sumTo_swap9 f m n]
theorem sumTo_leq {f g : Nat → Int} : ∀ n, (∀ j, j < n → f j ≤ g j) → sumTo f n ≤ sumTo g n
  | 0, _ => by simp [sumTo]
  | n + 1, h => by
    have := sumTo_leq n (fun j hj => h j (by omega))
    have := h n (by omega)
    simp only [sumTo]
    omega
theorem sumTo_eq {f g : Nat → Int} : ∀ n, (∀ j, j < n → f j = g j) → sumTo f n = sumTo g n
  | 0, _ => rfl
  | n + 1, h => by simp only [sumTo]; rw [sumTo_eq n (fun j hj => h j (by omega)), h n (by omega)]
theorem mn_between {c a b x : Int} (h1 : a ≤ x) (h2 : x ≤ b) : mn (c * a) (c * b) ≤ x * c := by
  rw [Int.mul_comm x c]
  unfold mn
  by_cases hc : 0 ≤ c
  · have e1 := Int.mul_le_mul_of_nonneg_left h1 hc
    split <;> omega
  · have e2 := Int.mul_le_mul_of_nonpos_left (show c ≤ 0 by omega) h2
    split <;> omega
theorem may_bd {m : S70} (M : MatB m) {x : Int} (h : may m x = true) : m.f3 ≤ x ∧ x ≤ mostM m := by
  have hk := kilosF_bd M ((kilosF_iff M x).2 h)
  refine ⟨hk.1, ?_⟩
  have h3 := M.s1
  have e1 := Int.mul_tdiv_add_tmod (m.f4 - m.f3) m.f5
  have e2 := Int.mul_tdiv_add_tmod (x - m.f3) m.f5
  rw [hk.2.2] at e2
  have e3 : Int.tdiv (m.f4 - m.f3) m.f5 = (m.f4 - m.f3) / m.f5 := Int.tdiv_eq_ediv_of_nonneg (by omega)
  have e4 : Int.tdiv (x - m.f3) m.f5 = (x - m.f3) / m.f5 := Int.tdiv_eq_ediv_of_nonneg (by omega)
  have e5 : (x - m.f3) / m.f5 ≤ (m.f4 - m.f3) / m.f5 := Int.ediv_le_ediv (by omega) (by omega)
  have e6 := Int.mul_le_mul_of_nonneg_left e5 (show 0 ≤ m.f5 by omega)
  rw [e3] at e1
  rw [e4] at e2
  unfold mostM
  omega
section
variable (o : List ByteArray) (mt : List S70) (s : List S27) (p : List S89) (a4 a5 a6 : Int) (r : List Int)
def costS (mt : List S70) (r : List Int) (i : Nat) : Int := sumTo (fun j => rd r (j : Int) * (rd_T70 mt (j : Int)).f1) i
theorem cW_costS (H : BatchOk o mt s p a4 a5 a6) (hr : RecOk mt r) : ∀ i, i ≤ mt.length → cW mt r i = costS mt r i := by
  have hm := H.m12
  have hb : ∀ j, j < mt.length → -100000000 ≤ rd r (j : Int) * (rd_T70 mt (j : Int)).f1 ∧ rd r (j : Int) * (rd_T70 mt (j : Int)).f1 ≤ 100000000 := fun j hj => by
    have k := hr.kilos j hj
    have q := (H.mats j hj).price
    have e1 := Int.mul_nonneg k.1 q.1
    have e2 := Int.mul_le_mul_of_nonneg_left q.2 k.1
    omega
  intro i
  induction i with
  | zero => intro _; rfl
  | succ i ih =>
    intro hi
    have h1 := hb i (by omega)
    have h2 := sumTo_bound (f := fun j => rd r (j : Int) * (rd_T70 mt (j : Int)).f1) (M := 100000000) (n := mt.length) hb i (by omega)
    have h3 := ih (by omega)
    unfold costS at *
    simp only [cW, sumTo, h3]
    rw [wrap_id (x := rd r (i : Int) * (rd_T70 mt (i : Int)).f1) (by omega) (by omega), wrap_id (by omega) (by omega)]
theorem dual (H : BatchOk o mt s p a4 a5 a6) (L : List S168) (D : Int) (y : List Int) (hy : ∀ j : Nat, j < L.length → 0 ≤ rd y (j : Int)) (hr : RecOk mt r) (hm : mayL mt r mt.length 0 = true)
    (hL : ∀ x ∈ L, x.f0.length = mt.length) (hp : (L.all fun x => decide (tot r x.f0 mt.length ≤ x.f1)) = true) : bdV mt L D y ≤ D * cW mt r mt.length := by
  rw [cW_costS o mt s p a4 a5 a6 r H hr mt.length (Nat.le_refl _)]
  have h1 : sumTo (gM mt L D y) mt.length ≤ sumTo (fun i => rd r (i : Int) * cS_ mt L D y i L.length) mt.length := by
    refine sumTo_leq _ fun i hi => ?_
    have hk := may_bd (H.mats i hi).b ((mayL_iff mt r mt.length 0).1 hm i (by omega) (by omega))
    exact mn_between hk.1 hk.2
  have h2 : sumTo (fun i => rd r (i : Int) * cS_ mt L D y i L.length) mt.length = D * costS mt r mt.length + sumTo (fun i => sumTo (fun j => rd r (i : Int) * (rd y (j : Int) * rd (rd_T168 L (j : Int)).f0 (i : Int))) L.length) mt.length := by
    unfold costS
    rw [← sumTo_mul9, ← sumTo_add9]
    refine sumTo_eq _ fun i hi => ?_
    unfold cS_
    rw [Int.mul_add, ← sumTo_mul9]
    congr 1
    rw [← Int.mul_assoc, ← Int.mul_assoc, Int.mul_comm (rd r (i : Int)) D]
  rw [sumTo_swap9] at h2
  have h3 : sumTo (fun k => sumTo (fun i => rd r (i : Int) * (rd y (k : Int) * rd (rd_T168 L (k : Int)).f0 (i : Int))) mt.length) L.length ≤ sumTo (fun k => rd y (k : Int) * (rd_T168 L (k : Int)).f1) L.length := by
    refine sumTo_leq _ fun j hj => ?_
    have e : sumTo (fun i => rd r (i : Int) * (rd y (j : Int) * rd (rd_T168 L (j : Int)).f0 (i : Int))) mt.length = rd y (j : Int) * tot r (rd_T168 L (j : Int)).f0 mt.length := by
      unfold tot
      rw [← sumTo_mul9]
      refine sumTo_eq _ fun i hi => ?_
      rw [← Int.mul_assoc, ← Int.mul_assoc, Int.mul_comm (rd r (i : Int)) (rd y (j : Int))]
    rw [e]
    have hx : rd_T168 L (j : Int) ∈ L := by
      have : rd_T168 L (j : Int) = L[j] := by simp [rd_T168, hj]
      rw [this]; exact List.getElem_mem hj
    have := List.all_eq_true.1 hp _ hx
    exact Int.mul_le_mul_of_nonneg_left (of_decide_eq_true this) (hy j hj)
  have h4 : tbS L y L.length = -sumTo (fun k => rd y (k : Int) * (rd_T168 L (k : Int)).f1) L.length := by
    unfold tbS
    have := sumTo_mul9 (-1) (fun k => rd y (k : Int) * (rd_T168 L (k : Int)).f1) L.length
    rw [show -sumTo (fun k => rd y (k : Int) * (rd_T168 L (k : Int)).f1) L.length = -1 * sumTo (fun k => rd y (k : Int) * (rd_T168 L (k : Int)).f1) L.length by omega, ← this]
    exact sumTo_eq _ fun j hj => by omega
  unfold bdV
  omega
end
theorem down_fl {n d : Int} (hd : 0 < d) (h1 : -7000000000000000000 ≤ n) (h2 : n ≤ 7000000000000000000) : ∃ v, b_down.f n d = some v ∧ v * d ≤ n ∧ n < v * d + d ∧ -7000000000000000001 ≤ v ∧ v ≤ 7000000000000000001 := by
  have e1 := Int.mul_tdiv_add_tmod n d
  have e2 := Int.tmod_lt_of_pos n hd
  have e3 : -d < Int.tmod n d := by
    have h := Int.tmod_lt_of_pos (-n) hd
    rw [Int.neg_tmod] at h
    omega
  have hq : Int.tdiv n d = if 0 ≤ n then n / d else -((-n) / d) := by
    split
    · rename_i h; exact Int.tdiv_eq_ediv_of_nonneg h
    · rename_i h
      have := Int.neg_tdiv (a := -n) (b := d)
      rw [Int.neg_neg] at this
      rw [this, Int.tdiv_eq_ediv_of_nonneg (by omega)]
  have e4 : -7000000000000000000 ≤ Int.tdiv n d ∧ Int.tdiv n d ≤ 7000000000000000000 := by
    rw [hq]
    split
    · rename_i h
      have a1 := Int.ediv_le_self d h
      have a2 := Int.ediv_nonneg h (show 0 ≤ d by omega)
      omega
    · rename_i h
      have a1 := Int.ediv_le_self d (show 0 ≤ -n by omega)
      have a2 := Int.ediv_nonneg (show 0 ≤ -n by omega) (show 0 ≤ d by omega)
      omega
  have e5 : Int.tdiv n d * d = d * Int.tdiv n d := Int.mul_comm ..
  have e6 : -8000000000000000000 ≤ Int.tdiv n d * d ∧ Int.tdiv n d * d ≤ 8000000000000000000 := by
    rw [hq]
    split
    · rename_i h
      have a1 := Int.ediv_mul_le n (show d ≠ 0 by omega)
      have a2 := Int.mul_nonneg (Int.ediv_nonneg h (show 0 ≤ d by omega)) (show 0 ≤ d by omega)
      omega
    · rename_i h
      have a1 := Int.ediv_mul_le (-n) (show d ≠ 0 by omega)
      have a2 := Int.mul_nonneg (Int.ediv_nonneg (show 0 ≤ -n by omega) (show 0 ≤ d by omega)) (show 0 ≤ d by omega)
      rw [Int.neg_mul]
      omega
  have e7 : (Int.tdiv n d - 1) * d = Int.tdiv n d * d - d := by rw [Int.sub_mul, Int.one_mul]
  unfold b_down.f
  rw [if_neg (show ¬ d = 0 by omega), wrap_id (x := Int.tdiv n d) (by omega) (by omega)]
  first
    | (split
       · rw [wrap_id (x := Int.tdiv n d - 1) (by omega) (by omega)]
         exact ⟨_, rfl, by omega, by omega, by omega, by omega⟩
       · exact ⟨_, rfl, by omega, by omega, by omega, by omega⟩)
    | (rw [wrap_id (x := Int.tdiv n d * d) (by omega) (by omega)]
       split
       · rw [wrap_id (x := Int.tdiv n d - 1) (by omega) (by omega)]
         exact ⟨_, rfl, by omega, by omega, by omega, by omega⟩
       · exact ⟨_, rfl, by omega, by omega, by omega, by omega⟩)
theorem up_fl {n d : Int} (hd : 0 < d) (h1 : -7000000000000000000 ≤ n) (h2 : n ≤ 7000000000000000000) : ∃ v, b_up.f n d = some v ∧ (v - 1) * d < n ∧ n ≤ v * d := by
  obtain ⟨v, e1, e2, e3, e4, e5⟩ := down_fl (n := -n) hd (by omega) (by omega)
  refine ⟨-v, ?_, ?_, ?_⟩
  · unfold b_up.f
    rw [wrap_id (x := -n) (by omega) (by omega), e1, Option.bind_some, wrap_id (x := -v) (by omega) (by omega)]
  · rw [Int.sub_mul, Int.neg_mul, Int.one_mul]; omega
  · rw [Int.neg_mul]; omega
theorem up_le {n d v c : Int} (hd : 0 < d) (h : (v - 1) * d < n) (hc : n ≤ d * c) : v ≤ c := by
  rcases Int.lt_or_le c v with h2 | h2
  · have := Int.mul_le_mul_of_nonneg_right (show c ≤ v - 1 by omega) (show 0 ≤ d by omega)
    rw [Int.mul_comm c d] at this
    omega
  · exact h2
theorem le_up {n d v c : Int} (hd : 0 < d) (h : n ≤ v * d) (hc : d * c ≤ n) : c ≤ v := by
  rcases Int.lt_or_le v c with h2 | h2
  · have h3 := Int.mul_le_mul_of_nonneg_right (show v + 1 ≤ c by omega) (show 0 ≤ d by omega)
    rw [Int.add_mul, Int.one_mul, Int.mul_comm c d] at h3
    omega
  · exact h2
end
section
section
variable {P : Program} {ops : Array Oper} {Q : Exit → Act → World → Prop} {md : Region.Mode} {S : World → Prop} {ds : List Nat} {T : Bool × List (List Nat × List Nat)} {oi : Oper} {fuel : Nat} {l : Array Bool} {a a' : Act} {w : World}
theorem nQ {N0 : Option Tmp} {v : Value} (N : Tmp) (h : wpAnyLast P md ops Q S ds fuel l a' w) (hN : N0 = some N := by rfl) (ha : a.put (some N) v = a' := by simp only [Act.put, List.setIfInBounds_toArray, List.set_cons_zero, List.set_cons_succ, i64_w, i32_w]; rfl) : wpAnyLast P md ops Q S ds fuel l (a.put N0 v) w := by
 subst hN
 subst ha
 exact h
theorem gQ {N : Option Tmp} {K : Act → World → Prop} {f : FuncId} {fn : Func} {as_ : Array Operand} {ts : Array TypeId} (hf : P.funcs[f]? = some fn) (args : Array Value) (h : Calls P f args w fun e w' => ∃ v, e = .returned v ∧ K (a.put N v) w')
  (hname : (fn.name == "runtime.NumGoroutine") = false := by kernel_rfl) (hb : fn.body.isSome = true := by rfl) (hw : Region.wanted oi (yielded ops a.tmps) = true := by (try simp only [Array.map_toArray, List.map_toArray, List.map_cons, List.map_nil]); rfl) (hN : oi.dst = N := by rfl) (hop : oi.op = .call { callee := .value (.func f), args := as_, argTypes := ts } := by rfl) (hargs : as_.map a.eval = args := by (try simp only [List.map_toArray, List.map_cons, List.map_nil]); first | done | rfl) : if Region.wanted oi (yielded ops a.tmps) = true then Oper.wp P oi a w K Q else K (a.put N undef) w :=
 goes_ hf hname hb args hw hN hop hargs h
end
def Cs7 (g : Nat) (w : World) (v0 v1 v2 v3 v4 v5 v6 : Value) : Prop := w.cell? ⟨g, 0, none⟩ = some v0 ∧ w.cell? ⟨g, 1, none⟩ = some v1 ∧ w.cell? ⟨g, 2, none⟩ = some v2 ∧ w.cell? ⟨g, 3, none⟩ = some v3 ∧ w.cell? ⟨g, 4, none⟩ = some v4 ∧ w.cell? ⟨g, 5, none⟩ = some v5 ∧ w.cell? ⟨g, 6, none⟩ = some v6
theorem ss7 {w : World} {g : Nat} {t : TypeId} {v0 v1 v2 v3 v4 v5 v6 : Value} (h : w.heap[g]? = some (.cells #[v0, v1, v2, v3, v4, v5, v6] t (0, 0))) : Cs7 g w v0 v1 v2 v3 v4 v5 v6 := by
 obtain ⟨g0, g1, g2, g3, g4, g5, g6, _⟩ := bc7 h
 exact ⟨g0, g1, g2, g3, g4, g5, g6⟩
def OptR (w : World) (B n : Nat) (v : Value) : Option (List Int) → Prop
 | none => v = .slice none 0 0
 | some r => (Kd.int .i64).R 3 w B (fun _ => True) v r ∧ r.length = n ∧ ∃ A c, v = .slice (some A) n c
theorem OptR.below {w w' : World} {B n : Nat} {v : Value} {st : Option (List Int)} (h : OptR w B n v st) (hb : Below w.heap.size w w') : OptR w' B n v st := by
 cases st with
 | none => exact h
 | some r => exact ⟨Kd.R_below h.1 hb, h.2⟩
section
variable (A0 A1 A2 A3 AL : Option Addr) (c0 c1 c2 c3 cL : Nat) (l0 : List ByteArray) (mt : List S70) (l2 : List S27) (l3 : List S89) (b4 b5 b6 : Int) (L : List S168)
structure Rows5 (w : World) : Prop where
 r0 : Kd.C Kd.string w A0 l0.length l0
 r1 : Kd.C k70 w A1 mt.length mt
 r2 : Kd.C k27 w A2 l2.length l2
 r3 : Kd.C k89 w A3 l3.length l3
 rL : Kd.C k168 w AL L.length L
variable {A0 A1 A2 A3 AL l0 mt l2 l3 L} in
theorem Rows5.below {w w' : World} (h : Rows5 A0 A1 A2 A3 AL l0 mt l2 l3 L w) (hb : Below w.heap.size w w') : Rows5 A0 A1 A2 A3 AL l0 mt l2 l3 L w' :=
 ⟨Kd.C_below h.r0 hb, Kd.C_below h.r1 hb, Kd.C_below h.r2 hb, Kd.C_below h.r3 hb, Kd.C_below h.rL hb⟩
theorem wp_any {P : Program} {c : Code} {Q : Exit → Act → World → Prop} {a : Act} {w : World} (F : World → Prop) (hF : F w) (h : ∀ W, F W → c.wp P Q a W) : c.wp P Q a w := h w hF
end
end
section
structure Near (S : Nat) (W W' : World) : Prop where
 b : Below S W W'
 k : ∀ g, g < W.heap.size → g ≠ S → W'.heap[g]? = W.heap[g]?
theorem Near.refl (S : Nat) (W : World) : Near S W W := ⟨Below.refl _ _, fun _ _ _ => rfl⟩
theorem Near.trans {S : Nat} {a b c : World} (h : Near S a b) (h2 : Near S b c) : Near S a c := ⟨h.b.trans h2.b, fun g h3 h4 => (h2.k g (Nat.lt_of_lt_of_le h3 h.b.size) h4).trans (h.k g h3 h4)⟩
theorem Near.of_below {S : Nat} {a b : World} (hs : S ≤ a.heap.size) (h : Below a.heap.size a b) : Near S a b := ⟨h.mono hs, fun g h3 _ => h.block g h3⟩
theorem Near.set {S : Nat} (W : World) (j : Nat) (v : Value) : Near S W (W.setCell ⟨S, j, none⟩ v) := ⟨(Below.refl _ _).setCell (p := ⟨S, j, none⟩) (Nat.le_refl _) _, fun g _ h => Below.heap_setCell W ⟨S, j, none⟩ v g h⟩
theorem Near.drewN {S : Nat} (W : World) (n : Nat) : Near S W (W.drewN n) := ⟨below_drewN' _ _ _, fun g h _ => (below_drewN' W.heap.size W n).block g h⟩
theorem Near.blk {S g : Nat} {W W' : World} {ob : Obj} (h : Near S W W') (hg : W.heap[g]? = some ob) (hn : g ≠ S) : W'.heap[g]? = some ob := (h.k g (blk_lt hg) hn).trans hg
theorem Near.cell {S : Nat} {W W' : World} (h : Near S W W') {a : Addr} {v : Value} (hc : W.cell? a = some v) (hn : a.block ≠ S) : W'.cell? a = some v := by
 have hb := h.k a.block (World.block_lt_of_cell? W _ hc) hn
 rw [← hc]
 unfold World.cell?
 rw [hb]
theorem below_near {n S : Nat} {W0 W W' : World} (h : Below n W0 W) (h2 : Near S W W') (hn : n ≤ S) : Below n W0 W' := h.trans (h2.b.mono hn)
end
section
structure LnsOk (m : Nat) (L : List S168) : Prop where
 n : L.length ≤ 39
 line : ∀ j : Nat, j < L.length → LnOk m (rd_T168 L (j : Int))
theorem bdOk_set {m : Nat} {L : List S168} {D : Int} {y : List Int} (B : BdOk m L D y) (k : Nat) {x : Int} (h0 : 0 ≤ x) (h1 : x ≤ 1000) : BdOk m L D (y.set k x) := by
 refine ⟨B.n, B.line, B.d, by rw [List.length_set]; exact B.len, fun j hj => ?_⟩
 have hl := B.len
 by_cases e : j = k
 ·subst e
  have : rd (y.set j x) (j : Int) = x := by simp [rd, hl, hj]
  rw [this]; exact ⟨h0, h1⟩
 ·have : rd (y.set k x) (j : Int) = rd y (j : Int) := by
   simp only [rd, Int.toNat_natCast, List.getD_eq_getElem?_getD]
   rw [List.getElem?_set, if_neg (fun h => e h.symm)]
  rw [this]; exact B.y j hj
theorem bdOk_zero {m : Nat} {L : List S168} {D : Int} (h : LnsOk m L) (hD : 0 ≤ D ∧ D ≤ 1000000) : BdOk m L D (List.replicate L.length 0) := by
 refine ⟨h.n, h.line, hD, by simp, fun j hj => ?_⟩
 have : rd (List.replicate L.length (0 : Int)) (j : Int) = 0 := by simp [rd, hj]
 omega
theorem set_self {y : List Int} {k : Nat} (hk : k < y.length) : y.set k (rd y (k : Int)) = y := by
 apply List.ext_getElem?
 intro i
 rw [List.getElem?_set]
 by_cases e : k = i
 ·subst e
  rw [if_pos rfl, if_pos hk]
  simp [rd, hk]
 ·rw [if_neg e]
theorem ks_ix (j : Nat) (h : j < 8) : ∃ c : Int, 0 ≤ c ∧ c ≤ 1000 ∧ ∀ W, (Instr.index 196 (.agg #[.int .i64 0, .int .i64 1, .int .i64 3, .int .i64 10, .int .i64 30, .int .i64 100, .int .i64 300, .int .i64 1000]) (.int .i64 (j : Int))).run Tryz.prog W = .ok (.int .i64 c) W := by
 rcases (by omega : j = 0 ∨ j = 1 ∨ j = 2 ∨ j = 3 ∨ j = 4 ∨ j = 5 ∨ j = 6 ∨ j = 7) with rfl | rfl | rfl | rfl | rfl | rfl | rfl | rfl
 ·exact ⟨0, by decide, by decide, fun W => by first | rfl | (have hu := Tryz.underlying196; simp [Instr.index, go_sem, hu]; done) | (go_simp; done) | (go_simp; rfl)⟩
 ·exact ⟨1, by decide, by decide, fun W => by first | rfl | (have hu := Tryz.underlying196; simp [Instr.index, go_sem, hu]; done) | (go_simp; done) | (go_simp; rfl)⟩
 ·exact ⟨3, by decide, by decide, fun W => by first | rfl | (have hu := Tryz.underlying196; simp [Instr.index, go_sem, hu]; done) | (go_simp; done) | (go_simp; rfl)⟩
 ·exact ⟨10, by decide, by decide, fun W => by first | rfl | (have hu := Tryz.underlying196; simp [Instr.index, go_sem, hu]; done) | (go_simp; done) | (go_simp; rfl)⟩
 ·exact ⟨30, by decide, by decide, fun W => by first | rfl | (have hu := Tryz.underlying196; simp [Instr.index, go_sem, hu]; done) | (go_simp; done) | (go_simp; rfl)⟩
 ·exact ⟨100, by decide, by decide, fun W => by first | rfl | (have hu := Tryz.underlying196; simp [Instr.index, go_sem, hu]; done) | (go_simp; done) | (go_simp; rfl)⟩
 ·exact ⟨300, by decide, by decide, fun W => by first | rfl | (have hu := Tryz.underlying196; simp [Instr.index, go_sem, hu]; done) | (go_simp; done) | (go_simp; rfl)⟩
 ·exact ⟨1000, by decide, by decide, fun W => by first | rfl | (have hu := Tryz.underlying196; simp [Instr.index, go_sem, hu]; done) | (go_simp; done) | (go_simp; rfl)⟩
section
variable (A0 A1 A2 A3 AL : Option Addr) (c0 c1 c2 c3 cL : Nat) (l0 : List ByteArray) (mt : List S70) (l2 : List S27) (l3 : List S89) (b4 b5 b6 : Int) (L : List S168)
theorem climbed_calls (H : BatchOk l0 mt l2 l3 b4 b5 b6) (D : Int) (hL : LnsOk mt.length L) (hD : 0 ≤ D ∧ D ≤ 1000000) (h00 : l0.length ≤ c0) (h01 : mt.length ≤ c1) (h02 : l2.length ≤ c2) (h03 : l3.length ≤ c3) (h0L : L.length ≤ cL) (w : World) (hR : Rows5 A0 A1 A2 A3 AL l0 mt l2 l3 L w) :
  Calls Tryz.prog 94 #[.agg #[.slice A0 l0.length c0, .slice A1 mt.length c1, .slice A2 l2.length c2, .slice A3 l3.length c3, .int .i64 b4, .int .i64 b5, .int .i64 b6], .slice AL L.length cL, .int .i64 D] w fun e w' => ∃ S ws, e = .returned (.agg #[.int .i64 D, .slice (some ⟨S, 0, none⟩) L.length L.length]) ∧ w.heap.size ≤ S ∧ IntsAt w' S L.length ws ∧ BdOk mt.length L D ws ∧ bdV mt L D (List.replicate L.length 0) ≤ bdV mt L D ws ∧ Below w.heap.size w w' := by
 have hn := hL.n
 have hlf : ∀ (S : Nat) (ws : List Int) (W : World), Below w.heap.size w W → IntsAt W S L.length ws → BdOk mt.length L D ws → Calls Tryz.prog 95 #[.agg #[.slice A0 l0.length c0, .slice A1 mt.length c1, .slice A2 l2.length c2, .slice A3 l3.length c3, .int .i64 b4, .int .i64 b5, .int .i64 b6], .slice AL L.length cL, .agg #[.int .i64 D, .slice (some ⟨S, 0, none⟩) L.length L.length]] W fun e w' => e = .returned (.int .i64 (bdV mt L D ws)) ∧ Below W.heap.size W w' := fun S ws W hb hI B => by
  obtain ⟨K, hK⟩ := least_l0 l0 mt l2 l3 b4 b5 b6 L D ws H B L.length 0 (by omega)
  have hq := b_least.calls K A0 c0 l0 A1 c1 mt A2 c2 l2 A3 c3 l3 b4 b5 b6 AL cL L D (some ⟨S, 0, none⟩) L.length ws (bdV mt L D ws) W (Kd.C_below hR.r0 hb) h00 (Kd.C_below hR.r1 hb) h01 (Kd.C_below hR.r2 hb) h02 (Kd.C_below hR.r3 hb) h03 (Kd.C_below hR.rL hb) h0L hI.reads (Nat.le_of_eq hI.1) (hK K (Nat.le_refl _))
  rw [hI.1] at hq
  exact hq
 have HLF := Sd.mk hlf
 obtain ⟨q1, q2, hb0, hsz⟩ := blk_two w (.cells #[.slice A0 l0.length c0, .slice A1 mt.length c1, .slice A2 l2.length c2, .slice A3 l3.length c3, .int .i64 b4, .int .i64 b5, .int .i64 b6] 29) (.cells #[.int .i64 0, .slice none 0 0] 32)
 have BX := Sd.mk q1
 have BR := Sd.mk q2
 have HB := Sd.mk hb0
 have HSZ := Sd.mk hsz
 have hu29 := Tryz.underlying29
 have hu32 := Tryz.underlying32
 have HLO := Sd.mk hL
 have HDD := Sd.mk hD
 have hmk := print_make_int (P := Tryz.prog) 30 3 (.int .i64 0) 8 (by rfl) (by rfl) rfl (by omega) (L.length : Int) (by omega) (by simp; omega)
 clear hlf hb0 hR hL hD q1 q2 hsz
 go_enter Tryz.func94, Tryz.ntmps94
 go_upto_region 1 with (fail)
 generalize (w.alloc (.cells #[.slice A0 l0.length c0, .slice A1 mt.length c1, .slice A2 l2.length c2, .slice A3 l3.length c3, .int .i64 b4, .int .i64 b5, .int .i64 b6] 29)).alloc (.cells #[.int .i64 0, .slice none 0 0] 32) = W0 at BX BR HB HSZ ⊢
 go_upto_region 2 with (first | ((with_reducible refine gate_dst (N := 7) rfl ?_); refine box_event ?hg (N := 7) ?hd (cs := #[.int .i64 0, .slice none 0 0]) (t := 32) ?hr ?_; (case hd => rfl); (case hg => rfl); (case hr => first | (go_simp; done) | (go_simp; rfl)); intro gp hg wm hbox hb; have z0 : wm.cell? ⟨gp, 0, none⟩ = some (.int .i64 0) := (blk_cell hbox 0).trans rfl; have z1 : wm.cell? ⟨gp, 1, none⟩ = some (.slice none 0 0) := (blk_cell hbox 1).trans rfl; have y0 := blk_frozen hbox 0; have y1 := blk_frozen hbox 1; have HGP := Sd.mk hg; have HBX := Sd.mk hbox; have HBM := Sd.mk hb; clear hg hbox hb))
 obtain ⟨S, eS⟩ : ∃ S, S = W0.heap.size := ⟨_, rfl⟩
 rw [← eS]
 have ES := Sd.mk eS
 clear eS z0 z1 y0 y1
 refine wp_any (fun W => W.heap[gp]? = some (.cells #[.int .i64 D, .slice (some ⟨S, 0, none⟩) L.length L.length] 32 (0, 0)) ∧ IntsAt W S L.length (List.replicate L.length 0) ∧ Below W0.heap.size W0 W ∧ gp ≠ S ∧ gp < W.heap.size) ⟨blk_put (blk_put HBX.out 0 _ rfl) 1 _ rfl, ?_, ?_, ?_, ?_⟩ ?_
 ·have hi : IntsAt (W0.alloc (.cells (madeCells #[.int .i64 0] L.length) 3)) S L.length (List.replicate L.length 0) := by
   rw [ES.out]
   exact ⟨by simp, Kd.R_of_own (enc := Value.int .i64) (own_made' W0 W0.heap.size 3 .i64 L.length (Nat.le_refl _) (by have := HLO.out.n; omega)) (fun k hk => by simpa [Value.ownBlock] using hk.symm)⟩
  have h1 := hi.below (KeepHi.of_below HBM.out)
  have hne : ∀ k, k = S → k ≠ gp := fun k hk => by rw [hk, HGP.out, ES.out]; simp
  exact ⟨h1.1, Kd.R_far (p := ⟨gp, 1, none⟩) (Kd.R_far (p := ⟨gp, 0, none⟩) h1.2 hne _) hne _⟩
 ·have hg : W0.heap.size ≤ gp := by rw [HGP.out]; simp
  exact (((below_alloc (Below.refl W0.heap.size W0) _).trans (HBM.out.mono (by simp))).setCell (p := ⟨gp, 0, none⟩) hg _).setCell (p := ⟨gp, 1, none⟩) hg _
 ·rw [HGP.out, ES.out]; simp
 ·have := blk_lt HBX.out; simpa using this
 rintro W5 ⟨bp, hi5, hb5, hne, hlt⟩
 replace BX := Sd.mk (blk_below BX.out hb5)
 replace BR := Sd.mk (blk_below BR.out hb5)
 have BP := Sd.mk bp
 have HI5 := Sd.mk hi5
 have HB5 := Sd.mk (below_then HB.out HB.out.size hb5)
 have HN := Sd.mk (show w.heap.size < S ∧ w.heap.size + 1 < S ∧ gp ≠ S by have := HSZ.out; have := ES.out; omega)
 clear HB HBX HBM HGP HSZ bp hi5 hb5 hne hlt ES
 clear W0
 obtain ⟨g0, g1, g2, g3, g4, g5, g6, _⟩ := bc7 BX.out
 have p0 : W5.cell? ⟨gp, 0, none⟩ = some (.int .i64 D) := (blk_cell BP.out 0).trans rfl
 have p1 : W5.cell? ⟨gp, 1, none⟩ = some (.slice (some ⟨S, 0, none⟩) L.length L.length) := (blk_cell BP.out 1).trans rfl
 have hz0 := HLF.out S _ W5 HB5.out HI5.out (bdOk_zero HLO.out HDD.out)
 have HZ0 := Sd.mk hz0
 clear hz0
 obtain ⟨m0, em0⟩ : ∃ m0, bdV mt L D (List.replicate L.length 0) = m0 := ⟨_, rfl⟩
 rw [em0] at HZ0
 have EM := Sd.mk em0
 clear em0
 go_upto_region 3 with (go_at_call 95; (refine HZ0.out.mono ?_); rintro e W6 ⟨rfl, hb⟩; have HNR := Sd.mk (Near.of_below (Nat.le_of_lt HI5.out.lt) hb); have HI6 := Sd.mk (HI5.out.below (KeepHi.of_below hb)); clear hb)
 clear g0 g1 g2 g3 g4 g5 g6 p0 p1 HZ0
 go_wp2
 go_loopg [23, 8] 3 (fun kq v23 v8 W' => ∃ (i : Nat) (ws : List Int), v23 = .int .i64 (i : Int) ∧ v8 = .int .i64 (bdV mt L D ws) ∧ Sd (i + kq = 3 ∧ IntsAt W' S L.length ws ∧ BdOk mt.length L D ws ∧ m0 ≤ bdV mt L D ws ∧ Near S W5 W'))
 case atStart => exact ⟨0, List.replicate L.length 0, by simp, by rw [EM.out], ⟨by omega, HI6.out, bdOk_zero HLO.out HDD.out, by rw [EM.out]; exact Int.le_refl _, HNR.out⟩⟩
 case round =>
  clear HI6 HNR
  obtain ⟨i, ws, rfl, rfl, HI⟩ := hrel
  cases gk with
  | zero =>
   have hi : i = 3 := by have := HI.out.1; omega
   subst hi
   have q0 : wr.cell? ⟨gp, 0, none⟩ = some (.int .i64 D) := (blk_cell (HI.out.2.2.2.2.blk BP.out HN.out.2.2) 0).trans rfl
   have q1 : wr.cell? ⟨gp, 1, none⟩ = some (.slice (some ⟨S, 0, none⟩) L.length L.length) := (blk_cell (HI.out.2.2.2.2.blk BP.out HN.out.2.2) 1).trans rfl
   have r0 : wr.cell? ⟨w.heap.size + 1, 0, none⟩ = some (.int .i64 0) := (blk_cell (HI.out.2.2.2.2.blk BR.out (Nat.ne_of_lt HN.out.2.1)) 0).trans rfl
   have r1 : wr.cell? ⟨w.heap.size + 1, 1, none⟩ = some (.slice none 0 0) := (blk_cell (HI.out.2.2.2.2.blk BR.out (Nat.ne_of_lt HN.out.2.1)) 1).trans rfl
   have f0 := blk_frozen (HI.out.2.2.2.2.blk BR.out (Nat.ne_of_lt HN.out.2.1)) 0
   have f1 := blk_frozen (HI.out.2.2.2.2.blk BR.out (Nat.ne_of_lt HN.out.2.1)) 1
   go_wp2
   have hnr := (HI.out.2.2.2.2.blk BR.out (Nat.ne_of_lt HN.out.2.1))
   have e0 := (blk_cell (blk_put (blk_put hnr 0 (.int .i64 D) rfl) 1 (.slice (some ⟨S, 0, none⟩) L.length L.length) rfl) 0).trans rfl
   have e1 := (blk_cell (blk_put (blk_put hnr 0 (.int .i64 D) rfl) 1 (.slice (some ⟨S, 0, none⟩) L.length L.length) rfl) 1).trans rfl
   refine bodyPost_ret (v := .agg #[.int .i64 D, .slice (some ⟨S, 0, none⟩) L.length L.length]) (by simp [results, Tryz.results94, e0, e1, go_sem, hu32]) rfl ?_
   refine ⟨S, rfl, Nat.le_of_lt HN.out.1, ws, ?_, HI.out.2.2.1, by rw [EM.out]; exact HI.out.2.2.2.1, ?_⟩
   ·have hne : ∀ k, k = S → k ≠ w.heap.size + 1 := fun k hk => by rw [hk]; exact (Nat.ne_of_lt HN.out.2.1).symm
    exact ⟨HI.out.2.1.1, Kd.R_far (p := ⟨w.heap.size + 1, 1, none⟩) (Kd.R_far (p := ⟨w.heap.size + 1, 0, none⟩) HI.out.2.1.2 hne _) hne _⟩
   ·exact ((below_near HB5.out HI.out.2.2.2.2 (Nat.le_of_lt HN.out.1)).setCell (p := ⟨w.heap.size + 1, 0, none⟩) (Nat.le_succ _) _).setCell (p := ⟨w.heap.size + 1, 1, none⟩) (Nat.le_succ _) _
  | succ ki =>
   have hd : decide ((i : Int) < 3) = true := decide_eq_true (by have := HI.out.1; omega)
   have hw3 : wrap64 ((i : Int) + 1) = ((i + 1 : Nat) : Int) := by have := HI.out.1; rw [wrap_id (by omega) (by omega)]; omega
   have HW3 := Sd.mk hw3
   clear hw3
   go_upto_region 5 with (fail)
   clear hd
   go_wp2
   go_loopg [27, 8] L.length (fun kq v27 v8 W' => ∃ (k : Nat) (ws : List Int), v27 = .int .i64 (k : Int) ∧ v8 = .int .i64 (bdV mt L D ws) ∧ Sd (k + kq = L.length ∧ IntsAt W' S L.length ws ∧ BdOk mt.length L D ws ∧ m0 ≤ bdV mt L D ws ∧ Near S W5 W'))
   case atStart => exact ⟨0, ws, by simp, rfl, ⟨by omega, HI.out.2⟩⟩
   case round =>
    have HII := Sd.mk HI.out.1
    clear HI
    obtain ⟨k, ws, rfl, rfl, HI⟩ := hrel
    cases gk with
    | zero =>
     have hk : ¬ k < L.length := by have := HI.out.1; omega
     have hd : decide ((k : Int) < (L.length : Int)) = false := decide_eq_false (by omega)
     go_wp2
     go_roundg ki
     case measure => exact Nat.lt_succ_self _
     case rel => exact ⟨i + 1, ws, by first | rw [HW3.out] | rfl | (push_cast; rfl), rfl, ⟨by have := HII.out; omega, HI.out.2⟩⟩
    | succ kk =>
     have hk : k < L.length := by have := HI.out.1; omega
     have HK := Sd.mk hk
     have hd : decide ((k : Int) < (L.length : Int)) = true := decide_eq_true (by omega)
     have hp : decide (0 ≤ (k : Int)) = true := decide_eq_true (by omega)
     have hwk : wrap64 ((k : Int) + 1) = ((k + 1 : Nat) : Int) := by have := HLO.out.n; rw [wrap_id (by omega) (by omega)]; omega
     have HWK := Sd.mk hwk
     clear hwk
     have q1 : wr.cell? ⟨gp, 1, none⟩ = some (.slice (some ⟨S, 0, none⟩) L.length L.length) := (blk_cell (HI.out.2.2.2.2.blk BP.out HN.out.2.2) 1).trans rfl
     obtain ⟨hq0, hq1⟩ := HI.out.2.1.cell k hk
     have hself := set_self (y := ws) (k := k) (by rw [HI.out.2.1.1]; exact hk)
     have hnow := HI.out.2.2.1.y k hk
     have HNOW := Sd.mk (And.intro hnow hself)
     clear hnow hself
     go_upto_region 9 with (fail)
     clear q1 hq0 hq1
     go_wp2
     go_loopg [36, 8, 10] 8 (fun kq v36 v8 v10 W' => ∃ (j : Nat) (ws : List Int) (now : Int), v36 = .int .i64 (j : Int) ∧ v8 = .int .i64 (bdV mt L D (ws.set k now)) ∧ v10 = .int .i64 now ∧ Sd (j + kq = 8 ∧ IntsAt W' S L.length ws ∧ BdOk mt.length L D ws ∧ (0 ≤ now ∧ now ≤ 1000) ∧ m0 ≤ bdV mt L D (ws.set k now) ∧ Near S W5 W'))
     case atStart => exact ⟨0, ws, rd ws (k : Int), by simp, by rw [HNOW.out.2], rfl, ⟨by omega, HI.out.2.1, HI.out.2.2.1, HNOW.out.1, by rw [HNOW.out.2]; exact HI.out.2.2.2.1, HI.out.2.2.2.2⟩⟩
     case round =>
      have HKK := Sd.mk HI.out.1
      clear HI HNOW
      obtain ⟨j, ws, now, rfl, rfl, rfl, HI⟩ := hrel
      have q0 : wr.cell? ⟨gp, 0, none⟩ = some (.int .i64 D) := (blk_cell (HI.out.2.2.2.2.2.blk BP.out HN.out.2.2) 0).trans rfl
      have q1 : wr.cell? ⟨gp, 1, none⟩ = some (.slice (some ⟨S, 0, none⟩) L.length L.length) := (blk_cell (HI.out.2.2.2.2.2.blk BP.out HN.out.2.2) 1).trans rfl
      obtain ⟨hq0, hq1⟩ := HI.out.2.1.cell k hk
      cases gk with
      | zero =>
       have hj : j = 8 := by have := HI.out.1; omega
       subst hj
       go_wp2
       go_roundg kk
       case measure => exact Nat.lt_succ_self _
       case rel => exact ⟨k + 1, ws.set k now, by first | rw [HWK.out] | rfl | (push_cast; rfl), rfl, ⟨by have := HKK.out; omega, HI.out.2.1.put k now, bdOk_set HI.out.2.2.1 k HI.out.2.2.2.1.1 HI.out.2.2.2.1.2, HI.out.2.2.2.2.1, HI.out.2.2.2.2.2.trans (Near.set _ _ _)⟩⟩
      | succ kj =>
       have hj8 : j < 8 := by have := HI.out.1; omega
       obtain ⟨c, hc0, hc1, hix⟩ := ks_ix j hj8
       have hdj : decide ((j : Int) < 8) = true := decide_eq_true (by omega)
       have hpj : decide (0 ≤ (j : Int)) = true := decide_eq_true (by omega)
       have hwj : wrap64 ((j : Int) + 1) = ((j + 1 : Nat) : Int) := by rw [wrap_id (by omega) (by omega)]; omega
       have HWJ := Sd.mk (And.intro hwj (And.intro hc0 hc1))
       clear hwj hc0 hc1
       go_upto_region 13 with (fail)
       have HI12 := Sd.mk (HI.out.2.1.put k c)
       have HN12 := Sd.mk (HI.out.2.2.2.2.2.trans (Near.set wr k (.int .i64 c)))
       have HB12 := Sd.mk (bdOk_set HI.out.2.2.1 k HWJ.out.2.1 HWJ.out.2.2)
       have HII2 := Sd.mk (And.intro HI.out.1 (And.intro HI.out.2.2.2.1 HI.out.2.2.2.2.1))
       clear q0 q1 hq0 hq1 HI hix hdj hpj
       generalize wr.setCell ⟨S, k, none⟩ (.int .i64 c) = W12 at HI12 HN12 ⊢
       obtain ⟨g0, g1, g2, g3, g4, g5, g6, _⟩ := bc7 (HN12.out.blk BX.out (Nat.ne_of_lt HN.out.1))
       have q0 : W12.cell? ⟨gp, 0, none⟩ = some (.int .i64 D) := (blk_cell (HN12.out.blk BP.out HN.out.2.2) 0).trans rfl
       have q1 : W12.cell? ⟨gp, 1, none⟩ = some (.slice (some ⟨S, 0, none⟩) L.length L.length) := (blk_cell (HN12.out.blk BP.out HN.out.2.2) 1).trans rfl
       have hcl := HLF.out S _ W12 (below_near HB5.out HN12.out (Nat.le_of_lt HN.out.1)) HI12.out HB12.out
       have HCL := Sd.mk hcl
       clear hcl
       go_upto_region 14 with (go_at_call 95; (refine HCL.out.mono ?_); rintro e W13 ⟨rfl, hb⟩; have HI13 := Sd.mk (HI12.out.below (KeepHi.of_below hb)); have HN13 := Sd.mk (HN12.out.trans (Near.of_below (Nat.le_of_lt HI12.out.lt) hb)); clear hb)
       clear g0 g1 g2 g3 g4 g5 g6 q0 q1 HCL HI12 HN12
       by_cases hgt : bdV mt L D (ws.set k now) < bdV mt L D (ws.set k c)
       ·have hdg : decide (bdV mt L D (ws.set k now) < bdV mt L D (ws.set k c)) = true := decide_eq_true hgt
        have HGT := Sd.mk hgt
        clear hgt
        go_wp2
        go_roundg kj
        case measure => exact Nat.lt_succ_self _
        case rel => exact ⟨j + 1, ws.set k c, c, by first | rw [HWJ.out.1] | rfl | (push_cast; rfl), by rw [List.set_set], rfl, ⟨by have := HII2.out.1; omega, HI13.out, HB12.out, HWJ.out.2, by rw [List.set_set]; have := HII2.out.2.2; have := HGT.out; omega, HN13.out⟩⟩
       ·have hdg : decide (bdV mt L D (ws.set k now) < bdV mt L D (ws.set k c)) = false := decide_eq_false hgt
        clear hgt
        go_wp2
        go_roundg kj
        case measure => exact Nat.lt_succ_self _
        case rel => exact ⟨j + 1, ws.set k c, now, by first | rw [HWJ.out.1] | rfl | (push_cast; rfl), by rw [List.set_set], rfl, ⟨by have := HII2.out.1; omega, HI13.out, HB12.out, HII2.out.2.1, by rw [List.set_set]; exact HII2.out.2.2, HN13.out⟩⟩
end
end
section
theorem ks2_ix (j : Nat) (h : j < 2) : ∃ c : Int, 1 ≤ c ∧ c ≤ 1000000 ∧ ∀ W, (Instr.index 138 (.agg #[.int .i64 1000, .int .i64 1000000]) (.int .i64 (j : Int))).run Tryz.prog W = .ok (.int .i64 c) W := by
 rcases (by omega : j = 0 ∨ j = 1) with rfl | rfl
 ·exact ⟨1000, by decide, by decide, fun W => rfl⟩
 ·exact ⟨1000000, by decide, by decide, fun W => rfl⟩
theorem lns_ok {o : List ByteArray} {mt : List S70} {s : List S27} {p : List S89} {a4 a5 a6 : Int} (H : BatchOk o mt s p a4 a5 a6) : LnsOk mt.length (linesV mt s p a4 a5 a6) := by
 refine ⟨?_, fun j hj => ?_⟩
 ·rw [linesV_len]; have := H.o12; have := H.p6; have := H.slen; omega
 ·have : rd_T168 (linesV mt s p a4 a5 a6) (j : Int) = (linesV mt s p a4 a5 a6)[j] := by simp [rd_T168, hj]
  rw [this]; exact lines_ln H _ (List.getElem_mem hj)
section
variable (A0 A1 A2 A3 A9 : Option Addr) (c0 c1 c2 c3 c9 : Nat) (l0 : List ByteArray) (mt : List S70) (l2 : List S27) (l3 : List S89) (b4 b5 b6 : Int) (L : List S168)
theorem least_call (H : BatchOk l0 mt l2 l3 b4 b5 b6) (h00 : l0.length ≤ c0) (h01 : mt.length ≤ c1) (h02 : l2.length ≤ c2) (h03 : l3.length ≤ c3) (h0L : L.length ≤ c9) (D : Int) (S : Nat) (ws : List Int) (W : World) (hR : Rows5 A0 A1 A2 A3 A9 l0 mt l2 l3 L W) (hI : IntsAt W S L.length ws) (B : BdOk mt.length L D ws) :
  Calls Tryz.prog 95 #[.agg #[.slice A0 l0.length c0, .slice A1 mt.length c1, .slice A2 l2.length c2, .slice A3 l3.length c3, .int .i64 b4, .int .i64 b5, .int .i64 b6], .slice A9 L.length c9, .agg #[.int .i64 D, .slice (some ⟨S, 0, none⟩) L.length L.length]] W fun e w' => e = .returned (.int .i64 (bdV mt L D ws)) ∧ Below W.heap.size W w' := by
 obtain ⟨K, hK⟩ := least_l0 l0 mt l2 l3 b4 b5 b6 L D ws H B L.length 0 (by omega)
 have hq := b_least.calls K A0 c0 l0 A1 c1 mt A2 c2 l2 A3 c3 l3 b4 b5 b6 A9 c9 L D (some ⟨S, 0, none⟩) L.length ws (bdV mt L D ws) W hR.r0 h00 hR.r1 h01 hR.r2 h02 hR.r3 h03 hR.rL h0L hI.reads (Nat.le_of_eq hI.1) (hK K (Nat.le_refl _))
 rw [hI.1] at hq
 exact hq
end
def pv13T : Bool × List (List Nat × List Nat) := (true, [([], []), ([], []), ([], []), ([0, 1, 2], [0, 1, 2]), ([], []), ([3, 4, 3], [3, 4]), ([], []), ([], []), ([], []), ([6, 7, 8, 5], [6, 7, 8]), ([], []), ([10], [10]), ([9, 11, 9], [9, 11]), ([5, 12], [5, 12])])
def pv13B : List Nat := [0, 0, 0, 7, 0, 31, 0, 0, 0, 511, 0, 1024, 4095, 8191]
theorem pv13_tab : rtab .any (opsOf Tryz.f33 13) = pv13T := by kernel_rfl
theorem pv13_bits : waitsOk pv13T.2 pv13B = true := by kernel_rfl
theorem prove_calls (A0 : Option Addr) (c0 : Nat) (l0 : List ByteArray) (A1 : Option Addr) (c1 : Nat) (mt : List S70) (A2 : Option Addr) (c2 : Nat) (l2 : List S27) (A3 : Option Addr) (c3 : Nat) (l3 : List S89) (b4 b5 b6 : Int) (L : List S168) (hLd : linesV mt l2 l3 b4 b5 b6 = L) (w : World)
  (hr0 : Kd.C Kd.string w A0 l0.length l0) (h00 : l0.length ≤ c0) (hr1 : Kd.C k70 w A1 mt.length mt) (h01 : mt.length ≤ c1) (hr2 : Kd.C k27 w A2 l2.length l2) (h02 : l2.length ≤ c2) (hr3 : Kd.C k89 w A3 l3.length l3) (h03 : l3.length ≤ c3) :
  Calls Tryz.prog 33 #[.agg #[.slice A0 l0.length c0, .slice A1 mt.length c1, .slice A2 l2.length c2, .slice A3 l3.length c3, .int .i64 b4, .int .i64 b5, .int .i64 b6]] w fun e w' => Below w.heap.size w w' ∧ ((checkV l0 mt l2 l3 b4 b5 b6 ≠ 0 ∧ e = .returned (.tuple #[.agg #[.int .i64 0, .slice none 0 0], .int .i64 (checkV l0 mt l2 l3 b4 b5 b6)])) ∨ (checkV l0 mt l2 l3 b4 b5 b6 = 0 ∧ ∃ D S ws, e = .returned (.tuple #[.agg #[.int .i64 D, .slice (some ⟨S, 0, none⟩) L.length L.length], .int .i64 0]) ∧ IntsAt w' S L.length ws ∧ BdOk mt.length L D ws ∧ bdV mt L D (List.replicate L.length 0) ≤ bdV mt L D ws ∧ (D = 0 → 0 < bdV mt L D ws))) := by
 obtain ⟨q1, q2, hb0, hsz⟩ := blk_two w (.cells #[.slice A0 l0.length c0, .slice A1 mt.length c1, .slice A2 l2.length c2, .slice A3 l3.length c3, .int .i64 b4, .int .i64 b5, .int .i64 b6] 29) (.cells #[.int .i64 0, .slice none 0 0] 32)
 have BX := Sd.mk q1
 have BR := Sd.mk q2
 have HB := Sd.mk hb0
 have hu29 := Tryz.underlying29
 have hu32 := Tryz.underlying32
 have HR := Sd.mk (And.intro hr0 (And.intro hr1 (And.intro hr2 hr3)))
 obtain ⟨kc, hkc⟩ := bcheck l0 mt l2 l3 b4 b5 b6
 have HCK := Sd.mk (hkc kc (Nat.le_refl _))
 clear q1 q2 hb0 hsz hr0 hr1 hr2 hr3 hkc
 go_enter Tryz.func33, Tryz.ntmps33
 go_upto_region 1 with (fail)
 generalize (w.alloc (.cells #[.slice A0 l0.length c0, .slice A1 mt.length c1, .slice A2 l2.length c2, .slice A3 l3.length c3, .int .i64 b4, .int .i64 b5, .int .i64 b6] 29)).alloc (.cells #[.int .i64 0, .slice none 0 0] 32) = W0 at BX BR HB ⊢
 obtain ⟨g0, g1, g2, g3, g4, g5, g6, _⟩ := bc7 BX.out
 go_upto_region 2 with (go_at_call 34; (refine (b_Check.calls _ A0 c0 l0 A1 c1 mt A2 c2 l2 A3 c3 l3 b4 b5 b6 _ _ (Kd.C_below HR.out.1 HB.out) h00 (Kd.C_below HR.out.2.1 HB.out) h01 (Kd.C_below HR.out.2.2.1 HB.out) h02 (Kd.C_below HR.out.2.2.2 HB.out) h03 HCK.out).mono ?_); rintro e W1 ⟨rfl, hb⟩; clear g0 g1 g2 g3 g4 g5 g6; replace BX := Sd.mk (blk_below BX.out hb); replace BR := Sd.mk (blk_below BR.out hb); replace HB := Sd.mk (below_then HB.out HB.out.size hb); clear hb; obtain ⟨g0, g1, g2, g3, g4, g5, g6, _⟩ := bc7 BX.out)
 by_cases hz : checkV l0 mt l2 l3 b4 b5 b6 = 0
 rotate_left
 ·have d1 : (checkV l0 mt l2 l3 b4 b5 b6 == 0) = false := beq_eq_false_iff_ne.2 hz
  have d2 : (checkV l0 mt l2 l3 b4 b5 b6 != 0) = true := by simp [hz]
  have HZ := Sd.mk hz
  have r0 : W1.cell? ⟨w.heap.size + 1, 0, none⟩ = some (.int .i64 0) := (blk_cell BR.out 0).trans rfl
  have r1 : W1.cell? ⟨w.heap.size + 1, 1, none⟩ = some (.slice none 0 0) := (blk_cell BR.out 1).trans rfl
  have f0 := blk_frozen BR.out 0
  have f1 := blk_frozen BR.out 1
  go_wp2
  have e0 := (blk_cell (blk_put (blk_put BR.out 0 (.int .i64 0) rfl) 1 (.slice none 0 0) rfl) 0).trans rfl
  have e1 := (blk_cell (blk_put (blk_put BR.out 0 (.int .i64 0) rfl) 1 (.slice none 0 0) rfl) 1).trans rfl
  refine bodyPost_ret (v := .tuple #[.agg #[.int .i64 0, .slice none 0 0], .int .i64 (checkV l0 mt l2 l3 b4 b5 b6)]) (by simp [results, Tryz.results33, e0, e1, go_sem, hu32]) rfl ?_
  refine ⟨(HB.out.setCell (p := ⟨w.heap.size + 1, 0, none⟩) (Nat.le_succ _) _).setCell (p := ⟨w.heap.size + 1, 1, none⟩) (Nat.le_succ _) _, ?_⟩
  exact Or.inl ⟨HZ.out, rfl⟩
 have H := Sd.mk (check_ok hz)
 have HZ := Sd.mk hz
 rw [hz]
 clear hz
 go_upto_region 5 with (go_at_call 52; (refine (x_lines.calls A0 c0 l0 A1 c1 mt A2 c2 l2 A3 c3 l3 b4 b5 b6 (linesV mt l2 l3 b4 b5 b6) _ (Kd.C_below HR.out.1 HB.out) h00 (Kd.C_below HR.out.2.1 HB.out) h01 (Kd.C_below HR.out.2.2.1 HB.out) h02 (Kd.C_below HR.out.2.2.2 HB.out) h03 (by unfold x_lines.f; rw [if_pos HZ.out])).mono ?_); rintro e W2 ⟨v3, rfl, hl3, hb⟩; rw [hLd] at hl3; obtain ⟨A9, c9, rfl, hlc, hl9⟩ := Kd.R_reads hl3; have LN := Sd.mk (And.intro hlc hl9); clear hlc hl9 hl3; clear g0 g1 g2 g3 g4 g5 g6; replace BX := Sd.mk (blk_below BX.out hb); replace BR := Sd.mk (blk_below BR.out hb); replace HB := Sd.mk (below_then HB.out HB.out.size hb); clear hb; obtain ⟨g0, g1, g2, g3, g4, g5, g6, _⟩ := bc7 BX.out)
 have HLN : Sd (LnsOk mt.length L) := ⟨hLd ▸ lns_ok H.out⟩
 have hR5 : Rows5 A0 A1 A2 A3 A9 l0 mt l2 l3 L W2 := ⟨Kd.C_below HR.out.1 HB.out, Kd.C_below HR.out.2.1 HB.out, Kd.C_below HR.out.2.2.1 HB.out, Kd.C_below HR.out.2.2.2 HB.out, LN.out.2⟩
 have HR5 := Sd.mk hR5
 have BR2 := BR
 clear hR5
 go_upto_region 6 with (first | (go_at_call 94; (refine (climbed_calls A0 A1 A2 A3 A9 c0 c1 c2 c3 c9 l0 mt l2 l3 b4 b5 b6 L H.out 0 HLN.out (by omega) h00 h01 h02 h03 LN.out.1 W2 HR5.out).mono ?_); rintro e Wc ⟨Sa, wsa, rfl, hS, hI, hB, hm, hb⟩; have HC := Sd.mk (And.intro hS (And.intro hI (And.intro hB (And.intro hm hb)))); clear hS hI hB hm hb) | ((with_reducible refine gate_dst (N := 6) rfl ?_); refine box_event ?hg (N := 6) ?hd (cs := #[.int .i64 0, .slice none 0 0]) (t := 32) ?hr ?_; (case hd => rfl); (case hg => rfl); (case hr => first | (go_simp; done) | (go_simp; rfl)); intro ga hg wm hbox hb; have z0 : wm.cell? ⟨ga, 0, none⟩ = some (.int .i64 0) := (blk_cell hbox 0).trans rfl; have z1 : wm.cell? ⟨ga, 1, none⟩ = some (.slice none 0 0) := (blk_cell hbox 1).trans rfl; have y0 := blk_frozen hbox 0; have y1 := blk_frozen hbox 1; have HG := Sd.mk hg; have HBX := Sd.mk hbox; have HBM := Sd.mk hb; clear hg hbox hb))
 clear g0 g1 g2 g3 g4 g5 g6
 clear z0 z1 y0 y1
 refine wp_any (fun W => W.heap[ga]? = some (.cells #[.int .i64 0, .slice (some ⟨Sa, 0, none⟩) L.length L.length] 32 (0, 0)) ∧ IntsAt W Sa L.length wsa ∧ Below W2.heap.size W2 W ∧ Sa ≠ ga ∧ W2.heap.size ≤ ga ∧ W2.heap.size ≤ Sa) ⟨blk_put (blk_put HBX.out 0 _ rfl) 1 _ rfl, ?_, ?_, ?_, ?_, HC.out.1⟩ ?_
 ·have hne : ∀ k, k = Sa → k ≠ ga := fun k hk => by rw [hk, HG.out]; exact Nat.ne_of_lt HC.out.2.1.lt
  have h1 := HC.out.2.1.below (KeepHi.of_below HBM.out)
  exact ⟨h1.1, Kd.R_far (p := ⟨ga, 1, none⟩) (Kd.R_far (p := ⟨ga, 0, none⟩) h1.2 hne _) hne _⟩
 ·have hg : W2.heap.size ≤ ga := by rw [HG.out]; exact HC.out.2.2.2.2.size
  exact ((HC.out.2.2.2.2.trans (HBM.out.mono HC.out.2.2.2.2.size)).setCell (p := ⟨ga, 0, none⟩) hg _).setCell (p := ⟨ga, 1, none⟩) hg _
 ·rw [HG.out]; exact Nat.ne_of_lt HC.out.2.1.lt
 ·rw [HG.out]; exact HC.out.2.2.2.2.size
 rintro W3 ⟨bq, hi, hb, hne, hge, hgs⟩
 have HBa := Sd.mk (And.intro HC.out.2.2.1 HC.out.2.2.2.1)
 have HPa := Sd.mk (And.intro bq (And.intro hi (And.intro hne (And.intro hge hgs))))
 clear HG HBX HBM HC bq hi hne hge hgs
 replace BX := Sd.mk (blk_below BX.out hb)
 replace BR := Sd.mk (blk_below BR.out hb)
 replace HB := Sd.mk (below_then HB.out HB.out.size hb)
 have HR3 := Sd.mk (HR5.out.below hb)
 clear hb
 obtain ⟨g0, g1, g2, g3, g4, g5, g6, _⟩ := bc7 BX.out
 have gac0 : W3.cell? ⟨ga, 0, none⟩ = some (.int .i64 0) := (blk_cell HPa.out.1 0).trans rfl
 have gac1 : W3.cell? ⟨ga, 1, none⟩ = some (.slice (some ⟨Sa, 0, none⟩) L.length L.length) := (blk_cell HPa.out.1 1).trans rfl
 have HL := Sd.mk (least_call A0 A1 A2 A3 A9 c0 c1 c2 c3 c9 l0 mt l2 l3 b4 b5 b6 L H.out h00 h01 h02 h03 LN.out.1 0 Sa wsa W3 HR3.out HPa.out.2.1 HBa.out.1)
 by_cases hpos : 0 < bdV mt L 0 wsa
 ·have hdp : decide (0 < bdV mt L 0 wsa) = true := decide_eq_true hpos
  have HPOS := Sd.mk hpos
  clear hpos
  go_upto_region 7 with (go_at_call 95; (refine HL.out.mono ?_); rintro e W4 ⟨rfl, hb⟩; have HB4 := Sd.mk hb; clear hb)
  clear g0 g1 g2 g3 g4 g5 g6
  clear gac0 gac1
  replace BX := Sd.mk (blk_below BX.out HB4.out)
  replace BR := Sd.mk (blk_below BR.out HB4.out)
  replace HB := Sd.mk (below_then HB.out HB.out.size HB4.out)
  have gac0 : W4.cell? ⟨ga, 0, none⟩ = some (.int .i64 0) := (blk_cell (blk_below HPa.out.1 HB4.out) 0).trans rfl
  have gac1 : W4.cell? ⟨ga, 1, none⟩ = some (.slice (some ⟨Sa, 0, none⟩) L.length L.length) := (blk_cell (blk_below HPa.out.1 HB4.out) 1).trans rfl
  have r0 : W4.cell? ⟨w.heap.size + 1, 0, none⟩ = some (.int .i64 0) := (blk_cell BR.out 0).trans rfl
  have r1 : W4.cell? ⟨w.heap.size + 1, 1, none⟩ = some (.slice none 0 0) := (blk_cell BR.out 1).trans rfl
  have f0 := blk_frozen BR.out 0
  have f1 := blk_frozen BR.out 1
  go_wp2
  have e0 := (blk_cell (blk_put (blk_put BR.out 0 (.int .i64 0) rfl) 1 (.slice (some ⟨Sa, 0, none⟩) L.length L.length) rfl) 0).trans rfl
  have e1 := (blk_cell (blk_put (blk_put BR.out 0 (.int .i64 0) rfl) 1 (.slice (some ⟨Sa, 0, none⟩) L.length L.length) rfl) 1).trans rfl
  refine bodyPost_ret (v := .tuple #[.agg #[.int .i64 0, .slice (some ⟨Sa, 0, none⟩) L.length L.length], .int .i64 0]) (by simp [results, Tryz.results33, e0, e1, go_sem, hu32]) rfl ?_
  refine ⟨(HB.out.setCell (p := ⟨w.heap.size + 1, 0, none⟩) (Nat.le_succ _) _).setCell (p := ⟨w.heap.size + 1, 1, none⟩) (Nat.le_succ _) _, ?_⟩
  refine Or.inr ⟨HZ.out, 0, Sa, wsa, rfl, ?_, HBa.out.1, HBa.out.2, fun _ => HPOS.out⟩
  have hlt : w.heap.size + 1 < Sa := Nat.lt_of_lt_of_le (blk_lt BR2.out) HPa.out.2.2.2.2
  have hne : ∀ k, k = Sa → k ≠ w.heap.size + 1 := fun k hk => by rw [hk]; exact (Nat.ne_of_lt hlt).symm
  have h1 := HPa.out.2.1.below (KeepHi.of_below HB4.out)
  exact ⟨h1.1, Kd.R_far (p := ⟨w.heap.size + 1, 1, none⟩) (Kd.R_far (p := ⟨w.heap.size + 1, 0, none⟩) h1.2 hne _) hne _⟩
 have hdp : decide (0 < bdV mt L 0 wsa) = false := decide_eq_false hpos
 clear hpos
 go_upto_region 8 with (go_at_call 95; (refine HL.out.mono ?_); rintro e W4 ⟨rfl, hb⟩; have HB4 := Sd.mk hb; clear hb)
 clear g0 g1 g2 g3 g4 g5 g6
 clear gac0 gac1 HPa HBa HL hdp
 replace BX := Sd.mk (blk_below BX.out HB4.out)
 replace BR := Sd.mk (blk_below BR.out HB4.out)
 replace HB := Sd.mk (below_then HB.out HB.out.size HB4.out)
 have HR4 := Sd.mk (HR3.out.below HB4.out)
 clear HB4 HR5 HR3
 obtain ⟨g0, g1, g2, g3, g4, g5, g6, _⟩ := bc7 BX.out
 go_upto_region 9 with (first | (go_at_call 94; (refine (climbed_calls A0 A1 A2 A3 A9 c0 c1 c2 c3 c9 l0 mt l2 l3 b4 b5 b6 L H.out 1 HLN.out (by omega) h00 h01 h02 h03 LN.out.1 W4 HR4.out).mono ?_); rintro e Wc ⟨So, wso, rfl, hS, hI, hB, hm, hb⟩; have HC := Sd.mk (And.intro hS (And.intro hI (And.intro hB (And.intro hm hb)))); clear hS hI hB hm hb) | ((with_reducible refine gate_dst (N := 7) rfl ?_); refine box_event ?hg (N := 7) ?hd (cs := #[.int .i64 0, .slice none 0 0]) (t := 32) ?hr ?_; (case hd => rfl); (case hg => rfl); (case hr => first | (go_simp; done) | (go_simp; rfl)); intro go hg wm hbox hb; have z0 : wm.cell? ⟨go, 0, none⟩ = some (.int .i64 0) := (blk_cell hbox 0).trans rfl; have z1 : wm.cell? ⟨go, 1, none⟩ = some (.slice none 0 0) := (blk_cell hbox 1).trans rfl; have y0 := blk_frozen hbox 0; have y1 := blk_frozen hbox 1; have HG := Sd.mk hg; have HBX := Sd.mk hbox; have HBM := Sd.mk hb; clear hg hbox hb))
 clear g0 g1 g2 g3 g4 g5 g6
 clear z0 z1 y0 y1
 refine wp_any (fun W => W.heap[go]? = some (.cells #[.int .i64 1, .slice (some ⟨So, 0, none⟩) L.length L.length] 32 (0, 0)) ∧ IntsAt W So L.length wso ∧ Below W4.heap.size W4 W ∧ So ≠ go ∧ W4.heap.size ≤ go ∧ W4.heap.size ≤ So) ⟨blk_put (blk_put HBX.out 0 _ rfl) 1 _ rfl, ?_, ?_, ?_, ?_, HC.out.1⟩ ?_
 ·have hne : ∀ k, k = So → k ≠ go := fun k hk => by rw [hk, HG.out]; exact Nat.ne_of_lt HC.out.2.1.lt
  have h1 := HC.out.2.1.below (KeepHi.of_below HBM.out)
  exact ⟨h1.1, Kd.R_far (p := ⟨go, 1, none⟩) (Kd.R_far (p := ⟨go, 0, none⟩) h1.2 hne _) hne _⟩
 ·have hg : W4.heap.size ≤ go := by rw [HG.out]; exact HC.out.2.2.2.2.size
  exact ((HC.out.2.2.2.2.trans (HBM.out.mono HC.out.2.2.2.2.size)).setCell (p := ⟨go, 0, none⟩) hg _).setCell (p := ⟨go, 1, none⟩) hg _
 ·rw [HG.out]; exact Nat.ne_of_lt HC.out.2.1.lt
 ·rw [HG.out]; exact HC.out.2.2.2.2.size
 rintro W5 ⟨bq, hi, hb, hne, hge, hgs⟩
 have HBo := Sd.mk (And.intro HC.out.2.2.1 HC.out.2.2.2.1)
 have HPo := Sd.mk (And.intro bq (And.intro hi (And.intro hne (And.intro hge hgs))))
 clear HG HBX HBM HC bq hi hne hge hgs
 have BR5 := Sd.mk (blk_lt BR.out)
 replace BX := Sd.mk (blk_below BX.out hb)
 replace BR := Sd.mk (blk_below BR.out hb)
 have HB4 := HB
 replace HB := Sd.mk (below_then HB.out HB.out.size hb)
 have HB45 := Sd.mk (And.intro hb HPo.out.2.2.2.1)
 clear hb
 have HGO := Sd.mk (show w.heap.size + 1 < go ∧ w.heap.size < go from by have := BR5.out; have := HPo.out.2.2.2.1; omega)
 go_wp2
 go_loopg [32] 2 (fun kq v32 W' => ∃ (j : Nat) (D : Int) (S : Nat) (ws : List Int), v32 = .int .i64 (j : Int) ∧ Sd (j + kq = 2 ∧ (1 ≤ D ∧ D ≤ 1000000) ∧ BdOk mt.length L D ws ∧ bdV mt L D (List.replicate L.length 0) ≤ bdV mt L D ws ∧ W'.heap[go]? = some (.cells #[.int .i64 D, .slice (some ⟨S, 0, none⟩) L.length L.length] 32 (0, 0)) ∧ IntsAt W' S L.length ws ∧ (S ≠ go ∧ w.heap.size + 1 < S) ∧ Near go W5 W'))
 case atStart => exact ⟨0, 1, So, wso, by simp, ⟨by omega, by omega, HBo.out.1, HBo.out.2, HPo.out.1, HPo.out.2.1, ⟨HPo.out.2.2.1, by have := BR5.out; have := HPo.out.2.2.2.2; omega⟩, Near.refl _ _⟩⟩
 case round =>
  clear HPo HBo
  obtain ⟨j, D, S, ws, rfl, HI⟩ := hrel
  have hNR := HI.out.2.2.2.2.2.2.2
  have HBr : Sd (Below w.heap.size w wr) := ⟨below_near HB.out hNR (Nat.le_of_lt HGO.out.2)⟩
  have BXr := Sd.mk (hNR.blk BX.out (Nat.ne_of_lt HGO.out.2))
  have BRr := Sd.mk (hNR.blk BR.out (Nat.ne_of_lt HGO.out.1))
  have HRr : Sd (Rows5 A0 A1 A2 A3 A9 l0 mt l2 l3 L wr) := ⟨HR4.out.below (below_near HB45.out.1 hNR HB45.out.2)⟩
  clear hNR
  cases gk with
  | zero =>
   have hj : j = 2 := by have := HI.out.1; omega
   subst hj
   clear BX BR HB
   have BX := BXr
   have BR := BRr
   have HB := HBr
   have goc0 : wr.cell? ⟨go, 0, none⟩ = some (.int .i64 D) := (blk_cell HI.out.2.2.2.2.1 0).trans rfl
   have goc1 : wr.cell? ⟨go, 1, none⟩ = some (.slice (some ⟨S, 0, none⟩) L.length L.length) := (blk_cell HI.out.2.2.2.2.1 1).trans rfl
   have r0 : wr.cell? ⟨w.heap.size + 1, 0, none⟩ = some (.int .i64 0) := (blk_cell BR.out 0).trans rfl
   have r1 : wr.cell? ⟨w.heap.size + 1, 1, none⟩ = some (.slice none 0 0) := (blk_cell BR.out 1).trans rfl
   have f0 := blk_frozen BR.out 0
   have f1 := blk_frozen BR.out 1
   go_wp2
   have e0 := (blk_cell (blk_put (blk_put BR.out 0 (.int .i64 D) rfl) 1 (.slice (some ⟨S, 0, none⟩) L.length L.length) rfl) 0).trans rfl
   have e1 := (blk_cell (blk_put (blk_put BR.out 0 (.int .i64 D) rfl) 1 (.slice (some ⟨S, 0, none⟩) L.length L.length) rfl) 1).trans rfl
   refine bodyPost_ret (v := .tuple #[.agg #[.int .i64 D, .slice (some ⟨S, 0, none⟩) L.length L.length], .int .i64 0]) (by simp [results, Tryz.results33, e0, e1, go_sem, hu32]) rfl ?_
   refine ⟨(HB.out.setCell (p := ⟨w.heap.size + 1, 0, none⟩) (Nat.le_succ _) _).setCell (p := ⟨w.heap.size + 1, 1, none⟩) (Nat.le_succ _) _, ?_⟩
   refine Or.inr ⟨HZ.out, D, S, rfl, ws, ?_, HI.out.2.2.1, HI.out.2.2.2.1, fun h => by have := HI.out.2.1; omega⟩
   have hne : ∀ k, k = S → k ≠ w.heap.size + 1 := fun k hk => by rw [hk]; exact (Nat.ne_of_lt HI.out.2.2.2.2.2.2.1.2).symm
   have h1 := HI.out.2.2.2.2.2.1
   exact ⟨h1.1, Kd.R_far (p := ⟨w.heap.size + 1, 1, none⟩) (Kd.R_far (p := ⟨w.heap.size + 1, 0, none⟩) h1.2 hne _) hne _⟩
  | succ kj =>
   have hj2 : j < 2 := by have := HI.out.1; omega
   obtain ⟨c, hc0, hc1, hix⟩ := ks2_ix j hj2
   have hdj : decide ((j : Int) < 2) = true := decide_eq_true (by omega)
   have hwj : wrap64 ((j : Int) + 1) = ((j + 1 : Nat) : Int) := by rw [wrap_id (by omega) (by omega)]; omega
   have HWJ := Sd.mk (And.intro hwj (And.intro hc0 hc1))
   clear hwj hc0 hc1
   have BX0 := BX
   clear BX
   have BX := BXr
   obtain ⟨g0, g1, g2, g3, g4, g5, g6, _⟩ := bc7 BX.out
   go_upto_region 13 with (first | (go_at_call 94; (refine (climbed_calls A0 A1 A2 A3 A9 c0 c1 c2 c3 c9 l0 mt l2 l3 b4 b5 b6 L H.out c HLN.out (by have := HWJ.out; omega) h00 h01 h02 h03 LN.out.1 wr HRr.out).mono ?_); rintro e Wc ⟨Sq, wsq, rfl, hS, hI, hB, hm, hb⟩; have HC := Sd.mk (And.intro hS (And.intro hI (And.intro hB (And.intro hm hb)))); clear hS hI hB hm hb) | ((with_reducible refine gate_dst (N := 10) rfl ?_); refine box_event ?hg (N := 10) ?hd (cs := #[.int .i64 0, .slice none 0 0]) (t := 32) ?hr ?_; (case hd => rfl); (case hg => rfl); (case hr => first | (go_simp; done) | (go_simp; rfl)); intro gq hg wm hbox hb; have z0 : wm.cell? ⟨gq, 0, none⟩ = some (.int .i64 0) := (blk_cell hbox 0).trans rfl; have z1 : wm.cell? ⟨gq, 1, none⟩ = some (.slice none 0 0) := (blk_cell hbox 1).trans rfl; have y0 := blk_frozen hbox 0; have y1 := blk_frozen hbox 1; have HG := Sd.mk hg; have HBX := Sd.mk hbox; have HBM := Sd.mk hb; clear hg hbox hb))
   clear g0 g1 g2 g3 g4 g5 g6
   clear hix hdj
   clear z0 z1 y0 y1
   refine wp_any (fun W => W.heap[gq]? = some (.cells #[.int .i64 c, .slice (some ⟨Sq, 0, none⟩) L.length L.length] 32 (0, 0)) ∧ IntsAt W Sq L.length wsq ∧ Below wr.heap.size wr W ∧ Sq ≠ gq ∧ wr.heap.size ≤ gq ∧ wr.heap.size ≤ Sq) ⟨blk_put (blk_put HBX.out 0 _ rfl) 1 _ rfl, ?_, ?_, ?_, ?_, HC.out.1⟩ ?_
   ·have hne : ∀ k, k = Sq → k ≠ gq := fun k hk => by rw [hk, HG.out]; exact Nat.ne_of_lt HC.out.2.1.lt
    have h1 := HC.out.2.1.below (KeepHi.of_below HBM.out)
    exact ⟨h1.1, Kd.R_far (p := ⟨gq, 1, none⟩) (Kd.R_far (p := ⟨gq, 0, none⟩) h1.2 hne _) hne _⟩
   ·have hg : wr.heap.size ≤ gq := by rw [HG.out]; exact HC.out.2.2.2.2.size
    exact ((HC.out.2.2.2.2.trans (HBM.out.mono HC.out.2.2.2.2.size)).setCell (p := ⟨gq, 0, none⟩) hg _).setCell (p := ⟨gq, 1, none⟩) hg _
   ·rw [HG.out]; exact Nat.ne_of_lt HC.out.2.1.lt
   ·rw [HG.out]; exact HC.out.2.2.2.2.size
   rintro W7 ⟨bq, hi, hb, hne, hge, hgs⟩
   have HBq := Sd.mk (And.intro HC.out.2.2.1 HC.out.2.2.2.1)
   have HPq := Sd.mk (And.intro bq (And.intro hi (And.intro hne (And.intro hge hgs))))
   clear HG HBX HBM HC bq hi hne hge hgs
   have HI7 := Sd.mk (HI.out.2.2.2.2.2.1.below (KeepHi.of_below hb))
   have BQ := Sd.mk HPq.out.1
   have BO := Sd.mk (blk_below HI.out.2.2.2.2.1 hb)
   replace BX := Sd.mk (blk_below BX.out hb)
   have HN7 := Sd.mk (HI.out.2.2.2.2.2.2.2.trans (Near.of_below (Nat.le_of_lt (blk_lt HI.out.2.2.2.2.1)) hb))
   have HR7 := Sd.mk (HRr.out.below hb)
   have HIq := Sd.mk HPq.out.2.1
   have HE := Sd.mk (show gq ≠ go ∧ Sq ≠ go ∧ w.heap.size + 1 < Sq from by have h1 := blk_lt HI.out.2.2.2.2.1; have h2 := HPq.out.2.2.2.1; have h3 := HPq.out.2.2.2.2; have h4 := blk_lt BRr.out; omega)
   clear hb
   refine start_ (n := 14) (S := fun w' => w'.cell? ⟨gq, 0, none⟩ = some (.int .i64 c) ∧ w'.cell? ⟨gq, 1, none⟩ = some (.slice (some ⟨Sq, 0, none⟩) L.length L.length) ∧ w'.cell? ⟨go, 0, none⟩ = some (.int .i64 D) ∧ w'.cell? ⟨go, 1, none⟩ = some (.slice (some ⟨S, 0, none⟩) L.length L.length) ∧ Cs7 w.heap.size w' (.slice A0 l0.length c0) (.slice A1 mt.length c1) (.slice A2 l2.length c2) (.slice A3 l3.length c3) (.int .i64 b4) (.int .i64 b5) (.int .i64 b6)) (ds := []) (bA 14 0) (by kernel_rfl) rfl rfl ⟨(blk_cell (blk_drew BQ.out) 0).trans rfl, (blk_cell (blk_drew BQ.out) 1).trans rfl, (blk_cell (blk_drew BO.out) 0).trans rfl, (blk_cell (blk_drew BO.out) 1).trans rfl, ss7 (blk_drew BX.out)⟩ (fun hHeld => ?_)
   refine with_tabW pv13_tab pv13_bits (fun HT_ HW_ => ?_)
   have BO0 := BO
   have hbd := below_drew1 (Below.refl W7.heap.size W7)
   replace BQ := Sd.mk (blk_drew BQ.out)
   replace BO := Sd.mk (blk_drew BO.out)
   replace BX := Sd.mk (blk_drew BX.out)
   replace HI7 := Sd.mk (HI7.out.below (KeepHi.of_below hbd))
   replace HIq := Sd.mk (HIq.out.below (KeepHi.of_below hbd))
   replace HN7 := Sd.mk (HN7.out.trans (Near.of_below (Nat.le_of_lt (blk_lt BO0.out)) hbd))
   replace HR7 := Sd.mk (HR7.out.below hbd)
   clear hbd BO0
   generalize W7.drew = Wd at BX BQ BO HI7 HIq HN7 HR7 hHeld ⊢
   refine tQ 0 (some 39) (bA 14 1) ?_
   refine pQ 1 (some 40) (bA 14 3) ?_
   refine tQ 2 (some 41) (bA 14 7) ?_
   refine pQ 4 (some 43) (bA 14 23) ?_
   refine tQ 6 (some 45) (bA 14 87) ?_
   refine pQ 7 (some 46) (bA 14 215) ?_
   refine tQ 8 (some 47) (bA 14 471) ?_
   refine pQ 10 (some 49) (bA 14 1495) ?_
   refine tQ 11 (some 50) (bA 14 3543) ?_
   obtain ⟨up, hup, _, _⟩ := up_fl (n := bdV mt L c wsq) (d := c) (by have := HWJ.out; have := HI.out.2.1; omega) (by have := V_bound l0 mt l2 l3 b4 b5 b6 L c wsq H.out HBq.out.1 mt.length (Nat.le_refl _); unfold bdV; omega) (by have := V_bound l0 mt l2 l3 b4 b5 b6 L c wsq H.out HBq.out.1 mt.length (Nat.le_refl _); unfold bdV; omega)
   obtain ⟨uo, huo, _, _⟩ := up_fl (n := bdV mt L D ws) (d := D) (by have := HWJ.out; have := HI.out.2.1; omega) (by have := V_bound l0 mt l2 l3 b4 b5 b6 L D ws H.out HI.out.2.2.1 mt.length (Nat.le_refl _); unfold bdV; omega) (by have := V_bound l0 mt l2 l3 b4 b5 b6 L D ws H.out HI.out.2.2.1 mt.length (Nat.le_refl _); unfold bdV; omega)
   have HUP := Sd.mk hup
   have HUO := Sd.mk huo
   clear hup huo
   refine one_ (i := 3) (N := some 42) (bA 14 3551) rfl rfl (one_of HT_.out (by kernel_rfl)) (by decide) (fun K hK => ?_)
   refine gQ Tryz.func95 #[.agg #[.slice A0 l0.length c0, .slice A1 mt.length c1, .slice A2 l2.length c2, .slice A3 l3.length c3, .int .i64 b4, .int .i64 b5, .int .i64 b6], .slice A9 L.length c9, .agg #[.int .i64 c, .slice (some ⟨Sq, 0, none⟩) L.length L.length]] ?_
   refine (least_call A0 A1 A2 A3 A9 c0 c1 c2 c3 c9 l0 mt l2 l3 b4 b5 b6 L H.out h00 h01 h02 h03 LN.out.1 c Sq wsq _ HR7.out HIq.out HBq.out.1).mono ?_
   rintro e wz ⟨rfl, hb⟩
   refine ⟨_, rfl, ?_⟩
   have BO0 := BO
   replace BQ := Sd.mk (blk_below BQ.out hb)
   replace BO := Sd.mk (blk_below BO.out hb)
   replace BX := Sd.mk (blk_below BX.out hb)
   replace HI7 := Sd.mk (HI7.out.below (KeepHi.of_below hb))
   replace HIq := Sd.mk (HIq.out.below (KeepHi.of_below hb))
   replace HN7 := Sd.mk (HN7.out.trans (Near.of_below (Nat.le_of_lt (blk_lt BO0.out)) hb))
   replace HR7 := Sd.mk (HR7.out.below hb)
   clear hb BO0
   refine hK.out _ _ ⟨(blk_cell BQ.out 0).trans rfl, (blk_cell BQ.out 1).trans rfl, (blk_cell BO.out 0).trans rfl, (blk_cell BO.out 1).trans rfl, ss7 BX.out⟩ (fun hHeld => ?_)
   clear hK K
   refine nQ 42 ?_
   refine one_ (i := 5) (N := some 44) (bA 14 3583) rfl rfl (one_of HT_.out (by kernel_rfl)) (by decide) (fun K hK => ?_)
   refine gQ Tryz.func96 #[.int .i64 (bdV mt L c wsq), .int .i64 c] ?_
   refine (b_up.calls _ _ _ _ HUP.out).mono ?_
   rintro e wz ⟨rfl, hd⟩
   refine ⟨_, rfl, ?_⟩
   have hb := hd.below
   clear hd
   have BO0 := BO
   replace BQ := Sd.mk (blk_below BQ.out hb)
   replace BO := Sd.mk (blk_below BO.out hb)
   replace BX := Sd.mk (blk_below BX.out hb)
   replace HI7 := Sd.mk (HI7.out.below (KeepHi.of_below hb))
   replace HIq := Sd.mk (HIq.out.below (KeepHi.of_below hb))
   replace HN7 := Sd.mk (HN7.out.trans (Near.of_below (Nat.le_of_lt (blk_lt BO0.out)) hb))
   replace HR7 := Sd.mk (HR7.out.below hb)
   clear hb BO0
   refine hK.out _ _ ⟨(blk_cell BQ.out 0).trans rfl, (blk_cell BQ.out 1).trans rfl, (blk_cell BO.out 0).trans rfl, (blk_cell BO.out 1).trans rfl, ss7 BX.out⟩ (fun hHeld => ?_)
   clear hK K
   refine nQ 44 ?_
   refine one_ (i := 9) (N := some 48) (bA 14 4095) rfl rfl (one_of HT_.out (by kernel_rfl)) (by decide) (fun K hK => ?_)
   refine gQ Tryz.func95 #[.agg #[.slice A0 l0.length c0, .slice A1 mt.length c1, .slice A2 l2.length c2, .slice A3 l3.length c3, .int .i64 b4, .int .i64 b5, .int .i64 b6], .slice A9 L.length c9, .agg #[.int .i64 D, .slice (some ⟨S, 0, none⟩) L.length L.length]] ?_
   refine (least_call A0 A1 A2 A3 A9 c0 c1 c2 c3 c9 l0 mt l2 l3 b4 b5 b6 L H.out h00 h01 h02 h03 LN.out.1 D S ws _ HR7.out HI7.out HI.out.2.2.1).mono ?_
   rintro e wz ⟨rfl, hb⟩
   refine ⟨_, rfl, ?_⟩
   have BO0 := BO
   replace BQ := Sd.mk (blk_below BQ.out hb)
   replace BO := Sd.mk (blk_below BO.out hb)
   replace BX := Sd.mk (blk_below BX.out hb)
   replace HI7 := Sd.mk (HI7.out.below (KeepHi.of_below hb))
   replace HIq := Sd.mk (HIq.out.below (KeepHi.of_below hb))
   replace HN7 := Sd.mk (HN7.out.trans (Near.of_below (Nat.le_of_lt (blk_lt BO0.out)) hb))
   replace HR7 := Sd.mk (HR7.out.below hb)
   clear hb BO0
   refine hK.out _ _ ⟨(blk_cell BQ.out 0).trans rfl, (blk_cell BQ.out 1).trans rfl, (blk_cell BO.out 0).trans rfl, (blk_cell BO.out 1).trans rfl, ss7 BX.out⟩ (fun hHeld => ?_)
   clear hK K
   refine nQ 48 ?_
   refine one_ (i := 12) (N := some 51) (bA 14 8191) rfl rfl (one_of HT_.out (by kernel_rfl)) (by decide) (fun K hK => ?_)
   refine gQ Tryz.func96 #[.int .i64 (bdV mt L D ws), .int .i64 D] ?_
   refine (b_up.calls _ _ _ _ HUO.out).mono ?_
   rintro e wz ⟨rfl, hd⟩
   refine ⟨_, rfl, ?_⟩
   have hb := hd.below
   clear hd
   have BO0 := BO
   replace BQ := Sd.mk (blk_below BQ.out hb)
   replace BO := Sd.mk (blk_below BO.out hb)
   replace BX := Sd.mk (blk_below BX.out hb)
   replace HI7 := Sd.mk (HI7.out.below (KeepHi.of_below hb))
   replace HIq := Sd.mk (HIq.out.below (KeepHi.of_below hb))
   replace HN7 := Sd.mk (HN7.out.trans (Near.of_below (Nat.le_of_lt (blk_lt BO0.out)) hb))
   replace HR7 := Sd.mk (HR7.out.below hb)
   clear hb BO0
   refine hK.out _ _ ⟨(blk_cell BQ.out 0).trans rfl, (blk_cell BQ.out 1).trans rfl, (blk_cell BO.out 0).trans rfl, (blk_cell BO.out 1).trans rfl, ss7 BX.out⟩ (fun hHeld => ?_)
   clear hK K
   refine nQ 51 ?_
   refine pQ 13 (some 52) (bA 14 16383) ?_
   refine done_ (done_of HT_.out (by kernel_rfl)) ?_
   clear hHeld
   have oc0 : wz.cell? ⟨go, 0, none⟩ = some (.int .i64 D) := (blk_cell BO.out 0).trans rfl
   have oc1 : wz.cell? ⟨go, 1, none⟩ = some (.slice (some ⟨S, 0, none⟩) L.length L.length) := (blk_cell BO.out 1).trans rfl
   have of0 := blk_frozen BO.out 0
   have of1 := blk_frozen BO.out 1
   have gqc0 : wz.cell? ⟨gq, 0, none⟩ = some (.int .i64 c) := (blk_cell BQ.out 0).trans rfl
   have gqc1 : wz.cell? ⟨gq, 1, none⟩ = some (.slice (some ⟨Sq, 0, none⟩) L.length L.length) := (blk_cell BQ.out 1).trans rfl
   by_cases hgt : uo < up
   ·have hdg : decide (uo < up) = true := decide_eq_true hgt
    go_wp2
    go_roundg kj
    case measure => exact Nat.lt_succ_self _
    case rel => exact ⟨j + 1, c, Sq, wsq, by first | rw [HWJ.out.1] | rfl | (push_cast; rfl), ⟨by have := HI.out.1; omega, HWJ.out.2, HBq.out.1, HBq.out.2, blk_put (blk_put BO.out 0 _ rfl) 1 _ rfl, ⟨HIq.out.1, Kd.R_far (p := ⟨go, 1, none⟩) (Kd.R_far (p := ⟨go, 0, none⟩) HIq.out.2 (fun k hk => by rw [hk]; exact HE.out.2.1) _) (fun k hk => by rw [hk]; exact HE.out.2.1) _⟩, ⟨HE.out.2.1, HE.out.2.2⟩, (HN7.out.trans (Near.set _ 0 _)).trans (Near.set _ 1 _)⟩⟩
   ·have hdg : decide (uo < up) = false := decide_eq_false hgt
    go_wp2
    go_roundg kj
    case measure => exact Nat.lt_succ_self _
    case rel => exact ⟨j + 1, D, S, ws, by first | rw [HWJ.out.1] | rfl | (push_cast; rfl), ⟨by have := HI.out.1; omega, HI.out.2.1, HI.out.2.2.1, HI.out.2.2.2.1, BO.out, HI7.out, HI.out.2.2.2.2.2.2.1, HN7.out⟩⟩
end
section
theorem out_any {y : List Int} (h : y.any (outside 0 1000) = false) (j : Nat) (hj : j < y.length) : 0 ≤ rd y (j : Int) ∧ rd y (j : Int) ≤ 1000 := by
 have hm : rd y (j : Int) ∈ y := by
  have : rd y (j : Int) = y[j] := by simp [rd, hj]
  rw [this]; exact List.getElem_mem hj
 have hn : outside 0 1000 (rd y (j : Int)) = false := by
  cases ho : outside 0 1000 (rd y (j : Int)) with
  | false => rfl
  | true => rw [List.any_eq_true.mpr ⟨_, hm, ho⟩] at h; cases h
 simp [outside] at hn; omega
section
variable (o : List ByteArray) (mt : List S70) (s : List S27) (p : List S89) (a4 a5 a6 : Int) (L : List S168) (D : Int) (y : List Int)
theorem up_eq (H : BatchOk o mt s p a4 a5 a6) (B : BdOk mt.length L D y) (hD : D ≠ 0) : b_up.f (bdV mt L D y) D = some (upV D (bdV mt L D y)) ∧ (upV D (bdV mt L D y) - 1) * D < bdV mt L D y ∧ bdV mt L D y ≤ upV D (bdV mt L D y) * D := by
 have hV := V_bound o mt s p a4 a5 a6 L D y H B mt.length (Nat.le_refl _)
 have hd := B.d
 obtain ⟨v, e1, e2, e3⟩ := up_fl (n := bdV mt L D y) (d := D) (by omega) (by unfold bdV; omega) (by unfold bdV; omega)
 have e : upV D (bdV mt L D y) = v := by unfold upV; rw [e1]; rfl
 rw [e]
 exact ⟨e1, e2, e3⟩
theorem bound_j0 (H : BatchOk o mt s p a4 a5 a6) (B : BdOk mt.length L D y) : Ev (fun k => b_Bound.j0 k L false o mt s p a4 a5 a6 D y) (bndV mt L D y) := by
 have h := least_l0 o mt s p a4 a5 a6 L D y H B L.length 0 (by omega)
 apply Ev.step
 simp only [b_Bound.j0, Bool.false_eq_true, if_false]
 unfold b_least.f
 refine Ev.bind h ?_
 unfold bndV
 by_cases hD : D = 0
 ·simp only [if_pos hD]; exact Ev.const _
 ·simp only [if_neg hD, (up_eq o mt s p a4 a5 a6 L D y H B hD).1, Option.bind_some]; exact Ev.const _
end
section
variable (o : List ByteArray) (mt : List S70) (s : List S27) (p : List S89) (a4 a5 a6 : Int) (D : Int) (y : List Int)
def boundR : Int × Bool × Int :=
 if checkV o mt s p a4 a5 a6 = 0 then
  (if (0 ≤ D ∧ D ≤ 1000000) ∧ y.length = (linesV mt s p a4 a5 a6).length ∧ y.any (outside 0 1000) = false then bndV mt (linesV mt s p a4 a5 a6) D y else (0, false, 1))
 else (0, false, checkV o mt s p a4 a5 a6)
theorem bd_ok (H : BatchOk o mt s p a4 a5 a6) (h : (0 ≤ D ∧ D ≤ 1000000) ∧ y.length = (linesV mt s p a4 a5 a6).length ∧ y.any (outside 0 1000) = false) : BdOk mt.length (linesV mt s p a4 a5 a6) D y := by
 have h1 := H.slen; have h2 := H.o12; have h3 := H.p6
 refine ⟨by rw [linesV_len]; omega, fun j hj => ?_, h.1, h.2.1, fun j hj => out_any h.2.2 j (by rw [h.2.1]; exact hj)⟩
 have e : rd_T168 (linesV mt s p a4 a5 a6) (j : Int) = (linesV mt s p a4 a5 a6)[j] := by simp [rd_T168, List.getD, hj]
 rw [e]
 exact lines_ln H _ (List.getElem_mem hj)
theorem jb_true (L : List S168) : Ev (fun k => b_Bound.j0 k L true o mt s p a4 a5 a6 D y) (0, false, 1) := by
 apply Ev.step
 simp only [b_Bound.j0, if_true]
 exact Ev.const _
theorem bBound : Ev (fun k => b_Bound.f k o mt s p a4 a5 a6 D y) (boundR o mt s p a4 a5 a6 D y) := by
 unfold b_Bound.f boundR
 refine Ev.bind (bcheck o mt s p a4 a5 a6) ?_
 by_cases hc : checkV o mt s p a4 a5 a6 = 0
 ·have H := check_ok hc
  simp only [if_pos hc, x_lines.f, Option.bind_some, b_within.f, x_weights.f]
  by_cases hd : D ≥ 0
  ·by_cases hd2 : D ≤ 1000000
   ·simp only [if_pos hd, decide_eq_true hd2, Option.bind_some, if_true]
    by_cases hl : (y.length : Int) = ((linesV mt s p a4 a5 a6).length : Int)
    ·simp only [if_pos hl]
     cases hw : y.any (outside 0 1000) with
     | true =>
      rw [if_neg (fun h => by cases h.2.2)]
      exact jb_true o mt s p a4 a5 a6 D y _
     | false =>
      have hall : (0 ≤ D ∧ D ≤ 1000000) ∧ y.length = (linesV mt s p a4 a5 a6).length ∧ y.any (outside 0 1000) = false := ⟨⟨hd, hd2⟩, by omega, hw⟩
      rw [if_pos ⟨⟨hd, hd2⟩, by omega, rfl⟩]
      exact bound_j0 o mt s p a4 a5 a6 _ D y H (bd_ok o mt s p a4 a5 a6 D y H hall)
    ·rw [if_neg (fun h => hl (by rw [h.2.1]))]
     simp only [if_neg hl]
     exact jb_true o mt s p a4 a5 a6 D y _
   ·rw [if_neg (show ¬ ((0 ≤ D ∧ D ≤ 1000000) ∧ y.length = (linesV mt s p a4 a5 a6).length ∧ y.any (outside 0 1000) = false) from fun h => hd2 h.1.2)]
    simp only [if_pos hd, decide_eq_false hd2, Option.bind_some, Bool.false_eq_true, if_false]
    exact jb_true o mt s p a4 a5 a6 D y _
  ·rw [if_neg (show ¬ ((0 ≤ D ∧ D ≤ 1000000) ∧ y.length = (linesV mt s p a4 a5 a6).length ∧ y.any (outside 0 1000) = false) from fun h => hd h.1.1)]
   simp only [if_neg hd, Option.bind_some, Bool.false_eq_true, if_false]
   exact jb_true o mt s p a4 a5 a6 D y _
 ·simp only [if_neg hc]; exact Ev.const _
theorem boundR_ok (H : BatchOk o mt s p a4 a5 a6) (hc : checkV o mt s p a4 a5 a6 = 0) (B : BdOk mt.length (linesV mt s p a4 a5 a6) D y) : boundR o mt s p a4 a5 a6 D y = bndV mt (linesV mt s p a4 a5 a6) D y := by
 unfold boundR
 rw [if_pos hc, if_pos]
 refine ⟨B.d, B.len, ?_⟩
 rw [Bool.eq_false_iff]
 intro h
 obtain ⟨x, hx, ho⟩ := List.any_eq_true.1 h
 obtain ⟨j, hj, rfl⟩ := List.getElem_of_mem hx
 have h1 := B.y j (by rw [← B.len]; exact hj)
 have e : rd y (j : Int) = y[j] := by simp [rd, hj]
 rw [e] at h1
 simp [outside] at ho
 omega
theorem bound_fact (r : List Int) (hj : (boundR o mt s p a4 a5 a6 D y).2.2 = 0) (hr : RecOk mt r) (hm : mayL mt r mt.length 0 = true) (hp : passB mt s p a4 a5 a6 r = true) :
  (boundR o mt s p a4 a5 a6 D y).2.1 = false ∧ (0 < D → (boundR o mt s p a4 a5 a6 D y).1 ≤ cW mt r mt.length) := by
 unfold boundR at hj ⊢
 by_cases hc : checkV o mt s p a4 a5 a6 = 0
 ·rw [if_pos hc] at hj ⊢
  by_cases h : (0 ≤ D ∧ D ≤ 1000000) ∧ y.length = (linesV mt s p a4 a5 a6).length ∧ y.any (outside 0 1000) = false
  ·rw [if_pos h]
   have H := check_ok hc
   have B := bd_ok o mt s p a4 a5 a6 D y H h
   have hd := dual o mt s p a4 a5 a6 r H (linesV mt s p a4 a5 a6) D y (fun j hj => (B.y j hj).1) hr hm (fun x hx => (lines_ok H x hx).len) hp
   unfold bndV
   by_cases hD : D = 0
   ·rw [if_pos hD]
    refine ⟨decide_eq_false ?_, fun h => by omega⟩
    rw [hD, Int.zero_mul] at hd
    rw [hD]; omega
   ·rw [if_neg hD]
    have hu := up_eq o mt s p a4 a5 a6 _ D y H B hD
    exact ⟨rfl, fun h => up_le h hu.2.1 hd⟩
  ·rw [if_neg h] at hj; simp at hj
 ·rw [if_neg hc] at hj; exact absurd hj hc
def leastS (mt : List S70) (i : Nat) : Int := sumTo (fun j => (rd_T70 mt (j : Int)).f1 * (rd_T70 mt (j : Int)).f3) i
theorem leastS_at (H : BatchOk o mt s p a4 a5 a6) (j : Nat) (hj : j < mt.length) : 0 ≤ (rd_T70 mt (j : Int)).f1 * (rd_T70 mt (j : Int)).f3 ∧ (rd_T70 mt (j : Int)).f1 * (rd_T70 mt (j : Int)).f3 ≤ 100000000 := by
 have q := (H.mats j hj).price
 have k := (H.mats j hj).least
 have e1 := Int.mul_nonneg q.1 k.1
 have e2 := Int.mul_le_mul_of_nonneg_right q.2 k.1
 omega
theorem leastS_bd (H : BatchOk o mt s p a4 a5 a6) (i : Nat) (hi : i ≤ mt.length) : -1200000000 ≤ leastS mt i ∧ leastS mt i ≤ 1200000000 := by
 have h := sumTo_bound (f := fun j => (rd_T70 mt (j : Int)).f1 * (rd_T70 mt (j : Int)).f3) (M := 100000000) (n := mt.length) (fun j hj => by have := leastS_at o mt s p a4 a5 a6 H j hj; omega) i hi
 have := H.m12
 unfold leastS
 omega
theorem bd_zero (H : BatchOk o mt s p a4 a5 a6) (L : List S168) (hD : 0 ≤ D) : bdV mt L D (List.replicate L.length 0) = D * leastS mt mt.length := by
 have h1 : tbS L (List.replicate L.length 0) L.length = 0 := by
  unfold tbS
  rw [sumTo_eq (g := fun _ => (0 : Int)) _ (fun j hj => by simp [rd, hj])]
  exact sumTo_zero _
 unfold bdV leastS
 rw [h1, Int.zero_add, ← sumTo_mul9]
 refine sumTo_eq _ fun i hi => ?_
 have M := H.mats i hi
 have hc : cS_ mt L D (List.replicate L.length 0) i L.length = D * (rd_T70 mt (i : Int)).f1 := by
  unfold cS_
  rw [sumTo_eq (g := fun _ => (0 : Int)) _ (fun j hj => by simp [rd, hj]), sumTo_zero]
  omega
 unfold gM
 rw [hc, Int.mul_assoc]
 have hm := most_eq M
 have h0 := Int.mul_nonneg hD M.price.1
 have e := Int.mul_le_mul_of_nonneg_left hm.1 h0
 rw [Int.mul_assoc] at e
 unfold mn
 split <;> omega
theorem proved_least (H : BatchOk o mt s p a4 a5 a6) (hc : checkV o mt s p a4 a5 a6 = 0) (B : BdOk mt.length (linesV mt s p a4 a5 a6) D y) (hz : bdV mt (linesV mt s p a4 a5 a6) D (List.replicate (linesV mt s p a4 a5 a6).length 0) ≤ bdV mt (linesV mt s p a4 a5 a6) D y) (hD : 0 < D) : leastS mt mt.length ≤ (boundR o mt s p a4 a5 a6 D y).1 := by
 rw [boundR_ok o mt s p a4 a5 a6 D y H hc B]
 unfold bndV
 rw [if_neg (by omega)]
 have hu := up_eq o mt s p a4 a5 a6 _ D y H B (by omega)
 rw [bd_zero o mt s p a4 a5 a6 D H _ (by omega)] at hz
 exact le_up hD hu.2.2 hz
theorem proved_ok (H : BatchOk o mt s p a4 a5 a6) (hc : checkV o mt s p a4 a5 a6 = 0) (B : BdOk mt.length (linesV mt s p a4 a5 a6) D y) : (boundR o mt s p a4 a5 a6 D y).2.2 = 0 := by
 rw [boundR_ok o mt s p a4 a5 a6 D y H hc B]
 unfold bndV
 split <;> rfl
end
end
section
section
variable (o : List ByteArray) (mt : List S70) (s : List S27) (p : List S89) (a4 a5 a6 : Int) (r : List Int)
theorem best_fact (h0 : (BestV o mt s p a4 a5 a6).2.2.2 = 0) (h1 : (BestV o mt s p a4 a5 a6).2.2.1 = true) : ∃ r, RecOk mt r ∧ mayL mt r mt.length 0 = true ∧ passB mt s p a4 a5 a6 r = true ∧ (BestV o mt s p a4 a5 a6).2.1 = cW mt r mt.length := by
 unfold BestV at h0 h1 ⊢
 by_cases hc : checkV o mt s p a4 a5 a6 = 0
 ·rw [if_pos hc] at h0 h1 ⊢
  by_cases hf : fewW mt mt.length 0 1 = true
  ·rw [if_pos hf] at h1 ⊢
   have Q := best_q mt s p a4 a5 a6
   obtain ⟨h2, h3, L1, L2, h4, _, _⟩ := Q.yes h1
   have HM := mats_b (check_ok hc)
   have hm : (bestV mt s p a4 a5 a6).1 ∈ allR mt := by rw [h4]; simp
   exact ⟨_, allR_rec mt HM _ hm, ((allowed_iff HM _).1 hm).2, h2, h3⟩
  ·rw [if_neg hf] at h1; cases h1
 ·rw [if_neg hc] at h0; exact absurd h0 hc
theorem own_fact (h0 : (PassV o mt s p a4 a5 a6 r).2 = 0) (h1 : (PassV o mt s p a4 a5 a6 r).1 = true) (h2 : (MayV o mt s p a4 a5 a6 r).1 = true) : RecOk mt r ∧ mayL mt r mt.length 0 = true ∧ passB mt s p a4 a5 a6 r = true ∧ (CostV o mt s p a4 a5 a6 r).1 = cW mt r mt.length := by
 unfold PassV at h0 h1
 unfold MayV at h2
 unfold CostV
 by_cases ha : askV o mt s p a4 a5 a6 r = 0
 ·rw [if_pos ha] at h1 h2 ⊢
  exact ⟨(ask_ok ha).2, h2, h1, rfl⟩
 ·rw [if_neg ha] at h0; exact absurd h0 ha
theorem leastS_wrap (H : BatchOk o mt s p a4 a5 a6) (k : Nat) (hk : k < mt.length) : wrap64 (leastS mt k + wrap64 ((rd_T70 mt (k : Int)).f1 * (rd_T70 mt (k : Int)).f3)) = leastS mt (k + 1) := by
 have hla := leastS_at o mt s p a4 a5 a6 H k hk
 have hlb := leastS_bd o mt s p a4 a5 a6 H (k + 1) hk
 have e : leastS mt (k + 1) = leastS mt k + (rd_T70 mt (k : Int)).f1 * (rd_T70 mt (k : Int)).f3 := rfl
 rw [wrap_id (x := (rd_T70 mt (k : Int)).f1 * (rd_T70 mt (k : Int)).f3) (by omega) (by omega), ← e, wrap_id (by omega) (by omega)]
theorem wrap_idx {k n : Nat} (hk : k < n) (hn : n ≤ 1000) : wrap64 ((k : Int) + 1) = ((k + 1 : Nat) : Int) := by rw [wrap_id (by omega) (by omega)]; omega
end
def pl17T : Bool × List (List Nat × List Nat) := (true, [([], []), ([], []), ([1], [1]), ([], []), ([2, 3], [2, 3]), ([4], [4]), ([5], [5]), ([], []), ([7], [7]), ([], []), ([8, 9], [8, 9]), ([10], [10]), ([11], [11]), ([6, 12], [6, 12]), ([0, 13], [0, 13]), ([14, 0, 1, 2, 3, 4, 5, 6, 7, 8, 9, 10, 11, 12, 13, 14], [0, 14])])
def pl17B : List Nat := [0, 0, 2, 0, 14, 30, 62, 0, 128, 0, 896, 1920, 3968, 8190, 16383, 32767]
theorem pl17_tab : rtab .any (opsOf Tryz.f8 17) = pl17T := by kernel_rfl
theorem pl17_bits : waitsOk pl17T.2 pl17B = true := by kernel_rfl
theorem proved_walk (A0 : Option Addr) (c0 : Nat) (l0 : List ByteArray) (A1 : Option Addr) (c1 : Nat) (mt : List S70) (A2 : Option Addr) (c2 : Nat) (l2 : List S27) (A3 : Option Addr) (c3 : Nat) (l3 : List S89) (b4 b5 b6 : Int) (B0 : Option Addr) (x0 : Nat) (m0 : List Int) (B1 : Option Addr) (x1 : Nat) (m1 : List Int) (n2 n3 n4 : Int) (B5 : Option Addr) (x5 : Nat) (m5 : List Int) (w : World)
  (hr0 : Kd.C Kd.string w A0 l0.length l0) (h00 : l0.length ≤ c0) (hr1 : Kd.C k70 w A1 mt.length mt) (h01 : mt.length ≤ c1) (hr2 : Kd.C k27 w A2 l2.length l2) (h02 : l2.length ≤ c2) (hr3 : Kd.C k89 w A3 l3.length l3) (h03 : l3.length ≤ c3)
  (s0 : Kd.C (Kd.int .i64) w B0 m0.length m0) (k0 : m0.length ≤ x0) (s1 : Kd.C (Kd.int .i64) w B1 m1.length m1) (k1 : m1.length ≤ x1) (s5 : Kd.C (Kd.int .i64) w B5 m5.length m5) (k5 : m5.length ≤ x5) :
  Calls Tryz.prog 8 #[.agg #[.slice A0 l0.length c0, .slice A1 mt.length c1, .slice A2 l2.length c2, .slice A3 l3.length c3, .int .i64 b4, .int .i64 b5, .int .i64 b6], .agg #[.slice B0 m0.length x0, .slice B1 m1.length x1, .int .i64 n2, .int .i64 n3, .int .i64 n4, .slice B5 m5.length x5]] w fun e w' => e = .returned (.bool true) ∧ Below w.heap.size w w' := by
 obtain ⟨q1, q2, hb0, hsz⟩ := blk_two w (.cells #[.slice A0 l0.length c0, .slice A1 mt.length c1, .slice A2 l2.length c2, .slice A3 l3.length c3, .int .i64 b4, .int .i64 b5, .int .i64 b6] 29) (.cells #[.slice B0 m0.length x0, .slice B1 m1.length x1, .int .i64 n2, .int .i64 n3, .int .i64 n4, .slice B5 m5.length x5] 34)
 have BX := Sd.mk q1
 have BY := Sd.mk q2
 have HB := Sd.mk hb0
 have HR := Sd.mk (And.intro hr0 (And.intro hr1 (And.intro hr2 (And.intro hr3 (And.intro s0 (And.intro s1 s5))))))
 have hu29 := Tryz.underlying29
 have hu32 := Tryz.underlying32
 have hu34 := Tryz.underlying34
 clear q1 q2 hb0 hsz hr0 hr1 hr2 hr3 s0 s1 s5
 obtain ⟨bg, kg, hg⟩ := great l0 mt l2 l3 b4 b5 b6
 have HG := Sd.mk (hg kg (Nat.le_refl _))
 obtain ⟨bw, hw⟩ := wide_ev m0 m1 n2 n3 n4 m5
 have HW := Sd.mk hw
 obtain ⟨bm, km, hm⟩ := many_ev l0 mt l2 l3 b4 b5 b6
 have HM := Sd.mk (hm km (Nat.le_refl _))
 obtain ⟨kl, hl⟩ := lives_ev
 have HL := Sd.mk (hl kl (Nat.le_refl _))
 clear hg hw hm hl
 go_enter Tryz.func8, Tryz.ntmps8
 go_upto_region 1 with (fail)
 generalize (w.alloc (.cells #[.slice A0 l0.length c0, .slice A1 mt.length c1, .slice A2 l2.length c2, .slice A3 l3.length c3, .int .i64 b4, .int .i64 b5, .int .i64 b6] 29)).alloc (.cells #[.slice B0 m0.length x0, .slice B1 m1.length x1, .int .i64 n2, .int .i64 n3, .int .i64 n4, .slice B5 m5.length x5] 34) = W0 at BX BY HB ⊢
 obtain ⟨g0, g1, g2, g3, g4, g5, g6, _⟩ := bc7 BX.out; obtain ⟨y0, y1, y2, y3, y4, y5, _⟩ := bc6 BY.out
 by_cases hall : (bg || bw || bm) = true
 ·cases bg <;> cases bw <;> cases bm <;> first
   | exact absurd hall (by decide)
   | (clear hall; go_wp2_with (first | (go_at_call 10; (refine (lw_Great.calls _ A0 c0 l0 A1 c1 mt A2 c2 l2 A3 c3 l3 b4 b5 b6 _ _ (Kd.C_below HR.out.1 HB.out) h00 (Kd.C_below HR.out.2.1 HB.out) h01 (Kd.C_below HR.out.2.2.1 HB.out) h02 (Kd.C_below HR.out.2.2.2.1 HB.out) h03 HG.out).mono ?_); rintro e W1 ⟨rfl, hb⟩; clear g0 g1 g2 g3 g4 g5 g6 y0 y1 y2 y3 y4 y5; replace BX := Sd.mk (blk_below BX.out hb); replace BY := Sd.mk (blk_below BY.out hb); replace HB := Sd.mk (below_then HB.out HB.out.size hb); clear hb; obtain ⟨g0, g1, g2, g3, g4, g5, g6, _⟩ := bc7 BX.out; obtain ⟨y0, y1, y2, y3, y4, y5, _⟩ := bc6 BY.out) | (go_at_call 11; (refine (lw_wide.calls B0 x0 m0 B1 x1 m1 n2 n3 n4 B5 x5 m5 _ _ (Kd.C_below HR.out.2.2.2.2.1 HB.out) k0 (Kd.C_below HR.out.2.2.2.2.2.1 HB.out) k1 (Kd.C_below HR.out.2.2.2.2.2.2 HB.out) k5 HW.out).mono ?_); rintro e W2 ⟨rfl, hb⟩; clear g0 g1 g2 g3 g4 g5 g6 y0 y1 y2 y3 y4 y5; replace BX := Sd.mk (blk_below BX.out hb); replace BY := Sd.mk (blk_below BY.out hb); replace HB := Sd.mk (below_then HB.out HB.out.size hb); clear hb; obtain ⟨g0, g1, g2, g3, g4, g5, g6, _⟩ := bc7 BX.out; obtain ⟨y0, y1, y2, y3, y4, y5, _⟩ := bc6 BY.out) | (go_at_call 27; (refine (lw_many.calls _ A0 c0 l0 A1 c1 mt A2 c2 l2 A3 c3 l3 b4 b5 b6 _ _ (Kd.C_below HR.out.1 HB.out) h00 (Kd.C_below HR.out.2.1 HB.out) h01 (Kd.C_below HR.out.2.2.1 HB.out) h02 (Kd.C_below HR.out.2.2.2.1 HB.out) h03 HM.out).mono ?_); rintro e W3 ⟨rfl, hb⟩; clear g0 g1 g2 g3 g4 g5 g6 y0 y1 y2 y3 y4 y5; replace BX := Sd.mk (blk_below BX.out hb); replace BY := Sd.mk (blk_below BY.out hb); replace HB := Sd.mk (below_then HB.out HB.out.size hb); clear hb; obtain ⟨g0, g1, g2, g3, g4, g5, g6, _⟩ := bc7 BX.out; obtain ⟨y0, y1, y2, y3, y4, y5, _⟩ := bc6 BY.out) | (go_at_call 12; (refine (lw_lives.calls _ _ _ HL.out).mono ?_); rintro e W9 ⟨rfl, hb⟩; clear g0 g1 g2 g3 g4 g5 g6 y0 y1 y2 y3 y4 y5; replace BX := Sd.mk (blk_below BX.out hb); replace BY := Sd.mk (blk_below BY.out hb); replace HB := Sd.mk (below_then HB.out HB.out.size hb); clear hb; obtain ⟨g0, g1, g2, g3, g4, g5, g6, _⟩ := bc7 BX.out; obtain ⟨y0, y1, y2, y3, y4, y5, _⟩ := bc6 BY.out)); go_ret; exact ⟨rfl, HB.out⟩)
 obtain ⟨rfl, rfl, rfl⟩ : bg = false ∧ bw = false ∧ bm = false := by cases bg <;> cases bw <;> cases bm <;> simp_all
 clear hall
 by_cases hz : checkV l0 mt l2 l3 b4 b5 b6 = 0
 rotate_left
 ·have HZ := Sd.mk hz
  obtain ⟨kc, hkc⟩ := bcheck l0 mt l2 l3 b4 b5 b6
  have HCK := Sd.mk (hkc kc (Nat.le_refl _))
  have d1 : (checkV l0 mt l2 l3 b4 b5 b6 == 0) = false := beq_eq_false_iff_ne.2 hz
  have d2 : (checkV l0 mt l2 l3 b4 b5 b6 != 0) = true := by simp [hz]
  clear hkc hz
  go_upto_region 4 with (first | (go_at_call 10; (refine (lw_Great.calls _ A0 c0 l0 A1 c1 mt A2 c2 l2 A3 c3 l3 b4 b5 b6 _ _ (Kd.C_below HR.out.1 HB.out) h00 (Kd.C_below HR.out.2.1 HB.out) h01 (Kd.C_below HR.out.2.2.1 HB.out) h02 (Kd.C_below HR.out.2.2.2.1 HB.out) h03 HG.out).mono ?_); rintro e W1 ⟨rfl, hb⟩; clear g0 g1 g2 g3 g4 g5 g6 y0 y1 y2 y3 y4 y5; replace BX := Sd.mk (blk_below BX.out hb); replace BY := Sd.mk (blk_below BY.out hb); replace HB := Sd.mk (below_then HB.out HB.out.size hb); clear hb; obtain ⟨g0, g1, g2, g3, g4, g5, g6, _⟩ := bc7 BX.out; obtain ⟨y0, y1, y2, y3, y4, y5, _⟩ := bc6 BY.out) | (go_at_call 11; (refine (lw_wide.calls B0 x0 m0 B1 x1 m1 n2 n3 n4 B5 x5 m5 _ _ (Kd.C_below HR.out.2.2.2.2.1 HB.out) k0 (Kd.C_below HR.out.2.2.2.2.2.1 HB.out) k1 (Kd.C_below HR.out.2.2.2.2.2.2 HB.out) k5 HW.out).mono ?_); rintro e W2 ⟨rfl, hb⟩; clear g0 g1 g2 g3 g4 g5 g6 y0 y1 y2 y3 y4 y5; replace BX := Sd.mk (blk_below BX.out hb); replace BY := Sd.mk (blk_below BY.out hb); replace HB := Sd.mk (below_then HB.out HB.out.size hb); clear hb; obtain ⟨g0, g1, g2, g3, g4, g5, g6, _⟩ := bc7 BX.out; obtain ⟨y0, y1, y2, y3, y4, y5, _⟩ := bc6 BY.out) | (go_at_call 27; (refine (lw_many.calls _ A0 c0 l0 A1 c1 mt A2 c2 l2 A3 c3 l3 b4 b5 b6 _ _ (Kd.C_below HR.out.1 HB.out) h00 (Kd.C_below HR.out.2.1 HB.out) h01 (Kd.C_below HR.out.2.2.1 HB.out) h02 (Kd.C_below HR.out.2.2.2.1 HB.out) h03 HM.out).mono ?_); rintro e W3 ⟨rfl, hb⟩; clear g0 g1 g2 g3 g4 g5 g6 y0 y1 y2 y3 y4 y5; replace BX := Sd.mk (blk_below BX.out hb); replace BY := Sd.mk (blk_below BY.out hb); replace HB := Sd.mk (below_then HB.out HB.out.size hb); clear hb; obtain ⟨g0, g1, g2, g3, g4, g5, g6, _⟩ := bc7 BX.out; obtain ⟨y0, y1, y2, y3, y4, y5, _⟩ := bc6 BY.out) | (go_at_call 33; (refine (prove_calls A0 c0 l0 A1 c1 mt A2 c2 l2 A3 c3 l3 b4 b5 b6 (linesV mt l2 l3 b4 b5 b6) rfl _ (Kd.C_below HR.out.1 HB.out) h00 (Kd.C_below HR.out.2.1 HB.out) h01 (Kd.C_below HR.out.2.2.1 HB.out) h02 (Kd.C_below HR.out.2.2.2.1 HB.out) h03).mono ?_); rintro e W4 ⟨hb, hor⟩; obtain rfl := (hor.resolve_right (fun h => HZ.out h.1)).2; clear hor; clear g0 g1 g2 g3 g4 g5 g6 y0 y1 y2 y3 y4 y5; replace BX := Sd.mk (blk_below BX.out hb); replace BY := Sd.mk (blk_below BY.out hb); replace HB := Sd.mk (below_then HB.out HB.out.size hb); clear hb; obtain ⟨g0, g1, g2, g3, g4, g5, g6, _⟩ := bc7 BX.out; obtain ⟨y0, y1, y2, y3, y4, y5, _⟩ := bc6 BY.out) | ((with_reducible refine gate_dst (N := 5) rfl ?_); refine box_event ?hg (N := 5) ?hd (cs := #[.int .i64 0, .slice none 0 0]) (t := 32) ?hr ?_; (case hd => rfl); (case hg => rfl); (case hr => first | (go_simp; done) | (go_simp; rfl)); intro gp hg wm hbox hb; have z0 : wm.cell? ⟨gp, 0, none⟩ = some (.int .i64 0) := (blk_cell hbox 0).trans rfl; have z1 : wm.cell? ⟨gp, 1, none⟩ = some (.slice none 0 0) := (blk_cell hbox 1).trans rfl; have t0 := blk_frozen hbox 0; have t1 := blk_frozen hbox 1; have HGG := Sd.mk hg; have HBX := Sd.mk hbox; have HBM := Sd.mk hb; clear hg hbox hb))
  clear z0 z1 t0 t1
  refine wp_any (fun W => W.heap[gp]? = some (.cells #[.int .i64 0, .slice none 0 0] 32 (0, 0)) ∧ Below W4.heap.size W4 W) ⟨blk_put (blk_put HBX.out 0 _ rfl) 1 _ rfl, (HBM.out.setCell (p := ⟨gp, 0, none⟩) (Nat.le_of_eq HGG.out.symm) _).setCell (p := ⟨gp, 1, none⟩) (Nat.le_of_eq HGG.out.symm) _⟩ ?_
  rintro W5 ⟨bq, hb⟩
  have HGP := Sd.mk bq
  clear bq HBX HBM HGG
  clear g0 g1 g2 g3 g4 g5 g6 y0 y1 y2 y3 y4 y5; replace BX := Sd.mk (blk_below BX.out hb); replace BY := Sd.mk (blk_below BY.out hb); replace HB := Sd.mk (below_then HB.out HB.out.size hb); clear hb
  obtain ⟨g0, g1, g2, g3, g4, g5, g6, _⟩ := bc7 BX.out; obtain ⟨y0, y1, y2, y3, y4, y5, _⟩ := bc6 BY.out
  have p0 : W5.cell? ⟨gp, 0, none⟩ = some (.int .i64 0) := (blk_cell HGP.out 0).trans rfl
  have p1 : W5.cell? ⟨gp, 1, none⟩ = some (.slice none 0 0) := (blk_cell HGP.out 1).trans rfl
  clear p0 p1
  go_wp2_with (first | (go_at_call 34; (refine (b_Check.calls _ A0 c0 l0 A1 c1 mt A2 c2 l2 A3 c3 l3 b4 b5 b6 _ _ (Kd.C_below HR.out.1 HB.out) h00 (Kd.C_below HR.out.2.1 HB.out) h01 (Kd.C_below HR.out.2.2.1 HB.out) h02 (Kd.C_below HR.out.2.2.2.1 HB.out) h03 HCK.out).mono ?_); rintro e W6 ⟨rfl, hb⟩; clear g0 g1 g2 g3 g4 g5 g6 y0 y1 y2 y3 y4 y5; replace HB := Sd.mk (below_then HB.out HB.out.size hb); have HGE := Sd.mk (blk_below HGP.out hb); clear hb; have p0 : W6.cell? ⟨gp, 0, none⟩ = some (.int .i64 0) := (blk_cell HGE.out 0).trans rfl; have p1 : W6.cell? ⟨gp, 1, none⟩ = some (.slice none 0 0) := (blk_cell HGE.out 1).trans rfl) | (go_at_call 12; (refine (lw_lives.calls _ _ _ HL.out).mono ?_); rintro e W9 ⟨rfl, hb⟩; replace HB := Sd.mk (below_then HB.out HB.out.size hb); clear hb))
  go_ret
  exact ⟨rfl, HB.out⟩
 have HZ := Sd.mk hz
 have H := Sd.mk (check_ok hz)
 clear hz
 go_upto_region 4 with (first | (go_at_call 10; (refine (lw_Great.calls _ A0 c0 l0 A1 c1 mt A2 c2 l2 A3 c3 l3 b4 b5 b6 _ _ (Kd.C_below HR.out.1 HB.out) h00 (Kd.C_below HR.out.2.1 HB.out) h01 (Kd.C_below HR.out.2.2.1 HB.out) h02 (Kd.C_below HR.out.2.2.2.1 HB.out) h03 HG.out).mono ?_); rintro e W1 ⟨rfl, hb⟩; clear g0 g1 g2 g3 g4 g5 g6 y0 y1 y2 y3 y4 y5; replace BX := Sd.mk (blk_below BX.out hb); replace BY := Sd.mk (blk_below BY.out hb); replace HB := Sd.mk (below_then HB.out HB.out.size hb); clear hb; obtain ⟨g0, g1, g2, g3, g4, g5, g6, _⟩ := bc7 BX.out; obtain ⟨y0, y1, y2, y3, y4, y5, _⟩ := bc6 BY.out) | (go_at_call 11; (refine (lw_wide.calls B0 x0 m0 B1 x1 m1 n2 n3 n4 B5 x5 m5 _ _ (Kd.C_below HR.out.2.2.2.2.1 HB.out) k0 (Kd.C_below HR.out.2.2.2.2.2.1 HB.out) k1 (Kd.C_below HR.out.2.2.2.2.2.2 HB.out) k5 HW.out).mono ?_); rintro e W2 ⟨rfl, hb⟩; clear g0 g1 g2 g3 g4 g5 g6 y0 y1 y2 y3 y4 y5; replace BX := Sd.mk (blk_below BX.out hb); replace BY := Sd.mk (blk_below BY.out hb); replace HB := Sd.mk (below_then HB.out HB.out.size hb); clear hb; obtain ⟨g0, g1, g2, g3, g4, g5, g6, _⟩ := bc7 BX.out; obtain ⟨y0, y1, y2, y3, y4, y5, _⟩ := bc6 BY.out) | (go_at_call 27; (refine (lw_many.calls _ A0 c0 l0 A1 c1 mt A2 c2 l2 A3 c3 l3 b4 b5 b6 _ _ (Kd.C_below HR.out.1 HB.out) h00 (Kd.C_below HR.out.2.1 HB.out) h01 (Kd.C_below HR.out.2.2.1 HB.out) h02 (Kd.C_below HR.out.2.2.2.1 HB.out) h03 HM.out).mono ?_); rintro e W3 ⟨rfl, hb⟩; clear g0 g1 g2 g3 g4 g5 g6 y0 y1 y2 y3 y4 y5; replace BX := Sd.mk (blk_below BX.out hb); replace BY := Sd.mk (blk_below BY.out hb); replace HB := Sd.mk (below_then HB.out HB.out.size hb); clear hb; obtain ⟨g0, g1, g2, g3, g4, g5, g6, _⟩ := bc7 BX.out; obtain ⟨y0, y1, y2, y3, y4, y5, _⟩ := bc6 BY.out) | (go_at_call 33; (refine (prove_calls A0 c0 l0 A1 c1 mt A2 c2 l2 A3 c3 l3 b4 b5 b6 (linesV mt l2 l3 b4 b5 b6) rfl _ (Kd.C_below HR.out.1 HB.out) h00 (Kd.C_below HR.out.2.1 HB.out) h01 (Kd.C_below HR.out.2.2.1 HB.out) h02 (Kd.C_below HR.out.2.2.2.1 HB.out) h03).mono ?_); rintro e W4 ⟨hb, hor⟩; obtain ⟨_, D, S, ws, rfl, hI, hB, hm, hD⟩ := hor.resolve_left (fun h => h.1 HZ.out); have HPV := Sd.mk (And.intro hI (And.intro hB hm)); clear hor hI hB hm hD; clear g0 g1 g2 g3 g4 g5 g6 y0 y1 y2 y3 y4 y5; replace BX := Sd.mk (blk_below BX.out hb); replace BY := Sd.mk (blk_below BY.out hb); replace HB := Sd.mk (below_then HB.out HB.out.size hb); clear hb; obtain ⟨g0, g1, g2, g3, g4, g5, g6, _⟩ := bc7 BX.out; obtain ⟨y0, y1, y2, y3, y4, y5, _⟩ := bc6 BY.out) | ((with_reducible refine gate_dst (N := 5) rfl ?_); refine box_event ?hg (N := 5) ?hd (cs := #[.int .i64 0, .slice none 0 0]) (t := 32) ?hr ?_; (case hd => rfl); (case hg => rfl); (case hr => first | (go_simp; done) | (go_simp; rfl)); intro gp hg wm hbox hb; have z0 : wm.cell? ⟨gp, 0, none⟩ = some (.int .i64 0) := (blk_cell hbox 0).trans rfl; have z1 : wm.cell? ⟨gp, 1, none⟩ = some (.slice none 0 0) := (blk_cell hbox 1).trans rfl; have t0 := blk_frozen hbox 0; have t1 := blk_frozen hbox 1; have HGG := Sd.mk hg; have HBX := Sd.mk hbox; have HBM := Sd.mk hb; clear hg hbox hb))
 clear z0 z1 t0 t1
 refine wp_any (fun W => W.heap[gp]? = some (.cells #[.int .i64 D, .slice (some ⟨S, 0, none⟩) (linesV mt l2 l3 b4 b5 b6).length (linesV mt l2 l3 b4 b5 b6).length] 32 (0, 0)) ∧ Below W4.heap.size W4 W ∧ W4.heap.size ≤ gp) ⟨blk_put (blk_put HBX.out 0 _ rfl) 1 _ rfl, (HBM.out.setCell (p := ⟨gp, 0, none⟩) (Nat.le_of_eq HGG.out.symm) _).setCell (p := ⟨gp, 1, none⟩) (Nat.le_of_eq HGG.out.symm) _, Nat.le_of_eq HGG.out.symm⟩ ?_
 rintro W5 ⟨bq, hb, hge⟩
 obtain ⟨Aw, eA⟩ : ∃ Aw : Option Addr, Aw = some ⟨S, 0, none⟩ := ⟨_, rfl⟩
 have hwl := HPV.out.1.1
 have HWS : Sd (Kd.C (Kd.int .i64) W5 Aw ws.length ws) := ⟨by rw [eA]; exact Kd.C_below HPV.out.1.reads hb⟩
 obtain ⟨cw, hcw, bpp⟩ : ∃ cw, ws.length ≤ cw ∧ W5.heap[gp]? = some (.cells #[.int .i64 D, .slice Aw ws.length cw] 32 (0, 0)) := ⟨ws.length, Nat.le_refl _, by rw [eA, hwl]; exact bq⟩
 have BP := Sd.mk bpp
 have HCW := Sd.mk hcw
 have HGP := Sd.mk (show w.heap.size + 1 < gp from by have := blk_lt BY.out; omega)
 have HBO := Sd.mk (And.intro HPV.out.2.1 HPV.out.2.2)
 clear HBX HBM HGG HPV eA hwl bq hge bpp hcw
 clear g0 g1 g2 g3 g4 g5 g6 y0 y1 y2 y3 y4 y5; replace BX := Sd.mk (blk_below BX.out hb); replace BY := Sd.mk (blk_below BY.out hb); replace HB := Sd.mk (below_then HB.out HB.out.size hb); clear hb
 obtain ⟨g0, g1, g2, g3, g4, g5, g6, _⟩ := bc7 BX.out; obtain ⟨y0, y1, y2, y3, y4, y5, _⟩ := bc6 BY.out; have p0 : W5.cell? ⟨gp, 0, none⟩ = some (.int .i64 D) := (blk_cell BP.out 0).trans rfl; have p1 : W5.cell? ⟨gp, 1, none⟩ = some (.slice Aw ws.length cw) := (blk_cell BP.out 1).trans rfl
 obtain ⟨kb, hkb⟩ := best_ev l0 mt l2 l3 b4 b5 b6
 have hbv := hkb kb (Nat.le_refl _)
 obtain ⟨kp, hkp⟩ := bPasses l0 mt l2 l3 b4 b5 b6 m0
 have hps := hkp kp (Nat.le_refl _)
 obtain ⟨ky, hky⟩ := bAllowed l0 mt l2 l3 b4 b5 b6 m0
 have hmy := hky ky (Nat.le_refl _)
 obtain ⟨kk, hkk⟩ := bCost l0 mt l2 l3 b4 b5 b6 m0
 have hcs := hkk kk (Nat.le_refl _)
 have hf1 : ∀ (D' : Int) (y : List Int), (boundR l0 mt l2 l3 b4 b5 b6 D' y).2.2 = 0 → (BestV l0 mt l2 l3 b4 b5 b6).2.2.2 = 0 → (BestV l0 mt l2 l3 b4 b5 b6).2.2.1 = true → (boundR l0 mt l2 l3 b4 b5 b6 D' y).2.1 = false ∧ (0 < D' → (boundR l0 mt l2 l3 b4 b5 b6 D' y).1 ≤ (BestV l0 mt l2 l3 b4 b5 b6).2.1) := fun D' y hj h0 h1 => by
  obtain ⟨r, e1, e2, e3, e4⟩ := best_fact l0 mt l2 l3 b4 b5 b6 h0 h1
  rw [e4]
  exact bound_fact l0 mt l2 l3 b4 b5 b6 D' y r hj e1 e2 e3
 have hf2 : ∀ (D' : Int) (y : List Int), (boundR l0 mt l2 l3 b4 b5 b6 D' y).2.2 = 0 → (PassV l0 mt l2 l3 b4 b5 b6 m0).2 = 0 → (PassV l0 mt l2 l3 b4 b5 b6 m0).1 = true → (MayV l0 mt l2 l3 b4 b5 b6 m0).1 = true → (boundR l0 mt l2 l3 b4 b5 b6 D' y).2.1 = false ∧ (0 < D' → (boundR l0 mt l2 l3 b4 b5 b6 D' y).1 ≤ (CostV l0 mt l2 l3 b4 b5 b6 m0).1) := fun D' y hj h0 h1 h2 => by
  obtain ⟨e1, e2, e3, e4⟩ := own_fact l0 mt l2 l3 b4 b5 b6 m0 h0 h1 h2
  rw [e4]
  exact bound_fact l0 mt l2 l3 b4 b5 b6 D' y m0 hj e1 e2 e3
 generalize BestV l0 mt l2 l3 b4 b5 b6 = vb at hbv hf1
 generalize PassV l0 mt l2 l3 b4 b5 b6 m0 = vp at hps hf2
 generalize MayV l0 mt l2 l3 b4 b5 b6 m0 = vm at hmy hf2
 generalize CostV l0 mt l2 l3 b4 b5 b6 m0 = vc at hcs hf2
 obtain ⟨v1, v2, v3, v4⟩ := vb
 obtain ⟨p1', p2'⟩ := vp
 obtain ⟨q1', q2'⟩ := vm
 obtain ⟨k1', k2'⟩ := vc
 have HBV := Sd.mk hbv
 have HPS := Sd.mk hps
 have HMY := Sd.mk hmy
 have HCS := Sd.mk hcs
 have HF1 := Sd.mk hf1
 have HF2 := Sd.mk hf2
 clear hkb hbv hkp hps hky hmy hkk hcs hf1 hf2
 obtain ⟨kd, hkd⟩ := bBound l0 mt l2 l3 b4 b5 b6 D ws
 have HBD : Sd (b_Bound.f kd l0 mt l2 l3 b4 b5 b6 D ws = some ((boundR l0 mt l2 l3 b4 b5 b6 D ws).1, (boundR l0 mt l2 l3 b4 b5 b6 D ws).2.1, (boundR l0 mt l2 l3 b4 b5 b6 D ws).2.2)) := ⟨hkd kd (Nat.le_refl _)⟩
 clear hkd
 have hj0 := proved_ok l0 mt l2 l3 b4 b5 b6 D ws H.out HZ.out HBO.out.1
 rw [hj0] at HBD
 have HJ0 := Sd.mk hj0
 have HLS := Sd.mk (proved_least l0 mt l2 l3 b4 b5 b6 D ws H.out HZ.out HBO.out.1 HBO.out.2)
 clear hj0 HBO
 go_upto_region 13 with (first | (go_at_call 28; (refine (b_Best.calls _ A0 c0 l0 A1 c1 mt A2 c2 l2 A3 c3 l3 b4 b5 b6 v1 v2 v3 v4 _ (Kd.C_below HR.out.1 HB.out) h00 (Kd.C_below HR.out.2.1 HB.out) h01 (Kd.C_below HR.out.2.2.1 HB.out) h02 (Kd.C_below HR.out.2.2.2.1 HB.out) h03 HBV.out).mono ?_); rintro e W7 ⟨v9, rfl, hv9, hb⟩; obtain ⟨A9, c9, rfl⟩ := Kd.R_slice hv9; clear hv9; clear g0 g1 g2 g3 g4 g5 g6 y0 y1 y2 y3 y4 y5 p0 p1; replace BX := Sd.mk (blk_below BX.out hb); replace BY := Sd.mk (blk_below BY.out hb); replace BP := Sd.mk (blk_below BP.out hb); replace HWS := Sd.mk (Kd.C_below HWS.out hb); replace HB := Sd.mk (below_then HB.out HB.out.size hb); clear hb; obtain ⟨g0, g1, g2, g3, g4, g5, g6, _⟩ := bc7 BX.out; obtain ⟨y0, y1, y2, y3, y4, y5, _⟩ := bc6 BY.out; have p0 : W7.cell? ⟨gp, 0, none⟩ = some (.int .i64 D) := (blk_cell BP.out 0).trans rfl; have p1 : W7.cell? ⟨gp, 1, none⟩ = some (.slice Aw ws.length cw) := (blk_cell BP.out 1).trans rfl) | (go_at_call 13; (refine (b_Passes.calls _ A0 c0 l0 A1 c1 mt A2 c2 l2 A3 c3 l3 b4 b5 b6 B0 x0 m0 p1' p2' _ (Kd.C_below HR.out.1 HB.out) h00 (Kd.C_below HR.out.2.1 HB.out) h01 (Kd.C_below HR.out.2.2.1 HB.out) h02 (Kd.C_below HR.out.2.2.2.1 HB.out) h03 (Kd.C_below HR.out.2.2.2.2.1 HB.out) k0 HPS.out).mono ?_); rintro e W8 ⟨rfl, hb⟩; clear g0 g1 g2 g3 g4 g5 g6 y0 y1 y2 y3 y4 y5 p0 p1; replace BX := Sd.mk (blk_below BX.out hb); replace BY := Sd.mk (blk_below BY.out hb); replace BP := Sd.mk (blk_below BP.out hb); replace HWS := Sd.mk (Kd.C_below HWS.out hb); replace HB := Sd.mk (below_then HB.out HB.out.size hb); clear hb; obtain ⟨g0, g1, g2, g3, g4, g5, g6, _⟩ := bc7 BX.out; obtain ⟨y0, y1, y2, y3, y4, y5, _⟩ := bc6 BY.out; have p0 : W8.cell? ⟨gp, 0, none⟩ = some (.int .i64 D) := (blk_cell BP.out 0).trans rfl; have p1 : W8.cell? ⟨gp, 1, none⟩ = some (.slice Aw ws.length cw) := (blk_cell BP.out 1).trans rfl) | (go_at_call 15; (refine (b_Allowed.calls _ A0 c0 l0 A1 c1 mt A2 c2 l2 A3 c3 l3 b4 b5 b6 B0 x0 m0 q1' q2' _ (Kd.C_below HR.out.1 HB.out) h00 (Kd.C_below HR.out.2.1 HB.out) h01 (Kd.C_below HR.out.2.2.1 HB.out) h02 (Kd.C_below HR.out.2.2.2.1 HB.out) h03 (Kd.C_below HR.out.2.2.2.2.1 HB.out) k0 HMY.out).mono ?_); rintro e W9 ⟨rfl, hb⟩; clear g0 g1 g2 g3 g4 g5 g6 y0 y1 y2 y3 y4 y5 p0 p1; replace BX := Sd.mk (blk_below BX.out hb); replace BY := Sd.mk (blk_below BY.out hb); replace BP := Sd.mk (blk_below BP.out hb); replace HWS := Sd.mk (Kd.C_below HWS.out hb); replace HB := Sd.mk (below_then HB.out HB.out.size hb); clear hb; obtain ⟨g0, g1, g2, g3, g4, g5, g6, _⟩ := bc7 BX.out; obtain ⟨y0, y1, y2, y3, y4, y5, _⟩ := bc6 BY.out; have p0 : W9.cell? ⟨gp, 0, none⟩ = some (.int .i64 D) := (blk_cell BP.out 0).trans rfl; have p1 : W9.cell? ⟨gp, 1, none⟩ = some (.slice Aw ws.length cw) := (blk_cell BP.out 1).trans rfl) | (go_at_call 17; (refine (b_Cost.calls _ A0 c0 l0 A1 c1 mt A2 c2 l2 A3 c3 l3 b4 b5 b6 B0 x0 m0 k1' k2' _ (Kd.C_below HR.out.1 HB.out) h00 (Kd.C_below HR.out.2.1 HB.out) h01 (Kd.C_below HR.out.2.2.1 HB.out) h02 (Kd.C_below HR.out.2.2.2.1 HB.out) h03 (Kd.C_below HR.out.2.2.2.2.1 HB.out) k0 HCS.out).mono ?_); rintro e W10 ⟨rfl, hb⟩; clear g0 g1 g2 g3 g4 g5 g6 y0 y1 y2 y3 y4 y5 p0 p1; replace BX := Sd.mk (blk_below BX.out hb); replace BY := Sd.mk (blk_below BY.out hb); replace BP := Sd.mk (blk_below BP.out hb); replace HWS := Sd.mk (Kd.C_below HWS.out hb); replace HB := Sd.mk (below_then HB.out HB.out.size hb); clear hb; obtain ⟨g0, g1, g2, g3, g4, g5, g6, _⟩ := bc7 BX.out; obtain ⟨y0, y1, y2, y3, y4, y5, _⟩ := bc6 BY.out; have p0 : W10.cell? ⟨gp, 0, none⟩ = some (.int .i64 D) := (blk_cell BP.out 0).trans rfl; have p1 : W10.cell? ⟨gp, 1, none⟩ = some (.slice Aw ws.length cw) := (blk_cell BP.out 1).trans rfl) | (go_at_call 35; (refine (b_Bound.calls _ A0 c0 l0 A1 c1 mt A2 c2 l2 A3 c3 l3 b4 b5 b6 D Aw cw ws _ _ _ _ (Kd.C_below HR.out.1 HB.out) h00 (Kd.C_below HR.out.2.1 HB.out) h01 (Kd.C_below HR.out.2.2.1 HB.out) h02 (Kd.C_below HR.out.2.2.2.1 HB.out) h03 HWS.out HCW.out HBD.out).mono ?_); rintro e W11 ⟨rfl, hb⟩; clear g0 g1 g2 g3 g4 g5 g6 y0 y1 y2 y3 y4 y5 p0 p1; replace BX := Sd.mk (blk_below BX.out hb); replace BY := Sd.mk (blk_below BY.out hb); replace BP := Sd.mk (blk_below BP.out hb); replace HWS := Sd.mk (Kd.C_below HWS.out hb); replace HB := Sd.mk (below_then HB.out HB.out.size hb); clear hb; obtain ⟨g0, g1, g2, g3, g4, g5, g6, _⟩ := bc7 BX.out; obtain ⟨y0, y1, y2, y3, y4, y5, _⟩ := bc6 BY.out; have p0 : W11.cell? ⟨gp, 0, none⟩ = some (.int .i64 D) := (blk_cell BP.out 0).trans rfl; have p1 : W11.cell? ⟨gp, 1, none⟩ = some (.slice Aw ws.length cw) := (blk_cell BP.out 1).trans rfl))
 clear HBD HBV HPS HMY HCS
 clear g0 g1 g2 g3 g4 g5 g6 y0 y1 y2 y3 y4 y5 p0 p1
 go_wp2
 obtain ⟨nb1, en1⟩ : ∃ n, (boundR l0 mt l2 l3 b4 b5 b6 D ws).1 = n := ⟨_, rfl⟩
 obtain ⟨nb2, en2⟩ : ∃ n, (boundR l0 mt l2 l3 b4 b5 b6 D ws).2.1 = n := ⟨_, rfl⟩
 have HNB := Sd.mk (show boundR l0 mt l2 l3 b4 b5 b6 D ws = (nb1, nb2, 0) from by rw [← en1, ← en2, ← HJ0.out])
 rw [en1] at HLS
 rw [en1, en2]
 clear en1 en2 HJ0
 go_loopg [20, 21] mt.length (fun kq v20 v21 W' => ∃ k : Nat, v20 = .int .i64 (leastS mt k) ∧ v21 = .int .i64 (k : Int) ∧ Sd (k + kq = mt.length ∧ Below W11.heap.size W11 W'))
 case atStart => exact ⟨0, by simp [leastS, sumTo], by simp, ⟨Nat.zero_add _, Below.refl _ _⟩⟩
 case round =>
  obtain ⟨k, rfl, rfl, HI⟩ := hrel
  have BXr := Sd.mk (blk_below BX.out HI.out.2)
  cases gk with
  | succ kq =>
   have hk : k < mt.length := by rw [← HI.out.1]; exact Nat.lt_add_of_pos_right (Nat.succ_pos _)
   have hd : decide ((k : Int) < (mt.length : Int)) = true := decide_eq_true (Int.ofNat_lt.2 hk)
   have hp : decide (0 ≤ (k : Int)) = true := decide_eq_true (Int.natCast_nonneg k)
   have HWK := Sd.mk (And.intro (wrap_idx hk (Nat.le_trans H.out.m12 (by decide))) (leastS_wrap l0 mt l2 l3 b4 b5 b6 H.out k hk))
   obtain ⟨ad, A6, c6, e9, hx0, hx1, hx2, hx3, hx4, hx5, hx6, hl6, hi6⟩ := at_T70 HR.out.2.1 (k : Int) (Int.natCast_nonneg k) (Int.ofNat_lt.2 hk)
   cases e9
   clear hx0 hx2 hx4 hx5 hx6 hl6 hi6
   replace hx1 := (HB.out.cell (World.block_lt_of_cell? w _ hx1)).trans hx1
   replace hx3 := (HB.out.cell (World.block_lt_of_cell? w _ hx3)).trans hx3
   replace hx1 := (HI.out.2.cell (World.block_lt_of_cell? W11 _ hx1)).trans hx1
   replace hx3 := (HI.out.2.cell (World.block_lt_of_cell? W11 _ hx3)).trans hx3
   simp only [Int.toNat_natCast] at hx1 hx3
   have g1 : wr.cell? ⟨w.heap.size, 1, none⟩ = some (.slice (some ad) mt.length c1) := (blk_cell BXr.out 1).trans rfl
   go_upto_region 17 with (fail)
   refine start_ (n := 16) (S := fun w' => w'.cell? ⟨w.heap.size, 1, none⟩ = some (.slice (some ad) mt.length c1) ∧ w'.cell? ⟨(ad.add (k * 7)).block, (ad.add (k * 7)).off + 1, none⟩ = some (.int .i64 (rd_T70 mt (k : Int)).f1) ∧ w'.cell? ⟨(ad.add (k * 7)).block, (ad.add (k * 7)).off + 3, none⟩ = some (.int .i64 (rd_T70 mt (k : Int)).f3)) (ds := []) (bA 16 0) (by kernel_rfl) rfl rfl ⟨g1, hx1, hx3⟩ (fun hHeld => ?_)
   refine with_tabW pl17_tab pl17_bits (fun HT_ HW_ => ?_)
   refine pQ 0 (some 103) (bA 16 1) ?_
   refine pQ 1 (some 104) (bA 16 3) ?_
   refine tQ 2 (some 105) (bA 16 7) ?_
   refine pQ 3 (some 106) (bA 16 15) ?_
   refine pQ 4 (some 107) (bA 16 31) ?_
   refine pQ 5 (some 108) (bA 16 63) ?_
   refine tQ 6 (some 109) (bA 16 127) ?_
   refine pQ 7 (some 110) (bA 16 255) ?_
   refine tQ 8 (some 111) (bA 16 511) ?_
   refine pQ 9 (some 112) (bA 16 1023) ?_
   refine pQ 10 (some 113) (bA 16 2047) ?_
   refine pQ 11 (some 114) (bA 16 4095) ?_
   refine tQ 12 (some 115) (bA 16 8191) ?_
   refine pQ 13 (some 116) (bA 16 16383) ?_
   refine pQ 14 (some 117) (bA 16 32767) ?_
   refine pQ 15 (some 20) (bA 16 65535) ?_
   refine done_ (done_of HT_.out (by kernel_rfl)) ?_
   go_wp2
   go_roundg kq
   case measure => exact Nat.lt_succ_self _
   case rel => exact ⟨k + 1, by rw [HWK.out.2], by first | rw [HWK.out.1] | rfl | (push_cast; rfl), ⟨by rw [← HI.out.1]; exact Nat.add_right_comm k 1 kq, below_drew1 HI.out.2⟩⟩
  | zero =>
   obtain rfl : k = mt.length := HI.out.1
   have hb := HI.out.2
   clear BXr HI
   replace BX := Sd.mk (blk_below BX.out hb)
   replace BY := Sd.mk (blk_below BY.out hb)
   replace BP := Sd.mk (blk_below BP.out hb)
   replace HWS := Sd.mk (Kd.C_below HWS.out hb)
   replace HB := Sd.mk (below_then HB.out HB.out.size hb)
   clear hb
   obtain ⟨g0, g1, g2, g3, g4, g5, g6, _⟩ := bc7 BX.out; obtain ⟨y0, y1, y2, y3, y4, y5, _⟩ := bc6 BY.out; have p0 : wr.cell? ⟨gp, 0, none⟩ = some (.int .i64 D) := (blk_cell BP.out 0).trans rfl; have p1 : wr.cell? ⟨gp, 1, none⟩ = some (.slice Aw ws.length cw) := (blk_cell BP.out 1).trans rfl
   go_upto_region 18 with (fail)
   go_cut [125] (fun v125 wd => v125 = .bool false ∧ wd = wr)
   case first =>
    by_cases hD : 0 < D
    ·have d0 : decide (0 < D) = true := decide_eq_true hD
     have hl := HLS.out hD
     have d1 : decide (nb1 < leastS mt mt.length) = false := decide_eq_false (Int.not_lt.2 hl)
     have hl' : ¬ nb1 < leastS mt mt.length := Int.not_lt.2 hl
     clear hl
     go_wp2
     go_meet
     case rel => exact ⟨rfl, rfl⟩
    ·have d0 : decide (0 < D) = false := decide_eq_false hD
     go_wp2
     go_meet
     case rel => exact ⟨rfl, rfl⟩
   case rest =>
    obtain ⟨rfl, hwd⟩ := hcut
    subst hwd
    as_aux_lemma =>
    generalize wc = Wl at BX BY BP HWS HB g0 g1 g2 g3 g4 g5 g6 y0 y1 y2 y3 y4 y5 p0 p1 ⊢
    clear g0 g1 g2 g3 g4 g5 g6 y0 y1 y2 y3 y4 y5 p0 p1
    go_wp2
    go_loopg [22, 17, 18, 19] 2 (fun kq v22 v17 v18 v19 W' => ∃ (i : Nat) (D' : Int) (y : List Int) (Ay : Option Addr) (cy : Nat) (a1 : Int) (a2 : Bool) (a3 : Int), v22 = .int .i64 (i : Int) ∧ v17 = .int .i64 a1 ∧ v18 = .bool a2 ∧ v19 = .int .i64 a3 ∧ Sd (i + kq = 2 ∧ boundR l0 mt l2 l3 b4 b5 b6 D' y = (a1, a2, a3) ∧ W'.heap[gp]? = some (.cells #[.int .i64 D', .slice Ay y.length cy] 32 (0, 0)) ∧ Kd.C (Kd.int .i64) W' Ay y.length y ∧ y.length ≤ cy ∧ Near gp Wl W'))
    case atStart => exact ⟨0, D, ws, Aw, cw, nb1, nb2, 0, by simp, rfl, rfl, rfl, ⟨Nat.zero_add _, HNB.out, BP.out, HWS.out, HCW.out, Near.refl _ _⟩⟩
    case round =>
     clear HNB HLS
     obtain ⟨i, D', y, Ay, cy, a1, a2, a3, rfl, rfl, rfl, rfl, HI⟩ := hrel
     have HBr := Sd.mk (below_near HB.out HI.out.2.2.2.2.2 (Nat.le_of_lt (Nat.lt_trans (Nat.lt_succ_self _) HGP.out)))
     have BXr := Sd.mk (HI.out.2.2.2.2.2.blk BX.out (Nat.ne_of_lt (Nat.lt_trans (Nat.lt_succ_self _) HGP.out)))
     have BYr := Sd.mk (HI.out.2.2.2.2.2.blk BY.out (Nat.ne_of_lt HGP.out))
     cases gk with
     | zero =>
      obtain rfl : i = 2 := HI.out.1
      go_wp2_with (go_at_call 12; (refine (lw_lives.calls _ _ _ HL.out).mono ?_); rintro e W9 ⟨rfl, hb⟩)
      go_ret
      exact ⟨rfl, below_then HBr.out HBr.out.size hb⟩
     | succ ki =>
      have hi2 : i < 2 := by rw [← HI.out.1]; exact Nat.lt_add_of_pos_right (Nat.succ_pos _)
      have hd2 : decide ((i : Int) < 2) = true := decide_eq_true (by omega)
      have HWI := Sd.mk (wrap_idx hi2 (by decide))
      have hF1 := HF1.out D' y
      have hF2 := HF2.out D' y
      rw [HI.out.2.1] at hF1 hF2
      have HG1 := Sd.mk hF1
      have HG2 := Sd.mk hF2
      clear hF1 hF2
      have p0 : wr.cell? ⟨gp, 0, none⟩ = some (.int .i64 D') := (blk_cell HI.out.2.2.1 0).trans rfl
      go_upto_region 23 with (fail)
      go_cut [151] (fun v151 wd => v151 = .bool false ∧ wd = wr)
      case first =>
       by_cases hn : a3 = 0
       rotate_left
       ·have dn : (a3 == 0) = false := beq_eq_false_iff_ne.2 hn
        go_wp2
        go_meet
        case rel => exact ⟨rfl, rfl⟩
       have dj : (a3 == 0) = true := beq_iff_eq.2 hn
       have HJA := Sd.mk hn
       clear hn
       by_cases hn : v4 = 0
       rotate_left
       ·have dn : (v4 == 0) = false := beq_eq_false_iff_ne.2 hn
        go_wp2
        go_meet
        case rel => exact ⟨rfl, rfl⟩
       have df : (v4 == 0) = true := beq_iff_eq.2 hn
       have HJF := Sd.mk hn
       clear hn
       cases v3 with
       | false =>
        go_wp2
        go_meet
        case rel => exact ⟨rfl, rfl⟩
       | true =>
        obtain ⟨e1, e2⟩ := HG1.out HJA.out HJF.out rfl
        obtain rfl : a2 = false := e1
        by_cases hD : 0 < D'
        ·have hl := e2 hD
         have d0 : decide (0 < D') = true := decide_eq_true hD
         have d1 : decide (v2 < a1) = false := decide_eq_false (Int.not_lt.2 hl)
         have hl' : ¬ v2 < a1 := Int.not_lt.2 hl
         clear hl e2
         go_wp2
         go_meet
         case rel => exact ⟨rfl, rfl⟩
        ·have d0 : decide (0 < D') = false := decide_eq_false hD
         clear e2
         go_wp2
         go_meet
         case rel => exact ⟨rfl, rfl⟩
      case rest =>
       obtain ⟨rfl, hwd⟩ := hcut
       subst hwd
       as_aux_lemma =>
       go_upto_region 25 with (fail)
       go_cut [184] (fun v184 wd => v184 = .bool false ∧ wd = wc)
       case first =>
        by_cases hn : a3 = 0
        rotate_left
        ·have dn : (a3 == 0) = false := beq_eq_false_iff_ne.2 hn
         go_wp2
         go_meet
         case rel => exact ⟨rfl, rfl⟩
        have da3 : (a3 == 0) = true := beq_iff_eq.2 hn
        have HQa3 := Sd.mk hn
        clear hn
        by_cases hn : p2' = 0
        rotate_left
        ·have dn : (p2' == 0) = false := beq_eq_false_iff_ne.2 hn
         go_wp2
         go_meet
         case rel => exact ⟨rfl, rfl⟩
        have dp2 : (p2' == 0) = true := beq_iff_eq.2 hn
        have HQp2 := Sd.mk hn
        clear hn
        by_cases hn : q2' = 0
        rotate_left
        ·have dn : (q2' == 0) = false := beq_eq_false_iff_ne.2 hn
         go_wp2
         go_meet
         case rel => exact ⟨rfl, rfl⟩
        have dq2 : (q2' == 0) = true := beq_iff_eq.2 hn
        have HQq2 := Sd.mk hn
        clear hn
        by_cases hn : k2' = 0
        rotate_left
        ·have dn : (k2' == 0) = false := beq_eq_false_iff_ne.2 hn
         go_wp2
         go_meet
         case rel => exact ⟨rfl, rfl⟩
        have dk2 : (k2' == 0) = true := beq_iff_eq.2 hn
        have HQk2 := Sd.mk hn
        clear hn
        cases p1' with
        | false =>
         go_wp2
         go_meet
         case rel => exact ⟨rfl, rfl⟩
        | true =>
        cases q1' with
        | false =>
         go_wp2
         go_meet
         case rel => exact ⟨rfl, rfl⟩
        | true =>
         obtain ⟨e1, e2⟩ := HG2.out HQa3.out HQp2.out rfl rfl
         obtain rfl : a2 = false := e1
         by_cases hD : 0 < D'
         ·have hl := e2 hD
          have d0 : decide (0 < D') = true := decide_eq_true hD
          have d1 : decide (k1' < a1) = false := decide_eq_false (Int.not_lt.2 hl)
          have hl' : ¬ k1' < a1 := Int.not_lt.2 hl
          clear hl e2
          go_wp2
          go_meet
          case rel => exact ⟨rfl, rfl⟩
         ·have d0 : decide (0 < D') = false := decide_eq_false hD
          clear e2
          go_wp2
          go_meet
          case rel => exact ⟨rfl, rfl⟩
       case rest =>
        obtain ⟨rfl, hwd⟩ := hcut
        subst hwd
        as_aux_lemma =>
        clear HG1 HG2 p0
        have p0 := (blk_cell HI.out.2.2.1 0).trans rfl
        have p1 := (blk_cell HI.out.2.2.1 1).trans rfl
        have f0 := blk_frozen HI.out.2.2.1 0
        have f1 := blk_frozen HI.out.2.2.1 1
        obtain ⟨y0, y1, y2, y3, y4, y5, _⟩ := bc6 BYr.out
        go_upto_region 28 with (fail)
        clear p0 p1 f0 f1 y0 y1 y2 y3 y4 y5
        refine wp_any (fun W => W.heap[gp]? = some (.cells #[.int .i64 n4, .slice B5 m5.length x5] 32 (0, 0)) ∧ Near gp Wl W) ⟨blk_put (blk_put HI.out.2.2.1 0 _ rfl) 1 _ rfl, (HI.out.2.2.2.2.2.trans (Near.set _ 0 _)).trans (Near.set _ 1 _)⟩ ?_
        rintro W13 ⟨bq, hnr⟩
        have BQ := Sd.mk bq
        have HNR := Sd.mk hnr
        have HIi := Sd.mk HI.out.1
        clear bq hnr HI BXr BYr HBr
        have HBr := Sd.mk (below_near HB.out HNR.out (Nat.le_of_lt (Nat.lt_trans (Nat.lt_succ_self _) HGP.out)))
        obtain ⟨g0, g1, g2, g3, g4, g5, g6, _⟩ := bc7 (HNR.out.blk BX.out (Nat.ne_of_lt (Nat.lt_trans (Nat.lt_succ_self _) HGP.out)))
        have p0 : W13.cell? ⟨gp, 0, none⟩ = some (.int .i64 n4) := (blk_cell BQ.out 0).trans rfl
        have p1 : W13.cell? ⟨gp, 1, none⟩ = some (.slice B5 m5.length x5) := (blk_cell BQ.out 1).trans rfl
        obtain ⟨kd, hkd⟩ := bBound l0 mt l2 l3 b4 b5 b6 n4 m5
        have hbd := hkd kd (Nat.le_refl _)
        clear hkd
        obtain ⟨z1, z2, z3, ez⟩ : ∃ z1 z2 z3, boundR l0 mt l2 l3 b4 b5 b6 n4 m5 = (z1, z2, z3) := ⟨_, _, _, rfl⟩
        rw [ez] at hbd
        have HBD := Sd.mk hbd
        have EZ := Sd.mk ez
        clear hbd ez
        go_wp2_with (go_at_call 35; (refine (b_Bound.calls kd A0 c0 l0 A1 c1 mt A2 c2 l2 A3 c3 l3 b4 b5 b6 n4 B5 x5 m5 z1 z2 z3 _ (Kd.C_below HR.out.1 HBr.out) h00 (Kd.C_below HR.out.2.1 HBr.out) h01 (Kd.C_below HR.out.2.2.1 HBr.out) h02 (Kd.C_below HR.out.2.2.2.1 HBr.out) h03 (Kd.C_below HR.out.2.2.2.2.2.2 HBr.out) k5 HBD.out).mono ?_); rintro e W14 ⟨rfl, hb⟩; have HB14 := Sd.mk hb; clear hb)
        go_roundg ki
        case measure => exact Nat.lt_succ_self _
        case rel => exact ⟨i + 1, n4, m5, B5, x5, z1, z2, z3, by first | rw [HWI.out] | rfl | (push_cast; rfl), rfl, rfl, rfl, ⟨by rw [← HIi.out]; exact Nat.add_right_comm i 1 ki, EZ.out, blk_below BQ.out HB14.out, Kd.C_below HR.out.2.2.2.2.2.2 (below_then HBr.out HBr.out.size HB14.out), k5, HNR.out.trans (Near.of_below (Nat.le_of_lt (blk_lt BQ.out)) HB14.out)⟩⟩
end
end Go.Proofs.YtljfljekcpdpiaaGreat.PB
