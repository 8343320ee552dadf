import Derived.Test.YtljfljekcpdpiaaGreatX2
import Derived.Deep.RegionWith
import Derived.Deep.DeepCutAuto
import Derived.Laws.EntriesVeiled
import Derived.KernelRfl
import Derived.RangeFuncNested
import Derived.RangeFuncBound
import Derived.RangeFuncCalls
import Derived.RangeFuncLeaves
import Derived.Shelf.Abstract
import Derived.Shelf.RegionOpen
import Derived.WalkKit
import Derived.OwnWalkIn
import Derived.TacticsInMore
import Derived.LoopNIn
import Derived.LoopIn
import Derived.Scope
import Derived.Sort.LoopGhostIn
import Derived.Lib.LazyBuf
set_option linter.unusedVariables false
set_option linter.unusedSimpArgs false
set_option maxHeartbeats 8000000
set_option maxRecDepth 1000000
namespace Go.Proofs.YtljfljekcpdpiaaGreat.PB
open Go.RowKit Go.Proofs.YtljfljekcpdpiaaGreatW.PrintWords Go.Proofs.YtljfljekcpdpiaaGreatW.PrintLast Go.Proofs.YtljfljekcpdpiaaGreatW.PrintMore
section
def meanOkB (cf : Int → Int) (l : List S27) : Bool :=
 decide (l.length ≤ 12) && ((List.range l.length).all fun j => decide (0 ≤ (rd_T27 l (j : Int)).f0) && decide ((rd_T27 l (j : Int)).f0 ≤ (rd_T27 l (j : Int)).f1) && decide ((rd_T27 l (j : Int)).f1 ≤ 1000000000) && decide (-100000 ≤ cf j) && decide (cf j ≤ 100000)) && decide (0 < MeanMath.lsum S27.f0 l)
theorem meanOkB_iff {cf : Int → Int} {l : List S27} : meanOkB cf l = true ↔ MeanOk cf l := by
 unfold meanOkB
 simp only [Bool.and_eq_true, decide_eq_true_eq, List.all_eq_true, List.mem_range]
 constructor
 ·rintro ⟨⟨h1, h2⟩, h3⟩
  have key : ∀ k : Int, 0 ≤ k → k < l.length → ∃ j : Nat, j < l.length ∧ k = j := fun k h0 h1 => ⟨k.toNat, by omega, by omega⟩
  refine ⟨h1, ?_, ?_, ?_, ?_, ?_, h3⟩ <;> intro k h0 hl <;> obtain ⟨j, hj, rfl⟩ := key k h0 hl <;> have := h2 j hj <;> omega
 ·intro h
  refine ⟨⟨h.n12, fun j hj => ?_⟩, h.pos⟩
  have h0 : (0 : Int) ≤ j := by omega
  have hl : (j : Int) < l.length := by omega
  exact ⟨⟨⟨⟨h.lo _ h0 hl, h.le _ h0 hl⟩, h.hi _ h0 hl⟩, h.c1 _ h0 hl⟩, h.c2 _ h0 hl⟩
theorem value1_calls (H P : Nat) (A0_0 : Option Addr) (c0_0 : Nat) (l0_0 : List ByteArray) (A0_1 : Option Addr) (c0_1 : Nat) (l0_1 : List (S70)) (A0_2 : Option Addr) (c0_2 : Nat) (l0_2 : List (S27)) (A0_3 : Option Addr) (c0_3 : Nat) (l0_3 : List (S89)) (a0_4 : Int) (a0_5 : Int) (a0_6 : Int) (a2 : Int) (W : World) (hH : W.heap[H]? = some (.cells #[.slice A0_0 l0_0.length c0_0, .slice A0_1 l0_1.length c0_1, .slice A0_2 l0_2.length c0_2, .slice A0_3 l0_3.length c0_3, .int .i64 a0_4, .int .i64 a0_5, .int .i64 a0_6] 29 (0, 0))) (hP : W.heap[P]? = some (.cells #[.int .i64 a2] 3 (0, 0)))
  (hr : Kd.C k89 W A0_3 l0_3.length l0_3) (h0 : 0 ≤ a2) (h1 : a2 < l0_3.length) (x : Int) (hx0 : 0 ≤ x) (hx1 : x < (rd_T89 l0_3 a2).f1.length) :
  Calls Tryz.prog 131 #[.int .i64 x, .pointer (some ⟨H, 0, none⟩), .pointer (some ⟨P, 0, none⟩)] W fun e w' => e = .returned (.int .i64 (rd (rd_T89 l0_3 a2).f1 x)) ∧ ∃ q, w' = W.drewN q := by
 obtain ⟨ad, A1, c1, rfl, hq0, hq1, hq2, hq3, hl, hC⟩ := at_T89 hr a2 h0 h1
 obtain ⟨ae, rfl, hqx⟩ := Kd.at_int hC x hx0 hx1
 have hH3 : W.cell? ⟨H, 0 + 3, none⟩ = some (.slice (some ad) l0_3.length c0_3) := (blk_cell hH 3).trans rfl
 have hP0 : W.cell? ⟨P, 0, none⟩ = some (.int .i64 a2) := (blk_cell hP 0).trans rfl
 clear hr
 go_enter Tryz.func131, Tryz.ntmps131
 go_wp2
 go_ret
 exact ⟨rfl, 0, rfl⟩
def x_Value.f (k : Nat) (l0_0 : List ByteArray) (l0_1 : List (S70)) (l0_2 : List (S27)) (l0_3 : List (S89)) (a0_4 : Int) (a0_5 : Int) (a0_6 : Int) (l1 : List Int) (a2 : Int) : Option (Int × Int × Int) := (b_asked.f k l0_0 l0_1 l0_2 l0_3 a0_4 a0_5 a0_6 l1).bind fun e => if e = 0 then ((b_within.f a2 0 (wrap64 ((l0_3.length : Int) - 1))).bind fun b => if b = true then ((x_glass.f k l0_0 l0_1 l0_2 l0_3 a0_4 a0_5 a0_6 l1).bind fun p => if p.2 = 0 then (if 0 ≤ a2 ∧ a2 < l0_3.length ∧ p.1.length ≤ (rd_T89 l0_3 a2).f1.length ∧ meanOkB (rd (rd_T89 l0_3 a2).f1) p.1 = true then some (meanLo (rd (rd_T89 l0_3 a2).f1) p.1, meanHi (rd (rd_T89 l0_3 a2).f1) p.1, 0) else none) else some (0, 0, p.2)) else some (0, 0, 7)) else some (0, 0, e)
theorem x_Value.calls (k : Nat) (A0_0 : Option Addr) (c0_0 : Nat) (l0_0 : List ByteArray) (A0_1 : Option Addr) (c0_1 : Nat) (l0_1 : List (S70)) (A0_2 : Option Addr) (c0_2 : Nat) (l0_2 : List (S27)) (A0_3 : Option Addr) (c0_3 : Nat) (l0_3 : List (S89)) (a0_4 : Int) (a0_5 : Int) (a0_6 : Int) (A1 : Option Addr) (c1 : Nat) (l1 : List Int) (a2 : Int) (r1 : Int) (r2 : Int) (r3 : Int) (w : World) (hr0_0 : Kd.C Kd.string w A0_0 l0_0.length l0_0) (hc0_0 : l0_0.length ≤ c0_0) (hr0_1 : Kd.C k70 w A0_1 l0_1.length l0_1) (hc0_1 : l0_1.length ≤ c0_1) (hr0_2 : Kd.C k27 w A0_2 l0_2.length l0_2) (hc0_2 : l0_2.length ≤ c0_2) (hr0_3 : Kd.C k89 w A0_3 l0_3.length l0_3) (hc0_3 : l0_3.length ≤ c0_3) (hr1 : Kd.C (Kd.int .i64) w A1 l1.length l1) (hc1 : l1.length ≤ c1) (h : x_Value.f k l0_0 l0_1 l0_2 l0_3 a0_4 a0_5 a0_6 l1 a2 = some (r1, r2, r3)) :
  Calls Tryz.prog 46 #[.agg #[.slice A0_0 l0_0.length c0_0, .slice A0_1 l0_1.length c0_1, .slice A0_2 l0_2.length c0_2, .slice A0_3 l0_3.length c0_3, .int .i64 a0_4, .int .i64 a0_5, .int .i64 a0_6], .slice A1 l1.length c1, .int .i64 a2] w fun e w' => e = .returned (.tuple #[.agg #[.int .i64 r1, .int .i64 r2], .int .i64 r3]) ∧ Below w.heap.size w w' := by
 unfold x_Value.f at h
 obtain ⟨ea, ha, H⟩ := Option.bind_eq_some_iff.mp h
 have hb0 : Below w.heap.size w (((w.alloc (.cells #[.slice A0_0 l0_0.length c0_0, .slice A0_1 l0_1.length c0_1, .slice A0_2 l0_2.length c0_2, .slice A0_3 l0_3.length c0_3, .int .i64 a0_4, .int .i64 a0_5, .int .i64 a0_6] 29)).alloc (.cells #[.int .i64 a2] 3)).alloc (.cells #[.int .i64 0, .int .i64 0] 27)) := below_alloc (below_alloc (below_alloc (Below.refl _ _) _) _) _
 have hH : (((w.alloc (.cells #[.slice A0_0 l0_0.length c0_0, .slice A0_1 l0_1.length c0_1, .slice A0_2 l0_2.length c0_2, .slice A0_3 l0_3.length c0_3, .int .i64 a0_4, .int .i64 a0_5, .int .i64 a0_6] 29)).alloc (.cells #[.int .i64 a2] 3)).alloc (.cells #[.int .i64 0, .int .i64 0] 27)).heap[w.heap.size]? = some (.cells #[.slice A0_0 l0_0.length c0_0, .slice A0_1 l0_1.length c0_1, .slice A0_2 l0_2.length c0_2, .slice A0_3 l0_3.length c0_3, .int .i64 a0_4, .int .i64 a0_5, .int .i64 a0_6] 29 (0, 0)) := blk_alloc (blk_alloc (blk_new w _) _) _
 have hP : (((w.alloc (.cells #[.slice A0_0 l0_0.length c0_0, .slice A0_1 l0_1.length c0_1, .slice A0_2 l0_2.length c0_2, .slice A0_3 l0_3.length c0_3, .int .i64 a0_4, .int .i64 a0_5, .int .i64 a0_6] 29)).alloc (.cells #[.int .i64 a2] 3)).alloc (.cells #[.int .i64 0, .int .i64 0] 27)).heap[w.heap.size + 1]? = some (.cells #[.int .i64 a2] 3 (0, 0)) := by
  have := blk_alloc (blk_new (w.alloc (.cells #[.slice A0_0 l0_0.length c0_0, .slice A0_1 l0_1.length c0_1, .slice A0_2 l0_2.length c0_2, .slice A0_3 l0_3.length c0_3, .int .i64 a0_4, .int .i64 a0_5, .int .i64 a0_6] 29)) (.cells #[.int .i64 a2] 3)) (.cells #[.int .i64 0, .int .i64 0] 27)
  simpa using this
 have hZ : (((w.alloc (.cells #[.slice A0_0 l0_0.length c0_0, .slice A0_1 l0_1.length c0_1, .slice A0_2 l0_2.length c0_2, .slice A0_3 l0_3.length c0_3, .int .i64 a0_4, .int .i64 a0_5, .int .i64 a0_6] 29)).alloc (.cells #[.int .i64 a2] 3)).alloc (.cells #[.int .i64 0, .int .i64 0] 27)).heap[w.heap.size + 1 + 1]? = some (.cells #[.int .i64 0, .int .i64 0] 27 (0, 0)) := by
  have := blk_new ((w.alloc (.cells #[.slice A0_0 l0_0.length c0_0, .slice A0_1 l0_1.length c0_1, .slice A0_2 l0_2.length c0_2, .slice A0_3 l0_3.length c0_3, .int .i64 a0_4, .int .i64 a0_5, .int .i64 a0_6] 29)).alloc (.cells #[.int .i64 a2] 3)) (.cells #[.int .i64 0, .int .i64 0] 27)
  simpa using this
 have hgo := b_asked.calls k A0_0 c0_0 l0_0 A0_1 c0_1 l0_1 A0_2 c0_2 l0_2 A0_3 c0_3 l0_3 a0_4 a0_5 a0_6 A1 c1 l1 ea (((w.alloc (.cells #[.slice A0_0 l0_0.length c0_0, .slice A0_1 l0_1.length c0_1, .slice A0_2 l0_2.length c0_2, .slice A0_3 l0_3.length c0_3, .int .i64 a0_4, .int .i64 a0_5, .int .i64 a0_6] 29)).alloc (.cells #[.int .i64 a2] 3)).alloc (.cells #[.int .i64 0, .int .i64 0] 27)) (Kd.C_below hr0_0 hb0) hc0_0 (Kd.C_below hr0_1 hb0) hc0_1 (Kd.C_below hr0_2 hb0) hc0_2 (Kd.C_below hr0_3 hb0) hc0_3 (Kd.C_below hr1 hb0) hc1 ha
 clear h ha
 have HR0_0 := Sd.mk hr0_0
 have HC0_0 := Sd.mk hc0_0
 clear hr0_0 hc0_0
 have HR0_1 := Sd.mk hr0_1
 have HC0_1 := Sd.mk hc0_1
 clear hr0_1 hc0_1
 have HR0_2 := Sd.mk hr0_2
 have HC0_2 := Sd.mk hc0_2
 clear hr0_2 hc0_2
 have HR0_3 := Sd.mk hr0_3
 have HC0_3 := Sd.mk hc0_3
 clear hr0_3 hc0_3
 have HR1 := Sd.mk hr1
 have HC1 := Sd.mk hc1
 clear hr1 hc1
 have HB := Sd.mk hb0
 have HH := Sd.mk H
 have BH := Sd.mk hH
 have BP := Sd.mk hP
 have BZ := Sd.mk hZ
 clear hb0 H hH hP hZ
 go_enter Tryz.func46, Tryz.ntmps46
 go_wp2_with fail
 generalize (((w.alloc (.cells #[.slice A0_0 l0_0.length c0_0, .slice A0_1 l0_1.length c0_1, .slice A0_2 l0_2.length c0_2, .slice A0_3 l0_3.length c0_3, .int .i64 a0_4, .int .i64 a0_5, .int .i64 a0_6] 29)).alloc (.cells #[.int .i64 a2] 3)).alloc (.cells #[.int .i64 0, .int .i64 0] 27)) = w0 at *
 refine hgo.mono ?_
 clear hgo
 rintro e w1 ⟨rfl, hb⟩
 have HB1 := Sd.mk (below_trans' HB.out hb)
 have BH1 := Sd.mk (blk_below BH.out hb)
 have BP1 := Sd.mk (blk_below BP.out hb)
 have BZ1 := Sd.mk (blk_below BZ.out hb)
 clear hb HB BH BP BZ w0
 have hz0 : w1.cell? ⟨w.heap.size + 1 + 1, 0, none⟩ = some (.int .i64 0) := (blk_cell BZ1.out 0).trans rfl
 have hz1 : w1.cell? ⟨w.heap.size + 1 + 1, 1, none⟩ = some (.int .i64 0) := (blk_cell BZ1.out 1).trans rfl
 have hzf0 := blk_frozen BZ1.out 0
 have hzf1 := blk_frozen BZ1.out 1
 have H := HH.out
 clear HH
 by_cases he : ea = 0
 ·rw [if_pos he] at H
  have heb : (ea != 0) = false := by simp [he]
  obtain ⟨bw, hbw, H⟩ := Option.bind_eq_some_iff.mp H
  have hgo := b_within.calls a2 0 (wrap64 ((l0_3.length : Int) - 1)) bw w1 hbw
  have hh3 : w1.cell? ⟨w.heap.size, 0 + 3, none⟩ = some (.slice A0_3 l0_3.length c0_3) := (blk_cell BH1.out 3).trans rfl
  have hp0 : w1.cell? ⟨w.heap.size + 1, 0, none⟩ = some (.int .i64 a2) := (blk_cell BP1.out 0).trans rfl
  have HH := Sd.mk H
  have HE := Sd.mk he
  clear H he hbw
  clear hz0 hz1 hzf0 hzf1
  go_wp2_with fail
  refine hgo.mono ?_
  clear hgo
  rintro e w2 ⟨rfl, hd⟩
  have hb := hd.below
  clear hd
  clear hh3 hp0
  have HB2 := Sd.mk (below_trans' HB1.out hb)
  have BH2 := Sd.mk (blk_below BH1.out hb)
  have BP2 := Sd.mk (blk_below BP1.out hb)
  have BZ2 := Sd.mk (blk_below BZ1.out hb)
  clear hb HB1 BH1 BP1 BZ1
  have H := HH.out
  clear HH
  cases hbb : bw with
  | true =>
   rw [if_pos hbb] at H
   obtain ⟨p, hp, H⟩ := Option.bind_eq_some_iff.mp H
   obtain ⟨pl, pe⟩ := p
   dsimp only at H
   have hgo := x_glass.calls k A0_0 c0_0 l0_0 A0_1 c0_1 l0_1 A0_2 c0_2 l0_2 A0_3 c0_3 l0_3 a0_4 a0_5 a0_6 A1 c1 l1 pl pe w2 (Kd.C_below HR0_0.out HB2.out) HC0_0.out (Kd.C_below HR0_1.out HB2.out) HC0_1.out (Kd.C_below HR0_2.out HB2.out) HC0_2.out (Kd.C_below HR0_3.out HB2.out) HC0_3.out (Kd.C_below HR1.out HB2.out) HC1.out hp
   have hc_0 : w2.cell? ⟨w.heap.size, 0, none⟩ = some (.slice A0_0 l0_0.length c0_0) := (blk_cell BH2.out 0).trans rfl
   have hc_1 : w2.cell? ⟨w.heap.size, 1, none⟩ = some (.slice A0_1 l0_1.length c0_1) := (blk_cell BH2.out 1).trans rfl
   have hc_2 : w2.cell? ⟨w.heap.size, 2, none⟩ = some (.slice A0_2 l0_2.length c0_2) := (blk_cell BH2.out 2).trans rfl
   have hc_3 : w2.cell? ⟨w.heap.size, 3, none⟩ = some (.slice A0_3 l0_3.length c0_3) := (blk_cell BH2.out 3).trans rfl
   have hc_4 : w2.cell? ⟨w.heap.size, 4, none⟩ = some (.int .i64 a0_4) := (blk_cell BH2.out 4).trans rfl
   have hc_5 : w2.cell? ⟨w.heap.size, 5, none⟩ = some (.int .i64 a0_5) := (blk_cell BH2.out 5).trans rfl
   have hc_6 : w2.cell? ⟨w.heap.size, 6, none⟩ = some (.int .i64 a0_6) := (blk_cell BH2.out 6).trans rfl
   clear hp hbb
   have HH := Sd.mk H
   clear H
   go_wp2_with fail
   refine hgo.mono ?_
   clear hgo hc_0 hc_1 hc_2 hc_3 hc_4 hc_5 hc_6
   rintro e w3 ⟨v, rfl, hR, hb⟩
   obtain ⟨A, c, rfl, hlc, hC⟩ := Kd.R_reads hR
   clear hR
   have HB3 := Sd.mk (below_trans' HB2.out hb)
   have BH3 := Sd.mk (blk_below BH2.out hb)
   have BP3 := Sd.mk (blk_below BP2.out hb)
   have BZ3 := Sd.mk (blk_below BZ2.out hb)
   clear hb HB2 BH2 BP2 BZ2
   have H := HH.out
   clear HH
   by_cases hpe : pe = 0
   ·rw [if_pos hpe] at H
    have hpb : (pe != 0) = false := by simp [hpe]
    have hif : (0 ≤ a2 ∧ a2 < l0_3.length ∧ pl.length ≤ (rd_T89 l0_3 a2).f1.length ∧ meanOkB (rd (rd_T89 l0_3 a2).f1) pl = true) := by
     by_cases hh : (0 ≤ a2 ∧ a2 < l0_3.length ∧ pl.length ≤ (rd_T89 l0_3 a2).f1.length ∧ meanOkB (rd (rd_T89 l0_3 a2).f1) pl = true)
     ·exact hh
     ·rw [if_neg hh] at H; cases H
    rw [if_pos hif] at H
    obtain ⟨h0, h1, h2, h3⟩ := hif
    simp only [Option.some.injEq, Prod.mk.injEq] at H
    obtain ⟨rfl, rfl, rfl⟩ := H
    have hq : CoefQ 131 #[.pointer (some ⟨w.heap.size, 0, none⟩), .pointer (some ⟨w.heap.size + 1, 0, none⟩)] (rd (rd_T89 l0_3 a2).f1) pl.length w3 := fun W hbW x hx0 hx1 =>
     value1_calls w.heap.size (w.heap.size + 1) A0_0 c0_0 l0_0 A0_1 c0_1 l0_1 A0_2 c0_2 l0_2 A0_3 c0_3 l0_3 a0_4 a0_5 a0_6 a2 W (blk_below BH3.out hbW) (blk_below BP3.out hbW) (Kd.C_below (Kd.C_below HR0_3.out HB3.out) hbW) h0 h1 x hx0 (by omega)
    have hgo := mean_calls (rd (rd_T89 l0_3 a2).f1) A c pl 131 #[.pointer (some ⟨w.heap.size, 0, none⟩), .pointer (some ⟨w.heap.size + 1, 0, none⟩)] w3 (enters_of Tryz.func131 (by kernel_rfl) rfl) hC hlc hq (meanOkB_iff.mp h3)
    clear hq
    go_wp2_with fail
    refine hgo.mono ?_
    clear hgo
    rintro e w4 ⟨rfl, hb⟩
    have HB4 := Sd.mk (below_trans' HB3.out hb)
    have BZ4 := Sd.mk (blk_below BZ3.out hb)
    clear hb HB3 BH3 BP3 BZ3
    have hz0 : w4.cell? ⟨w.heap.size + 1 + 1, 0, none⟩ = some (.int .i64 0) := (blk_cell BZ4.out 0).trans rfl
    have hz1 : w4.cell? ⟨w.heap.size + 1 + 1, 1, none⟩ = some (.int .i64 0) := (blk_cell BZ4.out 1).trans rfl
    have hzf0 := blk_frozen BZ4.out 0
    have hzf1 := blk_frozen BZ4.out 1
    go_wp2
    refine bodyPost_ret (results_ct rfl _ _ (w.heap.size + 1 + 1) 27 #[.int .i64 (meanLo (rd (rd_T89 l0_3 a2).f1) pl), .int .i64 (meanHi (rd (rd_T89 l0_3 a2).f1) pl)] (0, 0) _ rfl (by (with_reducible repeat (first | refine blk_drewN ?_ _ | refine blk_drew ?_ | refine blk_alloc ?_ _)); refine blk_put (cs := #[.int .i64 (meanLo (rd (rd_T89 l0_3 a2).f1) pl), .int .i64 0]) ?_ 1 _ rfl; (with_reducible repeat (first | refine blk_drewN ?_ _ | refine blk_drew ?_ | refine blk_alloc ?_ _)); refine blk_put (cs := #[.int .i64 0, .int .i64 0]) ?_ 0 _ rfl; exact BZ4.out) Tryz.underlying27 rfl (by kernel_rfl)) rfl ?_
    refine ⟨rfl, ?_⟩
    repeat (first | exact HB4.out | apply below_alloc | apply pw_below_drewN | apply below_drew1 | refine below_set ?_ (by omega))
   ·rw [if_neg hpe] at H
    have hpb : (pe != 0) = true := by simp [hpe]
    simp only [Option.some.injEq, Prod.mk.injEq] at H
    obtain ⟨rfl, rfl, rfl⟩ := H
    have hz0 : w3.cell? ⟨w.heap.size + 1 + 1, 0, none⟩ = some (.int .i64 0) := (blk_cell BZ3.out 0).trans rfl
    have hz1 : w3.cell? ⟨w.heap.size + 1 + 1, 1, none⟩ = some (.int .i64 0) := (blk_cell BZ3.out 1).trans rfl
    have hzf0 := blk_frozen BZ3.out 0
    have hzf1 := blk_frozen BZ3.out 1
    go_wp2
    refine bodyPost_ret (results_ct rfl _ _ (w.heap.size + 1 + 1) 27 #[.int .i64 0, .int .i64 0] (0, 0) _ rfl (by (with_reducible repeat (first | refine blk_drewN ?_ _ | refine blk_drew ?_ | refine blk_alloc ?_ _)); refine blk_put (cs := #[.int .i64 0, .int .i64 0]) ?_ 1 _ rfl; (with_reducible repeat (first | refine blk_drewN ?_ _ | refine blk_drew ?_ | refine blk_alloc ?_ _)); refine blk_put (cs := #[.int .i64 0, .int .i64 0]) ?_ 0 _ rfl; exact BZ3.out) Tryz.underlying27 rfl (by kernel_rfl)) rfl ?_
    refine ⟨rfl, ?_⟩
    repeat (first | exact HB3.out | apply below_alloc | apply pw_below_drewN | apply below_drew1 | refine below_set ?_ (by omega))
  | false =>
   rw [if_neg (by simp [hbb])] at H
   simp only [Option.some.injEq, Prod.mk.injEq] at H
   obtain ⟨rfl, rfl, rfl⟩ := H
   have hz0 : w2.cell? ⟨w.heap.size + 1 + 1, 0, none⟩ = some (.int .i64 0) := (blk_cell BZ2.out 0).trans rfl
   have hz1 : w2.cell? ⟨w.heap.size + 1 + 1, 1, none⟩ = some (.int .i64 0) := (blk_cell BZ2.out 1).trans rfl
   have hzf0 := blk_frozen BZ2.out 0
   have hzf1 := blk_frozen BZ2.out 1
   go_wp2
   refine bodyPost_ret (results_ct rfl _ _ (w.heap.size + 1 + 1) 27 #[.int .i64 0, .int .i64 0] (0, 0) _ rfl (by (with_reducible repeat (first | refine blk_drewN ?_ _ | refine blk_drew ?_ | refine blk_alloc ?_ _)); refine blk_put (cs := #[.int .i64 0, .int .i64 0]) ?_ 1 _ rfl; (with_reducible repeat (first | refine blk_drewN ?_ _ | refine blk_drew ?_ | refine blk_alloc ?_ _)); refine blk_put (cs := #[.int .i64 0, .int .i64 0]) ?_ 0 _ rfl; exact BZ2.out) Tryz.underlying27 rfl (by kernel_rfl)) rfl ?_
   refine ⟨rfl, ?_⟩
   repeat (first | exact HB2.out | apply below_alloc | apply pw_below_drewN | apply below_drew1 | refine below_set ?_ (by omega))
 ·rw [if_neg he] at H
  have heb : (ea != 0) = true := by simp [he]
  simp only [Option.some.injEq, Prod.mk.injEq] at H
  obtain ⟨rfl, rfl, rfl⟩ := H
  go_wp2
  refine bodyPost_ret (results_ct rfl _ _ (w.heap.size + 1 + 1) 27 #[.int .i64 0, .int .i64 0] (0, 0) _ rfl (by (with_reducible repeat (first | refine blk_drewN ?_ _ | refine blk_drew ?_ | refine blk_alloc ?_ _)); refine blk_put (cs := #[.int .i64 0, .int .i64 0]) ?_ 1 _ rfl; (with_reducible repeat (first | refine blk_drewN ?_ _ | refine blk_drew ?_ | refine blk_alloc ?_ _)); refine blk_put (cs := #[.int .i64 0, .int .i64 0]) ?_ 0 _ rfl; exact BZ1.out) Tryz.underlying27 rfl (by kernel_rfl)) rfl ?_
  refine ⟨rfl, ?_⟩
  repeat (first | exact HB1.out | apply below_alloc | apply pw_below_drewN | apply below_drew1 | refine below_set ?_ (by omega))
end
section
def st_floored.f (a0 : Int) (a1 : Int) : Option (Int) := if a1 = 0 then (none) else (if (Int.tmod a0 a1) < 0 then (some (wrap64 ((wrap64 (Int.tdiv a0 a1)) - 1))) else (some (wrap64 (Int.tdiv a0 a1))))
end
section
def st_raised.f (a0 : Int) (a1 : Int) : Option (Int) := (st_floored.f (wrap64 (-a0)) a1).bind fun t372 => (some (wrap64 (-t372)))
end
section
attribute [local go_sem] max2_int min2_int max_two min_two
def x_Shock.f (k : Nat) (l0_0 : List ByteArray) (l0_1 : List (S70)) (l0_2 : List (S27)) (l0_3 : List (S89)) (a0_4 : Int) (a0_5 : Int) (a0_6 : Int) (l1 : List Int) (a2 a3 : Int) : Option (Int × Int × Int) :=
  (x_Value.f k l0_0 l0_1 l0_2 l0_3 a0_4 a0_5 a0_6 l1 a2).bind fun v => if v.2.2 = 0 then (if inB a3 0 1000 = true then (st_floored.f (wrap64 (wrap64 (35 * v.1) * a3)) 78).bind fun lo => (st_raised.f (wrap64 (wrap64 (35 * v.2.1) * a3)) 78).bind fun hi => some (if lo < 0 then 0 else lo, if hi < 0 then 0 else hi, 0) else some (0, 0, 1)) else some (0, 0, v.2.2)
theorem errno_ne (e : Int) (h : e ≠ 0) : (e == 0) = false := by simp [h]
theorem floored_still (n d r : Int) (w : World) (h : st_floored.f n d = some r) (hd : (d == 0) = false) : Calls Tryz.prog 67 #[.int .i64 n, .int .i64 d] w fun e w' => e = .returned (.int .i64 r) ∧ w' = w := by
  unfold st_floored.f at h
  have hd' : ¬ d = 0 := by simpa using hd
  rw [if_neg hd'] at h
  by_cases hn : Int.tmod n d < 0
  · rw [if_pos hn] at h
    have H := Sd.mk (Option.some.inj h)
    clear h
    go_enter Tryz.func67, Tryz.ntmps67
    go_wp2
    go_ret
    exact ⟨by rw [← H.out]; rfl, rfl⟩
  · rw [if_neg hn] at h
    have H := Sd.mk (Option.some.inj h)
    clear h
    go_enter Tryz.func67, Tryz.ntmps67
    go_wp2
    go_ret
    exact ⟨by rw [← H.out]; rfl, rfl⟩
theorem raised_still (n d r : Int) (w : World) (h : st_raised.f n d = some r) (hd : (d == 0) = false) : Calls Tryz.prog 68 #[.int .i64 n, .int .i64 d] w fun e w' => e = .returned (.int .i64 r) ∧ w' = w := by
  unfold st_raised.f at h
  obtain ⟨q, hq, h⟩ := Option.bind_eq_some_iff.mp h
  have H := Sd.mk (Option.some.inj h)
  have HQ := Sd.mk hq
  clear h hq
  go_enter Tryz.func68, Tryz.ntmps68
  go_wp2_with (go_at_call 67; refine (floored_still _ _ _ _ HQ.out hd).mono ?_; rintro e w' ⟨rfl, rfl⟩)
  go_ret
  exact ⟨by rw [← H.out]; rfl, rfl⟩
theorem x_Shock.calls (k : Nat) (A0_0 : Option Addr) (c0_0 : Nat) (l0_0 : List ByteArray) (A0_1 : Option Addr) (c0_1 : Nat) (l0_1 : List (S70)) (A0_2 : Option Addr) (c0_2 : Nat) (l0_2 : List (S27)) (A0_3 : Option Addr) (c0_3 : Nat) (l0_3 : List (S89)) (a0_4 : Int) (a0_5 : Int) (a0_6 : Int) (A1 : Option Addr) (c1 : Nat) (l1 : List Int) (a2 a3 : Int) (r1 : Int) (r2 : Int) (r3 : Int) (w : World) (hr0_0 : Kd.C Kd.string w A0_0 l0_0.length l0_0) (hc0_0 : l0_0.length ≤ c0_0) (hr0_1 : Kd.C k70 w A0_1 l0_1.length l0_1) (hc0_1 : l0_1.length ≤ c0_1) (hr0_2 : Kd.C k27 w A0_2 l0_2.length l0_2) (hc0_2 : l0_2.length ≤ c0_2) (hr0_3 : Kd.C k89 w A0_3 l0_3.length l0_3) (hc0_3 : l0_3.length ≤ c0_3) (hr1 : Kd.C (Kd.int .i64) w A1 l1.length l1) (hc1 : l1.length ≤ c1) (h : x_Shock.f k l0_0 l0_1 l0_2 l0_3 a0_4 a0_5 a0_6 l1 a2 a3 = some (r1, r2, r3)) :
    Calls Tryz.prog 21 #[.agg #[.slice A0_0 l0_0.length c0_0, .slice A0_1 l0_1.length c0_1, .slice A0_2 l0_2.length c0_2, .slice A0_3 l0_3.length c0_3, .int .i64 a0_4, .int .i64 a0_5, .int .i64 a0_6], .slice A1 l1.length c1, .int .i64 a2, .int .i64 a3] w fun e w' => e = .returned (.tuple #[.agg #[.int .i64 r1, .int .i64 r2], .int .i64 r3]) ∧ Below w.heap.size w w' := by
  have hmf := run_makeFunc_
  obtain ⟨b1, b2, b3, hb0, hsz⟩ := blk_three w (.cells #[.slice A0_0 l0_0.length c0_0, .slice A0_1 l0_1.length c0_1, .slice A0_2 l0_2.length c0_2, .slice A0_3 l0_3.length c0_3, .int .i64 a0_4, .int .i64 a0_5, .int .i64 a0_6] 29) (.cells #[.int .i64 0, .int .i64 0] 27) (.cells #[.int .i64 0] 38)
  have BR := Sd.mk b2
  have BE := Sd.mk b3
  have HSZ := Sd.mk hsz
  have HB := Sd.mk hb0
  unfold x_Shock.f at h
  obtain ⟨⟨v1, v2, ve⟩, hv, H⟩ := Option.bind_eq_some_iff.mp h
  have HV := Sd.mk (x_Value.calls k A0_0 c0_0 l0_0 A0_1 c0_1 l0_1 A0_2 c0_2 l0_2 A0_3 c0_3 l0_3 a0_4 a0_5 a0_6 A1 c1 l1 a2 v1 v2 ve _ (Kd.C_below hr0_0 hb0) hc0_0 (Kd.C_below hr0_1 hb0) hc0_1 (Kd.C_below hr0_2 hb0) hc0_2 (Kd.C_below hr0_3 hb0) hc0_3 (Kd.C_below hr1 hb0) hc1 hv)
  clear b1 b2 b3 hsz hb0 hr0_0 hr0_1 hr0_2 hr0_3 hr1 h hv hc0_0 hc0_1 hc0_2 hc0_3 hc1
  simp only at H
  by_cases hve : ve = 0
  · subst hve
    rw [if_pos rfl] at H
    cases hi : inB a3 0 1000 with
    | true =>
      rw [if_pos hi] at H
      obtain ⟨lo, hlo, H⟩ := Option.bind_eq_some_iff.mp H
      obtain ⟨hh, hhi, H⟩ := Option.bind_eq_some_iff.mp H
      simp only [Option.some.injEq, Prod.mk.injEq] at H
      obtain ⟨hy1, hy2, rfl⟩ := H
      have HY1 := Sd.mk hy1
      have HY2 := Sd.mk hy2
      clear hy1 hy2
      have HI := Sd.mk hi
      have HLO := Sd.mk hlo
      have HHI := Sd.mk hhi
      clear hi hlo hhi
      have h78 : ((78 : Int) == 0) = false := rfl
      go_enter_defers Tryz.func21, Tryz.ntmps21
      go_upto_region 5 with (first | (go_at_call 46; refine HV.out.mono ?_; rintro e w1 ⟨rfl, hb1⟩; have BR1 := Sd.mk (blk_below BR.out hb1); have BE1 := Sd.mk (blk_below BE.out hb1); have HB1 := Sd.mk (below_then HB.out (by have := HSZ.out; omega) hb1); have BE2 := Sd.mk (blk_alloc BE1.out (.cells #[.int .i64 v1, .int .i64 v2] 27)); have BV2 := Sd.mk (blk_new w1 (.cells #[.int .i64 v1, .int .i64 v2] 27)); have he0 : (w1.alloc (.cells #[.int .i64 v1, .int .i64 v2] 27)).cell? ⟨w.heap.size + 1 + 1, 0, none⟩ = some (.int .i64 0) := (blk_cell BE2.out 0).trans rfl; have he1 := blk_frozen BE2.out 0) | (go_at_call 64; refine (must_ok _).mono ?_; rintro e w2 ⟨rfl, rfl⟩) | (go_at_call 66; refine (swithin_f _ _ _ _).mono ?_; rw [HI.out]; rintro e w2 ⟨rfl, q, rfl⟩) | (go_at_call 65; (with_reducible refine (demand_ok _ _).mono ?_); rintro e w' ⟨rfl, rfl⟩))
      have BVx := Sd.mk (fun q : Nat => blk_drewN (blk_far BV2.out (show w1.heap.size ≠ (⟨w.heap.size + 1 + 1, 0, none⟩ : Addr).block by have := blk_lt BE1.out; show _ ≠ w.heap.size + 1 + 1; omega) (.int .i64 0)) q)
      have BRx := Sd.mk (fun q : Nat => blk_drewN (blk_far (blk_alloc BR1.out (.cells #[.int .i64 v1, .int .i64 v2] 27)) (show w.heap.size + 1 ≠ (⟨w.heap.size + 1 + 1, 0, none⟩ : Addr).block by show _ ≠ _; simp) (.int .i64 0)) q)
      have BEx := Sd.mk (fun q : Nat => blk_drewN (blk_put BE2.out 0 (.int .i64 0) rfl) q)
      have HBx := Sd.mk (fun q : Nat => pw_below_drewN (below_set (below_alloc HB1.out (.cells #[.int .i64 v1, .int .i64 v2] 27)) (g := w.heap.size + 1 + 1) (j := 0) (v := .int .i64 0) (by omega)) q)
      have HNE := Sd.mk (show w.heap.size + 1 + 1 < w1.heap.size from blk_lt BE1.out)
      clear he0 he1
      generalize hWY : World.drewN _ q = WY
      have BV := Sd.mk (hWY ▸ BVx.out q)
      have BRy := Sd.mk (hWY ▸ BRx.out q)
      have BEy := Sd.mk (hWY ▸ BEx.out q)
      have HBy := Sd.mk (hWY ▸ HBx.out q)
      clear hWY BVx BRx BEx HBx BE2 BV2 BE1 BR1 HB1
      generalize w1.heap.size = X at BV HNE ⊢
      refine wp_region_still_tail 15 (by kernel_rfl) (by kernel_rfl) ?_
      simp only [List.take_succ_cons, List.take_zero, List.drop_succ_cons, List.drop_zero]
      change wpStill Tryz.prog _ WY.drew _ _ _
      have hd0 : WY.drew.cell? ⟨X, 0, none⟩ = some (.int .i64 v1) := (blk_cell BV.out 0).trans rfl
      have hd1 : WY.drew.cell? ⟨X, 1, none⟩ = some (.int .i64 v2) := (blk_cell BV.out 1).trans rfl
      generalize hWD : WY.drew = WD at hd0 hd1 ⊢
      have HWD := Sd.mk hWD
      clear hWD
      repeat still_step
      have HLO' : st_floored.f (IntKind.i64.wrap (IntKind.i64.wrap (35 * v1) * a3)) 78 = some lo := by simp only [i64_w]; exact HLO.out
      have HHI' : st_raised.f (IntKind.i64.wrap (IntKind.i64.wrap (35 * v2) * a3)) 78 = some hh := by simp only [i64_w]; exact HHI.out
      have HLOx := Sd.mk HLO'
      have HHIx := Sd.mk HHI'
      clear HLO' HHI'
      still_call (floored_still _ _ _ _ HLOx.out h78)
      repeat still_step
      still_call (raised_still _ _ _ _ HHIx.out h78)
      repeat still_step
      refine wpStill_nil ?_
      change wpList _ _ _ _ _ WY.drew
      rw [HWD.out]
      have BRd := Sd.mk (HWD.out ▸ blk_drew BRy.out)
      have BEd := Sd.mk (HWD.out ▸ blk_drew BEy.out)
      have HBd := Sd.mk (HWD.out ▸ below_drew1 HBy.out)
      clear HWD BRy BEy HBy hd0 hd1
      have he0 : WD.cell? ⟨w.heap.size + 1 + 1, 0, none⟩ = some (.int .i64 0) := (blk_cell BEd.out 0).trans rfl
      have he1 := blk_frozen BEd.out 0
      have hq0 : WD.cell? ⟨w.heap.size + 1, 0, none⟩ = some (.int .i64 0) := (blk_cell BRd.out 0).trans rfl
      have hq1 : WD.cell? ⟨w.heap.size + 1, 0 + 1, none⟩ = some (.int .i64 0) := (blk_cell BRd.out 1).trans rfl
      have hq2 := blk_frozen BRd.out 0
      have hq3 := blk_frozen BRd.out 1
      rw [HY1.out, HY2.out]
      go_wp2
      refine leaves_cons (f := 62) (args := #[.pointer (some ⟨w.heap.size + 1 + 1, 0, none⟩)]) (by simp) (by simp [go_sem]) ?_
      refine (door102_ok _ _).mono ?_
      rintro e u' w'' ⟨rfl, rfl, rfl⟩
      have BRf := blk_far (blk_put (blk_put BRd.out 0 (.int .i64 r1) rfl) 1 (.int .i64 r2) rfl) (show w.heap.size + 1 ≠ (⟨w.heap.size + 1 + 1, 0, none⟩ : Addr).block by show _ ≠ _; simp) (.int .i64 0)
      have BEf := blk_put (blk_far (blk_far BEd.out (show w.heap.size + 1 + 1 ≠ (⟨w.heap.size + 1, 0, none⟩ : Addr).block by show _ ≠ _; simp) (.int .i64 r1)) (show w.heap.size + 1 + 1 ≠ (⟨w.heap.size + 1, 1, none⟩ : Addr).block by show _ ≠ _; simp) (.int .i64 r2)) 0 (.int .i64 0) rfl
      exact ⟨_, results_ce rfl _ _ (w.heap.size + 1) (w.heap.size + 1 + 1) _ _ rfl (run_loadVar_row _ _ 27 27 _ (0, 0) _ BRf Tryz.underlying27 rfl (by kernel_rfl)) rfl BEf, rfl, below_set (below_set (below_set HBd.out (by omega)) (by omega)) (by omega)⟩
    | false =>
      rw [if_neg (by rw [hi]; simp)] at H
      simp only [Option.some.injEq, Prod.mk.injEq] at H
      obtain ⟨rfl, rfl, rfl⟩ := H
      have HI := Sd.mk hi
      clear hi
      go_enter_defers Tryz.func21, Tryz.ntmps21
      go_wp2_with (first | (go_at_call 46; refine HV.out.mono ?_; rintro e w1 ⟨rfl, hb1⟩; have BR1 := Sd.mk (blk_below BR.out hb1); have BE1 := Sd.mk (blk_below BE.out hb1); have HB1 := Sd.mk (below_then HB.out (by have := HSZ.out; omega) hb1); have BE2 := Sd.mk (blk_alloc BE1.out (.cells #[.int .i64 v1, .int .i64 v2] 27)); have he0 : (w1.alloc (.cells #[.int .i64 v1, .int .i64 v2] 27)).cell? ⟨w.heap.size + 1 + 1, 0, none⟩ = some (.int .i64 0) := (blk_cell BE2.out 0).trans rfl; have he1 := blk_frozen BE2.out 0) | (go_at_call 64; refine (must_ok _).mono ?_; rintro e w2 ⟨rfl, rfl⟩) | (go_at_call 66; refine (swithin_f _ _ _ _).mono ?_; rw [HI.out]; rintro e w2 ⟨rfl, q, rfl⟩) | (go_at_call 65; (with_reducible refine (demand_no _ _).mono ?_); rintro e w' ⟨rfl, rfl⟩))
      refine leaves_cons (f := 62) (args := #[.pointer (some ⟨w.heap.size + 1 + 1, 0, none⟩)]) (by simp) (by simp [go_sem]) ?_
      refine (door102_fail _ _ 0 [] _ (blk_drewN (blk_put BE2.out 0 (.int .i64 0) rfl) q)).mono ?_
      rintro e u' w'' ⟨rfl, rfl, rfl⟩
      have BRf := blk_far (blk_alloc (blk_drewN (blk_far (blk_alloc BR1.out (.cells #[.int .i64 v1, .int .i64 v2] 27)) (show w.heap.size + 1 ≠ (⟨w.heap.size + 1 + 1, 0, none⟩ : Addr).block by show _ ≠ _; simp) (.int .i64 0)) q) (.cells #[.int .i64 1] 183)) (show w.heap.size + 1 ≠ (⟨w.heap.size + 1 + 1, 0, none⟩ : Addr).block by show _ ≠ _; simp) (.int .i64 1)
      exact ⟨_, results_ce rfl _ _ (w.heap.size + 1) (w.heap.size + 1 + 1) _ _ rfl (run_loadVar_row _ _ 27 27 _ (0, 0) _ BRf Tryz.underlying27 rfl (by kernel_rfl)) rfl (blk_put (blk_alloc (blk_drewN (blk_put BE2.out 0 (.int .i64 0) rfl) q) _) 0 _ rfl), rfl, below_set (below_alloc (pw_below_drewN (below_set (below_alloc HB1.out _) (by omega)) q) _) (by omega)⟩
  · rw [if_neg hve] at H
    simp only [Option.some.injEq, Prod.mk.injEq] at H
    obtain ⟨rfl, rfl, rfl⟩ := H
    have HVE := Sd.mk (errno_ne ve hve)
    clear hve
    go_enter_defers Tryz.func21, Tryz.ntmps21
    go_wp2_with (first | (go_at_call 46; refine HV.out.mono ?_; rintro e w1 ⟨rfl, hb1⟩; have BR1 := Sd.mk (blk_below BR.out hb1); have BE1 := Sd.mk (blk_below BE.out hb1); have HB1 := Sd.mk (below_then HB.out (by have := HSZ.out; omega) hb1); have BE2 := Sd.mk (blk_alloc BE1.out (.cells #[.int .i64 v1, .int .i64 v2] 27)); have BV2 := Sd.mk (blk_new w1 (.cells #[.int .i64 v1, .int .i64 v2] 27)); have he0 : (w1.alloc (.cells #[.int .i64 v1, .int .i64 v2] 27)).cell? ⟨w.heap.size + 1 + 1, 0, none⟩ = some (.int .i64 0) := (blk_cell BE2.out 0).trans rfl; have he1 := blk_frozen BE2.out 0) | (go_at_call 64; refine (must_no _ HVE.out _).mono ?_; rintro e w2 ⟨rfl, rfl⟩))
    refine leaves_cons (f := 62) (args := #[.pointer (some ⟨w.heap.size + 1 + 1, 0, none⟩)]) (by simp) (by simp [go_sem]) ?_
    refine (door102_fail _ _ ve [] _ (blk_put BE2.out 0 (.int .i64 ve) rfl)).mono ?_
    rintro e u' w'' ⟨rfl, rfl, rfl⟩
    have BRf := blk_far (blk_alloc (blk_far (blk_alloc BR1.out (.cells #[.int .i64 v1, .int .i64 v2] 27)) (show w.heap.size + 1 ≠ (⟨w.heap.size + 1 + 1, 0, none⟩ : Addr).block by show _ ≠ _; simp) (.int .i64 ve)) (.cells #[.int .i64 ve] 183)) (show w.heap.size + 1 ≠ (⟨w.heap.size + 1 + 1, 0, none⟩ : Addr).block by show _ ≠ _; simp) (.int .i64 ve)
    exact ⟨_, results_ce rfl _ _ (w.heap.size + 1) (w.heap.size + 1 + 1) _ _ rfl (run_loadVar_row _ _ 27 27 _ (0, 0) _ BRf Tryz.underlying27 rfl (by kernel_rfl)) rfl (blk_put (blk_alloc (blk_put BE2.out 0 (.int .i64 ve) rfl) _) 0 _ rfl), rfl, below_set (below_alloc (below_set (below_alloc HB1.out _) (by omega)) _) (by omega)⟩
end
section
theorem minF_le (F : Nat → Int) : ∀ n cut, cut ≤ n → minF F n ≤ F cut := by
  intro n
  induction n with
  | zero => intro cut h; obtain rfl : cut = 0 := by omega
            exact Int.le_refl _
  | succ n ih =>
    intro cut h
    simp only [minF]
    by_cases hc : cut = n + 1
    · subst hc; split <;> omega
    · have := ih cut (by omega); split <;> omega
theorem minF_at (F : Nat → Int) : ∀ n, ∃ cut, cut ≤ n ∧ minF F n = F cut := by
  intro n
  induction n with
  | zero => exact ⟨0, Nat.le_refl _, rfl⟩
  | succ n ih =>
    obtain ⟨cut, h1, h2⟩ := ih
    simp only [minF]
    by_cases hc : F (n + 1) < minF F n
    · exact ⟨n + 1, Nat.le_refl _, by rw [if_pos hc]⟩
    · exact ⟨cut, by omega, by rw [if_neg hc, h2]⟩
theorem maxF_neg (F : Nat → Int) : ∀ n, maxF F n = -minF (fun c => -F c) n := by
  intro n
  induction n with
  | zero => simp [maxF, minF]
  | succ n ih => simp only [maxF, minF, ih]; split <;> split <;> omega
theorem sumTo_pick (f : Int → Int → Int) (u v : Int → Int) (D : Array Int) (cut : Nat) : ∀ k, k ≤ D.size →
    sumTo (fun j => if (j : Int) < (cut : Int) then f D[j]! (u D[j]!) else f D[j]! (v D[j]!)) k = MeanMath.lsum (fun a => f a (u a)) (D.toList.take (min k cut)) + MeanMath.lsum (fun a => f a (v a)) ((D.toList.take k).drop cut) := by
  intro k
  induction k with
  | zero => intro _; simp [sumTo]
  | succ k ih =>
    intro hk
    have hk' : k < D.toList.length := by rw [Array.length_toList]; omega
    have e : D[k]! = D.toList[k] := by rw [getElem!_pos D k (by omega)]; simp
    simp only [sumTo]
    rw [ih (by omega), e]
    by_cases hc : k < cut
    · rw [if_pos (by omega), Nat.min_eq_left (by omega), Nat.min_eq_left (by omega), List.take_succ_eq_append_getElem hk', MeanMath.lsum_append, List.drop_eq_nil_of_le (by simp; omega), List.drop_eq_nil_of_le (by simp; omega)]
      simp
    · rw [if_neg (by omega), Nat.min_eq_right (by omega), Nat.min_eq_right (by omega), List.take_succ_eq_append_getElem hk', List.drop_append_of_le_length (by simp; omega), MeanMath.lsum_append]
      simp; omega
theorem sumTo_pick' (f : Int → Int → Int) (u v : Int → Int) (D : Array Int) (cut : Nat) (hc : cut ≤ D.size) :
    sumTo (fun j => if (j : Int) < (cut : Int) then f D[j]! (u D[j]!) else f D[j]! (v D[j]!)) D.size = MeanMath.pick f u v D.toList cut := by
  rw [sumTo_pick f u v D cut D.size (Nat.le_refl _), Nat.min_eq_right hc, List.take_of_length_le (l := D.toList) (i := D.size) (by simp)]
  rfl
theorem pick_reverse (f : Int → Int → Int) (u v : Int → Int) (o : List Int) (cut : Nat) (hc : cut ≤ o.length) :
    MeanMath.pick f u v o.reverse (o.length - cut) = MeanMath.pick f v u o cut := by
  unfold MeanMath.pick
  rw [List.take_reverse, List.drop_reverse, MeanMath.lsum_perm _ (List.reverse_perm _), MeanMath.lsum_perm _ (List.reverse_perm (o.take (o.length - (o.length - cut)))), show o.length - (o.length - cut) = cut by omega]
  omega
def loF (l : List S27) (k : Int) : Int := (rd_T27 l k).f0
def hiF (l : List S27) (k : Int) : Int := (rd_T27 l k).f1
theorem lowN_pick (cf : Int → Int) (l : List S27) (D : Array Int) (cut : Nat) (hs : D.size = l.length) (hc : cut ≤ D.size) : lowN cf l D cut l.length = MeanMath.pick (fun a x => cf a * x) (hiF l) (loF l) D.toList cut := by
  rw [← sumTo_pick' _ _ _ D cut hc, hs]
  unfold lowN
  congr 1; funext j; unfold wX hiF loF; split <;> rfl
theorem lowD_pick (l : List S27) (D : Array Int) (cut : Nat) (hs : D.size = l.length) (hc : cut ≤ D.size) : lowD l D cut l.length = MeanMath.pick (fun _ x => x) (hiF l) (loF l) D.toList cut := by
  rw [← sumTo_pick' _ _ _ D cut hc, hs]
  unfold lowD
  congr 1
theorem highN_pick (cf : Int → Int) (l : List S27) (D : Array Int) (cut : Nat) (hs : D.size = l.length) (hc : cut ≤ D.size) : highN cf l D cut l.length = MeanMath.pick (fun a x => cf a * x) (loF l) (hiF l) D.toList cut := by
  rw [← sumTo_pick' _ _ _ D cut hc, hs]
  unfold highN
  congr 1; funext j; unfold wY hiF loF; split <;> rfl
theorem highD_pick (l : List S27) (D : Array Int) (cut : Nat) (hs : D.size = l.length) (hc : cut ≤ D.size) : highD l D cut l.length = MeanMath.pick (fun _ x => x) (loF l) (hiF l) D.toList cut := by
  rw [← sumTo_pick' _ _ _ D cut hc, hs]
  unfold highD
  congr 1
theorem pick_negc (cf : Int → Int) (u v : Int → Int) (o : List Int) (cut : Nat) : MeanMath.pick (fun a x => -cf a * x) u v o cut = -MeanMath.pick (fun a x => cf a * x) u v o cut := by
  unfold MeanMath.pick
  have : ∀ (w : Int → Int) (l : List Int), MeanMath.lsum (fun a => -cf a * w a) l = -MeanMath.lsum (fun a => cf a * w a) l := by
    intro w l
    induction l with
    | nil => rfl
    | cons x l ih => simp only [MeanMath.lsum_cons, ih]; rw [Int.neg_mul]; omega
  simp only [this]
  omega
def belowS (cf : Int → Int) (l : List S27) (m : Int) : Int := MeanMath.below cf (loF l) (hiF l) m (iotaA l.length).toList
def aboveS (cf : Int → Int) (l : List S27) (m : Int) : Int := MeanMath.below (fun k => -cf k) (loF l) (hiF l) (-m) (iotaA l.length).toList
theorem order_sorted (cf : Int → Int) (n : Nat) : (orderOf cf n).toList.Pairwise fun a b => cf a ≤ cf b := by
  rw [List.pairwise_iff_getElem]
  intro i j hi hj hij
  have h := (order_facts cf n).2 i j (Nat.zero_le _) hij (by rw [Array.length_toList, order_size] at hj; exact hj)
  rw [Array.length_toList] at hi hj
  rw [getElem!_pos _ i hi, getElem!_pos _ j hj] at h
  simp only [ltC, decide_eq_false_iff_not] at h
  simp only [Array.getElem_toList]
  omega
theorem order_mem (cf : Int → Int) {n : Nat} {a : Int} (h : a ∈ (orderOf cf n).toList) : 0 ≤ a ∧ a < n := by
  have h := (order_perm cf n).mem_iff.1 h
  simp only [iotaA, Array.toList_ofFn, List.mem_ofFn] at h
  obtain ⟨i, rfl⟩ := h
  have := i.isLt
  omega
theorem below_perm (c lo hi : Int → Int) (m : Int) {o o' : List Int} (h : o.Perm o') : MeanMath.below c lo hi m o = MeanMath.below c lo hi m o' := MeanMath.lsum_perm _ h
theorem order_weight (cf : Int → Int) (l : List S27) (h : 0 < MeanMath.lsum S27.f0 l) : 0 < MeanMath.lsum (loF l) (orderOf cf l.length).toList := by
  rw [MeanMath.lsum_perm _ (order_perm cf l.length), lsum_iota (loF l) l (fun _ _ => rfl)]
  exact h
theorem meanLo_iff {cf : Int → Int} {l : List S27} (H : MeanOk cf l) (m : Int) : belowS cf l m ≤ 0 ↔ m ≤ meanLo cf l := by
  unfold belowS
  rw [← below_perm _ _ _ _ (order_perm cf l.length)]
  have hs := order_size cf l.length
  have hq : ∀ cut, cut ≤ l.length → lowQ cf l (orderOf cf l.length) cut = MeanMath.pick (fun a x => cf a * x) (hiF l) (loF l) (orderOf cf l.length).toList cut / MeanMath.pick (fun _ x => x) (hiF l) (loF l) (orderOf cf l.length).toList cut := by
    intro cut hc
    unfold lowQ
    rw [lowN_pick _ _ _ _ hs (by omega), lowD_pick _ _ _ hs (by omega)]
  have hl : (orderOf cf l.length).toList.length = l.length := by rw [Array.length_toList, hs]
  refine MeanMath.least_floor cf (loF l) (hiF l) _ (order_sorted cf l.length) ?_ ?_ (order_weight cf l H.pos) (meanLo cf l) ?_ ?_ m
  · intro a ha; have h := order_mem cf ha; exact H.lo a h.1 h.2
  · intro a ha; have h := order_mem cf ha; exact H.le a h.1 h.2
  · intro cut hc
    rw [hl] at hc
    rw [← hq cut hc]
    exact minF_le _ _ cut hc
  · obtain ⟨cut, hc, he⟩ := minF_at (lowQ cf l (orderOf cf l.length)) l.length
    exact ⟨cut, by rw [hl]; exact hc, by rw [← hq cut hc]; exact he⟩
theorem meanHi_iff {cf : Int → Int} {l : List S27} (H : MeanOk cf l) (m : Int) : aboveS cf l m ≤ 0 ↔ meanHi cf l ≤ m := by
  unfold aboveS
  rw [← below_perm _ _ _ _ ((List.reverse_perm _).trans (order_perm cf l.length))]
  have hs := order_size cf l.length
  have hl : (orderOf cf l.length).toList.length = l.length := by rw [Array.length_toList, hs]
  have hq : ∀ cut, cut ≤ l.length → -highQ cf l (orderOf cf l.length) cut = MeanMath.pick (fun a x => -cf a * x) (hiF l) (loF l) (orderOf cf l.length).toList.reverse (l.length - cut) / MeanMath.pick (fun _ x => x) (hiF l) (loF l) (orderOf cf l.length).toList.reverse (l.length - cut) := by
    intro cut hc
    unfold highQ
    have e1 := pick_reverse (fun a x => -cf a * x) (hiF l) (loF l) (orderOf cf l.length).toList cut (by omega)
    have e2 := pick_reverse (fun _ x => x) (hiF l) (loF l) (orderOf cf l.length).toList cut (by omega)
    rw [hl] at e1 e2
    rw [e1, e2, pick_negc, highN_pick _ _ _ _ hs (by omega), highD_pick _ _ _ hs (by omega), Int.neg_neg]
  have hm : meanHi cf l = -minF (fun c => -highQ cf l (orderOf cf l.length) c) l.length := maxF_neg _ _
  have key := MeanMath.least_floor (fun k => -cf k) (loF l) (hiF l) (orderOf cf l.length).toList.reverse ?_ ?_ ?_ ?_ (-meanHi cf l) ?_ ?_ (-m)
  · rw [key]; omega
  · rw [List.pairwise_reverse]
    exact (order_sorted cf l.length).imp fun h => by omega
  · intro a ha; have h := order_mem cf (List.mem_reverse.1 ha); exact H.lo a h.1 h.2
  · intro a ha; have h := order_mem cf (List.mem_reverse.1 ha); exact H.le a h.1 h.2
  · rw [MeanMath.lsum_perm _ (List.reverse_perm _)]; exact order_weight cf l H.pos
  · intro cut hc
    rw [List.length_reverse, hl] at hc
    have := hq (l.length - cut) (by omega)
    rw [show l.length - (l.length - cut) = cut by omega] at this
    rw [← this, hm, Int.neg_neg]
    exact minF_le (fun c => -highQ cf l (orderOf cf l.length) c) _ (l.length - cut) (by omega)
  · obtain ⟨cut, hc, he⟩ := minF_at (fun c => -highQ cf l (orderOf cf l.length) c) l.length
    refine ⟨l.length - cut, by rw [List.length_reverse, hl]; omega, ?_⟩
    rw [← hq cut hc, hm, Int.neg_neg]
    exact he
end
end Go.Proofs.YtljfljekcpdpiaaGreat.PB
namespace Go.Proofs.YtljfljekcpdpiaaGreat.PB
open Go.RowKit Go.Proofs.YtljfljekcpdpiaaGreatW.PrintWords Go.Proofs.YtljfljekcpdpiaaGreatW.PrintLast Go.Proofs.YtljfljekcpdpiaaGreatW.PrintMore
def Ev {α : Type} (f : Nat → Option α) (v : α) : Prop := ∃ K, ∀ k, K ≤ k → f k = some v
namespace Ev
variable {α β : Type} {v u : α} {b : β}
theorem const (v : α) : Ev (fun _ => some v) v := ⟨0, fun _ _ => rfl⟩
theorem bind {f : Nat → Option α} {g : Nat → α → Option β} (h : Ev f v) (h' : Ev (fun k => g k v) b) : Ev (fun k => (f k).bind (g k)) b := by
  obtain ⟨K, h⟩ := h
  obtain ⟨K', h'⟩ := h'
  exact ⟨max K K', fun k hk => by show (f k).bind (g k) = some b; rw [h k (by omega)]; exact h' k (by omega)⟩
theorem step {f : Nat → Option α} (h : Ev (fun k => f (k + 1)) v) : Ev f v := by
  obtain ⟨K, h⟩ := h
  exact ⟨K + 1, fun k hk => by cases k with | zero => omega | succ k => exact h k (by omega)⟩
theorem cast {f : Nat → Option α} (h : Ev f v) (e : v = u) : Ev f u := e ▸ h
end Ev
theorem wrap_succ {i : Int} (h0 : 0 ≤ i) (h : i ≤ 1000000000) : wrap64 (i + 1) = i + 1 := wrap_id (by omega) (by omega)
def charB (c : Int) : Bool := decide (97 ≤ c ∧ c ≤ 122) || decide (48 ≤ c ∧ c ≤ 57) || decide (c = 45)
def nameFrom (x : ByteArray) : Nat → Int → Bool
  | 0, _ => true
  | m + 1, i => charB (bt x i) && nameFrom x m (i + 1)
def nameOk (x : ByteArray) : Bool := decide (1 ≤ x.size) && decide (x.size ≤ 16) && decide (97 ≤ bt x 0) && decide (bt x 0 ≤ 122) && nameFrom x x.size 0
theorem bname_l0 (x : ByteArray) (hx : x.size ≤ 16) : ∀ (m : Nat) (i : Int), 0 ≤ i → i + m = x.size → Ev (fun k => b_name.l0 k x x.size i) (nameFrom x m i)
  | 0, i, h0, hi => by
    apply Ev.step
    simp only [b_name.l0, if_neg (show ¬ i < (x.size : Int) by omega)]
    exact Ev.const _
  | m + 1, i, h0, hi => by
    have ih := bname_l0 x hx m (i + 1) (by omega) (by omega)
    apply Ev.step
    simp only [b_name.l0, if_pos (show i < (x.size : Int) by omega), if_pos h0, wrap_succ h0 (show i ≤ 1000000000 by omega)]
    by_cases h1 : bt x i ≥ 97 <;> by_cases h2 : bt x i ≤ 122 <;> by_cases h3 : bt x i ≥ 48 <;> by_cases h4 : bt x i ≤ 57 <;> by_cases h5 : bt x i = 45 <;> first
      | omega
      | (simp only [h1, h2, h3, h4, h5, if_true, if_false, ite_true, ite_false]
         first
           | exact ih.cast (by have hc : charB (bt x i) = true := (by simp only [charB, Bool.or_eq_true, decide_eq_true_eq]; omega); simp [nameFrom, hc])
           | exact (Ev.const false).cast (by have hc : charB (bt x i) = false := (by simp only [charB, Bool.or_eq_false_iff, decide_eq_false_iff_not]; omega); simp [nameFrom, hc]))
theorem bname (x : ByteArray) : Ev (fun k => b_name.f k x) (nameOk x) := by
  unfold b_name.f
  have hj : ∀ b : Bool, (b = false → x.size ≤ 16) → Ev (fun k => b_name.j0 k x b) (!b && nameFrom x x.size 0) := by
    intro b hb
    apply Ev.step
    cases b with
    | true => simp only [b_name.j0, if_true]; exact Ev.const _
    | false => simp only [b_name.j0, Bool.false_eq_true, if_false]; exact (bname_l0 x (hb rfl) x.size 0 (by omega) (by omega)).cast (by simp)
  by_cases h1 : (x.size : Int) < 1
  · simp only [if_pos h1]; exact (hj true (by simp)).cast (by simp [nameOk]; omega)
  · simp only [if_neg h1]
    by_cases h2 : (x.size : Int) > 16
    · simp only [if_pos h2]; exact (hj true (by simp)).cast (by simp [nameOk]; omega)
    · simp only [if_neg h2, if_pos (show 0 < (x.size : Int) by omega)]
      by_cases h3 : bt x 0 < 97
      · simp only [if_pos h3]; exact (hj true (by simp)).cast (by simp [nameOk]; omega)
      · simp only [if_neg h3]
        refine (hj _ (fun _ => by omega)).cast ?_
        by_cases h4 : bt x 0 > 122
        · simp [nameOk, h4]; try omega
        · have : 97 ≤ bt x 0 := by omega
          have : bt x 0 ≤ 122 := by omega
          have : x.size ≤ 16 := by omega
          have : 1 ≤ x.size := by omega
          simp [nameOk, *]
end Go.Proofs.YtljfljekcpdpiaaGreat.PB

namespace Go.Proofs.YtljfljekcpdpiaaGreat.PB
open Go.RowKit Go.Proofs.YtljfljekcpdpiaaGreatW.PrintWords Go.Proofs.YtljfljekcpdpiaaGreatW.PrintLast Go.Proofs.YtljfljekcpdpiaaGreatW.PrintMore
section
end
section
end
section
theorem bidx_l0 (l : List ByteArray) (x : ByteArray) (hl : l.length ≤ 1000) : ∀ (m : Nat) (i : Nat), i + m = l.length → ∃ r : Int, Ev (fun k => slices_Index_string_string.l0 k l x (l.length : Int) (i : Int)) r ∧ (decide (r ≥ 0) = (l.drop i).any fun y => y.toList == x.toList)
  | 0, i, hi => by
    refine ⟨-1, ?_, by rw [List.drop_eq_nil_of_le (by omega)]; rfl⟩
    apply Ev.step
    simp only [slices_Index_string_string.l0, if_neg (show ¬ (i : Int) < (l.length : Int) by omega)]
    exact Ev.const _
  | m + 1, i, hi => by
    obtain ⟨r, ih, hr'⟩ := bidx_l0 l x hl m (i + 1) (by omega)
    have hlt : i < l.length := by omega
    have hr : rdOf ByteArray.empty l (i : Int) = l[i] := by simp [rdOf, hlt]
    by_cases h : x.toList = l[i].toList
    · refine ⟨i, ?_, ?_⟩
      · apply Ev.step
        simp only [slices_Index_string_string.l0, if_pos (show (i : Int) < (l.length : Int) by omega), if_pos (show 0 ≤ (i : Int) by omega), hr, if_pos h]
        exact Ev.const _
      · rw [List.drop_eq_getElem_cons hlt, List.any_cons, h, beq_self_eq_true, Bool.true_or]; simp
    · refine ⟨r, ?_, ?_⟩
      · apply Ev.step
        simp only [slices_Index_string_string.l0, if_pos (show (i : Int) < (l.length : Int) by omega), if_pos (show 0 ≤ (i : Int) by omega), hr, if_neg h, wrap_succ (show 0 ≤ (i : Int) by omega) (show (i : Int) ≤ 1000000000 by omega)]
        exact ih
      · rw [List.drop_eq_getElem_cons hlt, hr']
        have h' : ¬ l[i].toList = x.toList := fun e => h e.symm
        rw [List.any_cons, beq_eq_false_iff_ne.mpr h', Bool.false_or]
theorem bcontains (l : List ByteArray) (x : ByteArray) (hl : l.length ≤ 1000) : Ev (fun k => slices_Contains_string_string.f k l x) (l.any fun y => y.toList == x.toList) := by
  unfold slices_Contains_string_string.f slices_Index_string_string.f
  obtain ⟨r, h, e⟩ := bidx_l0 l x hl l.length 0 (by omega)
  refine Ev.bind h ?_
  exact (Ev.const _).cast (by rw [e]; simp)
end
section
end
section
end
section
end
section
end
section
def oxE (o : List ByteArray) : Nat → Nat → Int
  | 0, _ => 0
  | m + 1, i => if nameOk (rdOf ByteArray.empty o (i : Int)) = true then (if ((o.take i).any fun y => y.toList == (rdOf ByteArray.empty o (i : Int)).toList) = true then 6 else oxE o m (i + 1)) else 5
theorem i_pos (i : Nat) : 0 ≤ (i : Int) := by omega
section
variable (o : List ByteArray) (mt : List S70) (s : List S27) (p : List S89) (a4 a5 a6 : Int)
theorem box_l0 (ho : o.length ≤ 12) : ∀ (m i : Nat), i + m = o.length → Ev (fun k => b_checkOxides.l0 k o (o.length : Int) (i : Int) o mt s p a4 a5 a6) (oxE o m i)
  | 0, i, hi => by
    apply Ev.step
    simp only [b_checkOxides.l0, if_neg (show ¬ (i : Int) < (o.length : Int) by omega)]
    exact Ev.const _
  | m + 1, i, hi => by
    have ih := box_l0 ho m (i + 1) (by omega)
    apply Ev.step
    simp only [b_checkOxides.l0, if_pos (show (i : Int) < (o.length : Int) by omega), if_pos (i_pos i), if_pos (show (i : Int) ≤ (o.length : Int) by omega), wrap_succ (i_pos i) (show (i : Int) ≤ 1000000000 by omega), Int.toNat_natCast]
    refine Ev.bind (bname _) ?_
    unfold oxE
    by_cases h : nameOk (rdOf ByteArray.empty o (i : Int)) = true
    · simp only [if_pos h]
      refine Ev.bind (bcontains _ _ (by simp; omega)) ?_
      by_cases h' : ((o.take i).any fun y => y.toList == (rdOf ByteArray.empty o (i : Int)).toList) = true
      · simp only [if_pos h']; exact Ev.const _
      · simp only [if_neg h']; exact ih
    · simp only [if_neg h]; exact Ev.const _
theorem box_f : Ev (fun k => b_checkOxides.f k o mt s p a4 a5 a6) (if o.length > 12 then 3 else if o.length = 0 then 1 else oxE o o.length 0) := by
  unfold b_checkOxides.f
  by_cases h : o.length > 12
  · simp only [if_pos h, if_pos (show (o.length : Int) > 12 by omega)]; exact Ev.const _
  · by_cases h' : o.length = 0
    · simp only [if_neg h, if_neg (show ¬ (o.length : Int) > 12 by omega), if_pos h', if_pos (show (o.length : Int) = 0 by omega)]; exact Ev.const _
    · simp only [if_neg h, if_neg (show ¬ (o.length : Int) > 12 by omega), if_neg h', if_neg (show ¬ (o.length : Int) = 0 by omega)]
      exact box_l0 o mt s p a4 a5 a6 (by omega) o.length 0 (by omega)
def conE (l : List S27) : Nat → Nat → Int → Int
  | 0, _, acc => if acc > 1000 then 12 else 0
  | m + 1, i, acc => if badSpan (rd_T27 l (i : Int)) = true then 1 else conE l m (i + 1) (acc + (rd_T27 l (i : Int)).f0)
def matC (n : Nat) (x : S70) : Int :=
  if (0 ≤ x.f1 ∧ x.f1 ≤ 10000) ∧ (-1000 ≤ x.f2 ∧ x.f2 ≤ 1000) ∧ (0 ≤ x.f3 ∧ x.f3 ≤ 10000) ∧ (x.f3 ≤ x.f4 ∧ x.f4 ≤ 10000) ∧ (1 ≤ x.f5 ∧ x.f5 ≤ 10000) ∧ x.f6.length = n then conE x.f6 x.f6.length 0 0 else 1
theorem span_bad (x : S27) : b_span.f x.f0 x.f1 0 1000 = some (!badSpan x) := by
  rw [span_f]; unfold badSpan; simp
theorem bad_false {x : S27} (h : badSpan x = false) : 0 ≤ x.f0 ∧ x.f0 ≤ x.f1 ∧ x.f1 ≤ 1000 := by
  simp [badSpan] at h; omega
theorem bcon_l0 (l : List S27) (hl : l.length ≤ 12) : ∀ (m i : Nat) (acc : Int), i + m = l.length → 0 ≤ acc → acc ≤ 1000 * i → Ev (fun k => b_checkMaterial.l0 k acc l (l.length : Int) (i : Int)) (conE l m i acc)
  | 0, i, acc, hi, h0, h1 => by
    apply Ev.step
    simp only [b_checkMaterial.l0, if_neg (show ¬ (i : Int) < (l.length : Int) by omega)]
    unfold conE
    by_cases h : acc > 1000
    · simp only [if_pos h]; exact Ev.const _
    · simp only [if_neg h]; exact Ev.const _
  | m + 1, i, acc, hi, h0, h1 => by
    apply Ev.step
    simp only [b_checkMaterial.l0, if_pos (show (i : Int) < (l.length : Int) by omega), if_pos (i_pos i), wrap_succ (i_pos i) (show (i : Int) ≤ 1000000000 by omega), span_bad, Option.bind_some]
    unfold conE
    by_cases h : badSpan (rd_T27 l (i : Int)) = true
    · simp only [h, Bool.not_true, Bool.false_eq_true, if_false, if_true]; exact Ev.const _
    · have hb := bad_false (Bool.not_eq_true _ ▸ h)
      have ih := bcon_l0 l hl m (i + 1) (acc + (rd_T27 l (i : Int)).f0) (by omega) (by omega) (by omega)
      simp only [h, Bool.not_false, Bool.false_eq_true, if_true, if_false, wrap_id (x := acc + (rd_T27 l (i : Int)).f0) (by omega) (by omega)]
      exact ih
theorem bmat (ho : o.length ≤ 12) (x : S70) : Ev (fun k => b_checkMaterial.f k o mt s p a4 a5 a6 x.f0 x.f1 x.f2 x.f3 x.f4 x.f5 x.f6) (matC o.length x) := by
  have hj1 : Ev (fun k => b_checkMaterial.j0 k true x.f0 x.f1 x.f2 x.f3 x.f4 x.f5 x.f6) 1 := by
    apply Ev.step; simp only [b_checkMaterial.j0, if_true]; exact Ev.const _
  have hj0 : x.f6.length = o.length → Ev (fun k => b_checkMaterial.j0 k false x.f0 x.f1 x.f2 x.f3 x.f4 x.f5 x.f6) (conE x.f6 x.f6.length 0 0) := by
    intro hh
    apply Ev.step; simp only [b_checkMaterial.j0, Bool.false_eq_true, if_false]
    exact bcon_l0 x.f6 (by omega) x.f6.length 0 0 (by omega) (by omega) (by omega)
  unfold b_checkMaterial.f
  simp only [within_f, Option.bind_some, Bool.and_eq_true, decide_eq_true_eq]
  unfold matC
  by_cases h1 : 0 ≤ x.f1 ∧ x.f1 ≤ 10000
  · by_cases h2 : -1000 ≤ x.f2 ∧ x.f2 ≤ 1000
    · by_cases h3 : 0 ≤ x.f3 ∧ x.f3 ≤ 10000
      · by_cases h4 : x.f3 ≤ x.f4 ∧ x.f4 ≤ 10000
        · by_cases h5 : 1 ≤ x.f5 ∧ x.f5 ≤ 10000
          · by_cases h6 : x.f6.length = o.length
            · simp only [if_pos h1, if_pos h2, if_pos h3, if_pos h4, if_pos h5, h1, h2, h3, h4, h5, h6, and_self, if_true, bne_self_eq_false]
              exact (hj0 h6).cast (by rw [h6])
            · have hb : ((x.f6.length : Int) != (o.length : Int)) = true := by simp; omega
              simp only [if_pos h1, if_pos h2, if_pos h3, if_pos h4, if_pos h5, hb]
              exact hj1.cast (by rw [if_neg (fun hh => h6 hh.2.2.2.2.2)])
          · simp only [if_pos h1, if_pos h2, if_pos h3, if_pos h4, if_neg h5]
            exact hj1.cast (by rw [if_neg (fun hh => h5 hh.2.2.2.2.1)])
        · simp only [if_pos h1, if_pos h2, if_pos h3, if_neg h4]
          exact hj1.cast (by rw [if_neg (fun hh => h4 hh.2.2.2.1)])
      · simp only [if_pos h1, if_pos h2, if_neg h3]
        exact hj1.cast (by rw [if_neg (fun hh => h3 hh.2.2.1)])
    · simp only [if_pos h1, if_neg h2]
      exact hj1.cast (by rw [if_neg (fun hh => h2 hh.2.1)])
  · simp only [if_neg h1]
    exact hj1.cast (by rw [if_neg (fun hh => h1 hh.1)])
end
end
section
def proC (n : Nat) (x : S89) : Int := if x.f1.length = n then (if x.f1.any (outside (-10000) 10000) = true then 1 else if -10000 ≤ x.f2.f0 ∧ x.f2.f0 ≤ x.f2.f1 ∧ x.f2.f1 ≤ 10000 then 0 else 1) else 1
def proE (p : List S89) (n : Nat) : Nat → Nat → Int
  | 0, _ => 0
  | m + 1, i => if nameOk (rd_T89 p (i : Int)).f0 = true then (if ((p.take i).any fun x => x.f0.toList == (rd_T89 p (i : Int)).f0.toList) = true then 6 else (if proC n (rd_T89 p (i : Int)) = 0 then proE p n m (i + 1) else proC n (rd_T89 p (i : Int)))) else 5
def matE (mt : List S70) (n : Nat) : Nat → Nat → Int
  | 0, _ => 0
  | m + 1, i => if nameOk (rd_T70 mt (i : Int)).f0 = true then (if ((mt.take i).any fun x => x.f0.toList == (rd_T70 mt (i : Int)).f0.toList) = true then 6 else (if matC n (rd_T70 mt (i : Int)) = 0 then matE mt n m (i + 1) else matC n (rd_T70 mt (i : Int)))) else 5
section
variable (o : List ByteArray) (mt : List S70) (s : List S27) (p : List S89) (a4 a5 a6 : Int)
theorem bpro (x : S89) : Ev (fun _ => b_checkProperty.f o mt s p a4 a5 a6 x.f0 x.f1 x.f2.f0 x.f2.f1) (proC o.length x) := by
  unfold b_checkProperty.f proC
  by_cases h : x.f1.length = o.length
  · simp only [if_pos h, if_pos (show (x.f1.length : Int) = (o.length : Int) by omega), x_coefs.f, Option.bind_some, span_f, Bool.and_eq_true, decide_eq_true_eq]
    by_cases h' : x.f1.any (outside (-10000) 10000) = true
    · simp only [if_pos h']; exact Ev.const _
    · simp only [if_neg h']
      by_cases h2 : -10000 ≤ x.f2.f0 ∧ x.f2.f0 ≤ x.f2.f1 ∧ x.f2.f1 ≤ 10000
      · rw [if_pos (by omega), if_pos h2]; exact Ev.const _
      · rw [if_neg (by omega), if_neg h2]; exact Ev.const _
  · simp only [if_neg h, if_neg (show ¬ (x.f1.length : Int) = (o.length : Int) by omega)]; exact Ev.const _
theorem bmats_l0 (ho : o.length ≤ 12) (hm : mt.length ≤ 12) : ∀ (m i : Nat), i + m = mt.length → Ev (fun k => b_checkMaterials.l0 k mt (mt.length : Int) (i : Int) o mt s p a4 a5 a6) (matE mt o.length m i)
  | 0, i, hi => by
    apply Ev.step
    simp only [b_checkMaterials.l0, if_neg (show ¬ (i : Int) < (mt.length : Int) by omega)]
    exact Ev.const _
  | m + 1, i, hi => by
    have ih := bmats_l0 ho hm m (i + 1) (by omega)
    apply Ev.step
    simp only [b_checkMaterials.l0, if_pos (show (i : Int) < (mt.length : Int) by omega), if_pos (i_pos i), wrap_succ (i_pos i) (show (i : Int) ≤ 1000000000 by omega), x_twiceM.f, Int.toNat_natCast, Option.bind_some]
    refine Ev.bind (bname _) ?_
    unfold matE
    by_cases h : nameOk (rd_T70 mt (i : Int)).f0 = true
    · simp only [if_pos h]
      by_cases h' : ((mt.take i).any fun x => x.f0.toList == (rd_T70 mt (i : Int)).f0.toList) = true
      · simp only [if_pos h']; exact Ev.const _
      · simp only [if_neg h']
        refine Ev.bind (bmat o mt s p a4 a5 a6 ho _) ?_
        by_cases h2 : matC o.length (rd_T70 mt (i : Int)) = 0
        · simp only [if_pos h2]; exact ih
        · simp only [if_neg h2]; exact Ev.const _
    · simp only [if_neg h]; exact Ev.const _
theorem bmats (ho : o.length ≤ 12) : Ev (fun k => b_checkMaterials.f k o mt s p a4 a5 a6) (if mt.length > 12 then 3 else if mt.length = 0 then 1 else matE mt o.length mt.length 0) := by
  unfold b_checkMaterials.f
  by_cases h : mt.length > 12
  · simp only [if_pos h, if_pos (show (mt.length : Int) > 12 by omega)]; exact Ev.const _
  · by_cases h' : mt.length = 0
    · simp only [if_neg h, if_neg (show ¬ (mt.length : Int) > 12 by omega), if_pos h', if_pos (show (mt.length : Int) = 0 by omega)]; exact Ev.const _
    · simp only [if_neg h, if_neg (show ¬ (mt.length : Int) > 12 by omega), if_neg h', if_neg (show ¬ (mt.length : Int) = 0 by omega)]
      exact bmats_l0 o mt s p a4 a5 a6 ho (by omega) mt.length 0 (by omega)
theorem bpros_l0 (hp : p.length ≤ 6) (R : Int) (hR : Ev (fun _ => (b_span.f a4 a5 (-10000) 10000).bind fun t147 => (if t147 = true then ((b_within.f a6 1 10000).bind fun t148 => (if t148 = true then (some 0) else (some 1))) else (some 1))) R) :
    ∀ (m i : Nat), i + m = p.length → Ev (fun k => b_Check.l0 k p (p.length : Int) (i : Int) o mt s p a4 a5 a6) (if proE p o.length m i = 0 then R else proE p o.length m i)
  | 0, i, hi => by
    apply Ev.step
    simp only [b_Check.l0, if_neg (show ¬ (i : Int) < (p.length : Int) by omega)]
    exact hR.cast (by simp [proE])
  | m + 1, i, hi => by
    have ih := bpros_l0 hp R hR m (i + 1) (by omega)
    apply Ev.step
    simp only [b_Check.l0, if_pos (show (i : Int) < (p.length : Int) by omega), if_pos (i_pos i), wrap_succ (i_pos i) (show (i : Int) ≤ 1000000000 by omega), x_twiceP.f, Int.toNat_natCast, Option.bind_some]
    refine Ev.bind (bname _) ?_
    unfold proE
    by_cases h : nameOk (rd_T89 p (i : Int)).f0 = true
    · simp only [if_pos h]
      by_cases h' : ((p.take i).any fun x => x.f0.toList == (rd_T89 p (i : Int)).f0.toList) = true
      · simp only [if_pos h']; exact (Ev.const _).cast (by simp)
      · simp only [if_neg h']
        refine Ev.bind (bpro o mt s p a4 a5 a6 _) ?_
        by_cases h2 : proC o.length (rd_T89 p (i : Int)) = 0
        · simp only [if_pos h2]; exact ih
        · simp only [if_neg h2]; exact Ev.const _
    · simp only [if_neg h]; exact (Ev.const _).cast (by simp)
end
end
section
section
variable (o : List ByteArray) (mt : List S70) (s : List S27) (p : List S89) (a4 a5 a6 : Int)
def endV : Int := if -10000 ≤ a4 ∧ a4 ≤ a5 ∧ a5 ≤ 10000 then (if 1 ≤ a6 ∧ a6 ≤ 10000 then 0 else 1) else 1
def proV : Int := if p.length > 6 then 3 else if proE p o.length p.length 0 = 0 then endV a4 a5 a6 else proE p o.length p.length 0
def shaV : Int := if s.length = o.length then (if s.any badSpan = true then 1 else proV o p a4 a5 a6) else 1
def matV : Int := if mt.length > 12 then 3 else if mt.length = 0 then 1 else if matE mt o.length mt.length 0 = 0 then shaV o s p a4 a5 a6 else matE mt o.length mt.length 0
def checkV : Int := if o.length > 12 then 3 else if o.length = 0 then 1 else if oxE o o.length 0 = 0 then matV o mt s p a4 a5 a6 else oxE o o.length 0
theorem bend : Ev (fun _ => (b_span.f a4 a5 (-10000) 10000).bind fun t147 => (if t147 = true then ((b_within.f a6 1 10000).bind fun t148 => (if t148 = true then (some 0) else (some 1))) else (some 1))) (endV a4 a5 a6) := by
  simp only [span_f, within_f, Option.bind_some, Bool.and_eq_true, decide_eq_true_eq]
  unfold endV
  by_cases h2 : -10000 ≤ a4 ∧ a4 ≤ a5 ∧ a5 ≤ 10000
  · have h2' : (-10000 ≤ a4 ∧ a4 ≤ a5) ∧ a5 ≤ 10000 := by omega
    simp only [if_pos h2', if_pos h2]
    by_cases h3 : 1 ≤ a6 ∧ a6 ≤ 10000
    · simp only [if_pos h3]; exact Ev.const _
    · simp only [if_neg h3]; exact Ev.const _
  · have h2' : ¬ ((-10000 ≤ a4 ∧ a4 ≤ a5) ∧ a5 ≤ 10000) := by omega
    simp only [if_neg h2', if_neg h2]; exact Ev.const _
theorem bj0 (b : Bool) : Ev (fun k => b_Check.j0 k b o mt s p a4 a5 a6) (if b = true then 1 else proV o p a4 a5 a6) := by
  apply Ev.step
  simp only [b_Check.j0]
  cases b with
  | true => simp only [if_true]; exact Ev.const _
  | false =>
    simp only [Bool.false_eq_true, if_false]
    unfold proV
    by_cases h : p.length > 6
    · simp only [if_pos h, if_pos (show (p.length : Int) > 6 by omega)]; exact Ev.const _
    · simp only [if_neg h, if_neg (show ¬ (p.length : Int) > 6 by omega)]
      exact bpros_l0 o mt s p a4 a5 a6 (by omega) _ (bend a4 a5 a6) p.length 0 (by omega)
theorem bcheck : Ev (fun k => b_Check.f k o mt s p a4 a5 a6) (checkV o mt s p a4 a5 a6) := by
  unfold b_Check.f
  refine Ev.bind (box_f o mt s p a4 a5 a6) ?_
  unfold checkV
  by_cases h : o.length > 12
  · simp only [if_pos h]; exact Ev.const _
  · by_cases h' : o.length = 0
    · simp only [if_neg h, if_pos h']; exact Ev.const _
    · simp only [if_neg h, if_neg h']
      by_cases h2 : oxE o o.length 0 = 0
      · simp only [if_pos h2]
        refine Ev.bind (bmats o mt s p a4 a5 a6 (by omega)) ?_
        unfold matV
        by_cases h3 : mt.length > 12
        · simp only [if_pos h3]; exact Ev.const _
        · by_cases h4 : mt.length = 0
          · simp only [if_neg h3, if_pos h4]; exact Ev.const _
          · simp only [if_neg h3, if_neg h4]
            by_cases h5 : matE mt o.length mt.length 0 = 0
            · simp only [if_pos h5]
              unfold shaV
              by_cases h6 : s.length = o.length
              · simp only [if_pos h6, if_pos (show (s.length : Int) = (o.length : Int) by omega), x_spans.f, Option.bind_some]
                exact bj0 o mt s p a4 a5 a6 _
              · simp only [if_neg h6, if_neg (show ¬ (s.length : Int) = (o.length : Int) by omega)]
                exact (bj0 o mt s p a4 a5 a6 true).cast (by simp)
            · simp only [if_neg h5]; exact Ev.const _
      · simp only [if_neg h2]; exact Ev.const _
end
theorem conE_ok (l : List S27) : ∀ (m i : Nat) (acc : Int), i + m = l.length → conE l m i acc = 0 → ∀ j : Nat, i ≤ j → j < l.length → badSpan (rd_T27 l (j : Int)) = false
  | 0, i, acc, hi, h, j, h1, h2 => by omega
  | m + 1, i, acc, hi, h, j, h1, h2 => by
    unfold conE at h
    by_cases hb : badSpan (rd_T27 l (i : Int)) = true
    · rw [if_pos hb] at h; omega
    · rw [if_neg hb] at h
      by_cases hj : j = i
      · subst hj; simpa using hb
      · exact conE_ok l m (i + 1) _ (by omega) h j (by omega) h2
structure MatOk (n : Nat) (x : S70) : Prop where
  price : 0 ≤ x.f1 ∧ x.f1 ≤ 10000
  redox : -1000 ≤ x.f2 ∧ x.f2 ≤ 1000
  least : 0 ≤ x.f3 ∧ x.f3 ≤ 10000
  most : x.f3 ≤ x.f4 ∧ x.f4 ≤ 10000
  step : 1 ≤ x.f5 ∧ x.f5 ≤ 10000
  len : x.f6.length = n
  con : ∀ j : Nat, j < n → 0 ≤ (rd_T27 x.f6 (j : Int)).f0 ∧ (rd_T27 x.f6 (j : Int)).f0 ≤ (rd_T27 x.f6 (j : Int)).f1 ∧ (rd_T27 x.f6 (j : Int)).f1 ≤ 1000
theorem matC_ok {n : Nat} {x : S70} (h : matC n x = 0) : MatOk n x := by
  unfold matC at h
  by_cases hc : (0 ≤ x.f1 ∧ x.f1 ≤ 10000) ∧ (-1000 ≤ x.f2 ∧ x.f2 ≤ 1000) ∧ (0 ≤ x.f3 ∧ x.f3 ≤ 10000) ∧ (x.f3 ≤ x.f4 ∧ x.f4 ≤ 10000) ∧ (1 ≤ x.f5 ∧ x.f5 ≤ 10000) ∧ x.f6.length = n
  · rw [if_pos hc] at h
    obtain ⟨h1, h2, h3, h4, h5, h6⟩ := hc
    exact ⟨h1, h2, h3, h4, h5, h6, fun j hj => bad_false (conE_ok x.f6 _ 0 0 (by omega) h j (by omega) (by omega))⟩
  · rw [if_neg hc] at h; omega
theorem matE_ok (mt : List S70) (n : Nat) : ∀ (m i : Nat), matE mt n m i = 0 → ∀ j : Nat, i ≤ j → j < i + m → MatOk n (rd_T70 mt (j : Int))
  | 0, i, h, j, h1, h2 => by omega
  | m + 1, i, h, j, h1, h2 => by
    unfold matE at h
    by_cases ha : nameOk (rd_T70 mt (i : Int)).f0 = true
    · rw [if_pos ha] at h
      by_cases hb : ((mt.take i).any fun x => x.f0.toList == (rd_T70 mt (i : Int)).f0.toList) = true
      · rw [if_pos hb] at h; omega
      · rw [if_neg hb] at h
        by_cases hc : matC n (rd_T70 mt (i : Int)) = 0
        · rw [if_pos hc] at h
          by_cases hj : j = i
          · subst hj; exact matC_ok hc
          · exact matE_ok mt n m (i + 1) h j (by omega) (by omega)
        · rw [if_neg hc] at h; exact absurd h hc
    · rw [if_neg ha] at h; omega
structure ProOk (n : Nat) (x : S89) : Prop where
  len : x.f1.length = n
  coef : ∀ j : Nat, j < n → -10000 ≤ rd x.f1 (j : Int) ∧ rd x.f1 (j : Int) ≤ 10000
  target : -10000 ≤ x.f2.f0 ∧ x.f2.f0 ≤ x.f2.f1 ∧ x.f2.f1 ≤ 10000
theorem proC_ok {n : Nat} {x : S89} (h : proC n x = 0) : ProOk n x := by
  unfold proC at h
  by_cases h1 : x.f1.length = n
  · rw [if_pos h1] at h
    by_cases h2 : x.f1.any (outside (-10000) 10000) = true
    · rw [if_pos h2] at h; omega
    · rw [if_neg h2] at h
      by_cases h3 : -10000 ≤ x.f2.f0 ∧ x.f2.f0 ≤ x.f2.f1 ∧ x.f2.f1 ≤ 10000
      · refine ⟨h1, fun j hj => ?_, h3⟩
        have hm : rd x.f1 (j : Int) ∈ x.f1 := by
          have hlt : j < x.f1.length := by omega
          have : rd x.f1 (j : Int) = x.f1[j] := by simp [rd, hlt]
          rw [this]; exact List.getElem_mem hlt
        have hn : outside (-10000) 10000 (rd x.f1 (j : Int)) = false := by
          cases ho : outside (-10000) 10000 (rd x.f1 (j : Int)) with
          | false => rfl
          | true => exact absurd (List.any_eq_true.mpr ⟨_, hm, ho⟩) h2
        simp [outside] at hn; omega
      · rw [if_neg h3] at h; omega
  · rw [if_neg h1] at h; omega
theorem proE_ok (p : List S89) (n : Nat) : ∀ (m i : Nat), proE p n m i = 0 → ∀ j : Nat, i ≤ j → j < i + m → ProOk n (rd_T89 p (j : Int))
  | 0, i, h, j, h1, h2 => by omega
  | m + 1, i, h, j, h1, h2 => by
    unfold proE at h
    by_cases ha : nameOk (rd_T89 p (i : Int)).f0 = true
    · rw [if_pos ha] at h
      by_cases hb : ((p.take i).any fun x => x.f0.toList == (rd_T89 p (i : Int)).f0.toList) = true
      · rw [if_pos hb] at h; omega
      · rw [if_neg hb] at h
        by_cases hc : proC n (rd_T89 p (i : Int)) = 0
        · rw [if_pos hc] at h
          by_cases hj : j = i
          · subst hj; exact proC_ok hc
          · exact proE_ok p n m (i + 1) h j (by omega) (by omega)
        · rw [if_neg hc] at h; exact absurd h hc
    · rw [if_neg ha] at h; omega
structure BatchOk (o : List ByteArray) (mt : List S70) (s : List S27) (p : List S89) (a4 a5 a6 : Int) : Prop where
  o12 : o.length ≤ 12
  o1 : o.length ≠ 0
  m12 : mt.length ≤ 12
  m1 : mt.length ≠ 0
  mats : ∀ j : Nat, j < mt.length → MatOk o.length (rd_T70 mt (j : Int))
  slen : s.length = o.length
  shares : ∀ j : Nat, j < s.length → 0 ≤ (rd_T27 s (j : Int)).f0 ∧ (rd_T27 s (j : Int)).f0 ≤ (rd_T27 s (j : Int)).f1 ∧ (rd_T27 s (j : Int)).f1 ≤ 1000
  p6 : p.length ≤ 6
  pros : ∀ j : Nat, j < p.length → ProOk o.length (rd_T89 p (j : Int))
  redox : -10000 ≤ a4 ∧ a4 ≤ a5 ∧ a5 ≤ 10000
  wanted : 1 ≤ a6 ∧ a6 ≤ 10000
theorem check_ok {o : List ByteArray} {mt : List S70} {s : List S27} {p : List S89} {a4 a5 a6 : Int} (h : checkV o mt s p a4 a5 a6 = 0) : BatchOk o mt s p a4 a5 a6 := by
  unfold checkV at h
  by_cases h1 : o.length > 12
  · rw [if_pos h1] at h; omega
  rw [if_neg h1] at h
  by_cases h2 : o.length = 0
  · rw [if_pos h2] at h; omega
  rw [if_neg h2] at h
  by_cases h3 : oxE o o.length 0 = 0
  rotate_left
  · rw [if_neg h3] at h; exact absurd h h3
  rw [if_pos h3] at h
  unfold matV at h
  by_cases h4 : mt.length > 12
  · rw [if_pos h4] at h; omega
  rw [if_neg h4] at h
  by_cases h5 : mt.length = 0
  · rw [if_pos h5] at h; omega
  rw [if_neg h5] at h
  by_cases h6 : matE mt o.length mt.length 0 = 0
  rotate_left
  · rw [if_neg h6] at h; exact absurd h h6
  rw [if_pos h6] at h
  unfold shaV at h
  by_cases h7 : s.length = o.length
  rotate_left
  · rw [if_neg h7] at h; omega
  rw [if_pos h7] at h
  by_cases h8 : s.any badSpan = true
  · rw [if_pos h8] at h; omega
  rw [if_neg h8] at h
  unfold proV at h
  by_cases h9 : p.length > 6
  · rw [if_pos h9] at h; omega
  rw [if_neg h9] at h
  by_cases h10 : proE p o.length p.length 0 = 0
  rotate_left
  · rw [if_neg h10] at h; exact absurd h h10
  rw [if_pos h10] at h
  unfold endV at h
  by_cases h11 : -10000 ≤ a4 ∧ a4 ≤ a5 ∧ a5 ≤ 10000
  rotate_left
  · rw [if_neg h11] at h; omega
  rw [if_pos h11] at h
  by_cases h12 : 1 ≤ a6 ∧ a6 ≤ 10000
  rotate_left
  · rw [if_neg h12] at h; omega
  refine ⟨by omega, h2, by omega, h5, fun j hj => matE_ok mt _ _ 0 h6 j (by omega) (by omega), h7, fun j hj => ?_, by omega, fun j hj => proE_ok p _ _ 0 h10 j (by omega) (by omega), h11, h12⟩
  have hlt : j < s.length := hj
  have hr : rd_T27 s (j : Int) = s[j] := by simp [rd_T27, hlt]
  rw [hr]
  apply bad_false
  cases hb : badSpan s[j] with
  | false => rfl
  | true => exact absurd (List.any_eq_true.mpr ⟨_, List.getElem_mem hlt, hb⟩) h8
end
section
end
section
end
section
end
section
def recV (mt : List S70) (r : List Int) : Int := if r.length = mt.length then (if r.any (outside 0 10000) = true then 1 else 0) else 1
section
variable (o : List ByteArray) (mt : List S70) (s : List S27) (p : List S89) (a4 a5 a6 : Int) (r : List Int)
def askV : Int := if checkV o mt s p a4 a5 a6 = 0 then recV mt r else checkV o mt s p a4 a5 a6
theorem basked : Ev (fun k => b_asked.f k o mt s p a4 a5 a6 r) (askV o mt s p a4 a5 a6 r) := by
  unfold b_asked.f askV
  refine Ev.bind (bcheck o mt s p a4 a5 a6) ?_
  by_cases h : checkV o mt s p a4 a5 a6 = 0
  · simp only [if_pos h, b_checkRecipe.f, x_kilos.f, Option.bind_some]
    unfold recV
    by_cases h1 : r.length = mt.length
    · simp only [if_pos h1, if_pos (show (r.length : Int) = (mt.length : Int) by omega)]
      by_cases h2 : r.any (outside 0 10000) = true
      · simp only [if_pos h2, Option.bind_some]; exact Ev.const _
      · simp only [if_neg h2, Option.bind_some]; exact Ev.const _
    · simp only [if_neg h1, if_neg (show ¬ (r.length : Int) = (mt.length : Int) by omega), Option.bind_some]; exact Ev.const _
  · simp only [if_neg h]; exact Ev.const _
end
structure RecOk (mt : List S70) (r : List Int) : Prop where
  len : r.length = mt.length
  kilos : ∀ j : Nat, j < mt.length → 0 ≤ rd r (j : Int) ∧ rd r (j : Int) ≤ 10000
theorem ask_ok {o : List ByteArray} {mt : List S70} {s : List S27} {p : List S89} {a4 a5 a6 : Int} {r : List Int} (h : askV o mt s p a4 a5 a6 r = 0) : BatchOk o mt s p a4 a5 a6 ∧ RecOk mt r := by
  unfold askV at h
  by_cases h1 : checkV o mt s p a4 a5 a6 = 0
  · rw [if_pos h1] at h
    refine ⟨check_ok h1, ?_⟩
    unfold recV at h
    by_cases h2 : r.length = mt.length
    · rw [if_pos h2] at h
      by_cases h3 : r.any (outside 0 10000) = true
      · rw [if_pos h3] at h; omega
      · refine ⟨h2, fun j hj => ?_⟩
        have hm : rd r (j : Int) ∈ r := by
          have hlt : j < r.length := by omega
          have : rd r (j : Int) = r[j] := by simp [rd, hlt]
          rw [this]; exact List.getElem_mem hlt
        have hn : outside 0 10000 (rd r (j : Int)) = false := by
          cases ho : outside 0 10000 (rd r (j : Int)) with
          | false => rfl
          | true => exact absurd (List.any_eq_true.mpr ⟨_, hm, ho⟩) h3
        simp [outside] at hn; omega
    · rw [if_neg h2] at h; omega
  · rw [if_neg h1] at h; exact absurd h h1
def gS (F : S27 → Int) (mt : List S70) (r : List Int) (j : Nat) : Nat → Int
  | 0 => 0
  | n + 1 => gS F mt r j n + rd r (n : Int) * F (rd_T27 (rd_T70 mt (n : Int)).f6 (j : Int))
def stL (n : Nat) (mt : List S70) (r : List Int) (i jj : Nat) : List S27 := (List.range n).map fun j => if j < jj then ⟨gS S27.f0 mt r j (i + 1), gS S27.f1 mt r j (i + 1)⟩ else ⟨gS S27.f0 mt r j i, gS S27.f1 mt r j i⟩
theorem stL_len (n : Nat) (mt : List S70) (r : List Int) (i jj : Nat) : (stL n mt r i jj).length = n := by simp [stL]
theorem stL_get (n : Nat) (mt : List S70) (r : List Int) (i jj j : Nat) (h : j < n) : rd_T27 (stL n mt r i jj) (j : Int) = if j < jj then ⟨gS S27.f0 mt r j (i + 1), gS S27.f1 mt r j (i + 1)⟩ else ⟨gS S27.f0 mt r j i, gS S27.f1 mt r j i⟩ := by
  simp [rd_T27, stL, List.getD, h]
theorem stL_zero (n : Nat) (mt : List S70) (r : List Int) : List.replicate n z27 = stL n mt r 0 0 := by
  apply List.ext_getElem
  · simp [stL]
  · intro i h1 h2; simp [stL, gS, z27]
theorem stL_next (n : Nat) (mt : List S70) (r : List Int) (i : Nat) : stL n mt r i n = stL n mt r (i + 1) 0 := by
  apply List.ext_getElem
  · simp [stL]
  · intro j h1 h2
    have hj : j < n := by simpa [stL] using h1
    simp [stL, hj]
theorem stL_set (n : Nat) (mt : List S70) (r : List Int) (i jj : Nat) (h : jj < n) (x : S27) : ((stL n mt r i jj).set jj x).set jj ⟨gS S27.f0 mt r jj (i + 1), gS S27.f1 mt r jj (i + 1)⟩ = stL n mt r i (jj + 1) := by
  rw [List.set_set]
  apply List.ext_getElem
  · simp [stL]
  · intro j h1 h2
    have hj : j < n := by simpa [stL] using h1
    rw [List.getElem_set]
    by_cases hc : jj = j
    · subst hc; simp [stL]
    · have : j < jj ↔ j < jj + 1 := by omega
      simp [stL, hc, this]
theorem rd_T27_set (l : List S27) (j : Nat) (x : S27) (h : j < l.length) : rd_T27 (l.set j x) (j : Int) = x := by simp [rd_T27, List.getD, h]
theorem mul_bound {a b : Int} (h0 : 0 ≤ a) (h1 : a ≤ 10000) (h2 : 0 ≤ b) (h3 : b ≤ 1000) : 0 ≤ a * b ∧ a * b ≤ 10000000 := by
  have e1 := Int.mul_nonneg h0 h2
  have e2 := Int.mul_le_mul_of_nonneg_right h1 h2
  omega
theorem gS_bound {F : S27 → Int} {mt : List S70} {r : List Int} {n j : Nat} (hr : RecOk mt r) (hF : ∀ i : Nat, i < mt.length → 0 ≤ F (rd_T27 (rd_T70 mt (i : Int)).f6 (j : Int)) ∧ F (rd_T27 (rd_T70 mt (i : Int)).f6 (j : Int)) ≤ 1000) :
    ∀ n, n ≤ mt.length → 0 ≤ gS F mt r j n ∧ gS F mt r j n ≤ 10000000 * n := by
  intro n
  induction n with
  | zero => intro _; simp [gS]
  | succ n ih =>
    intro hn
    have h1 := ih (by omega)
    have h2 := hr.kilos n (by omega)
    have h3 := hF n (by omega)
    have h4 := mul_bound h2.1 h2.2 h3.1 h3.2
    simp only [gS]
    omega
section
variable {o : List ByteArray} {mt : List S70} {s : List S27} {p : List S89} {a4 a5 a6 : Int} {r : List Int}
theorem gram_new {F : S27 → Int} (hb : mt.length ≤ 12) (hr : RecOk mt r) {j : Nat} (hF : ∀ i : Nat, i < mt.length → 0 ≤ F (rd_T27 (rd_T70 mt (i : Int)).f6 (j : Int)) ∧ F (rd_T27 (rd_T70 mt (i : Int)).f6 (j : Int)) ≤ 1000) (i : Nat) (hi : i < mt.length) :
    wrap64 (gS F mt r j i + wrap64 (rd r (i : Int) * F (rd_T27 (rd_T70 mt (i : Int)).f6 (j : Int)))) = gS F mt r j (i + 1) := by
  have h1 := gS_bound (n := 0) hr hF i (by omega)
  have h2 := hr.kilos i hi
  have h3 := hF i hi
  have h4 := mul_bound h2.1 h2.2 h3.1 h3.2
  rw [wrap_id (x := rd r (i : Int) * F (rd_T27 (rd_T70 mt (i : Int)).f6 (j : Int))) (by omega) (by omega), wrap_id (by omega) (by omega)]
  rfl
theorem con0 (H : BatchOk o mt s p a4 a5 a6) {j : Nat} (hj : j < o.length) : ∀ i : Nat, i < mt.length → 0 ≤ S27.f0 (rd_T27 (rd_T70 mt (i : Int)).f6 (j : Int)) ∧ S27.f0 (rd_T27 (rd_T70 mt (i : Int)).f6 (j : Int)) ≤ 1000 := by
  intro i hi
  have := (H.mats i hi).con j hj
  omega
theorem con1 (H : BatchOk o mt s p a4 a5 a6) {j : Nat} (hj : j < o.length) : ∀ i : Nat, i < mt.length → 0 ≤ S27.f1 (rd_T27 (rd_T70 mt (i : Int)).f6 (j : Int)) ∧ S27.f1 (rd_T27 (rd_T70 mt (i : Int)).f6 (j : Int)) ≤ 1000 := by
  intro i hi
  have := (H.mats i hi).con j hj
  omega
def gramL (n : Nat) (mt : List S70) (r : List Int) : List S27 := stL n mt r mt.length 0
theorem bgram_l1 (H : BatchOk o mt s p a4 a5 a6) (hr : RecOk mt r) (i : Nat) (hi : i < mt.length) (ih : Ev (fun k => b_grams.l0 k r (stL o.length mt r (i + 1) 0) mt (mt.length : Int) ((i + 1 : Nat) : Int)) (gramL o.length mt r)) :
    ∀ (m jj : Nat), jj + m = o.length → Ev (fun k => b_grams.l1 k r (stL o.length mt r i jj) (i : Int) mt (mt.length : Int) (i : Int) (rd_T70 mt (i : Int)).f6 ((rd_T70 mt (i : Int)).f6.length : Int) (jj : Int)) (gramL o.length mt r)
  | 0, jj, hj => by
    have hl := (H.mats i hi).len
    have hm := H.m12
    apply Ev.step
    simp only [b_grams.l1, if_neg (show ¬ (jj : Int) < ((rd_T70 mt (i : Int)).f6.length : Int) by omega), wrap_succ (i_pos i) (show (i : Int) ≤ 1000000000 by omega)]
    rw [show jj = o.length by omega, stL_next]
    exact ih
  | m + 1, jj, hj => by
    have hl := (H.mats i hi).len
    have hm := H.m12
    have ho := H.o12
    have hrl := hr.len
    have hlt : jj < o.length := by omega
    have ih' := bgram_l1 H hr i hi ih m (jj + 1) (by omega)
    apply Ev.step
    simp only [b_grams.l1, if_pos (show (jj : Int) < ((rd_T70 mt (i : Int)).f6.length : Int) by omega), if_pos (i_pos jj), stL_len, if_pos (show (jj : Int) < (o.length : Int) by omega), if_pos (i_pos i), if_pos (show (i : Int) < (r.length : Int) by omega), Option.bind_some, Int.toNat_natCast,
      wrap_succ (i_pos jj) (show (jj : Int) ≤ 1000000000 by omega)]
    rw [rd_T27_set _ _ _ (by rw [stL_len]; exact hlt), stL_get _ _ _ _ _ _ hlt, if_neg (Nat.lt_irrefl jj)]
    dsimp only
    rw [gram_new hm hr (con0 H hlt) i hi, gram_new hm hr (con1 H hlt) i hi, stL_set _ _ _ _ _ hlt]
    exact ih'
theorem bgram_l0 (H : BatchOk o mt s p a4 a5 a6) (hr : RecOk mt r) : ∀ (m i : Nat), i + m = mt.length → Ev (fun k => b_grams.l0 k r (stL o.length mt r i 0) mt (mt.length : Int) (i : Int)) (gramL o.length mt r)
  | 0, i, hi => by
    apply Ev.step
    simp only [b_grams.l0, if_neg (show ¬ (i : Int) < (mt.length : Int) by omega)]
    rw [show i = mt.length by omega]
    exact Ev.const _
  | m + 1, i, hi => by
    have ih := bgram_l0 H hr m (i + 1) (by omega)
    apply Ev.step
    simp only [b_grams.l0, if_pos (show (i : Int) < (mt.length : Int) by omega), if_pos (i_pos i)]
    exact bgram_l1 H hr i (by omega) ih o.length 0 (by omega)
theorem bgrams (H : BatchOk o mt s p a4 a5 a6) (hr : RecOk mt r) : Ev (fun k => b_grams.f k o mt s p a4 a5 a6 r) (gramL o.length mt r) := by
  have ho := H.o12
  unfold b_grams.f
  simp only [if_pos (i_pos o.length), Int.toNat_natCast, if_pos (show o.length ≤ 17592186044416 by omega)]
  rw [stL_zero o.length mt r]
  exact bgram_l0 H hr mt.length 0 (by omega)
theorem gramL_len (n : Nat) (mt : List S70) (r : List Int) : (gramL n mt r).length = n := stL_len _ _ _ _ _
theorem gramL_get (n : Nat) (mt : List S70) (r : List Int) (j : Nat) (h : j < n) : rd_T27 (gramL n mt r) (j : Int) = ⟨gS S27.f0 mt r j mt.length, gS S27.f1 mt r j mt.length⟩ := by
  unfold gramL; rw [stL_get _ _ _ _ _ _ h, if_neg (Nat.not_lt_zero _)]
theorem gS_le (H : BatchOk o mt s p a4 a5 a6) (hr : RecOk mt r) {j : Nat} (hj : j < o.length) : ∀ n, n ≤ mt.length → gS S27.f0 mt r j n ≤ gS S27.f1 mt r j n := by
  intro n
  induction n with
  | zero => intro _; simp [gS]
  | succ n ih =>
    intro hn
    have h1 := ih (by omega)
    have h2 := hr.kilos n (by omega)
    have h3 := (H.mats n (by omega)).con j hj
    have h4 := Int.mul_le_mul_of_nonneg_left h3.2.1 h2.1
    simp only [gS]
    omega
theorem gram_bounds (H : BatchOk o mt s p a4 a5 a6) (hr : RecOk mt r) {j : Nat} (hj : j < o.length) :
    0 ≤ (rd_T27 (gramL o.length mt r) (j : Int)).f0 ∧ (rd_T27 (gramL o.length mt r) (j : Int)).f0 ≤ (rd_T27 (gramL o.length mt r) (j : Int)).f1 ∧ (rd_T27 (gramL o.length mt r) (j : Int)).f1 ≤ 120000000 := by
  have hm := H.m12
  have h1 := gS_bound (n := 0) hr (con0 H hj) mt.length (Nat.le_refl _)
  have h2 := gS_bound (n := 0) hr (con1 H hj) mt.length (Nat.le_refl _)
  have h3 := gS_le H hr hj mt.length (Nat.le_refl _)
  rw [gramL_get _ _ _ _ hj]
  dsimp only
  omega
end
end
section
end
section
end
section
end
section
end
section
theorem mx_max (a b : Int) : mx a b = max a b := by unfold mx; split <;> omega
theorem sumTo_congr {f g : Nat → Int} : ∀ n, (∀ j, j < n → f j = g j) → sumTo f n = sumTo g n := by
  intro n
  induction n with
  | zero => intro _; rfl
  | succ n ih => intro h; simp only [sumTo]; rw [ih fun j hj => h j (by omega), h n (by omega)]
theorem sumTo_le {f g : Nat → Int} : ∀ n, (∀ j, j < n → f j ≤ g j) → sumTo f n ≤ sumTo g n := by
  intro n
  induction n with
  | zero => intro _; exact Int.le_refl _
  | succ n ih => intro h; have := ih fun j hj => h j (by omega); have := h n (by omega); simp only [sumTo]; omega
theorem sumTo_zero : ∀ n, sumTo (fun _ => 0) n = 0 := by
  intro n
  induction n with
  | zero => rfl
  | succ n ih => simp only [sumTo, ih]; omega
theorem iotaA_at {n j : Nat} (h : j < n) : (iotaA n)[j]! = (j : Int) := by
  rw [getElem!_pos _ j (by rw [iotaA_size]; exact h)]; simp [iotaA]
theorem lsum_sumTo (f : Int → Int) (n : Nat) : MeanMath.lsum f (iotaA n).toList = sumTo (fun j => f (j : Int)) n := by
  have h := sumTo_lsum f (iotaA n) n (by rw [iotaA_size]; exact Nat.le_refl _)
  rw [List.take_of_length_le (by rw [Array.length_toList, iotaA_size]; exact Nat.le_refl _)] at h
  rw [← h]
  exact sumTo_congr n fun j hj => by rw [iotaA_at hj]
structure GOk (l : List S27) : Prop where
  n12 : l.length ≤ 12
  at_ : ∀ j : Nat, j < l.length → 0 ≤ (rd_T27 l (j : Int)).f0 ∧ (rd_T27 l (j : Int)).f0 ≤ (rd_T27 l (j : Int)).f1 ∧ (rd_T27 l (j : Int)).f1 ≤ 120000000
def wS (F : S27 → Int) (l : List S27) (i : Nat) : Int := sumTo (fun j => F (rd_T27 l (j : Int))) i
theorem wS_lsum (l : List S27) : wS S27.f0 l l.length = MeanMath.lsum S27.f0 l := by
  rw [← lsum_iota (fun k => (rd_T27 l k).f0) l (fun _ _ => rfl), lsum_sumTo]
  rfl
theorem wS_bounds {l : List S27} (H : GOk l) : ∀ i, i ≤ l.length → (0 ≤ wS S27.f0 l i ∧ wS S27.f0 l i ≤ 120000000 * i) ∧ (0 ≤ wS S27.f1 l i ∧ wS S27.f1 l i ≤ 120000000 * i) ∧ wS S27.f0 l i ≤ wS S27.f1 l i := by
  intro i
  induction i with
  | zero => intro _; simp [wS, sumTo]
  | succ i ih => intro hi; have h1 := ih (by omega); have h2 := H.at_ i (by omega); simp only [wS, sumTo] at *; omega
theorem bweight_l0 {l : List S27} (H : GOk l) : ∀ (m i : Nat), i + m = l.length → Ev (fun k => b_weight.l0 k l (l.length : Int) (i : Int) (wS S27.f0 l i) (wS S27.f1 l i)) (wS S27.f0 l l.length, wS S27.f1 l l.length)
  | 0, i, hi => by
    apply Ev.step
    simp only [b_weight.l0, if_neg (show ¬ (i : Int) < (l.length : Int) by omega)]
    rw [show i = l.length by omega]
    exact Ev.const _
  | m + 1, i, hi => by
    have ih := bweight_l0 H m (i + 1) (by omega)
    have hn := H.n12
    have hb := wS_bounds H i (by omega)
    have hc := H.at_ i (by omega)
    apply Ev.step
    simp only [b_weight.l0, if_pos (show (i : Int) < (l.length : Int) by omega), if_pos (i_pos i), wrap_succ (i_pos i) (show (i : Int) ≤ 1000000000 by omega)]
    rw [wrap_id (x := wS S27.f0 l i + (rd_T27 l (i : Int)).f0) (by omega) (by omega), wrap_id (x := wS S27.f1 l i + (rd_T27 l (i : Int)).f1) (by omega) (by omega)]
    exact ih
theorem bweight {l : List S27} (H : GOk l) : Ev (fun k => b_weight.f k l) (wS S27.f0 l l.length, wS S27.f1 l l.length) := bweight_l0 H l.length 0 (by omega)
structure CfOk (cf : Int → Int) (n : Nat) : Prop where
  at_ : ∀ j : Nat, j < n → -10000 ≤ cf (j : Int) ∧ cf (j : Int) ≤ 10000
theorem meanOk_of {cf : Int → Int} {l : List S27} (H : GOk l) (C : CfOk cf l.length) (hp : 0 < wS S27.f0 l l.length) : MeanOk cf l := by
  have key : ∀ k : Int, 0 ≤ k → k < l.length → ∃ j : Nat, j < l.length ∧ k = j := fun k h0 h1 => ⟨k.toNat, by omega, by omega⟩
  refine ⟨H.n12, ?_, ?_, ?_, ?_, ?_, by rw [← wS_lsum]; exact hp⟩ <;> intro k h0 hl <;> obtain ⟨j, hj, rfl⟩ := key k h0 hl <;> have h1 := H.at_ j hj <;> have h2 := C.at_ j hj <;> omega
def bT (cf : Int → Int) (l : List S27) (m : Int) (j : Nat) : Int := max ((m - cf j) * (rd_T27 l (j : Int)).f0) ((m - cf j) * (rd_T27 l (j : Int)).f1)
theorem belowS_sum (cf : Int → Int) (l : List S27) (m : Int) : belowS cf l m = sumTo (bT cf l m) l.length := lsum_sumTo _ _
def aT (cf : Int → Int) (l : List S27) (m : Int) (j : Nat) : Int := max ((cf j - m) * (rd_T27 l (j : Int)).f0) ((cf j - m) * (rd_T27 l (j : Int)).f1)
theorem aboveS_sum (cf : Int → Int) (l : List S27) (m : Int) : aboveS cf l m = sumTo (aT cf l m) l.length := by
  refine (lsum_sumTo _ _).trans (sumTo_congr _ fun j _ => ?_)
  unfold aT loF hiF
  dsimp only
  rw [show -m - -cf (j : Int) = cf (j : Int) - m by omega]
theorem mulb {c x : Int} (h1 : -30000 ≤ c) (h2 : c ≤ 30000) (h3 : 0 ≤ x) (h4 : x ≤ 120000000) : -3600000000000 ≤ c * x ∧ c * x ≤ 3600000000000 := by
  have e1 := Int.mul_le_mul_of_nonneg_right h1 h3
  have e2 := Int.mul_le_mul_of_nonneg_right h2 h3
  omega
theorem mean_range {cf : Int → Int} {l : List S27} (H : GOk l) (C : CfOk cf l.length) (hp : 0 < wS S27.f0 l l.length) : (-10000 ≤ meanLo cf l ∧ meanLo cf l ≤ 10000) ∧ (-10000 ≤ meanHi cf l ∧ meanHi cf l ≤ 10000) := by
  have M := meanOk_of H C hp
  have one : ∀ (c x : Int), 1 ≤ c → 0 ≤ x → x ≤ c * x := by
    intro c x h1 h2
    have := Int.mul_le_mul_of_nonneg_right h1 h2
    omega
  have neg : ∀ (c x : Int), c ≤ 0 → 0 ≤ x → c * x ≤ 0 := by
    intro c x h1 h2
    have := Int.mul_le_mul_of_nonneg_right h1 h2
    omega
  refine ⟨⟨?_, ?_⟩, ?_, ?_⟩
  · refine (meanLo_iff M _).1 ?_
    rw [belowS_sum, ← sumTo_zero l.length]
    refine sumTo_le _ fun j hj => ?_
    have a1 := H.at_ j hj
    have a2 := C.at_ j hj
    have b1 := neg (-10000 - cf j) (rd_T27 l (j : Int)).f0 (by omega) (by omega)
    have b2 := neg (-10000 - cf j) (rd_T27 l (j : Int)).f1 (by omega) (by omega)
    unfold bT; omega
  · apply Int.not_lt.1
    intro h
    have h1 := (meanLo_iff M 10001).2 (by omega)
    rw [belowS_sum] at h1
    have h2 : wS S27.f0 l l.length ≤ sumTo (bT cf l 10001) l.length := by
      refine sumTo_le _ fun j hj => ?_
      have a1 := H.at_ j hj
      have a2 := C.at_ j hj
      have b1 := one (10001 - cf j) (rd_T27 l (j : Int)).f0 (by omega) (by omega)
      unfold bT; omega
    omega
  · apply Int.not_lt.1
    intro h
    have h1 := (meanHi_iff M (-10001)).2 (by omega)
    rw [aboveS_sum] at h1
    have h2 : wS S27.f0 l l.length ≤ sumTo (aT cf l (-10001)) l.length := by
      refine sumTo_le _ fun j hj => ?_
      have a1 := H.at_ j hj
      have a2 := C.at_ j hj
      have b1 := one (cf j - -10001) (rd_T27 l (j : Int)).f0 (by omega) (by omega)
      unfold aT; omega
    omega
  · refine (meanHi_iff M _).1 ?_
    rw [aboveS_sum, ← sumTo_zero l.length]
    refine sumTo_le _ fun j hj => ?_
    have a1 := H.at_ j hj
    have a2 := C.at_ j hj
    have b1 := neg (cf j - 10000) (rd_T27 l (j : Int)).f0 (by omega) (by omega)
    have b2 := neg (cf j - 10000) (rd_T27 l (j : Int)).f1 (by omega) (by omega)
    unfold aT; omega
section
variable {cf : Int → Int} {l : List S27} {c : List Int} (H : GOk l) (C : CfOk cf l.length) (hp : 0 < wS S27.f0 l l.length) (hl : l.length ≤ c.length) (hc : ∀ j : Nat, j < l.length → rd c (j : Int) = cf (j : Int))
include H C hp hl hc
end
end
section
structure F128 where
 fn : Nat
 lb : Array Value
 tg : S27
def kfn : Kd (Nat × Array Value) := Kd.scalar (fun x => .func (.func x.1) #[] x.2) (fun _ => rfl)
def k128 : Kd F128 := Kd.iso (Kd.pair kfn k27) (fun x : F128 => ((x.fn, x.lb), x.tg))
theorem k128_open {w : World} {x : F128} {cs : List Value} (h : k128.K w x cs) : cs = [.func (.func x.fn) #[] x.lb, .int .i64 x.tg.f0, .int .i64 x.tg.f1] := by
 obtain ⟨_, _, rfl, rfl, h2⟩ := h
 rw [k27_open h2]; rfl
theorem k128_mkM (w : World) (base : Nat) (ok : Nat → Prop) (x : F128) : k128.M w base ok x [.func (.func x.fn) #[] x.lb, .int .i64 x.tg.f0, .int .i64 x.tg.f1] := ⟨[.func (.func x.fn) #[] x.lb], [.int .i64 x.tg.f0, .int .i64 x.tg.f1], rfl, rfl, k27_mkM _ _ _ _⟩
theorem info128 : (Tryz.prog.info? 128).map (fun i => (i.zero, i.size, i.bytes)) = some (some (.agg #[.nilFunc, .int .i64 0, .int .i64 0]), 3, 24) := by kernel_rfl
def putT : Bool × List (List Nat × List Nat) := (true, [([], []), ([], []), ([1], [1]), ([2], [2]), ([], []), ([4], [4]), ([3, 5], [3, 5]), ([0, 0, 1, 2, 3, 4, 5, 6], [0]), ([7, 6, 6, 0, 1, 2, 3, 4, 5, 6], [6, 7])])
def putB : List Nat := [0, 0, 2, 6, 0, 16, 62, 1, 255]
theorem put_tab : rtab .any (opsOf Tryz.f164 1) = putT := by kernel_rfl
theorem put_bits : waitsOk putT.2 putB = true := by kernel_rfl
theorem put_calls (w W : World) (H : Nat) (A : Option Addr) (n c : Nat) (xs : List F128) (x : F128) (hb : Below w.heap.size w W) (hH : w.heap.size ≤ H) (hB : W.heap[H]? = some (.cells #[.slice A n c] 124 (0, 0)))
  (hR : Kd.R k128 128 W w.heap.size (fun _ => True) (.slice A n c) xs) (hl : (xs.length + 1) * 24 ≤ 140737488355328) :
  Calls Tryz.prog 164 #[.pointer (some ⟨H, 0, none⟩), .agg #[.func (.func x.fn) #[] x.lb, .int .i64 x.tg.f0, .int .i64 x.tg.f1]] W fun e w' => e = .returned (.tuple #[]) ∧ Below w.heap.size w w' ∧ (∃ v1, w'.heap[H]? = some (.cells #[v1] 124 (0, 0)) ∧ Kd.R k128 128 w' w.heap.size (fun _ => True) v1 (xs ++ [x])) ∧
   ∀ g cs t, W.heap[g]? = some (.cells cs t (0, 0)) → t ≠ 128 → g ≠ H → w'.heap[g]? = some (.cells cs t (0, 0)) := by
 have HH := Sd.mk hH
 have HL := Sd.mk hl
 have HS := Sd.mk (Nat.le_refl w.heap.size)
 have BH := Sd.mk (blk_alloc hB (.cells #[.func (.func x.fn) #[] x.lb, .int .i64 x.tg.f0, .int .i64 x.tg.f1] 128))
 have BX := Sd.mk (blk_new W (.cells #[.func (.func x.fn) #[] x.lb, .int .i64 x.tg.f0, .int .i64 x.tg.f1] 128))
 have HB := Sd.mk (below_alloc hb (.cells #[.func (.func x.fn) #[] x.lb, .int .i64 x.tg.f0, .int .i64 x.tg.f1] 128))
 have HR := Sd.mk (Kd.R_alloc hR (.cells #[.func (.func x.fn) #[] x.lb, .int .i64 x.tg.f0, .int .i64 x.tg.f1] 128))
 have NEX := Sd.mk (show some W.heap.size ≠ (Value.slice A n c).ownBlock from fun hk => Nat.lt_irrefl _ (Kd.R_lt hR _ hk.symm))
 have HOTH := Sd.mk (fun g cs t (hg : W.heap[g]? = some (.cells cs t (0, 0))) => blk_alloc hg (.cells #[.func (.func x.fn) #[] x.lb, .int .i64 x.tg.f0, .int .i64 x.tg.f1] 128))
 have NHX := Sd.mk (blk_lt hB)
 clear hH hl hb hR hB
 go_enter Tryz.func164, Tryz.ntmps164
 go_wp2
 generalize hWX : W.alloc (.cells #[.func (.func x.fn) #[] x.lb, .int .i64 x.tg.f0, .int .i64 x.tg.f1] 128) = WX at *
 generalize hXX : W.heap.size = X at *
 clear hXX
 clear hWX
 refine start_ (n := 9) (S := fun w' => w'.cell? ⟨H, 0, none⟩ = some (.slice A n c) ∧ w'.cell? ⟨X, 0, none⟩ = some (.func (.func x.fn) #[] x.lb) ∧ w'.cell? ⟨X, 1, none⟩ = some (.int .i64 x.tg.f0) ∧ w'.cell? ⟨X, 2, none⟩ = some (.int .i64 x.tg.f1)) (ds := [8]) #[false, false, false, false, false, false, false, false, false] (by kernel_rfl) rfl rfl ⟨(blk_cell BH.out 0).trans rfl, (blk_cell BX.out 0).trans rfl, (blk_cell BX.out 1).trans rfl, (blk_cell BX.out 2).trans rfl⟩ (fun hHeld => ?_); refine with_tabW put_tab put_bits (fun HT_ HW_ => ?_)
 replace BH := Sd.mk (blk_drew BH.out)
 replace BX := Sd.mk (blk_drew BX.out)
 replace HB := Sd.mk (below_drew1 HB.out)
 replace HR := Sd.mk (Kd.R_drew HR.out)
 replace HOTH := Sd.mk (fun g cs t hg => blk_drew (HOTH.out g cs t hg))
 generalize WX.drew = W0 at BH BX HB HR HOTH hHeld ⊢
 refine pure_ (i := 0) (N := some 4) (v := ?_) (a' := ?_) #[true, false, false, false, false, false, false, false, false] rfl rfl (any_of HT_.out (by kernel_rfl)) (fun _ _ _ h => h) (Or.inl ⟨by rfl, ?_⟩) ?_ ?_
 rotate_left
 ·exact tW
 rotate_left
 ·exact tP
 refine pure_ (i := 1) (N := some 5) (v := ?_) (a' := ?_) #[true, true, false, false, false, false, false, false, false] rfl rfl (any_of HT_.out (by kernel_rfl)) (fun _ _ _ h => h) (Or.inl ⟨by rfl, ?_⟩) ?_ ?_
 rotate_left
 ·exact tW
 rotate_left
 ·exact tP
 refine pure_ (i := 2) (N := some 6) (v := ?_) (a' := ?_) #[true, true, true, false, false, false, false, false, false] rfl rfl (any_of HT_.out (by kernel_rfl)) (fun _ _ _ h => h) (Or.inl ⟨by rfl, ?_⟩) ?_ ?_
 rotate_left
 ·exact tW
 rotate_left
 ·exact tP
 refine take_ (i := 3) (N := some 7) (v := ?_) (a' := ?_) #[true, true, true, true, false, false, false, false, false] rfl rfl (take_ofW HT_.out HW_.out (by kernel_rfl)) (fun _ _ _ h => h) (Or.inl ⟨by rfl, ?_⟩) hHeld ?_ ?_
 rotate_left
 ·rintro w' ⟨s0, s1, s2, s3⟩
  go_simp
  with_reducible rfl
 rotate_left
 ·exact tP
 refine take_ (i := 4) (N := some 8) (v := ?_) (a' := ?_) #[true, true, true, true, true, false, false, false, false] rfl rfl (take_ofW HT_.out HW_.out (by kernel_rfl)) (fun _ _ _ h => h) (Or.inl ⟨by rfl, ?_⟩) hHeld ?_ ?_
 rotate_left
 ·rintro w' ⟨s0, s1, s2, s3⟩
  go_simp
  with_reducible rfl
 rotate_left
 ·exact tP
 refine one_ (i := 5) (N := some 9) #[true, true, true, true, true, true, false, false, false] rfl rfl (one_of HT_.out (by kernel_rfl)) (by decide) (fun K hK => ?_)
 refine value_ (w1 := ?_) (v := ?_) (by rfl) rfl ?_ ?_
 rotate_left 2
 ·go_simp
  constructor
  ·rfl
  ·rfl
 refine hK.out _ _ ⟨(blk_cell (blk_alloc BH.out _) 0).trans rfl, (blk_cell (blk_alloc BX.out _) 0).trans rfl, (blk_cell (blk_alloc BX.out _) 1).trans rfl, (blk_cell (blk_alloc BX.out _) 2).trans rfl⟩ (fun hHeld => ?_)
 clear hK K
 refine norm_ (a' := ?_) ?_ ?_
 rotate_left
 ·show Act.put _ (some 9) _ = _
  exact tP
 refine one_ (i := 6) (N := some 10) #[true, true, true, true, true, true, true, false, false] rfl rfl (one_of HT_.out (by kernel_rfl)) (by decide) (fun K hK => ?_)
 refine Kd.R_append_step k128 (w0 := w) w.heap.size (by rfl) (.tmp 7) (.tmp 9) 124 128 (.agg #[.nilFunc, .int .i64 0, .int .i64 0]) 24 rfl Tryz.underlying124 info128 rfl (by decide) (by omega) (.slice A n c) xs x [.func (.func x.fn) #[] x.lb, .int .i64 x.tg.f0, .int .i64 x.tg.f1] (fun _ => True) (fun _ => False) rfl rfl ?aP (fun _ hk => hk.elim) ?aF ?aO ?aB ?aS ?aL ?_
 (case aP => exact k128_mkM _ _ _ x)
 (case aB => exact (by repeat (first | (with_reducible first | exact HB.out | apply below_alloc | apply pw_below_drewN | apply below_drew1) | exact HB.out)))
 (case aF => exact (fun _ _ => trivial))
 (case aO => exact (by (with_reducible repeat (first | apply Kd.R_alloc | apply Kd.R_drewN | apply Kd.R_drew)); exact HR.out))
 (case aS => exact Nat.le_trans HS.out (below_size HB.out))
 (case aL => exact HL.out)
 intro v1 w2 ho hb hg hat
 have HB2 := Sd.mk hb
 have HO := Sd.mk ho
 have hne := Kd.R_ne HR.out BH.out (by decide)
 have BH2 := Sd.mk (blk_grown BH.out hg (Kd.R_ne HR.out BH.out (by decide)))
 have BX2 := Sd.mk (blk_grown BX.out hg (fun hk => NEX.out hk))
 have HOTH2 := Sd.mk (fun g cs t hg' (ht : t ≠ 128) => blk_grown (HOTH.out g cs t hg') hg (Kd.R_ne HR.out (HOTH.out g cs t hg') (Ne.symm ht)))
 clear HB HR BH BX hb ho hat hg
 refine hK.out _ _ ⟨(blk_cell BH2.out 0).trans rfl, (blk_cell BX2.out 0).trans rfl, (blk_cell BX2.out 1).trans rfl, (blk_cell BX2.out 2).trans rfl⟩ (fun hHeld => ?_)
 clear hK K
 refine norm_ (a' := ?_) ?_ ?_
 rotate_left
 ·show Act.put _ (some 10) _ = _
  exact tP
 refine pure_ (i := 7) (N := some 11) (v := ?_) (a' := ?_) #[true, true, true, true, true, true, true, true, false] rfl rfl (any_of HT_.out (by kernel_rfl)) (fun _ _ _ h => h) (Or.inl ⟨by rfl, ?_⟩) ?_ ?_
 rotate_left
 ·exact tW
 rotate_left
 ·exact tP
 have HO' := Sd.mk (Kd.R_types (t := 124) HO.out BH2.out (by decide))
 clear HO
 obtain ⟨A1, c1, rfl⟩ := Kd.R_slice HO'.out
 have hw0 : w2.cell? ⟨H, 0, none⟩ = some (.slice A n c) := (blk_cell BH2.out 0).trans rfl
 have hwf := blk_frozen BH2.out 0
 refine last_ (i := 8) (N := none) #[true, true, true, true, true, true, true, true, true] rfl rfl (one_of HT_.out (by kernel_rfl)) (by decide) (fun K hK => ?_)
 refine skip_ (w1 := ?_) (by rfl) rfl ?_ ?_
 rotate_left
 ·go_simp
  rfl
 refine hK.out _ _ ?_
 clear hK K
 refine done_ (done_of HT_.out (by kernel_rfl)) ?_
 go_wp2
 go_end0
 refine ⟨rfl, below_set HB2.out HH.out, ⟨_, blk_put (cs := #[.slice A n c]) BH2.out 0 _ rfl, by have h_ := Kd.R_mono (ok' := fun _ => True) (Kd.R_far HO'.out (fun _ hk => hk.2) (.slice A1 (xs.length + 1) c1) (p := ⟨H, 0, none⟩)) (fun _ _ => trivial); simpa using h_⟩, ?_⟩
 ·intro g cs t hg ht hne
  exact blk_far (HOTH2.out g cs t hg ht) hne _
theorem forms1_calls (I : Nat) (i : Int) (W : World) (hI : W.heap[I]? = some (.cells #[.int .i64 i] 3 (0, 0))) (x : Int) :
  Calls Tryz.prog 165 #[.int .i64 x, .pointer (some ⟨I, 0, none⟩)] W fun e w' => e = .returned (.int .i64 (if x = i then 1000 else 0)) ∧ ∃ q, w' = W.drewN q := by
 have h0 : W.cell? ⟨I, 0, none⟩ = some (.int .i64 i) := (blk_cell hI 0).trans rfl
 go_enter Tryz.func165, Tryz.ntmps165
 by_cases he : x = i
 ·have heb : (x == i) = true := beq_iff_eq.mpr he
  go_wp2
  go_ret
  exact ⟨by simp [he], 0, rfl⟩
 ·have heb : (x == i) = false := beq_eq_false_iff_ne.mpr he
  go_wp2
  go_ret
  exact ⟨by simp [he], 0, rfl⟩
theorem forms2_calls (P n : Nat) (s : ByteArray) (A1 : Option Addr) (c1 : Nat) (xs : List Int) (lo hi : Int) (W : World) (hP : W.heap[P]? = some (.cells #[.string s, .slice A1 xs.length c1, .int .i64 lo, .int .i64 hi] 89 (0, 0)))
  (hr : Kd.C (Kd.int .i64) W A1 xs.length xs) (x : Int) (hx0 : 0 ≤ x) (hx1 : x < xs.length) :
  Calls Tryz.prog 166 #[.int .i64 x, .pointer (some ⟨P, 0, none⟩)] W fun e w' => e = .returned (.int .i64 (rd xs x)) ∧ ∃ q, w' = W.drewN q := by
 obtain ⟨ae, rfl, hqx⟩ := Kd.at_int hr x hx0 hx1
 have h1 : W.cell? ⟨P, 0 + 1, none⟩ = some (.slice (some ae) xs.length c1) := (blk_cell hP 1).trans rfl
 go_enter Tryz.func166, Tryz.ntmps166
 go_wp2
 go_ret
 exact ⟨rfl, 0, rfl⟩
def FormAt (w W : World) (l2 : List S27) (l3 : List S89) (j : Nat) (f : F128) : Prop :=
 (j < l2.length → ∃ I, f = ⟨165, #[.pointer (some ⟨I, 0, none⟩)], rd_T27 l2 j⟩ ∧ W.heap[I]? = some (.cells #[.int .i64 j] 3 (0, 0))) ∧
 (l2.length ≤ j → ∃ P A1 c1, f = ⟨166, #[.pointer (some ⟨P, 0, none⟩)], (rd_T89 l3 ((j - l2.length : Nat) : Int)).f2⟩ ∧
  W.heap[P]? = some (.cells #[.string (rd_T89 l3 ((j - l2.length : Nat) : Int)).f0, .slice A1 (rd_T89 l3 ((j - l2.length : Nat) : Int)).f1.length c1, .int .i64 (rd_T89 l3 ((j - l2.length : Nat) : Int)).f2.f0, .int .i64 (rd_T89 l3 ((j - l2.length : Nat) : Int)).f2.f1] 89 (0, 0)) ∧
  Kd.C (Kd.int .i64) w A1 (rd_T89 l3 ((j - l2.length : Nat) : Int)).f1.length (rd_T89 l3 ((j - l2.length : Nat) : Int)).f1)
theorem FormAt.below {w W W' : World} {l2 : List S27} {l3 : List S89} {j : Nat} {f : F128} (h : FormAt w W l2 l3 j f) (hb : Below W.heap.size W W') : FormAt w W' l2 l3 j f := by
 refine ⟨fun hj => ?_, fun hj => ?_⟩
 ·obtain ⟨I, e, hI⟩ := h.1 hj
  exact ⟨I, e, blk_below hI hb⟩
 ·obtain ⟨P, A1, c1, e, hP, hC⟩ := h.2 hj
  exact ⟨P, A1, c1, e, blk_below hP hb, hC⟩
theorem FormAt.other {w W W' : World} {l2 : List S27} {l3 : List S89} {j : Nat} {f : F128} {H : Nat} {v : Value} (h : FormAt w W l2 l3 j f) (hH : W.heap[H]? = some (.cells #[v] 124 (0, 0)))
  (ho : ∀ g cs t, W.heap[g]? = some (.cells cs t (0, 0)) → t ≠ 128 → g ≠ H → W'.heap[g]? = some (.cells cs t (0, 0))) : FormAt w W' l2 l3 j f := by
 refine ⟨fun hj => ?_, fun hj => ?_⟩
 ·obtain ⟨I, e, hI⟩ := h.1 hj
  exact ⟨I, e, ho _ _ _ hI (by decide) (by rintro rfl; rw [hH] at hI; simp at hI)⟩
 ·obtain ⟨P, A1, c1, e, hP, hC⟩ := h.2 hj
  exact ⟨P, A1, c1, e, ho _ _ _ hP (by decide) (by rintro rfl; rw [hH] at hP; simp at hP), hC⟩
def coefOf (l2 : List S27) (l3 : List S89) (j : Nat) : Int → Int := if j < l2.length then (fun k => if k = j then 1000 else 0) else rd (rd_T89 l3 ((j - l2.length : Nat) : Int)).f1
theorem FormAt.coef {w W : World} {l2 : List S27} {l3 : List S89} {j : Nat} {f : F128} (h : FormAt w W l2 l3 j f) (hb : Below w.heap.size w W) (N : Int) (hN : l2.length ≤ j → N ≤ (rd_T89 l3 ((j - l2.length : Nat) : Int)).f1.length) :
  CoefQ f.fn f.lb (coefOf l2 l3 j) N W := by
 intro W' hb' x hx0 hx1
 unfold coefOf
 by_cases hj : j < l2.length
 ·obtain ⟨I, rfl, hI⟩ := h.1 hj
  rw [if_pos hj]
  exact forms1_calls I j W' (blk_below hI hb') x
 ·obtain ⟨P, A1, c1, rfl, hP, hC⟩ := h.2 (by omega)
  rw [if_neg hj]
  exact forms2_calls P 0 _ A1 c1 _ _ _ W' (blk_below hP hb') (Kd.C_below (Kd.C_below hC hb) hb') x hx0 (by have := hN (by omega); omega)
structure FormsW (wp w W : World) (cs : Array Value) (l2 : List S27) (l3 : List S89) (k : Nat) : Prop where
 below : Below w.heap.size w W
 batch : W.heap[w.heap.size]? = some (.cells cs 29 (0, 0))
 list : ∃ A c, ∃ xs : List F128, W.heap[w.heap.size + 1]? = some (.cells #[.slice A xs.length c] 124 (0, 0)) ∧ Kd.R k128 128 W w.heap.size (fun _ => True) (.slice A xs.length c) xs ∧ xs.length = k ∧ ∀ j (hj : j < xs.length), FormAt wp W l2 l3 j xs[j]
theorem forms_lx {a b n k : Nat} (h : (a + b + 1) * 24 ≤ 140737488355328) (hx : n = k) (hk : k < a + b) : (n + 1) * 24 ≤ 140737488355328 := Nat.le_trans (Nat.mul_le_mul_right 24 (by omega)) h
theorem FormsW.step {wp w wr W2 w3 : World} {cs : Array Value} {l2 : List S27} {l3 : List S89} {k : Nat} {A : Option Addr} {c : Nat} {xs : List F128} {x : F128} (h : FormsW wp w wr cs l2 l3 k)
  (hO : wr.heap[w.heap.size + 1]? = some (.cells #[.slice A xs.length c] 124 (0, 0))) (hxl : xs.length = k) (hF : ∀ j (hj : j < xs.length), FormAt wp wr l2 l3 j xs[j]) (hb2 : Below wr.heap.size wr W2)
  (hb3 : Below w.heap.size w w3) {v1 : Value} (hv1 : w3.heap[w.heap.size + 1]? = some (.cells #[v1] 124 (0, 0))) (hr1 : Kd.R k128 128 w3 w.heap.size (fun _ => True) v1 (xs ++ [x]))
  (hoth : ∀ g cs t, W2.heap[g]? = some (.cells cs t (0, 0)) → t ≠ 128 → g ≠ w.heap.size + 1 → w3.heap[g]? = some (.cells cs t (0, 0))) (hx : FormAt wp W2 l2 l3 k x) : FormsW wp w w3 cs l2 l3 (k + 1) := by
 obtain ⟨A1, c1, rfl⟩ := Kd.R_slice hr1
 have hO2 := blk_below hO hb2
 refine ⟨hb3, hoth _ _ _ (blk_below h.batch hb2) (by decide) (by omega), A1, c1, xs ++ [x], hv1, hr1, by simp [hxl], fun j hj => ?_⟩
 by_cases hjx : j < xs.length
 ·rw [List.getElem_append_left hjx]
  exact ((hF j hjx).below hb2).other hO2 hoth
 ·have hjk : j = k := by simp at hj; omega
  subst hjk
  rw [List.getElem_append_right (by omega)]
  simp only [hxl, Nat.sub_self, List.getElem_cons_zero]
  exact hx.other hO2 hoth
theorem forms_calls (A0_0 : Option Addr) (c0_0 : Nat) (l0_0 : List ByteArray) (A0_1 : Option Addr) (c0_1 : Nat) (l0_1 : List (S70)) (A0_2 : Option Addr) (c0_2 : Nat) (l0_2 : List (S27)) (A0_3 : Option Addr) (c0_3 : Nat) (l0_3 : List (S89)) (a0_4 : Int) (a0_5 : Int) (a0_6 : Int) (wp w : World) (hbp : Below wp.heap.size wp w) (hr0_0 : Kd.C Kd.string w A0_0 l0_0.length l0_0) (hc0_0 : l0_0.length ≤ c0_0) (hr0_1 : Kd.C k70 w A0_1 l0_1.length l0_1) (hc0_1 : l0_1.length ≤ c0_1) (hr0_2 : Kd.C k27 w A0_2 l0_2.length l0_2) (hc0_2 : l0_2.length ≤ c0_2) (hr0_3 : Kd.C k89 wp A0_3 l0_3.length l0_3) (hc0_3 : l0_3.length ≤ c0_3) (hl : (l0_2.length + l0_3.length + 1) * 24 ≤ 140737488355328) :
  Calls Tryz.prog 84 #[.agg #[.slice A0_0 l0_0.length c0_0, .slice A0_1 l0_1.length c0_1, .slice A0_2 l0_2.length c0_2, .slice A0_3 l0_3.length c0_3, .int .i64 a0_4, .int .i64 a0_5, .int .i64 a0_6]] w fun e w' => ∃ A c fs, e = .returned (.slice A (List.length fs) c) ∧ fs.length ≤ c ∧ Kd.C k128 w' A fs.length fs ∧ fs.length = l0_2.length + l0_3.length ∧ (∀ j (hj : j < fs.length), FormAt wp w' l0_2 l0_3 j fs[j]) ∧ Below w.heap.size w w' ∧ Kd.R k128 128 w' w.heap.size (fun _ => True) (.slice A fs.length c) fs := by
 have hW0 : FormsW wp w ((w.alloc (.cells #[.slice A0_0 l0_0.length c0_0, .slice A0_1 l0_1.length c0_1, .slice A0_2 l0_2.length c0_2, .slice A0_3 l0_3.length c0_3, .int .i64 a0_4, .int .i64 a0_5, .int .i64 a0_6] 29)).alloc (.cells #[.slice none 0 0] 124)) #[.slice A0_0 l0_0.length c0_0, .slice A0_1 l0_1.length c0_1, .slice A0_2 l0_2.length c0_2, .slice A0_3 l0_3.length c0_3, .int .i64 a0_4, .int .i64 a0_5, .int .i64 a0_6] l0_2 l0_3 0 := by
  refine ⟨below_alloc (below_alloc (Below.refl _ _) _) _, blk_alloc (blk_new w _) _, none, 0, [], ?_, ?_, rfl, fun j hj => absurd hj (by simp)⟩
  ·have := blk_new (w.alloc (.cells #[.slice A0_0 l0_0.length c0_0, .slice A0_1 l0_1.length c0_1, .slice A0_2 l0_2.length c0_2, .slice A0_3 l0_3.length c0_3, .int .i64 a0_4, .int .i64 a0_5, .int .i64 a0_6] 29)) (.cells #[.slice none 0 0] 124)
   simpa using this
  ·exact Kd.R_nil _ _ _ _ _
 have HW0 := Sd.mk hW0
 have HR2 := Sd.mk hr0_2
 have HR3 := Sd.mk hr0_3
 have HBP := Sd.mk hbp
 have HL := Sd.mk hl
 have hl2 : (l0_2.length : Int) < 9223372036854775807 := by omega
 have hl3 : (l0_3.length : Int) < 9223372036854775807 := by omega
 have HL2 := Sd.mk hl2
 have HL3 := Sd.mk hl3
 clear hW0 hr0_0 hr0_1 hr0_2 hr0_3 hc0_0 hc0_1 hc0_2 hc0_3 hl hl2 hl3
 go_enter Tryz.func84, Tryz.ntmps84
 go_wp2
 generalize ((w.alloc (.cells #[.slice A0_0 l0_0.length c0_0, .slice A0_1 l0_1.length c0_1, .slice A0_2 l0_2.length c0_2, .slice A0_3 l0_3.length c0_3, .int .i64 a0_4, .int .i64 a0_5, .int .i64 a0_6] 29)).alloc (.cells #[.slice none 0 0] 124)) = w0 at HW0 ⊢
 go_loopg [11] l0_2.length (fun gq v11 wr => ∃ k : Nat, v11 = .int .i64 k ∧ k ≤ l0_2.length ∧ l0_2.length - k ≤ gq ∧ Sd (FormsW wp w wr #[.slice A0_0 l0_0.length c0_0, .slice A0_1 l0_1.length c0_1, .slice A0_2 l0_2.length c0_2, .slice A0_3 l0_3.length c0_3, .int .i64 a0_4, .int .i64 a0_5, .int .i64 a0_6] l0_2 l0_3 k))
 case atStart => exact ⟨0, rfl, Nat.zero_le _, by omega, HW0⟩
 case round =>
  clear HW0
  obtain ⟨k, rfl, hk, hgk, HW⟩ := hrel
  by_cases hlt : k < l0_2.length
  ·have hltz : (k : Int) < (l0_2.length : Int) := by omega
   obtain ⟨A, c, xs, hO, hR, hxl, hF⟩ := HW.out.list
   obtain ⟨ad, rfl, hx0, hx1⟩ := at_T27 (Kd.C_below HR2.out HW.out.below) (k : Int) (by omega) hltz
   simp only [Int.toNat_natCast] at hx0 hx1
   have HO := Sd.mk hO
   have HR := Sd.mk hR
   have HF := Sd.mk hF
   have HXL := Sd.mk hxl
   have HK := Sd.mk hgk
   clear hO hR hF hxl hgk hk
   have hb2 := below_alloc (below_alloc (Below.refl wr.heap.size wr) (.cells #[.int .i64 (k : Int)] 3)) (.cells #[.int .i64 (rd_T27 l0_2 (k : Int)).f0, .int .i64 (rd_T27 l0_2 (k : Int)).f1] 27)
   have hI := blk_alloc (blk_new wr (.cells #[.int .i64 (k : Int)] 3)) (.cells #[.int .i64 (rd_T27 l0_2 (k : Int)).f0, .int .i64 (rd_T27 l0_2 (k : Int)).f1] 27)
   have hlx := forms_lx HL.out HXL.out (Nat.lt_of_lt_of_le hlt (Nat.le_add_right _ _))
   have hp := put_calls w _ (w.heap.size + 1) A xs.length c xs ⟨165, #[.pointer (some ⟨wr.heap.size, 0, none⟩)], rd_T27 l0_2 (k : Int)⟩ (below_trans' HW.out.below hb2) (Nat.le_succ _) (blk_below HO.out hb2) (Kd.R_below HR.out hb2) hlx
   have HI := Sd.mk hI
   have HB2 := Sd.mk hb2
   clear hI hb2
   go_wp2_with fail
   refine hp.mono ?_
   clear hp
   rintro e w3 ⟨rfl, hb3, ⟨v1, hv1, hr1⟩, hoth⟩
   have hnew := FormsW.step HW.out HO.out HXL.out HF.out HB2.out hb3 hv1 hr1 hoth ⟨fun _ => ⟨wr.heap.size, rfl, HI.out⟩, fun hj => absurd hlt (by omega)⟩
   have HN := Sd.mk hnew
   clear hb3 hv1 hr1 hoth hnew HI HB2
   go_wp2
   go_roundg (l0_2.length - (k + 1))
   case measure => have := HK.out; omega
   case rel => exact ⟨k + 1, by have := HL2.out; rw [wrap_id (by omega) (by omega)]; rfl, by omega, by omega, HN⟩
  ·have hltz : ¬ (k : Int) < (l0_2.length : Int) := by omega
   obtain rfl : k = l0_2.length := by omega
   have hb3 : wr.cell? ⟨w.heap.size, 3, none⟩ = some (.slice A0_3 l0_3.length c0_3) := (blk_cell HW.out.batch 3).trans rfl
   clear hgk hk
   go_wp2
   clear hb3 hltz hlt
   have HW0 := HW
   clear HW
   generalize wr = w0' at HW0 ⊢
   go_loopg [24] l0_3.length (fun gq v24 wr => ∃ k : Nat, v24 = .int .i64 k ∧ k ≤ l0_3.length ∧ l0_3.length - k ≤ gq ∧ Sd (FormsW wp w wr #[.slice A0_0 l0_0.length c0_0, .slice A0_1 l0_1.length c0_1, .slice A0_2 l0_2.length c0_2, .slice A0_3 l0_3.length c0_3, .int .i64 a0_4, .int .i64 a0_5, .int .i64 a0_6] l0_2 l0_3 (l0_2.length + k)))
   case atStart => exact ⟨0, rfl, Nat.zero_le _, by omega, HW0⟩
   case round =>
    clear HW0
    obtain ⟨k, rfl, hk, hgk, HW⟩ := hrel
    by_cases hlt : k < l0_3.length
    ·have hltz : (k : Int) < (l0_3.length : Int) := by omega
     obtain ⟨A, c, xs, hO, hR, hxl, hF⟩ := HW.out.list
     obtain ⟨ad, A1, c1, rfl, hx0, hx1, hx2, hx3, hlc, hC⟩ := at_T89 (Kd.C_below (Kd.C_below HR3.out HBP.out) HW.out.below) (k : Int) (by omega) hltz
     obtain ⟨ad', A1', c1', he', hx0', hx1', hx2', hx3', hlc', hC'⟩ := at_T89 HR3.out (k : Int) (by omega) hltz
     cases he'
     have hsame : A1 = A1' := by
      have h0 := (HBP.out.cell (World.block_lt_of_cell? wp _ hx1')).trans hx1'
      have h1 := (HW.out.below.cell (World.block_lt_of_cell? w _ h0)).trans h0
      rw [hx1] at h1
      injection h1 with h1
      injection h1 with h1 h2
     subst hsame
     clear hx0' hx1' hx2' hx3' hlc' hC
     simp only [Int.toNat_natCast] at hx0 hx1 hx2 hx3
     have HO := Sd.mk hO
     have HR := Sd.mk hR
     have HF := Sd.mk hF
     have HXL := Sd.mk hxl
     have HK := Sd.mk hgk
     have HC' := Sd.mk hC'
     clear hO hR hF hxl hgk hk hC' hlc
     have hb2 := below_alloc (Below.refl wr.heap.size wr) (.cells #[.string (rd_T89 l0_3 (k : Int)).f0, .slice A1 (rd_T89 l0_3 (k : Int)).f1.length c1, .int .i64 (rd_T89 l0_3 (k : Int)).f2.f0, .int .i64 (rd_T89 l0_3 (k : Int)).f2.f1] 89)
     have hI := blk_new wr (.cells #[.string (rd_T89 l0_3 (k : Int)).f0, .slice A1 (rd_T89 l0_3 (k : Int)).f1.length c1, .int .i64 (rd_T89 l0_3 (k : Int)).f2.f0, .int .i64 (rd_T89 l0_3 (k : Int)).f2.f1] 89)
     have hlx := forms_lx HL.out HXL.out (Nat.add_lt_add_left hlt _)
     have hp := put_calls w _ (w.heap.size + 1) A xs.length c xs ⟨166, #[.pointer (some ⟨wr.heap.size, 0, none⟩)], (rd_T89 l0_3 (k : Int)).f2⟩ (below_trans' HW.out.below hb2) (Nat.le_succ _) (blk_below HO.out hb2) (Kd.R_below HR.out hb2) hlx
     have HI := Sd.mk hI
     have HB2 := Sd.mk hb2
     clear hI hb2
     go_wp2_with fail
     refine hp.mono ?_
     clear hp
     rintro e w3 ⟨rfl, hb3, ⟨v1, hv1, hr1⟩, hoth⟩
     have hnew := FormsW.step HW.out HO.out HXL.out HF.out HB2.out hb3 hv1 hr1 hoth ⟨fun hj => absurd hj (by omega), fun _ => ⟨wr.heap.size, A1, c1, by rw [Nat.add_sub_cancel_left], by rw [Nat.add_sub_cancel_left]; exact HI.out, by rw [Nat.add_sub_cancel_left]; exact HC'.out⟩⟩
     have HN := Sd.mk hnew
     clear hb3 hv1 hr1 hoth hnew HI HB2
     go_wp2
     go_roundg (l0_3.length - (k + 1))
     case measure => have := HK.out; omega
     case rel => exact ⟨k + 1, by have := HL3.out; rw [wrap_id (by omega) (by omega)]; rfl, by omega, by omega, HN⟩
    ·have hltz : ¬ (k : Int) < (l0_3.length : Int) := by omega
     obtain rfl : k = l0_3.length := by omega
     obtain ⟨A, c, xs, hO, hR, hxl, hF⟩ := HW.out.list
     have hb3 : wr.cell? ⟨w.heap.size + 1, 0, none⟩ = some (.slice A xs.length c) := (blk_cell hO 0).trans rfl
     have HR := Sd.mk hR
     have HF := Sd.mk hF
     have HXL := Sd.mk hxl
     clear hgk hk hR hF hxl
     go_wp2
     go_ret
     obtain ⟨A', c', he, hlc, hC⟩ := Kd.R_reads HR.out
     cases he
     exact ⟨A, c, xs, rfl, hlc, hC, HXL.out, HF.out, HW.out.below, HR.out⟩
end
section
def unitC (j : Nat) : Int → Int := fun k => if k = j then 1000 else 0
theorem coefOf_unit {l2 : List S27} {l3 : List S89} {j : Nat} (h : j < l2.length) : coefOf l2 l3 j = unitC j := by unfold coefOf; rw [if_pos h]; rfl
def meansOf (l : List S27) (n : Nat) : List S27 := (List.range n).map fun j => ⟨meanLo (unitC j) l, meanHi (unitC j) l⟩
theorem meansOf_succ (l : List S27) (n : Nat) : meansOf l (n + 1) = meansOf l n ++ [⟨meanLo (unitC n) l, meanHi (unitC n) l⟩] := by simp [meansOf, List.range_succ]
theorem meansOf_len (l : List S27) (n : Nat) : (meansOf l n).length = n := by simp [meansOf]
def x_Glass.f (k : Nat) (l0_0 : List ByteArray) (l0_1 : List (S70)) (l0_2 : List (S27)) (l0_3 : List (S89)) (a0_4 : Int) (a0_5 : Int) (a0_6 : Int) (l1 : List Int) : Option ((List (S27)) × Int) := (x_glass.f k l0_0 l0_1 l0_2 l0_3 a0_4 a0_5 a0_6 l1).bind fun p => if p.2 = 0 then (if p.1.length ≤ l0_2.length ∧ ((l0_2.length + l0_3.length + 1) * 24 ≤ 140737488355328 ∧ (List.range p.1.length).all (fun j => meanOkB (unitC j) p.1) = true) then some (meansOf p.1 p.1.length, 0) else none) else some ([], p.2)
theorem at_T128 {w : World} {A : Option Addr} {n : Nat} {xs : List F128} (h : Kd.C k128 w A n xs) (k : Nat) (hk : k < xs.length) : ∃ ad, A = some ad ∧ w.cell? (ad.add (k * 3)) = some (.func (.func xs[k].fn) #[] xs[k].lb) ∧ w.cell? ⟨(ad.add (k * 3)).block, (ad.add (k * 3)).off + 1, none⟩ = some (.int .i64 xs[k].tg.f0) ∧ w.cell? ⟨(ad.add (k * 3)).block, (ad.add (k * 3)).off + 2, none⟩ = some (.int .i64 xs[k].tg.f1) := by
 have hn := Kd.C_len h
 obtain ⟨ad, c, e, _, hK, hc0⟩ := Kd.C_get h ⟨0, #[], z27⟩ (k : Int) (by omega) (by omega)
 have hx : xs.getD ((k : Int)).toNat ⟨0, #[], z27⟩ = xs[k] := by simp [hk]
 rw [hx] at hK
 have hc : ∀ j u, c[j]? = some u → w.cell? (ad.add (k * 3 + j)) = some u := hc0
 obtain rfl := k128_open hK
 exact ⟨ad, e, hc 0 _ rfl, by rw [← add_field _ _ 1 (by omega)]; exact hc 1 _ rfl, by rw [← add_field _ _ 2 (by omega)]; exact hc 2 _ rfl⟩
theorem x_Glass.calls (k : Nat) (A0_0 : Option Addr) (c0_0 : Nat) (l0_0 : List ByteArray) (A0_1 : Option Addr) (c0_1 : Nat) (l0_1 : List (S70)) (A0_2 : Option Addr) (c0_2 : Nat) (l0_2 : List (S27)) (A0_3 : Option Addr) (c0_3 : Nat) (l0_3 : List (S89)) (a0_4 : Int) (a0_5 : Int) (a0_6 : Int) (A1 : Option Addr) (c1 : Nat) (l1 : List Int) (r1 : List (S27)) (r2 : Int) (w : World) (hr0_0 : Kd.C Kd.string w A0_0 l0_0.length l0_0) (hc0_0 : l0_0.length ≤ c0_0) (hr0_1 : Kd.C k70 w A0_1 l0_1.length l0_1) (hc0_1 : l0_1.length ≤ c0_1) (hr0_2 : Kd.C k27 w A0_2 l0_2.length l0_2) (hc0_2 : l0_2.length ≤ c0_2) (hr0_3 : Kd.C k89 w A0_3 l0_3.length l0_3) (hc0_3 : l0_3.length ≤ c0_3) (hr1 : Kd.C (Kd.int .i64) w A1 l1.length l1) (hc1 : l1.length ≤ c1) (h : x_Glass.f k l0_0 l0_1 l0_2 l0_3 a0_4 a0_5 a0_6 l1 = some (r1, r2)) :
  Calls Tryz.prog 26 #[.agg #[.slice A0_0 l0_0.length c0_0, .slice A0_1 l0_1.length c0_1, .slice A0_2 l0_2.length c0_2, .slice A0_3 l0_3.length c0_3, .int .i64 a0_4, .int .i64 a0_5, .int .i64 a0_6], .slice A1 l1.length c1] w fun e w' => ∃ v0_ : Value, e = .returned (.tuple #[v0_, .int .i64 r2]) ∧ Kd.R k27 27 w' w.heap.size (fun _ => True) v0_ r1 ∧ Below w.heap.size w w' := by
 unfold x_Glass.f at h
 obtain ⟨p, hp, H⟩ := Option.bind_eq_some_iff.mp h
 obtain ⟨pl, pe⟩ := p
 have hb0 : Below w.heap.size w (w.alloc (.cells #[.slice A0_0 l0_0.length c0_0, .slice A0_1 l0_1.length c0_1, .slice A0_2 l0_2.length c0_2, .slice A0_3 l0_3.length c0_3, .int .i64 a0_4, .int .i64 a0_5, .int .i64 a0_6] 29)) := below_alloc (Below.refl _ _) _
 clear h
 have HR0_0 := Sd.mk hr0_0
 have HC0_0 := Sd.mk hc0_0
 clear hr0_0 hc0_0
 have HR0_1 := Sd.mk hr0_1
 have HC0_1 := Sd.mk hc0_1
 clear hr0_1 hc0_1
 have HR0_2 := Sd.mk hr0_2
 have HC0_2 := Sd.mk hc0_2
 clear hr0_2 hc0_2
 have HR0_3 := Sd.mk hr0_3
 have HC0_3 := Sd.mk hc0_3
 clear hr0_3 hc0_3
 have HR1 := Sd.mk hr1
 have HC1 := Sd.mk hc1
 clear hr1 hc1
 have HH := Sd.mk H
 clear H
 have hgo := x_glass.calls k A0_0 c0_0 l0_0 A0_1 c0_1 l0_1 A0_2 c0_2 l0_2 A0_3 c0_3 l0_3 a0_4 a0_5 a0_6 A1 c1 l1 pl pe (w.alloc (.cells #[.slice A0_0 l0_0.length c0_0, .slice A0_1 l0_1.length c0_1, .slice A0_2 l0_2.length c0_2, .slice A0_3 l0_3.length c0_3, .int .i64 a0_4, .int .i64 a0_5, .int .i64 a0_6] 29)) (Kd.C_below HR0_0.out hb0) HC0_0.out (Kd.C_below HR0_1.out hb0) HC0_1.out (Kd.C_below HR0_2.out hb0) HC0_2.out (Kd.C_below HR0_3.out hb0) HC0_3.out (Kd.C_below HR1.out hb0) HC1.out hp
 have hC := blk_new w (.cells #[.slice A0_0 l0_0.length c0_0, .slice A0_1 l0_1.length c0_1, .slice A0_2 l0_2.length c0_2, .slice A0_3 l0_3.length c0_3, .int .i64 a0_4, .int .i64 a0_5, .int .i64 a0_6] 29)
 have BC := Sd.mk hC
 have HB := Sd.mk hb0
 clear hp hC hb0
 go_enter Tryz.func26, Tryz.ntmps26
 go_wp2_with fail
 generalize (w.alloc (.cells #[.slice A0_0 l0_0.length c0_0, .slice A0_1 l0_1.length c0_1, .slice A0_2 l0_2.length c0_2, .slice A0_3 l0_3.length c0_3, .int .i64 a0_4, .int .i64 a0_5, .int .i64 a0_6] 29)) = w0 at hgo BC HB ⊢
 refine hgo.mono ?_
 clear hgo
 rintro e w1 ⟨v, rfl, hR, hb⟩
 obtain ⟨A, c, rfl, hlc, hCpl⟩ := Kd.R_reads hR
 have BC1 := Sd.mk (blk_below BC.out hb)
 have HB1 := Sd.mk (below_trans' HB.out hb)
 have HPL := Sd.mk hCpl
 have HLC := Sd.mk hlc
 clear BC HB hb w0 hR hCpl hlc
 have H := HH.out
 clear HH
 by_cases hpe : pe = 0
 ·rw [if_pos hpe] at H
  have hpb : (pe != 0) = false := by simp [hpe]
  have hif : (pl.length ≤ l0_2.length ∧ ((l0_2.length + l0_3.length + 1) * 24 ≤ 140737488355328 ∧ (List.range pl.length).all (fun j => meanOkB (unitC j) pl) = true)) := by
   by_cases hh : (pl.length ≤ l0_2.length ∧ ((l0_2.length + l0_3.length + 1) * 24 ≤ 140737488355328 ∧ (List.range pl.length).all (fun j => meanOkB (unitC j) pl) = true))
   ·exact hh
   ·rw [if_neg hh] at H; cases H
  rw [if_pos hif] at H
  obtain ⟨h0, h1, h2⟩ := hif
  simp only [Option.some.injEq, Prod.mk.injEq] at H
  obtain ⟨rfl, rfl⟩ := H
  have hmok : ∀ j, j < pl.length → MeanOk (unitC j) pl := fun j hj => meanOkB_iff.mp (List.all_eq_true.mp h2 j (List.mem_range.2 hj))
  have HMOK := Sd.mk hmok
  have HL0 := Sd.mk h0
  have hgo := forms_calls A0_0 c0_0 l0_0 A0_1 c0_1 l0_1 A0_2 c0_2 l0_2 A0_3 c0_3 l0_3 a0_4 a0_5 a0_6 w1 w1 (Below.refl _ _) (Kd.C_below HR0_0.out HB1.out) HC0_0.out (Kd.C_below HR0_1.out HB1.out) HC0_1.out (Kd.C_below HR0_2.out HB1.out) HC0_2.out (Kd.C_below HR0_3.out HB1.out) HC0_3.out h1
  have hc_0 : w1.cell? ⟨w.heap.size, 0, none⟩ = some (.slice A0_0 l0_0.length c0_0) := (blk_cell BC1.out 0).trans rfl
  have hc_1 : w1.cell? ⟨w.heap.size, 1, none⟩ = some (.slice A0_1 l0_1.length c0_1) := (blk_cell BC1.out 1).trans rfl
  have hc_2 : w1.cell? ⟨w.heap.size, 2, none⟩ = some (.slice A0_2 l0_2.length c0_2) := (blk_cell BC1.out 2).trans rfl
  have hc_3 : w1.cell? ⟨w.heap.size, 3, none⟩ = some (.slice A0_3 l0_3.length c0_3) := (blk_cell BC1.out 3).trans rfl
  have hc_4 : w1.cell? ⟨w.heap.size, 4, none⟩ = some (.int .i64 a0_4) := (blk_cell BC1.out 4).trans rfl
  have hc_5 : w1.cell? ⟨w.heap.size, 5, none⟩ = some (.int .i64 a0_5) := (blk_cell BC1.out 5).trans rfl
  have hc_6 : w1.cell? ⟨w.heap.size, 6, none⟩ = some (.int .i64 a0_6) := (blk_cell BC1.out 6).trans rfl
  clear hmok h0 h1 h2 hpe
  go_wp2_with fail
  refine hgo.mono ?_
  clear hgo hc_0 hc_1 hc_2 hc_3 hc_4 hc_5 hc_6
  rintro e w2 ⟨Af, cf, fs, rfl, hfc, hfC, hfl, hF, hb2, _⟩
  have HB2 := Sd.mk (below_trans' HB1.out hb2)
  have HPL2 := Sd.mk (Kd.C_below HPL.out hb2)
  have HFC := Sd.mk hfC
  have HFL := Sd.mk hfl
  have HF := Sd.mk hF
  have HB12 := Sd.mk hb2
  have hcap : pl.length ≤ cf := by have := HL0.out; omega
  have HCAP := Sd.mk hcap
  clear HB1 BC1 HPL hb2 hfC hfl hF hfc
  have hpl2 : (pl.length : Int) < 9223372036854775807 := by rcases Nat.eq_zero_or_pos pl.length with h_ | h_; (· omega); (· have := (HMOK.out 0 h_).n12; omega)
  have HPLX := Sd.mk hpl2
  clear hpl2 hcap
  have hcap := HCAP.out
  go_wp2
  clear hcap
  have HBX := Sd.mk (Below.refl w2.heap.size w2)
  go_loopg [4, 24] pl.length (fun gq v4 v24 wr => ∃ k : Nat, v24 = .int .i64 k ∧ k ≤ pl.length ∧ pl.length - k ≤ gq ∧ Sd (Kd.R k27 27 wr w2.heap.size (fun _ => True) v4 (meansOf pl k)) ∧ Sd (Below w2.heap.size w2 wr))
  case atStart => exact ⟨0, rfl, Nat.zero_le _, by omega, ⟨Kd.R_nil _ _ _ _ _⟩, HBX⟩
  case round =>
   clear HBX
   obtain ⟨k, rfl, hk, hgk, HR4, HBX⟩ := hrel
   by_cases hlt : k < pl.length
   ·have hltz : (k : Int) < (pl.length : Int) := by omega
    have hkf : k < fs.length := by have := HFL.out; have := HL0.out; omega
    obtain ⟨ad, rfl, hx0, hx1, hx2⟩ := at_T128 (Kd.C_below HFC.out HBX.out) k hkf
    have hcoef := (HF.out k hkf).coef (HB12.out) pl.length (fun hh => absurd hh (by have := HL0.out; omega))
    rw [coefOf_unit (by have := HL0.out; omega)] at hcoef
    have hq : CoefQ fs[k].fn fs[k].lb (unitC k) pl.length (wr.alloc (.cells #[.func (.func fs[k].fn) #[] fs[k].lb, .int .i64 fs[k].tg.f0, .int .i64 fs[k].tg.f1] 128)) := fun W hW => hcoef W (below_then HBX.out HBX.out.size (below_then (below_alloc (Below.refl wr.heap.size wr) _) (by simp) hW))
    have hent : ∀ args w, (callFunc fs[k].fn args).run Tryz.prog w = .ok (.enter fs[k].fn args) w := by
     obtain ⟨I, e, _⟩ := (HF.out k hkf).1 (by have := HL0.out; omega)
     rw [e]
     exact enters_of Tryz.func165 (by kernel_rfl) rfl
    have hgo := mean_calls (unitC k) A c pl fs[k].fn fs[k].lb _ hent (Kd.C_below HPL2.out (below_then HBX.out HBX.out.size (below_alloc (Below.refl wr.heap.size wr) _))) HLC.out hq (HMOK.out k hlt)
    have HK := Sd.mk hgk
    have HLT := Sd.mk hlt
    clear hgk hk hq hcoef hent
    have HBY := Sd.mk (below_then HBX.out HBX.out.size (below_alloc (Below.refl wr.heap.size wr) (.cells #[.func (.func fs[k].fn) #[] fs[k].lb, .int .i64 fs[k].tg.f0, .int .i64 fs[k].tg.f1] 128)))
    have HR5 := Sd.mk (Kd.R_alloc HR4.out (.cells #[.func (.func fs[k].fn) #[] fs[k].lb, .int .i64 fs[k].tg.f0, .int .i64 fs[k].tg.f1] 128))
    clear HR4 HBX
    go_wp2_with fail
    generalize wr.alloc (.cells #[.func (.func fs[k].fn) #[] fs[k].lb, .int .i64 fs[k].tg.f0, .int .i64 fs[k].tg.f1] 128) = wx at hgo HBY HR5 ⊢
    refine hgo.mono ?_
    clear hgo
    rintro e w4 ⟨rfl, hb4⟩
    have HBX := Sd.mk (below_then HBY.out HBY.out.size hb4)
    have HR6 := Sd.mk (Kd.R_below HR5.out hb4)
    clear HBY HR5 hb4 hltz
    have hlm : ((meansOf pl k).length + 1) * 16 ≤ 140737488355328 := by
     rw [meansOf_len]
     have := (HMOK.out k HLT.out).n12
     have := HLT.out
     exact Nat.le_trans (Nat.mul_le_mul_right 16 (show k + 1 ≤ 13 by omega)) (by decide)
    go_wp2_with ((with_reducible refine gate_builtin (b := .append) (xs := #[.tmp 28, .tmp 33]) rfl ?_); at_builtin; refine Kd.R_append k27 (w0 := w2) w2.heap.size rfl (.tmp 28) (.tmp 33) 24 27 (.agg #[(.int .i64 0), (.int .i64 0)]) 16 rfl Tryz.underlying24 info27 rfl (by decide) (by omega) u4 (meansOf pl k) (⟨meanLo (unitC k) pl, meanHi (unitC k) pl⟩ : S27) [.int .i64 (meanLo (unitC k) pl), .int .i64 (meanHi (unitC k) pl)] (fun _ => True) (fun _ => False) rfl rfl ?aP (fun _ hk => hk.elim) ?aF ?aO ?aB ?aS ?aL ?_; (case aP => exact k27_mkM _ _ _ _); (case aB => exact HBX.out); (case aF => exact (fun _ _ => trivial)); (case aO => exact HR6.out); (case aS => exact below_size HBX.out); (case aL => exact hlm); intro v5 w5 ho hb hg hat)
    rw [← meansOf_succ] at ho
    have HR7 := Sd.mk ho
    have HB7 := Sd.mk hb
    clear ho hb hg hat hlm HR6 HBX
    go_roundg (pl.length - (k + 1))
    case measure => have := HK.out; have := HLT.out; omega
    case rel => exact ⟨k + 1, by have := HPLX.out; have := HLT.out; rw [wrap_id (by omega) (by omega)]; rfl, by have := HLT.out; omega, by omega, HR7, HB7⟩
   ·have hltz : ¬ (k : Int) < (pl.length : Int) := by omega
    obtain rfl : k = pl.length := by omega
    clear hgk hk
    go_wp2
    go_ret2
    exact ⟨_, rfl, Kd.R_lower HR4.out (below_size HB2.out), below_trans' HB2.out HBX.out⟩
 ·rw [if_neg hpe] at H
  have hpb : (pe != 0) = true := by simp [hpe]
  simp only [Option.some.injEq, Prod.mk.injEq] at H
  obtain ⟨rfl, rfl⟩ := H
  go_wp2
  go_ret2
  exact ⟨_, rfl, Kd.R_nil _ _ _ _ _, HB1.out⟩
end
section
end
section
end
section
end
section
theorem unit_ok (j n : Nat) : CfOk (unitC j) n := ⟨fun i _ => by unfold unitC; split <;> omega⟩
section
variable (o : List ByteArray) (mt : List S70) (s : List S27) (p : List S89) (a4 a5 a6 : Int) (r : List Int)
def gramsV : List S27 × Int := if askV o mt s p a4 a5 a6 r = 0 then (gramL o.length mt r, 0) else ([], askV o mt s p a4 a5 a6 r)
theorem bGrams : Ev (fun k => b_Grams.f k o mt s p a4 a5 a6 r) (gramsV o mt s p a4 a5 a6 r) := by
  unfold b_Grams.f gramsV
  refine Ev.bind (basked o mt s p a4 a5 a6 r) ?_
  by_cases h : askV o mt s p a4 a5 a6 r = 0
  · simp only [if_pos h]
    obtain ⟨H, hr⟩ := ask_ok h
    exact Ev.bind (bgrams H hr) (Ev.const _)
  · simp only [if_neg h]; exact Ev.const _
end
section
variable {o : List ByteArray} {mt : List S70} {s : List S27} {p : List S89} {a4 a5 a6 : Int} {r : List Int}
theorem gramL_ok (H : BatchOk o mt s p a4 a5 a6) (hr : RecOk mt r) : GOk (gramL o.length mt r) :=
  ⟨by rw [gramL_len]; exact H.o12, fun j hj => by rw [gramL_len] at hj; exact gram_bounds H hr hj⟩
def lowW (n : Nat) (mt : List S70) (r : List Int) : Int := wS S27.f0 (gramL n mt r) (gramL n mt r).length
def weighV (n : Nat) (mt : List S70) (r : List Int) : List S27 × Int := if lowW n mt r = 0 then ([], 8) else (gramL n mt r, 0)
theorem lowW_pos (H : BatchOk o mt s p a4 a5 a6) (hr : RecOk mt r) (h : ¬ lowW o.length mt r = 0) : 0 < wS S27.f0 (gramL o.length mt r) (gramL o.length mt r).length := by
  have := wS_bounds (gramL_ok H hr) (gramL o.length mt r).length (Nat.le_refl _)
  unfold lowW at h
  omega
end
section
variable (o : List ByteArray) (mt : List S70) (s : List S27) (p : List S89) (a4 a5 a6 : Int) (r : List Int)
def glassV : List S27 × Int := if askV o mt s p a4 a5 a6 r = 0 then weighV o.length mt r else ([], askV o mt s p a4 a5 a6 r)
theorem bglass : Ev (fun k => x_glass.f k o mt s p a4 a5 a6 r) (glassV o mt s p a4 a5 a6 r) := by
  unfold x_glass.f glassV
  refine Ev.bind (bGrams o mt s p a4 a5 a6 r) ?_
  unfold gramsV
  by_cases h : askV o mt s p a4 a5 a6 r = 0
  · obtain ⟨H, hr⟩ := ask_ok h
    simp only [if_pos h, if_true]
    refine Ev.bind (bweight (gramL_ok H hr)) ?_
    unfold weighV
    by_cases h2 : lowW o.length mt r = 0
    · simp only [if_pos h2, if_pos (show wS S27.f0 (gramL o.length mt r) (gramL o.length mt r).length = 0 from h2)]; exact Ev.const _
    · simp only [if_neg h2, if_neg (show ¬ wS S27.f0 (gramL o.length mt r) (gramL o.length mt r).length = 0 from h2)]; exact Ev.const _
  · simp only [if_neg h]; exact Ev.const _
def GlassV : List S27 × Int := if askV o mt s p a4 a5 a6 r = 0 then (if lowW o.length mt r = 0 then ([], 8) else (meansOf (gramL o.length mt r) o.length, 0)) else ([], askV o mt s p a4 a5 a6 r)
theorem bGlass : Ev (fun k => x_Glass.f k o mt s p a4 a5 a6 r) (GlassV o mt s p a4 a5 a6 r) := by
  unfold x_Glass.f GlassV
  refine Ev.bind (bglass o mt s p a4 a5 a6 r) ?_
  unfold glassV
  by_cases h : askV o mt s p a4 a5 a6 r = 0
  · obtain ⟨H, hr⟩ := ask_ok h
    simp only [if_pos h]
    unfold weighV
    by_cases h2 : lowW o.length mt r = 0
    · simp only [if_pos h2, if_neg (show ¬ (8 : Int) = 0 by decide)]; exact Ev.const _
    · simp only [if_neg h2, if_true]
      have ho := H.o12
      have hs := H.slen
      have hp := H.p6
      have hall : (List.range (gramL o.length mt r).length).all (fun j => meanOkB (unitC j) (gramL o.length mt r)) = true := by
        rw [List.all_eq_true]
        intro j _
        exact meanOkB_iff.2 (meanOk_of (gramL_ok H hr) (unit_ok j _) (lowW_pos H hr h2))
      rw [if_pos ⟨by rw [gramL_len]; omega, by omega, hall⟩, gramL_len]
      exact Ev.const _
  · simp only [if_neg h]; exact Ev.const _
end
section
variable {o : List ByteArray} {mt : List S70} {s : List S27} {p : List S89} {a4 a5 a6 : Int} {r : List Int}
end
section
variable (o : List ByteArray) (mt : List S70) (s : List S27) (p : List S89) (a4 a5 a6 : Int) (r : List Int)
def ValV (n : Int) : Int × Int × Int := if askV o mt s p a4 a5 a6 r = 0 then (if 0 ≤ n ∧ n < (p.length : Int) then (if lowW o.length mt r = 0 then (0, 0, 8) else (meanLo (rd (rd_T89 p n).f1) (gramL o.length mt r), meanHi (rd (rd_T89 p n).f1) (gramL o.length mt r), 0)) else (0, 0, 7)) else (0, 0, askV o mt s p a4 a5 a6 r)
theorem pro_cf {o : List ByteArray} {mt : List S70} {s : List S27} {p : List S89} {a4 a5 a6 : Int} (H : BatchOk o mt s p a4 a5 a6) {n : Int} (hn : 0 ≤ n ∧ n < (p.length : Int)) : CfOk (rd (rd_T89 p n).f1) o.length ∧ (rd_T89 p n).f1.length = o.length := by
  obtain ⟨j, hj, rfl⟩ : ∃ j : Nat, j < p.length ∧ n = j := ⟨n.toNat, by omega, by omega⟩
  have h := H.pros j hj
  exact ⟨⟨h.coef⟩, h.len⟩
theorem bValue (n : Int) : Ev (fun k => x_Value.f k o mt s p a4 a5 a6 r n) (ValV o mt s p a4 a5 a6 r n) := by
  unfold x_Value.f ValV
  refine Ev.bind (basked o mt s p a4 a5 a6 r) ?_
  by_cases h : askV o mt s p a4 a5 a6 r = 0
  · obtain ⟨H, hr⟩ := ask_ok h
    have hp := H.p6
    simp only [if_pos h, within_f, Option.bind_some, Bool.and_eq_true, decide_eq_true_eq]
    rw [wrap_id (x := (p.length : Int) - 1) (by omega) (by omega)]
    by_cases h1 : 0 ≤ n ∧ n < (p.length : Int)
    · obtain ⟨C, hl⟩ := pro_cf H h1
      simp only [if_pos h1, if_pos (show 0 ≤ n ∧ n ≤ (p.length : Int) - 1 by omega)]
      refine Ev.bind (bglass o mt s p a4 a5 a6 r) ?_
      unfold glassV
      rw [if_pos h]
      unfold weighV
      by_cases h2 : lowW o.length mt r = 0
      · simp only [if_pos h2, if_neg (show ¬ (8 : Int) = 0 by decide)]; exact Ev.const _
      · simp only [if_neg h2, if_true]
        have hg := gramL_len o.length mt r
        rw [if_pos ⟨h1.1, h1.2, by omega, meanOkB_iff.2 (meanOk_of (gramL_ok H hr) (by rw [hg]; exact C) (lowW_pos H hr h2))⟩]
        exact Ev.const _
    · simp only [if_neg h1, if_neg (show ¬ (0 ≤ n ∧ n ≤ (p.length : Int) - 1) by omega)]
      exact Ev.const _
  · simp only [if_neg h]; exact Ev.const _
end
end
section
theorem wsmall {x : Int} (h1 : -1000000000000000000 ≤ x) (h2 : x ≤ 1000000000000000000) : wrap64 x = x := wrap_id (by omega) (by omega)
end
section
def LeQ (p q : Int × Int) : Prop := p.1 * q.2 ≤ q.1 * p.2
theorem LeQ.refl (p : Int × Int) : LeQ p p := Int.le_refl _
theorem LeQ.trans {p q r : Int × Int} (hp : 0 < p.2) (hq : 0 < q.2) (hr : 0 < r.2) (h : LeQ p q) (k : LeQ q r) : LeQ p r := by
  unfold LeQ at *
  apply Int.le_of_mul_le_mul_right (a := q.2) _ hq
  have e1 : p.1 * r.2 * q.2 = p.1 * q.2 * r.2 := by rw [Int.mul_assoc, Int.mul_comm r.2, ← Int.mul_assoc]
  have e2 : r.1 * p.2 * q.2 = r.1 * q.2 * p.2 := by rw [Int.mul_assoc, Int.mul_comm p.2, ← Int.mul_assoc]
  have e3 : q.1 * p.2 * r.2 = q.1 * r.2 * p.2 := by rw [Int.mul_assoc, Int.mul_comm p.2, ← Int.mul_assoc]
  rw [e1, e2]
  refine Int.le_trans (Int.mul_le_mul_of_nonneg_right h (by omega)) ?_
  rw [e3]
  exact Int.mul_le_mul_of_nonneg_right k (by omega)
end
section
mutual
def lw_Great.j0 : Nat → Bool → List ByteArray → List (S70) → List (S27) → List (S89) → Int → Int → Int → Option (Bool)
 | 0, _, _, _, _, _, _, _, _ => none
 | k + 1, x28, x102q0, x102q1, x102q2, x102q3, x102q4, x102q5, x102q6 => if x28 = true then (some true) else (lw_Great.l0 k 0 0 x102q0 x102q1 x102q2 x102q3 x102q4 x102q5 x102q6)
def lw_Great.l0 : Nat → Int → Int → List ByteArray → List (S70) → List (S27) → List (S89) → Int → Int → Int → Option (Bool)
 | 0, _, _, _, _, _, _, _, _, _ => none
 | k + 1, x3, x4, x102q0, x102q1, x102q2, x102q3, x102q4, x102q5, x102q6 => if x4 < (x102q0.length : Int) then (if 0 ≤ x4 then (lw_Great.l0 k (wrap64 (x3 + ((rdOf ByteArray.empty x102q0 x4).size : Int))) (wrap64 (x4 + 1)) x102q0 x102q1 x102q2 x102q3 x102q4 x102q5 x102q6) else (none)) else (lw_Great.l1 k x3 0 x102q0 x102q1 x102q2 x102q3 x102q4 x102q5 x102q6)
def lw_Great.l1 : Nat → Int → Int → List ByteArray → List (S70) → List (S27) → List (S89) → Int → Int → Int → Option (Bool)
 | 0, _, _, _, _, _, _, _, _, _ => none
 | k + 1, x3, x5, x102q0, x102q1, x102q2, x102q3, x102q4, x102q5, x102q6 => if x5 < (x102q1.length : Int) then (if 0 ≤ x5 then (if (((rd_T70 x102q1 x5).f6).length : Int) > 20 then (some true) else (lw_Great.l1 k (wrap64 (x3 + (((rd_T70 x102q1 x5).f0).size : Int))) (wrap64 (x5 + 1)) x102q0 x102q1 x102q2 x102q3 x102q4 x102q5 x102q6)) else (none)) else (lw_Great.l2 k x3 0 x102q0 x102q1 x102q2 x102q3 x102q4 x102q5 x102q6)
def lw_Great.l2 : Nat → Int → Int → List ByteArray → List (S70) → List (S27) → List (S89) → Int → Int → Int → Option (Bool)
 | 0, _, _, _, _, _, _, _, _, _ => none
 | k + 1, x3, x6, x102q0, x102q1, x102q2, x102q3, x102q4, x102q5, x102q6 => if x6 < (x102q3.length : Int) then (if 0 ≤ x6 then (if (((rd_T89 x102q3 x6).f1).length : Int) > 20 then (some true) else (lw_Great.l2 k (wrap64 (x3 + (((rd_T89 x102q3 x6).f0).size : Int))) (wrap64 (x6 + 1)) x102q0 x102q1 x102q2 x102q3 x102q4 x102q5 x102q6)) else (none)) else (some (decide (x3 > 2000)))
end
def lw_Great.f (k : Nat) (l0_0 : List ByteArray) (l0_1 : List (S70)) (l0_2 : List (S27)) (l0_3 : List (S89)) (a0_4 : Int) (a0_5 : Int) (a0_6 : Int) : Option (Bool) := if (l0_0.length : Int) > 20 then (lw_Great.j0 k true l0_0 l0_1 l0_2 l0_3 a0_4 a0_5 a0_6) else (if (l0_1.length : Int) > 20 then (lw_Great.j0 k true l0_0 l0_1 l0_2 l0_3 a0_4 a0_5 a0_6) else (if (l0_2.length : Int) > 20 then (lw_Great.j0 k true l0_0 l0_1 l0_2 l0_3 a0_4 a0_5 a0_6) else (lw_Great.j0 k (decide ((l0_3.length : Int) > 20)) l0_0 l0_1 l0_2 l0_3 a0_4 a0_5 a0_6)))
theorem lw_Great.calls (k : Nat) (A0_0 : Option Addr) (c0_0 : Nat) (l0_0 : List ByteArray) (A0_1 : Option Addr) (c0_1 : Nat) (l0_1 : List (S70)) (A0_2 : Option Addr) (c0_2 : Nat) (l0_2 : List (S27)) (A0_3 : Option Addr) (c0_3 : Nat) (l0_3 : List (S89)) (a0_4 : Int) (a0_5 : Int) (a0_6 : Int) (r : Bool) (w : World) (hr0_0 : Kd.C Kd.string w A0_0 l0_0.length l0_0) (hc0_0 : l0_0.length ≤ c0_0) (hr0_1 : Kd.C k70 w A0_1 l0_1.length l0_1) (hc0_1 : l0_1.length ≤ c0_1) (hr0_2 : Kd.C k27 w A0_2 l0_2.length l0_2) (hc0_2 : l0_2.length ≤ c0_2) (hr0_3 : Kd.C k89 w A0_3 l0_3.length l0_3) (hc0_3 : l0_3.length ≤ c0_3) (h : lw_Great.f k l0_0 l0_1 l0_2 l0_3 a0_4 a0_5 a0_6 = some r) :
  Calls Tryz.prog 10 #[.agg #[.slice A0_0 l0_0.length c0_0, .slice A0_1 l0_1.length c0_1, .slice A0_2 l0_2.length c0_2, .slice A0_3 l0_3.length c0_3, .int .i64 a0_4, .int .i64 a0_5, .int .i64 a0_6]] w fun e w' => e = .returned (.bool r) ∧ Below w.heap.size w w' := by
 have hu29 := Tryz.underlying29; have HR0_0 := Sd.mk hr0_0; have HC0_0 := Sd.mk hc0_0; clear hr0_0 hc0_0; have HR0_1 := Sd.mk hr0_1; have HC0_1 := Sd.mk hc0_1; clear hr0_1 hc0_1; have HR0_2 := Sd.mk hr0_2; have HC0_2 := Sd.mk hc0_2; clear hr0_2 hc0_2; have HR0_3 := Sd.mk hr0_3; have HC0_3 := Sd.mk hc0_3; clear hr0_3 hc0_3; have HB := Sd.mk (Below.refl w.heap.size w)
 have H : (if (l0_0.length : Int) > 20 then (lw_Great.j0 k true l0_0 l0_1 l0_2 l0_3 a0_4 a0_5 a0_6) else (if (l0_1.length : Int) > 20 then (lw_Great.j0 k true l0_0 l0_1 l0_2 l0_3 a0_4 a0_5 a0_6) else (if (l0_2.length : Int) > 20 then (lw_Great.j0 k true l0_0 l0_1 l0_2 l0_3 a0_4 a0_5 a0_6) else (lw_Great.j0 k (decide ((l0_3.length : Int) > 20)) l0_0 l0_1 l0_2 l0_3 a0_4 a0_5 a0_6)))) = some r := h
 clear h; have HC2 := Sd.mk H; clear H
 go_enter Tryz.func10, Tryz.ntmps10
 go_upto_region 1 with (first | ((with_reducible refine gate_dst (N := 1) rfl ?_); (try (refine gate_guard (by rfl) ?_; dsimp only)); refine box_event ?hg (N := 1) ?hd (cs := #[.slice A0_0 l0_0.length c0_0, .slice A0_1 l0_1.length c0_1, .slice A0_2 l0_2.length c0_2, .slice A0_3 l0_3.length c0_3, .int .i64 a0_4, .int .i64 a0_5, .int .i64 a0_6]) (t := 29) ?hr ?_; (case hd => rfl); (case hg => rfl); (case hr => exact tG); intro gb101 hg w3 hbox hb; have BK101 := Sd.mk (hbox); have GW101 := Sd.mk (bSz hg (bBl HB.out)); have GE101 := Sd.mk (bSz hg (bBl HB.out)); replace HB := Sd.mk (below_step (bBl HB.out) hb); clear hb hbox hg))
 (try simp only [Act.put, List.setIfInBounds_toArray, List.set_cons_zero, List.set_cons_succ])
 go_cut [28] (fun v28 wc => ∃ (kq : Nat) (x28_1 : Bool), v28 = .bool x28_1 ∧ Sd (lw_Great.j0 kq x28_1 l0_0 l0_1 l0_2 l0_3 a0_4 a0_5 a0_6 = some r) ∧ Sd (kq ≤ k) ∧ Sd (wc.heap[gb101]? = some (.cells #[(.slice A0_0 l0_0.length c0_0), (.slice A0_1 l0_1.length c0_1), (.slice A0_2 l0_2.length c0_2), (.slice A0_3 l0_3.length c0_3), .int .i64 a0_4, .int .i64 a0_5, .int .i64 a0_6] 29 (0, 0))) ∧ Sd (Below w.heap.size w wc))
 case first =>
  have H := HC2.out; clear HC2
  by_cases c4 : (l0_0.length : Int) > 20
  ·rw [if_pos c4] at H
   have c4b0 : decide (20 < (l0_0.length : Int)) = true := decide_eq_true c4
   have c4b1 : decide (20 < l0_0.length) = true := decide_eq_true (by omega)
   clear c4
   (first | rw [c4b0] | (simp only [i64_w, i32_w]; rw [c4b0]) | skip)
   have H' := Sd.mk H; clear H; obtain ⟨u5_0, u5_1, u5_2, u5_3, u5_4, u5_5, u5_6, o5_0, o5_1, o5_2, o5_3, o5_4, o5_5, o5_6⟩ := bc7 (w := w3) BK101.out
   go_wp2
   go_meet
   case rel => exact ⟨_, (true), tS, H', ⟨by first | omega | exact Nat.le_refl _⟩, ⟨bkA BK101.out⟩, ⟨bBl HB.out⟩⟩
  ·rw [if_neg c4] at H
   have c4b0 : decide (20 < (l0_0.length : Int)) = false := decide_eq_false c4
   have c4b1 : decide (20 < l0_0.length) = false := decide_eq_false (by omega)
   clear c4
   (first | rw [c4b0] | (simp only [i64_w, i32_w]; rw [c4b0]) | skip)
   by_cases c6 : (l0_1.length : Int) > 20
   ·rw [if_pos c6] at H
    have c6b0 : decide (20 < (l0_1.length : Int)) = true := decide_eq_true c6
    have c6b1 : decide (20 < l0_1.length) = true := decide_eq_true (by omega)
    clear c6; have H' := Sd.mk H; clear H; obtain ⟨u7_0, u7_1, u7_2, u7_3, u7_4, u7_5, u7_6, o7_0, o7_1, o7_2, o7_3, o7_4, o7_5, o7_6⟩ := bc7 (w := w3) BK101.out
    go_wp2
    go_meet
    case rel => exact ⟨_, (true), tS, H', ⟨by first | omega | exact Nat.le_refl _⟩, ⟨bkA BK101.out⟩, ⟨bBl HB.out⟩⟩
   ·rw [if_neg c6] at H
    have c6b0 : decide (20 < (l0_1.length : Int)) = false := decide_eq_false c6
    have c6b1 : decide (20 < l0_1.length) = false := decide_eq_false (by omega)
    clear c6
    by_cases c8 : (l0_2.length : Int) > 20
    ·rw [if_pos c8] at H
     have c8b0 : decide (20 < (l0_2.length : Int)) = true := decide_eq_true c8
     have c8b1 : decide (20 < l0_2.length) = true := decide_eq_true (by omega)
     clear c8; have H' := Sd.mk H; clear H; obtain ⟨u9_0, u9_1, u9_2, u9_3, u9_4, u9_5, u9_6, o9_0, o9_1, o9_2, o9_3, o9_4, o9_5, o9_6⟩ := bc7 (w := w3) BK101.out
     go_wp2
     go_meet
     case rel => exact ⟨_, (true), tS, H', ⟨by first | omega | exact Nat.le_refl _⟩, ⟨bkA BK101.out⟩, ⟨bBl HB.out⟩⟩
    ·rw [if_neg c8] at H
     have c8b0 : decide (20 < (l0_2.length : Int)) = false := decide_eq_false c8
     have c8b1 : decide (20 < l0_2.length) = false := decide_eq_false (by omega)
     clear c8; have H' := Sd.mk H; clear H; obtain ⟨u10_0, u10_1, u10_2, u10_3, u10_4, u10_5, u10_6, o10_0, o10_1, o10_2, o10_3, o10_4, o10_5, o10_6⟩ := bc7 (w := w3) BK101.out
     go_wp2
     go_meet
     case rel => exact ⟨_, (decide ((l0_3.length : Int) > 20)), tS, H', ⟨by first | omega | exact Nat.le_refl _⟩, ⟨bkA BK101.out⟩, ⟨bBl HB.out⟩⟩
 case rest =>
  clear HC2; (try clear c1); (try clear p2); (try clear c4); (try clear c4b0); (try clear c4b1); (try clear c6); (try clear c6b0); (try clear c6b1); (try clear c8); (try clear c8b0); (try clear c8b1); (try clear c10); (try clear u10_0 u10_1 u10_2 u10_3 u10_4 u10_5 u10_6); (try clear u5_0 u5_1 u5_2 u5_3 u5_4 u5_5 u5_6); (try clear u7_0 u7_1 u7_2 u7_3 u7_4 u7_5 u7_6); (try clear u9_0 u9_1 u9_2 u9_3 u9_4 u9_5 u9_6); (try clear o10_0 o10_1 o10_2 o10_3 o10_4 o10_5 o10_6); (try clear o5_0 o5_1 o5_2 o5_3 o5_4 o5_5 o5_6); (try clear o7_0 o7_1 o7_2 o7_3 o7_4 o7_5 o7_6); (try clear o9_0 o9_1 o9_2 o9_3 o9_4 o9_5 o9_6); obtain ⟨kq, x28_1, rfl, HA, HJ1, BK101, HB⟩ := hcut
  cases kq with
  | zero => exact absurd HA.out (by simp [lw_Great.j0])
  | succ kj1 =>
   have H := HA.out; clear HA
   simp only [lw_Great.j0] at H
   by_cases c11 : x28_1 = true
   ·subst c11
    have H1 : (some true) = some r := by rw [if_pos rfl] at H; exact H
    clear H; have H := H1; clear H1; obtain rfl := Option.some.inj H
    go_wp2
    go_ret
    exact ⟨tE, bBl HB.out⟩
   ·replace c11 := Bool.eq_false_iff.mpr c11
    subst c11
    have H1 : (lw_Great.l0 kj1 0 0 l0_0 l0_1 l0_2 l0_3 a0_4 a0_5 a0_6) = some r := by rw [if_neg (show ¬ (false = true) by decide)] at H; exact H
    clear H; have H := H1; clear H1; have H' := Sd.mk H; clear H
    go_wp2
    go_loopg [3, 4] kj1 (fun kq v3 v4 w' => ∃ (x3_2 : Int) (x4_2 : Int), v3 = .int .i64 x3_2 ∧ v4 = .int .i64 x4_2 ∧ Sd (lw_Great.l0 kq x3_2 x4_2 l0_0 l0_1 l0_2 l0_3 a0_4 a0_5 a0_6 = some r) ∧ Sd (kq ≤ kj1) ∧ Sd (w'.heap[gb101]? = some (.cells #[(.slice A0_0 l0_0.length c0_0), (.slice A0_1 l0_1.length c0_1), (.slice A0_2 l0_2.length c0_2), (.slice A0_3 l0_3.length c0_3), .int .i64 a0_4, .int .i64 a0_5, .int .i64 a0_6] 29 (0, 0))) ∧ Sd (Below w.heap.size w w'))
    case atStart => exact ⟨(0), (0), tS, tS, H', ⟨Nat.le_refl _⟩, ⟨bkA BK101.out⟩, ⟨bBl HB.out⟩⟩
    case round =>
     clear H'; (try clear c1); (try clear p2 p2); (try clear c4); (try clear c4b0); (try clear c4b1); (try clear c6); (try clear c6b0); (try clear c6b1); (try clear c8); (try clear c8b0); (try clear c8b1); (try clear c10); (try clear c11); (try clear u10_0 u10_1 u10_2 u10_3 u10_4 u10_5 u10_6); (try clear u5_0 u5_1 u5_2 u5_3 u5_4 u5_5 u5_6); (try clear u7_0 u7_1 u7_2 u7_3 u7_4 u7_5 u7_6); (try clear u9_0 u9_1 u9_2 u9_3 u9_4 u9_5 u9_6); (try clear o10_0 o10_1 o10_2 o10_3 o10_4 o10_5 o10_6); (try clear o5_0 o5_1 o5_2 o5_3 o5_4 o5_5 o5_6); (try clear o7_0 o7_1 o7_2 o7_3 o7_4 o7_5 o7_6); (try clear o9_0 o9_1 o9_2 o9_3 o9_4 o9_5 o9_6); obtain ⟨x3_2, x4_2, rfl, rfl, HA, HK2, BK101, HB⟩ := hrel
     cases gk with
     | zero => exact absurd HA.out (by simp [lw_Great.l0])
     | succ k2 =>
      have H := HA.out; clear HA
      simp only [lw_Great.l0] at H
      by_cases c12 : x4_2 < (l0_0.length : Int)
      ·rw [if_pos c12] at H
       have c12b0 : decide (x4_2 < (l0_0.length : Int)) = true := decide_eq_true c12
       clear c12
       by_cases c13 : 0 ≤ x4_2
       ·rw [if_pos c13] at H
        have c13b0 : decide (0 ≤ x4_2) = true := decide_eq_true c13
        clear c13; have H' := Sd.mk H; clear H; obtain ⟨u14_0, u14_1, u14_2, u14_3, u14_4, u14_5, u14_6, o14_0, o14_1, o14_2, o14_3, o14_4, o14_5, o14_6⟩ := bc7 (w := wr) BK101.out
        have p102 : 0 ≤ (x4_2 : Int) := tB
        have q102 : x4_2 < (l0_0.length : Int) := tB
        obtain ⟨ad102, e102, hx102_0⟩ := Kd.at_string HR0_0.out x4_2 p102 q102; cases e102; replace hx102_0 := cU HB hx102_0; replace p102 := eq_true p102; replace q102 := eq_true q102
        go_wp2
        go_roundg k2
        case measure => have := HJ1.out; have := HK2.out; omega
        case rel => exact ⟨(wrap64 (x3_2 + ((rdOf ByteArray.empty l0_0 x4_2).size : Int))), (wrap64 (x4_2 + 1)), tS, tS, H', ⟨by have := HJ1.out; have := HK2.out; omega⟩, ⟨bkA BK101.out⟩, ⟨bBl HB.out⟩⟩
       ·rw [if_neg c13] at H
        exact absurd H (by simp)
      ·rw [if_neg c12] at H
       have c12b0 : decide (x4_2 < (l0_0.length : Int)) = false := decide_eq_false c12
       clear c12; have H' := Sd.mk H; clear H; obtain ⟨u15_0, u15_1, u15_2, u15_3, u15_4, u15_5, u15_6, o15_0, o15_1, o15_2, o15_3, o15_4, o15_5, o15_6⟩ := bc7 (w := wr) BK101.out
       go_wp2
       go_loopg [3, 5] k2 (fun kq v3 v5 w' => ∃ (x3_3 : Int) (x5_3 : Int), v3 = .int .i64 x3_3 ∧ v5 = .int .i64 x5_3 ∧ Sd (lw_Great.l1 kq x3_3 x5_3 l0_0 l0_1 l0_2 l0_3 a0_4 a0_5 a0_6 = some r) ∧ Sd (kq ≤ k2) ∧ Sd (w'.heap[gb101]? = some (.cells #[(.slice A0_0 l0_0.length c0_0), (.slice A0_1 l0_1.length c0_1), (.slice A0_2 l0_2.length c0_2), (.slice A0_3 l0_3.length c0_3), .int .i64 a0_4, .int .i64 a0_5, .int .i64 a0_6] 29 (0, 0))) ∧ Sd (Below w.heap.size w w'))
       case atStart => exact ⟨(x3_2), (0), tS, tS, H', ⟨Nat.le_refl _⟩, ⟨bkA BK101.out⟩, ⟨bBl HB.out⟩⟩
       case round =>
        clear H'; (try clear c1); (try clear p1); (try clear q1); (try clear hx1); (try clear p2 p2); (try clear c4); (try clear c4b0); (try clear c4b1); (try clear c6); (try clear c6b0); (try clear c6b1); (try clear p6); (try clear c8); (try clear c8b0); (try clear c8b1); (try clear c10); (try clear p10); (try clear q10); (try clear hx10); (try clear c11); (try clear c12); (try clear c12b0); (try clear c13); (try clear c13b0); (try clear u10_0 u10_1 u10_2 u10_3 u10_4 u10_5 u10_6); (try clear u14_0 u14_1 u14_2 u14_3 u14_4 u14_5 u14_6); (try clear u15_0 u15_1 u15_2 u15_3 u15_4 u15_5 u15_6); (try clear u5_0 u5_1 u5_2 u5_3 u5_4 u5_5 u5_6); (try clear u7_0 u7_1 u7_2 u7_3 u7_4 u7_5 u7_6); (try clear u9_0 u9_1 u9_2 u9_3 u9_4 u9_5 u9_6); (try clear o10_0 o10_1 o10_2 o10_3 o10_4 o10_5 o10_6); (try clear o14_0 o14_1 o14_2 o14_3 o14_4 o14_5 o14_6); (try clear o15_0 o15_1 o15_2 o15_3 o15_4 o15_5 o15_6); (try clear o5_0 o5_1 o5_2 o5_3 o5_4 o5_5 o5_6); (try clear o7_0 o7_1 o7_2 o7_3 o7_4 o7_5 o7_6); (try clear o9_0 o9_1 o9_2 o9_3 o9_4 o9_5 o9_6); (try clear hx102_0); (try clear p102); (try clear q102); obtain ⟨x3_3, x5_3, rfl, rfl, HA, HK3, BK101, HB⟩ := hrel
        cases gk with
        | zero => exact absurd HA.out (by simp [lw_Great.l1])
        | succ k3 =>
         have H := HA.out; clear HA
         simp only [lw_Great.l1] at H
         by_cases c16 : x5_3 < (l0_1.length : Int)
         ·rw [if_pos c16] at H
          have c16b0 : decide (x5_3 < (l0_1.length : Int)) = true := decide_eq_true c16
          clear c16
          by_cases c17 : 0 ≤ x5_3
          ·rw [if_pos c17] at H
           have c17b0 : decide (0 ≤ x5_3) = true := decide_eq_true c17
           clear c17
           by_cases c18 : (((rd_T70 l0_1 x5_3).f6).length : Int) > 20
           ·rw [if_pos c18] at H
            have c18b0 : decide (20 < (((rd_T70 l0_1 x5_3).f6).length : Int)) = true := decide_eq_true c18
            have c18b1 : decide (20 < ((rd_T70 l0_1 x5_3).f6).length) = true := decide_eq_true (by omega)
            clear c18; obtain rfl := Option.some.inj H; obtain ⟨u19_0, u19_1, u19_2, u19_3, u19_4, u19_5, u19_6, o19_0, o19_1, o19_2, o19_3, o19_4, o19_5, o19_6⟩ := bc7 (w := wr) BK101.out
            have p103 : 0 ≤ (x5_3 : Int) := tB
            have q103 : x5_3 < (l0_1.length : Int) := tB
            obtain ⟨ad103, A103_6, c103_6, e103, hx103_0, hx103_1, hx103_2, hx103_3, hx103_4, hx103_5, hx103_6, hl103_6, hi103_6⟩ := at_T70 HR0_1.out x5_3 p103 q103; cases e103; replace hx103_0 := cU HB hx103_0; replace hx103_1 := cU HB hx103_1; replace hx103_2 := cU HB hx103_2; replace hx103_3 := cU HB hx103_3; replace hx103_4 := cU HB hx103_4; replace hx103_5 := cU HB hx103_5; replace hx103_6 := cU HB hx103_6; have HR103_6 := Sd.mk hi103_6; have HC103_6 := Sd.mk hl103_6; clear hi103_6 hl103_6; replace p103 := eq_true p103; replace q103 := eq_true q103
            have p104 : 0 ≤ (x5_3 : Int) := tB
            have q104 : x5_3 < (l0_1.length : Int) := tB
            obtain ⟨ad104, A104_6, c104_6, e104, hx104_0, hx104_1, hx104_2, hx104_3, hx104_4, hx104_5, hx104_6, hl104_6, hi104_6⟩ := at_T70 HR0_1.out x5_3 p104 q104
            obtain rfl : ad103 = ad104 := (by injection e104)
            replace hx104_0 := cU HB hx104_0; replace hx104_1 := cU HB hx104_1; replace hx104_2 := cU HB hx104_2; replace hx104_3 := cU HB hx104_3; replace hx104_4 := cU HB hx104_4; replace hx104_5 := cU HB hx104_5; replace hx104_6 := cU HB hx104_6; have HR104_6 := Sd.mk hi104_6; have HC104_6 := Sd.mk hl104_6; clear hi104_6 hl104_6; replace p104 := eq_true p104; replace q104 := eq_true q104; have ea_ := Option.some.inj (hx103_6.symm.trans hx104_6)
            injection ea_ with ea_ en_ ec_
            subst ea_; subst ec_; clear en_
            go_wp2
            go_ret
            exact ⟨tE, bBl HB.out⟩
           ·rw [if_neg c18] at H
            have c18b0 : decide (20 < (((rd_T70 l0_1 x5_3).f6).length : Int)) = false := decide_eq_false c18
            have c18b1 : decide (20 < ((rd_T70 l0_1 x5_3).f6).length) = false := decide_eq_false (by omega)
            clear c18; have H' := Sd.mk H; clear H; obtain ⟨u20_0, u20_1, u20_2, u20_3, u20_4, u20_5, u20_6, o20_0, o20_1, o20_2, o20_3, o20_4, o20_5, o20_6⟩ := bc7 (w := wr) BK101.out
            have p103 : 0 ≤ (x5_3 : Int) := tB
            have q103 : x5_3 < (l0_1.length : Int) := tB
            obtain ⟨ad103, A103_6, c103_6, e103, hx103_0, hx103_1, hx103_2, hx103_3, hx103_4, hx103_5, hx103_6, hl103_6, hi103_6⟩ := at_T70 HR0_1.out x5_3 p103 q103; cases e103; replace hx103_0 := cU HB hx103_0; replace hx103_1 := cU HB hx103_1; replace hx103_2 := cU HB hx103_2; replace hx103_3 := cU HB hx103_3; replace hx103_4 := cU HB hx103_4; replace hx103_5 := cU HB hx103_5; replace hx103_6 := cU HB hx103_6; have HR103_6 := Sd.mk hi103_6; have HC103_6 := Sd.mk hl103_6; clear hi103_6 hl103_6; replace p103 := eq_true p103; replace q103 := eq_true q103
            have p104 : 0 ≤ (x5_3 : Int) := tB
            have q104 : x5_3 < (l0_1.length : Int) := tB
            obtain ⟨ad104, A104_6, c104_6, e104, hx104_0, hx104_1, hx104_2, hx104_3, hx104_4, hx104_5, hx104_6, hl104_6, hi104_6⟩ := at_T70 HR0_1.out x5_3 p104 q104
            obtain rfl : ad103 = ad104 := (by injection e104)
            replace hx104_0 := cU HB hx104_0; replace hx104_1 := cU HB hx104_1; replace hx104_2 := cU HB hx104_2; replace hx104_3 := cU HB hx104_3; replace hx104_4 := cU HB hx104_4; replace hx104_5 := cU HB hx104_5; replace hx104_6 := cU HB hx104_6; have HR104_6 := Sd.mk hi104_6; have HC104_6 := Sd.mk hl104_6; clear hi104_6 hl104_6; replace p104 := eq_true p104; replace q104 := eq_true q104; have ea_ := Option.some.inj (hx103_6.symm.trans hx104_6)
            injection ea_ with ea_ en_ ec_
            subst ea_; subst ec_; clear en_
            go_wp2
            go_roundg k3
            case measure => have := HJ1.out; have := HK2.out; have := HK3.out; omega
            case rel => exact ⟨(wrap64 (x3_3 + (((rd_T70 l0_1 x5_3).f0).size : Int))), (wrap64 (x5_3 + 1)), tS, tS, H', ⟨by have := HJ1.out; have := HK2.out; have := HK3.out; omega⟩, ⟨bkA BK101.out⟩, ⟨bBl HB.out⟩⟩
          ·rw [if_neg c17] at H
           exact absurd H (by simp)
         ·rw [if_neg c16] at H
          have c16b0 : decide (x5_3 < (l0_1.length : Int)) = false := decide_eq_false c16
          clear c16; have H' := Sd.mk H; clear H; obtain ⟨u21_0, u21_1, u21_2, u21_3, u21_4, u21_5, u21_6, o21_0, o21_1, o21_2, o21_3, o21_4, o21_5, o21_6⟩ := bc7 (w := wr) BK101.out
          go_wp2
          go_loopg [3, 6] k3 (fun kq v3 v6 w' => ∃ (x3_4 : Int) (x6_4 : Int), v3 = .int .i64 x3_4 ∧ v6 = .int .i64 x6_4 ∧ Sd (lw_Great.l2 kq x3_4 x6_4 l0_0 l0_1 l0_2 l0_3 a0_4 a0_5 a0_6 = some r) ∧ Sd (kq ≤ k3) ∧ Sd (w'.heap[gb101]? = some (.cells #[(.slice A0_0 l0_0.length c0_0), (.slice A0_1 l0_1.length c0_1), (.slice A0_2 l0_2.length c0_2), (.slice A0_3 l0_3.length c0_3), .int .i64 a0_4, .int .i64 a0_5, .int .i64 a0_6] 29 (0, 0))) ∧ Sd (Below w.heap.size w w'))
          case atStart => exact ⟨(x3_3), (0), tS, tS, H', ⟨Nat.le_refl _⟩, ⟨bkA BK101.out⟩, ⟨bBl HB.out⟩⟩
          case round =>
           clear H'; (try clear c1); (try clear p1 p1); (try clear q1 q1); (try clear hx1); (try clear p2 p2); (try clear c4); (try clear c4b0); (try clear c4b1); (try clear c6); (try clear c6b0); (try clear c6b1); (try clear p6 p6); (try clear c8); (try clear c8b0); (try clear c8b1); (try clear c10); (try clear p10 p10); (try clear q10 q10); (try clear hx10); (try clear c11); (try clear c12); (try clear c12b0); (try clear c13); (try clear c13b0); (try clear c16); (try clear c16b0); (try clear c17); (try clear c17b0); (try clear c18); (try clear c18b0); (try clear c18b1); (try clear u10_0 u10_1 u10_2 u10_3 u10_4 u10_5 u10_6); (try clear u14_0 u14_1 u14_2 u14_3 u14_4 u14_5 u14_6); (try clear u15_0 u15_1 u15_2 u15_3 u15_4 u15_5 u15_6); (try clear u19_0 u19_1 u19_2 u19_3 u19_4 u19_5 u19_6); (try clear u20_0 u20_1 u20_2 u20_3 u20_4 u20_5 u20_6); (try clear u21_0 u21_1 u21_2 u21_3 u21_4 u21_5 u21_6); (try clear u5_0 u5_1 u5_2 u5_3 u5_4 u5_5 u5_6); (try clear u7_0 u7_1 u7_2 u7_3 u7_4 u7_5 u7_6); (try clear u9_0 u9_1 u9_2 u9_3 u9_4 u9_5 u9_6); (try clear o10_0 o10_1 o10_2 o10_3 o10_4 o10_5 o10_6); (try clear o14_0 o14_1 o14_2 o14_3 o14_4 o14_5 o14_6); (try clear o15_0 o15_1 o15_2 o15_3 o15_4 o15_5 o15_6); (try clear o19_0 o19_1 o19_2 o19_3 o19_4 o19_5 o19_6); (try clear o20_0 o20_1 o20_2 o20_3 o20_4 o20_5 o20_6); (try clear o21_0 o21_1 o21_2 o21_3 o21_4 o21_5 o21_6); (try clear o5_0 o5_1 o5_2 o5_3 o5_4 o5_5 o5_6); (try clear o7_0 o7_1 o7_2 o7_3 o7_4 o7_5 o7_6); (try clear o9_0 o9_1 o9_2 o9_3 o9_4 o9_5 o9_6); (try clear hx102_0); (try clear hx103_0); (try clear hx103_1); (try clear hx103_2); (try clear hx103_3); (try clear hx103_4); (try clear hx103_5); (try clear hx103_6); (try clear hx104_0); (try clear hx104_1); (try clear hx104_2); (try clear hx104_3); (try clear hx104_4); (try clear hx104_5); (try clear hx104_6); (try clear p102); (try clear p103); (try clear p104); (try clear q102); (try clear q103); (try clear q104); obtain ⟨x3_4, x6_4, rfl, rfl, HA, HK4, BK101, HB⟩ := hrel
           cases gk with
           | zero => exact absurd HA.out (by simp [lw_Great.l2])
           | succ k4 =>
            have H := HA.out; clear HA
            simp only [lw_Great.l2] at H
            by_cases c22 : x6_4 < (l0_3.length : Int)
            ·rw [if_pos c22] at H
             have c22b0 : decide (x6_4 < (l0_3.length : Int)) = true := decide_eq_true c22
             clear c22
             by_cases c23 : 0 ≤ x6_4
             ·rw [if_pos c23] at H
              have c23b0 : decide (0 ≤ x6_4) = true := decide_eq_true c23
              clear c23
              by_cases c24 : (((rd_T89 l0_3 x6_4).f1).length : Int) > 20
              ·rw [if_pos c24] at H
               have c24b0 : decide (20 < (((rd_T89 l0_3 x6_4).f1).length : Int)) = true := decide_eq_true c24
               have c24b1 : decide (20 < ((rd_T89 l0_3 x6_4).f1).length) = true := decide_eq_true (by omega)
               clear c24; obtain rfl := Option.some.inj H; obtain ⟨u25_0, u25_1, u25_2, u25_3, u25_4, u25_5, u25_6, o25_0, o25_1, o25_2, o25_3, o25_4, o25_5, o25_6⟩ := bc7 (w := wr) BK101.out
               have p105 : 0 ≤ (x6_4 : Int) := tB
               have q105 : x6_4 < (l0_3.length : Int) := tB
               obtain ⟨ad105, A105_1, c105_1, e105, hx105_0, hx105_1, hx105_2, hx105_3, hl105_1, hi105_1⟩ := at_T89 HR0_3.out x6_4 p105 q105; cases e105; replace hx105_0 := cU HB hx105_0; replace hx105_1 := cU HB hx105_1; replace hx105_2 := cU HB hx105_2; replace hx105_3 := cU HB hx105_3; have HR105_1 := Sd.mk hi105_1; have HC105_1 := Sd.mk hl105_1; clear hi105_1 hl105_1; replace p105 := eq_true p105; replace q105 := eq_true q105
               have p106 : 0 ≤ (x6_4 : Int) := tB
               have q106 : x6_4 < (l0_3.length : Int) := tB
               obtain ⟨ad106, A106_1, c106_1, e106, hx106_0, hx106_1, hx106_2, hx106_3, hl106_1, hi106_1⟩ := at_T89 HR0_3.out x6_4 p106 q106
               obtain rfl : ad105 = ad106 := (by injection e106)
               replace hx106_0 := cU HB hx106_0; replace hx106_1 := cU HB hx106_1; replace hx106_2 := cU HB hx106_2; replace hx106_3 := cU HB hx106_3; have HR106_1 := Sd.mk hi106_1; have HC106_1 := Sd.mk hl106_1; clear hi106_1 hl106_1; replace p106 := eq_true p106; replace q106 := eq_true q106; have ea_ := Option.some.inj (hx105_1.symm.trans hx106_1)
               injection ea_ with ea_ en_ ec_
               subst ea_; subst ec_; clear en_
               go_wp2
               go_ret
               exact ⟨tE, bBl HB.out⟩
              ·rw [if_neg c24] at H
               have c24b0 : decide (20 < (((rd_T89 l0_3 x6_4).f1).length : Int)) = false := decide_eq_false c24
               have c24b1 : decide (20 < ((rd_T89 l0_3 x6_4).f1).length) = false := decide_eq_false (by omega)
               clear c24; have H' := Sd.mk H; clear H; obtain ⟨u26_0, u26_1, u26_2, u26_3, u26_4, u26_5, u26_6, o26_0, o26_1, o26_2, o26_3, o26_4, o26_5, o26_6⟩ := bc7 (w := wr) BK101.out
               have p105 : 0 ≤ (x6_4 : Int) := tB
               have q105 : x6_4 < (l0_3.length : Int) := tB
               obtain ⟨ad105, A105_1, c105_1, e105, hx105_0, hx105_1, hx105_2, hx105_3, hl105_1, hi105_1⟩ := at_T89 HR0_3.out x6_4 p105 q105; cases e105; replace hx105_0 := cU HB hx105_0; replace hx105_1 := cU HB hx105_1; replace hx105_2 := cU HB hx105_2; replace hx105_3 := cU HB hx105_3; have HR105_1 := Sd.mk hi105_1; have HC105_1 := Sd.mk hl105_1; clear hi105_1 hl105_1; replace p105 := eq_true p105; replace q105 := eq_true q105
               have p106 : 0 ≤ (x6_4 : Int) := tB
               have q106 : x6_4 < (l0_3.length : Int) := tB
               obtain ⟨ad106, A106_1, c106_1, e106, hx106_0, hx106_1, hx106_2, hx106_3, hl106_1, hi106_1⟩ := at_T89 HR0_3.out x6_4 p106 q106
               obtain rfl : ad105 = ad106 := (by injection e106)
               replace hx106_0 := cU HB hx106_0; replace hx106_1 := cU HB hx106_1; replace hx106_2 := cU HB hx106_2; replace hx106_3 := cU HB hx106_3; have HR106_1 := Sd.mk hi106_1; have HC106_1 := Sd.mk hl106_1; clear hi106_1 hl106_1; replace p106 := eq_true p106; replace q106 := eq_true q106; have ea_ := Option.some.inj (hx105_1.symm.trans hx106_1)
               injection ea_ with ea_ en_ ec_
               subst ea_; subst ec_; clear en_
               go_wp2
               go_roundg k4
               case measure => have := HJ1.out; have := HK2.out; have := HK3.out; have := HK4.out; omega
               case rel => exact ⟨(wrap64 (x3_4 + (((rd_T89 l0_3 x6_4).f0).size : Int))), (wrap64 (x6_4 + 1)), tS, tS, H', ⟨by have := HJ1.out; have := HK2.out; have := HK3.out; have := HK4.out; omega⟩, ⟨bkA BK101.out⟩, ⟨bBl HB.out⟩⟩
             ·rw [if_neg c23] at H
              exact absurd H (by simp)
            ·rw [if_neg c22] at H
             have c22b0 : decide (x6_4 < (l0_3.length : Int)) = false := decide_eq_false c22
             clear c22; obtain rfl := Option.some.inj H; obtain ⟨u27_0, u27_1, u27_2, u27_3, u27_4, u27_5, u27_6, o27_0, o27_1, o27_2, o27_3, o27_4, o27_5, o27_6⟩ := bc7 (w := wr) BK101.out
             go_wp2
             go_ret
             exact ⟨tE, bBl HB.out⟩
end
section
theorem eqA27 (d : Nat) (w : World) (x0 y0 : Int) (x1 y1 : Int) :
  (Op.equalIn (d + 2) 27 (.agg #[.int .i64 x0, .int .i64 x1]) (.agg #[.int .i64 y0, .int .i64 y1])).run Tryz.prog w = .ok (x0 == y0 && (x1 == y1)) w := by
 refine eqA_of Tryz.underlying27 (by kernel_rfl) ?_
 refine eqf_cons (by rfl) (by go_simp; rfl) (by go_simp; rfl) (by go_simp) ?_
 exact eqf_last (by rfl) (by go_simp; rfl) (by go_simp; rfl) (by go_simp)
end
section
attribute [local go_sem high] eqA27
end
section
def lw_Example.f  : Option (List ByteArray × (List (S70)) × (List (S27)) × (List (S89)) × Int × Int × Int) := some ((([(⟨#[115, 105]⟩ : ByteArray), (⟨#[110, 97]⟩ : ByteArray)] : List ByteArray)), (([(⟨(⟨#[115, 97, 110, 100]⟩ : ByteArray), 1, 0, 0, 200, 20, (([(⟨980, 1000⟩ : S27), (⟨0, 0⟩ : S27)] : List (S27)))⟩ : S70), (⟨(⟨#[115, 111, 100, 97]⟩ : ByteArray), 4, 0, 0, 100, 20, (([(⟨0, 0⟩ : S27), (⟨570, 580⟩ : S27)] : List (S27)))⟩ : S70)] : List (S70))), (([(⟨700, 800⟩ : S27), (⟨200, 300⟩ : S27)] : List (S27))), ([] : List (S89)), (-9999), 9999, 100)
theorem lw_Example.calls  (r1 : List ByteArray) (r2 : List (S70)) (r3 : List (S27)) (r4 : List (S89)) (r5 : Int) (r6 : Int) (r7 : Int) (w : World) (h : lw_Example.f  = some (r1, r2, r3, r4, r5, r6, r7)) :
  Calls Tryz.prog 45 #[] w fun e w' => ∃ v0_ v1_ v2_ v3_ : Value, e = .returned (.agg #[v0_, v1_, v2_, v3_, .int .i64 r5, .int .i64 r6, .int .i64 r7]) ∧ Kd.R Kd.string 9 w' w.heap.size (fun k_ => (w.heap.size ≤ k_)) v0_ r1 ∧ Kd.N k70 70 w' w.heap.size (fun k_ => (w.heap.size ≤ k_) ∧ some k_ ≠ (v0_ : Value).ownBlock ∧ some k_ ≠ (v2_ : Value).ownBlock ∧ some k_ ≠ (v3_ : Value).ownBlock) v1_ r2 ∧ Kd.R k27 27 w' w.heap.size (fun k_ => (w.heap.size ≤ k_)) v2_ r3 ∧ Kd.N k89 89 w' w.heap.size (fun k_ => (w.heap.size ≤ k_) ∧ some k_ ≠ (v0_ : Value).ownBlock ∧ some k_ ≠ (v1_ : Value).ownBlock ∧ some k_ ≠ (v2_ : Value).ownBlock) v3_ r4 ∧ Below w.heap.size w w' := by
 have hu29 := Tryz.underlying29; have hu27 := Tryz.underlying27; have hu70 := Tryz.underlying70; have HB := Sd.mk (Below.refl w.heap.size w)
 have H : (some ((([(⟨#[115, 105]⟩ : ByteArray), (⟨#[110, 97]⟩ : ByteArray)] : List ByteArray)), (([(⟨(⟨#[115, 97, 110, 100]⟩ : ByteArray), 1, 0, 0, 200, 20, (([(⟨980, 1000⟩ : S27), (⟨0, 0⟩ : S27)] : List (S27)))⟩ : S70), (⟨(⟨#[115, 111, 100, 97]⟩ : ByteArray), 4, 0, 0, 100, 20, (([(⟨0, 0⟩ : S27), (⟨570, 580⟩ : S27)] : List (S27)))⟩ : S70)] : List (S70))), (([(⟨700, 800⟩ : S27), (⟨200, 300⟩ : S27)] : List (S27))), ([] : List (S89)), (-9999), 9999, 100)) = some (r1, r2, r3, r4, r5, r6, r7) := h
 clear h
 obtain ⟨y177, hy177⟩ : ∃ y_ : List ByteArray, y_ = (([(⟨#[115, 105]⟩ : ByteArray), (⟨#[110, 97]⟩ : ByteArray)] : List ByteArray)) := ⟨_, rfl⟩
 replace H : (some (y177, (([(⟨(⟨#[115, 97, 110, 100]⟩ : ByteArray), 1, 0, 0, 200, 20, (([(⟨980, 1000⟩ : S27), (⟨0, 0⟩ : S27)] : List (S27)))⟩ : S70), (⟨(⟨#[115, 111, 100, 97]⟩ : ByteArray), 4, 0, 0, 100, 20, (([(⟨0, 0⟩ : S27), (⟨570, 580⟩ : S27)] : List (S27)))⟩ : S70)] : List (S70))), (([(⟨700, 800⟩ : S27), (⟨200, 300⟩ : S27)] : List (S27))), ([] : List (S89)), (-9999), 9999, 100)) = some (r1, r2, r3, r4, r5, r6, r7) := by first | (rw [hy177]; with_reducible exact H) | (have H2_ := (Option.bind_some _ _).symm.trans H; rw [hy177]; with_reducible exact H2_) | (have H2_ := (Option.bind_some _ _).symm.trans H; with_reducible exact H2_) | with_reducible exact H | (rw [hy177]; exact H) | exact H
 have Ny177 := Sd.mk hy177; clear hy177
 obtain ⟨y180, hy180⟩ : ∃ y_ : List (S27), y_ = (([(⟨700, 800⟩ : S27), (⟨200, 300⟩ : S27)] : List (S27))) := ⟨_, rfl⟩
 replace H : (some (y177, (([(⟨(⟨#[115, 97, 110, 100]⟩ : ByteArray), 1, 0, 0, 200, 20, (([(⟨980, 1000⟩ : S27), (⟨0, 0⟩ : S27)] : List (S27)))⟩ : S70), (⟨(⟨#[115, 111, 100, 97]⟩ : ByteArray), 4, 0, 0, 100, 20, (([(⟨0, 0⟩ : S27), (⟨570, 580⟩ : S27)] : List (S27)))⟩ : S70)] : List (S70))), y180, ([] : List (S89)), (-9999), 9999, 100)) = some (r1, r2, r3, r4, r5, r6, r7) := by first | (rw [hy180]; with_reducible exact H) | (have H2_ := (Option.bind_some _ _).symm.trans H; rw [hy180]; with_reducible exact H2_) | (have H2_ := (Option.bind_some _ _).symm.trans H; with_reducible exact H2_) | with_reducible exact H | (rw [hy180]; exact H) | exact H
 have Ny180 := Sd.mk hy180; clear hy180
 obtain ⟨y183, hy183⟩ : ∃ y_ : List (S27), y_ = (([(⟨980, 1000⟩ : S27), (⟨0, 0⟩ : S27)] : List (S27))) := ⟨_, rfl⟩
 replace H : (some (y177, (([(⟨(⟨#[115, 97, 110, 100]⟩ : ByteArray), 1, 0, 0, 200, 20, y183⟩ : S70), (⟨(⟨#[115, 111, 100, 97]⟩ : ByteArray), 4, 0, 0, 100, 20, (([(⟨0, 0⟩ : S27), (⟨570, 580⟩ : S27)] : List (S27)))⟩ : S70)] : List (S70))), y180, ([] : List (S89)), (-9999), 9999, 100)) = some (r1, r2, r3, r4, r5, r6, r7) := by first | (rw [hy183]; with_reducible exact H) | (have H2_ := (Option.bind_some _ _).symm.trans H; rw [hy183]; with_reducible exact H2_) | (have H2_ := (Option.bind_some _ _).symm.trans H; with_reducible exact H2_) | with_reducible exact H | (rw [hy183]; exact H) | exact H
 have Ny183 := Sd.mk hy183; clear hy183
 obtain ⟨y186, hy186⟩ : ∃ y_ : List (S27), y_ = (([(⟨0, 0⟩ : S27), (⟨570, 580⟩ : S27)] : List (S27))) := ⟨_, rfl⟩
 replace H : (some (y177, (([(⟨(⟨#[115, 97, 110, 100]⟩ : ByteArray), 1, 0, 0, 200, 20, y183⟩ : S70), (⟨(⟨#[115, 111, 100, 97]⟩ : ByteArray), 4, 0, 0, 100, 20, y186⟩ : S70)] : List (S70))), y180, ([] : List (S89)), (-9999), 9999, 100)) = some (r1, r2, r3, r4, r5, r6, r7) := by first | (rw [hy186]; with_reducible exact H) | (have H2_ := (Option.bind_some _ _).symm.trans H; rw [hy186]; with_reducible exact H2_) | (have H2_ := (Option.bind_some _ _).symm.trans H; with_reducible exact H2_) | with_reducible exact H | (rw [hy186]; exact H) | exact H
 have Ny186 := Sd.mk hy186; clear hy186
 obtain ⟨y189, hy189⟩ : ∃ y_ : List (S70), y_ = (([(⟨(⟨#[115, 97, 110, 100]⟩ : ByteArray), 1, 0, 0, 200, 20, y183⟩ : S70), (⟨(⟨#[115, 111, 100, 97]⟩ : ByteArray), 4, 0, 0, 100, 20, y186⟩ : S70)] : List (S70))) := ⟨_, rfl⟩
 replace H : (some (y177, y189, y180, ([] : List (S89)), (-9999), 9999, 100)) = some (r1, r2, r3, r4, r5, r6, r7) := by first | (rw [hy189]; with_reducible exact H) | (have H2_ := (Option.bind_some _ _).symm.trans H; rw [hy189]; with_reducible exact H2_) | (have H2_ := (Option.bind_some _ _).symm.trans H; with_reducible exact H2_) | with_reducible exact H | (rw [hy189]; exact H) | exact H
 have Ny189 := Sd.mk hy189; clear hy189
 simp only [Option.some.injEq, Prod.mk.injEq] at H
 obtain ⟨rfl, rfl, rfl, rfl, rfl, rfl, rfl⟩ := H
 go_enter Tryz.func45, Tryz.ntmps45
 go_wp2_with (first | ((with_reducible refine gate_dst (N := 0) rfl ?_); refine box_event ?hg (N := 0) ?hd (cs := #[.slice none 0 0, .slice none 0 0, .slice none 0 0, .slice none 0 0, .int .i64 0, .int .i64 0, .int .i64 0]) (t := 29) ?hr ?_; (case hd => rfl); (case hg => rfl); (case hr => exact tG); intro gb176 hg w1 hbox hb; have BK176 := Sd.mk (hbox); have GW176 := Sd.mk (bSz hg (bBl HB.out)); have GE176 := Sd.mk (bSz hg (bBl HB.out)); replace HB := Sd.mk (below_step (bBl HB.out) hb); clear hb hbox hg) | ((with_reducible refine gate_dst (N := 1) rfl ?_); refine Kd.R_lit Kd.string _ 9 ?hg (N := 1) ?hd (xs := ([(⟨#[115, 105]⟩ : ByteArray), (⟨#[110, 97]⟩ : ByteArray)] : List ByteArray)) (inner := [.string (⟨#[115, 105]⟩ : ByteArray), .string (⟨#[110, 97]⟩ : ByteArray)]) (ok := fun _ => True) (okp := fun _ => True) ?hr ?hp (fun _ hk => hk) trivial (Below.refl _ _) (Nat.le_refl _) (by simp) ?_; (case hd => rfl); (case hg => rfl); (case hr => exact tG); (case hp => exact (Reps.one (show Kd.M Kd.string _ _ _ (⟨#[115, 105]⟩ : ByteArray) [.string (⟨#[115, 105]⟩ : ByteArray)] from rfl) (Reps.one (show Kd.M Kd.string _ _ _ (⟨#[110, 97]⟩ : ByteArray) [.string (⟨#[110, 97]⟩ : ByteArray)] from rfl) (Reps.none _ _)))); intro v178 w2 ho3 hb hg_ hnew_; clear hg_ hnew_; (first | rw [← Ny177.out] at ho3 | (simp only [Int.reduceToNat] at ho3; rw [← Ny177.out] at ho3)); have HO179 := Sd.mk (Kd.R_lower (Kd.R_newM (M := fun k_ => (w.heap.size ≤ k_)) ho3 (below_size (bBl HB.out)) (fun k_ h_ => h_)) (below_size (bBl HB.out))); replace BK176 := Sd.mk (blk_below (bkA BK176.out) hb); replace HB := Sd.mk (below_step (bBl HB.out) hb); clear hb ho3) | ((with_reducible refine gate_dst (N := 4) rfl ?_); refine Kd.R_lit k27 _ 27 ?hg (N := 4) ?hd (xs := ([(⟨700, 800⟩ : S27), (⟨200, 300⟩ : S27)] : List (S27))) (inner := [.int .i64 700, .int .i64 800, .int .i64 200, .int .i64 300]) (ok := fun _ => True) (okp := fun _ => True) ?hr ?hp (fun _ hk => hk) trivial (Below.refl _ _) (Nat.le_refl _) (by simp) ?_; (case hd => rfl); (case hg => rfl); (case hr => exact tG); (case hp => exact (Reps.c2 (show Kd.M k27 _ _ _ (⟨700, 800⟩ : S27) [.int .i64 700, .int .i64 800] from (k27_mkM _ _ _ (⟨700, 800⟩ : S27) )) (Reps.c2 (show Kd.M k27 _ _ _ (⟨200, 300⟩ : S27) [.int .i64 200, .int .i64 300] from (k27_mkM _ _ _ (⟨200, 300⟩ : S27) )) (Reps.none _ _)))); intro v181 w4 ho5 hb hg_ hnew_; clear hg_ hnew_; (first | rw [← Ny180.out] at ho5 | (simp only [Int.reduceToNat] at ho5; rw [← Ny180.out] at ho5)); replace HO179 := Sd.mk (Kd.R_below (by (with_reducible repeat (first | apply Kd.R_alloc | apply Kd.R_drewN | apply Kd.R_drew)); exact HO179.out) hb); have HO182 := Sd.mk (Kd.R_lower (Kd.R_newM (M := fun k_ => (w.heap.size ≤ k_)) ho5 (below_size (bBl HB.out)) (fun k_ h_ => h_)) (below_size (bBl HB.out))); replace BK176 := Sd.mk (blk_below (bkA BK176.out) hb); replace HB := Sd.mk (below_step (bBl HB.out) hb); clear hb ho5) | ((with_reducible refine gate_dst (N := 8) rfl ?_); refine Kd.R_lit k27 _ 27 ?hg (N := 8) ?hd (xs := ([(⟨980, 1000⟩ : S27), (⟨0, 0⟩ : S27)] : List (S27))) (inner := [.int .i64 980, .int .i64 1000, .int .i64 0, .int .i64 0]) (ok := fun _ => True) (okp := fun _ => True) ?hr ?hp (fun _ hk => hk) trivial (Below.refl _ _) (Nat.le_refl _) (by simp) ?_; (case hd => rfl); (case hg => rfl); (case hr => exact tG); (case hp => exact (Reps.c2 (show Kd.M k27 _ _ _ (⟨980, 1000⟩ : S27) [.int .i64 980, .int .i64 1000] from (k27_mkM _ _ _ (⟨980, 1000⟩ : S27) )) (Reps.c2 (show Kd.M k27 _ _ _ (⟨0, 0⟩ : S27) [.int .i64 0, .int .i64 0] from (k27_mkM _ _ _ (⟨0, 0⟩ : S27) )) (Reps.none _ _)))); intro v184 w6 ho7 hb hg_ hnew_; clear hg_ hnew_; (first | rw [← Ny183.out] at ho7 | (simp only [Int.reduceToNat] at ho7; rw [← Ny183.out] at ho7)); replace HO179 := Sd.mk (Kd.R_below (by (with_reducible repeat (first | apply Kd.R_alloc | apply Kd.R_drewN | apply Kd.R_drew)); exact HO179.out) hb); have HO185 := Sd.mk (Kd.R_lower (Kd.R_new' (Kd.R_newM (M := fun k_ => (w.heap.size ≤ k_)) ho7 (below_size (bBl HB.out)) (fun k_ h_ => h_)) (Kd.R_lt (by (with_reducible repeat (first | apply Kd.R_alloc | apply Kd.R_drewN | apply Kd.R_drew)); exact HO182.out))) (below_size (bBl HB.out))); replace HO182 := Sd.mk (Kd.R_elder' (by (with_reducible repeat (first | apply Kd.R_alloc | apply Kd.R_drewN | apply Kd.R_drew)); exact HO182.out) (Kd.R_base ho7) hb); replace BK176 := Sd.mk (blk_below (bkA BK176.out) hb); replace HB := Sd.mk (below_step (bBl HB.out) hb); clear hb ho7; obtain ⟨Ao8, co8, eo8⟩ := Kd.R_slice HO185.out; subst eo8) | ((with_reducible refine gate_dst (N := 12) rfl ?_); refine Kd.R_lit k27 _ 27 ?hg (N := 12) ?hd (xs := ([(⟨0, 0⟩ : S27), (⟨570, 580⟩ : S27)] : List (S27))) (inner := [.int .i64 0, .int .i64 0, .int .i64 570, .int .i64 580]) (ok := fun _ => True) (okp := fun _ => True) ?hr ?hp (fun _ hk => hk) trivial (Below.refl _ _) (Nat.le_refl _) (by simp) ?_; (case hd => rfl); (case hg => rfl); (case hr => exact tG); (case hp => exact (Reps.c2 (show Kd.M k27 _ _ _ (⟨0, 0⟩ : S27) [.int .i64 0, .int .i64 0] from (k27_mkM _ _ _ (⟨0, 0⟩ : S27) )) (Reps.c2 (show Kd.M k27 _ _ _ (⟨570, 580⟩ : S27) [.int .i64 570, .int .i64 580] from (k27_mkM _ _ _ (⟨570, 580⟩ : S27) )) (Reps.none _ _)))); intro v187 w9 ho10 hb hg_ hnew_; clear hg_ hnew_; (first | rw [← Ny186.out] at ho10 | (simp only [Int.reduceToNat] at ho10; rw [← Ny186.out] at ho10)); replace HO179 := Sd.mk (Kd.R_below (by (with_reducible repeat (first | apply Kd.R_alloc | apply Kd.R_drewN | apply Kd.R_drew)); exact HO179.out) hb); have HO188 := Sd.mk (Kd.R_lower (Kd.R_new' (Kd.R_new' (Kd.R_newM (M := fun k_ => (w.heap.size ≤ k_)) ho10 (below_size (bBl HB.out)) (fun k_ h_ => h_)) (Kd.R_lt (by (with_reducible repeat (first | apply Kd.R_alloc | apply Kd.R_drewN | apply Kd.R_drew)); exact HO182.out))) (Kd.R_lt (by (with_reducible repeat (first | apply Kd.R_alloc | apply Kd.R_drewN | apply Kd.R_drew)); exact HO185.out))) (below_size (bBl HB.out))); replace HO182 := Sd.mk (Kd.R_elder' (by (with_reducible repeat (first | apply Kd.R_alloc | apply Kd.R_drewN | apply Kd.R_drew)); exact HO182.out) (Kd.R_base ho10) hb); replace HO185 := Sd.mk (Kd.R_elder' (by (with_reducible repeat (first | apply Kd.R_alloc | apply Kd.R_drewN | apply Kd.R_drew)); exact HO185.out) (Kd.R_base ho10) hb); replace BK176 := Sd.mk (blk_below (bkA BK176.out) hb); replace HB := Sd.mk (below_step (bBl HB.out) hb); clear hb ho10; obtain ⟨Ao11, co11, eo11⟩ := Kd.R_slice HO188.out; subst eo11) | ((with_reducible refine gate_dst (N := 14) rfl ?_); refine Kd.N_lit k70 _ 70 ?hg (N' := 14) ?hd (xs := ([(⟨(⟨#[115, 97, 110, 100]⟩ : ByteArray), 1, 0, 0, 200, 20, y183⟩ : S70), (⟨(⟨#[115, 111, 100, 97]⟩ : ByteArray), 4, 0, 0, 100, 20, y186⟩ : S70)] : List (S70))) (inner := [.string (⟨#[115, 97, 110, 100]⟩ : ByteArray), .int .i64 1, .int .i64 0, .int .i64 0, .int .i64 200, .int .i64 20, .slice Ao8 y183.length co8, .string (⟨#[115, 111, 100, 97]⟩ : ByteArray), .int .i64 4, .int .i64 0, .int .i64 0, .int .i64 100, .int .i64 20, .slice Ao11 y186.length co11]) (ok := (fun k_ => (w.heap.size ≤ k_) ∧ some k_ ≠ (v178 : Value).ownBlock ∧ some k_ ≠ (v181 : Value).ownBlock ∧ k_ ≠ gb176)) (okp := (fun k_ => (w.heap.size ≤ k_) ∧ some k_ ≠ (v178 : Value).ownBlock ∧ some k_ ≠ (v181 : Value).ownBlock ∧ k_ ≠ gb176)) ?hr ?hp (fun _ hk => hk) ((show ∀ k_, w9.heap.size ≤ k_ → (fun k_ => (w.heap.size ≤ k_) ∧ some k_ ≠ (v178 : Value).ownBlock ∧ some k_ ≠ (v181 : Value).ownBlock ∧ k_ ≠ gb176) k_ from fun k_ hk => ⟨(Nat.le_trans (below_size (bBl HB.out)) hk), Kd.fresh' (Kd.R_lt (by (with_reducible repeat (first | apply Kd.R_alloc | apply Kd.R_drewN | apply Kd.R_drew)); exact HO179.out)) k_ hk, Kd.fresh' (Kd.R_lt (by (with_reducible repeat (first | apply Kd.R_alloc | apply Kd.R_drewN | apply Kd.R_drew)); exact HO182.out)) k_ hk, Kd.freshB (bkA BK176.out) k_ hk⟩) _ (Nat.le_refl _)) (Below.refl _ _) (Nat.le_refl _) (by simp) ?_; (case hd => rfl); (case hg => rfl); (case hr => exact tG); (case hp => exact (Reps.c7 (show Kd.FK k70 _ _ (⟨(⟨#[115, 97, 110, 100]⟩ : ByteArray), 1, 0, 0, 200, 20, y183⟩ : S70) [.string (⟨#[115, 97, 110, 100]⟩ : ByteArray), .int .i64 1, .int .i64 0, .int .i64 0, .int .i64 200, .int .i64 20, .slice Ao8 y183.length co8] from (k70_mkF _ _ (⟨(⟨#[115, 97, 110, 100]⟩ : ByteArray), 1, 0, 0, 200, 20, y183⟩ : S70) (Kd.R_reads' (Kd.R_mono (ok' := (fun k_ => (w.heap.size ≤ k_) ∧ some k_ ≠ (v178 : Value).ownBlock ∧ some k_ ≠ (v181 : Value).ownBlock ∧ k_ ≠ gb176)) (Kd.R_types (Kd.R_apart' (HO185.out) (Kd.R_typed HO179.out) (by decide)) BK176.out (by decide)) (fun k_ hk => ⟨hk.1.1.1.1.1, ⟨hk.1.2, ⟨hk.1.1.1.2, hk.2⟩⟩⟩))).2.1 (Kd.R_F (Kd.R_mono (ok' := (fun k_ => (w.heap.size ≤ k_) ∧ some k_ ≠ (v178 : Value).ownBlock ∧ some k_ ≠ (v181 : Value).ownBlock ∧ k_ ≠ gb176)) (Kd.R_types (Kd.R_apart' (HO185.out) (Kd.R_typed HO179.out) (by decide)) BK176.out (by decide)) (fun k_ hk => ⟨hk.1.1.1.1.1, ⟨hk.1.2, ⟨hk.1.1.1.2, hk.2⟩⟩⟩))))) (Reps.c7 (show Kd.FK k70 _ _ (⟨(⟨#[115, 111, 100, 97]⟩ : ByteArray), 4, 0, 0, 100, 20, y186⟩ : S70) [.string (⟨#[115, 111, 100, 97]⟩ : ByteArray), .int .i64 4, .int .i64 0, .int .i64 0, .int .i64 100, .int .i64 20, .slice Ao11 y186.length co11] from (k70_mkF _ _ (⟨(⟨#[115, 111, 100, 97]⟩ : ByteArray), 4, 0, 0, 100, 20, y186⟩ : S70) (Kd.R_reads' (Kd.R_mono (ok' := (fun k_ => (w.heap.size ≤ k_) ∧ some k_ ≠ (v178 : Value).ownBlock ∧ some k_ ≠ (v181 : Value).ownBlock ∧ k_ ≠ gb176)) (Kd.R_types (Kd.R_apart' (HO188.out) (Kd.R_typed HO179.out) (by decide)) BK176.out (by decide)) (fun k_ hk => ⟨hk.1.1.1.1.1, ⟨hk.1.2, ⟨hk.1.1.1.2, hk.2⟩⟩⟩))).2.1 (Kd.R_F (Kd.R_mono (ok' := (fun k_ => (w.heap.size ≤ k_) ∧ some k_ ≠ (v178 : Value).ownBlock ∧ some k_ ≠ (v181 : Value).ownBlock ∧ k_ ≠ gb176)) (Kd.R_types (Kd.R_apart' (HO188.out) (Kd.R_typed HO179.out) (by decide)) BK176.out (by decide)) (fun k_ hk => ⟨hk.1.1.1.1.1, ⟨hk.1.2, ⟨hk.1.1.1.2, hk.2⟩⟩⟩))))) (Reps.none _ _)))); intro v190 w12 ho13 hb hg_ hnew_; clear hg_ hnew_; (first | rw [← Ny189.out] at ho13 | (simp only [Int.reduceToNat] at ho13; rw [← Ny189.out] at ho13)); replace HO179 := Sd.mk (Kd.R_below (by (with_reducible repeat (first | apply Kd.R_alloc | apply Kd.R_drewN | apply Kd.R_drew)); exact HO179.out) hb); replace HO182 := Sd.mk (Kd.R_below (by (with_reducible repeat (first | apply Kd.R_alloc | apply Kd.R_drewN | apply Kd.R_drew)); exact HO182.out) hb); have HO191 := Sd.mk (Kd.N_lower ho13 (below_size (bBl HB.out))); replace BK176 := Sd.mk (blk_below (bkA BK176.out) hb); replace HB := Sd.mk (below_step (bBl HB.out) hb); clear HO185 HO188; clear hb ho13; obtain ⟨Ao14, co14, eo14⟩ := Kd.R_slice HO182.out; subst eo14; obtain ⟨Ao15, co15, eo15⟩ := Kd.N_slice HO191.out; subst eo15; obtain ⟨Ao16, co16, eo16⟩ := Kd.R_slice HO179.out; subst eo16; obtain ⟨u17_0, u17_1, u17_2, u17_3, u17_4, u17_5, u17_6, o17_0, o17_1, o17_2, o17_3, o17_4, o17_5, o17_6⟩ := bc7 (w := w12) BK176.out))
 refine bodyPost_ret (results_cell_row rfl _ _ gb176 29 #[.slice Ao16 y177.length co16, .slice Ao15 y189.length co15, .slice Ao14 y180.length co14, .slice none 0 0, .int .i64 (-9999), .int .i64 9999, .int .i64 100] (0, 0) _ rfl (by refine bkZ ?_; refine blk_put (cs := #[.slice Ao16 y177.length co16, .slice Ao15 y189.length co15, .slice Ao14 y180.length co14, .slice none 0 0, .int .i64 (-9999), .int .i64 9999, .int .i64 0]) ?_ 6 _ rfl; refine bkZ ?_; refine blk_put (cs := #[.slice Ao16 y177.length co16, .slice Ao15 y189.length co15, .slice Ao14 y180.length co14, .slice none 0 0, .int .i64 (-9999), .int .i64 0, .int .i64 0]) ?_ 5 _ rfl; refine bkZ ?_; refine blk_put (cs := #[.slice Ao16 y177.length co16, .slice Ao15 y189.length co15, .slice Ao14 y180.length co14, .slice none 0 0, .int .i64 0, .int .i64 0, .int .i64 0]) ?_ 4 _ rfl; refine bkZ ?_; refine blk_put (cs := #[.slice Ao16 y177.length co16, .slice Ao15 y189.length co15, .slice Ao14 y180.length co14, .slice none 0 0, .int .i64 0, .int .i64 0, .int .i64 0]) ?_ 3 _ rfl; refine bkZ ?_; refine blk_put (cs := #[.slice Ao16 y177.length co16, .slice Ao15 y189.length co15, .slice none 0 0, .slice none 0 0, .int .i64 0, .int .i64 0, .int .i64 0]) ?_ 2 _ rfl; refine bkZ ?_; refine blk_put (cs := #[.slice Ao16 y177.length co16, .slice none 0 0, .slice none 0 0, .slice none 0 0, .int .i64 0, .int .i64 0, .int .i64 0]) ?_ 1 _ rfl; refine bkZ ?_; refine blk_put (cs := #[.slice none 0 0, .slice none 0 0, .slice none 0 0, .slice none 0 0, .int .i64 0, .int .i64 0, .int .i64 0]) ?_ 0 _ rfl; refine bkZ ?_; exact BK176.out) Tryz.underlying29 rfl (by kernel_rfl)) rfl ?_
 exact ⟨_, _, _, _, tE, by (with_reducible repeat (first | apply Kd.R_alloc | apply Kd.R_drewN | apply Kd.R_drew)); exact Kd.R_mono (Kd.R_far (p := ⟨gb176, 6, none⟩) (Kd.R_far (p := ⟨gb176, 5, none⟩) (Kd.R_far (p := ⟨gb176, 4, none⟩) (Kd.R_far (p := ⟨gb176, 3, none⟩) (Kd.R_far (p := ⟨gb176, 2, none⟩) (Kd.R_far (p := ⟨gb176, 1, none⟩) (Kd.R_far (p := ⟨gb176, 0, none⟩) (Kd.R_types HO179.out BK176.out (by decide)) (fun _ hk => hk.2) (.slice Ao16 y177.length co16)) (fun _ hk => hk.2) (.slice Ao15 y189.length co15)) (fun _ hk => hk.2) (.slice Ao14 y180.length co14)) (fun _ hk => hk.2) (.slice none 0 0)) (fun _ hk => hk.2) (.int .i64 (-9999))) (fun _ hk => hk.2) (.int .i64 9999)) (fun _ hk => hk.2) (.int .i64 100)) (fun _ hk => hk.1.1), by (with_reducible repeat (first | apply Kd.N_alloc | apply Kd.N_drewN | apply Kd.N_drew)); exact Kd.N_mono (Kd.N_far (p := ⟨gb176, 6, none⟩) (Kd.N_far (p := ⟨gb176, 5, none⟩) (Kd.N_far (p := ⟨gb176, 4, none⟩) (Kd.N_far (p := ⟨gb176, 3, none⟩) (Kd.N_far (p := ⟨gb176, 2, none⟩) (Kd.N_far (p := ⟨gb176, 1, none⟩) (Kd.N_far (p := ⟨gb176, 0, none⟩) (Kd.N_mono HO191.out (fun k_ hk => (⟨hk, hk.2.2.2⟩ : _ ∧ k_ ≠ gb176))) (fun _ hk => hk.2) (.slice Ao16 y177.length co16)) (fun _ hk => hk.2) (.slice Ao15 y189.length co15)) (fun _ hk => hk.2) (.slice Ao14 y180.length co14)) (fun _ hk => hk.2) (.slice none 0 0)) (fun _ hk => hk.2) (.int .i64 (-9999))) (fun _ hk => hk.2) (.int .i64 9999)) (fun _ hk => hk.2) (.int .i64 100)) (fun _ hk => ⟨hk.1.1, ⟨hk.1.2.1, ⟨hk.1.2.2.1, (by simp [Value.ownBlock])⟩⟩⟩), by (with_reducible repeat (first | apply Kd.R_alloc | apply Kd.R_drewN | apply Kd.R_drew)); exact Kd.R_mono (Kd.R_far (p := ⟨gb176, 6, none⟩) (Kd.R_far (p := ⟨gb176, 5, none⟩) (Kd.R_far (p := ⟨gb176, 4, none⟩) (Kd.R_far (p := ⟨gb176, 3, none⟩) (Kd.R_far (p := ⟨gb176, 2, none⟩) (Kd.R_far (p := ⟨gb176, 1, none⟩) (Kd.R_far (p := ⟨gb176, 0, none⟩) (Kd.R_types HO182.out BK176.out (by decide)) (fun _ hk => hk.2) (.slice Ao16 y177.length co16)) (fun _ hk => hk.2) (.slice Ao15 y189.length co15)) (fun _ hk => hk.2) (.slice Ao14 y180.length co14)) (fun _ hk => hk.2) (.slice none 0 0)) (fun _ hk => hk.2) (.int .i64 (-9999))) (fun _ hk => hk.2) (.int .i64 9999)) (fun _ hk => hk.2) (.int .i64 100)) (fun _ hk => hk.1.1.1.1), by first | exact Kd.R_nil _ _ _ _ _ | exact Kd.N_nil _ _ _ _ _ | exact Kd.V_nil _ _ _ _ _ | exact Kd.Q_nil _ _ _ _ _ | exact Kd.S_nil _ _ _ _ _, bBl HB.out⟩
end
section
end
section
end
section
section
variable {o : List ByteArray} {mt : List S70} {s : List S27} {p : List S89} {a4 a5 a6 : Int} {r : List Int}
end
section
variable (o : List ByteArray) (mt : List S70) (s : List S27) (p : List S89) (a4 a5 a6 : Int) (r : List Int)
end
section
variable (o : List ByteArray) (mt : List S70) (s : List S27) (p : List S89) (a4 a5 a6 : Int)
theorem great_l2 (hp : p.length ≤ 20) : ∀ (m i : Nat) (x : Int), i + m = p.length → ∃ b, Ev (fun k => lw_Great.l2 k x (i : Int) o mt s p a4 a5 a6) b
  | 0, i, x, hi => by
    refine ⟨decide (x > 2000), ?_⟩
    apply Ev.step
    simp only [lw_Great.l2, if_neg (show ¬ (i : Int) < (p.length : Int) by omega)]
    exact Ev.const _
  | m + 1, i, x, hi => by
    obtain ⟨b, ih⟩ := great_l2 hp m (i + 1) (wrap64 (x + ((rd_T89 p (i : Int)).f0.size : Int))) (by omega)
    by_cases h : (((rd_T89 p (i : Int)).f1).length : Int) > 20
    · refine ⟨true, ?_⟩
      apply Ev.step
      simp only [lw_Great.l2, if_pos (show (i : Int) < (p.length : Int) by omega), if_pos (i_pos i), if_pos h]
      exact Ev.const _
    · refine ⟨b, ?_⟩
      apply Ev.step
      simp only [lw_Great.l2, if_pos (show (i : Int) < (p.length : Int) by omega), if_pos (i_pos i), if_neg h, wrap_succ (i_pos i) (show (i : Int) ≤ 1000000000 by omega)]
      exact ih
theorem great_l1 (hm : mt.length ≤ 20) (hp : p.length ≤ 20) : ∀ (m i : Nat) (x : Int), i + m = mt.length → ∃ b, Ev (fun k => lw_Great.l1 k x (i : Int) o mt s p a4 a5 a6) b
  | 0, i, x, hi => by
    obtain ⟨b, hb⟩ := great_l2 o mt s p a4 a5 a6 hp p.length 0 x (by omega)
    refine ⟨b, ?_⟩
    apply Ev.step
    simp only [lw_Great.l1, if_neg (show ¬ (i : Int) < (mt.length : Int) by omega)]
    exact hb
  | m + 1, i, x, hi => by
    obtain ⟨b, ih⟩ := great_l1 hm hp m (i + 1) (wrap64 (x + ((rd_T70 mt (i : Int)).f0.size : Int))) (by omega)
    by_cases h : (((rd_T70 mt (i : Int)).f6).length : Int) > 20
    · refine ⟨true, ?_⟩
      apply Ev.step
      simp only [lw_Great.l1, if_pos (show (i : Int) < (mt.length : Int) by omega), if_pos (i_pos i), if_pos h]
      exact Ev.const _
    · refine ⟨b, ?_⟩
      apply Ev.step
      simp only [lw_Great.l1, if_pos (show (i : Int) < (mt.length : Int) by omega), if_pos (i_pos i), if_neg h, wrap_succ (i_pos i) (show (i : Int) ≤ 1000000000 by omega)]
      exact ih
theorem great_l0 (ho : o.length ≤ 20) (hm : mt.length ≤ 20) (hp : p.length ≤ 20) : ∀ (m i : Nat) (x : Int), i + m = o.length → ∃ b, Ev (fun k => lw_Great.l0 k x (i : Int) o mt s p a4 a5 a6) b
  | 0, i, x, hi => by
    obtain ⟨b, hb⟩ := great_l1 o mt s p a4 a5 a6 hm hp mt.length 0 x (by omega)
    refine ⟨b, ?_⟩
    apply Ev.step
    simp only [lw_Great.l0, if_neg (show ¬ (i : Int) < (o.length : Int) by omega)]
    exact hb
  | m + 1, i, x, hi => by
    obtain ⟨b, ih⟩ := great_l0 ho hm hp m (i + 1) (wrap64 (x + ((rdOf ByteArray.empty o (i : Int)).size : Int))) (by omega)
    refine ⟨b, ?_⟩
    apply Ev.step
    simp only [lw_Great.l0, if_pos (show (i : Int) < (o.length : Int) by omega), if_pos (i_pos i), wrap_succ (i_pos i) (show (i : Int) ≤ 1000000000 by omega)]
    exact ih
theorem great : ∃ b, Ev (fun k => lw_Great.f k o mt s p a4 a5 a6) b := by
  have ht : Ev (fun k => lw_Great.j0 k true o mt s p a4 a5 a6) true := by
    apply Ev.step
    simp only [lw_Great.j0, if_true]
    exact Ev.const _
  unfold lw_Great.f
  by_cases h1 : (o.length : Int) > 20
  · simp only [if_pos h1]; exact ⟨_, ht⟩
  by_cases h2 : (mt.length : Int) > 20
  · simp only [if_neg h1, if_pos h2]; exact ⟨_, ht⟩
  by_cases h3 : (s.length : Int) > 20
  · simp only [if_neg h1, if_neg h2, if_pos h3]; exact ⟨_, ht⟩
  simp only [if_neg h1, if_neg h2, if_neg h3]
  by_cases h4 : (p.length : Int) > 20
  · rw [show decide ((p.length : Int) > 20) = true by simpa using h4]; exact ⟨_, ht⟩
  · rw [show decide ((p.length : Int) > 20) = false by simpa using h4]
    obtain ⟨b, hb⟩ := great_l0 o mt s p a4 a5 a6 (by omega) (by omega) (by omega) o.length 0 0 (by omega)
    refine ⟨b, ?_⟩
    apply Ev.step
    simp only [lw_Great.j0, Bool.false_eq_true, if_false]
    exact hb
end
section
variable (o : List ByteArray) (mt : List S70) (s : List S27) (p : List S89) (a4 a5 a6 : Int) (r l1 : List Int) (n b3 b4 : Int) (l5 : List Int)
end
end
section
end
section
end
section
variable {F : Fence} {n : Nat} {P : Program}
def roundPostP (P : Program) (l : Nat) (R : Ending → World → Prop) : Exit → Act → World → Prop
  | .normal, _, w => ∃ v w', (Instr.endRound l none).run P w = .ok v w' ∧ R (.returned v) w'
  | .panic ch, a, w => a.defers = [] ∧ R (.panicked ch) w
  | _, _, _ => False
theorem roundIn_of_wpInP {l : Nat} {f : FuncId} {tmps : Array Value} {assign body : Code} {w : World} {R : Ending → World → Prop} (hF : F.fn f) (hPf : (∃ ch w', R (.panicked ch) w') → ∃ fn, P.funcs[f]? = some fn)
    (h : assign.wpIn (F.inRound l) n P (Exit.then (fun a₁ w₁ => ∃ w₂, (Instr.beginRound l).run P w₁ = .ok () w₂ ∧ body.wpIn (F.inRound l) n P (roundPostP P l R) a₁ w₂) (fun _ _ _ => False))
      { tmps := tmps, defers := [] } w) :
    RoundIn F n P l f tmps assign body w R := by
  refine ⟨hF, fun c cs hr => ?_⟩
  let b : Frame := { (default : Frame) with fn := f, kind := .normal, roundOf := some l }
  have hb0 : Frame.round l f tmps assign body .normal = b.atR { tmps := tmps, defers := [] } [.code assign, .beginRound, .code body] := by
    simp [Frame.round, Frame.atR, b]
  have hr' : (F.inRound l).room ((c :: cs).length + 1 + n) := hr
  have hF' : (F.inRound l).fn b.fn := hF
  obtain ⟨e, a₁, w₁, hq, harr⟩ := h b [.beginRound, .code body] (c :: cs) rfl hF' hr'
  rw [← hb0] at harr
  cases e with
  | normal =>
    obtain ⟨w₂, hbr, hbody⟩ := hq
    have s1 : StepsIn (Machine.fenced P (F.inRound l)) P (lone (b.atR a₁ [.beginRound, .code body]) (c :: cs) w₁) (lone (b.atR a₁ [.code body]) (c :: cs) w₂) :=
      .one (fenced_calm (fr := b.atR a₁ [.beginRound, .code body]) hF' hr' rfl) (stepR_beginRound rfl hbr)
    obtain ⟨e₂, a₂, w₃, hq₂, harr₂⟩ := hbody b [] (c :: cs) rfl hF' hr'
    cases e₂ with
    | normal =>
      obtain ⟨v, w₄, hend, hR⟩ := hq₂
      exact ⟨.returned v, w₄, hR, (StepsIn.trans harr s1).trans (StepsIn.trans harr₂ (.one (fenced_calm (fr := b.atR a₂ []) hF' hr' rfl) (stepR_round_end rfl rfl hend)))⟩
    | panic chain =>
      obtain ⟨hd, hR⟩ := hq₂
      obtain ⟨todo, hs⟩ := harr₂
      have hleave : Frame.leaving P { b.atR a₂ todo with mode := .panicking chain } w₃ (.panicked chain) := ⟨rfl, hd, hPf ⟨_, _, hR⟩⟩
      have hl : (lone { b.atR a₂ todo with mode := .panicking chain } (c :: cs) w₃).fenced P (F.inRound l) := fenced_leaving (n := n) hF' hr' hleave
      exact ⟨.panicked chain, w₃, hR, (StepsIn.trans harr s1).trans (StepsIn.trans hs (.one hl (step_leave_panicked hleave)))⟩
    | ret => exact hq₂.elim
    | exit id => exact hq₂.elim
    | goto t => exact hq₂.elim
    | outgrown => exact hq₂.elim
  | exit id => exact hq.elim
  | goto t => exact hq.elim
  | ret => exact hq.elim
  | panic chain => exact hq.elim
  | outgrown => exact hq.elim
def bodyPostP (B : Nat) (I : Nat → World → Prop) (Ip : List PanicEntry → World → Prop) (k : Nat) (W : World) : Exit → Act → World → Prop
  | .normal, _, W' => W.heap.size ≤ W'.heap.size ∧ (∀ j, B ≤ j → j < B + 2 → W'.heap[j]? = W.heap[j]?) ∧ I k W'
  | .panic ch, a, W' => a.defers = [] ∧ W.heap.size ≤ W'.heap.size ∧ (∀ j, B ≤ j → j < B + 2 → W'.heap[j]? = W.heap[j]?) ∧ Ip ch W'
  | _, _, _ => False
theorem wpIn_rangeFuncP {g : Operand} {ps : Array Tmp} {assign body : Code} {Q : Exit → Act → World → Prop} {a : Act} {w : World} {N : Nat} {encs : Nat → Array Value}
    (hro : F.round = none) (h1 : 1 ≤ n) {gf : Nat} {lb : Array Value} (hg : a.eval g = .func (.func gf) #[] lb) (hFg : F.fn gf) (eg : ∀ args w, (callFunc gf args).run P w = .ok (.enter gf args) w)
    (hps : ∀ k, (encs k).size = ps.size) (I : Nat → World → Prop) (Ip : List PanicEntry → World → Prop)
    (hIa : ∀ k W o, I k W → I k (W.alloc o)) (hIp : ∀ k W o (r : Loop), W.heap[w.heap.size + 1]? = some (.loop r) → I k W → I k (W.putObj (w.heap.size + 1) o)) (h0 : I 0 w)
    (hseq : ∀ (l : Nat) (J : Nat → World → Prop) (Jp : List PanicEntry → World → Prop) (W : World), (∀ k W o, J k W → J k (W.alloc o)) → (∀ k W, J k W → I k W) →
      (∀ k W1, k < N → J k W1 → YieldAt F (n - 1 - 1) P l (encs k) W1 fun e W' => (e = .returned (.bool true) ∧ J (k + 1) W') ∨ (∃ ch, e = .panicked ch ∧ Jp ch W')) → J 0 W →
      CallsIn F (n - 1) P gf (#[.func (.yield l) #[] #[]] ++ lb) W fun e W' => (∃ v, e = .returned v ∧ J N W') ∨ (∃ ch, e = .panicked ch ∧ Jp ch W'))
    (hround : ∀ (l : Nat) (k : Nat) (W : World), w.heap.size + 1 < W.heap.size → (∃ r : Loop, W.heap[w.heap.size + 1]? = some (.loop r)) → k < N → I k W → ∀ (st : Act → World → Prop),
      (∀ a' W', W.heap.size ≤ W'.heap.size → (∀ j, w.heap.size ≤ j → j < w.heap.size + 2 → W'.heap[j]? = W.heap[j]?) →
        (∀ o, body.wpIn (F.inRound l) (n - 1 - 1) P (bodyPostP w.heap.size I Ip (k + 1) (W'.putObj (w.heap.size + 1) o)) a' (W'.putObj (w.heap.size + 1) o)) → st a' W') →
      assign.wpIn (F.inRound l) (n - 1 - 1) P (Exit.then st (fun _ _ _ => False)) { tmps := (ps.zip (encs k)).foldl (fun t (p, v) => t.setIfInBounds p v) a.tmps, defers := [] } W)
    (hfn : (∃ ch W, Ip ch W) → ∀ fn, F.fn fn → ∃ c, P.funcs[fn]? = some c)
    (hdone : ∀ W, I N W → W.heap[w.heap.size]? = some (.deferred (some [])) → Q .normal { a with defers := { target := .collected w.heap.size, args := #[] } :: a.defers } W)
    (hpanic : ∀ ch W, Ip ch W → W.heap[w.heap.size]? = some (.deferred (some [])) → Q (.panic ch) { a with defers := { target := .collected w.heap.size, args := #[] } :: a.defers } W) :
    (Code.rangeFunc g ps assign body).wpIn F n P Q a w := by
  refine wpIn_rangeFunc ?_
  intro fn hfn'
  rw [hro]
  obtain ⟨rec, hrec⟩ : ∃ rec : LoopState → Option Code → Loop, rec = fun st pe => { state := st, pending := pe, fn, tmps := a.tmps, params := ps, assign, body, defers := w.heap.size } := ⟨_, rfl⟩
  obtain ⟨W1, hW1⟩ : ∃ W1, (w.alloc (.deferred (some []))).alloc (.loop (rec .ready none)) = W1 := ⟨_, rfl⟩
  have hL1 : W1.heap[w.heap.size + 1]? = some (.loop (rec .ready none)) := by
    rw [← hW1]; have := World.alloc_heap_new (w.alloc (.deferred (some []))) (.loop (rec .ready none)); rwa [World.size_alloc] at this
  have hK1 : W1.heap[w.heap.size]? = some (.deferred (some [])) := by
    rw [← hW1]; exact (Below.heap_alloc _ _ _ (by simp)).trans (World.alloc_heap_new w _)
  have hI1 : I 0 W1 := by rw [← hW1]; exact hIa _ _ _ (hIa _ _ _ h0)
  refine ⟨w.heap.size + 1, [{ target := .collected w.heap.size, args := #[] }], W1, { target := .fn (.func gf) lb, args := #[.func (.yield (w.heap.size + 1)) #[] #[]] }, W1, gf,
    #[.func (.yield (w.heap.size + 1)) #[] #[]] ++ lb, W1, ?_, ?_, ?_, ?_, fun _ => h1, ?_⟩
  · rw [← hW1, hrec]; exact run_enterLoop_outer _ _ _ _ _
  · simp only [resolve, hg]
    simp [go_sem]
  · intro f' hf'; simp [Target.leads] at hf'; subst hf'; exact hFg
  · simp [invoke, go_sem, eg]
  · have hal : ∀ (W : World) (j : Nat) (x : Obj) (o : Obj), W.heap[j]? = some x → (W.alloc o).heap[j]? = some x := fun W j x o h =>
      (Below.heap_alloc W o j (Array.getElem?_eq_some_iff.1 h).1).trans h
    refine (hseq (w.heap.size + 1)
      (fun k W => I k W ∧ W.heap[w.heap.size + 1]? = some (.loop (rec .ready none)) ∧ W.heap[w.heap.size]? = some (.deferred (some [])))
      (fun ch W => Ip ch W ∧ W.heap[w.heap.size]? = some (.deferred (some [])))
      W1 (fun k W o h => ⟨hIa _ _ _ h.1, hal _ _ _ _ h.2.1, hal _ _ _ _ h.2.2⟩) (fun k W h => h.1) ?_ ⟨hI1, hL1, hK1⟩).mono ?_
    · rintro k W hk ⟨hi, hl, hd⟩
      have hlt : w.heap.size + 1 < W.heap.size := (Array.getElem?_eq_some_iff.1 hl).1
      have hy := run_yield (P := P) (args := encs k) hl (by rw [hrec]; exact hps k)
      rw [hrec] at hy
      refine ⟨fn, _, assign, body, hy, roundIn_of_wpInP hfn' (fun ⟨ch, W', h⟩ => hfn (by rcases h with ⟨h, _⟩ | ⟨ch', _, h, _⟩; cases h; exact ⟨_, _, h⟩) fn hfn') (hround _ k W hlt ⟨_, hl⟩ hk hi _ ?_)⟩
      clear hy
      intro a' Wa hsz hsame hb
      have hla : Wa.heap[w.heap.size + 1]? = some (.loop (rec .ready none)) := (hsame _ (by omega) (by omega)).trans hl
      have hda : Wa.heap[w.heap.size]? = some (.deferred (some [])) := (hsame _ (by omega) (by omega)).trans hd
      have hlta : w.heap.size + 1 < Wa.heap.size := by omega
      refine ⟨_, run_beginRound hla (by rw [hrec]), ?_⟩
      refine wpIn_mono (hb _) ?_
      have hl2 : (Wa.putObj (w.heap.size + 1) (.loop { rec .ready none with state := .busy })).heap[w.heap.size + 1]? = some (.loop { rec .ready none with state := .busy }) := World.putObj_heap_same hlta
      have hk2 : (Wa.putObj (w.heap.size + 1) (.loop { rec .ready none with state := .busy })).heap[w.heap.size]? = some (.deferred (some [])) := (World.putObj_heap_other (by omega)).trans hda
      rintro e a3 W3 hp
      cases e with
      | normal =>
        obtain ⟨hs3, hsame3, hi3⟩ := hp
        have hl3 := (hsame3 _ (by omega) (by omega)).trans hl2
        have hk3 := (hsame3 _ (by omega) (by omega)).trans hk2
        have hr := run_endRound (P := P) none hl3
        have hlt3 := (Array.getElem?_eq_some_iff.1 hl3).1
        rw [hrec] at hr ⊢
        exact ⟨_, _, hr, .inl ⟨rfl, hIp _ _ _ _ hl3 hi3, World.putObj_heap_same hlt3, (World.putObj_heap_other (by omega)).trans hk3⟩⟩
      | panic ch =>
        obtain ⟨hd3, hs3, hsame3, hi3⟩ := hp
        exact ⟨hd3, .inr ⟨ch, rfl, hi3, (hsame3 _ (by omega) (by omega)).trans hk2⟩⟩
      | ret => exact hp.elim
      | exit id => exact hp.elim
      | goto t => exact hp.elim
      | outgrown => exact hp.elim
    · rintro e W2 (⟨v, rfl, hi, hl, hk⟩ | ⟨ch, rfl, hi, hk⟩)
      · have hlt := (Array.getElem?_eq_some_iff.1 hl).1
        exact ⟨none, _, by have := run_endLoop (P := P) hl (by rw [hrec]; simp); rw [hrec] at this; exact this, hdone _ (hIp _ _ _ _ hl hi) ((World.putObj_heap_other (by omega)).trans hk)⟩
      · exact hpanic ch _ hi hk
end
section
open Go.RowKit Go.Shelf Go.Proofs.YtljfljekcpdpiaaGreatW.PrintWords Go.Proofs.YtljfljekcpdpiaaGreatW.PrintLast Go.Proofs.YtljfljekcpdpiaaGreatW.PrintMore
attribute [local go_sem] Oper.semAt_some
def ringV (x : S92) : Value := .agg #[.int .i64 x.f0.f0, .int .i64 x.f0.f1, .int .i64 x.f1.f0, .int .i64 x.f1.f1, .int .i64 x.f2.f0, .int .i64 x.f2.f1, .int .i64 x.f3.f0, .int .i64 x.f3.f1, .int .i64 x.f4.f0, .int .i64 x.f4.f1]
def ringC (x : S92) : Obj := .cells #[.int .i64 x.f0.f0, .int .i64 x.f0.f1, .int .i64 x.f1.f0, .int .i64 x.f1.f1, .int .i64 x.f2.f0, .int .i64 x.f2.f1, .int .i64 x.f3.f0, .int .i64 x.f3.f1, .int .i64 x.f4.f0, .int .i64 x.f4.f1] 92
theorem demand_okI (F : Fence) (n : Nat) (hF : F.fn 65) (hro : F.round = none) (e : Int) (w : World) : CallsIn F n Tryz.prog 65 #[.bool true, .int .i64 e] w fun en w' => en = .returned (.tuple #[]) ∧ w' = w := by
  refine callsIn_of_wp Tryz.func65 rfl hF ?_ hro
  simp only [Tryz.ntmps65, List.size_toArray, List.length_cons, List.length_nil, Nat.reduceAdd, Nat.reduceSub, Array.replicate_succ, Array.replicate_zero, List.push_toArray, List.append_toArray, List.nil_append, List.cons_append]
  gi_wp2
  go_end0
  exact ⟨rfl, rfl⟩
theorem demand_noI (F : Fence) (n : Nat) (hF : F.fn 65) (hro : F.round = none) (e : Int) (w : World) : CallsIn F n Tryz.prog 65 #[.bool false, .int .i64 e] w fun en w' => en = .panicked (failC e) ∧ w' = w := by
  refine callsIn_of_wp Tryz.func65 rfl hF ?_ hro
  simp only [Tryz.ntmps65, List.size_toArray, List.length_cons, List.length_nil, Nat.reduceAdd, Nat.reduceSub, Array.replicate_succ, Array.replicate_zero, List.push_toArray, List.append_toArray, List.nil_append, List.cons_append]
  gi_wp2
  simp [bodyPost, failC, failV]
theorem withinI (F : Fence) (n : Nat) (hF : F.fn 66) (hro : F.round = none) (x lo hi : Int) (w : World) : CallsIn F n Tryz.prog 66 #[.int .i64 x, .int .i64 lo, .int .i64 hi] w fun e w' => e = .returned (.bool (inB x lo hi)) ∧ w' = w := by
  refine callsIn_of_wp Tryz.func66 rfl hF ?_ hro
  simp only [Tryz.ntmps66, List.size_toArray, List.length_cons, List.length_nil, Nat.reduceAdd, Nat.reduceSub, Array.replicate_succ, Array.replicate_zero, List.push_toArray, List.append_toArray, List.nil_append, List.cons_append]
  cases h : decide (x ≥ lo) with
  | true =>
    gi_wp2
    go_ret
    simp at h
    exact ⟨by (simp [inB, h]) <;> (intros; omega), rfl⟩
  | false =>
    gi_wp2
    go_ret
    simp at h
    exact ⟨by (simp [inB, h]) <;> (intros; omega), rfl⟩
theorem spanI (F : Fence) (n : Nat) (hF : F.fn 155) (hro : F.round = none) (a b lo hi : Int) (w : World) : CallsIn F n Tryz.prog 155 #[.agg #[.int .i64 a, .int .i64 b], .int .i64 lo, .int .i64 hi] w fun e w' => e = .returned (.bool (spanB a b lo hi)) ∧ w' = w.alloc (.cells #[.int .i64 a, .int .i64 b] 27) := by
  refine callsIn_of_wp Tryz.func155 rfl hF ?_ hro
  simp only [Tryz.ntmps155, List.size_toArray, List.length_cons, List.length_nil, Nat.reduceAdd, Nat.reduceSub, Array.replicate_succ, Array.replicate_zero, List.push_toArray, List.append_toArray, List.nil_append, List.cons_append]
  have hb := blk_new w (.cells #[.int .i64 a, .int .i64 b] 27)
  have hx0 : (w.alloc (.cells #[.int .i64 a, .int .i64 b] 27)).cell? ⟨w.heap.size, 0, none⟩ = some (.int .i64 a) := (blk_cell hb 0).trans rfl
  have hx1 : (w.alloc (.cells #[.int .i64 a, .int .i64 b] 27)).cell? ⟨w.heap.size, 0 + 1, none⟩ = some (.int .i64 b) := (blk_cell hb 1).trans rfl
  cases h : decide (a ≥ lo) with
  | true =>
    cases h2 : decide (a ≤ b) with
    | true =>
      gi_wp2
      go_ret
      simp at h h2
      exact ⟨by (simp [spanB, h, h2]) <;> (intros; omega), rfl⟩
    | false =>
      gi_wp2
      go_ret
      simp at h h2
      exact ⟨by (simp [spanB, h, h2]) <;> (intros; omega), rfl⟩
  | false =>
    gi_wp2
    go_ret
    simp at h
    exact ⟨by (simp [spanB, h]) <;> (intros; omega), rfl⟩
theorem rings_callsI (F : Fence) (n : Nat) (hF : F.fn 111) (hro : F.round = none) (v1 v2 v3 : Value) (w : World) :
    CallsIn F n Tryz.prog 111 #[.agg #[v1, v2, v3]] w fun e w' => e = .returned (.func (.func 187) #[] #[.pointer (some ⟨w.heap.size, 0, none⟩)]) ∧ w' = w.alloc (.cells #[v1, v2, v3] 73) := by
  have hmf := run_makeFunc_
  refine callsIn_of_wp Tryz.func111 rfl hF ?_ hro
  simp only [Tryz.ntmps111, List.size_toArray, List.length_cons, List.length_nil, Nat.reduceAdd, Nat.reduceSub, Array.replicate_succ, Array.replicate_zero, List.push_toArray, List.append_toArray, List.nil_append, List.cons_append]
  gi_wp2
  go_ret
  exact ⟨rfl, rfl⟩
theorem rings1_in (F : Fence) (n : Nat) (hF : F.fn 187) (hro : F.round = none) (hn : 1 ≤ n) (l Bs : Nat) (A : Option Addr) (cap : Nat) (v2 v3 : Value) (zs : List S92) (J : Nat → World → Prop) (Jp : List PanicEntry → World → Prop) (W : World)
    (hBs : W.heap[Bs]? = some (.cells #[.slice A zs.length cap, v2, v3] 73 (0, 0)))
    (hJa : ∀ k W o, J k W → J k (W.alloc o)) (hJC : ∀ k W, J k W → Kd.C k92 W A zs.length zs)
    (hY : ∀ k W1, k < zs.length → J k W1 → YieldAt F (n - 1) Tryz.prog l #[.int .i64 k, ringV (rd_T92 zs k)] W1 fun e W' => (e = .returned (.bool true) ∧ J (k + 1) W') ∨ (∃ ch, e = .panicked ch ∧ Jp ch W'))
    (h0 : J 0 W) :
    CallsIn F n Tryz.prog 187 #[.func (.yield l) #[] #[], .pointer (some ⟨Bs, 0, none⟩)] W fun e W' => (∃ v, e = .returned v ∧ J zs.length W') ∨ (∃ ch, e = .panicked ch ∧ Jp ch W') := by
  have hc0 : W.cell? ⟨Bs, 0, none⟩ = some (.slice A zs.length cap) := (blk_cell hBs 0).trans rfl
  refine callsIn_of_wp Tryz.func187 rfl hF ?_ hro
  simp only [Tryz.ntmps187, List.size_toArray, List.length_cons, List.length_nil, Nat.reduceAdd, Nat.reduceSub, Array.replicate_succ, Array.replicate_zero, List.push_toArray, List.append_toArray, List.nil_append, List.cons_append]
  gi_wp2
  gi_loopw [8] (fun i wr => ∃ k : Nat, k ≤ zs.length ∧ i = .int .i64 k ∧ J k wr) (fun i _ => zs.length - (intOf i).toNat)
  case atStart => exact ⟨0, Nat.zero_le _, rfl, h0⟩
  case round =>
    obtain ⟨k, hk, rfl, hJs⟩ := hrel
    by_cases hlt : k < zs.length
    · obtain ⟨ad, rfl, g0, g1, g2, g3, g4, g5, g6, g7, g8, g9⟩ := at_T92 (hJC k wr hJs) k (by omega) (by omega)
      have hmax := Kd.C_max (hJC k wr hJs)
      have hwr : wrap64 ((k : Int) + 1) = (k : Int) + 1 := by unfold wrap64; omega
      simp only [Int.toNat_natCast] at g0 g1 g2 g3 g4 g5 g6 g7 g8 g9
      obtain ⟨fn, tmps, assign, body, hy, hR⟩ := hY _ (wr.alloc (ringC (rd_T92 zs k))) hlt (hJa _ _ _ hJs)
      unfold ringC ringV at hy
      gi_wp2
      refine hR.mono ?_
      rintro e W3 (⟨rfl, hJ3⟩ | ⟨ch, rfl, hJp⟩)
      · gi_wp2
        go_roundw
        case rel => exact ⟨k + 1, by omega, by simp, hJ3⟩
        case measure => simp [intOf]; omega
      · gi_wp2
        exact ⟨rfl, .inr ⟨ch, rfl, hJp⟩⟩
    · obtain rfl : k = zs.length := by omega
      gi_wp2
      go_end0
      exact .inl ⟨_, rfl, hJs⟩
end
section
open Go.RowKit Go.Shelf Go.Proofs.YtljfljekcpdpiaaGreatW.PrintWords Go.Proofs.YtljfljekcpdpiaaGreatW.PrintLast Go.Proofs.YtljfljekcpdpiaaGreatW.PrintMore
attribute [local go_sem] Oper.semAt_some
def ringB (x : S92) : Bool := spanB x.f0.f0 x.f0.f1 1 1000 && (spanB x.f1.f0 x.f1.f1 1 5000 && (spanB x.f2.f0 x.f2.f1 0 1000 && (spanB x.f3.f0 x.f3.f1 0 10000 && spanB x.f4.f0 x.f4.f1 0 10000)))
def sumLo (zs : List S92) : Nat → Int
  | 0 => 0
  | k + 1 => sumLo zs k + (rd_T92 zs (k : Int)).f2.f0
def sumHi (zs : List S92) : Nat → Int
  | 0 => 0
  | k + 1 => sumHi zs k + (rd_T92 zs (k : Int)).f2.f1
def ringsOk (zs : List S92) : Nat → Bool
  | 0 => true
  | k + 1 => ringsOk zs k && ringB (rd_T92 zs (k : Int))
theorem ringB_f2 {x : S92} (h : ringB x = true) : 0 ≤ x.f2.f0 ∧ x.f2.f0 ≤ x.f2.f1 ∧ x.f2.f1 ≤ 1000 := by
  simp only [ringB, spanB, Bool.and_eq_true, decide_eq_true_eq] at h
  omega
theorem sum_bounds (zs : List S92) : ∀ k, ringsOk zs k = true → 0 ≤ sumLo zs k ∧ sumLo zs k ≤ 1000 * k ∧ 0 ≤ sumHi zs k ∧ sumHi zs k ≤ 1000 * k
  | 0, _ => by simp [sumLo, sumHi]
  | k + 1, h => by
    simp only [ringsOk, Bool.and_eq_true] at h
    have ih := sum_bounds zs k h.1
    have hb := ringB_f2 h.2
    simp only [sumLo, sumHi]
    omega
theorem ringsOk_mono (zs : List S92) : ∀ k j, ringsOk zs k = false → k ≤ j → ringsOk zs j = false
  | k, 0, h, hj => by obtain rfl : k = 0 := by omega
                      exact h
  | k, j + 1, h, hj => by
    by_cases e : k = j + 1
    · subst e; exact h
    · simp [ringsOk, ringsOk_mono zs k j h (by omega)]
def bottleV (zs : List S92) (f1 f2 : Int) : Int := if zs.length > 24 then 3 else if zs.length = 0 then 1 else if ringsOk zs zs.length = true then (if sumLo zs zs.length ≤ 1000 ∧ sumHi zs zs.length ≥ 1000 then (if inB f1 1 1000 = true ∧ inB f2 0 1000000000000000 = true then 0 else 1) else 12) else 1
theorem blk_four' (w : World) (o1 o2 o3 o4 : Obj) : ((((w.alloc o1).alloc o2).alloc o3).alloc o4).heap[w.heap.size]? = some o1 ∧ ((((w.alloc o1).alloc o2).alloc o3).alloc o4).heap[w.heap.size + 1]? = some o2 ∧ ((((w.alloc o1).alloc o2).alloc o3).alloc o4).heap[w.heap.size + 1 + 1]? = some o3 ∧ ((((w.alloc o1).alloc o2).alloc o3).alloc o4).heap[w.heap.size + 1 + 1 + 1]? = some o4 ∧ Below w.heap.size w ((((w.alloc o1).alloc o2).alloc o3).alloc o4) ∧ ((((w.alloc o1).alloc o2).alloc o3).alloc o4).heap.size = w.heap.size + 1 + 1 + 1 + 1 :=
  ⟨blk_alloc (blk_three w o1 o2 o3).1 o4, blk_alloc (blk_three w o1 o2 o3).2.1 o4, blk_alloc (blk_three w o1 o2 o3).2.2.1 o4, by simpa using blk_new (((w.alloc o1).alloc o2).alloc o3) o4, below_alloc (blk_three w o1 o2 o3).2.2.2.1 o4, by simp⟩
def Fc : Fence := { fn := fun g => g = 120 ∨ g = 65 ∨ g = 155 ∨ g = 111 ∨ g = 187 ∨ g = 66 }
theorem putObj_heap_keep {W : World} {r k : Nat} {o x : Obj} (hne : k ≠ r) (h : W.heap[k]? = some x) : (W.putObj r o).heap[k]? = some x := (World.putObj_heap_other hne).trans h
theorem below_putObj {w W : World} {r : Nat} {o : Obj} (h : Below w.heap.size w W) (hr : w.heap.size ≤ r) (hlt : r < W.heap.size) : Below w.heap.size w (W.putObj r o) :=
  h.grown (grownBy_putObj' W r o) (by have := h.size; omega) (fun k e => by cases e; exact hr)
structure CkI (A : Option Addr) (c : Nat) (zs : List S92) (f1 f2 : Int) (w : World) (k : Nat) (W : World) : Prop where
  ok : ringsOk zs k = true
  bx : W.heap[w.heap.size]? = some (.cells #[.slice A zs.length c, .int .i64 f1, .int .i64 f2] 73 (0, 0))
  lo : W.heap[w.heap.size + 1]? = some (.cells #[.int .i64 (sumLo zs k)] 3 (0, 0))
  hi : W.heap[w.heap.size + 1 + 1]? = some (.cells #[.int .i64 (sumHi zs k)] 3 (0, 0))
  rb : W.heap[w.heap.size + 1 + 1 + 1]? = some (.cells #[.slice A zs.length c, .int .i64 f1, .int .i64 f2] 73 (0, 0))
  be : Below w.heap.size w W
theorem CkI.alloc {A : Option Addr} {c : Nat} {zs : List S92} {f1 f2 : Int} {w : World} {k : Nat} {W : World} (h : CkI A c zs f1 f2 w k W) (o : Obj) : CkI A c zs f1 f2 w k (W.alloc o) :=
  ⟨h.ok, blk_alloc h.bx o, blk_alloc h.lo o, blk_alloc h.hi o, blk_alloc h.rb o, below_alloc h.be o⟩
theorem CkI.put {A : Option Addr} {c : Nat} {zs : List S92} {f1 f2 : Int} {w : World} {k : Nat} {W : World} (h : CkI A c zs f1 f2 w k W) {r : Nat} (o : Obj) (hr : w.heap.size + 4 ≤ r) (hlt : r < W.heap.size) : CkI A c zs f1 f2 w k (W.putObj r o) :=
  ⟨h.ok, putObj_heap_keep (by omega) h.bx, putObj_heap_keep (by omega) h.lo, putObj_heap_keep (by omega) h.hi, putObj_heap_keep (by omega) h.rb, below_putObj h.be (by omega) hlt⟩
def CkP (zs : List S92) (w : World) (ch : List PanicEntry) (W : World) : Prop := ch = failC 1 ∧ ringsOk zs zs.length = false ∧ Below w.heap.size w W
theorem bottle_callsI (F : Fence) (n : Nat) (h140 : F.fn 120) (h91 : F.fn 65) (h141 : F.fn 155) (h142 : F.fn 111) (h159 : F.fn 187) (h92 : F.fn 66) (hro : F.round = none) (hfn : ∀ g, F.fn g → ∃ c, Tryz.prog.funcs[g]? = some c) (hn : 9 ≤ n) (A : Option Addr) (c : Nat) (zs : List S92) (f1 f2 : Int) (w : World) (hr : Kd.C k92 w A zs.length zs) :
    CallsIn F n Tryz.prog 120 #[.agg #[.slice A zs.length c, .int .i64 f1, .int .i64 f2]] w fun en w' => en = endF (bottleV zs f1 f2) ∧ Below w.heap.size w w' := by
  have hb0 := below_alloc (Below.refl w.heap.size w) (.cells #[.slice A zs.length c, .int .i64 f1, .int .i64 f2] 73)
  have BX := Sd.mk (blk_new w (.cells #[.slice A zs.length c, .int .i64 f1, .int .i64 f2] 73))
  have hx0 : (w.alloc (.cells #[.slice A zs.length c, .int .i64 f1, .int .i64 f2] 73)).cell? ⟨w.heap.size, 0, none⟩ = some (.slice A zs.length c) := (blk_cell BX.out 0).trans rfl
  have HB0 := Sd.mk hb0
  have HR := Sd.mk hr
  clear hr hb0
  have hn1 : 1 ≤ n := by omega
  refine callsIn_of_wp_marks Tryz.func120 rfl h140 ?_ hro
  simp only [Tryz.ntmps120, List.size_toArray, List.length_cons, List.length_nil, Nat.reduceAdd, Nat.reduceSub, Array.replicate_succ, Array.replicate_zero, List.push_toArray, List.append_toArray, List.nil_append, List.cons_append]
  by_cases h24 : zs.length > 24
  · have hd : decide ((zs.length : Int) ≤ 24) = false := decide_eq_false (by omega)
    gi_wp2_with (first | (gi_at_call 65; (with_reducible refine (demand_noI F _ h91 hro _ _).mono ?_); rintro e w' ⟨rfl, rfl⟩) | (gi_at_call 65; (with_reducible refine (demand_okI F _ h91 hro _ _).mono ?_); rintro e w' ⟨rfl, rfl⟩))
    exact ⟨by rw [bottleV, if_pos h24]; rfl, HB0.out⟩
  · by_cases h0 : zs.length = 0
    · have hd : decide ((zs.length : Int) ≤ 24) = true := decide_eq_true (by omega)
      have hd2 : decide ((zs.length : Int) > 0) = false := decide_eq_false (by omega)
      have hd3 : decide (0 < zs.length) = false := decide_eq_false (by omega)
      have HV : Sd (bottleV zs f1 f2 = 1) := ⟨by rw [bottleV, if_neg h24, if_pos h0]⟩
      clear h0
      gi_wp2_with (first | (gi_at_call 65; (with_reducible refine (demand_noI F _ h91 hro _ _).mono ?_); rintro e w' ⟨rfl, rfl⟩) | (gi_at_call 65; (with_reducible refine (demand_okI F _ h91 hro _ _).mono ?_); rintro e w' ⟨rfl, rfl⟩))
      exact ⟨by rw [HV.out]; rfl, HB0.out⟩
    · have hd : decide ((zs.length : Int) ≤ 24) = true := decide_eq_true (by omega)
      have hd2 : decide ((zs.length : Int) > 0) = true := decide_eq_true (by omega)
      have hd3 : decide (0 < zs.length) = true := decide_eq_true (by omega)
      have HV : Sd (bottleV zs f1 f2 = if ringsOk zs zs.length = true then (if sumLo zs zs.length ≤ 1000 ∧ sumHi zs zs.length ≥ 1000 then (if inB f1 1 1000 = true ∧ inB f2 0 1000000000000000 = true then 0 else 1) else 12) else 1) := ⟨by rw [bottleV, if_neg h24, if_neg h0]⟩
      have HN : Sd (zs.length ≤ 24) := ⟨by omega⟩
      clear h24 h0
      have hx1 : (w.alloc (.cells #[.slice A zs.length c, .int .i64 f1, .int .i64 f2] 73)).cell? ⟨w.heap.size, 0 + 1, none⟩ = some (.int .i64 f1) := (blk_cell BX.out 1).trans rfl
      have hx2 : (w.alloc (.cells #[.slice A zs.length c, .int .i64 f1, .int .i64 f2] 73)).cell? ⟨w.heap.size, 0 + 2, none⟩ = some (.int .i64 f2) := (blk_cell BX.out 2).trans rfl
      gi_wp2_with (first | (gi_at_call 65; (with_reducible refine (demand_noI F _ h91 hro _ _).mono ?_); rintro e w' ⟨rfl, rfl⟩) | (gi_at_call 65; (with_reducible refine (demand_okI F _ h91 hro _ _).mono ?_); rintro e w' ⟨rfl, rfl⟩) | (gi_at_call 111; (with_reducible refine (rings_callsI F _ h142 hro _ _ _ _).mono ?_); rintro e w' ⟨rfl, rfl⟩))
      clear hd hd2 hd3 hx0 hx1 hx2 BX HB0
      obtain ⟨b1, b2, b3, b4, hb, hsz⟩ := blk_four' w (.cells #[.slice A zs.length c, .int .i64 f1, .int .i64 f2] 73) (.cells #[.int .i64 0] 3) (.cells #[.int .i64 0] 3) (.cells #[.slice A zs.length c, .int .i64 f1, .int .i64 f2] 73)
      generalize (((w.alloc (.cells #[.slice A zs.length c, .int .i64 f1, .int .i64 f2] 73)).alloc (.cells #[.int .i64 0] 3)).alloc (.cells #[.int .i64 0] 3)).alloc (.cells #[.slice A zs.length c, .int .i64 f1, .int .i64 f2] 73) = W0 at b1 b2 b3 b4 hb hsz ⊢
      refine wpIn_rangeFuncP (N := zs.length) (encs := fun k => #[.int .i64 (k : Int), ringV (rd_T92 zs k)]) hro (by omega) (gf := 187) (lb := #[.pointer (some ⟨w.heap.size + 1 + 1 + 1, 0, none⟩)]) rfl h159 (enters_of Tryz.func187 (by kernel_rfl) rfl) (fun _ => rfl)
        (CkI A c zs f1 f2 w) (CkP zs w) (fun k W o h => h.alloc o) (fun k W o r hl h => h.put o (by omega) (Array.getElem?_eq_some_iff.1 hl).1) ⟨rfl, b1, b2, b3, b4, hb⟩ ?seq ?round ?fn ?done ?panic
      case seq =>
        intro l J Jp W hJa hJI hY h0
        exact rings1_in F (n - 1) h159 hro (by omega) l (w.heap.size + 1 + 1 + 1) A c _ _ zs J Jp W (hJI _ _ h0).rb hJa (fun k W' h => Kd.C_below HR.out (hJI _ _ h).be) hY h0
      case round =>
        clear b1 b2 b3 b4 hb
        intro l k W hW _ hk hI st hst
        generalize hx : rd_T92 zs (k : Int) = x
        have HI := Sd.mk hI
        have HW := Sd.mk hW
        have HK := Sd.mk hk
        have HX := Sd.mk hx
        have HS := Sd.mk hsz
        clear hI hW hk hx hsz
        unfold ringV
        simp only [List.zip_cons_cons, List.zip_nil_right, List.foldl_cons, List.foldl_nil]
        gi_wp2
        refine hst _ _ (by simp) (fun j h1 h2 => Below.heap_alloc W _ j (by have := HW.out; omega)) ?_
        clear hst
        intro o
        have hn2 : 1 ≤ n - 1 - 1 := by omega
        have CK : Sd (CkI A c zs f1 f2 w k ((W.alloc (.cells #[.int .i64 x.f0.f0, .int .i64 x.f0.f1, .int .i64 x.f1.f0, .int .i64 x.f1.f1, .int .i64 x.f2.f0, .int .i64 x.f2.f1, .int .i64 x.f3.f0, .int .i64 x.f3.f1, .int .i64 x.f4.f0, .int .i64 x.f4.f1] 92)).putObj (W0.heap.size + 1) o)) := ⟨(HI.out.alloc _).put o (by have := HS.out; omega) (by have := HW.out; simp; omega)⟩
        have RB : Sd (((W.alloc (.cells #[.int .i64 x.f0.f0, .int .i64 x.f0.f1, .int .i64 x.f1.f0, .int .i64 x.f1.f1, .int .i64 x.f2.f0, .int .i64 x.f2.f1, .int .i64 x.f3.f0, .int .i64 x.f3.f1, .int .i64 x.f4.f0, .int .i64 x.f4.f1] 92)).putObj (W0.heap.size + 1) o).heap[W.heap.size]? = some (.cells #[.int .i64 x.f0.f0, .int .i64 x.f0.f1, .int .i64 x.f1.f0, .int .i64 x.f1.f1, .int .i64 x.f2.f0, .int .i64 x.f2.f1, .int .i64 x.f3.f0, .int .i64 x.f3.f1, .int .i64 x.f4.f0, .int .i64 x.f4.f1] 92 (0, 0))) := ⟨putObj_heap_keep (by have := HW.out; omega) (blk_new _ _)⟩
        have WS : Sd (((W.alloc (.cells #[.int .i64 x.f0.f0, .int .i64 x.f0.f1, .int .i64 x.f1.f0, .int .i64 x.f1.f1, .int .i64 x.f2.f0, .int .i64 x.f2.f1, .int .i64 x.f3.f0, .int .i64 x.f3.f1, .int .i64 x.f4.f0, .int .i64 x.f4.f1] 92)).putObj (W0.heap.size + 1) o).heap.size = W.heap.size + 1) := ⟨by simp⟩
        generalize (W.alloc (.cells #[.int .i64 x.f0.f0, .int .i64 x.f0.f1, .int .i64 x.f1.f0, .int .i64 x.f1.f1, .int .i64 x.f2.f0, .int .i64 x.f2.f1, .int .i64 x.f3.f0, .int .i64 x.f3.f1, .int .i64 x.f4.f0, .int .i64 x.f4.f1] 92)).putObj (W0.heap.size + 1) o = Wb at CK RB WS ⊢
        have BW := Sd.mk (Below.refl Wb.heap.size Wb)
        have g0 : Wb.cell? ⟨W.heap.size, 0, none⟩ = some (.int .i64 x.f0.f0) := (blk_cell RB.out 0).trans rfl
        have g1 : Wb.cell? ⟨W.heap.size, 0 + 1, none⟩ = some (.int .i64 x.f0.f1) := (blk_cell RB.out 1).trans rfl
        have g2 : Wb.cell? ⟨W.heap.size, 0 + 2, none⟩ = some (.int .i64 x.f1.f0) := (blk_cell RB.out 2).trans rfl
        have g3 : Wb.cell? ⟨W.heap.size, 0 + 3, none⟩ = some (.int .i64 x.f1.f1) := (blk_cell RB.out 3).trans rfl
        have g4 : Wb.cell? ⟨W.heap.size, 0 + 4, none⟩ = some (.int .i64 x.f2.f0) := (blk_cell RB.out 4).trans rfl
        have g5 : Wb.cell? ⟨W.heap.size, 0 + 5, none⟩ = some (.int .i64 x.f2.f1) := (blk_cell RB.out 5).trans rfl
        have g6 : Wb.cell? ⟨W.heap.size, 0 + 6, none⟩ = some (.int .i64 x.f3.f0) := (blk_cell RB.out 6).trans rfl
        have g7 : Wb.cell? ⟨W.heap.size, 0 + 7, none⟩ = some (.int .i64 x.f3.f1) := (blk_cell RB.out 7).trans rfl
        have g8 : Wb.cell? ⟨W.heap.size, 0 + 8, none⟩ = some (.int .i64 x.f4.f0) := (blk_cell RB.out 8).trans rfl
        have g9 : Wb.cell? ⟨W.heap.size, 0 + 9, none⟩ = some (.int .i64 x.f4.f1) := (blk_cell RB.out 9).trans rfl
        cases s0 : spanB x.f0.f0 x.f0.f1 1 1000 with
        | false =>
          have HF : Sd (ringB x = false) := ⟨by simp only [ringB, s0, Bool.and_false, Bool.false_and, Bool.and_true, Bool.true_and]⟩
          gi_wp2_with (first | (gi_at_call 155; go_loud (refine (CallsIn.inRound l (spanI F _ h141 hro _ _ _ _ _)).mono ?_; (first | rw [s0] | rw [s1] | rw [s2] | rw [s3] | rw [s4]); rintro e wq ⟨rfl, hwq⟩; replace RB := Sd.mk (show wq.heap[W.heap.size]? = _ from by subst hwq; exact blk_alloc RB.out _); replace BW := Sd.mk (show Below Wb.heap.size Wb wq from by subst hwq; exact below_alloc BW.out _); clear hwq; have g0 : wq.cell? ⟨W.heap.size, 0, none⟩ = some (.int .i64 x.f0.f0) := (blk_cell RB.out 0).trans rfl; have g1 : wq.cell? ⟨W.heap.size, 0 + 1, none⟩ = some (.int .i64 x.f0.f1) := (blk_cell RB.out 1).trans rfl; have g2 : wq.cell? ⟨W.heap.size, 0 + 2, none⟩ = some (.int .i64 x.f1.f0) := (blk_cell RB.out 2).trans rfl; have g3 : wq.cell? ⟨W.heap.size, 0 + 3, none⟩ = some (.int .i64 x.f1.f1) := (blk_cell RB.out 3).trans rfl; have g4 : wq.cell? ⟨W.heap.size, 0 + 4, none⟩ = some (.int .i64 x.f2.f0) := (blk_cell RB.out 4).trans rfl; have g5 : wq.cell? ⟨W.heap.size, 0 + 5, none⟩ = some (.int .i64 x.f2.f1) := (blk_cell RB.out 5).trans rfl; have g6 : wq.cell? ⟨W.heap.size, 0 + 6, none⟩ = some (.int .i64 x.f3.f0) := (blk_cell RB.out 6).trans rfl; have g7 : wq.cell? ⟨W.heap.size, 0 + 7, none⟩ = some (.int .i64 x.f3.f1) := (blk_cell RB.out 7).trans rfl; have g8 : wq.cell? ⟨W.heap.size, 0 + 8, none⟩ = some (.int .i64 x.f4.f0) := (blk_cell RB.out 8).trans rfl; have g9 : wq.cell? ⟨W.heap.size, 0 + 9, none⟩ = some (.int .i64 x.f4.f1) := (blk_cell RB.out 9).trans rfl; have gl : wq.cell? ⟨w.heap.size + 1, 0, none⟩ = some (.int .i64 (sumLo zs k)) := (blk_cell (blk_below CK.out.lo BW.out) 0).trans rfl; have gl' := blk_frozen (blk_below CK.out.lo BW.out) 0; have gh : (wq.setCell ⟨w.heap.size + 1, 0, none⟩ (.int .i64 (wrap64 (sumLo zs k + x.f2.f0)))).cell? ⟨w.heap.size + 1 + 1, 0, none⟩ = some (.int .i64 (sumHi zs k)) := (blk_cell (blk_far (blk_below CK.out.hi BW.out) (p := ⟨w.heap.size + 1, 0, none⟩) (by simp) _) 0).trans rfl; have gh' : (wq.setCell ⟨w.heap.size + 1, 0, none⟩ (.int .i64 (wrap64 (sumLo zs k + x.f2.f0)))).frozen? ⟨w.heap.size + 1 + 1, 0, none⟩ = false := blk_frozen (blk_far (blk_below CK.out.hi BW.out) (p := ⟨w.heap.size + 1, 0, none⟩) (by simp) _) 0; have gr : (wq.setCell ⟨w.heap.size + 1, 0, none⟩ (.int .i64 (wrap64 (sumLo zs k + x.f2.f0)))).cell? ⟨W.heap.size, 5, none⟩ = some (.int .i64 x.f2.f1) := (blk_cell (blk_far RB.out (p := ⟨w.heap.size + 1, 0, none⟩) (by have := HW.out; have := HS.out; simp; omega) _) 5).trans rfl)) | (gi_at_call 65; (with_reducible refine (CallsIn.inRound l (demand_noI F _ h91 hro _ _)).mono ?_); rintro e w' ⟨rfl, rfl⟩) | (gi_at_call 65; (with_reducible refine (CallsIn.inRound l (demand_okI F _ h91 hro _ _)).mono ?_); rintro e w' ⟨rfl, rfl⟩))
          exact ⟨rfl, BW.out.size, fun j h1 h2 => BW.out.block j (by have := HW.out; have := WS.out; omega), rfl, ringsOk_mono zs (k + 1) _ (by simp [ringsOk, HX.out, HF.out]) HK.out, below_then CK.out.be CK.out.be.size BW.out⟩
        | true =>
          cases s1 : spanB x.f1.f0 x.f1.f1 1 5000 with
          | false =>
            have HF : Sd (ringB x = false) := ⟨by simp only [ringB, s0, s1, Bool.and_false, Bool.false_and, Bool.and_true, Bool.true_and]⟩
            gi_wp2_with (first | (gi_at_call 155; go_loud (refine (CallsIn.inRound l (spanI F _ h141 hro _ _ _ _ _)).mono ?_; (first | rw [s0] | rw [s1] | rw [s2] | rw [s3] | rw [s4]); rintro e wq ⟨rfl, hwq⟩; replace RB := Sd.mk (show wq.heap[W.heap.size]? = _ from by subst hwq; exact blk_alloc RB.out _); replace BW := Sd.mk (show Below Wb.heap.size Wb wq from by subst hwq; exact below_alloc BW.out _); clear hwq; have g0 : wq.cell? ⟨W.heap.size, 0, none⟩ = some (.int .i64 x.f0.f0) := (blk_cell RB.out 0).trans rfl; have g1 : wq.cell? ⟨W.heap.size, 0 + 1, none⟩ = some (.int .i64 x.f0.f1) := (blk_cell RB.out 1).trans rfl; have g2 : wq.cell? ⟨W.heap.size, 0 + 2, none⟩ = some (.int .i64 x.f1.f0) := (blk_cell RB.out 2).trans rfl; have g3 : wq.cell? ⟨W.heap.size, 0 + 3, none⟩ = some (.int .i64 x.f1.f1) := (blk_cell RB.out 3).trans rfl; have g4 : wq.cell? ⟨W.heap.size, 0 + 4, none⟩ = some (.int .i64 x.f2.f0) := (blk_cell RB.out 4).trans rfl; have g5 : wq.cell? ⟨W.heap.size, 0 + 5, none⟩ = some (.int .i64 x.f2.f1) := (blk_cell RB.out 5).trans rfl; have g6 : wq.cell? ⟨W.heap.size, 0 + 6, none⟩ = some (.int .i64 x.f3.f0) := (blk_cell RB.out 6).trans rfl; have g7 : wq.cell? ⟨W.heap.size, 0 + 7, none⟩ = some (.int .i64 x.f3.f1) := (blk_cell RB.out 7).trans rfl; have g8 : wq.cell? ⟨W.heap.size, 0 + 8, none⟩ = some (.int .i64 x.f4.f0) := (blk_cell RB.out 8).trans rfl; have g9 : wq.cell? ⟨W.heap.size, 0 + 9, none⟩ = some (.int .i64 x.f4.f1) := (blk_cell RB.out 9).trans rfl; have gl : wq.cell? ⟨w.heap.size + 1, 0, none⟩ = some (.int .i64 (sumLo zs k)) := (blk_cell (blk_below CK.out.lo BW.out) 0).trans rfl; have gl' := blk_frozen (blk_below CK.out.lo BW.out) 0; have gh : (wq.setCell ⟨w.heap.size + 1, 0, none⟩ (.int .i64 (wrap64 (sumLo zs k + x.f2.f0)))).cell? ⟨w.heap.size + 1 + 1, 0, none⟩ = some (.int .i64 (sumHi zs k)) := (blk_cell (blk_far (blk_below CK.out.hi BW.out) (p := ⟨w.heap.size + 1, 0, none⟩) (by simp) _) 0).trans rfl; have gh' : (wq.setCell ⟨w.heap.size + 1, 0, none⟩ (.int .i64 (wrap64 (sumLo zs k + x.f2.f0)))).frozen? ⟨w.heap.size + 1 + 1, 0, none⟩ = false := blk_frozen (blk_far (blk_below CK.out.hi BW.out) (p := ⟨w.heap.size + 1, 0, none⟩) (by simp) _) 0; have gr : (wq.setCell ⟨w.heap.size + 1, 0, none⟩ (.int .i64 (wrap64 (sumLo zs k + x.f2.f0)))).cell? ⟨W.heap.size, 5, none⟩ = some (.int .i64 x.f2.f1) := (blk_cell (blk_far RB.out (p := ⟨w.heap.size + 1, 0, none⟩) (by have := HW.out; have := HS.out; simp; omega) _) 5).trans rfl)) | (gi_at_call 65; (with_reducible refine (CallsIn.inRound l (demand_noI F _ h91 hro _ _)).mono ?_); rintro e w' ⟨rfl, rfl⟩) | (gi_at_call 65; (with_reducible refine (CallsIn.inRound l (demand_okI F _ h91 hro _ _)).mono ?_); rintro e w' ⟨rfl, rfl⟩))
            exact ⟨rfl, BW.out.size, fun j h1 h2 => BW.out.block j (by have := HW.out; have := WS.out; omega), rfl, ringsOk_mono zs (k + 1) _ (by simp [ringsOk, HX.out, HF.out]) HK.out, below_then CK.out.be CK.out.be.size BW.out⟩
          | true =>
            cases s2 : spanB x.f2.f0 x.f2.f1 0 1000 with
            | false =>
              have HF : Sd (ringB x = false) := ⟨by simp only [ringB, s0, s1, s2, Bool.and_false, Bool.false_and, Bool.and_true, Bool.true_and]⟩
              gi_wp2_with (first | (gi_at_call 155; go_loud (refine (CallsIn.inRound l (spanI F _ h141 hro _ _ _ _ _)).mono ?_; (first | rw [s0] | rw [s1] | rw [s2] | rw [s3] | rw [s4]); rintro e wq ⟨rfl, hwq⟩; replace RB := Sd.mk (show wq.heap[W.heap.size]? = _ from by subst hwq; exact blk_alloc RB.out _); replace BW := Sd.mk (show Below Wb.heap.size Wb wq from by subst hwq; exact below_alloc BW.out _); clear hwq; have g0 : wq.cell? ⟨W.heap.size, 0, none⟩ = some (.int .i64 x.f0.f0) := (blk_cell RB.out 0).trans rfl; have g1 : wq.cell? ⟨W.heap.size, 0 + 1, none⟩ = some (.int .i64 x.f0.f1) := (blk_cell RB.out 1).trans rfl; have g2 : wq.cell? ⟨W.heap.size, 0 + 2, none⟩ = some (.int .i64 x.f1.f0) := (blk_cell RB.out 2).trans rfl; have g3 : wq.cell? ⟨W.heap.size, 0 + 3, none⟩ = some (.int .i64 x.f1.f1) := (blk_cell RB.out 3).trans rfl; have g4 : wq.cell? ⟨W.heap.size, 0 + 4, none⟩ = some (.int .i64 x.f2.f0) := (blk_cell RB.out 4).trans rfl; have g5 : wq.cell? ⟨W.heap.size, 0 + 5, none⟩ = some (.int .i64 x.f2.f1) := (blk_cell RB.out 5).trans rfl; have g6 : wq.cell? ⟨W.heap.size, 0 + 6, none⟩ = some (.int .i64 x.f3.f0) := (blk_cell RB.out 6).trans rfl; have g7 : wq.cell? ⟨W.heap.size, 0 + 7, none⟩ = some (.int .i64 x.f3.f1) := (blk_cell RB.out 7).trans rfl; have g8 : wq.cell? ⟨W.heap.size, 0 + 8, none⟩ = some (.int .i64 x.f4.f0) := (blk_cell RB.out 8).trans rfl; have g9 : wq.cell? ⟨W.heap.size, 0 + 9, none⟩ = some (.int .i64 x.f4.f1) := (blk_cell RB.out 9).trans rfl; have gl : wq.cell? ⟨w.heap.size + 1, 0, none⟩ = some (.int .i64 (sumLo zs k)) := (blk_cell (blk_below CK.out.lo BW.out) 0).trans rfl; have gl' := blk_frozen (blk_below CK.out.lo BW.out) 0; have gh : (wq.setCell ⟨w.heap.size + 1, 0, none⟩ (.int .i64 (wrap64 (sumLo zs k + x.f2.f0)))).cell? ⟨w.heap.size + 1 + 1, 0, none⟩ = some (.int .i64 (sumHi zs k)) := (blk_cell (blk_far (blk_below CK.out.hi BW.out) (p := ⟨w.heap.size + 1, 0, none⟩) (by simp) _) 0).trans rfl; have gh' : (wq.setCell ⟨w.heap.size + 1, 0, none⟩ (.int .i64 (wrap64 (sumLo zs k + x.f2.f0)))).frozen? ⟨w.heap.size + 1 + 1, 0, none⟩ = false := blk_frozen (blk_far (blk_below CK.out.hi BW.out) (p := ⟨w.heap.size + 1, 0, none⟩) (by simp) _) 0; have gr : (wq.setCell ⟨w.heap.size + 1, 0, none⟩ (.int .i64 (wrap64 (sumLo zs k + x.f2.f0)))).cell? ⟨W.heap.size, 5, none⟩ = some (.int .i64 x.f2.f1) := (blk_cell (blk_far RB.out (p := ⟨w.heap.size + 1, 0, none⟩) (by have := HW.out; have := HS.out; simp; omega) _) 5).trans rfl)) | (gi_at_call 65; (with_reducible refine (CallsIn.inRound l (demand_noI F _ h91 hro _ _)).mono ?_); rintro e w' ⟨rfl, rfl⟩) | (gi_at_call 65; (with_reducible refine (CallsIn.inRound l (demand_okI F _ h91 hro _ _)).mono ?_); rintro e w' ⟨rfl, rfl⟩))
              exact ⟨rfl, BW.out.size, fun j h1 h2 => BW.out.block j (by have := HW.out; have := WS.out; omega), rfl, ringsOk_mono zs (k + 1) _ (by simp [ringsOk, HX.out, HF.out]) HK.out, below_then CK.out.be CK.out.be.size BW.out⟩
            | true =>
              cases s3 : spanB x.f3.f0 x.f3.f1 0 10000 with
              | false =>
                have HF : Sd (ringB x = false) := ⟨by simp only [ringB, s0, s1, s2, s3, Bool.and_false, Bool.false_and, Bool.and_true, Bool.true_and]⟩
                gi_wp2_with (first | (gi_at_call 155; go_loud (refine (CallsIn.inRound l (spanI F _ h141 hro _ _ _ _ _)).mono ?_; (first | rw [s0] | rw [s1] | rw [s2] | rw [s3] | rw [s4]); rintro e wq ⟨rfl, hwq⟩; replace RB := Sd.mk (show wq.heap[W.heap.size]? = _ from by subst hwq; exact blk_alloc RB.out _); replace BW := Sd.mk (show Below Wb.heap.size Wb wq from by subst hwq; exact below_alloc BW.out _); clear hwq; have g0 : wq.cell? ⟨W.heap.size, 0, none⟩ = some (.int .i64 x.f0.f0) := (blk_cell RB.out 0).trans rfl; have g1 : wq.cell? ⟨W.heap.size, 0 + 1, none⟩ = some (.int .i64 x.f0.f1) := (blk_cell RB.out 1).trans rfl; have g2 : wq.cell? ⟨W.heap.size, 0 + 2, none⟩ = some (.int .i64 x.f1.f0) := (blk_cell RB.out 2).trans rfl; have g3 : wq.cell? ⟨W.heap.size, 0 + 3, none⟩ = some (.int .i64 x.f1.f1) := (blk_cell RB.out 3).trans rfl; have g4 : wq.cell? ⟨W.heap.size, 0 + 4, none⟩ = some (.int .i64 x.f2.f0) := (blk_cell RB.out 4).trans rfl; have g5 : wq.cell? ⟨W.heap.size, 0 + 5, none⟩ = some (.int .i64 x.f2.f1) := (blk_cell RB.out 5).trans rfl; have g6 : wq.cell? ⟨W.heap.size, 0 + 6, none⟩ = some (.int .i64 x.f3.f0) := (blk_cell RB.out 6).trans rfl; have g7 : wq.cell? ⟨W.heap.size, 0 + 7, none⟩ = some (.int .i64 x.f3.f1) := (blk_cell RB.out 7).trans rfl; have g8 : wq.cell? ⟨W.heap.size, 0 + 8, none⟩ = some (.int .i64 x.f4.f0) := (blk_cell RB.out 8).trans rfl; have g9 : wq.cell? ⟨W.heap.size, 0 + 9, none⟩ = some (.int .i64 x.f4.f1) := (blk_cell RB.out 9).trans rfl; have gl : wq.cell? ⟨w.heap.size + 1, 0, none⟩ = some (.int .i64 (sumLo zs k)) := (blk_cell (blk_below CK.out.lo BW.out) 0).trans rfl; have gl' := blk_frozen (blk_below CK.out.lo BW.out) 0; have gh : (wq.setCell ⟨w.heap.size + 1, 0, none⟩ (.int .i64 (wrap64 (sumLo zs k + x.f2.f0)))).cell? ⟨w.heap.size + 1 + 1, 0, none⟩ = some (.int .i64 (sumHi zs k)) := (blk_cell (blk_far (blk_below CK.out.hi BW.out) (p := ⟨w.heap.size + 1, 0, none⟩) (by simp) _) 0).trans rfl; have gh' : (wq.setCell ⟨w.heap.size + 1, 0, none⟩ (.int .i64 (wrap64 (sumLo zs k + x.f2.f0)))).frozen? ⟨w.heap.size + 1 + 1, 0, none⟩ = false := blk_frozen (blk_far (blk_below CK.out.hi BW.out) (p := ⟨w.heap.size + 1, 0, none⟩) (by simp) _) 0; have gr : (wq.setCell ⟨w.heap.size + 1, 0, none⟩ (.int .i64 (wrap64 (sumLo zs k + x.f2.f0)))).cell? ⟨W.heap.size, 5, none⟩ = some (.int .i64 x.f2.f1) := (blk_cell (blk_far RB.out (p := ⟨w.heap.size + 1, 0, none⟩) (by have := HW.out; have := HS.out; simp; omega) _) 5).trans rfl)) | (gi_at_call 65; (with_reducible refine (CallsIn.inRound l (demand_noI F _ h91 hro _ _)).mono ?_); rintro e w' ⟨rfl, rfl⟩) | (gi_at_call 65; (with_reducible refine (CallsIn.inRound l (demand_okI F _ h91 hro _ _)).mono ?_); rintro e w' ⟨rfl, rfl⟩))
                exact ⟨rfl, BW.out.size, fun j h1 h2 => BW.out.block j (by have := HW.out; have := WS.out; omega), rfl, ringsOk_mono zs (k + 1) _ (by simp [ringsOk, HX.out, HF.out]) HK.out, below_then CK.out.be CK.out.be.size BW.out⟩
              | true =>
                cases s4 : spanB x.f4.f0 x.f4.f1 0 10000 with
                | false =>
                  have HF : Sd (ringB x = false) := ⟨by simp only [ringB, s0, s1, s2, s3, s4, Bool.and_false, Bool.false_and, Bool.and_true, Bool.true_and]⟩
                  gi_wp2_with (first | (gi_at_call 155; go_loud (refine (CallsIn.inRound l (spanI F _ h141 hro _ _ _ _ _)).mono ?_; (first | rw [s0] | rw [s1] | rw [s2] | rw [s3] | rw [s4]); rintro e wq ⟨rfl, hwq⟩; replace RB := Sd.mk (show wq.heap[W.heap.size]? = _ from by subst hwq; exact blk_alloc RB.out _); replace BW := Sd.mk (show Below Wb.heap.size Wb wq from by subst hwq; exact below_alloc BW.out _); clear hwq; have g0 : wq.cell? ⟨W.heap.size, 0, none⟩ = some (.int .i64 x.f0.f0) := (blk_cell RB.out 0).trans rfl; have g1 : wq.cell? ⟨W.heap.size, 0 + 1, none⟩ = some (.int .i64 x.f0.f1) := (blk_cell RB.out 1).trans rfl; have g2 : wq.cell? ⟨W.heap.size, 0 + 2, none⟩ = some (.int .i64 x.f1.f0) := (blk_cell RB.out 2).trans rfl; have g3 : wq.cell? ⟨W.heap.size, 0 + 3, none⟩ = some (.int .i64 x.f1.f1) := (blk_cell RB.out 3).trans rfl; have g4 : wq.cell? ⟨W.heap.size, 0 + 4, none⟩ = some (.int .i64 x.f2.f0) := (blk_cell RB.out 4).trans rfl; have g5 : wq.cell? ⟨W.heap.size, 0 + 5, none⟩ = some (.int .i64 x.f2.f1) := (blk_cell RB.out 5).trans rfl; have g6 : wq.cell? ⟨W.heap.size, 0 + 6, none⟩ = some (.int .i64 x.f3.f0) := (blk_cell RB.out 6).trans rfl; have g7 : wq.cell? ⟨W.heap.size, 0 + 7, none⟩ = some (.int .i64 x.f3.f1) := (blk_cell RB.out 7).trans rfl; have g8 : wq.cell? ⟨W.heap.size, 0 + 8, none⟩ = some (.int .i64 x.f4.f0) := (blk_cell RB.out 8).trans rfl; have g9 : wq.cell? ⟨W.heap.size, 0 + 9, none⟩ = some (.int .i64 x.f4.f1) := (blk_cell RB.out 9).trans rfl; have gl : wq.cell? ⟨w.heap.size + 1, 0, none⟩ = some (.int .i64 (sumLo zs k)) := (blk_cell (blk_below CK.out.lo BW.out) 0).trans rfl; have gl' := blk_frozen (blk_below CK.out.lo BW.out) 0; have gh : (wq.setCell ⟨w.heap.size + 1, 0, none⟩ (.int .i64 (wrap64 (sumLo zs k + x.f2.f0)))).cell? ⟨w.heap.size + 1 + 1, 0, none⟩ = some (.int .i64 (sumHi zs k)) := (blk_cell (blk_far (blk_below CK.out.hi BW.out) (p := ⟨w.heap.size + 1, 0, none⟩) (by simp) _) 0).trans rfl; have gh' : (wq.setCell ⟨w.heap.size + 1, 0, none⟩ (.int .i64 (wrap64 (sumLo zs k + x.f2.f0)))).frozen? ⟨w.heap.size + 1 + 1, 0, none⟩ = false := blk_frozen (blk_far (blk_below CK.out.hi BW.out) (p := ⟨w.heap.size + 1, 0, none⟩) (by simp) _) 0; have gr : (wq.setCell ⟨w.heap.size + 1, 0, none⟩ (.int .i64 (wrap64 (sumLo zs k + x.f2.f0)))).cell? ⟨W.heap.size, 5, none⟩ = some (.int .i64 x.f2.f1) := (blk_cell (blk_far RB.out (p := ⟨w.heap.size + 1, 0, none⟩) (by have := HW.out; have := HS.out; simp; omega) _) 5).trans rfl)) | (gi_at_call 65; (with_reducible refine (CallsIn.inRound l (demand_noI F _ h91 hro _ _)).mono ?_); rintro e w' ⟨rfl, rfl⟩) | (gi_at_call 65; (with_reducible refine (CallsIn.inRound l (demand_okI F _ h91 hro _ _)).mono ?_); rintro e w' ⟨rfl, rfl⟩))
                  exact ⟨rfl, BW.out.size, fun j h1 h2 => BW.out.block j (by have := HW.out; have := WS.out; omega), rfl, ringsOk_mono zs (k + 1) _ (by simp [ringsOk, HX.out, HF.out]) HK.out, below_then CK.out.be CK.out.be.size BW.out⟩
                | true =>
                  have HT : Sd (ringB x = true) := ⟨by simp only [ringB, s0, s1, s2, s3, s4, Bool.and_true]⟩
                  gi_wp2_with (first | (gi_at_call 155; go_loud (refine (CallsIn.inRound l (spanI F _ h141 hro _ _ _ _ _)).mono ?_; (first | rw [s0] | rw [s1] | rw [s2] | rw [s3] | rw [s4]); rintro e wq ⟨rfl, hwq⟩; replace RB := Sd.mk (show wq.heap[W.heap.size]? = _ from by subst hwq; exact blk_alloc RB.out _); replace BW := Sd.mk (show Below Wb.heap.size Wb wq from by subst hwq; exact below_alloc BW.out _); clear hwq; have g0 : wq.cell? ⟨W.heap.size, 0, none⟩ = some (.int .i64 x.f0.f0) := (blk_cell RB.out 0).trans rfl; have g1 : wq.cell? ⟨W.heap.size, 0 + 1, none⟩ = some (.int .i64 x.f0.f1) := (blk_cell RB.out 1).trans rfl; have g2 : wq.cell? ⟨W.heap.size, 0 + 2, none⟩ = some (.int .i64 x.f1.f0) := (blk_cell RB.out 2).trans rfl; have g3 : wq.cell? ⟨W.heap.size, 0 + 3, none⟩ = some (.int .i64 x.f1.f1) := (blk_cell RB.out 3).trans rfl; have g4 : wq.cell? ⟨W.heap.size, 0 + 4, none⟩ = some (.int .i64 x.f2.f0) := (blk_cell RB.out 4).trans rfl; have g5 : wq.cell? ⟨W.heap.size, 0 + 5, none⟩ = some (.int .i64 x.f2.f1) := (blk_cell RB.out 5).trans rfl; have g6 : wq.cell? ⟨W.heap.size, 0 + 6, none⟩ = some (.int .i64 x.f3.f0) := (blk_cell RB.out 6).trans rfl; have g7 : wq.cell? ⟨W.heap.size, 0 + 7, none⟩ = some (.int .i64 x.f3.f1) := (blk_cell RB.out 7).trans rfl; have g8 : wq.cell? ⟨W.heap.size, 0 + 8, none⟩ = some (.int .i64 x.f4.f0) := (blk_cell RB.out 8).trans rfl; have g9 : wq.cell? ⟨W.heap.size, 0 + 9, none⟩ = some (.int .i64 x.f4.f1) := (blk_cell RB.out 9).trans rfl; have gl : wq.cell? ⟨w.heap.size + 1, 0, none⟩ = some (.int .i64 (sumLo zs k)) := (blk_cell (blk_below CK.out.lo BW.out) 0).trans rfl; have gl' := blk_frozen (blk_below CK.out.lo BW.out) 0; have gh : (wq.setCell ⟨w.heap.size + 1, 0, none⟩ (.int .i64 (wrap64 (sumLo zs k + x.f2.f0)))).cell? ⟨w.heap.size + 1 + 1, 0, none⟩ = some (.int .i64 (sumHi zs k)) := (blk_cell (blk_far (blk_below CK.out.hi BW.out) (p := ⟨w.heap.size + 1, 0, none⟩) (by simp) _) 0).trans rfl; have gh' : (wq.setCell ⟨w.heap.size + 1, 0, none⟩ (.int .i64 (wrap64 (sumLo zs k + x.f2.f0)))).frozen? ⟨w.heap.size + 1 + 1, 0, none⟩ = false := blk_frozen (blk_far (blk_below CK.out.hi BW.out) (p := ⟨w.heap.size + 1, 0, none⟩) (by simp) _) 0; have gr : (wq.setCell ⟨w.heap.size + 1, 0, none⟩ (.int .i64 (wrap64 (sumLo zs k + x.f2.f0)))).cell? ⟨W.heap.size, 5, none⟩ = some (.int .i64 x.f2.f1) := (blk_cell (blk_far RB.out (p := ⟨w.heap.size + 1, 0, none⟩) (by have := HW.out; have := HS.out; simp; omega) _) 5).trans rfl)) | (gi_at_call 65; (with_reducible refine (CallsIn.inRound l (demand_noI F _ h91 hro _ _)).mono ?_); rintro e w' ⟨rfl, rfl⟩) | (gi_at_call 65; (with_reducible refine (CallsIn.inRound l (demand_okI F _ h91 hro _ _)).mono ?_); rintro e w' ⟨rfl, rfl⟩))
                  have hk := HK.out
                  have hn24 := HN.out
                  have hsb := sum_bounds zs (k + 1) (by simp only [ringsOk, CK.out.ok, HX.out, HT.out, Bool.and_true])
                  have hlo : wrap64 (sumLo zs k + x.f2.f0) = sumLo zs (k + 1) := by simp only [sumLo, sumHi, HX.out] at hsb ⊢; unfold wrap64; omega
                  have hhi : wrap64 (sumHi zs k + x.f2.f1) = sumHi zs (k + 1) := by simp only [sumLo, sumHi, HX.out] at hsb ⊢; unfold wrap64; omega
                  rw [hlo, hhi]
                  refine ⟨by simpa using BW.out.size, fun j h1 h2 => ?_, ?_⟩
                  · refine ((grownBy_setCell' _ (w.heap.size + 1 + 1) _).block j (by simp; have := BW.out.size; have := HW.out; have := WS.out; omega) (by have := HS.out; simp; omega)).trans (((grownBy_setCell' _ (w.heap.size + 1) _).block j (by have := BW.out.size; have := HW.out; have := WS.out; omega) (by have := HS.out; simp; omega)).trans (BW.out.block j (by have := HW.out; have := WS.out; omega)))
                  · exact ⟨by simp only [ringsOk, CK.out.ok, HX.out, HT.out, Bool.and_true], blk_far (blk_far (blk_below CK.out.bx BW.out) (p := ⟨w.heap.size + 1, 0, none⟩) (by simp) _) (p := ⟨w.heap.size + 1 + 1, 0, none⟩) (by simp; omega) _, blk_far (blk_put (blk_below CK.out.lo BW.out) 0 _ rfl) (p := ⟨w.heap.size + 1 + 1, 0, none⟩) (by simp) _, blk_put (blk_far (blk_below CK.out.hi BW.out) (p := ⟨w.heap.size + 1, 0, none⟩) (by simp) _) 0 _ rfl, blk_far (blk_far (blk_below CK.out.rb BW.out) (p := ⟨w.heap.size + 1, 0, none⟩) (by simp; omega) _) (p := ⟨w.heap.size + 1 + 1, 0, none⟩) (by simp) _, below_set (below_set (below_then CK.out.be CK.out.be.size BW.out) (by omega)) (by omega)⟩
      case fn => exact fun _ => hfn
      case done =>
        clear b1 b2 b3 b4 hb
        intro W hI hD
        have HI := Sd.mk hI
        have HD := Sd.mk hD
        have HS := Sd.mk hsz
        clear hI hD hsz
        have g0 : W.cell? ⟨w.heap.size + 1, 0, none⟩ = some (.int .i64 (sumLo zs zs.length)) := (blk_cell HI.out.lo 0).trans rfl
        have g1 : W.cell? ⟨w.heap.size + 1 + 1, 0, none⟩ = some (.int .i64 (sumHi zs zs.length)) := (blk_cell HI.out.hi 0).trans rfl
        have g2 : W.cell? ⟨w.heap.size, 0 + 1, none⟩ = some (.int .i64 f1) := (blk_cell HI.out.bx 1).trans rfl
        have g3 : W.cell? ⟨w.heap.size, 0 + 2, none⟩ = some (.int .i64 f2) := (blk_cell HI.out.bx 2).trans rfl
        have HV1 : Sd (bottleV zs f1 f2 = if sumLo zs zs.length ≤ 1000 ∧ sumHi zs zs.length ≥ 1000 then (if inB f1 1 1000 = true ∧ inB f2 0 1000000000000000 = true then 0 else 1) else 12) := ⟨by rw [HV.out, if_pos HI.out.ok]⟩
        clear HV
        cases s1 : decide (sumLo zs zs.length ≤ 1000) with
        | false =>
          have HE : Sd (bottleV zs f1 f2 = 12) := ⟨by rw [HV1.out, if_neg (fun h => by have h1 := h.1; simp at s1; omega)]⟩
          clear HV1
          gi_wp2_with (first | (gi_at_call 65; (with_reducible refine (demand_noI F _ h91 hro _ _).mono ?_); rintro e w' ⟨rfl, rfl⟩) | (gi_at_call 65; (with_reducible refine (demand_okI F _ h91 hro _ _).mono ?_); rintro e w' ⟨rfl, rfl⟩) | (gi_at_call 66; (with_reducible refine (withinI F _ h92 hro _ _ _ _).mono ?_); (first | rw [s3] | rw [s4]); rintro e w' ⟨rfl, rfl⟩))
          refine ⟨by simp, .inl ⟨_, _, rfl, run_takeDeferred HD.out, ?_⟩⟩
          exact ⟨by rw [HE.out]; rfl, below_putObj HI.out.be (by have := HS.out; omega) (Array.getElem?_eq_some_iff.1 HD.out).1⟩
        | true =>
          cases s2 : decide (sumHi zs zs.length ≥ 1000) with
          | false =>
            have s2' : decide (1000 ≤ sumHi zs zs.length) = false := s2
            have HE : Sd (bottleV zs f1 f2 = 12) := ⟨by rw [HV1.out, if_neg (fun h => by have h1 := h.2; simp at s2; omega)]⟩
            clear HV1
            gi_wp2_with (first | (gi_at_call 65; (with_reducible refine (demand_noI F _ h91 hro _ _).mono ?_); rintro e w' ⟨rfl, rfl⟩) | (gi_at_call 65; (with_reducible refine (demand_okI F _ h91 hro _ _).mono ?_); rintro e w' ⟨rfl, rfl⟩) | (gi_at_call 66; (with_reducible refine (withinI F _ h92 hro _ _ _ _).mono ?_); (first | rw [s3] | rw [s4]); rintro e w' ⟨rfl, rfl⟩))
            refine ⟨by simp, .inl ⟨_, _, rfl, run_takeDeferred HD.out, ?_⟩⟩
            exact ⟨by rw [HE.out]; rfl, below_putObj HI.out.be (by have := HS.out; omega) (Array.getElem?_eq_some_iff.1 HD.out).1⟩
          | true =>
            have s2' : decide (1000 ≤ sumHi zs zs.length) = true := s2
            have HC : Sd (sumLo zs zs.length ≤ 1000 ∧ sumHi zs zs.length ≥ 1000) := ⟨⟨of_decide_eq_true s1, of_decide_eq_true s2⟩⟩
            cases s3 : inB f1 1 1000 with
            | false =>
              have HE : Sd (bottleV zs f1 f2 = 1) := ⟨by rw [HV1.out, if_pos HC.out, if_neg (fun h => by simp [s3] at h)]⟩
              clear HV1
              gi_wp2_with (first | (gi_at_call 65; (with_reducible refine (demand_noI F _ h91 hro _ _).mono ?_); rintro e w' ⟨rfl, rfl⟩) | (gi_at_call 65; (with_reducible refine (demand_okI F _ h91 hro _ _).mono ?_); rintro e w' ⟨rfl, rfl⟩) | (gi_at_call 66; (with_reducible refine (withinI F _ h92 hro _ _ _ _).mono ?_); (first | rw [s3] | rw [s4]); rintro e w' ⟨rfl, rfl⟩))
              refine ⟨by simp, .inl ⟨_, _, rfl, run_takeDeferred HD.out, ?_⟩⟩
              exact ⟨by rw [HE.out]; rfl, below_putObj HI.out.be (by have := HS.out; omega) (Array.getElem?_eq_some_iff.1 HD.out).1⟩
            | true =>
              cases s4 : inB f2 0 1000000000000000 with
              | false =>
                have HE : Sd (bottleV zs f1 f2 = 1) := ⟨by rw [HV1.out, if_pos HC.out, if_neg (fun h => by simp [s4] at h)]⟩
                clear HV1
                gi_wp2_with (first | (gi_at_call 65; (with_reducible refine (demand_noI F _ h91 hro _ _).mono ?_); rintro e w' ⟨rfl, rfl⟩) | (gi_at_call 65; (with_reducible refine (demand_okI F _ h91 hro _ _).mono ?_); rintro e w' ⟨rfl, rfl⟩) | (gi_at_call 66; (with_reducible refine (withinI F _ h92 hro _ _ _ _).mono ?_); (first | rw [s3] | rw [s4]); rintro e w' ⟨rfl, rfl⟩))
                refine ⟨by simp, .inl ⟨_, _, rfl, run_takeDeferred HD.out, ?_⟩⟩
                exact ⟨by rw [HE.out]; rfl, below_putObj HI.out.be (by have := HS.out; omega) (Array.getElem?_eq_some_iff.1 HD.out).1⟩
              | true =>
                have HE : Sd (bottleV zs f1 f2 = 0) := ⟨by rw [HV1.out, if_pos HC.out, if_pos ⟨s3, s4⟩]⟩
                clear HV1
                gi_wp2_with (first | (gi_at_call 65; (with_reducible refine (demand_noI F _ h91 hro _ _).mono ?_); rintro e w' ⟨rfl, rfl⟩) | (gi_at_call 65; (with_reducible refine (demand_okI F _ h91 hro _ _).mono ?_); rintro e w' ⟨rfl, rfl⟩) | (gi_at_call 66; (with_reducible refine (withinI F _ h92 hro _ _ _ _).mono ?_); (first | rw [s3] | rw [s4]); rintro e w' ⟨rfl, rfl⟩))
                refine ⟨by simp, .inl ⟨_, _, rfl, run_takeDeferred HD.out, ?_⟩⟩
                exact ⟨_, results_none rfl _ _ _, by rw [HE.out]; rfl, below_putObj HI.out.be (by have := HS.out; omega) (Array.getElem?_eq_some_iff.1 HD.out).1⟩
      case panic =>
        intro ch W hI hD
        obtain ⟨rfl, h2, h3⟩ := hI
        refine ⟨by simp, .inl ⟨_, _, rfl, run_takeDeferred hD, ?_⟩⟩
        exact ⟨by rw [HV.out, if_neg (by simp [h2])]; rfl, below_putObj h3 (by omega) (Array.getElem?_eq_some_iff.1 hD).1⟩
theorem bottle_calls (A : Option Addr) (c : Nat) (zs : List S92) (f1 f2 : Int) (w : World) (hr : Kd.C k92 w A zs.length zs) :
    Calls Tryz.prog 120 #[.agg #[.slice A zs.length c, .int .i64 f1, .int .i64 f2]] w fun en w' => en = endF (bottleV zs f1 f2) ∧ Below w.heap.size w w' :=
  (bottle_callsI Fc 9 (by simp [Fc]) (by simp [Fc]) (by simp [Fc]) (by simp [Fc]) (by simp [Fc]) (by simp [Fc]) rfl (fun g hg => by
    rcases hg with rfl | rfl | rfl | rfl | rfl | rfl
    · exact ⟨_, Tryz.func120⟩
    · exact ⟨_, Tryz.func65⟩
    · exact ⟨_, Tryz.func155⟩
    · exact ⟨_, Tryz.func111⟩
    · exact ⟨_, Tryz.func187⟩
    · exact ⟨_, Tryz.func66⟩) (by omega) A c zs f1 f2 w hr).calls (fun k d hd => by cases hd)
end
section
def shockV (V : Int × Int × Int) (d : Int) : Int × Int × Int := if V.2.2 = 0 then (if inB d 0 1000 = true then (35 * max V.1 0 * d / 78, (35 * max V.2.1 0 * d + 77) / 78, 0) else (0, 0, 1)) else (0, 0, V.2.2)
theorem fl78 (x : Int) (h1 : -1000000000 ≤ x) (h2 : x ≤ 1000000000) : st_floored.f x 78 = some (x / 78) := by
  unfold st_floored.f
  rw [if_neg (show ¬ (78 : Int) = 0 by decide)]
  have e := Int.mul_tdiv_add_tmod x 78
  have hm : Int.tmod x 78 < 78 := Int.tmod_lt_of_pos x (by decide)
  by_cases hx : 0 ≤ x
  · have h0 := Int.tmod_nonneg 78 hx
    rw [if_neg (by omega), Int.tdiv_eq_ediv_of_nonneg hx, wsmall (by omega) (by omega)]
  · have hn : -78 < Int.tmod x 78 := by
      have := Int.tmod_lt_of_pos (-x) (show (0 : Int) < 78 by decide)
      rw [Int.neg_tmod] at this
      omega
    have hp : Int.tmod x 78 ≤ 0 := by
      have := Int.tmod_nonneg 78 (show 0 ≤ -x by omega)
      rw [Int.neg_tmod] at this
      omega
    generalize Int.tmod x 78 = m at *
    generalize Int.tdiv x 78 = q at *
    by_cases h3 : m < 0
    · rw [if_pos h3, wsmall (x := q) (by omega) (by omega), wsmall (by omega) (by omega)]
      congr 1; omega
    · rw [if_neg h3, wsmall (by omega) (by omega)]
      congr 1; omega
theorem ra78 (x : Int) (h1 : -1000000000 ≤ x) (h2 : x ≤ 1000000000) : st_raised.f x 78 = some ((x + 77) / 78) := by
  unfold st_raised.f
  rw [wsmall (x := -x) (by omega) (by omega), fl78 (-x) (by omega) (by omega), Option.bind_some, wsmall (by omega) (by omega)]
  congr 1; omega
section
variable (o : List ByteArray) (mt : List S70) (s : List S27) (p : List S89) (a4 a5 a6 : Int) (r : List Int)
theorem ValV_range (n : Int) (h : (ValV o mt s p a4 a5 a6 r n).2.2 = 0) : (-10000 ≤ (ValV o mt s p a4 a5 a6 r n).1 ∧ (ValV o mt s p a4 a5 a6 r n).1 ≤ 10000) ∧ (-10000 ≤ (ValV o mt s p a4 a5 a6 r n).2.1 ∧ (ValV o mt s p a4 a5 a6 r n).2.1 ≤ 10000) := by
  revert h
  unfold ValV
  split
  · rename_i ha
    obtain ⟨H, hr⟩ := ask_ok ha
    split
    · rename_i h1
      split
      · intro h; cases h
      · rename_i h2
        intro _
        obtain ⟨C, hl⟩ := pro_cf H h1
        exact mean_range (gramL_ok H hr) (by rw [gramL_len]; exact C) (lowW_pos H hr h2)
    · intro h; cases h
  · intro h; exact absurd h (by assumption)
theorem xShock_ev (n d : Int) : Ev (fun k => x_Shock.f k o mt s p a4 a5 a6 r n d) (shockV (ValV o mt s p a4 a5 a6 r n) d) := by
  unfold x_Shock.f
  refine Ev.bind (bValue o mt s p a4 a5 a6 r n) ?_
  have hr := ValV_range o mt s p a4 a5 a6 r n
  generalize ValV o mt s p a4 a5 a6 r n = V at *
  unfold shockV
  by_cases h1 : V.2.2 = 0
  · simp only [if_pos h1]
    by_cases hd : inB d 0 1000 = true
    · simp only [if_pos hd]
      simp only [inB, Bool.and_eq_true, decide_eq_true_eq] at hd
      obtain ⟨⟨r1, r2⟩, r3, r4⟩ := hr h1
      have key : ∀ x : Int, -10000 ≤ x → x ≤ 10000 → -350000000 ≤ 35 * x * d ∧ 35 * x * d ≤ 350000000 ∧ (0 ≤ x → 0 ≤ 35 * x * d) ∧ (x ≤ 0 → 35 * x * d ≤ 0) := by
        intro x hx1 hx2
        have a := Int.mul_le_mul_of_nonneg_right (show 35 * x ≤ 350000 by omega) hd.1
        have b := Int.mul_le_mul_of_nonneg_right (show -350000 ≤ 35 * x by omega) hd.1
        exact ⟨by omega, by omega, fun h => Int.mul_nonneg (by omega) hd.1, fun h => Int.mul_nonpos_of_nonpos_of_nonneg (by omega) hd.1⟩
      obtain ⟨a1, a2, a3, a4'⟩ := key V.1 r1 r2
      obtain ⟨b1, b2, b3, b4⟩ := key V.2.1 r3 r4
      rw [wsmall (x := 35 * V.1) (by omega) (by omega), wsmall (x := 35 * V.2.1) (by omega) (by omega), wsmall (x := 35 * V.1 * d) (by omega) (by omega), wsmall (x := 35 * V.2.1 * d) (by omega) (by omega), fl78 _ (by omega) (by omega), ra78 _ (by omega) (by omega)]
      simp only [Option.bind_some]
      refine (Ev.const _).cast ?_
      have e1 : (if 35 * V.1 * d / 78 < 0 then 0 else 35 * V.1 * d / 78) = 35 * max V.1 0 * d / 78 := by
        by_cases h : 0 ≤ V.1
        · rw [show max V.1 0 = V.1 by omega, if_neg (by have := a3 h; omega)]
        · rw [show max V.1 0 = 0 by omega, Int.mul_zero, Int.zero_mul]
          have := a4' (by omega)
          split <;> omega
      have e2 : (if (35 * V.2.1 * d + 77) / 78 < 0 then 0 else (35 * V.2.1 * d + 77) / 78) = (35 * max V.2.1 0 * d + 77) / 78 := by
        by_cases h : 0 ≤ V.2.1
        · rw [show max V.2.1 0 = V.2.1 by omega, if_neg (by have := b3 h; omega)]
        · rw [show max V.2.1 0 = 0 by omega, Int.mul_zero, Int.zero_mul]
          have := b4 (by omega)
          split <;> omega
      rw [e1, e2]
    · simp only [if_neg hd]; exact Ev.const _
  · simp only [if_neg h1]; exact Ev.const _
end
def loadB (pr fo sp ot : Int) : Bool := inB pr 0 10000 && (inB fo 0 20000 && (inB sp 0 2000 && inB ot 0 10000000))
end
section
variable {F : Fence} {n : Nat} {P : Program}
structure KeepHi (B : Nat) (W W' : World) : Prop where
  size : W.heap.size ≤ W'.heap.size
  block : ∀ j, B ≤ j → j < W.heap.size → W'.heap[j]? = W.heap[j]?
theorem KeepHi.refl (B : Nat) (W : World) : KeepHi B W W := ⟨Nat.le_refl _, fun _ _ _ => rfl⟩
theorem KeepHi.trans {B : Nat} {a b c : World} (h : KeepHi B a b) (k : KeepHi B b c) : KeepHi B a c :=
  ⟨Nat.le_trans h.size k.size, fun j h1 h2 => (k.block j h1 (Nat.lt_of_lt_of_le h2 h.size)).trans (h.block j h1 h2)⟩
theorem KeepHi.of_below {B : Nat} {W W' : World} (h : Below W.heap.size W W') : KeepHi B W W' := ⟨h.size, fun j _ h2 => h.block j h2⟩
theorem KeepHi.up {B C : Nat} {W W' : World} (h : KeepHi B W W') (hc : B ≤ C) : KeepHi C W W' := ⟨h.size, fun j h1 h2 => h.block j (Nat.le_trans hc h1) h2⟩
theorem below_putObj' {B r : Nat} {W : World} {o : Obj} (hr : B ≤ r) : Below B W (W.putObj r o) := ⟨rfl, rfl, rfl, by simp, fun k hk => World.putObj_heap_other (by omega)⟩
theorem keepHi_putObj {B r : Nat} {W : World} {o : Obj} (hr : r < B) : KeepHi B W (W.putObj r o) := ⟨by simp, fun j h1 h2 => World.putObj_heap_other (by omega)⟩
theorem keepHi_alloc {B : Nat} {W : World} (o : Obj) : KeepHi B W (W.alloc o) := ⟨by simp, fun j _ h => Below.heap_alloc _ _ _ h⟩
theorem KeepHi.setCell {B : Nat} {W W' : World} (h : KeepHi B W W') {p : Addr} (hp : p.block < B) (u : Value) : KeepHi B W (W'.setCell p u) := ⟨by simpa [World.setCell] using h.size, fun j h1 h2 => (Below.heap_setCell _ _ _ _ (by omega)).trans (h.block j h1 h2)⟩
def bodyPostS (B : Nat) (I : Nat → World → Prop) (k : Nat) (W : World) : Exit → Act → World → Prop
  | .normal, _, W' => KeepHi B W W' ∧ I k W'
  | _, _, _ => False
theorem wpIn_rangeFuncS {g : Operand} {ps : Array Tmp} {assign body : Code} {Q : Exit → Act → World → Prop} {a : Act} {w : World} {N : Nat} {encs : Nat → Array Value}
    (hro : F.round = none) (h1 : 1 ≤ n) {gf : Nat} {lb : Array Value} (hg : a.eval g = .func (.func gf) #[] lb) (hFg : F.fn gf) (eg : ∀ args w, (callFunc gf args).run P w = .ok (.enter gf args) w)
    (hps : ∀ k, (encs k).size = ps.size) (I : Nat → World → Prop) (Pr : Nat → World → Prop)
    (hI : ∀ k W W', Below w.heap.size W W' → KeepHi (w.heap.size + 3) W W' → I k W → I k W') (h0 : I 0 w)
    (hseq : ∀ (l : Nat) (J : Nat → World → Prop) (W : World), W.heap.size = w.heap.size + 2 → Below w.heap.size w W → (∀ k W W', Below (w.heap.size + 2) W W' → KeepHi (w.heap.size + 3) W W' → J k W → J k W') → (∀ k W, J k W → I k W) →
      (∀ k W1, k < N → J k W1 → Pr k W1 → YieldAt F (n - 1 - 1) P l (encs k) W1 fun e W' => e = .returned (.bool true) ∧ J (k + 1) W' ∧ KeepHi (w.heap.size + 2) W1 W') → J 0 W →
      CallsIn F (n - 1) P gf (#[.func (.yield l) #[] #[]] ++ lb) W fun e W' => (∃ v, e = .returned v) ∧ J N W')
    (hround : ∀ (l : Nat) (k : Nat) (W : World), w.heap.size + 1 < W.heap.size → k < N → I k W → Pr k W → ∀ (st : Act → World → Prop),
      (∀ a' W', KeepHi w.heap.size W W' →
        (∀ o, body.wpIn (F.inRound l) (n - 1 - 1) P (bodyPostS w.heap.size I (k + 1) (W'.putObj (w.heap.size + 1) o)) a' (W'.putObj (w.heap.size + 1) o)) → st a' W') →
      assign.wpIn (F.inRound l) (n - 1 - 1) P (Exit.then st (fun _ _ _ => False)) { tmps := (ps.zip (encs k)).foldl (fun t (p, v) => t.setIfInBounds p v) a.tmps, defers := [] } W)
    (hdone : ∀ W, I N W → W.heap[w.heap.size]? = some (.deferred (some [])) → Q .normal { a with defers := { target := .collected w.heap.size, args := #[] } :: a.defers } W) :
    (Code.rangeFunc g ps assign body).wpIn F n P Q a w := by
  refine wpIn_rangeFunc ?_
  intro fn hfn'
  rw [hro]
  obtain ⟨rec, hrec⟩ : ∃ rec : LoopState → Option Code → Loop, rec = fun st pe => { state := st, pending := pe, fn, tmps := a.tmps, params := ps, assign, body, defers := w.heap.size } := ⟨_, rfl⟩
  obtain ⟨W1, hW1⟩ : ∃ W1, (w.alloc (.deferred (some []))).alloc (.loop (rec .ready none)) = W1 := ⟨_, rfl⟩
  have hB1 : Below w.heap.size w W1 := by rw [← hW1]; exact below_alloc (below_alloc (Below.refl _ _) _) _
  have hB1b : ∀ j, j < w.heap.size → W1.heap[j]? = w.heap[j]? := fun j hj => hB1.block j hj
  have hs1 : W1.heap.size = w.heap.size + 2 := by rw [← hW1]; simp
  have hL1 : W1.heap[w.heap.size + 1]? = some (.loop (rec .ready none)) := by
    rw [← hW1]; have := World.alloc_heap_new (w.alloc (.deferred (some []))) (.loop (rec .ready none)); rwa [World.size_alloc] at this
  have hK1 : W1.heap[w.heap.size]? = some (.deferred (some [])) := by
    rw [← hW1]; exact (Below.heap_alloc _ _ _ (by simp)).trans (World.alloc_heap_new w _)
  have hI1 : I 0 W1 := hI _ _ _ hB1 ⟨by omega, fun j h1 h2 => hB1b j h2⟩ h0
  refine ⟨w.heap.size + 1, [{ target := .collected w.heap.size, args := #[] }], W1, { target := .fn (.func gf) lb, args := #[.func (.yield (w.heap.size + 1)) #[] #[]] }, W1, gf,
    #[.func (.yield (w.heap.size + 1)) #[] #[]] ++ lb, W1, ?_, ?_, ?_, ?_, fun _ => h1, ?_⟩
  · rw [← hW1, hrec]; exact run_enterLoop_outer _ _ _ _ _
  · simp only [resolve, hg]
    simp [go_sem]
  · intro f' hf'; simp [Target.leads] at hf'; subst hf'; exact hFg
  · simp [invoke, go_sem, eg]
  · refine (hseq (w.heap.size + 1)
      (fun k W => I k W ∧ W.heap[w.heap.size + 1]? = some (.loop (rec .ready none)) ∧ W.heap[w.heap.size]? = some (.deferred (some [])))
      W1 hs1 hB1 (fun k W W' hb hkp h => ⟨hI _ _ _ (hb.mono (by omega)) hkp h.1, (hb.block _ (by omega)).trans h.2.1, (hb.block _ (by omega)).trans h.2.2⟩) (fun k W h => h.1) ?_ ⟨hI1, hL1, hK1⟩).mono ?_
    · rintro k W hk ⟨hi, hl, hd⟩ hpr
      have hlt : w.heap.size + 1 < W.heap.size := (Array.getElem?_eq_some_iff.1 hl).1
      have hy := run_yield (P := P) (args := encs k) hl (by rw [hrec]; exact hps k)
      rw [hrec] at hy
      refine ⟨fn, _, assign, body, hy, roundIn_of_wpInP hfn' (fun ⟨ch, W', h⟩ => by cases h.1) ?_⟩
      clear hy
      refine hround _ k W hlt hk hi hpr _ ?_
      intro a' Wa hka hb
      have hsz := hka.size
      have hla : Wa.heap[w.heap.size + 1]? = some (.loop (rec .ready none)) := (hka.block _ (by omega) (by omega)).trans hl
      have hda : Wa.heap[w.heap.size]? = some (.deferred (some [])) := (hka.block _ (by omega) (by omega)).trans hd
      have hlta : w.heap.size + 1 < Wa.heap.size := by omega
      refine ⟨_, run_beginRound hla (by rw [hrec]), ?_⟩
      refine wpIn_mono (hb _) ?_
      have hl2 : (Wa.putObj (w.heap.size + 1) (.loop { rec .ready none with state := .busy })).heap[w.heap.size + 1]? = some (.loop { rec .ready none with state := .busy }) := World.putObj_heap_same hlta
      have hk2 : (Wa.putObj (w.heap.size + 1) (.loop { rec .ready none with state := .busy })).heap[w.heap.size]? = some (.deferred (some [])) := (World.putObj_heap_other (by omega)).trans hda
      rintro e a3 W3 hp
      cases e with
      | normal =>
        obtain ⟨hkp, hi3⟩ := hp
        have hsz3 := hkp.size
        simp only [World.putObj_size] at hsz3
        have hl3 := (hkp.block _ (by omega) (by simp; omega)).trans hl2
        have hk3 := (hkp.block _ (by omega) (by simp; omega)).trans hk2
        have hr := run_endRound (P := P) none hl3
        have hlt3 := (Array.getElem?_eq_some_iff.1 hl3).1
        rw [hrec] at hr ⊢
        refine ⟨_, _, hr, rfl, ⟨hI _ _ _ (below_putObj' (Nat.le_succ _)) (keepHi_putObj (by omega)) hi3, World.putObj_heap_same hlt3, (World.putObj_heap_other (by omega)).trans hk3⟩, ⟨by simp; omega, fun j h1 h2 => ?_⟩⟩
        rw [World.putObj_heap_other (by omega), hkp.block j (by omega) (by simp; omega), World.putObj_heap_other (by omega), hka.block j (by omega) h2]
      | panic ch => exact hp.elim
      | ret => exact hp.elim
      | exit id => exact hp.elim
      | goto t => exact hp.elim
      | outgrown => exact hp.elim
    · rintro e W2 ⟨⟨v, rfl⟩, hi, hl, hk⟩
      have hlt := (Array.getElem?_eq_some_iff.1 hl).1
      exact ⟨none, _, by have := run_endLoop (P := P) hl (by rw [hrec]; simp); rw [hrec] at this; exact this, hdone _ (hI _ _ _ (below_putObj' (Nat.le_succ _)) (keepHi_putObj (by omega)) hi) ((World.putObj_heap_other (by omega)).trans hk)⟩
theorem wpInW_scope {Q : Exit → Act → World → Prop} {c : Code} {a : Act} {w : World} (hg : ∀ l a w, Q (.goto l) a w → False) (h : c.wpIn Fence.wide n P Q a w) : (Code.scope c).wpIn Fence.wide n P Q a w :=
  wpIn_wide.2 (wp_scope_straight (wpIn_wide.1 (wpIn_mono h (fun e a w h => by cases e <;> first | exact h | exact hg _ _ _ h))))
end
section
def leasts (mt : List S70) (i : Nat) : List Int := (List.range mt.length).map fun j => if j < i then (rd_T70 mt (j : Int)).f3 else 0
def adv (mt : List S70) : Nat → List Int → Bool × List Int
  | 0, r => (false, r)
  | i + 1, r => if wrap64 (rd r (i : Int) + (rd_T70 mt (i : Int)).f5) ≤ (rd_T70 mt (i : Int)).f4 then (true, r.set i (wrap64 (rd r (i : Int) + (rd_T70 mt (i : Int)).f5))) else adv mt i (r.set i (rd_T70 mt (i : Int)).f3)
def IntsAt (W : World) (B n : Nat) (r : List Int) : Prop := r.length = n ∧ (Kd.int .i64).R 3 W B (fun k => k = B) (.slice (some ⟨B, 0, none⟩) n n) r
theorem leasts_len (mt : List S70) (i : Nat) : (leasts mt i).length = mt.length := by simp [leasts]
theorem leasts_zero (mt : List S70) : leasts mt 0 = List.replicate mt.length 0 := by simp [leasts, List.map_const']
theorem leasts_set (mt : List S70) (i : Nat) (h : i < mt.length) : (leasts mt i).set i (rd_T70 mt (i : Int)).f3 = leasts mt (i + 1) := by
  apply List.ext_getElem
  · simp [leasts]
  · intro j h1 h2
    rw [List.getElem_set]
    simp only [leasts, List.getElem_map, List.getElem_range]
    by_cases hj : i = j
    · subst hj; rw [if_pos rfl, if_pos (by omega)]
    · rw [if_neg hj]
      by_cases h3 : j < i
      · rw [if_pos h3, if_pos (by omega)]
      · rw [if_neg h3, if_neg (by omega)]
theorem IntsAt.below {W W' : World} {B n : Nat} {r : List Int} (h : IntsAt W B n r) (hb : KeepHi B W W') : IntsAt W' B n r :=
  ⟨h.1, Kd.R_step h.2 (fun k e hk => hb.block k (by omega) hk)⟩
theorem IntsAt.lt {W : World} {B n : Nat} {r : List Int} (h : IntsAt W B n r) : B < W.heap.size := Kd.R_lt h.2 B (by simp [Value.ownBlock])
theorem IntsAt.reads {W : World} {B n : Nat} {r : List Int} (h : IntsAt W B n r) : Kd.C (Kd.int .i64) W (some ⟨B, 0, none⟩) r.length r := by
  obtain ⟨A, c, e, _, hc⟩ := Kd.R_reads h.2
  injection e with e1 e2 e3
  rw [e1]; exact hc
theorem IntsAt.put {W : World} {B n : Nat} {r : List Int} (h : IntsAt W B n r) (i : Nat) (x : Int) : IntsAt (W.setCell ⟨B, i, none⟩ (.int .i64 x)) B n (r.set i x) :=
  ⟨by rw [List.length_set]; exact h.1, by have := Kd.R_putn h.2 (i : Int) x; rwa [Int.toNat_natCast] at this⟩
theorem IntsAt.cell {W : World} {B n : Nat} {r : List Int} (h : IntsAt W B n r) (i : Nat) (hi : i < n) : W.cell? ⟨B, i, none⟩ = some (.int .i64 (rd r (i : Int))) ∧ W.frozen? ⟨B, i, none⟩ = false := by
  have := Kd.R_celln (0 : Int) h.2 (i : Int) (by omega) (by omega)
  rwa [Int.toNat_natCast] at this
theorem below_drewN' (B : Nat) (W : World) (n : Nat) : Below B W (W.drewN n) := pw_below_drewN (Below.refl _ _) n
theorem IntsAt.drewN {W : World} {B n : Nat} {r : List Int} (h : IntsAt W B n r) (m : Nat) : IntsAt (W.drewN m) B n r := h.below (KeepHi.of_below (below_drewN' _ _ _))
theorem keepHi_drewN (B : Nat) (W : World) (n : Nat) : KeepHi B W (W.drewN n) := KeepHi.of_below (below_drewN' _ _ _)
theorem recipes1_in (n : Nat) (hn : 1 ≤ n) (l B2 Bb : Nat) (A0 A1 A2 A3 : Option Addr) (n0 n2 n3 c0 c1 c2 c3 : Nat) (b4 b5 b6 : Int) (mt : List S70) (N : Nat) (rs : Nat → List Int) (J : Nat → World → Prop) (W : World)
    (hs : W.heap.size = B2) (hm20 : mt.length ≤ 12)
    (hJm : ∀ k W, J k W → Kd.C k70 W A1 mt.length mt ∧ W.heap[Bb]? = some (.cells #[.slice A0 n0 c0, .slice A1 mt.length c1, .slice A2 n2 c2, .slice A3 n3 c3, .int .i64 b4, .int .i64 b5, .int .i64 b6] 29 (0, 0)))
    (hJb : ∀ k W W', Below B2 W W' → KeepHi (B2 + 1) W W' → J k W → J k W') (hBb : Bb < B2)
    (hr0 : 0 < N) (hrs0 : rs 0 = leasts mt mt.length) (hlen : ∀ k, (rs k).length = mt.length)
    (hnext : ∀ k, k < N → adv mt mt.length (rs k) = if k + 1 < N then (true, rs (k + 1)) else (false, (adv mt mt.length (rs k)).2))
    (hY : ∀ k W1, k < N → J k W1 → IntsAt W1 B2 mt.length (rs k) → YieldAt Fence.wide (n - 1) Tryz.prog l #[.slice (some ⟨B2, 0, none⟩) mt.length mt.length] W1 fun e W' => e = .returned (.bool true) ∧ J (k + 1) W' ∧ KeepHi B2 W1 W')
    (h0 : J 0 W) :
    CallsIn Fence.wide n Tryz.prog 207 #[.func (.yield l) #[] #[], .pointer (some ⟨Bb, 0, none⟩)] W fun e W' => (∃ v, e = .returned v) ∧ J N W' := by
  obtain ⟨hC0, hbb⟩ := hJm 0 W h0
  have hx1 : W.cell? ⟨Bb, 0 + 1, none⟩ = some (.slice A1 mt.length c1) := (blk_cell hbb 1).trans rfl
  have hmk := print_make_int (P := Tryz.prog) 30 3 (.int .i64 0) 8 (by rfl) (by rfl) rfl (by omega) (mt.length : Int) (by omega) (by simp; omega)
  refine callsIn_of_wp Tryz.func207 rfl trivial ?_ rfl
  simp only [Tryz.ntmps207, List.size_toArray, List.length_cons, List.length_nil, Nat.reduceAdd, Nat.reduceSub, Array.replicate_succ, Array.replicate_zero, List.push_toArray, List.append_toArray, List.nil_append, List.cons_append]
  refine wpInW_scope (fun _ _ _ h => h) ?_
  gi_wp2
  have hI0 : IntsAt (W.alloc (.cells (madeCells #[.int .i64 0] mt.length) 3)) B2 mt.length (leasts mt 0) := by
    rw [leasts_zero]
    subst hs
    exact ⟨by simp, Kd.R_of_own (enc := Value.int .i64) (own_made' W W.heap.size 3 .i64 mt.length (Nat.le_refl _) (by omega)) (fun k hk => by simpa [Value.ownBlock] using hk.symm)⟩
  have hJ0 : J 0 (W.alloc (.cells (madeCells #[.int .i64 0] mt.length) 3)) := hJb _ _ _ ((Below.refl _ _).alloc (by omega) _) (keepHi_alloc _) h0
  try simp only [Int.toNat_natCast]
  clear hmk hx1 hbb hC0
  have HN := Sd.mk hnext
  have HY := Sd.mk hY
  have HI := Sd.mk hI0
  have HJ := Sd.mk hJ0
  have HM := Sd.mk hJm
  have HJB := Sd.mk hJb
  have HL := Sd.mk hlen
  clear hnext hY hI0 hJ0 hJm hJb h0 hlen
  generalize W.alloc (.cells (madeCells #[.int .i64 0] mt.length) 3) = w0 at HI HJ ⊢
  gi_loopg [15] mt.length (fun gq v15 wr => ∃ k : Nat, v15 = .int .i64 k ∧ k ≤ mt.length ∧ mt.length - k ≤ gq ∧ Sd (J 0 wr) ∧ Sd (IntsAt wr B2 mt.length (leasts mt k)))
  case atStart => exact ⟨0, rfl, by omega, by omega, HJ, HI⟩
  case round =>
    clear HI HJ
    obtain ⟨k, rfl, hk, hg, HJ, HI⟩ := hrel
    by_cases hlt : k < mt.length
    · obtain ⟨ad, A6, c6', rfl, g0, g1, g2, g3, g4, g5, g6, hl6, hi6⟩ := at_T70 (HM.out 0 wr HJ.out).1 (k : Int) (by omega) (by omega)
      have hwr : wrap64 ((k : Int) + 1) = (k : Int) + 1 := by unfold wrap64; omega
      have HI1 := Sd.mk (HI.out.below (keepHi_alloc (.cells #[.string (rd_T70 mt (k : Int)).f0, .int .i64 (rd_T70 mt (k : Int)).f1, .int .i64 (rd_T70 mt (k : Int)).f2, .int .i64 (rd_T70 mt (k : Int)).f3, .int .i64 (rd_T70 mt (k : Int)).f4, .int .i64 (rd_T70 mt (k : Int)).f5, .slice A6 (rd_T70 mt (k : Int)).f6.length c6'] 70)))
      have HJ1 := Sd.mk (HJB.out _ _ _ ((Below.refl _ _).alloc (Nat.le_of_lt HI.out.lt) (.cells #[.string (rd_T70 mt (k : Int)).f0, .int .i64 (rd_T70 mt (k : Int)).f1, .int .i64 (rd_T70 mt (k : Int)).f2, .int .i64 (rd_T70 mt (k : Int)).f3, .int .i64 (rd_T70 mt (k : Int)).f4, .int .i64 (rd_T70 mt (k : Int)).f5, .slice A6 (rd_T70 mt (k : Int)).f6.length c6'] 70)) (keepHi_alloc _) HJ.out)
      obtain ⟨hq0, hq1⟩ := HI1.out.cell k hlt
      have HI2 := Sd.mk (HI1.out.put k (rd_T70 mt (k : Int)).f3)
      rw [leasts_set mt k hlt] at HI2
      have hb3 : (wr.alloc (.cells #[.string (rd_T70 mt (k : Int)).f0, .int .i64 (rd_T70 mt (k : Int)).f1, .int .i64 (rd_T70 mt (k : Int)).f2, .int .i64 (rd_T70 mt (k : Int)).f3, .int .i64 (rd_T70 mt (k : Int)).f4, .int .i64 (rd_T70 mt (k : Int)).f5, .slice A6 (rd_T70 mt (k : Int)).f6.length c6'] 70)).cell? ⟨wr.heap.size, 3, none⟩ = some (.int .i64 (rd_T70 mt (k : Int)).f3) := (blk_cell (blk_new wr _) 3).trans rfl
      have HJ2 := Sd.mk (HJB.out _ _ _ ((Below.refl _ _).setCell (p := ⟨B2, k, none⟩) (Nat.le_refl _) (.int .i64 (rd_T70 mt (k : Int)).f3)) (KeepHi.setCell (p := ⟨B2, k, none⟩) (KeepHi.refl _ _) (Nat.lt_succ_self B2) _) HJ1.out)
      clear HI1 HJ1 hl6 hi6 HI HJ
      simp only [Int.toNat_natCast] at g0 g1 g2 g3 g4 g5 g6
      gi_wp2
      gi_roundg (mt.length - (k + 1))
      case measure => omega
      case rel => exact ⟨k + 1, by first | rfl | (push_cast; rfl), by omega, by omega, HJ2, HI2⟩
    · obtain rfl : k = mt.length := by omega
      clear hlt hk hg
      gi_wp2
      apply wpIn_label
      gi_wp2
      gi_loopg [] N (fun gq wr => ∃ k : Nat, k < N ∧ N - k ≤ gq ∧ Sd (J k wr) ∧ Sd (IntsAt wr B2 mt.length (rs k)))
      case atStart => exact ⟨0, hr0, by omega, HJ, ⟨by rw [hrs0]; exact HI.out⟩⟩
      case round =>
        clear HI HJ
        obtain ⟨k, hk, hg, HJ, HI⟩ := hrel
        obtain ⟨fn, tmps, assign, body, hy, hR⟩ := HY.out k wr hk HJ.out HI.out
        gi_wp2
        refine hR.mono ?_
        rintro e W3 ⟨rfl, hJ3, hK3⟩
        have HI3 := Sd.mk (HI.out.below hK3)
        have HJ3 := Sd.mk hJ3
        clear hJ3 hK3 hy hR HI HJ
        have hwl : wrap64 ((mt.length : Int) - 1) = (mt.length : Int) - 1 := by unfold wrap64; omega
        gi_wp2
        clear hwl
        refine wpIn_wide.2 ?_
        go_loopg [6] mt.length (fun gq v6 w' => ∃ i : Nat, v6 = .int .i64 ((i : Int) - 1) ∧ i ≤ mt.length ∧ i ≤ gq ∧ Sd (J (k + 1) w') ∧ ∃ r : List Int, Sd (IntsAt w' B2 mt.length r) ∧ Sd (adv mt mt.length (rs k) = adv mt i r))
        case atStart => exact ⟨mt.length, rfl, Nat.le_refl _, Nat.le_refl _, HJ3, rs k, HI3, ⟨rfl⟩⟩
        case round =>
          clear HI3 HJ3
          obtain ⟨i, rfl, hi, hg2, HJ, r, HI, HA⟩ := hrel
          cases i with
          | zero =>
            go_wp2
            have hk1 : k + 1 = N := by
              have h1 := HN.out k hk
              rw [HA.out] at h1
              by_cases h2 : k + 1 < N
              · rw [if_pos h2] at h1; simp [adv] at h1
              · omega
            gi_wp2
            refine bodyPost_ret (results_none rfl _ _ _) rfl ?_
            exact ⟨⟨_, rfl⟩, hk1 ▸ HJ.out⟩
          | succ i =>
            have hc : (((i + 1 : Nat) : Int) - 1) = (i : Int) := by omega
            rw [hc]
            clear hc
            obtain ⟨hmm, hbb⟩ := HM.out _ wr HJ.out
            obtain ⟨ad, A6, c6', rfl, g0, g1, g2, g3, g4, g5, g6, hl6, hi6⟩ := at_T70 hmm (i : Int) (by omega) (by omega)
            have hx1 : wr.cell? ⟨Bb, 0 + 1, none⟩ = some (.slice (some ad) mt.length c1) := (blk_cell hbb 1).trans rfl
            simp only [Int.toNat_natCast] at g0 g1 g2 g3 g4 g5 g6
            clear hmm hbb
            have HI1 := Sd.mk (HI.out.below (keepHi_alloc (.cells #[.string (rd_T70 mt (i : Int)).f0, .int .i64 (rd_T70 mt (i : Int)).f1, .int .i64 (rd_T70 mt (i : Int)).f2, .int .i64 (rd_T70 mt (i : Int)).f3, .int .i64 (rd_T70 mt (i : Int)).f4, .int .i64 (rd_T70 mt (i : Int)).f5, .slice A6 (rd_T70 mt (i : Int)).f6.length c6'] 70)))
            have HJ1 := Sd.mk (HJB.out _ _ _ ((Below.refl _ _).alloc (Nat.le_of_lt HI.out.lt) (.cells #[.string (rd_T70 mt (i : Int)).f0, .int .i64 (rd_T70 mt (i : Int)).f1, .int .i64 (rd_T70 mt (i : Int)).f2, .int .i64 (rd_T70 mt (i : Int)).f3, .int .i64 (rd_T70 mt (i : Int)).f4, .int .i64 (rd_T70 mt (i : Int)).f5, .slice A6 (rd_T70 mt (i : Int)).f6.length c6'] 70)) (keepHi_alloc _) HJ.out)
            have HBL := Sd.mk (blk_new wr (.cells #[.string (rd_T70 mt (i : Int)).f0, .int .i64 (rd_T70 mt (i : Int)).f1, .int .i64 (rd_T70 mt (i : Int)).f2, .int .i64 (rd_T70 mt (i : Int)).f3, .int .i64 (rd_T70 mt (i : Int)).f4, .int .i64 (rd_T70 mt (i : Int)).f5, .slice A6 (rd_T70 mt (i : Int)).f6.length c6'] 70))
            go_upto_region 11 with (fail)
            clear g0 g1 g2 g3 g4 g5 g6 hl6 hi6 hx1
            have HLT := Sd.mk HI.out.lt
            clear HI HJ
            generalize wr.alloc (.cells #[.string (rd_T70 mt (i : Int)).f0, .int .i64 (rd_T70 mt (i : Int)).f1, .int .i64 (rd_T70 mt (i : Int)).f2, .int .i64 (rd_T70 mt (i : Int)).f3, .int .i64 (rd_T70 mt (i : Int)).f4, .int .i64 (rd_T70 mt (i : Int)).f5, .slice A6 (rd_T70 mt (i : Int)).f6.length c6'] 70) = WX at HI1 HJ1 HBL ⊢
            generalize wr.heap.size = X at HBL HLT ⊢
            have b3 : WX.cell? ⟨X, 3, none⟩ = some (.int .i64 (rd_T70 mt (i : Int)).f3) := (blk_cell HBL.out 3).trans rfl
            have b4' : WX.cell? ⟨X, 4, none⟩ = some (.int .i64 (rd_T70 mt (i : Int)).f4) := (blk_cell HBL.out 4).trans rfl
            have b5' : WX.cell? ⟨X, 5, none⟩ = some (.int .i64 (rd_T70 mt (i : Int)).f5) := (blk_cell HBL.out 5).trans rfl
            obtain ⟨hq0, hq1⟩ := HI1.out.cell i (by omega)
            by_cases hle : wrap64 (rd r (i : Int) + (rd_T70 mt (i : Int)).f5) ≤ (rd_T70 mt (i : Int)).f4
            · have hd := decide_eq_true hle
              go_quiet (fail)
              go_wp2
              go_region
              go_wp2
              have hk1 := HN.out k hk
              rw [HA.out, adv, if_pos hle] at hk1
              have hk2 : k + 1 < N := by
                by_cases h2 : k + 1 < N
                · exact h2
                · rw [if_neg h2] at hk1; cases hk1
              rw [if_pos hk2] at hk1
              injection hk1 with _ hk3
              gi_roundg (N - (k + 1))
              case measure => omega
              case rel => exact ⟨k + 1, hk2, by omega, ⟨HJB.out _ _ _ ((below_drewN' _ _ _).setCell (p := ⟨B2, i, none⟩) (Nat.le_refl _) _) (KeepHi.setCell (p := ⟨B2, i, none⟩) (keepHi_drewN _ _ _) (Nat.lt_succ_self B2) _) HJ1.out⟩, ⟨hk3 ▸ (HI1.out.drewN (nq + 1)).put i _⟩⟩
            · have hd := decide_eq_false hle
              have hle' := hle
              go_quiet (fail)
              go_wp2
              go_roundg i
              case measure => omega
              case rel => exact ⟨i, rfl, by omega, by omega, ⟨HJB.out _ _ _ ((below_drewN' _ _ _).setCell (p := ⟨B2, i, none⟩) (Nat.le_refl _) _) (KeepHi.setCell (p := ⟨B2, i, none⟩) (keepHi_drewN _ _ _) (Nat.lt_succ_self B2) _) HJ1.out⟩, _, ⟨(HI1.out.drewN nq).put i (rd_T70 mt (i : Int)).f3⟩, ⟨by rw [HA.out, adv, if_neg (Int.not_le.2 hle')]⟩⟩
end
section
theorem clone_calls (ad : Addr) (c : Nat) (l : List Int) (w : World) (hr : Kd.C (Kd.int .i64) w (some ad) l.length l) (hl : l.length ≤ 12) :
    Calls Tryz.prog 176 #[.slice (some ad) l.length c] w fun e w' => (∃ v, e = .returned v ∧ (Kd.int .i64).R 3 w' w.heap.size (fun k => w.heap.size ≤ k) v l) ∧ Below w.heap.size w w' := by
  have heq := fun W => run_eql_slice_nil (P := Tryz.prog) W 30 3 (some ad) l.length c (by rfl)
  go_enter Tryz.func176, Tryz.ntmps176
  go_wp2_with (first | ((with_reducible refine gate_dst (N := 5) rfl ?_); refine Kd.R_lit (Kd.int .i64) (w0 := w) w.heap.size 3 rfl (N := 5) rfl (xs := []) (inner := []) (okp := fun k => w.heap.size ≤ k) (ok := fun k => w.heap.size ≤ k) ?hr ?hrep (fun _ h => h) ?hfresh (Below.refl _ _) (Nat.le_refl _) (by simp) ?_; (case hr => first | (go_simp; done) | (go_simp; rfl)); (case hfresh => exact Nat.le_refl _); (case hrep => exact ⟨rfl, fun j q hq => by simp at hq⟩); intro v1 w1 HO HB1 HG1 HE1; replace HO := Sd.mk HO; replace HB1 := Sd.mk HB1; clear HG1 HE1) | ((with_reducible refine gate_dst (N := 7) rfl ?_); refine Kd.R_append_row (Value.int .i64) 0 (h1 := fun _ => rfl) (w0 := w) w.heap.size rfl (.tmp 5) (.tmp 6) 30 3 (.int .i64 0) 8 rfl (by rfl) (by rfl) rfl (by omega) v1 [] l (some ad) l.length c (fun k => w.heap.size ≤ k) rfl rfl (fun _ h => Nat.le_trans HB1.out.size h) HO.out (Kd.C_below hr HB1.out) HB1.out HB1.out.size (by simp; omega) ?_; intro v2 w2 HO2 HB2 HG2 HE2; simp only [List.nil_append] at HO2; replace HO2 := Sd.mk HO2; replace HB2 := Sd.mk HB2; clear HG2 HE2))
  go_ret
  exact ⟨⟨_, rfl, HO2.out⟩, HB2.out⟩
end
end Go.Proofs.YtljfljekcpdpiaaGreat.PB
