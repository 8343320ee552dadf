import Derived.Test.YtkjkokgbhepmoaaI3
import Derived.Shelf.Abstract
import Derived.Laws.EntriesVeiled
set_option linter.unusedVariables false
set_option linter.unusedSimpArgs false
namespace Go.Proofs.Ytkjkokgbhepmoaa.PB
open Go.RowKit Go.Proofs.YtkjkokgbhepmoaaW.PrintWords Go.Proofs.YtkjkokgbhepmoaaW.PrintLast Go.Proofs.YtkjkokgbhepmoaaW.PrintMore
attribute [local go_sem] max2_int min2_int max_two min_two
set_option maxHeartbeats 1000000 in
theorem l122_calls (F g : Nat) (lb : Array Value) (cf : Int → Int) (N t0 t1 : Int) (w W : World) (eg : ∀ args w, (callFunc g args).run Try.prog w = .ok (.enter g args) w)
  (hq : CoefQ g lb cf N w) (hb : Below w.heap.size w W) (hF : W.heap[F]? = some (.cells #[.func (.func g) #[] lb, .int .i64 t0, .int .i64 t1] 105 (0, 0))) (x : Int) (hx0 : 0 ≤ x) (hx1 : x < N)
  (hw : wrap64 (cf x - t1) = cf x - t1) :
  Calls Try.prog 122 #[.int .i64 x, .pointer (some ⟨F, 0, none⟩)] W fun e w' => e = .returned (.int .i64 (cf x - t1)) ∧ ∃ q, w' = W.drewN q := by
 have h1 : ∀ n, Calls Try.prog g (#[.int .i64 x] ++ lb) (W.drewN n) fun e w' => e = .returned (.int .i64 (cf x)) ∧ ∃ q, w' = (W.drewN n).drewN q := fun n => hq _ (pw_below_drewN hb n) x hx0 hx1
 have H1 : Sd _ := ⟨h1⟩
 have HW := Sd.mk hw
 have c0 : W.cell? ⟨F, 0, none⟩ = some (.func (.func g) #[] lb) := (blk_cell hF 0).trans rfl
 have c2 : W.cell? ⟨F, 0 + 1 + 1, none⟩ = some (.int .i64 t1) := (blk_cell hF 2).trans rfl
 clear h1 hq hb hw hF
 generalize cf x = cx at *
 go_enter Try.func122, Try.ntmps122
 go_wp2_with fail
 go_quiet (first | (go_at_fn g; exact Calls.quiet_of (H1.out _)))
 go_wp2
 go_ret
 exact ⟨by show Ending.returned (.int .i64 (wrap64 (cx - t1))) = _; rw [HW.out], _, rfl⟩
set_option maxHeartbeats 1000000 in
theorem l124_calls (F g : Nat) (lb : Array Value) (cf : Int → Int) (N t0 t1 : Int) (w W : World) (eg : ∀ args w, (callFunc g args).run Try.prog w = .ok (.enter g args) w)
  (hq : CoefQ g lb cf N w) (hb : Below w.heap.size w W) (hF : W.heap[F]? = some (.cells #[.func (.func g) #[] lb, .int .i64 t0, .int .i64 t1] 105 (0, 0))) (x : Int) (hx0 : 0 ≤ x) (hx1 : x < N)
  (hw : wrap64 (t0 - cf x) = t0 - cf x) :
  Calls Try.prog 124 #[.int .i64 x, .pointer (some ⟨F, 0, none⟩)] W fun e w' => e = .returned (.int .i64 (t0 - cf x)) ∧ ∃ q, w' = W.drewN q := by
 have h1 : ∀ n, Calls Try.prog g (#[.int .i64 x] ++ lb) (W.drewN n) fun e w' => e = .returned (.int .i64 (cf x)) ∧ ∃ q, w' = (W.drewN n).drewN q := fun n => hq _ (pw_below_drewN hb n) x hx0 hx1
 have H1 : Sd _ := ⟨h1⟩
 have HW := Sd.mk hw
 have c0 : W.cell? ⟨F, 0, none⟩ = some (.func (.func g) #[] lb) := (blk_cell hF 0).trans rfl
 have c2 : W.cell? ⟨F, 0 + 1, none⟩ = some (.int .i64 t0) := (blk_cell hF 1).trans rfl
 clear h1 hq hb hw hF
 generalize cf x = cx at *
 go_enter Try.func124, Try.ntmps124
 go_wp2_with fail
 go_quiet (first | (go_at_fn g; exact Calls.quiet_of (H1.out _)))
 go_wp2
 go_ret
 exact ⟨by show Ending.returned (.int .i64 (wrap64 (t0 - cx))) = _; rw [HW.out], _, rfl⟩
def gT (df : Int → Int) (l : List S27) (j : Nat) : Int := max (df (j : Int) * (rd_T27 l (j : Int)).f0) (df (j : Int) * (rd_T27 l (j : Int)).f1)
def gTS (df : Int → Int) (l : List S27) (n : Nat) : Int := sumTo (gT df l) n
structure DfOk (df : Int → Int) (n : Nat) : Prop where
 at_ : ∀ j : Nat, j < n → -20000 ≤ df (j : Int) ∧ df (j : Int) ≤ 20000
theorem gT_bound {df : Int → Int} {l : List S27} (H : GOk l) (C : DfOk df l.length) : ∀ j, j < l.length → -3600000000000 ≤ gT df l j ∧ gT df l j ≤ 3600000000000 := by
 intro j hj
 have a1 := H.at_ j hj
 have a2 := C.at_ j hj
 have b1 := mulb (c := df j) (x := (rd_T27 l (j : Int)).f0) (by omega) (by omega) (by omega) (by omega)
 have b2 := mulb (c := df j) (x := (rd_T27 l (j : Int)).f1) (by omega) (by omega) (by omega) (by omega)
 unfold gT
 omega
theorem gTS_step {df : Int → Int} {l : List S27} (H : GOk l) (C : DfOk df l.length) {k : Nat} (hk : k < l.length) :
  wrap64 (gTS df l k + mx (wrap64 (df (k : Int) * (rd_T27 l (k : Int)).f0)) (wrap64 (df (k : Int) * (rd_T27 l (k : Int)).f1))) = gTS df l (k + 1) := by
 have hn := H.n12
 have a1 := H.at_ k hk
 have a2 := C.at_ k hk
 have b1 := mulb (c := df k) (x := (rd_T27 l (k : Int)).f0) (by omega) (by omega) (by omega) (by omega)
 have b2 := mulb (c := df k) (x := (rd_T27 l (k : Int)).f1) (by omega) (by omega) (by omega) (by omega)
 have b3 := gT_bound H C k hk
 have b4 := sumTo_bound (f := gT df l) (M := 3600000000000) (n := l.length) (gT_bound H C) k (by omega)
 rw [wrap_id (x := df k * (rd_T27 l (k : Int)).f0) (by omega) (by omega), wrap_id (x := df k * (rd_T27 l (k : Int)).f1) (by omega) (by omega), mx_max]
 show wrap64 (gTS df l k + gT df l k) = _
 unfold gTS
 rw [wrap_id (by omega) (by omega)]
 rfl
set_option maxHeartbeats 2000000 in
theorem greatest_calls (x : S63) (A : Option Addr) (c g : Nat) (lb : Array Value) (df : Int → Int) (w : World) (eg : ∀ args w, (callFunc g args).run Try.prog w = .ok (.enter g args) w)
  (hq : CoefQ g lb df x.f6.length w) (hC : Kd.C k27 w A x.f6.length x.f6) (hc : x.f6.length ≤ c) (hG : GOk x.f6) (hd : DfOk df x.f6.length) :
  Calls Try.prog 121 #[.agg #[.string x.f0, .int .i64 x.f1, .int .i64 x.f2, .int .i64 x.f3, .int .i64 x.f4, .int .i64 x.f5, .slice A x.f6.length c], .func (.func g) #[] lb] w fun e w' => e = .returned (.int .i64 (gTS df x.f6 x.f6.length)) ∧ Below w.heap.size w w' := by
 have hb0 : Below w.heap.size w (w.alloc (.cells #[.string x.f0, .int .i64 x.f1, .int .i64 x.f2, .int .i64 x.f3, .int .i64 x.f4, .int .i64 x.f5, .slice A x.f6.length c] 63)) := below_alloc (Below.refl _ _) _
 have HB := Sd.mk hb0
 have hbk := blk_new w (.cells #[.string x.f0, .int .i64 x.f1, .int .i64 x.f2, .int .i64 x.f3, .int .i64 x.f4, .int .i64 x.f5, .slice A x.f6.length c] 63)
 have HBK := Sd.mk hbk
 have HQ := Sd.mk hq
 have HC := Sd.mk hC
 have HG := Sd.mk hG
 have HD := Sd.mk hd
 clear hq hC hc hG hd hb0
 go_enter Try.func121, Try.ntmps121
 have hc6 : (w.alloc (.cells #[.string x.f0, .int .i64 x.f1, .int .i64 x.f2, .int .i64 x.f3, .int .i64 x.f4, .int .i64 x.f5, .slice A x.f6.length c] 63)).cell? ⟨w.heap.size, 0 + 6, none⟩ = some (.slice A x.f6.length c) := (blk_cell hbk 6).trans rfl
 go_wp2
 have hl12 : x.f6.length ≤ 12 := HG.out.n12
 have HL12 := Sd.mk hl12
 clear hc6 hbk hl12
 generalize w.alloc (.cells #[.string x.f0, .int .i64 x.f1, .int .i64 x.f2, .int .i64 x.f3, .int .i64 x.f4, .int .i64 x.f5, .slice A x.f6.length c] 63) = w0 at HB HBK ⊢
 go_loopg [11, 5] x.f6.length (fun gq v11 v5 wr => ∃ k : Nat, v11 = .int .i64 k ∧ v5 = .int .i64 (gTS df x.f6 k) ∧ k ≤ x.f6.length ∧ x.f6.length - k ≤ gq ∧ Sd (Below w.heap.size w wr))
 case atStart => exact ⟨0, rfl, rfl, Nat.zero_le _, by omega, HB⟩
 case round =>
  clear HB HBK
  obtain ⟨k, rfl, rfl, hk, hgk, HB⟩ := hrel
  have hl12 := HL12.out
  by_cases hlt : k < x.f6.length
  ·have hltz : (k : Int) < (x.f6.length : Int) := by omega
   obtain ⟨ad, rfl, hx0, hx1⟩ := at_T27 (Kd.C_below HC.out HB.out) (k : Int) (by omega) hltz
   simp only [Int.toNat_natCast] at hx0 hx1
   have HB2 := Sd.mk (below_alloc HB.out (.cells #[.int .i64 (rd_T27 x.f6 (k : Int)).f0, .int .i64 (rd_T27 x.f6 (k : Int)).f1] 27))
   have hbk := blk_new wr (.cells #[.int .i64 (rd_T27 x.f6 (k : Int)).f0, .int .i64 (rd_T27 x.f6 (k : Int)).f1] 27)
   have HSTEP := Sd.mk (gTS_step HG.out HD.out hlt)
   have h0 : (wr.alloc (.cells #[.int .i64 (rd_T27 x.f6 (k : Int)).f0, .int .i64 (rd_T27 x.f6 (k : Int)).f1] 27)).cell? ⟨wr.heap.size, 0, none⟩ = some (.int .i64 (rd_T27 x.f6 (k : Int)).f0) := (blk_cell hbk 0).trans rfl
   have h1 : (wr.alloc (.cells #[.int .i64 (rd_T27 x.f6 (k : Int)).f0, .int .i64 (rd_T27 x.f6 (k : Int)).f1] 27)).cell? ⟨wr.heap.size, 0 + 1, none⟩ = some (.int .i64 (rd_T27 x.f6 (k : Int)).f1) := (blk_cell hbk 1).trans rfl
   have HH0 := Sd.mk h0
   have HH1 := Sd.mk h1
   have hcoef : ∀ W, Below wr.heap.size wr W → Calls Try.prog g (#[.int .i64 (k : Int)] ++ lb) W fun e w' => e = .returned (.int .i64 (df k)) ∧ ∃ q, w' = W.drewN q := fun W hW => HQ.out W (below_then HB.out HB.out.size hW) _ (by omega) hltz
   have HCF := Sd.mk hcoef
   clear hbk h0 h1 hcoef
   go_upto_region 5 with (fail)
   generalize gTS df x.f6 k = acc at *
   have H1 : Sd (∀ n, Calls Try.prog g (#[.int .i64 (k : Int)] ++ lb) ((wr.alloc (.cells #[.int .i64 (rd_T27 x.f6 (k : Int)).f0, .int .i64 (rd_T27 x.f6 (k : Int)).f1] 27)).drewN n) fun e w' => e = .returned (.int .i64 (df k)) ∧ ∃ q, w' = ((wr.alloc (.cells #[.int .i64 (rd_T27 x.f6 (k : Int)).f0, .int .i64 (rd_T27 x.f6 (k : Int)).f1] 27)).drewN n).drewN q) := ⟨fun n => HCF.out _ (pw_below_drewN (below_alloc (Below.refl _ _) _) n)⟩
   generalize wr.alloc (.cells #[.int .i64 (rd_T27 x.f6 (k : Int)).f0, .int .i64 (rd_T27 x.f6 (k : Int)).f1] 27) = wa at *
   have h0 := HH0.out
   have h1 := HH1.out
   go_quiet (first | (go_at_fn g; exact Calls.quiet_of (H1.out _)))
   clear h0 h1 HH0 HH1 H1
   go_wp2
   all_goals
    go_roundg (x.f6.length - (k + 1))
    case measure => omega
    case rel => exact ⟨k + 1, rfl, by rw [← HSTEP.out]; unfold mx; first | rw [if_pos (by assumption)] | rw [if_neg (Int.not_lt.2 (by assumption))], by omega, by omega, ⟨by repeat (first | (with_reducible first | exact HB2.out | apply pw_below_drewN | apply below_drew1) | exact HB2.out)⟩⟩
  ·have hltz : ¬ (k : Int) < (x.f6.length : Int) := by omega
   obtain rfl : k = x.f6.length := by omega
   go_wp2
   go_ret
   exact ⟨rfl, HB.out⟩
def lowM (x : S63) : Int := wS S27.f0 x.f6 x.f6.length
def highM (x : S63) : Int := wS S27.f1 x.f6 x.f6.length
theorem ends_l0 {l : List S27} (H : GOk l) : ∀ (m i : Nat), i + m = l.length → Ev (fun k => batch_ends.l0 k (wS S27.f0 l i) (wS S27.f1 l i) l (l.length : Int) (i : Int)) (wS S27.f0 l l.length, wS S27.f1 l l.length)
 | 0, i, hi => by
  apply Ev.step
  simp only [batch_ends.l0, if_neg (show ¬ (i : Int) < (l.length : Int) by omega)]
  rw [show i = l.length by omega]
  exact Ev.const _
 | m + 1, i, hi => by
  have ih := ends_l0 H m (i + 1) (by omega)
  have hn := H.n12
  have hb := wS_bounds H i (by omega)
  have hc := H.at_ i (by omega)
  apply Ev.step
  simp only [batch_ends.l0, if_pos (show (i : Int) < (l.length : Int) by omega), if_pos (i_pos i), wrap_succ (i_pos i) (show (i : Int) ≤ 1000000000 by omega)]
  rw [wrap_id (x := wS S27.f0 l i + (rd_T27 l (i : Int)).f0) (by omega) (by omega), wrap_id (x := wS S27.f1 l i + (rd_T27 l (i : Int)).f1) (by omega) (by omega)]
  exact ih
theorem ends_calls (x : S63) (A : Option Addr) (c : Nat) (w : World) (hC : Kd.C k27 w A x.f6.length x.f6) (hc : x.f6.length ≤ c) (hG : GOk x.f6) :
  Calls Try.prog 119 #[.agg #[.string x.f0, .int .i64 x.f1, .int .i64 x.f2, .int .i64 x.f3, .int .i64 x.f4, .int .i64 x.f5, .slice A x.f6.length c]] w fun e w' => e = .returned (.tuple #[.int .i64 (lowM x), .int .i64 (highM x)]) ∧ Below w.heap.size w w' := by
 obtain ⟨K, hK⟩ := ends_l0 hG x.f6.length 0 (by omega)
 exact batch_ends.calls K x.f0 x.f1 x.f2 x.f3 x.f4 x.f5 A c x.f6 (lowM x) (highM x) w hC hc (hK K (Nat.le_refl _))
theorem lowM_bound {x : S63} (H : GOk x.f6) : 0 ≤ lowM x ∧ lowM x ≤ highM x ∧ highM x ≤ 1440000000 := by
 have h := wS_bounds H x.f6.length (Nat.le_refl _)
 have hn := H.n12
 unfold lowM highM
 omega
set_option maxHeartbeats 1000000 in
theorem l118_calls (x : S63) (A : Option Addr) (c : Nat) (w : World) (hC : Kd.C k27 w A x.f6.length x.f6) (hc : x.f6.length ≤ c) (hG : GOk x.f6) :
  Calls Try.prog 118 #[.agg #[.string x.f0, .int .i64 x.f1, .int .i64 x.f2, .int .i64 x.f3, .int .i64 x.f4, .int .i64 x.f5, .slice A x.f6.length c]] w fun e w' => e = .returned (.int .i64 (-lowM x)) ∧ Below w.heap.size w w' := by
 have hb0 : Below w.heap.size w (w.alloc (.cells #[.string x.f0, .int .i64 x.f1, .int .i64 x.f2, .int .i64 x.f3, .int .i64 x.f4, .int .i64 x.f5, .slice A x.f6.length c] 63)) := below_alloc (Below.refl _ _) _
 have hgo := ends_calls x A c (w.alloc (.cells #[.string x.f0, .int .i64 x.f1, .int .i64 x.f2, .int .i64 x.f3, .int .i64 x.f4, .int .i64 x.f5, .slice A x.f6.length c] 63)) (Kd.C_below hC hb0) hc hG
 have HLB := Sd.mk (lowM_bound hG)
 have HB := Sd.mk hb0
 clear hC hc hG hb0
 go_enter Try.func118, Try.ntmps118
 go_wp2_with fail
 generalize w.alloc (.cells #[.string x.f0, .int .i64 x.f1, .int .i64 x.f2, .int .i64 x.f3, .int .i64 x.f4, .int .i64 x.f5, .slice A x.f6.length c] 63) = w0 at *
 refine hgo.mono ?_
 clear hgo
 rintro e w1 ⟨rfl, hb⟩
 have hlb := HLB.out
 go_wp2
 go_ret
 exact ⟨rfl, below_trans' HB.out hb⟩
set_option maxHeartbeats 1000000 in
theorem l120_calls (x : S63) (A : Option Addr) (c F g : Nat) (lb : Array Value) (cf : Int → Int) (t0 t1 : Int) (w W : World) (eg : ∀ args w, (callFunc g args).run Try.prog w = .ok (.enter g args) w)
  (hq : CoefQ g lb cf x.f6.length w) (hb : Below w.heap.size w W) (hF : W.heap[F]? = some (.cells #[.func (.func g) #[] lb, .int .i64 t0, .int .i64 t1] 105 (0, 0)))
  (hC : Kd.C k27 W A x.f6.length x.f6) (hc : x.f6.length ≤ c) (hG : GOk x.f6) (hcf : CfOk cf x.f6.length) (ht : (-10000 ≤ t0 ∧ t0 ≤ 10000) ∧ -10000 ≤ t1 ∧ t1 ≤ 10000) :
  Calls Try.prog 120 (#[.agg #[.string x.f0, .int .i64 x.f1, .int .i64 x.f2, .int .i64 x.f3, .int .i64 x.f4, .int .i64 x.f5, .slice A x.f6.length c]] ++ #[.pointer (some ⟨F, 0, none⟩)]) W fun e w' => e = .returned (.int .i64 (gTS (fun k => cf k - t1) x.f6 x.f6.length)) ∧ Below W.heap.size W w' := by
 have hb0 : Below W.heap.size W (W.alloc (.cells #[.string x.f0, .int .i64 x.f1, .int .i64 x.f2, .int .i64 x.f3, .int .i64 x.f4, .int .i64 x.f5, .slice A x.f6.length c] 63)) := below_alloc (Below.refl _ _) _
 have hq2 : CoefQ 122 #[.pointer (some ⟨F, 0, none⟩)] (fun k => cf k - t1) x.f6.length (W.alloc (.cells #[.string x.f0, .int .i64 x.f1, .int .i64 x.f2, .int .i64 x.f3, .int .i64 x.f4, .int .i64 x.f5, .slice A x.f6.length c] 63)) := by
  intro W' hW' y hy0 hy1
  obtain ⟨j, hj, rfl⟩ : ∃ j : Nat, j < x.f6.length ∧ y = j := ⟨y.toNat, by omega, by omega⟩
  have h1 := hcf.at_ j hj
  exact l122_calls F g lb cf x.f6.length t0 t1 w W' eg hq (below_trans' hb (below_trans' hb0 hW')) (blk_below hF (below_trans' hb0 hW')) (j : Int) hy0 hy1 (wrap_id (by omega) (by omega))
 have hgo := greatest_calls x A c 122 #[.pointer (some ⟨F, 0, none⟩)] (fun k => cf k - t1) (W.alloc (.cells #[.string x.f0, .int .i64 x.f1, .int .i64 x.f2, .int .i64 x.f3, .int .i64 x.f4, .int .i64 x.f5, .slice A x.f6.length c] 63)) (enters_of Try.func122 (by kernel_rfl) rfl) hq2 (Kd.C_below hC hb0) hc hG ⟨fun j hj => by have h1 := hcf.at_ j hj; omega⟩
 have HB := Sd.mk hb0
 clear hC hc hG hb0 hq2 hq hb hF
 show Calls Try.prog 120 #[.agg #[.string x.f0, .int .i64 x.f1, .int .i64 x.f2, .int .i64 x.f3, .int .i64 x.f4, .int .i64 x.f5, .slice A x.f6.length c], .pointer (some ⟨F, 0, none⟩)] W _
 go_enter Try.func120, Try.ntmps120
 go_wp2_with fail
 generalize W.alloc (.cells #[.string x.f0, .int .i64 x.f1, .int .i64 x.f2, .int .i64 x.f3, .int .i64 x.f4, .int .i64 x.f5, .slice A x.f6.length c] 63) = w0 at *
 refine hgo.mono ?_
 clear hgo
 rintro e w1 ⟨rfl, hb⟩
 go_wp2
 go_ret
 exact ⟨rfl, below_trans' HB.out hb⟩
set_option maxHeartbeats 1000000 in
theorem l123_calls (x : S63) (A : Option Addr) (c F g : Nat) (lb : Array Value) (cf : Int → Int) (t0 t1 : Int) (w W : World) (eg : ∀ args w, (callFunc g args).run Try.prog w = .ok (.enter g args) w)
  (hq : CoefQ g lb cf x.f6.length w) (hb : Below w.heap.size w W) (hF : W.heap[F]? = some (.cells #[.func (.func g) #[] lb, .int .i64 t0, .int .i64 t1] 105 (0, 0)))
  (hC : Kd.C k27 W A x.f6.length x.f6) (hc : x.f6.length ≤ c) (hG : GOk x.f6) (hcf : CfOk cf x.f6.length) (ht : (-10000 ≤ t0 ∧ t0 ≤ 10000) ∧ -10000 ≤ t1 ∧ t1 ≤ 10000) :
  Calls Try.prog 123 (#[.agg #[.string x.f0, .int .i64 x.f1, .int .i64 x.f2, .int .i64 x.f3, .int .i64 x.f4, .int .i64 x.f5, .slice A x.f6.length c]] ++ #[.pointer (some ⟨F, 0, none⟩)]) W fun e w' => e = .returned (.int .i64 (gTS (fun k => t0 - cf k) x.f6 x.f6.length)) ∧ Below W.heap.size W w' := by
 have hb0 : Below W.heap.size W (W.alloc (.cells #[.string x.f0, .int .i64 x.f1, .int .i64 x.f2, .int .i64 x.f3, .int .i64 x.f4, .int .i64 x.f5, .slice A x.f6.length c] 63)) := below_alloc (Below.refl _ _) _
 have hq2 : CoefQ 124 #[.pointer (some ⟨F, 0, none⟩)] (fun k => t0 - cf k) x.f6.length (W.alloc (.cells #[.string x.f0, .int .i64 x.f1, .int .i64 x.f2, .int .i64 x.f3, .int .i64 x.f4, .int .i64 x.f5, .slice A x.f6.length c] 63)) := by
  intro W' hW' y hy0 hy1
  obtain ⟨j, hj, rfl⟩ : ∃ j : Nat, j < x.f6.length ∧ y = j := ⟨y.toNat, by omega, by omega⟩
  have h1 := hcf.at_ j hj
  exact l124_calls F g lb cf x.f6.length t0 t1 w W' eg hq (below_trans' hb (below_trans' hb0 hW')) (blk_below hF (below_trans' hb0 hW')) (j : Int) hy0 hy1 (wrap_id (by omega) (by omega))
 have hgo := greatest_calls x A c 124 #[.pointer (some ⟨F, 0, none⟩)] (fun k => t0 - cf k) (W.alloc (.cells #[.string x.f0, .int .i64 x.f1, .int .i64 x.f2, .int .i64 x.f3, .int .i64 x.f4, .int .i64 x.f5, .slice A x.f6.length c] 63)) (enters_of Try.func124 (by kernel_rfl) rfl) hq2 (Kd.C_below hC hb0) hc hG ⟨fun j hj => by have h1 := hcf.at_ j hj; omega⟩
 have HB := Sd.mk hb0
 clear hC hc hG hb0 hq2 hq hb hF
 show Calls Try.prog 123 #[.agg #[.string x.f0, .int .i64 x.f1, .int .i64 x.f2, .int .i64 x.f3, .int .i64 x.f4, .int .i64 x.f5, .slice A x.f6.length c], .pointer (some ⟨F, 0, none⟩)] W _
 go_enter Try.func123, Try.ntmps123
 go_wp2_with fail
 generalize W.alloc (.cells #[.string x.f0, .int .i64 x.f1, .int .i64 x.f2, .int .i64 x.f3, .int .i64 x.f4, .int .i64 x.f5, .slice A x.f6.length c] 63) = w0 at *
 refine hgo.mono ?_
 clear hgo
 rintro e w1 ⟨rfl, hb⟩
 go_wp2
 go_ret
 exact ⟨rfl, below_trans' HB.out hb⟩
def rUp (u : Int) (x : S63) : Int := 1000000 * x.f2 - mn (u * lowM x) (u * highM x)
def rDn (t : Int) (x : S63) : Int := mx (t * lowM x) (t * highM x) - 1000000 * x.f2
theorem mulr {c x : Int} (h1 : -10000 ≤ c) (h2 : c ≤ 10000) (h3 : 0 ≤ x) (h4 : x ≤ 1440000000) : -14400000000000 ≤ c * x ∧ c * x ≤ 14400000000000 := by
 have e1 := Int.mul_le_mul_of_nonneg_right h1 h3
 have e2 := Int.mul_le_mul_of_nonneg_right h2 h3
 omega
set_option maxHeartbeats 1000000 in
theorem l125_calls (x : S63) (A : Option Addr) (c U : Nat) (u : Int) (W : World) (hU : W.heap[U]? = some (.cells #[.int .i64 u] 3 (0, 0)))
  (hC : Kd.C k27 W A x.f6.length x.f6) (hc : x.f6.length ≤ c) (hG : GOk x.f6) (hu : -10000 ≤ u ∧ u ≤ 10000) (hr : -1000 ≤ x.f2 ∧ x.f2 ≤ 1000) :
  Calls Try.prog 125 (#[.agg #[.string x.f0, .int .i64 x.f1, .int .i64 x.f2, .int .i64 x.f3, .int .i64 x.f4, .int .i64 x.f5, .slice A x.f6.length c]] ++ #[.pointer (some ⟨U, 0, none⟩)]) W fun e w' => e = .returned (.int .i64 (rUp u x)) ∧ Below W.heap.size W w' := by
 have hb0 : Below W.heap.size W (W.alloc (.cells #[.string x.f0, .int .i64 x.f1, .int .i64 x.f2, .int .i64 x.f3, .int .i64 x.f4, .int .i64 x.f5, .slice A x.f6.length c] 63)) := below_alloc (Below.refl _ _) _
 have hgo := ends_calls x A c (W.alloc (.cells #[.string x.f0, .int .i64 x.f1, .int .i64 x.f2, .int .i64 x.f3, .int .i64 x.f4, .int .i64 x.f5, .slice A x.f6.length c] 63)) (Kd.C_below hC hb0) hc hG
 have hlb := lowM_bound hG
 have hp1 := mulr hu.1 hu.2 hlb.1 (Int.le_trans hlb.2.1 hlb.2.2)
 have hp2 := mulr hu.1 hu.2 (Int.le_trans hlb.1 hlb.2.1) hlb.2.2
 have HP1 := Sd.mk hp1
 have HP2 := Sd.mk hp2
 have HR := Sd.mk hr
 have HB := Sd.mk hb0
 have BU := Sd.mk (blk_below hU hb0)
 have BM := Sd.mk (blk_new W (.cells #[.string x.f0, .int .i64 x.f1, .int .i64 x.f2, .int .i64 x.f3, .int .i64 x.f4, .int .i64 x.f5, .slice A x.f6.length c] 63))
 clear hC hc hG hb0 hu hr hlb hp1 hp2 hU
 show Calls Try.prog 125 #[.agg #[.string x.f0, .int .i64 x.f1, .int .i64 x.f2, .int .i64 x.f3, .int .i64 x.f4, .int .i64 x.f5, .slice A x.f6.length c], .pointer (some ⟨U, 0, none⟩)] W _
 go_enter Try.func125, Try.ntmps125
 go_wp2_with fail
 generalize W.alloc (.cells #[.string x.f0, .int .i64 x.f1, .int .i64 x.f2, .int .i64 x.f3, .int .i64 x.f4, .int .i64 x.f5, .slice A x.f6.length c] 63) = w0 at *
 refine hgo.mono ?_
 clear hgo
 rintro e w1 ⟨rfl, hb⟩
 have HB1 := Sd.mk hb
 have hm2 : w1.cell? ⟨W.heap.size, 0 + 2, none⟩ = some (.int .i64 x.f2) := (blk_cell (blk_below BM.out hb) 2).trans rfl
 have hu0 : w1.cell? ⟨U, 0, none⟩ = some (.int .i64 u) := (blk_cell (blk_below BU.out hb) 0).trans rfl
 obtain ⟨hp1, hp1'⟩ := HP1.out
 obtain ⟨hp2, hp2'⟩ := HP2.out
 obtain ⟨hr1, hr2⟩ := HR.out
 clear hb
 go_wp2
 all_goals
  go_ret
  refine ⟨?_, below_trans' HB.out HB1.out⟩
  unfold rUp mn
  first | rw [if_pos (by assumption)] | rw [if_neg (Int.not_lt.2 (by assumption))]
  try rfl
set_option maxHeartbeats 1000000 in
theorem l126_calls (x : S63) (A : Option Addr) (c U : Nat) (u : Int) (W : World) (hU : W.heap[U]? = some (.cells #[.int .i64 u] 3 (0, 0)))
  (hC : Kd.C k27 W A x.f6.length x.f6) (hc : x.f6.length ≤ c) (hG : GOk x.f6) (hu : -10000 ≤ u ∧ u ≤ 10000) (hr : -1000 ≤ x.f2 ∧ x.f2 ≤ 1000) :
  Calls Try.prog 126 (#[.agg #[.string x.f0, .int .i64 x.f1, .int .i64 x.f2, .int .i64 x.f3, .int .i64 x.f4, .int .i64 x.f5, .slice A x.f6.length c]] ++ #[.pointer (some ⟨U, 0, none⟩)]) W fun e w' => e = .returned (.int .i64 (rDn u x)) ∧ Below W.heap.size W w' := by
 have hb0 : Below W.heap.size W (W.alloc (.cells #[.string x.f0, .int .i64 x.f1, .int .i64 x.f2, .int .i64 x.f3, .int .i64 x.f4, .int .i64 x.f5, .slice A x.f6.length c] 63)) := below_alloc (Below.refl _ _) _
 have hgo := ends_calls x A c (W.alloc (.cells #[.string x.f0, .int .i64 x.f1, .int .i64 x.f2, .int .i64 x.f3, .int .i64 x.f4, .int .i64 x.f5, .slice A x.f6.length c] 63)) (Kd.C_below hC hb0) hc hG
 have hlb := lowM_bound hG
 have hp1 := mulr hu.1 hu.2 hlb.1 (Int.le_trans hlb.2.1 hlb.2.2)
 have hp2 := mulr hu.1 hu.2 (Int.le_trans hlb.1 hlb.2.1) hlb.2.2
 have HP1 := Sd.mk hp1
 have HP2 := Sd.mk hp2
 have HR := Sd.mk hr
 have HB := Sd.mk hb0
 have BU := Sd.mk (blk_below hU hb0)
 have BM := Sd.mk (blk_new W (.cells #[.string x.f0, .int .i64 x.f1, .int .i64 x.f2, .int .i64 x.f3, .int .i64 x.f4, .int .i64 x.f5, .slice A x.f6.length c] 63))
 clear hC hc hG hb0 hu hr hlb hp1 hp2 hU
 show Calls Try.prog 126 #[.agg #[.string x.f0, .int .i64 x.f1, .int .i64 x.f2, .int .i64 x.f3, .int .i64 x.f4, .int .i64 x.f5, .slice A x.f6.length c], .pointer (some ⟨U, 0, none⟩)] W _
 go_enter Try.func126, Try.ntmps126
 go_wp2_with fail
 generalize W.alloc (.cells #[.string x.f0, .int .i64 x.f1, .int .i64 x.f2, .int .i64 x.f3, .int .i64 x.f4, .int .i64 x.f5, .slice A x.f6.length c] 63) = w0 at *
 refine hgo.mono ?_
 clear hgo
 rintro e w1 ⟨rfl, hb⟩
 have HB1 := Sd.mk hb
 have hm2 : w1.cell? ⟨W.heap.size, 0 + 2, none⟩ = some (.int .i64 x.f2) := (blk_cell (blk_below BM.out hb) 2).trans rfl
 have hu0 : w1.cell? ⟨U, 0, none⟩ = some (.int .i64 u) := (blk_cell (blk_below BU.out hb) 0).trans rfl
 obtain ⟨hp1, hp1'⟩ := HP1.out
 obtain ⟨hp2, hp2'⟩ := HP2.out
 obtain ⟨hr1, hr2⟩ := HR.out
 clear hb
 go_wp2
 all_goals
  go_ret
  refine ⟨?_, below_trans' HB.out HB1.out⟩
  unfold rDn mx
  first | rw [if_pos (by assumption)] | rw [if_neg (Int.not_lt.2 (by assumption))]
  try rfl
end Go.Proofs.Ytkjkokgbhepmoaa.PB

namespace Go.Proofs.Ytkjkokgbhepmoaa.PB
open Go.RowKit Go.Proofs.YtkjkokgbhepmoaaW.PrintWords Go.Proofs.YtkjkokgbhepmoaaW.PrintLast Go.Proofs.YtkjkokgbhepmoaaW.PrintMore
attribute [local go_sem] max2_int min2_int max_two min_two
theorem goesV_ {P : Program} {ops : Array Oper} {Q : Exit → Act → World → Prop} {oi : Oper} {N : Option Tmp} {a : Act} {w : World} {K : Act → World → Prop} (f : FuncId) (lb : Array Value) (eg : ∀ args w, (callFunc f args).run P w = .ok (.enter f args) w)
  {t : Tmp} {as_ : Array Operand} {ts : Array TypeId} (args : Array Value) (hw : Region.wanted oi (yielded ops a.tmps) = true) (hN : oi.dst = N) (hop : oi.op = .call { callee := .value (.tmp t), args := as_, argTypes := ts })
  (ht : a.eval (.tmp t) = .func (.func f) #[] lb) (hargs : as_.map a.eval = args) (h : Calls P f (args ++ lb) w fun e w' => ∃ v, e = .returned v ∧ K (a.put N v) w') : if Region.wanted oi (yielded ops a.tmps) = true then Oper.wp P oi a w K Q else K (a.put N undef) w := by
 refine call_ f (args ++ lb) hw hN ?_ h
 have he := eg (args ++ lb) w
 have ht' : a.tmps.getD t undef = .func (.func f) #[] lb := ht
 unfold execOp
 simp [hop, resolve, Deferred.ofValue, invoke, Act.eval, ht', ht, hargs, he]
def FacQ (g : Nat) (lb : Array Value) (fc : S63 → Int) (mt : List S63) (w : World) : Prop :=
 ∀ W, Below w.heap.size w W → ∀ i : Nat, i < mt.length → ∀ A c, Kd.C k27 W A (rd_T63 mt (i : Int)).f6.length (rd_T63 mt (i : Int)).f6 → (rd_T63 mt (i : Int)).f6.length ≤ c →
  Calls Try.prog g (#[.agg #[.string (rd_T63 mt (i : Int)).f0, .int .i64 (rd_T63 mt (i : Int)).f1, .int .i64 (rd_T63 mt (i : Int)).f2, .int .i64 (rd_T63 mt (i : Int)).f3, .int .i64 (rd_T63 mt (i : Int)).f4, .int .i64 (rd_T63 mt (i : Int)).f5, .slice A (rd_T63 mt (i : Int)).f6.length c]] ++ lb) W fun e w' => e = .returned (.int .i64 (fc (rd_T63 mt (i : Int)))) ∧ Below W.heap.size W w'
def lineT : Bool × List (List Nat × List Nat) := (true, [([], []), ([0], [0]), ([], []), ([], []), ([2, 3], [2, 3]), ([4], [4]), ([1, 5, 4], [1, 5]), ([0, 1, 2, 3, 4, 5, 6], []), ([7, 6, 6, 0, 1, 2, 3, 4, 5, 6], [6, 7])])
def lineB : List Nat := [0, 1, 0, 0, 12, 28, 63, 127, 255]
theorem line_tab : rtab .any (opsOf Try.f117 5) = lineT := by kernel_rfl
theorem line_bits : waitsOk lineT.2 lineB = true := by kernel_rfl
structure LineW (w W : World) (b : Int) (fl : List Int) : Prop where
 below : Below w.heap.size w W
 res : W.heap[w.heap.size + 1]? = some (.cells #[.slice none 0 0, .int .i64 0] 51 (0, 0))
 out : ∃ A c, W.heap[w.heap.size + 2]? = some (.cells #[.slice A fl.length c, .int .i64 b] 51 (0, 0)) ∧ Kd.R (Kd.int .i64) 3 W w.heap.size (fun _ => True) (.slice A fl.length c) fl
set_option maxHeartbeats 4000000 in
set_option maxRecDepth 100000 in
theorem line_calls (A0 A1 A2 A3 : Option Addr) (n0 c0 c1 n2 c2 n3 c3 : Nat) (mt : List S63) (a4 a5 a6 b : Int) (g : Nat) (lb : Array Value) (fc : S63 → Int) (w : World)
  (eg : ∀ args w, (callFunc g args).run Try.prog w = .ok (.enter g args) w) (hq : FacQ g lb fc mt w) (hC : Kd.C k63 w A1 mt.length mt) (hm : mt.length ≤ 12) :
  Calls Try.prog 117 #[.agg #[.slice A0 n0 c0, .slice A1 mt.length c1, .slice A2 n2 c2, .slice A3 n3 c3, .int .i64 a4, .int .i64 a5, .int .i64 a6], .int .i64 b, .func (.func g) #[] lb] w fun e w' =>
   ∃ v, e = .returned (.agg #[v, .int .i64 b]) ∧ Kd.R (Kd.int .i64) 3 w' w.heap.size (fun _ => True) v (mt.map fc) ∧ Below w.heap.size w w' := by
 have hlw : LineW w (((w.alloc (.cells #[.slice A0 n0 c0, .slice A1 mt.length c1, .slice A2 n2 c2, .slice A3 n3 c3, .int .i64 a4, .int .i64 a5, .int .i64 a6] 29)).alloc (.cells #[.slice none 0 0, .int .i64 0] 51)).alloc (.cells #[.slice none 0 0, .int .i64 b] 51)) b (List.map fc (mt.take 0)) := by
  refine ⟨below_alloc (below_alloc (below_alloc (Below.refl _ _) _) _) _, ?_, none, 0, ?_, ?_⟩
  ·have := blk_alloc (blk_new (w.alloc (.cells #[.slice A0 n0 c0, .slice A1 mt.length c1, .slice A2 n2 c2, .slice A3 n3 c3, .int .i64 a4, .int .i64 a5, .int .i64 a6] 29)) (.cells #[.slice none 0 0, .int .i64 0] 51)) (.cells #[.slice none 0 0, .int .i64 b] 51)
   simpa using this
  ·have := blk_new ((w.alloc (.cells #[.slice A0 n0 c0, .slice A1 mt.length c1, .slice A2 n2 c2, .slice A3 n3 c3, .int .i64 a4, .int .i64 a5, .int .i64 a6] 29)).alloc (.cells #[.slice none 0 0, .int .i64 0] 51)) (.cells #[.slice none 0 0, .int .i64 b] 51)
   simpa using this
  ·exact Kd.R_nil _ _ _ _ _
 have HQ := Sd.mk hq
 have HC := Sd.mk hC
 have HM := Sd.mk hm
 have HLW := Sd.mk hlw
 have hc1 : (((w.alloc (.cells #[.slice A0 n0 c0, .slice A1 mt.length c1, .slice A2 n2 c2, .slice A3 n3 c3, .int .i64 a4, .int .i64 a5, .int .i64 a6] 29)).alloc (.cells #[.slice none 0 0, .int .i64 0] 51)).alloc (.cells #[.slice none 0 0, .int .i64 b] 51)).cell? ⟨w.heap.size, 0 + 1, none⟩ = some (.slice A1 mt.length c1) := (blk_cell (blk_alloc (blk_alloc (blk_new w _) _) _) 1).trans rfl
 clear hq hC hlw
 go_enter Try.func117, Try.ntmps117
 go_wp2
 clear hc1
 generalize ((w.alloc (.cells #[.slice A0 n0 c0, .slice A1 mt.length c1, .slice A2 n2 c2, .slice A3 n3 c3, .int .i64 a4, .int .i64 a5, .int .i64 a6] 29)).alloc (.cells #[.slice none 0 0, .int .i64 0] 51)).alloc (.cells #[.slice none 0 0, .int .i64 b] 51) = w0 at HLW ⊢
 go_loopg [15] mt.length (fun gq v15 wr => ∃ k : Nat, v15 = .int .i64 k ∧ k ≤ mt.length ∧ mt.length - k ≤ gq ∧ Sd (LineW w wr b (List.map fc (mt.take k))))
 case atStart => exact ⟨0, rfl, Nat.zero_le _, by omega, HLW⟩
 case round =>
  clear HLW
  obtain ⟨k, rfl, hk, hgk, HW⟩ := hrel
  have hm12 := HM.out
  by_cases hlt : k < mt.length
  ·have hltz : (k : Int) < (mt.length : Int) := by omega
   obtain ⟨A, c, hO, hR⟩ := HW.out.out
   obtain ⟨ad, A6, c6, rfl, hx0, hx1, hx2, hx3, hx4, hx5, hx6, hl6, hi6⟩ := at_T63 (Kd.C_below HC.out HW.out.below) (k : Int) (by omega) hltz
   simp only [Int.toNat_natCast] at hx0 hx1 hx2 hx3 hx4 hx5 hx6
   have BM := Sd.mk (blk_new wr (.cells #[.string (rd_T63 mt (k : Int)).f0, .int .i64 (rd_T63 mt (k : Int)).f1, .int .i64 (rd_T63 mt (k : Int)).f2, .int .i64 (rd_T63 mt (k : Int)).f3, .int .i64 (rd_T63 mt (k : Int)).f4, .int .i64 (rd_T63 mt (k : Int)).f5, .slice A6 (rd_T63 mt (k : Int)).f6.length c6] 63))
   have BO := Sd.mk (blk_alloc hO (.cells #[.string (rd_T63 mt (k : Int)).f0, .int .i64 (rd_T63 mt (k : Int)).f1, .int .i64 (rd_T63 mt (k : Int)).f2, .int .i64 (rd_T63 mt (k : Int)).f3, .int .i64 (rd_T63 mt (k : Int)).f4, .int .i64 (rd_T63 mt (k : Int)).f5, .slice A6 (rd_T63 mt (k : Int)).f6.length c6] 63))
   have BR := Sd.mk (blk_alloc HW.out.res (.cells #[.string (rd_T63 mt (k : Int)).f0, .int .i64 (rd_T63 mt (k : Int)).f1, .int .i64 (rd_T63 mt (k : Int)).f2, .int .i64 (rd_T63 mt (k : Int)).f3, .int .i64 (rd_T63 mt (k : Int)).f4, .int .i64 (rd_T63 mt (k : Int)).f5, .slice A6 (rd_T63 mt (k : Int)).f6.length c6] 63))
   have HB := Sd.mk (below_alloc HW.out.below (.cells #[.string (rd_T63 mt (k : Int)).f0, .int .i64 (rd_T63 mt (k : Int)).f1, .int .i64 (rd_T63 mt (k : Int)).f2, .int .i64 (rd_T63 mt (k : Int)).f3, .int .i64 (rd_T63 mt (k : Int)).f4, .int .i64 (rd_T63 mt (k : Int)).f5, .slice A6 (rd_T63 mt (k : Int)).f6.length c6] 63))
   have HR := Sd.mk (Kd.R_alloc hR (.cells #[.string (rd_T63 mt (k : Int)).f0, .int .i64 (rd_T63 mt (k : Int)).f1, .int .i64 (rd_T63 mt (k : Int)).f2, .int .i64 (rd_T63 mt (k : Int)).f3, .int .i64 (rd_T63 mt (k : Int)).f4, .int .i64 (rd_T63 mt (k : Int)).f5, .slice A6 (rd_T63 mt (k : Int)).f6.length c6] 63))
   have NXO := Sd.mk (show w.heap.size + 2 ≠ wr.heap.size from Nat.ne_of_lt (blk_lt hO))
   have hfl : (List.map fc (mt.take k)).length = k := by simp; omega
   have HFL := Sd.mk hfl
   have HSTEP : Sd (List.map fc (mt.take k) ++ [fc (rd_T63 mt (k : Int))] = List.map fc (mt.take (k + 1))) := ⟨by rw [List.take_succ_eq_append_getElem hlt, List.map_append]; simp [rd_T63, hlt]⟩
   have HCALL := Sd.mk (fun W hW => HQ.out W hW k hlt A6 c6)
   have HL6 := Sd.mk hl6
   have HI6 := Sd.mk (Kd.C_alloc hi6 (.cells #[.string (rd_T63 mt (k : Int)).f0, .int .i64 (rd_T63 mt (k : Int)).f1, .int .i64 (rd_T63 mt (k : Int)).f2, .int .i64 (rd_T63 mt (k : Int)).f3, .int .i64 (rd_T63 mt (k : Int)).f4, .int .i64 (rd_T63 mt (k : Int)).f5, .slice A6 (rd_T63 mt (k : Int)).f6.length c6] 63))
   clear hO hR HW hfl hl6 hi6
   go_upto_region 5 with (fail)
   clear hx0 hx1 hx2 hx3 hx4 hx5 hx6
   generalize hfv : List.map fc (mt.take k) = fl at *
   clear hfv
   generalize hWX : wr.alloc (.cells #[.string (rd_T63 mt (k : Int)).f0, .int .i64 (rd_T63 mt (k : Int)).f1, .int .i64 (rd_T63 mt (k : Int)).f2, .int .i64 (rd_T63 mt (k : Int)).f3, .int .i64 (rd_T63 mt (k : Int)).f4, .int .i64 (rd_T63 mt (k : Int)).f5, .slice A6 (rd_T63 mt (k : Int)).f6.length c6] 63) = WX at *
   clear hWX
   generalize hXX : wr.heap.size = X at *
   generalize hOO : w.heap.size + 2 = O at *
   refine start_ (n := 9) (S := fun w' => w'.cell? ⟨O, 0, none⟩ = some (.slice A fl.length c) ∧ w'.cell? ⟨X, 0, none⟩ = some (.string (rd_T63 mt (k : Int)).f0) ∧ w'.cell? ⟨X, 1, none⟩ = some (.int .i64 (rd_T63 mt (k : Int)).f1) ∧ w'.cell? ⟨X, 2, none⟩ = some (.int .i64 (rd_T63 mt (k : Int)).f2) ∧ w'.cell? ⟨X, 3, none⟩ = some (.int .i64 (rd_T63 mt (k : Int)).f3) ∧ w'.cell? ⟨X, 4, none⟩ = some (.int .i64 (rd_T63 mt (k : Int)).f4) ∧ w'.cell? ⟨X, 5, none⟩ = some (.int .i64 (rd_T63 mt (k : Int)).f5) ∧ w'.cell? ⟨X, 6, none⟩ = some (.slice A6 (rd_T63 mt (k : Int)).f6.length c6)) (ds := [8]) #[false, false, false, false, false, false, false, false, false] (by kernel_rfl) rfl rfl ⟨(blk_cell BO.out 0).trans rfl, (blk_cell BM.out 0).trans rfl, (blk_cell BM.out 1).trans rfl, (blk_cell BM.out 2).trans rfl, (blk_cell BM.out 3).trans rfl, (blk_cell BM.out 4).trans rfl, (blk_cell BM.out 5).trans rfl, (blk_cell BM.out 6).trans rfl⟩ (fun hHeld => ?_); refine with_tabW line_tab line_bits (fun HT_ HW_ => ?_)
   replace BM := Sd.mk (blk_drew BM.out)
   replace BO := Sd.mk (blk_drew BO.out)
   replace BR := Sd.mk (blk_drew BR.out)
   replace HB := Sd.mk (below_drew1 HB.out)
   replace HI6 := Sd.mk (Kd.C_drew HI6.out)
   replace HR := Sd.mk (Kd.R_drew HR.out)
   generalize WX.drew = W0 at BM BO BR HB HI6 HR hHeld ⊢
   refine pure_ (i := 0) (N := some 19) (v := ?_) (a' := ?_) #[true, false, false, false, false, false, false, false, false] rfl rfl (any_of HT_.out (by kernel_rfl)) (fun _ _ _ h => h) (Or.inl ⟨by rfl, ?_⟩) ?_ ?_
   rotate_left
   ·exact tW
   rotate_left
   ·exact tP
   refine take_ (i := 1) (N := some 20) (v := ?_) (a' := ?_) #[true, true, false, false, false, false, false, false, false] rfl rfl (take_ofW HT_.out HW_.out (by kernel_rfl)) (fun _ _ _ h => h) (Or.inl ⟨by rfl, ?_⟩) hHeld ?_ ?_
   rotate_left
   ·rintro w' ⟨s0, s1, s2, s3, s4, s5, s6, s7⟩
    go_simp
    with_reducible rfl
   rotate_left
   ·exact tP
   refine pure_ (i := 2) (N := some 21) (v := ?_) (a' := ?_) #[true, true, true, false, false, false, false, false, false] rfl rfl (any_of HT_.out (by kernel_rfl)) (fun _ _ _ h => h) (Or.inl ⟨by rfl, ?_⟩) ?_ ?_
   rotate_left
   ·exact tW
   rotate_left
   ·exact tP
   refine take_ (i := 3) (N := some 22) (v := ?_) (a' := ?_) #[true, true, true, true, false, false, false, false, false] rfl rfl (take_ofW HT_.out HW_.out (by kernel_rfl)) (fun _ _ _ h => h) (Or.inl ⟨by rfl, ?_⟩) hHeld ?_ ?_
   rotate_left
   ·rintro w' ⟨s0, s1, s2, s3, s4, s5, s6, s7⟩
    go_simp
    with_reducible rfl
   rotate_left
   ·exact tP
   refine one_ (i := 4) (N := some 23) #[true, true, true, true, true, false, false, false, false] rfl rfl (one_of HT_.out (by kernel_rfl)) (by decide) (fun K hK => ?_)
   refine goesV_ g lb eg #[.agg #[.string (rd_T63 mt (k : Int)).f0, .int .i64 (rd_T63 mt (k : Int)).f1, .int .i64 (rd_T63 mt (k : Int)).f2, .int .i64 (rd_T63 mt (k : Int)).f3, .int .i64 (rd_T63 mt (k : Int)).f4, .int .i64 (rd_T63 mt (k : Int)).f5, .slice A6 (rd_T63 mt (k : Int)).f6.length c6]] (by rfl) rfl rfl (by rfl) (by (try simp only [List.map_toArray, List.map_cons, List.map_nil]); first | done | rfl) ?_
   refine (HCALL.out W0 HB.out HI6.out HL6.out).mono ?_
   rintro e w4 ⟨rfl, hb⟩
   refine ⟨_, rfl, ?_⟩
   replace BM := Sd.mk (blk_below BM.out hb)
   replace BO := Sd.mk (blk_below BO.out hb)
   replace BR := Sd.mk (blk_below BR.out hb)
   replace HB := Sd.mk (below_step HB.out hb)
   replace HR := Sd.mk (Kd.R_below HR.out hb)
   clear hb HI6 HCALL
   refine hK.out _ _ ⟨(blk_cell BO.out 0).trans rfl, (blk_cell BM.out 0).trans rfl, (blk_cell BM.out 1).trans rfl, (blk_cell BM.out 2).trans rfl, (blk_cell BM.out 3).trans rfl, (blk_cell BM.out 4).trans rfl, (blk_cell BM.out 5).trans rfl, (blk_cell BM.out 6).trans rfl⟩ (fun hHeld => ?_)
   clear hK K
   refine norm_ (a' := ?_) ?_ ?_
   rotate_left
   ·show Act.put _ (some 23) _ = _
    exact tP
   refine one_ (i := 5) (N := some 24) #[true, true, true, true, true, true, false, false, false] rfl rfl (one_of HT_.out (by kernel_rfl)) (by decide) (fun K hK => ?_)
   refine value_ (w1 := ?_) (v := ?_) (by rfl) rfl ?_ ?_
   rotate_left 2
   ·go_simp
    constructor
    ·rfl
    ·rfl
   refine hK.out _ _ ⟨(blk_cell (blk_alloc BO.out _) 0).trans rfl, (blk_cell (blk_alloc BM.out _) 0).trans rfl, (blk_cell (blk_alloc BM.out _) 1).trans rfl, (blk_cell (blk_alloc BM.out _) 2).trans rfl, (blk_cell (blk_alloc BM.out _) 3).trans rfl, (blk_cell (blk_alloc BM.out _) 4).trans rfl, (blk_cell (blk_alloc BM.out _) 5).trans rfl, (blk_cell (blk_alloc BM.out _) 6).trans rfl⟩ (fun hHeld => ?_)
   clear hK K
   refine norm_ (a' := ?_) ?_ ?_
   rotate_left
   ·show Act.put _ (some 24) _ = _
    exact tP
   refine one_ (i := 6) (N := some 25) #[true, true, true, true, true, true, true, false, false] rfl rfl (one_of HT_.out (by kernel_rfl)) (by decide) (fun K hK => ?_)
   refine Kd.R_append_step (Kd.int .i64) (w0 := w) w.heap.size (by rfl) (.tmp 20) (.tmp 24) 30 3 (.int .i64 0) 8 rfl Try.underlying30 info3 rfl (by decide) (by omega) (.slice A fl.length c) fl (fc (rd_T63 mt (k : Int))) [.int .i64 (fc (rd_T63 mt (k : Int)))] (fun _ => True) (fun _ => False) rfl rfl ?aP (fun _ hk => hk.elim) ?aF ?aO ?aB ?aS ?aL ?_
   (case aP => exact rfl)
   (case aB => exact (by repeat (first | (with_reducible first | exact HB.out | apply below_alloc | apply pw_below_drewN | apply below_drew1) | exact HB.out)))
   (case aF => exact (fun _ _ => trivial))
   (case aO => exact (by (with_reducible repeat (first | apply Kd.R_alloc | apply Kd.R_drewN | apply Kd.R_drew)); exact HR.out))
   (case aS => exact below_size HB.out)
   (case aL => exact (by rw [HFL.out]; exact Nat.le_trans (Nat.mul_le_mul_right 8 (show k + 1 ≤ 13 by omega)) (by decide)))
   intro v1 w5 ho hb hg hat
   have HB2 := Sd.mk hb
   have HO := Sd.mk ho
   have BO2 := Sd.mk (blk_grown BO.out hg (Kd.R_ne HR.out BO.out (by decide)))
   have BM2 := Sd.mk (blk_grown BM.out hg (Kd.R_ne HR.out BM.out (by decide)))
   have BR2 := Sd.mk (blk_grown BR.out hg (Kd.R_ne HR.out BR.out (by decide)))
   clear HB HR BO BM BR hb ho hat hg
   refine hK.out _ _ ⟨(blk_cell BO2.out 0).trans rfl, (blk_cell BM2.out 0).trans rfl, (blk_cell BM2.out 1).trans rfl, (blk_cell BM2.out 2).trans rfl, (blk_cell BM2.out 3).trans rfl, (blk_cell BM2.out 4).trans rfl, (blk_cell BM2.out 5).trans rfl, (blk_cell BM2.out 6).trans rfl⟩ (fun hHeld => ?_)
   clear hK K
   refine norm_ (a' := ?_) ?_ ?_
   rotate_left
   ·show Act.put _ (some 25) _ = _
    exact tP
   refine pure_ (i := 7) (N := some 26) (v := ?_) (a' := ?_) #[true, true, true, true, true, true, true, true, false] rfl rfl (any_of HT_.out (by kernel_rfl)) (fun _ _ _ h => h) (Or.inl ⟨by rfl, ?_⟩) ?_ ?_
   rotate_left
   ·exact tW
   rotate_left
   ·exact tP
   have HO' := Sd.mk (Kd.R_types (t := 51) HO.out BO2.out (by decide))
   clear HO
   obtain ⟨A1', c1', rfl⟩ := Kd.R_slice HO'.out
   have hw0 : w5.cell? ⟨O, 0, none⟩ = some (.slice A fl.length c) := (blk_cell BO2.out 0).trans rfl
   have hwf := blk_frozen BO2.out 0
   refine last_ (i := 8) (N := none) #[true, true, true, true, true, true, true, true, true] rfl rfl (one_of HT_.out (by kernel_rfl)) (by decide) (fun K hK => ?_)
   refine skip_ (w1 := ?_) (by rfl) rfl ?_ ?_
   rotate_left
   ·go_simp
    rfl
   refine hK.out _ _ ?_
   clear hK K
   refine done_ (done_of HT_.out (by kernel_rfl)) ?_
   clear hw0 hwf
   go_wp2
   go_roundg (mt.length - (k + 1))
   case measure => omega
   case rel =>
    subst hOO
    refine ⟨k + 1, rfl, by omega, by omega, ⟨?_⟩⟩
    rw [← HSTEP.out]
    refine ⟨below_set HB2.out (by omega), blk_far BR2.out (p := ⟨w.heap.size + 2, 0, none⟩) (by simp) _, A1', c1', ?_, ?_⟩
    ·have h_ := blk_put (cs := #[.slice A fl.length c, .int .i64 b]) BO2.out 0 (.slice A1' (fl.length + 1) c1') rfl
     simpa using h_
    ·have h_ := Kd.R_mono (ok' := fun _ => True) (Kd.R_far HO'.out (fun _ hk => hk.2) (.slice A1' (fl.length + 1) c1') (p := ⟨w.heap.size + 2, 0, none⟩)) (fun _ _ => trivial)
     simpa using h_
  ·have hltz : ¬ (k : Int) < (mt.length : Int) := by omega
   obtain rfl : k = mt.length := by omega
   obtain ⟨A, c, hO, hR⟩ := HW.out.out
   have hT : List.map fc (mt.take mt.length) = List.map fc mt := by rw [List.take_length]
   rw [hT] at hO hR
   rw [List.length_map] at hO hR
   have HR := Sd.mk (Kd.R_types (t := 51) hR hO (by decide))
   have HR2 := Sd.mk (Kd.R_types (t := 51) hR HW.out.res (by decide))
   have c0 : wr.cell? ⟨w.heap.size + 2, 0, none⟩ = some (.slice A mt.length c) := (blk_cell hO 0).trans rfl
   have c1 : wr.cell? ⟨w.heap.size + 2, 1, none⟩ = some (.int .i64 b) := (blk_cell hO 1).trans rfl
   have r0 : wr.cell? ⟨w.heap.size + 1, 0, none⟩ = some (.slice none 0 0) := (blk_cell HW.out.res 0).trans rfl
   have r1 : wr.cell? ⟨w.heap.size + 1, 1, none⟩ = some (.int .i64 0) := (blk_cell HW.out.res 1).trans rfl
   have f0 := blk_frozen HW.out.res 0
   have f1 := blk_frozen HW.out.res 1
   clear hO hR hT
   go_wp2
   refine bodyPost_ret (results_cell_row rfl _ _ (w.heap.size + 1) 51 #[.slice A mt.length c, .int .i64 b] (0, 0) _ rfl (blk_put (cs := #[.slice A mt.length c, .int .i64 0]) (blk_put (cs := #[.slice none 0 0, .int .i64 0]) HW.out.res 0 _ rfl) 1 _ rfl) Try.underlying51 (by decide) (by kernel_rfl)) rfl ?_
   refine ⟨_, rfl, ?_, below_set (below_set HW.out.below (by omega)) (by omega)⟩
   exact Kd.R_mono (Kd.R_far (Kd.R_far HR2.out (fun _ hk => hk.2) _) (fun _ hk => hk.2) _) (fun _ _ => trivial)
end Go.Proofs.Ytkjkokgbhepmoaa.PB

namespace Go.Proofs.Ytkjkokgbhepmoaa.PB
open Go.RowKit Go.Proofs.YtkjkokgbhepmoaaW.PrintWords Go.Proofs.YtkjkokgbhepmoaaW.PrintLast Go.Proofs.YtkjkokgbhepmoaaW.PrintMore
attribute [local go_sem] max2_int min2_int max_two min_two
def tgOf (s : List S27) (p : List S65) (j : Nat) : S27 := if j < s.length then rd_T27 s (j : Int) else (rd_T65 p ((j - s.length : Nat) : Int)).f2
def upF (s : List S27) (p : List S65) (j : Nat) (x : S63) : Int := gTS (fun k => coefOf s p j k - (tgOf s p j).f1) x.f6 x.f6.length
def dnF (s : List S27) (p : List S65) (j : Nat) (x : S63) : Int := gTS (fun k => (tgOf s p j).f0 - coefOf s p j k) x.f6 x.f6.length
def pairL (mt : List S63) (s : List S27) (p : List S65) (j : Nat) : List S51 := [⟨mt.map (upF s p j), 0⟩, ⟨mt.map (dnF s p j), 0⟩]
def headL (mt : List S63) (s : List S27) (p : List S65) (a6 : Int) : Nat → List S51
 | 0 => [⟨mt.map (fun x => -lowM x), -1000 * a6⟩]
 | n + 1 => headL mt s p a6 n ++ pairL mt s p n
def linesV (mt : List S63) (s : List S27) (p : List S65) (a4 a5 a6 : Int) : List S51 := headL mt s p a6 (s.length + p.length) ++ [⟨mt.map (rUp a5), 0⟩, ⟨mt.map (rDn a4), 0⟩]
theorem headL_len (mt : List S63) (s : List S27) (p : List S65) (a6 : Int) : ∀ n, (headL mt s p a6 n).length = 1 + 2 * n
 | 0 => rfl
 | n + 1 => by simp only [headL, List.length_append, headL_len mt s p a6 n, pairL, List.length_cons, List.length_nil]; omega
section
variable {o : List ByteArray} {mt : List S63} {s : List S27} {p : List S65} {a4 a5 a6 : Int}
theorem mat_gok (H : BatchOk o mt s p a4 a5 a6) {i : Nat} (hi : i < mt.length) : GOk (rd_T63 mt (i : Int)).f6 := by
 have M := H.mats i hi
 refine ⟨by rw [M.len]; exact H.o12, fun j hj => ?_⟩
 have := M.con j (by rw [← M.len]; exact hj)
 omega
theorem coef_cfok (H : BatchOk o mt s p a4 a5 a6) {j : Nat} (hj : j < s.length + p.length) : CfOk (coefOf s p j) o.length := by
 refine ⟨fun i hi => ?_⟩
 unfold coefOf
 by_cases h : j < s.length
 ·rw [if_pos h]; split <;> omega
 ·rw [if_neg h]
  exact (H.pros (j - s.length) (by omega)).coef i hi
theorem tg_ok (H : BatchOk o mt s p a4 a5 a6) {j : Nat} (hj : j < s.length + p.length) : (-10000 ≤ (tgOf s p j).f0 ∧ (tgOf s p j).f0 ≤ 10000) ∧ -10000 ≤ (tgOf s p j).f1 ∧ (tgOf s p j).f1 ≤ 10000 := by
 unfold tgOf
 by_cases h : j < s.length
 ·rw [if_pos h]
  have := H.shares j h
  omega
 ·rw [if_neg h]
  have := (H.pros (j - s.length) (by omega)).target
  omega
theorem form_tg {w W : World} {j : Nat} {f : F105} (h : FormAt w W s p j f) : f.tg = tgOf s p j := by
 unfold tgOf
 by_cases hj : j < s.length
 ·obtain ⟨I, e, _⟩ := h.1 hj
  rw [if_pos hj, e]
 ·obtain ⟨P, A, c, e, _⟩ := h.2 (by omega)
  rw [if_neg hj, e]
theorem form_enters {w W : World} {j : Nat} {f : F105} (h : FormAt w W s p j f) : ∀ args w, (callFunc f.fn args).run Try.prog w = .ok (.enter f.fn args) w := by
 by_cases hj : j < s.length
 ·obtain ⟨I, e, _⟩ := h.1 hj
  rw [e]
  exact enters_of Try.func111 (by kernel_rfl) rfl
 ·obtain ⟨P, A, c, e, _⟩ := h.2 (by omega)
  rw [e]
  exact enters_of Try.func112 (by kernel_rfl) rfl
theorem facQ118 (H : BatchOk o mt s p a4 a5 a6) (w : World) : FacQ 118 #[] (fun x => -lowM x) mt w := by
 intro W hW i hi A c hC hc
 have h := l118_calls (rd_T63 mt (i : Int)) A c W hC hc (mat_gok H hi)
 simpa using h
theorem facQ_form (H : BatchOk o mt s p a4 a5 a6) {w W0 W1 : World} {j F : Nat} {f : F105} (hF : FormAt w W0 s p j f) (hj : j < s.length + p.length) (hb : Below w.heap.size w W0)
  (hFc : W1.heap[F]? = some (.cells #[.func (.func f.fn) #[] f.lb, .int .i64 f.tg.f0, .int .i64 f.tg.f1] 105 (0, 0))) (hb1 : Below W0.heap.size W0 W1) :
  FacQ 120 #[.pointer (some ⟨F, 0, none⟩)] (upF s p j) mt W1 ∧ FacQ 123 #[.pointer (some ⟨F, 0, none⟩)] (dnF s p j) mt W1 := by
 have T := tg_ok H hj
 have hco : ∀ i : Nat, i < mt.length → CoefQ f.fn f.lb (coefOf s p j) (rd_T63 mt (i : Int)).f6.length W0 ∧ CfOk (coefOf s p j) (rd_T63 mt (i : Int)).f6.length := by
  intro i hi
  have M := H.mats i hi
  refine ⟨hF.coef hb _ (fun hh => ?_), by rw [M.len]; exact coef_cfok H hj⟩
  have := (H.pros (j - s.length) (by omega)).len
  rw [M.len, this]
  exact Int.le_refl _
 constructor
 ·intro W hW i hi A c hC hc
  have h := l120_calls (rd_T63 mt (i : Int)) A c F f.fn f.lb (coefOf s p j) f.tg.f0 f.tg.f1 W0 W (form_enters hF) (hco i hi).1 (below_trans' hb1 hW) (blk_below hFc hW) hC hc (mat_gok H hi) (hco i hi).2 (by rw [form_tg hF]; exact T)
  rw [form_tg hF] at h
  exact h
 ·intro W hW i hi A c hC hc
  have h := l123_calls (rd_T63 mt (i : Int)) A c F f.fn f.lb (coefOf s p j) f.tg.f0 f.tg.f1 W0 W (form_enters hF) (hco i hi).1 (below_trans' hb1 hW) (blk_below hFc hW) hC hc (mat_gok H hi) (hco i hi).2 (by rw [form_tg hF]; exact T)
  rw [form_tg hF] at h
  exact h
theorem facQ125 (H : BatchOk o mt s p a4 a5 a6) {W1 : World} {U : Nat} {u : Int} (hu : -10000 ≤ u ∧ u ≤ 10000) (hU : W1.heap[U]? = some (.cells #[.int .i64 u] 3 (0, 0))) :
  FacQ 125 #[.pointer (some ⟨U, 0, none⟩)] (rUp u) mt W1 ∧ FacQ 126 #[.pointer (some ⟨U, 0, none⟩)] (rDn u) mt W1 :=
 ⟨fun W hW i hi A c hC hc => l125_calls (rd_T63 mt (i : Int)) A c U u W (blk_below hU hW) hC hc (mat_gok H hi) hu (H.mats i hi).redox,
  fun W hW i hi A c hC hc => l126_calls (rd_T63 mt (i : Int)) A c U u W (blk_below hU hW) hC hc (mat_gok H hi) hu (H.mats i hi).redox⟩
end
theorem R_litW {α : Type} (d : Kd α) (base e : Nat) {W : World} {xs : List α} {inner : List Value} {ok okp : Nat → Prop} (hrep : Reps (d.M W base okp) d.sz xs inner) (hok : ∀ k, okp k → ok k) (hfresh : ok W.heap.size) (hbase : base ≤ W.heap.size) (hm : xs.length ≤ 9223372036854775807) :
  d.R e (W.alloc (.cells inner.toArray e)) base ok (.slice (some ⟨W.heap.size, 0, none⟩) xs.length xs.length) xs := by
 refine ⟨fun k hk => ?_, inner, ?_, ?_⟩
 ·have : W.heap.size = k := by simpa [Value.ownBlock] using hk
  subst this
  exact hfresh
 ·have h2 := World.ownsRow_lit (base := base) (e := e) (size := d.sz) W inner.toArray xs.length hbase (by simpa [maxLen] using hm) (by simpa using hrep.1)
  simpa using h2
 ·refine hrep.imp_ (fun p c hp => d.M_mono (fun k hk => ⟨hok k hk.1, fun he => ?_⟩) (Kd.M_below (d.M_bound hp) (below_alloc (Below.refl _ _) _)))
  have h3 : k = W.heap.size := by simpa [Value.ownBlock] using he
  have := hk.2.2.1
  omega
theorem R_one51 {W : World} {base : Nat} {v : Value} {x : S51} (h : (Kd.int .i64).R 3 W base (fun _ => True) v x.f0) (hbase : base ≤ W.heap.size) :
  k51.R 51 (W.alloc (.cells #[v, .int .i64 x.f1] 51)) base (fun _ => True) (.slice (some ⟨W.heap.size, 0, none⟩) 1 1) [x] := by
 have hr : Reps (k51.M W base (fun _ => True)) k51.sz [x] [v, .int .i64 x.f1] := Reps.snoc (Reps.none _ _) (k51_mkM W base _ x h) rfl
 exact R_litW k51 base 51 hr (fun _ h => h) trivial hbase (by simp)
theorem pair_reads {W : World} {base : Nat} {v3 v1 v2 : Value} {xs : List S51} {x x' : S51} (HL : k51.R 51 W base (fun _ => True) v3 xs) (hx : 0 < xs.length) (h1 : (Kd.int .i64).R 3 W base (fun _ => True) v1 x.f0) (h2 : (Kd.int .i64).R 3 W base (fun _ => True) v2 x'.f0) (hbase : base ≤ W.heap.size) :
  ReadsRow (k51.M (W.alloc (.cells #[v1, .int .i64 x.f1, v2, .int .i64 x'.f1] 51)) base (fun j => some j ≠ v3.ownBlock)) k51.sz (W.alloc (.cells #[v1, .int .i64 x.f1, v2, .int .i64 x'.f1] 51)) (some ⟨W.heap.size, 0, none⟩) 2 [x, x'] := by
 obtain ⟨g, cap, rfl, _, hlt, cells, hg⟩ := Kd.R_form HL hx
 have e : ∀ j, j ≠ g → some j ≠ (Value.slice (some ⟨g, 0, none⟩) xs.length cap).ownBlock := by
  intro j hj he
  have : g = j := by simpa [Value.ownBlock] using he.symm
  exact hj this.symm
 have r1 := Kd.R_mono (Kd.R_types (t := 51) h1 hg (by decide)) (fun j hj => e j hj.2)
 have r2 := Kd.R_mono (Kd.R_types (t := 51) h2 hg (by decide)) (fun j hj => e j hj.2)
 have hr : Reps (k51.M W base (fun j => some j ≠ (Value.slice (some ⟨g, 0, none⟩) xs.length cap).ownBlock)) k51.sz [x, x'] [v1, .int .i64 x.f1, v2, .int .i64 x'.f1] := Reps.snoc (Reps.snoc (Reps.none _ _) (k51_mkM W base _ x r1) rfl) (k51_mkM W base _ x' r2) rfl
 have r := R_litW k51 base 51 hr (fun _ h => h) (e _ (Nat.ne_of_gt hlt)) hbase (by simp)
 obtain ⟨A, c, he, _, hrd⟩ := OwnRow.reads r.2
 cases he
 exact ReadsRow.imp_ hrd (Below.refl _ _) (fun _ _ hp => k51.M_mono (fun _ hk => hk.1) hp)
theorem info51 : (Try.prog.info? 51).map (fun i => (i.zero, i.size, i.bytes)) = some (some (.agg #[.slice none 0 0, .int .i64 0]), 2, 32) := by kernel_rfl
structure LinesW (w W : World) (cs : Array Value) (xs : List S51) (v : Value) : Prop where
 below : Below w.heap.size w W
 box : W.heap[w.heap.size]? = some (.cells cs 29 (0, 0))
 list : k51.R 51 W w.heap.size (fun _ => True) v xs
theorem LinesW.later {w W W' : World} {cs : Array Value} {xs : List S51} {v : Value} (h : LinesW w W cs xs v) (hb : Below W.heap.size W W') : LinesW w W' cs xs v :=
 ⟨below_step h.below hb, blk_below h.box hb, Kd.R_below h.list hb⟩
structure FormsOk (w W : World) (s : List S27) (p : List S65) (A : Option Addr) (c : Nat) (fs : List F105) : Prop where
 row : k105.R 105 W w.heap.size (fun _ => True) (.slice A fs.length c) fs
 at_ : ∀ j (hj : j < fs.length), FormAt w W s p j fs[j]
theorem FormsOk.reads {w W : World} {s : List S27} {p : List S65} {A : Option Addr} {c : Nat} {fs : List F105} (h : FormsOk w W s p A c fs) : Kd.C k105 W A fs.length fs := by
 obtain ⟨A', c', he, _, hC⟩ := Kd.R_reads h.row
 cases he
 exact hC
theorem FormsOk.later {w W W' : World} {s : List S27} {p : List S65} {A : Option Addr} {c : Nat} {fs : List F105} (h : FormsOk w W s p A c fs) (hb : Below W.heap.size W W') : FormsOk w W' s p A c fs :=
 ⟨Kd.R_below h.row hb, fun j hj => (h.at_ j hj).below hb⟩
theorem FormsOk.grown {w W W' : World} {s : List S27} {p : List S65} {A : Option Addr} {c : Nat} {fs : List F105} {base : Nat} {v3 : Value} {xs : List S51} (h : FormsOk w W s p A c fs) (HL : k51.R 51 W base (fun _ => True) v3 xs) (hx : 0 < xs.length) (hg : W.grownBy W' v3.ownBlock) : FormsOk w W' s p A c fs := by
 refine ⟨?_, fun j hj => ⟨fun hh => ?_, fun hh => ?_⟩⟩
 ·obtain ⟨g, cap, rfl, _, hlt, cells, hgb⟩ := Kd.R_form HL hx
  refine Kd.R_mono (Kd.R_grown (Kd.R_types (t := 51) h.row hgb (by decide)) hg (fun k hk he => hk.2 ?_)) (fun _ _ => trivial)
  have : g = k := by simpa [Value.ownBlock] using he.symm
  exact this.symm
 ·obtain ⟨I, e, hI⟩ := (h.at_ j hj).1 hh
  exact ⟨I, e, blk_grown hI hg (Kd.R_ne HL hI (by decide))⟩
 ·obtain ⟨P, A1, c1, e, hP, hC⟩ := (h.at_ j hj).2 hh
  exact ⟨P, A1, c1, e, blk_grown hP hg (Kd.R_ne HL hP (by decide)), hC⟩
def linesT : Bool × List (List Nat × List Nat) := (true, [([], []), ([], []), ([], []), ([1, 2], [1, 2]), ([], []), ([], []), ([4, 5, 3], [4, 5]), ([3, 6], [3, 6]), ([0, 7, 6], [0, 7]), ([8, 8, 0, 1, 2, 3, 4, 5, 6, 7, 8], [0, 8])])
def linesB : List Nat := [0, 0, 0, 6, 0, 0, 62, 126, 255, 511]
theorem lines_tab : rtab .any (opsOf Try.f63 5) = linesT := by kernel_rfl
theorem lines_bits : waitsOk linesT.2 linesB = true := by kernel_rfl
def lines7T : Bool × List (List Nat × List Nat) := (true, [([], []), ([0], [0]), ([1], [1]), ([], []), ([3], [3]), ([4], [4]), ([], []), ([], []), ([6, 2, 0, 1, 2, 6, 7], [2, 6]), ([7, 5, 8, 0, 1, 2, 3, 4, 5, 6, 7, 8], [5, 7])])
def lines7B : List Nat := [0, 1, 3, 0, 8, 24, 0, 0, 199, 511]
theorem lines7_tab : rtab .any (opsOf Try.f63 7) = lines7T := by kernel_rfl
theorem lines7_bits : waitsOk lines7T.2 lines7B = true := by kernel_rfl
def lines8T : Bool × List (List Nat × List Nat) := (true, [([], []), ([], []), ([], []), ([1, 2], [1, 2]), ([], []), ([], []), ([4, 5, 3], [4, 5]), ([3, 6], [3, 6]), ([0, 7, 6], [0, 7]), ([8, 8, 0, 1, 2, 3, 4, 5, 6, 7, 8], [8])])
theorem lines8_tab : rtab .any (opsOf Try.f63 8) = lines8T := by kernel_rfl
theorem lines8_bits : waitsOk lines8T.2 linesB = true := by kernel_rfl
set_option maxHeartbeats 8000000 in
set_option maxRecDepth 100000 in
theorem lines_calls (A0_0 : Option Addr) (c0_0 : Nat) (l0_0 : List ByteArray) (A0_1 : Option Addr) (c0_1 : Nat) (l0_1 : List (S63)) (A0_2 : Option Addr) (c0_2 : Nat) (l0_2 : List (S27)) (A0_3 : Option Addr) (c0_3 : Nat) (l0_3 : List (S65)) (a0_4 : Int) (a0_5 : Int) (a0_6 : Int) (w : World) (hr0_0 : Kd.C Kd.string w A0_0 l0_0.length l0_0) (hc0_0 : l0_0.length ≤ c0_0) (hr0_1 : Kd.C k63 w A0_1 l0_1.length l0_1) (hc0_1 : l0_1.length ≤ c0_1) (hr0_2 : Kd.C k27 w A0_2 l0_2.length l0_2) (hc0_2 : l0_2.length ≤ c0_2) (hr0_3 : Kd.C k65 w A0_3 l0_3.length l0_3) (hc0_3 : l0_3.length ≤ c0_3)
  (H : BatchOk l0_0 l0_1 l0_2 l0_3 a0_4 a0_5 a0_6) :
  Calls Try.prog 63 #[.agg #[.slice A0_0 l0_0.length c0_0, .slice A0_1 l0_1.length c0_1, .slice A0_2 l0_2.length c0_2, .slice A0_3 l0_3.length c0_3, .int .i64 a0_4, .int .i64 a0_5, .int .i64 a0_6]] w fun e w' => ∃ v0_ : Value, e = .returned v0_ ∧ Kd.R k51 51 w' w.heap.size (fun _ => True) v0_ (linesV l0_1 l0_2 l0_3 a0_4 a0_5 a0_6) ∧ Below w.heap.size w w' := by
 have hb0 : Below w.heap.size w (w.alloc (.cells #[.slice A0_0 l0_0.length c0_0, .slice A0_1 l0_1.length c0_1, .slice A0_2 l0_2.length c0_2, .slice A0_3 l0_3.length c0_3, .int .i64 a0_4, .int .i64 a0_5, .int .i64 a0_6] 29)) := below_alloc (Below.refl _ _) _
 have hbk := blk_new w (.cells #[.slice A0_0 l0_0.length c0_0, .slice A0_1 l0_1.length c0_1, .slice A0_2 l0_2.length c0_2, .slice A0_3 l0_3.length c0_3, .int .i64 a0_4, .int .i64 a0_5, .int .i64 a0_6] 29)
 have hgo := line_calls A0_0 A0_1 A0_2 A0_3 l0_0.length c0_0 c0_1 l0_2.length c0_2 l0_3.length c0_3 l0_1 a0_4 a0_5 a0_6 (-1000 * a0_6) 118 #[] (fun x => -lowM x) (w.alloc (.cells #[.slice A0_0 l0_0.length c0_0, .slice A0_1 l0_1.length c0_1, .slice A0_2 l0_2.length c0_2, .slice A0_3 l0_3.length c0_3, .int .i64 a0_4, .int .i64 a0_5, .int .i64 a0_6] 29)) (enters_of Try.func118 (by kernel_rfl) rfl) (facQ118 H _) (Kd.C_below hr0_1 hb0) H.m12
 have HR0 := Sd.mk hr0_0
 have HC0 := Sd.mk hc0_0
 have HR1 := Sd.mk hr0_1
 have HC1 := Sd.mk hc0_1
 have HR2 := Sd.mk hr0_2
 have HC2 := Sd.mk hc0_2
 have HR3 := Sd.mk hr0_3
 have HC3 := Sd.mk hc0_3
 have HH := Sd.mk H
 have HB := Sd.mk hb0
 have BK := Sd.mk hbk
 have hw6 := H.wanted
 obtain ⟨hw6a, hw6b⟩ := hw6
 have k0 : (w.alloc (.cells #[.slice A0_0 l0_0.length c0_0, .slice A0_1 l0_1.length c0_1, .slice A0_2 l0_2.length c0_2, .slice A0_3 l0_3.length c0_3, .int .i64 a0_4, .int .i64 a0_5, .int .i64 a0_6] 29)).cell? ⟨w.heap.size, 0, none⟩ = some (.slice A0_0 l0_0.length c0_0) := (blk_cell hbk 0).trans rfl
 have k1 : (w.alloc (.cells #[.slice A0_0 l0_0.length c0_0, .slice A0_1 l0_1.length c0_1, .slice A0_2 l0_2.length c0_2, .slice A0_3 l0_3.length c0_3, .int .i64 a0_4, .int .i64 a0_5, .int .i64 a0_6] 29)).cell? ⟨w.heap.size, 1, none⟩ = some (.slice A0_1 l0_1.length c0_1) := (blk_cell hbk 1).trans rfl
 have k2 : (w.alloc (.cells #[.slice A0_0 l0_0.length c0_0, .slice A0_1 l0_1.length c0_1, .slice A0_2 l0_2.length c0_2, .slice A0_3 l0_3.length c0_3, .int .i64 a0_4, .int .i64 a0_5, .int .i64 a0_6] 29)).cell? ⟨w.heap.size, 2, none⟩ = some (.slice A0_2 l0_2.length c0_2) := (blk_cell hbk 2).trans rfl
 have k3 : (w.alloc (.cells #[.slice A0_0 l0_0.length c0_0, .slice A0_1 l0_1.length c0_1, .slice A0_2 l0_2.length c0_2, .slice A0_3 l0_3.length c0_3, .int .i64 a0_4, .int .i64 a0_5, .int .i64 a0_6] 29)).cell? ⟨w.heap.size, 3, none⟩ = some (.slice A0_3 l0_3.length c0_3) := (blk_cell hbk 3).trans rfl
 have k4 : (w.alloc (.cells #[.slice A0_0 l0_0.length c0_0, .slice A0_1 l0_1.length c0_1, .slice A0_2 l0_2.length c0_2, .slice A0_3 l0_3.length c0_3, .int .i64 a0_4, .int .i64 a0_5, .int .i64 a0_6] 29)).cell? ⟨w.heap.size, 4, none⟩ = some (.int .i64 a0_4) := (blk_cell hbk 4).trans rfl
 have k5 : (w.alloc (.cells #[.slice A0_0 l0_0.length c0_0, .slice A0_1 l0_1.length c0_1, .slice A0_2 l0_2.length c0_2, .slice A0_3 l0_3.length c0_3, .int .i64 a0_4, .int .i64 a0_5, .int .i64 a0_6] 29)).cell? ⟨w.heap.size, 5, none⟩ = some (.int .i64 a0_5) := (blk_cell hbk 5).trans rfl
 have k6 : (w.alloc (.cells #[.slice A0_0 l0_0.length c0_0, .slice A0_1 l0_1.length c0_1, .slice A0_2 l0_2.length c0_2, .slice A0_3 l0_3.length c0_3, .int .i64 a0_4, .int .i64 a0_5, .int .i64 a0_6] 29)).cell? ⟨w.heap.size, 6, none⟩ = some (.int .i64 a0_6) := (blk_cell hbk 6).trans rfl
 have k6' : (w.alloc (.cells #[.slice A0_0 l0_0.length c0_0, .slice A0_1 l0_1.length c0_1, .slice A0_2 l0_2.length c0_2, .slice A0_3 l0_3.length c0_3, .int .i64 a0_4, .int .i64 a0_5, .int .i64 a0_6] 29)).cell? ⟨w.heap.size, 0 + 6, none⟩ = some (.int .i64 a0_6) := (blk_cell hbk 6).trans rfl
 clear hr0_0 hc0_0 hr0_1 hc0_1 hr0_2 hc0_2 hr0_3 hc0_3 H hb0 hbk
 go_enter Try.func63, Try.ntmps63
 go_wp2_with fail
 clear k0 k1 k2 k3 k4 k5 k6 k6' hw6a hw6b
 generalize w.alloc (.cells #[.slice A0_0 l0_0.length c0_0, .slice A0_1 l0_1.length c0_1, .slice A0_2 l0_2.length c0_2, .slice A0_3 l0_3.length c0_3, .int .i64 a0_4, .int .i64 a0_5, .int .i64 a0_6] 29) = w0 at *
 refine hgo.mono ?_
 clear hgo
 rintro e w1 ⟨v, rfl, hR, hb⟩
 have hlw : LinesW w (w1.alloc (.cells #[v, .int .i64 (-1000 * a0_6)] 51)) #[.slice A0_0 l0_0.length c0_0, .slice A0_1 l0_1.length c0_1, .slice A0_2 l0_2.length c0_2, .slice A0_3 l0_3.length c0_3, .int .i64 a0_4, .int .i64 a0_5, .int .i64 a0_6] (headL l0_1 l0_2 l0_3 a0_6 0) (.slice (some ⟨w1.heap.size, 0, none⟩) 1 1) :=
  ⟨below_alloc (below_step HB.out hb) _, blk_alloc (blk_below BK.out hb) _, R_one51 (x := ⟨List.map (fun x => -lowM x) l0_1, -1000 * a0_6⟩) (Kd.R_lower hR (below_size HB.out)) (below_size (below_step HB.out hb))⟩
 have HLW := Sd.mk hlw
 have hbA : Below w.heap.size w (w1.alloc (.cells #[v, .int .i64 (-1000 * a0_6)] 51)) := hlw.below
 have H := HH.out
 have hsz : (l0_2.length + l0_3.length + 1) * 24 ≤ 140737488355328 := Nat.le_trans (Nat.mul_le_mul_right 24 (show l0_2.length + l0_3.length + 1 ≤ 19 by have := H.slen; have := H.o12; have := H.p6; omega)) (by decide)
 have hgo := forms_calls A0_0 c0_0 l0_0 A0_1 c0_1 l0_1 A0_2 c0_2 l0_2 A0_3 c0_3 l0_3 a0_4 a0_5 a0_6 w (w1.alloc (.cells #[v, .int .i64 (-1000 * a0_6)] 51)) hbA (Kd.C_below HR0.out hbA) HC0.out (Kd.C_below HR1.out hbA) HC1.out (Kd.C_below HR2.out hbA) HC2.out HR3.out HC3.out hsz
 have k0 : (w1.alloc (.cells #[v, .int .i64 (-1000 * a0_6)] 51)).cell? ⟨w.heap.size, 0, none⟩ = some (.slice A0_0 l0_0.length c0_0) := (blk_cell hlw.box 0).trans rfl
 have k1 : (w1.alloc (.cells #[v, .int .i64 (-1000 * a0_6)] 51)).cell? ⟨w.heap.size, 1, none⟩ = some (.slice A0_1 l0_1.length c0_1) := (blk_cell hlw.box 1).trans rfl
 have k2 : (w1.alloc (.cells #[v, .int .i64 (-1000 * a0_6)] 51)).cell? ⟨w.heap.size, 2, none⟩ = some (.slice A0_2 l0_2.length c0_2) := (blk_cell hlw.box 2).trans rfl
 have k3 : (w1.alloc (.cells #[v, .int .i64 (-1000 * a0_6)] 51)).cell? ⟨w.heap.size, 3, none⟩ = some (.slice A0_3 l0_3.length c0_3) := (blk_cell hlw.box 3).trans rfl
 have k4 : (w1.alloc (.cells #[v, .int .i64 (-1000 * a0_6)] 51)).cell? ⟨w.heap.size, 4, none⟩ = some (.int .i64 a0_4) := (blk_cell hlw.box 4).trans rfl
 have k5 : (w1.alloc (.cells #[v, .int .i64 (-1000 * a0_6)] 51)).cell? ⟨w.heap.size, 5, none⟩ = some (.int .i64 a0_5) := (blk_cell hlw.box 5).trans rfl
 have k6 : (w1.alloc (.cells #[v, .int .i64 (-1000 * a0_6)] 51)).cell? ⟨w.heap.size, 6, none⟩ = some (.int .i64 a0_6) := (blk_cell hlw.box 6).trans rfl
 clear hlw hbA H hsz hR hb HB BK
 go_wp2_with fail
 clear k0 k1 k2 k3 k4 k5 k6
 generalize w1.alloc (.cells #[v, .int .i64 (-1000 * a0_6)] 51) = wA at *
 refine hgo.mono ?_
 clear hgo
 rintro e w2 ⟨Af, cf, fs, rfl, hfc, hfC, hfl, hF, hb2, hfR⟩
 have HLW2 := Sd.mk (HLW.out.later hb2)
 have HFO := Sd.mk (FormsOk.mk (Kd.R_lower hfR (below_size HLW.out.below)) hF)
 have HFL := Sd.mk hfl
 have hfz : (fs.length : Int) < 9223372036854775807 := by have H := HH.out; have := H.slen; have := H.o12; have := H.p6; omega
 have HFZ := Sd.mk hfz
 clear HLW hb2 hfC hfl hF hfR
 go_wp2
 clear hfc hfz
 go_loopg [3, 17] fs.length (fun gq v3 v17 wr => ∃ k : Nat, v17 = .int .i64 k ∧ k ≤ fs.length ∧ fs.length - k ≤ gq ∧ Sd (LinesW w wr #[.slice A0_0 l0_0.length c0_0, .slice A0_1 l0_1.length c0_1, .slice A0_2 l0_2.length c0_2, .slice A0_3 l0_3.length c0_3, .int .i64 a0_4, .int .i64 a0_5, .int .i64 a0_6] (headL l0_1 l0_2 l0_3 a0_6 k) v3) ∧ Sd (FormsOk w wr l0_2 l0_3 Af cf fs))
 case atStart => exact ⟨0, rfl, Nat.zero_le _, by omega, HLW2, HFO⟩
 case round =>
  clear HLW2 HFO
  obtain ⟨k, rfl, hk, hgk, HW, HFO⟩ := hrel
  have hfz := HFZ.out
  by_cases hlt : k < fs.length
  ·have hltz : (k : Int) < (fs.length : Int) := by omega
   obtain ⟨ad, rfl, hx0, hx1, hx2⟩ := at_T105 HFO.out.reads k hlt
   have HFK := Sd.mk (HFO.out.at_ k hlt)
   generalize hff : fs[k] = f at *
   clear hff
   have HLX := Sd.mk (HW.out.later (below_alloc (Below.refl _ _) (.cells #[.func (.func f.fn) #[] f.lb, .int .i64 f.tg.f0, .int .i64 f.tg.f1] 105)))
   have BF := Sd.mk (blk_new wr (.cells #[.func (.func f.fn) #[] f.lb, .int .i64 f.tg.f0, .int .i64 f.tg.f1] 105))
   have H := HH.out
   have hkl : k < l0_2.length + l0_3.length := by have := HFL.out; omega
   have hfq := facQ_form H (F := wr.heap.size) (W1 := wr.alloc (.cells #[.func (.func f.fn) #[] f.lb, .int .i64 f.tg.f0, .int .i64 f.tg.f1] 105)) HFK.out hkl HW.out.below (blk_new wr (.cells #[.func (.func f.fn) #[] f.lb, .int .i64 f.tg.f0, .int .i64 f.tg.f1] 105)) (below_alloc (Below.refl _ _) _)
   have HQ := Sd.mk hfq
   have HFY := Sd.mk (HFO.out.later (below_alloc (Below.refl _ _) (.cells #[.func (.func f.fn) #[] f.lb, .int .i64 f.tg.f0, .int .i64 f.tg.f1] 105)))
   have HKL := Sd.mk hkl
   have HK := Sd.mk hgk
   have HLT := Sd.mk hlt
   have HM12 := Sd.mk H.m12
   clear HW HFO H hkl hfq hgk hlt
   go_upto_region 5 with (fail)
   clear hx0 hx1 hx2
   generalize wr.alloc (.cells #[.func (.func f.fn) #[] f.lb, .int .i64 f.tg.f0, .int .i64 f.tg.f1] 105) = WX at *
   generalize hXX : wr.heap.size = X at *
   clear hXX
   have HB := Sd.mk HLX.out.below
   have BK := Sd.mk HLX.out.box
   have HL := Sd.mk HLX.out.list
   have HBZ := Sd.mk (Below.refl WX.heap.size WX)
   clear HLX BF
   refine start_ (n := 10) (S := fun w' => w'.cell? ⟨w.heap.size, 0, none⟩ = some (.slice A0_0 l0_0.length c0_0) ∧ w'.cell? ⟨w.heap.size, 1, none⟩ = some (.slice A0_1 l0_1.length c0_1) ∧ w'.cell? ⟨w.heap.size, 2, none⟩ = some (.slice A0_2 l0_2.length c0_2) ∧ w'.cell? ⟨w.heap.size, 3, none⟩ = some (.slice A0_3 l0_3.length c0_3) ∧ w'.cell? ⟨w.heap.size, 4, none⟩ = some (.int .i64 a0_4) ∧ w'.cell? ⟨w.heap.size, 5, none⟩ = some (.int .i64 a0_5) ∧ w'.cell? ⟨w.heap.size, 6, none⟩ = some (.int .i64 a0_6)) (ds := []) #[false, false, false, false, false, false, false, false, false, false] (by kernel_rfl) rfl rfl ⟨(blk_cell BK.out 0).trans rfl, (blk_cell BK.out 1).trans rfl, (blk_cell BK.out 2).trans rfl, (blk_cell BK.out 3).trans rfl, (blk_cell BK.out 4).trans rfl, (blk_cell BK.out 5).trans rfl, (blk_cell BK.out 6).trans rfl⟩ (fun hHeld => ?_); refine with_tabW lines_tab lines_bits (fun HT_ HW_ => ?_)
   replace BK := Sd.mk (blk_drew BK.out)
   replace HL := Sd.mk (Kd.R_drew HL.out)
   replace HB := Sd.mk (below_drew1 HB.out)
   replace HBZ := Sd.mk (below_drew1 HBZ.out)
   replace HFY := Sd.mk (HFY.out.later (below_drew1 (Below.refl WX.heap.size WX)))
   generalize WX.drew = W0 at BK HL HB HBZ HFY hHeld ⊢
   refine pure_ (i := 0) (N := some 21) (v := ?_) (a' := ?_) #[true, false, false, false, false, false, false, false, false, false] rfl rfl (any_of HT_.out (by kernel_rfl)) (fun _ _ _ h => h) (Or.inl ⟨by rfl, ?_⟩) ?_ ?_
   rotate_left
   ·exact tW
   rotate_left
   ·exact tP
   refine take_ (i := 1) (N := some 22) (v := ?_) (a' := ?_) #[true, true, false, false, false, false, false, false, false, false] rfl rfl (take_ofW HT_.out HW_.out (by kernel_rfl)) (fun _ _ _ h => h) (Or.inl ⟨by rfl, ?_⟩) hHeld ?_ ?_
   rotate_left
   ·rintro w' ⟨s0, s1, s2, s3, s4, s5, s6⟩
    go_simp
    with_reducible rfl
   rotate_left
   ·exact tP
   refine pure_ (i := 2) (N := some 23) (v := ?_) (a' := ?_) #[true, true, true, false, false, false, false, false, false, false] rfl rfl (any_of HT_.out (by kernel_rfl)) (fun _ _ _ h => h) (Or.inl ⟨by rfl, ?_⟩) ?_ ?_
   rotate_left
   ·exact tW
   rotate_left
   ·exact tP
   refine take_ (i := 4) (N := some 25) (v := ?_) (a' := ?_) #[true, true, true, false, true, false, false, false, false, false] rfl rfl (take_ofW HT_.out HW_.out (by kernel_rfl)) (fun _ _ _ h => h) (Or.inl ⟨by rfl, ?_⟩) hHeld ?_ ?_
   rotate_left
   ·rintro w' ⟨s0, s1, s2, s3, s4, s5, s6⟩
    go_simp
    with_reducible rfl
   rotate_left
   ·exact tP
   refine pure_ (i := 5) (N := some 26) (v := ?_) (a' := ?_) #[true, true, true, false, true, true, false, false, false, false] rfl rfl (any_of HT_.out (by kernel_rfl)) (fun _ _ _ h => h) (Or.inl ⟨by rfl, ?_⟩) ?_ ?_
   rotate_left
   ·exact tW
   rotate_left
   ·exact tP
   refine one_ (i := 3) (N := some 24) #[true, true, true, true, true, true, false, false, false, false] rfl rfl (one_of HT_.out (by kernel_rfl)) (by decide) (fun K hK => ?_)
   refine goes_ Try.func117 (by kernel_rfl) rfl #[.agg #[.slice A0_0 l0_0.length c0_0, .slice A0_1 l0_1.length c0_1, .slice A0_2 l0_2.length c0_2, .slice A0_3 l0_3.length c0_3, .int .i64 a0_4, .int .i64 a0_5, .int .i64 a0_6], .int .i64 0, .func (.func 120) #[] #[.pointer (some ⟨X, 0, none⟩)]] (by rfl) rfl rfl (by (try simp only [List.map_toArray, List.map_cons, List.map_nil]); first | done | rfl) ?_
   refine (line_calls A0_0 A0_1 A0_2 A0_3 l0_0.length c0_0 c0_1 l0_2.length c0_2 l0_3.length c0_3 l0_1 a0_4 a0_5 a0_6 0 120 #[.pointer (some ⟨X, 0, none⟩)] (upF l0_2 l0_3 k) _ (enters_of Try.func120 (by kernel_rfl) rfl) (fun W hW => HQ.out.1 W (below_trans' HBZ.out hW)) (Kd.C_below HR1.out HB.out) HM12.out).mono ?_
   rintro e w4 ⟨v1, rfl, hR, hb⟩
   refine ⟨_, rfl, ?_⟩
   have Hv1 := Sd.mk (Kd.R_lower hR (below_size HB.out))
   replace BK := Sd.mk (blk_below BK.out hb)
   replace HL := Sd.mk (Kd.R_below HL.out hb)
   replace HBZ := Sd.mk (below_step HBZ.out hb)
   replace HFY := Sd.mk (HFY.out.later hb)
   replace HB := Sd.mk (below_step HB.out hb)
   clear hb hR
   refine hK.out _ _ ⟨(blk_cell BK.out 0).trans rfl, (blk_cell BK.out 1).trans rfl, (blk_cell BK.out 2).trans rfl, (blk_cell BK.out 3).trans rfl, (blk_cell BK.out 4).trans rfl, (blk_cell BK.out 5).trans rfl, (blk_cell BK.out 6).trans rfl⟩ (fun hHeld => ?_)
   clear hK K
   refine norm_ (a' := ?_) ?_ ?_
   rotate_left
   ·show Act.put _ (some 24) _ = _
    exact tP
   refine one_ (i := 6) (N := some 27) #[true, true, true, true, true, true, true, false, false, false] rfl rfl (one_of HT_.out (by kernel_rfl)) (by decide) (fun K hK => ?_)
   refine goes_ Try.func117 (by kernel_rfl) rfl #[.agg #[.slice A0_0 l0_0.length c0_0, .slice A0_1 l0_1.length c0_1, .slice A0_2 l0_2.length c0_2, .slice A0_3 l0_3.length c0_3, .int .i64 a0_4, .int .i64 a0_5, .int .i64 a0_6], .int .i64 0, .func (.func 123) #[] #[.pointer (some ⟨X, 0, none⟩)]] (by rfl) rfl rfl (by (try simp only [List.map_toArray, List.map_cons, List.map_nil]); first | done | rfl) ?_
   refine (line_calls A0_0 A0_1 A0_2 A0_3 l0_0.length c0_0 c0_1 l0_2.length c0_2 l0_3.length c0_3 l0_1 a0_4 a0_5 a0_6 0 123 #[.pointer (some ⟨X, 0, none⟩)] (dnF l0_2 l0_3 k) _ (enters_of Try.func123 (by kernel_rfl) rfl) (fun W hW => HQ.out.2 W (below_trans' HBZ.out hW)) (Kd.C_below HR1.out HB.out) HM12.out).mono ?_
   rintro e w4 ⟨v2, rfl, hR, hb⟩
   refine ⟨_, rfl, ?_⟩
   have Hv2 := Sd.mk (Kd.R_lower hR (below_size HB.out))
   replace Hv1 := Sd.mk (Kd.R_below Hv1.out hb)
   replace BK := Sd.mk (blk_below BK.out hb)
   replace HL := Sd.mk (Kd.R_below HL.out hb)
   replace HBZ := Sd.mk (below_step HBZ.out hb)
   replace HFY := Sd.mk (HFY.out.later hb)
   replace HB := Sd.mk (below_step HB.out hb)
   clear hb hR
   refine hK.out _ _ ⟨(blk_cell BK.out 0).trans rfl, (blk_cell BK.out 1).trans rfl, (blk_cell BK.out 2).trans rfl, (blk_cell BK.out 3).trans rfl, (blk_cell BK.out 4).trans rfl, (blk_cell BK.out 5).trans rfl, (blk_cell BK.out 6).trans rfl⟩ (fun hHeld => ?_)
   clear hK K
   refine norm_ (a' := ?_) ?_ ?_
   rotate_left
   ·show Act.put _ (some 27) _ = _
    exact tP
   refine one_ (i := 7) (N := some 28) #[true, true, true, true, true, true, true, true, false, false] rfl rfl (one_of HT_.out (by kernel_rfl)) (by decide) (fun K hK => ?_)
   refine value_ (w1 := ?_) (v := ?_) (by rfl) rfl ?_ ?_
   rotate_left 2
   ·go_simp
    constructor
    ·rfl
    ·rfl
   refine hK.out _ _ ⟨(blk_cell (blk_alloc BK.out _) 0).trans rfl, (blk_cell (blk_alloc BK.out _) 1).trans rfl, (blk_cell (blk_alloc BK.out _) 2).trans rfl, (blk_cell (blk_alloc BK.out _) 3).trans rfl, (blk_cell (blk_alloc BK.out _) 4).trans rfl, (blk_cell (blk_alloc BK.out _) 5).trans rfl, (blk_cell (blk_alloc BK.out _) 6).trans rfl⟩ (fun hHeld => ?_)
   clear hK K
   refine norm_ (a' := ?_) ?_ ?_
   rotate_left
   ·show Act.put _ (some 28) _ = _
    exact tP
   refine one_ (i := 8) (N := some 29) #[true, true, true, true, true, true, true, true, true, false] rfl rfl (one_of HT_.out (by kernel_rfl)) (by decide) (fun K hK => ?_)
   refine Kd.R_append_rows_step k51 (w0 := w) w.heap.size (by rfl) (.tmp 21) (.tmp 28) 46 51 (.agg #[.slice none 0 0, .int .i64 0]) 32 rfl Try.underlying46 info51 rfl (by decide) (by omega) u3 (headL l0_1 l0_2 l0_3 a0_6 k) (pairL l0_1 l0_2 l0_3 k) (some ⟨_, 0, none⟩) 2 2 (fun _ => True) (fun j => some j ≠ u3.ownBlock) rfl rfl (Kd.R_alloc HL.out _) (pair_reads HL.out (by rw [headL_len]; omega) Hv1.out Hv2.out (below_size HB.out)) (fun _ _ hp => hp) (fun _ hk => ⟨trivial, hk⟩) (fun _ _ => trivial) (below_alloc HB.out _) ?aS ?aL ?_
   (case aS => exact below_size (below_alloc HB.out _))
   (case aL => exact (by rw [headL_len]; exact Nat.le_trans (Nat.mul_le_mul_right 32 (show 1 + 2 * k + 2 ≤ 100 by have := HKL.out; have H := HH.out; have := H.slen; have := H.o12; have := H.p6; omega)) (by decide)))
   intro v5 w5 ho hb hg hat
   have BK2 := Sd.mk (blk_grown (blk_alloc BK.out _) hg (Kd.R_ne HL.out BK.out (by decide)))
   have HLW := Sd.mk (LinesW.mk hb BK2.out ho)
   have HFX := Sd.mk ((HFY.out.later (below_alloc (Below.refl _ _) _)).grown (Kd.R_alloc HL.out _) (by rw [headL_len]; omega) hg)
   clear BK HL HB Hv1 Hv2 HFY hb ho hat hg
   refine hK.out _ _ ⟨(blk_cell BK2.out 0).trans rfl, (blk_cell BK2.out 1).trans rfl, (blk_cell BK2.out 2).trans rfl, (blk_cell BK2.out 3).trans rfl, (blk_cell BK2.out 4).trans rfl, (blk_cell BK2.out 5).trans rfl, (blk_cell BK2.out 6).trans rfl⟩ (fun hHeld => ?_)
   clear hK K
   refine norm_ (a' := ?_) ?_ ?_
   rotate_left
   ·show Act.put _ (some 29) _ = _
    exact tP
   refine pure_ (i := 9) (N := some 3) (v := ?_) (a' := ?_) #[true, true, true, true, true, true, true, true, true, true] rfl rfl (any_of HT_.out (by kernel_rfl)) (fun _ _ _ h => h) (Or.inl ⟨by rfl, ?_⟩) ?_ ?_
   rotate_left
   ·exact tW
   rotate_left
   ·exact tP
   refine done_ (done_of HT_.out (by kernel_rfl)) ?_
   have hfz := HFZ.out
   have hlt := HLT.out
   have hgk := HK.out
   go_wp2
   go_roundg (fs.length - (k + 1))
   case measure => omega
   case rel => exact ⟨k + 1, by first | rfl | (rw [wrap_id (by omega) (by omega)]; rfl), by omega, by omega, HLW, HFX⟩
  ·have H := HH.out
   have hkn : k = l0_2.length + l0_3.length := by have := HFL.out; omega
   have hltz : ¬ (k : Int) < (fs.length : Int) := by omega
   have HB := Sd.mk HW.out.below
   have BK := Sd.mk HW.out.box
   have HL := Sd.mk HW.out.list
   have HM12 := Sd.mk H.m12
   have HRX := Sd.mk H.redox
   have HKN := Sd.mk hkn
   have HSZ := Sd.mk (show 1 + 2 * k + 2 ≤ 100 by have := H.slen; have := H.o12; have := H.p6; omega)
   clear HW HFO H hkn hgk
   go_upto_region 7 with (fail)
   refine start_ (n := 10) (S := fun w' => w'.cell? ⟨w.heap.size, 0, none⟩ = some (.slice A0_0 l0_0.length c0_0) ∧ w'.cell? ⟨w.heap.size, 1, none⟩ = some (.slice A0_1 l0_1.length c0_1) ∧ w'.cell? ⟨w.heap.size, 2, none⟩ = some (.slice A0_2 l0_2.length c0_2) ∧ w'.cell? ⟨w.heap.size, 3, none⟩ = some (.slice A0_3 l0_3.length c0_3) ∧ w'.cell? ⟨w.heap.size, 4, none⟩ = some (.int .i64 a0_4) ∧ w'.cell? ⟨w.heap.size, 5, none⟩ = some (.int .i64 a0_5) ∧ w'.cell? ⟨w.heap.size, 6, none⟩ = some (.int .i64 a0_6)) (ds := []) #[false, false, false, false, false, false, false, false, false, false] (by kernel_rfl) rfl rfl ⟨(blk_cell BK.out 0).trans rfl, (blk_cell BK.out 1).trans rfl, (blk_cell BK.out 2).trans rfl, (blk_cell BK.out 3).trans rfl, (blk_cell BK.out 4).trans rfl, (blk_cell BK.out 5).trans rfl, (blk_cell BK.out 6).trans rfl⟩ (fun hHeld => ?_); refine with_tabW lines7_tab lines7_bits (fun HT_ HW_ => ?_)
   replace BK := Sd.mk (blk_drew BK.out)
   replace HL := Sd.mk (Kd.R_drew HL.out)
   replace HB := Sd.mk (below_drew1 HB.out)
   generalize wr.drew = W0 at BK HL HB hHeld ⊢
   refine pure_ (i := 0) (N := some 31) (v := ?_) (a' := ?_) #[true, false, false, false, false, false, false, false, false, false] rfl rfl (any_of HT_.out (by kernel_rfl)) (fun _ _ _ h => h) (Or.inl ⟨by rfl, ?_⟩) ?_ ?_
   rotate_left
   ·exact tW
   rotate_left
   ·exact tP
   refine pure_ (i := 1) (N := some 32) (v := ?_) (a' := ?_) #[true, true, false, false, false, false, false, false, false, false] rfl rfl (any_of HT_.out (by kernel_rfl)) (fun _ _ _ h => h) (Or.inl ⟨by rfl, ?_⟩) ?_ ?_
   rotate_left
   ·exact tW
   rotate_left
   ·exact tP
   refine take_ (i := 2) (N := some 33) (v := ?_) (a' := ?_) #[true, true, true, false, false, false, false, false, false, false] rfl rfl (take_ofW HT_.out HW_.out (by kernel_rfl)) (fun _ _ _ h => h) (Or.inl ⟨by rfl, ?_⟩) hHeld ?_ ?_
   rotate_left
   ·rintro w' ⟨s0, s1, s2, s3, s4, s5, s6⟩
    go_simp
    with_reducible rfl
   rotate_left
   ·exact tP
   refine pure_ (i := 3) (N := some 34) (v := ?_) (a' := ?_) #[true, true, true, true, false, false, false, false, false, false] rfl rfl (any_of HT_.out (by kernel_rfl)) (fun _ _ _ h => h) (Or.inl ⟨by rfl, ?_⟩) ?_ ?_
   rotate_left
   ·exact tW
   rotate_left
   ·exact tP
   refine pure_ (i := 4) (N := some 35) (v := ?_) (a' := ?_) #[true, true, true, true, true, false, false, false, false, false] rfl rfl (any_of HT_.out (by kernel_rfl)) (fun _ _ _ h => h) (Or.inl ⟨by rfl, ?_⟩) ?_ ?_
   rotate_left
   ·exact tW
   rotate_left
   ·exact tP
   refine take_ (i := 5) (N := some 36) (v := ?_) (a' := ?_) #[true, true, true, true, true, true, false, false, false, false] rfl rfl (take_ofW HT_.out HW_.out (by kernel_rfl)) (fun _ _ _ h => h) (Or.inl ⟨by rfl, ?_⟩) hHeld ?_ ?_
   rotate_left
   ·rintro w' ⟨s0, s1, s2, s3, s4, s5, s6⟩
    go_simp
    with_reducible rfl
   rotate_left
   ·exact tP
   refine join_ (σ := Nat × Nat) 2 #[true, true, true, true, true, true, true, true, false, false] (fun s_ => [(6, .pointer (some ⟨s_.1, 0, none⟩)), (7, .pointer (some ⟨s_.2, 0, none⟩))]) (fun s_ w' => (w'.cell? ⟨w.heap.size, 0, none⟩ = some (.slice A0_0 l0_0.length c0_0) ∧ w'.cell? ⟨w.heap.size, 1, none⟩ = some (.slice A0_1 l0_1.length c0_1) ∧ w'.cell? ⟨w.heap.size, 2, none⟩ = some (.slice A0_2 l0_2.length c0_2) ∧ w'.cell? ⟨w.heap.size, 3, none⟩ = some (.slice A0_3 l0_3.length c0_3) ∧ w'.cell? ⟨w.heap.size, 4, none⟩ = some (.int .i64 a0_4) ∧ w'.cell? ⟨w.heap.size, 5, none⟩ = some (.int .i64 a0_5) ∧ w'.cell? ⟨w.heap.size, 6, none⟩ = some (.int .i64 a0_6)) ∧ Below w.heap.size w w' ∧ w'.heap[w.heap.size]? = some (.cells #[.slice A0_0 l0_0.length c0_0, .slice A0_1 l0_1.length c0_1, .slice A0_2 l0_2.length c0_2, .slice A0_3 l0_3.length c0_3, .int .i64 a0_4, .int .i64 a0_5, .int .i64 a0_6] 29 (0, 0)) ∧ k51.R 51 w' w.heap.size (fun j => j ≠ s_.1 ∧ j ≠ s_.2) u3 (headL l0_1 l0_2 l0_3 a0_6 k) ∧ w'.heap[s_.1]? = some (.cells #[.int .i64 0] 3 (0, 0)) ∧ w'.heap[s_.2]? = some (.cells #[.int .i64 0] 3 (0, 0)) ∧ s_.1 ≠ s_.2 ∧ w.heap.size < s_.1 ∧ w.heap.size < s_.2) ?_ ?_
   rotate_left
   ·skip
    intro hCont
    refine two_ (i := 6) (j := 7) (Ni := some 6) (Nj := some 7) #[true, true, true, true, true, true, true, false, false, false] #[true, true, true, true, true, true, false, true, false, false] rfl rfl rfl rfl (two_of HT_.out (by kernel_rfl)) (by decide) (by decide) (fun K hK => ?_) (fun K hK => ?_)
    ·skip
     refine box_step ?hg (N := 6) ?hd (cs := #[.int .i64 0]) (t := 3) ?hr ?_; (case hd => rfl); (case hg => rfl); (case hr => first | (go_simp; done) | (go_simp; rfl))
     intro U6 hg6 w6 hbox6 hb6
     have BK6 := Sd.mk (blk_below BK.out hb6)
     refine hK.out _ _ ⟨(blk_cell BK6.out 0).trans rfl, (blk_cell BK6.out 1).trans rfl, (blk_cell BK6.out 2).trans rfl, (blk_cell BK6.out 3).trans rfl, (blk_cell BK6.out 4).trans rfl, (blk_cell BK6.out 5).trans rfl, (blk_cell BK6.out 6).trans rfl⟩ (fun hHeld => ?_)
     clear hK K
     refine norm_ (a' := ?_) ?_ ?_
     rotate_left
     ·show Act.put _ (some 6) _ = _
      exact tP
     refine one_ (i := 7) (N := some 7) #[true, true, true, true, true, true, true, true, false, false] rfl rfl (one_of HT_.out (by kernel_rfl)) (by decide) (fun K hK => ?_)
     refine box_step ?hg (N := 7) ?hd (cs := #[.int .i64 0]) (t := 3) ?hr ?_; (case hd => rfl); (case hg => rfl); (case hr => first | (go_simp; done) | (go_simp; rfl))
     intro U7 hg7 w7 hbox7 hb7
     have BK7 := Sd.mk (blk_below BK6.out hb7)
     refine hK.out _ _ ⟨(blk_cell BK7.out 0).trans rfl, (blk_cell BK7.out 1).trans rfl, (blk_cell BK7.out 2).trans rfl, (blk_cell BK7.out 3).trans rfl, (blk_cell BK7.out 4).trans rfl, (blk_cell BK7.out 5).trans rfl, (blk_cell BK7.out 6).trans rfl⟩ (fun hHeld => ?_)
     clear hK K
     refine norm_ (a' := ?_) ?_ ?_
     rotate_left
     ·show Act.put _ (some 7) _ = _
      exact tP
     have hl1 := blk_lt BK.out
     have hl2 := blk_lt hbox6
     have hokk : ∀ j, (True ∧ w.heap.size ≤ j ∧ j < W0.heap.size ∧ ∃ q, q ∈ 51 :: k51.E ∧ ∃ cells, W0.heap[j]? = some (.cells cells q (0, 0))) → j ≠ U6 ∧ j ≠ U7 := fun j hj => ⟨by have := hj.2.2.1; omega, by have := hj.2.2.1; omega⟩
     exact norm_ (by simp only [putAll, Act.put, List.setIfInBounds_toArray, List.set_cons_zero, List.set_cons_succ]) (hCont (U6, U7) _ ⟨⟨(blk_cell BK7.out 0).trans rfl, (blk_cell BK7.out 1).trans rfl, (blk_cell BK7.out 2).trans rfl, (blk_cell BK7.out 3).trans rfl, (blk_cell BK7.out 4).trans rfl, (blk_cell BK7.out 5).trans rfl, (blk_cell BK7.out 6).trans rfl⟩, below_step (below_step HB.out hb6) hb7, BK7.out, Kd.R_below (Kd.R_below (Kd.R_mono (Kd.R_bound HL.out) hokk) hb6) hb7, blk_below hbox6 hb7, hbox7, by omega, by have := hb6.size; omega, by have := hb6.size; omega⟩)
    ·skip
     refine box_step ?hg (N := 7) ?hd (cs := #[.int .i64 0]) (t := 3) ?hr ?_; (case hd => rfl); (case hg => rfl); (case hr => first | (go_simp; done) | (go_simp; rfl))
     intro U7 hg7 w7 hbox7 hb7
     have BK7 := Sd.mk (blk_below BK.out hb7)
     refine hK.out _ _ ⟨(blk_cell BK7.out 0).trans rfl, (blk_cell BK7.out 1).trans rfl, (blk_cell BK7.out 2).trans rfl, (blk_cell BK7.out 3).trans rfl, (blk_cell BK7.out 4).trans rfl, (blk_cell BK7.out 5).trans rfl, (blk_cell BK7.out 6).trans rfl⟩ (fun hHeld => ?_)
     clear hK K
     refine norm_ (a' := ?_) ?_ ?_
     rotate_left
     ·show Act.put _ (some 7) _ = _
      exact tP
     refine one_ (i := 6) (N := some 6) #[true, true, true, true, true, true, true, true, false, false] rfl rfl (one_of HT_.out (by kernel_rfl)) (by decide) (fun K hK => ?_)
     refine box_step ?hg (N := 6) ?hd (cs := #[.int .i64 0]) (t := 3) ?hr ?_; (case hd => rfl); (case hg => rfl); (case hr => first | (go_simp; done) | (go_simp; rfl))
     intro U6 hg6 w6 hbox6 hb6
     have BK6 := Sd.mk (blk_below BK7.out hb6)
     refine hK.out _ _ ⟨(blk_cell BK6.out 0).trans rfl, (blk_cell BK6.out 1).trans rfl, (blk_cell BK6.out 2).trans rfl, (blk_cell BK6.out 3).trans rfl, (blk_cell BK6.out 4).trans rfl, (blk_cell BK6.out 5).trans rfl, (blk_cell BK6.out 6).trans rfl⟩ (fun hHeld => ?_)
     clear hK K
     refine norm_ (a' := ?_) ?_ ?_
     rotate_left
     ·show Act.put _ (some 6) _ = _
      exact tP
     have hl1 := blk_lt BK.out
     have hl2 := blk_lt hbox7
     have hokk : ∀ j, (True ∧ w.heap.size ≤ j ∧ j < W0.heap.size ∧ ∃ q, q ∈ 51 :: k51.E ∧ ∃ cells, W0.heap[j]? = some (.cells cells q (0, 0))) → j ≠ U6 ∧ j ≠ U7 := fun j hj => ⟨by have := hj.2.2.1; omega, by have := hj.2.2.1; omega⟩
     exact norm_ (by simp only [putAll, Act.put, List.setIfInBounds_toArray, List.set_cons_zero, List.set_cons_succ]) (hCont (U6, U7) _ ⟨⟨(blk_cell BK6.out 0).trans rfl, (blk_cell BK6.out 1).trans rfl, (blk_cell BK6.out 2).trans rfl, (blk_cell BK6.out 3).trans rfl, (blk_cell BK6.out 4).trans rfl, (blk_cell BK6.out 5).trans rfl, (blk_cell BK6.out 6).trans rfl⟩, below_step (below_step HB.out hb7) hb6, BK6.out, Kd.R_below (Kd.R_below (Kd.R_mono (Kd.R_bound HL.out) hokk) hb7) hb6, hbox6, blk_below hbox7 hb6, by omega, by have := hb7.size; omega, by have := hb7.size; omega⟩)
   rintro ⟨U6, U7⟩ w7 ⟨hS_, hB, hBK, hL, h6, h7, hne, hg6, hg7⟩
   dsimp only at hB hBK hL h6 h7 hne hg6 hg7
   clear HB BK HL
   refine norm_ (a' := ?_) ?_ ?_
   rotate_left
   ·simp only [putAll, Act.put, List.setIfInBounds_toArray, List.set_cons_zero, List.set_cons_succ]
    rfl
   have h60 : w7.cell? ⟨U6, 0, none⟩ = some (.int .i64 0) := (blk_cell h6 0).trans rfl
   have f60 := blk_frozen h6 0
   refine one_ (i := 8) (N := none) #[true, true, true, true, true, true, true, true, true, false] rfl rfl (one_of HT_.out (by kernel_rfl)) (by decide) (fun K hK => ?_)
   refine skip_ (w1 := ?_) (by rfl) rfl ?_ ?_
   rotate_left
   ·go_simp
    rfl
   have hBK8 := blk_far hBK (p := ⟨U6, 0, none⟩) (show w.heap.size ≠ U6 by omega) (.int .i64 a0_4)
   have hL8 := Kd.R_far hL (p := ⟨U6, 0, none⟩) (fun j hj => hj.1) (.int .i64 a0_4)
   have hB8 := below_set (j := 0) (v := .int .i64 a0_4) hB (show w.heap.size ≤ U6 by omega)
   have h68 := blk_put (cs := #[.int .i64 0]) h6 0 (.int .i64 a0_4) rfl
   have h78 := blk_far h7 (p := ⟨U6, 0, none⟩) (Ne.symm hne) (.int .i64 a0_4)
   refine hK.out _ _ ⟨(blk_cell hBK8 0).trans rfl, (blk_cell hBK8 1).trans rfl, (blk_cell hBK8 2).trans rfl, (blk_cell hBK8 3).trans rfl, (blk_cell hBK8 4).trans rfl, (blk_cell hBK8 5).trans rfl, (blk_cell hBK8 6).trans rfl⟩ (fun hHeld => ?_)
   clear hK K h60 f60
   have h70 : (w7.setCell ⟨U6, 0, none⟩ (.int .i64 a0_4)).cell? ⟨U7, 0, none⟩ = some (.int .i64 0) := (blk_cell h78 0).trans rfl
   have f70 := blk_frozen h78 0
   refine one_ (i := 9) (N := none) #[true, true, true, true, true, true, true, true, true, true] rfl rfl (one_of HT_.out (by kernel_rfl)) (by decide) (fun K hK => ?_)
   refine skip_ (w1 := ?_) (by rfl) rfl ?_ ?_
   rotate_left
   ·go_simp
    rfl
   have BK := Sd.mk (blk_far hBK8 (p := ⟨U7, 0, none⟩) (show w.heap.size ≠ U7 by omega) (.int .i64 a0_5))
   have HL := Sd.mk (Kd.R_mono (ok' := fun _ => True) (Kd.R_far hL8 (p := ⟨U7, 0, none⟩) (fun j hj => hj.2) (.int .i64 a0_5)) (fun _ _ => trivial))
   have HB := Sd.mk (below_set (j := 0) (v := .int .i64 a0_5) hB8 (show w.heap.size ≤ U7 by omega))
   have B6 := Sd.mk (blk_far h68 (p := ⟨U7, 0, none⟩) hne (.int .i64 a0_5))
   have B7 := Sd.mk (blk_put (cs := #[.int .i64 0]) h78 0 (.int .i64 a0_5) rfl)
   refine hK.out _ _ ⟨(blk_cell BK.out 0).trans rfl, (blk_cell BK.out 1).trans rfl, (blk_cell BK.out 2).trans rfl, (blk_cell BK.out 3).trans rfl, (blk_cell BK.out 4).trans rfl, (blk_cell BK.out 5).trans rfl, (blk_cell BK.out 6).trans rfl⟩ (fun hHeld => ?_)
   clear hK K h70 f70 hBK8 hL8 hB8 h68 h78 hB hBK hL h6 h7 hne hg6 hg7 hS_
   refine done_ (done_of HT_.out (by kernel_rfl)) ?_
   go_upto_region 8 with (fail)
   generalize ((w7.setCell ⟨U6, 0, none⟩ (.int .i64 a0_4)).setCell ⟨U7, 0, none⟩ (.int .i64 a0_5)) = WX at *
   have H := HH.out
   have hr := HRX.out
   have HQ5 := Sd.mk (facQ125 H (u := a0_5) (by omega) B7.out).1
   have HQ6 := Sd.mk (facQ125 H (u := a0_4) (by omega) B6.out).2
   have HBZ := Sd.mk (Below.refl WX.heap.size WX)
   clear B6 B7 H hr
   refine start_ (n := 10) (S := fun w' => w'.cell? ⟨w.heap.size, 0, none⟩ = some (.slice A0_0 l0_0.length c0_0) ∧ w'.cell? ⟨w.heap.size, 1, none⟩ = some (.slice A0_1 l0_1.length c0_1) ∧ w'.cell? ⟨w.heap.size, 2, none⟩ = some (.slice A0_2 l0_2.length c0_2) ∧ w'.cell? ⟨w.heap.size, 3, none⟩ = some (.slice A0_3 l0_3.length c0_3) ∧ w'.cell? ⟨w.heap.size, 4, none⟩ = some (.int .i64 a0_4) ∧ w'.cell? ⟨w.heap.size, 5, none⟩ = some (.int .i64 a0_5) ∧ w'.cell? ⟨w.heap.size, 6, none⟩ = some (.int .i64 a0_6)) (ds := []) #[false, false, false, false, false, false, false, false, false, false] (by kernel_rfl) rfl rfl ⟨(blk_cell BK.out 0).trans rfl, (blk_cell BK.out 1).trans rfl, (blk_cell BK.out 2).trans rfl, (blk_cell BK.out 3).trans rfl, (blk_cell BK.out 4).trans rfl, (blk_cell BK.out 5).trans rfl, (blk_cell BK.out 6).trans rfl⟩ (fun hHeld => ?_); refine with_tabW lines8_tab lines8_bits (fun HT_ HW_ => ?_)
   replace BK := Sd.mk (blk_drew BK.out)
   replace HL := Sd.mk (Kd.R_drew HL.out)
   replace HB := Sd.mk (below_drew1 HB.out)
   replace HBZ := Sd.mk (below_drew1 HBZ.out)
   generalize WX.drew = W9 at BK HL HB HBZ hHeld ⊢
   refine pure_ (i := 0) (N := some 37) (v := ?_) (a' := ?_) #[true, false, false, false, false, false, false, false, false, false] rfl rfl (any_of HT_.out (by kernel_rfl)) (fun _ _ _ h => h) (Or.inl ⟨by rfl, ?_⟩) ?_ ?_
   rotate_left
   ·exact tW
   rotate_left
   ·exact tP
   refine take_ (i := 1) (N := some 38) (v := ?_) (a' := ?_) #[true, true, false, false, false, false, false, false, false, false] rfl rfl (take_ofW HT_.out HW_.out (by kernel_rfl)) (fun _ _ _ h => h) (Or.inl ⟨by rfl, ?_⟩) hHeld ?_ ?_
   rotate_left
   ·rintro w' ⟨s0, s1, s2, s3, s4, s5, s6⟩
    go_simp
    with_reducible rfl
   rotate_left
   ·exact tP
   refine pure_ (i := 2) (N := some 39) (v := ?_) (a' := ?_) #[true, true, true, false, false, false, false, false, false, false] rfl rfl (any_of HT_.out (by kernel_rfl)) (fun _ _ _ h => h) (Or.inl ⟨by rfl, ?_⟩) ?_ ?_
   rotate_left
   ·exact tW
   rotate_left
   ·exact tP
   refine take_ (i := 4) (N := some 41) (v := ?_) (a' := ?_) #[true, true, true, false, true, false, false, false, false, false] rfl rfl (take_ofW HT_.out HW_.out (by kernel_rfl)) (fun _ _ _ h => h) (Or.inl ⟨by rfl, ?_⟩) hHeld ?_ ?_
   rotate_left
   ·rintro w' ⟨s0, s1, s2, s3, s4, s5, s6⟩
    go_simp
    with_reducible rfl
   rotate_left
   ·exact tP
   refine pure_ (i := 5) (N := some 42) (v := ?_) (a' := ?_) #[true, true, true, false, true, true, false, false, false, false] rfl rfl (any_of HT_.out (by kernel_rfl)) (fun _ _ _ h => h) (Or.inl ⟨by rfl, ?_⟩) ?_ ?_
   rotate_left
   ·exact tW
   rotate_left
   ·exact tP
   refine one_ (i := 3) (N := some 40) #[true, true, true, true, true, true, false, false, false, false] rfl rfl (one_of HT_.out (by kernel_rfl)) (by decide) (fun K hK => ?_)
   refine goes_ Try.func117 (by kernel_rfl) rfl #[.agg #[.slice A0_0 l0_0.length c0_0, .slice A0_1 l0_1.length c0_1, .slice A0_2 l0_2.length c0_2, .slice A0_3 l0_3.length c0_3, .int .i64 a0_4, .int .i64 a0_5, .int .i64 a0_6], .int .i64 0, .func (.func 125) #[] #[.pointer (some ⟨U7, 0, none⟩)]] (by rfl) rfl rfl (by (try simp only [List.map_toArray, List.map_cons, List.map_nil]); first | done | rfl) ?_
   refine (line_calls A0_0 A0_1 A0_2 A0_3 l0_0.length c0_0 c0_1 l0_2.length c0_2 l0_3.length c0_3 l0_1 a0_4 a0_5 a0_6 0 125 #[.pointer (some ⟨U7, 0, none⟩)] (rUp a0_5) _ (enters_of Try.func125 (by kernel_rfl) rfl) (fun W hW => HQ5.out W (below_trans' HBZ.out hW)) (Kd.C_below HR1.out HB.out) HM12.out).mono ?_
   rintro e w4 ⟨v1, rfl, hR, hb⟩
   refine ⟨_, rfl, ?_⟩
   have Hv1 := Sd.mk (Kd.R_lower hR (below_size HB.out))
   replace BK := Sd.mk (blk_below BK.out hb)
   replace HL := Sd.mk (Kd.R_below HL.out hb)
   replace HBZ := Sd.mk (below_step HBZ.out hb)
   replace HB := Sd.mk (below_step HB.out hb)
   clear hb hR
   refine hK.out _ _ ⟨(blk_cell BK.out 0).trans rfl, (blk_cell BK.out 1).trans rfl, (blk_cell BK.out 2).trans rfl, (blk_cell BK.out 3).trans rfl, (blk_cell BK.out 4).trans rfl, (blk_cell BK.out 5).trans rfl, (blk_cell BK.out 6).trans rfl⟩ (fun hHeld => ?_)
   clear hK K
   refine norm_ (a' := ?_) ?_ ?_
   rotate_left
   ·show Act.put _ (some 40) _ = _
    exact tP
   refine one_ (i := 6) (N := some 43) #[true, true, true, true, true, true, true, false, false, false] rfl rfl (one_of HT_.out (by kernel_rfl)) (by decide) (fun K hK => ?_)
   refine goes_ Try.func117 (by kernel_rfl) rfl #[.agg #[.slice A0_0 l0_0.length c0_0, .slice A0_1 l0_1.length c0_1, .slice A0_2 l0_2.length c0_2, .slice A0_3 l0_3.length c0_3, .int .i64 a0_4, .int .i64 a0_5, .int .i64 a0_6], .int .i64 0, .func (.func 126) #[] #[.pointer (some ⟨U6, 0, none⟩)]] (by rfl) rfl rfl (by (try simp only [List.map_toArray, List.map_cons, List.map_nil]); first | done | rfl) ?_
   refine (line_calls A0_0 A0_1 A0_2 A0_3 l0_0.length c0_0 c0_1 l0_2.length c0_2 l0_3.length c0_3 l0_1 a0_4 a0_5 a0_6 0 126 #[.pointer (some ⟨U6, 0, none⟩)] (rDn a0_4) _ (enters_of Try.func126 (by kernel_rfl) rfl) (fun W hW => HQ6.out W (below_trans' HBZ.out hW)) (Kd.C_below HR1.out HB.out) HM12.out).mono ?_
   rintro e w4 ⟨v2, rfl, hR, hb⟩
   refine ⟨_, rfl, ?_⟩
   have Hv2 := Sd.mk (Kd.R_lower hR (below_size HB.out))
   replace Hv1 := Sd.mk (Kd.R_below Hv1.out hb)
   replace BK := Sd.mk (blk_below BK.out hb)
   replace HL := Sd.mk (Kd.R_below HL.out hb)
   replace HBZ := Sd.mk (below_step HBZ.out hb)
   replace HB := Sd.mk (below_step HB.out hb)
   clear hb hR
   refine hK.out _ _ ⟨(blk_cell BK.out 0).trans rfl, (blk_cell BK.out 1).trans rfl, (blk_cell BK.out 2).trans rfl, (blk_cell BK.out 3).trans rfl, (blk_cell BK.out 4).trans rfl, (blk_cell BK.out 5).trans rfl, (blk_cell BK.out 6).trans rfl⟩ (fun hHeld => ?_)
   clear hK K
   refine norm_ (a' := ?_) ?_ ?_
   rotate_left
   ·show Act.put _ (some 43) _ = _
    exact tP
   refine one_ (i := 7) (N := some 44) #[true, true, true, true, true, true, true, true, false, false] rfl rfl (one_of HT_.out (by kernel_rfl)) (by decide) (fun K hK => ?_)
   refine value_ (w1 := ?_) (v := ?_) (by rfl) rfl ?_ ?_
   rotate_left 2
   ·go_simp
    constructor
    ·rfl
    ·rfl
   refine hK.out _ _ ⟨(blk_cell (blk_alloc BK.out _) 0).trans rfl, (blk_cell (blk_alloc BK.out _) 1).trans rfl, (blk_cell (blk_alloc BK.out _) 2).trans rfl, (blk_cell (blk_alloc BK.out _) 3).trans rfl, (blk_cell (blk_alloc BK.out _) 4).trans rfl, (blk_cell (blk_alloc BK.out _) 5).trans rfl, (blk_cell (blk_alloc BK.out _) 6).trans rfl⟩ (fun hHeld => ?_)
   clear hK K
   refine norm_ (a' := ?_) ?_ ?_
   rotate_left
   ·show Act.put _ (some 44) _ = _
    exact tP
   refine one_ (i := 8) (N := some 45) #[true, true, true, true, true, true, true, true, true, false] rfl rfl (one_of HT_.out (by kernel_rfl)) (by decide) (fun K hK => ?_)
   refine Kd.R_append_rows_step k51 (w0 := w) w.heap.size (by rfl) (.tmp 37) (.tmp 44) 46 51 (.agg #[.slice none 0 0, .int .i64 0]) 32 rfl Try.underlying46 info51 rfl (by decide) (by omega) u3 (headL l0_1 l0_2 l0_3 a0_6 k) [⟨l0_1.map (rUp a0_5), 0⟩, ⟨l0_1.map (rDn a0_4), 0⟩] (some ⟨_, 0, none⟩) 2 2 (fun _ => True) (fun j => some j ≠ u3.ownBlock) rfl rfl (Kd.R_alloc HL.out _) (pair_reads (x := ⟨l0_1.map (rUp a0_5), 0⟩) (x' := ⟨l0_1.map (rDn a0_4), 0⟩) HL.out (by rw [headL_len]; omega) Hv1.out Hv2.out (below_size HB.out)) (fun _ _ hp => hp) (fun _ hk => ⟨trivial, hk⟩) (fun _ _ => trivial) (below_alloc HB.out _) ?aS ?aL ?_
   (case aS => exact below_size (below_alloc HB.out _))
   (case aL => exact (by rw [headL_len]; exact Nat.le_trans (Nat.mul_le_mul_right 32 HSZ.out) (by decide)))
   intro v5 w5 ho hb hg hat
   have BK2 := Sd.mk (blk_grown (blk_alloc BK.out _) hg (Kd.R_ne HL.out BK.out (by decide)))
   have HO := Sd.mk ho
   have HB2 := Sd.mk hb
   clear BK HL HB Hv1 Hv2 hb ho hat hg
   refine hK.out _ _ ⟨(blk_cell BK2.out 0).trans rfl, (blk_cell BK2.out 1).trans rfl, (blk_cell BK2.out 2).trans rfl, (blk_cell BK2.out 3).trans rfl, (blk_cell BK2.out 4).trans rfl, (blk_cell BK2.out 5).trans rfl, (blk_cell BK2.out 6).trans rfl⟩ (fun hHeld => ?_)
   clear hK K
   refine norm_ (a' := ?_) ?_ ?_
   rotate_left
   ·show Act.put _ (some 45) _ = _
    exact tP
   refine pure_ (i := 9) (N := some 2) (v := ?_) (a' := ?_) #[true, true, true, true, true, true, true, true, true, true] rfl rfl (any_of HT_.out (by kernel_rfl)) (fun _ _ _ h => h) (Or.inl ⟨by rfl, ?_⟩) ?_ ?_
   rotate_left
   ·exact tW
   rotate_left
   ·exact tP
   refine done_ (done_of HT_.out (by kernel_rfl)) ?_
   go_wp2
   go_ret
   have hkn := HKN.out
   subst hkn
   exact ⟨v5, rfl, HO.out, HB2.out⟩
end Go.Proofs.Ytkjkokgbhepmoaa.PB

namespace Go.Proofs.Ytkjkokgbhepmoaa.PB
open Go.RowKit Go.Proofs.YtkjkokgbhepmoaaW.PrintWords Go.Proofs.YtkjkokgbhepmoaaW.PrintLast Go.Proofs.YtkjkokgbhepmoaaW.PrintMore
def x_lines.f (l0_0 : List ByteArray) (l0_1 : List (S63)) (l0_2 : List (S27)) (l0_3 : List (S65)) (a0_4 : Int) (a0_5 : Int) (a0_6 : Int) : Option (List S51) :=
  if checkV l0_0 l0_1 l0_2 l0_3 a0_4 a0_5 a0_6 = 0 then some (linesV l0_1 l0_2 l0_3 a0_4 a0_5 a0_6) else none
theorem x_lines.calls (A0_0 : Option Addr) (c0_0 : Nat) (l0_0 : List ByteArray) (A0_1 : Option Addr) (c0_1 : Nat) (l0_1 : List (S63)) (A0_2 : Option Addr) (c0_2 : Nat) (l0_2 : List (S27)) (A0_3 : Option Addr) (c0_3 : Nat) (l0_3 : List (S65)) (a0_4 : Int) (a0_5 : Int) (a0_6 : Int) (r : List S51) (w : World) (hr0_0 : Kd.C Kd.string w A0_0 l0_0.length l0_0) (hc0_0 : l0_0.length ≤ c0_0) (hr0_1 : Kd.C k63 w A0_1 l0_1.length l0_1) (hc0_1 : l0_1.length ≤ c0_1) (hr0_2 : Kd.C k27 w A0_2 l0_2.length l0_2) (hc0_2 : l0_2.length ≤ c0_2) (hr0_3 : Kd.C k65 w A0_3 l0_3.length l0_3) (hc0_3 : l0_3.length ≤ c0_3) (h : x_lines.f l0_0 l0_1 l0_2 l0_3 a0_4 a0_5 a0_6 = some r) :
    Calls Try.prog 63 #[.agg #[.slice A0_0 l0_0.length c0_0, .slice A0_1 l0_1.length c0_1, .slice A0_2 l0_2.length c0_2, .slice A0_3 l0_3.length c0_3, .int .i64 a0_4, .int .i64 a0_5, .int .i64 a0_6]] w fun e w' => ∃ v0_ : Value, e = .returned v0_ ∧ Kd.R k51 51 w' w.heap.size (fun _ => True) v0_ r ∧ Below w.heap.size w w' := by
  unfold x_lines.f at h
  by_cases hc : checkV l0_0 l0_1 l0_2 l0_3 a0_4 a0_5 a0_6 = 0
  · rw [if_pos hc] at h
    obtain rfl := Option.some.inj h
    exact lines_calls A0_0 c0_0 l0_0 A0_1 c0_1 l0_1 A0_2 c0_2 l0_2 A0_3 c0_3 l0_3 a0_4 a0_5 a0_6 w hr0_0 hc0_0 hr0_1 hc0_1 hr0_2 hc0_2 hr0_3 hc0_3 (check_ok hc)
  · rw [if_neg hc] at h; cases h
end Go.Proofs.Ytkjkokgbhepmoaa.PB

namespace Go.Proofs.Ytkjkokgbhepmoaa.PB
open Go.RowKit Go.Proofs.YtkjkokgbhepmoaaW.PrintWords Go.Proofs.YtkjkokgbhepmoaaW.PrintLast Go.Proofs.YtkjkokgbhepmoaaW.PrintMore
attribute [local go_sem] max2_int min2_int max_two min_two max_three min_three max_four min_four
def batch_value.l0 : Nat → List Int → Int → List Int → Int → Int → Option (Int)
 | 0, _, _, _, _, _ => none
 | k + 1, x1, x5, x9, x10, x11 => if x11 < x10 then (if 0 ≤ x11 then (if x11 < (x9.length : Int) then (if x11 < (x1.length : Int) then (batch_value.l0 k x1 (wrap64 (x5 + (wrap64 ((rd x1 x11) * (rd x9 x11))))) x9 x10 (wrap64 (x11 + 1))) else (none)) else (none)) else (none)) else (some x5)
def batch_value.f (k : Nat) (l0_0 : List Int) (a0_1 : Int) (l1 : List Int) : Option (Int) := batch_value.l0 k l1 0 l0_0 (l0_0.length : Int) 0
set_option maxHeartbeats 8000000 in
set_option maxRecDepth 100000 in
theorem batch_value.calls (k : Nat) (A0_0 : Option Addr) (c0_0 : Nat) (l0_0 : List Int) (a0_1 : Int) (A1 : Option Addr) (c1 : Nat) (l1 : List Int) (r : Int) (w : World) (hr0_0 : Kd.C (Kd.int .i64) w A0_0 l0_0.length l0_0) (hc0_0 : l0_0.length ≤ c0_0) (hr1 : Kd.C (Kd.int .i64) w A1 l1.length l1) (hc1 : l1.length ≤ c1) (h : batch_value.f k l0_0 a0_1 l1 = some r) :
  Calls Try.prog 137 #[.agg #[.slice A0_0 l0_0.length c0_0, .int .i64 a0_1], .slice A1 l1.length c1] w fun e w' => e = .returned (.int .i64 r) ∧ Below w.heap.size w w' := by
 have hu51 := Try.underlying51; have HR0_0 := Sd.mk hr0_0; have HC0_0 := Sd.mk hc0_0; clear hr0_0 hc0_0; have HR1 := Sd.mk hr1; have HC1 := Sd.mk hc1; clear hr1 hc1; have HB := Sd.mk (Below.refl w.heap.size w)
 have H : (batch_value.l0 k l1 0 l0_0 (l0_0.length : Int) 0) = some r := h
 clear h; have H' := Sd.mk H; clear H
 go_enter Try.func137, Try.ntmps137
 go_wp2_with (first | ((with_reducible refine gate_dst (N := 2) rfl ?_); refine box_event ?hg (N := 2) ?hd (cs := #[.slice A0_0 l0_0.length c0_0, .int .i64 a0_1]) (t := 51) ?hr ?_; (case hd => rfl); (case hg => rfl); (case hr => exact tG); intro gb730 hg w3 hbox hb; have BK730 := Sd.mk (hbox); have GW730 := Sd.mk (bSz hg (bBl HB.out)); have GE730 := Sd.mk (bSz hg (bBl HB.out)); replace HB := Sd.mk (below_step (bBl HB.out) hb); clear hb hbox hg; obtain ⟨u4_0, u4_1, o4_0, o4_1⟩ := bc2 (w := w3) BK730.out))
 go_loopg [5, 11] k (fun kq v5 v11 w' => ∃ (x5_1 : Int) (x11_1 : Int), v5 = .int .i64 x5_1 ∧ v11 = .int .i64 x11_1 ∧ Sd (batch_value.l0 kq l1 x5_1 l0_0 (l0_0.length : Int) x11_1 = some r) ∧ Sd (kq ≤ k) ∧ Sd (w'.heap[gb730]? = some (.cells #[(.slice A0_0 l0_0.length c0_0), .int .i64 a0_1] 51 (0, 0))) ∧ Sd (Below w.heap.size w w'))
 case atStart => exact ⟨(0), (0), tS, tS, H', ⟨Nat.le_refl _⟩, ⟨bkA BK730.out⟩, ⟨bBl HB.out⟩⟩
 case round =>
  clear H'; (try clear c1); (try clear p2); (try clear u4_0 u4_1); (try clear o4_0 o4_1); obtain ⟨x5_1, x11_1, rfl, rfl, HA, HK1, BK730, HB⟩ := hrel
  cases gk with
  | zero => exact absurd HA.out (by simp [batch_value.l0])
  | succ k1 =>
   have H := HA.out; clear HA
   simp only [batch_value.l0] at H
   by_cases c5 : x11_1 < (l0_0.length : Int)
   ·rw [if_pos c5] at H
    have c5b0 : decide (x11_1 < (l0_0.length : Int)) = true := decide_eq_true c5
    clear c5
    by_cases c6 : 0 ≤ x11_1
    ·rw [if_pos c6] at H
     have c6b0 : decide (0 ≤ x11_1) = true := decide_eq_true c6
     clear c6
     by_cases c7 : x11_1 < (l0_0.length : Int)
     ·rw [if_pos c7] at H
      have c7b0 : decide (x11_1 < (l0_0.length : Int)) = true := decide_eq_true c7
      clear c7
      by_cases c8 : x11_1 < (l1.length : Int)
      ·rw [if_pos c8] at H
       have c8b0 : decide (x11_1 < (l1.length : Int)) = true := decide_eq_true c8
       clear c8; have H' := Sd.mk H; clear H
       have p731 : 0 ≤ (x11_1 : Int) := tB
       have q731 : x11_1 < (l0_0.length : Int) := tB
       obtain ⟨ad731, e731, hx731_0⟩ := Kd.at_int HR0_0.out x11_1 p731 q731; cases e731; replace hx731_0 := cU HB hx731_0; replace p731 := eq_true p731; replace q731 := eq_true q731
       have p732 : 0 ≤ (x11_1 : Int) := tB
       have q732 : x11_1 < (l1.length : Int) := tB
       obtain ⟨ad732, e732, hx732_0⟩ := Kd.at_int HR1.out x11_1 p732 q732; cases e732; replace hx732_0 := cU HB hx732_0; replace p732 := eq_true p732; replace q732 := eq_true q732
       go_wp2
       go_roundg k1
       case measure => have := HK1.out; omega
       case rel => exact ⟨(wrap64 (x5_1 + (wrap64 ((rd l1 x11_1) * (rd l0_0 x11_1))))), (wrap64 (x11_1 + 1)), tS, tS, H', ⟨by have := HK1.out; omega⟩, ⟨bkA BK730.out⟩, ⟨bBl HB.out⟩⟩
      ·rw [if_neg c8] at H
       exact absurd H (by simp)
     ·rw [if_neg c7] at H
      exact absurd H (by simp)
    ·rw [if_neg c6] at H
     exact absurd H (by simp)
   ·rw [if_neg c5] at H
    have c5b0 : decide (x11_1 < (l0_0.length : Int)) = false := decide_eq_false c5
    clear c5; obtain rfl := Option.some.inj H
    go_wp2
    go_ret
    exact ⟨tE, bBl HB.out⟩
end Go.Proofs.Ytkjkokgbhepmoaa.PB

namespace Go.Proofs.Ytkjkokgbhepmoaa.PB
open Go.RowKit Go.Proofs.YtkjkokgbhepmoaaW.PrintWords Go.Proofs.YtkjkokgbhepmoaaW.PrintLast Go.Proofs.YtkjkokgbhepmoaaW.PrintMore
def vW (r fs : List Int) : Nat → Int
 | 0 => 0
 | i + 1 => wrap64 (vW r fs i + wrap64 (rd r (i : Int) * rd fs (i : Int)))
theorem value_l0 (r fs : List Int) (h1 : fs.length ≤ r.length) (h2 : fs.length ≤ 1000000) : ∀ (m i : Nat), i + m = fs.length → Ev (fun k => batch_value.l0 k r (vW r fs i) fs (fs.length : Int) (i : Int)) (vW r fs fs.length)
 | 0, i, hi => by
  apply Ev.step
  simp only [batch_value.l0, if_neg (show ¬ (i : Int) < (fs.length : Int) by omega)]
  rw [show i = fs.length by omega]
  exact Ev.const _
 | m + 1, i, hi => by
  have ih := value_l0 r fs h1 h2 m (i + 1) (by omega)
  apply Ev.step
  simp only [batch_value.l0, if_pos (show (i : Int) < (fs.length : Int) by omega), if_pos (i_pos i), if_pos (show (i : Int) < (r.length : Int) by omega), wrap_succ (i_pos i) (show (i : Int) ≤ 1000000000 by omega)]
  exact ih
theorem value_calls (x : S51) (r : List Int) (Ax A1 : Option Addr) (cx c1 : Nat) (w : World) (hx : Kd.C (Kd.int .i64) w Ax x.f0.length x.f0) (hcx : x.f0.length ≤ cx) (hr : Kd.C (Kd.int .i64) w A1 r.length r) (hc1 : r.length ≤ c1) (h1 : x.f0.length ≤ r.length) (h2 : x.f0.length ≤ 1000000) :
  Calls Try.prog 137 (#[.agg #[.slice Ax x.f0.length cx, .int .i64 x.f1]] ++ #[.slice A1 r.length c1]) w fun e w' => e = .returned (.int .i64 (vW r x.f0 x.f0.length)) ∧ Below w.heap.size w w' := by
 obtain ⟨K, hK⟩ := value_l0 r x.f0 h1 h2 x.f0.length 0 (by omega)
 exact batch_value.calls K Ax cx x.f0 x.f1 A1 c1 r _ w hx hcx hr hc1 (hK K (Nat.le_refl _))
def keepT : Bool × List (List Nat × List Nat) := (true, [([], []), ([], []), ([0, 1], [0, 1]), ([], []), ([], []), ([4], [4]), ([3, 5], [3, 5]), ([2, 6], [2, 6]), ([7, 2, 0, 1, 2, 3, 4, 5, 6, 7], [7])])
def keepB : List Nat := [0, 0, 3, 0, 0, 16, 56, 127, 255]
theorem keep_tab : rtab .any (opsOf Try.f136 1) = keepT := by kernel_rfl
theorem keep_bits : waitsOk keepT.2 keepB = true := by kernel_rfl
set_option maxHeartbeats 2000000 in
set_option maxRecDepth 100000 in
theorem k136_calls (x : S51) (r : List Int) (Ax A1 : Option Addr) (cx c1 R T_ : Nat) (t : Int) (w : World) (hx : Kd.C (Kd.int .i64) w Ax x.f0.length x.f0) (hcx : x.f0.length ≤ cx) (hr : Kd.C (Kd.int .i64) w A1 r.length r) (hc1 : r.length ≤ c1) (h1 : x.f0.length ≤ r.length) (h2 : x.f0.length ≤ 1000000)
  (hR : w.heap[R]? = some (.cells #[.slice A1 r.length c1] 30 (0, 0))) (hT : w.heap[T_]? = some (.cells #[.int .i64 t] 3 (0, 0))) :
  Calls Try.prog 136 #[.agg #[.slice Ax x.f0.length cx, .int .i64 x.f1], .pointer (some ⟨R, 0, none⟩), .pointer (some ⟨T_, 0, none⟩)] w fun e w' => e = .returned (.bool (decide (wrap64 (t * x.f1) < vW r x.f0 x.f0.length))) ∧ Below w.heap.size w w' := by
 have hb0 : Below w.heap.size w (w.alloc (.cells #[.slice Ax x.f0.length cx, .int .i64 x.f1] 51)) := below_alloc (Below.refl _ _) _
 have HB := Sd.mk hb0
 have BX := Sd.mk (blk_new w (.cells #[.slice Ax x.f0.length cx, .int .i64 x.f1] 51))
 have BR := Sd.mk (blk_below hR hb0)
 have BT := Sd.mk (blk_below hT hb0)
 have HX := Sd.mk (Kd.C_below hx hb0)
 have HR := Sd.mk (Kd.C_below hr hb0)
 have HCX := Sd.mk hcx
 have HC1 := Sd.mk hc1
 have H1 := Sd.mk h1
 have H2 := Sd.mk h2
 clear hx hcx hr hc1 h1 h2 hR hT hb0
 go_enter Try.func136, Try.ntmps136
 go_upto_region 1 with (fail)
 generalize w.alloc (.cells #[.slice Ax x.f0.length cx, .int .i64 x.f1] 51) = WX at *
 generalize hXX : w.heap.size = X at BX ⊢
 generalize hv : vW r x.f0 x.f0.length = v at *
 refine start_ (n := 9) (S := fun w' => w'.cell? ⟨X, 0, none⟩ = some (.slice Ax x.f0.length cx) ∧ w'.cell? ⟨X, 1, none⟩ = some (.int .i64 x.f1) ∧ w'.cell? ⟨R, 0, none⟩ = some (.slice A1 r.length c1) ∧ w'.cell? ⟨T_, 0, none⟩ = some (.int .i64 t)) (ds := []) #[false, false, false, false, false, false, false, false, false] (by kernel_rfl) rfl rfl ⟨(blk_cell BX.out 0).trans rfl, (blk_cell BX.out 1).trans rfl, (blk_cell BR.out 0).trans rfl, (blk_cell BT.out 0).trans rfl⟩ (fun hHeld => ?_); refine with_tabW keep_tab keep_bits (fun HT_ HW_ => ?_)
 replace BX := Sd.mk (blk_drew BX.out)
 replace BR := Sd.mk (blk_drew BR.out)
 replace BT := Sd.mk (blk_drew BT.out)
 replace HX := Sd.mk (Kd.C_drew HX.out)
 replace HR := Sd.mk (Kd.C_drew HR.out)
 replace HB := Sd.mk (below_drew1 HB.out)
 generalize WX.drew = W0 at BX BR BT HX HR HB hHeld ⊢
 refine take_ (i := 0) (N := some 5) (v := ?_) (a' := ?_) #[true, false, false, false, false, false, false, false, false] rfl rfl (take_ofW HT_.out HW_.out (by kernel_rfl)) (fun _ _ _ h => h) (Or.inl ⟨by rfl, ?_⟩) hHeld ?_ ?_
 rotate_left
 ·rintro w' ⟨s0, s1, s2, s3⟩
  go_simp
  with_reducible rfl
 rotate_left
 ·exact tP
 refine take_ (i := 1) (N := some 6) (v := ?_) (a' := ?_) #[true, true, false, false, false, false, false, false, false] rfl rfl (take_ofW HT_.out HW_.out (by kernel_rfl)) (fun _ _ _ h => h) (Or.inl ⟨by rfl, ?_⟩) hHeld ?_ ?_
 rotate_left
 ·rintro w' ⟨s0, s1, s2, s3⟩
  go_simp
  with_reducible rfl
 rotate_left
 ·exact tP
 refine take_ (i := 3) (N := some 8) (v := ?_) (a' := ?_) #[true, true, false, true, false, false, false, false, false] rfl rfl (take_ofW HT_.out HW_.out (by kernel_rfl)) (fun _ _ _ h => h) (Or.inl ⟨by rfl, ?_⟩) hHeld ?_ ?_
 rotate_left
 ·rintro w' ⟨s0, s1, s2, s3⟩
  go_simp
  with_reducible rfl
 rotate_left
 ·exact tP
 refine pure_ (i := 4) (N := some 9) (v := ?_) (a' := ?_) #[true, true, false, true, true, false, false, false, false] rfl rfl (any_of HT_.out (by kernel_rfl)) (fun _ _ _ h => h) (Or.inl ⟨by rfl, ?_⟩) ?_ ?_
 rotate_left
 ·exact tW
 rotate_left
 ·exact tP
 refine take_ (i := 5) (N := some 10) (v := ?_) (a' := ?_) #[true, true, false, true, true, true, false, false, false] rfl rfl (take_ofW HT_.out HW_.out (by kernel_rfl)) (fun _ _ _ h => h) (Or.inl ⟨by rfl, ?_⟩) hHeld ?_ ?_
 rotate_left
 ·rintro w' ⟨s0, s1, s2, s3⟩
  go_simp
  with_reducible rfl
 rotate_left
 ·exact tP
 refine pure_ (i := 6) (N := some 11) (v := ?_) (a' := ?_) #[true, true, false, true, true, true, true, false, false] rfl rfl (any_of HT_.out (by kernel_rfl)) (fun _ _ _ h => h) (Or.inl ⟨by rfl, ?_⟩) ?_ ?_
 rotate_left
 ·exact tW
 rotate_left
 ·exact tP
 refine one_ (i := 2) (N := some 7) #[true, true, true, true, true, true, true, false, false] rfl rfl (one_of HT_.out (by kernel_rfl)) (by decide) (fun K hK => ?_)
 refine goes_ Try.func137 (by kernel_rfl) rfl (#[.agg #[.slice Ax x.f0.length cx, .int .i64 x.f1]] ++ #[.slice A1 r.length c1]) (by rfl) rfl rfl (by (try simp only [List.map_toArray, List.map_cons, List.map_nil]); first | done | rfl) ?_
 refine (value_calls x r Ax A1 cx c1 W0 HX.out HCX.out HR.out HC1.out H1.out H2.out).mono ?_
 rintro e w4 ⟨rfl, hb⟩
 refine ⟨_, rfl, ?_⟩
 replace BX := Sd.mk (blk_below BX.out hb)
 replace BR := Sd.mk (blk_below BR.out hb)
 replace BT := Sd.mk (blk_below BT.out hb)
 replace HB := Sd.mk (below_step HB.out hb)
 clear hb HX HR
 refine hK.out _ _ ⟨(blk_cell BX.out 0).trans rfl, (blk_cell BX.out 1).trans rfl, (blk_cell BR.out 0).trans rfl, (blk_cell BT.out 0).trans rfl⟩ (fun hHeld => ?_)
 clear hK K
 refine norm_ (a' := ?_) ?_ ?_
 rotate_left
 ·show Act.put _ (some 7) _ = _
  exact tP
 refine pure_ (i := 7) (N := some 12) (v := ?_) (a' := ?_) #[true, true, true, true, true, true, true, true, false] rfl rfl (any_of HT_.out (by kernel_rfl)) (fun _ _ _ h => h) (Or.inl ⟨by rfl, ?_⟩) ?_ ?_
 rotate_left
 ·exact tW
 rotate_left
 ·exact tP
 refine pure_ (i := 8) (N := some 4) (v := ?_) (a' := ?_) #[true, true, true, true, true, true, true, true, true] rfl rfl (any_of HT_.out (by kernel_rfl)) (fun _ _ _ h => h) (Or.inl ⟨by rfl, ?_⟩) ?_ ?_
 rotate_left
 ·exact tW
 rotate_left
 ·exact tP
 refine done_ (done_of HT_.out (by kernel_rfl)) ?_
 go_wp2
 go_ret
 subst hv
 exact ⟨by first | rfl | simp, HB.out⟩
def TellsL (g : Nat) (lb : Array Value) (x : S51) (b : Bool) (w : World) : Prop :=
 ∀ W, Below w.heap.size w W → ∀ (Ax : Option Addr) (cx : Nat), Kd.C (Kd.int .i64) W Ax x.f0.length x.f0 → x.f0.length ≤ cx →
  Calls Try.prog g (#[.agg #[.slice Ax x.f0.length cx, .int .i64 x.f1]] ++ lb) W fun e W' => e = .returned (.bool b) ∧ Below W.heap.size W W'
set_option maxHeartbeats 1000000 in
theorem indexFunc_line (p : S51 → Bool) (g : Nat) (lb : Array Value) (eg : ∀ args w, (callFunc g args).run Try.prog w = .ok (.enter g args) w)
  (A : Option Addr) (c : Nat) (l : List S51) (w : World) (hr : Kd.C k51 w A l.length l) (hg : ∀ x ∈ l, TellsL g lb x (p x) w) :
  Calls Try.prog 158 #[.slice A l.length c, .func (.func g) #[] lb] w fun e w' => e = .returned (.int .i64 (idxFrom p l 0)) ∧ Below w.heap.size w w' := by
 have HR := Sd.mk hr
 have HG := Sd.mk hg
 have hmax := Kd.C_max hr
 clear hr hg
 go_enter Try.func158, Try.ntmps158
 go_wp2
 go_loopg [5, 8] l.length (fun kq _ v8 w' => ∃ k : Nat, v8 = .int .i64 k ∧ k ≤ l.length ∧ Sd (l.length - k ≤ kq) ∧ Sd (idxFrom p l 0 = idxFrom p (l.drop k) k) ∧ Sd (Below w.heap.size w w'))
 case atStart => exact ⟨0, rfl, Nat.zero_le _, ⟨by omega⟩, ⟨rfl⟩, ⟨Below.refl _ _⟩⟩
 case round =>
  obtain ⟨k, rfl, hk, HM, HI, HB⟩ := hrel
  by_cases hlt : k < l.length
  ·have hltz : (k : Int) < (l.length : Int) := by omega
   obtain ⟨ad, Ax, cx, e, hc0, hc1, hlx, hix⟩ := at_T51 (Kd.C_below HR.out HB.out) (k : Int) (by omega) hltz
   cases e
   have HD := idxFrom_drop p z51 l k hlt k
   have hx : rd_T51 l (k : Int) = l.getD k z51 := by simp [rd_T51]
   have hmem : l.getD k z51 ∈ l := by
    rw [List.getD_eq_getElem?_getD, List.getElem?_eq_getElem hlt]; exact List.getElem_mem hlt
   rw [hx] at hc0 hc1 hlx hix
   have hcall := HG.out _ hmem _ HB.out Ax cx hix hlx
   generalize hxx : l.getD k z51 = x at hc0 hc1 hcall HD
   have HX := Sd.mk hxx
   have HD' := Sd.mk HD
   clear hxx HD hx hmem hlx hix
   simp only [Int.toNat_natCast] at hc0 hc1
   cases hp : p x with
   | true =>
    rw [hp] at hcall
    have HP := Sd.mk hp
    clear hp
    go_wp2_with (go_at_fn g; refine (hcall).mono ?_; rintro e w1 ⟨rfl, hb1⟩)
    go_ret
    exact ⟨by rw [HI.out, HD'.out, if_pos HP.out]; rfl, below_trans' HB.out hb1⟩
   | false =>
    rw [hp] at hcall
    have HP := Sd.mk hp
    clear hp
    go_wp2_with (go_at_fn g; refine (hcall).mono ?_; rintro e w1 ⟨rfl, hb1⟩)
    go_roundg (l.length - (k + 1))
    case measure => have := HM.out; omega
    case rel =>
     exact ⟨k + 1, by go_num, by omega, ⟨by omega⟩, ⟨by rw [HI.out, HD'.out, if_neg (by rw [HP.out]; simp)]; simp⟩, ⟨below_trans' HB.out hb1⟩⟩
  ·have hltz : ¬ (k : Int) < (l.length : Int) := by omega
   go_wp2
   go_ret
   exact ⟨by rw [HI.out, List.drop_eq_nil_of_le (by omega)]; rfl, HB.out⟩
set_option maxHeartbeats 400000 in
theorem containsFunc_line (p : S51 → Bool) (g : Nat) (lb : Array Value) (eg : ∀ args w, (callFunc g args).run Try.prog w = .ok (.enter g args) w)
  (A : Option Addr) (c : Nat) (l : List S51) (w : World) (hr : Kd.C k51 w A l.length l) (hg : ∀ x ∈ l, TellsL g lb x (p x) w) :
  Calls Try.prog 135 #[.slice A l.length c, .func (.func g) #[] lb] w fun e w' => e = .returned (.bool (l.any p)) ∧ Below w.heap.size w w' := by
 have H := indexFunc_line p g lb eg A c l w hr hg
 have HA := Sd.mk (idxFrom_any p l 0 (Int.le_refl 0))
 clear hr hg eg
 go_enter Try.func135, Try.ntmps135
 go_wp2_with (go_at_call 158; refine H.mono ?_; rintro e w1 ⟨rfl, hb1⟩)
 go_ret
 exact ⟨by rw [← HA.out]; rfl, hb1⟩
def x_keeps.f (l : List S51) (r : List Int) (t : Int) : Option Bool :=
 if (l.all fun x => decide (x.f0.length ≤ r.length) && decide (x.f0.length ≤ 1000000)) = true then some (!(l.any fun x => decide (wrap64 (t * x.f1) < vW r x.f0 x.f0.length))) else none
set_option maxHeartbeats 1000000 in
theorem x_keeps.calls (A0 : Option Addr) (c0 : Nat) (l0 : List S51) (A1 : Option Addr) (c1 : Nat) (l1 : List Int) (a2 : Int) (r : Bool) (w : World) (hr0 : Kd.C k51 w A0 l0.length l0) (hc0 : l0.length ≤ c0) (hr1 : Kd.C (Kd.int .i64) w A1 l1.length l1) (hc1 : l1.length ≤ c1) (h : x_keeps.f l0 l1 a2 = some r) :
  Calls Try.prog 79 #[.slice A0 l0.length c0, .slice A1 l1.length c1, .int .i64 a2] w fun e w' => e = .returned (.bool r) ∧ Below w.heap.size w w' := by
 unfold x_keeps.f at h
 by_cases hall : (l0.all fun x => decide (x.f0.length ≤ l1.length) && decide (x.f0.length ≤ 1000000)) = true
 ·rw [if_pos hall] at h
  obtain rfl := Option.some.inj h
  have hb0 : Below w.heap.size w ((w.alloc (.cells #[.slice A1 l1.length c1] 30)).alloc (.cells #[.int .i64 a2] 3)) := below_alloc (below_alloc (Below.refl _ _) _) _
  have hR : ((w.alloc (.cells #[.slice A1 l1.length c1] 30)).alloc (.cells #[.int .i64 a2] 3)).heap[w.heap.size]? = some (.cells #[.slice A1 l1.length c1] 30 (0, 0)) := blk_alloc (blk_new w _) _
  have hT : ((w.alloc (.cells #[.slice A1 l1.length c1] 30)).alloc (.cells #[.int .i64 a2] 3)).heap[w.heap.size + 1]? = some (.cells #[.int .i64 a2] 3 (0, 0)) := by
   have := blk_new (w.alloc (.cells #[.slice A1 l1.length c1] 30)) (.cells #[.int .i64 a2] 3)
   simpa using this
  have hgo := containsFunc_line (fun x => decide (wrap64 (a2 * x.f1) < vW l1 x.f0 x.f0.length)) 136 #[.pointer (some ⟨w.heap.size, 0, none⟩), .pointer (some ⟨w.heap.size + 1, 0, none⟩)] (enters_of Try.func136 (by kernel_rfl) rfl) A0 c0 l0 _ (Kd.C_below hr0 hb0) (fun x hx W hW Ax cx hix hlx => by
   have hh := List.all_eq_true.1 hall x hx
   simp only [Bool.and_eq_true, decide_eq_true_eq] at hh
   exact k136_calls x l1 Ax A1 cx c1 w.heap.size (w.heap.size + 1) a2 W hix hlx (Kd.C_below (Kd.C_below hr1 hb0) hW) hc1 hh.1 hh.2 (blk_below hR hW) (blk_below hT hW))
  have HB := Sd.mk hb0
  clear hb0 hR hT hr0 hr1 hc0 hc1 h hall
  go_enter Try.func79, Try.ntmps79
  go_wp2_with (go_at_call 135; refine hgo.mono ?_; rintro e w1 ⟨rfl, hb1⟩)
  go_ret
  exact ⟨by first | rfl | simp, below_trans' HB.out hb1⟩
 ·rw [if_neg hall] at h; cases h
end Go.Proofs.Ytkjkokgbhepmoaa.PB

namespace Go.Proofs.Ytkjkokgbhepmoaa.PB
open Go.RowKit Go.Proofs.YtkjkokgbhepmoaaW.PrintWords Go.Proofs.YtkjkokgbhepmoaaW.PrintLast Go.Proofs.YtkjkokgbhepmoaaW.PrintMore
attribute [local go_sem] max2_int min2_int max_two min_two max_three min_three max_four min_four
def batch_Passes.f (k : Nat) (l0_0 : List ByteArray) (l0_1 : List (S63)) (l0_2 : List (S27)) (l0_3 : List (S65)) (a0_4 : Int) (a0_5 : Int) (a0_6 : Int) (l1 : List Int) : Option (Bool × Int) := (batch_asked.f k l0_0 l0_1 l0_2 l0_3 a0_4 a0_5 a0_6 l1).bind fun t444 => (if t444 = 0 then ((x_lines.f l0_0 l0_1 l0_2 l0_3 a0_4 a0_5 a0_6).bind fun t445 => ((x_keeps.f t445 l1 1).bind fun t448 => (some (t448, 0)))) else (some (false, t444)))
set_option maxHeartbeats 8000000 in
set_option maxRecDepth 100000 in
theorem batch_Passes.calls (k : Nat) (A0_0 : Option Addr) (c0_0 : Nat) (l0_0 : List ByteArray) (A0_1 : Option Addr) (c0_1 : Nat) (l0_1 : List (S63)) (A0_2 : Option Addr) (c0_2 : Nat) (l0_2 : List (S27)) (A0_3 : Option Addr) (c0_3 : Nat) (l0_3 : List (S65)) (a0_4 : Int) (a0_5 : Int) (a0_6 : Int) (A1 : Option Addr) (c1 : Nat) (l1 : List Int) (r1 : Bool) (r2 : Int) (w : World) (hr0_0 : Kd.C Kd.string w A0_0 l0_0.length l0_0) (hc0_0 : l0_0.length ≤ c0_0) (hr0_1 : Kd.C k63 w A0_1 l0_1.length l0_1) (hc0_1 : l0_1.length ≤ c0_1) (hr0_2 : Kd.C k27 w A0_2 l0_2.length l0_2) (hc0_2 : l0_2.length ≤ c0_2) (hr0_3 : Kd.C k65 w A0_3 l0_3.length l0_3) (hc0_3 : l0_3.length ≤ c0_3) (hr1 : Kd.C (Kd.int .i64) w A1 l1.length l1) (hc1 : l1.length ≤ c1) (h : batch_Passes.f k l0_0 l0_1 l0_2 l0_3 a0_4 a0_5 a0_6 l1 = some (r1, r2)) :
  Calls Try.prog 29 #[.agg #[.slice A0_0 l0_0.length c0_0, .slice A0_1 l0_1.length c0_1, .slice A0_2 l0_2.length c0_2, .slice A0_3 l0_3.length c0_3, .int .i64 a0_4, .int .i64 a0_5, .int .i64 a0_6], .slice A1 l1.length c1] w fun e w' => e = .returned (.tuple #[.bool r1, .int .i64 r2]) ∧ Below w.heap.size w w' := by
 have hu29 := Try.underlying29; have HR0_0 := Sd.mk hr0_0; have HC0_0 := Sd.mk hc0_0; clear hr0_0 hc0_0; have HR0_1 := Sd.mk hr0_1; have HC0_1 := Sd.mk hc0_1; clear hr0_1 hc0_1; have HR0_2 := Sd.mk hr0_2; have HC0_2 := Sd.mk hc0_2; clear hr0_2 hc0_2; have HR0_3 := Sd.mk hr0_3; have HC0_3 := Sd.mk hc0_3; clear hr0_3 hc0_3; have HR1 := Sd.mk hr1; have HC1 := Sd.mk hc1; clear hr1 hc1; have HB := Sd.mk (Below.refl w.heap.size w)
 have H : ((batch_asked.f k l0_0 l0_1 l0_2 l0_3 a0_4 a0_5 a0_6 l1).bind fun t444 => (if t444 = 0 then ((x_lines.f l0_0 l0_1 l0_2 l0_3 a0_4 a0_5 a0_6).bind fun t445 => ((x_keeps.f t445 l1 1).bind fun t448 => (some (t448, 0)))) else (some (false, t444)))) = some (r1, r2) := h
 clear h; replace H := Option.bind_eq_some_iff.mp H; obtain ⟨t444, A30, H⟩ := H
 try dsimp only at H
 have A3 := Sd.mk A30; clear A30
 by_cases c4 : t444 = 0
 ·rw [if_pos c4] at H
  have c4b0 : (t444 == 0) = true := beq_iff_eq.mpr c4
  have c4b1 : (t444 != 0) = false := bne_eq_false_iff_eq.mpr c4
  clear c4; replace H := Option.bind_eq_some_iff.mp H; obtain ⟨t445, A50, H⟩ := H
  try dsimp only at H
  have A5 := Sd.mk A50; clear A50; replace H := Option.bind_eq_some_iff.mp H; obtain ⟨t448, A60, H⟩ := H
  try dsimp only at H
  have A6 := Sd.mk A60; clear A60
  simp only [Option.some.injEq, Prod.mk.injEq] at H
  obtain ⟨rfl, rfl⟩ := H
  go_enter Try.func29, Try.ntmps29
  go_wp2_with (first | ((with_reducible refine gate_dst (N := 2) rfl ?_); refine box_event ?hg (N := 2) ?hd (cs := #[.slice A0_0 l0_0.length c0_0, .slice A0_1 l0_1.length c0_1, .slice A0_2 l0_2.length c0_2, .slice A0_3 l0_3.length c0_3, .int .i64 a0_4, .int .i64 a0_5, .int .i64 a0_6]) (t := 29) ?hr ?_; (case hd => rfl); (case hg => rfl); (case hr => exact tG); intro gb443 hg w7 hbox hb; have BK443 := Sd.mk (hbox); have GW443 := Sd.mk (bSz hg (bBl HB.out)); have GE443 := Sd.mk (bSz hg (bBl HB.out)); replace HB := Sd.mk (below_step (bBl HB.out) hb); clear hb hbox hg; obtain ⟨u8_0, u8_1, u8_2, u8_3, u8_4, u8_5, u8_6, o8_0, o8_1, o8_2, o8_3, o8_4, o8_5, o8_6⟩ := bc7 (w := w7) BK443.out) | ((with_reducible refine gate_callee (f := 46) rfl ?_); refine goesL_ (some 9) rfl rfl Try.func46 (by kernel_rfl) rfl #[.agg #[.slice A0_0 l0_0.length c0_0, .slice A0_1 l0_1.length c0_1, .slice A0_2 l0_2.length c0_2, .slice A0_3 l0_3.length c0_3, .int .i64 a0_4, .int .i64 a0_5, .int .i64 a0_6], .slice A1 l1.length c1] rfl tM ?_; (with_reducible refine (batch_asked.calls k _ _ l0_0 _ _ l0_1 _ _ l0_2 _ _ l0_3 a0_4 a0_5 a0_6 _ _ l1 t444 _ (cS (Kd.C_below HR0_0.out HB.out)) HC0_0.out (cS (Kd.C_below HR0_1.out HB.out)) HC0_1.out (cS (Kd.C_below HR0_2.out HB.out)) HC0_2.out (cS (Kd.C_below HR0_3.out HB.out)) HC0_3.out (cS (Kd.C_below HR1.out HB.out)) HC1.out A3.out).mono ?_); rintro e w9 ⟨rfl, hb⟩; refine ⟨_, rfl, ?_⟩; replace BK443 := Sd.mk (blk_below (bkA BK443.out) hb); replace HB := Sd.mk (below_step (bBl HB.out) hb); (try clear hb); (try clear hb2); (try clear hk); (try clear hi); obtain ⟨u10_0, u10_1, u10_2, u10_3, u10_4, u10_5, u10_6, o10_0, o10_1, o10_2, o10_3, o10_4, o10_5, o10_6⟩ := bc7 (w := w9) BK443.out) | ((with_reducible refine gate_callee (f := 63) rfl ?_); refine goesL_ (some 14) rfl rfl Try.func63 (by kernel_rfl) rfl #[.agg #[.slice A0_0 l0_0.length c0_0, .slice A0_1 l0_1.length c0_1, .slice A0_2 l0_2.length c0_2, .slice A0_3 l0_3.length c0_3, .int .i64 a0_4, .int .i64 a0_5, .int .i64 a0_6]] rfl tM ?_; (with_reducible refine (x_lines.calls _ _ l0_0 _ _ l0_1 _ _ l0_2 _ _ l0_3 a0_4 a0_5 a0_6 t445 _ (cS (Kd.C_below HR0_0.out HB.out)) HC0_0.out (cS (Kd.C_below HR0_1.out HB.out)) HC0_1.out (cS (Kd.C_below HR0_2.out HB.out)) HC0_2.out (cS (Kd.C_below HR0_3.out HB.out)) HC0_3.out A5.out).mono ?_); rintro e w11 ⟨v446, rfl, ho0, hb⟩; refine ⟨_, rfl, ?_⟩; have HO447 := Sd.mk (Kd.R_lower ho0 (below_size (bBl HB.out))); replace BK443 := Sd.mk (blk_below (bkA BK443.out) hb); replace HB := Sd.mk (below_step (bBl HB.out) hb); (try clear hb); (try clear hb2); (try clear hk); (try clear hi); (try clear ho0); obtain ⟨Ao12, co12, eo12⟩ := Kd.R_slice HO447.out; subst eo12) | ((with_reducible refine gate_callee (f := 79) rfl ?_); refine goesL_ (some 16) rfl rfl Try.func79 (by kernel_rfl) rfl #[.slice Ao12 t445.length co12, .slice A1 l1.length c1, .int .i64 1] rfl tM ?_; (with_reducible refine (x_keeps.calls _ _ t445 _ _ l1 1 t448 _ (cS ((Kd.R_reads' HO447.out).2.2)) ((Kd.R_reads' HO447.out).2.1) (cS (Kd.C_below HR1.out HB.out)) HC1.out A6.out).mono ?_); rintro e w13 ⟨rfl, hb⟩; refine ⟨_, rfl, ?_⟩; replace HO447 := Sd.mk (Kd.R_below (by (with_reducible repeat (first | apply Kd.R_alloc | apply Kd.R_drewN | apply Kd.R_drew)); exact HO447.out) hb); replace BK443 := Sd.mk (blk_below (bkA BK443.out) hb); replace HB := Sd.mk (below_step (bBl HB.out) hb); (try clear hb); (try clear hb2); (try clear hk); (try clear hi)))
  go_ret2
  exact ⟨tE, bBl HB.out⟩
 ·rw [if_neg c4] at H
  have c4b0 : (t444 == 0) = false := beq_eq_false_iff_ne.mpr c4
  have c4b1 : (t444 != 0) = true := bne_iff_ne.mpr c4
  simp only [Option.some.injEq, Prod.mk.injEq] at H
  obtain ⟨rfl, rfl⟩ := H
  go_enter Try.func29, Try.ntmps29
  go_wp2_with (first | ((with_reducible refine gate_dst (N := 2) rfl ?_); refine box_event ?hg (N := 2) ?hd (cs := #[.slice A0_0 l0_0.length c0_0, .slice A0_1 l0_1.length c0_1, .slice A0_2 l0_2.length c0_2, .slice A0_3 l0_3.length c0_3, .int .i64 a0_4, .int .i64 a0_5, .int .i64 a0_6]) (t := 29) ?hr ?_; (case hd => rfl); (case hg => rfl); (case hr => exact tG); intro gb443 hg w14 hbox hb; have BK443 := Sd.mk (hbox); have GW443 := Sd.mk (bSz hg (bBl HB.out)); have GE443 := Sd.mk (bSz hg (bBl HB.out)); replace HB := Sd.mk (below_step (bBl HB.out) hb); clear hb hbox hg; obtain ⟨u15_0, u15_1, u15_2, u15_3, u15_4, u15_5, u15_6, o15_0, o15_1, o15_2, o15_3, o15_4, o15_5, o15_6⟩ := bc7 (w := w14) BK443.out) | ((with_reducible refine gate_callee (f := 46) rfl ?_); refine goesL_ (some 9) rfl rfl Try.func46 (by kernel_rfl) rfl #[.agg #[.slice A0_0 l0_0.length c0_0, .slice A0_1 l0_1.length c0_1, .slice A0_2 l0_2.length c0_2, .slice A0_3 l0_3.length c0_3, .int .i64 a0_4, .int .i64 a0_5, .int .i64 a0_6], .slice A1 l1.length c1] rfl tM ?_; (with_reducible refine (batch_asked.calls k _ _ l0_0 _ _ l0_1 _ _ l0_2 _ _ l0_3 a0_4 a0_5 a0_6 _ _ l1 t444 _ (cS (Kd.C_below HR0_0.out HB.out)) HC0_0.out (cS (Kd.C_below HR0_1.out HB.out)) HC0_1.out (cS (Kd.C_below HR0_2.out HB.out)) HC0_2.out (cS (Kd.C_below HR0_3.out HB.out)) HC0_3.out (cS (Kd.C_below HR1.out HB.out)) HC1.out A3.out).mono ?_); rintro e w16 ⟨rfl, hb⟩; refine ⟨_, rfl, ?_⟩; replace BK443 := Sd.mk (blk_below (bkA BK443.out) hb); replace HB := Sd.mk (below_step (bBl HB.out) hb); (try clear hb); (try clear hb2); (try clear hk); (try clear hi)))
  go_ret2
  exact ⟨tE, bBl HB.out⟩
end Go.Proofs.Ytkjkokgbhepmoaa.PB

namespace Go.Proofs.Ytkjkokgbhepmoaa.PB
open Go.RowKit Go.Proofs.YtkjkokgbhepmoaaW.PrintWords Go.Proofs.YtkjkokgbhepmoaaW.PrintLast Go.Proofs.YtkjkokgbhepmoaaW.PrintMore
theorem rd_map (mt : List S63) (fc : S63 → Int) (j : Nat) (h : j < mt.length) : rd (mt.map fc) (j : Int) = fc (rd_T63 mt (j : Int)) := by
  simp [rd, rd_T63, List.getD, h]
structure LineOk (n : Nat) (x : S51) : Prop where
  len : x.f0.length = n
  at_ : ∀ j : Nat, j < n → -50000000000000 ≤ rd x.f0 (j : Int) ∧ rd x.f0 (j : Int) ≤ 50000000000000
  b0 : x.f1 ≤ 0
  b1 : -10000000 ≤ x.f1
theorem line_ok {mt : List S63} {fc : S63 → Int} {b : Int} (h : ∀ i : Nat, i < mt.length → -50000000000000 ≤ fc (rd_T63 mt (i : Int)) ∧ fc (rd_T63 mt (i : Int)) ≤ 50000000000000) (h0 : b ≤ 0) (h1 : -10000000 ≤ b) : LineOk mt.length ⟨mt.map fc, b⟩ := by
  refine ⟨List.length_map _, fun j hj => ?_, h0, h1⟩
  show -50000000000000 ≤ rd (mt.map fc) (j : Int) ∧ rd (mt.map fc) (j : Int) ≤ 50000000000000
  rw [rd_map mt fc j hj]
  exact h j hj
theorem gTS_bound {df : Int → Int} {l : List S27} (H : GOk l) (C : DfOk df l.length) : -50000000000000 ≤ gTS df l l.length ∧ gTS df l l.length ≤ 50000000000000 := by
  have h := sumTo_bound (f := gT df l) (M := 3600000000000) (n := l.length) (gT_bound H C) l.length (Nat.le_refl _)
  have hn := H.n12
  unfold gTS
  omega
section
variable {o : List ByteArray} {mt : List S63} {s : List S27} {p : List S65} {a4 a5 a6 : Int}
theorem pair_ok (H : BatchOk o mt s p a4 a5 a6) {j : Nat} (hj : j < s.length + p.length) : ∀ x ∈ pairL mt s p j, LineOk mt.length x := by
  have T := tg_ok H hj
  have C := coef_cfok H hj
  intro x hx
  simp only [pairL, List.mem_cons, List.not_mem_nil, or_false] at hx
  rcases hx with rfl | rfl
  · refine line_ok (fun i hi => ?_) (by omega) (by omega)
    refine gTS_bound (mat_gok H hi) ⟨fun j' hj' => ?_⟩
    rw [(H.mats i hi).len] at hj'
    have := C.at_ j' hj'
    omega
  · refine line_ok (fun i hi => ?_) (by omega) (by omega)
    refine gTS_bound (mat_gok H hi) ⟨fun j' hj' => ?_⟩
    rw [(H.mats i hi).len] at hj'
    have := C.at_ j' hj'
    omega
theorem head_ok (H : BatchOk o mt s p a4 a5 a6) : ∀ n, n ≤ s.length + p.length → ∀ x ∈ headL mt s p a6 n, LineOk mt.length x := by
  intro n
  induction n with
  | zero =>
    intro _ x hx
    simp only [headL, List.mem_cons, List.not_mem_nil, or_false] at hx
    subst hx
    have hw := H.wanted
    refine line_ok (fun i hi => ?_) (by omega) (by omega)
    have := lowM_bound (mat_gok H hi)
    omega
  | succ n ih =>
    intro hn x hx
    simp only [headL, List.mem_append] at hx
    rcases hx with hx | hx
    · exact ih (by omega) x hx
    · exact pair_ok H (by omega) x hx
theorem red_ok (H : BatchOk o mt s p a4 a5 a6) {u : Int} (hu : -10000 ≤ u ∧ u ≤ 10000) {i : Nat} (hi : i < mt.length) :
    (-50000000000000 ≤ rUp u (rd_T63 mt (i : Int)) ∧ rUp u (rd_T63 mt (i : Int)) ≤ 50000000000000) ∧ -50000000000000 ≤ rDn u (rd_T63 mt (i : Int)) ∧ rDn u (rd_T63 mt (i : Int)) ≤ 50000000000000 := by
  have hl := lowM_bound (mat_gok H hi)
  have hr := (H.mats i hi).redox
  have h1 := mulr hu.1 hu.2 hl.1 (Int.le_trans hl.2.1 hl.2.2)
  have h2 := mulr hu.1 hu.2 (Int.le_trans hl.1 hl.2.1) hl.2.2
  unfold rUp rDn mn mx
  constructor <;> split <;> omega
theorem lines_ok (H : BatchOk o mt s p a4 a5 a6) : ∀ x ∈ linesV mt s p a4 a5 a6, LineOk mt.length x := by
  have hr := H.redox
  intro x hx
  simp only [linesV, List.mem_append, List.mem_cons, List.not_mem_nil, or_false] at hx
  rcases hx with hx | rfl | rfl
  · exact head_ok H _ (Nat.le_refl _) x hx
  · exact line_ok (fun i hi => (red_ok H (by omega) hi).1) (by omega) (by omega)
  · exact line_ok (fun i hi => (red_ok H (by omega) hi).2) (by omega) (by omega)
end
def tot (r fs : List Int) (i : Nat) : Int := sumTo (fun j => rd r (j : Int) * rd fs (j : Int)) i
theorem prod_bound {a b : Int} (h0 : 0 ≤ a) (h1 : a ≤ 10000) (h2 : -50000000000000 ≤ b) (h3 : b ≤ 50000000000000) : -500000000000000000 ≤ a * b ∧ a * b ≤ 500000000000000000 := by
  have e1 := Int.mul_le_mul_of_nonneg_left h2 h0
  have e2 := Int.mul_le_mul_of_nonneg_left h3 h0
  omega
theorem vW_tot {mt : List S63} {r : List Int} {x : S51} (hm : mt.length ≤ 12) (hr : RecOk mt r) (hx : LineOk mt.length x) : ∀ i, i ≤ mt.length → vW r x.f0 i = tot r x.f0 i := by
  have hb : ∀ j, j < mt.length → -500000000000000000 ≤ rd r (j : Int) * rd x.f0 (j : Int) ∧ rd r (j : Int) * rd x.f0 (j : Int) ≤ 500000000000000000 := fun j hj => prod_bound (hr.kilos j hj).1 (hr.kilos j hj).2 (hx.at_ j hj).1 (hx.at_ j hj).2
  intro i
  induction i with
  | zero => intro _; rfl
  | succ i ih =>
    intro hi
    have h1 := hb i (by omega)
    have h2 := sumTo_bound (f := fun j => rd r (j : Int) * rd x.f0 (j : Int)) (M := 500000000000000000) (n := mt.length) hb i (by omega)
    have h3 := ih (by omega)
    unfold tot at *
    simp only [vW, sumTo, h3]
    rw [wrap_id (x := rd r (i : Int) * rd x.f0 (i : Int)) (by omega) (by omega), wrap_id (by omega) (by omega)]
theorem not_any_all {α : Type} {l : List α} {f g : α → Bool} (h : ∀ x ∈ l, f x = !(g x)) : (!(l.any f)) = l.all g := by
  induction l with
  | nil => rfl
  | cons x l ih =>
    rw [List.any_cons, List.all_cons, ← ih fun y hy => h y (List.mem_cons_of_mem _ hy), h x List.mem_cons_self]
    cases g x <;> simp
section
variable (o : List ByteArray) (mt : List S63) (s : List S27) (p : List S65) (a4 a5 a6 : Int) (r : List Int)
def passB : Bool := (linesV mt s p a4 a5 a6).all fun x => decide (tot r x.f0 mt.length ≤ x.f1)
theorem keeps_f (H : BatchOk o mt s p a4 a5 a6) (hr : RecOk mt r) : x_keeps.f (linesV mt s p a4 a5 a6) r 1 = some (passB mt s p a4 a5 a6 r) := by
  have L := lines_ok H
  have hm := H.m12
  have hrl := hr.len
  unfold x_keeps.f passB
  rw [if_pos (List.all_eq_true.2 fun x hx => by have h := (L x hx).len; simp only [Bool.and_eq_true, decide_eq_true_eq]; omega)]
  congr 1
  refine not_any_all fun x hx => ?_
  have h := L x hx
  rw [h.len, vW_tot hm hr h mt.length (Nat.le_refl _), wrap_id (x := 1 * x.f1) (by have := h.b0; have := h.b1; omega) (by have := h.b0; omega), Int.one_mul]
  by_cases hc : tot r x.f0 mt.length ≤ x.f1
  · rw [decide_eq_true hc, decide_eq_false (by omega)]; rfl
  · rw [decide_eq_false hc, decide_eq_true (by omega)]; rfl
def PassV : Bool × Int := if askV o mt s p a4 a5 a6 r = 0 then (passB mt s p a4 a5 a6 r, 0) else (false, askV o mt s p a4 a5 a6 r)
theorem ask_check (h : askV o mt s p a4 a5 a6 r = 0) : checkV o mt s p a4 a5 a6 = 0 := by
  unfold askV at h
  by_cases hc : checkV o mt s p a4 a5 a6 = 0
  · exact hc
  · rw [if_neg hc] at h; exact absurd h hc
theorem bPasses : Ev (fun k => batch_Passes.f k o mt s p a4 a5 a6 r) (PassV o mt s p a4 a5 a6 r) := by
  unfold batch_Passes.f PassV
  refine Ev.bind (basked o mt s p a4 a5 a6 r) ?_
  by_cases h : askV o mt s p a4 a5 a6 r = 0
  · obtain ⟨H, hr⟩ := ask_ok h
    simp only [if_pos h, x_lines.f, if_pos (ask_check o mt s p a4 a5 a6 r h), Option.bind_some, keeps_f o mt s p a4 a5 a6 r H hr]
    exact Ev.const _
  · simp only [if_neg h]; exact Ev.const _
end
end Go.Proofs.Ytkjkokgbhepmoaa.PB

namespace Go.Proofs.Ytkjkokgbhepmoaa.PB
open Go.RowKit Go.Proofs.YtkjkokgbhepmoaaW.PrintWords Go.Proofs.YtkjkokgbhepmoaaW.PrintLast Go.Proofs.YtkjkokgbhepmoaaW.PrintMore
theorem sumTo_add (f g : Nat → Int) : ∀ n, sumTo (fun j => f j + g j) n = sumTo f n + sumTo g n
  | 0 => by simp [sumTo]
  | n + 1 => by simp only [sumTo, sumTo_add f g n]; omega
theorem sumTo_sub (f g : Nat → Int) : ∀ n, sumTo (fun j => f j - g j) n = sumTo f n - sumTo g n
  | 0 => by simp [sumTo]
  | n + 1 => by simp only [sumTo, sumTo_sub f g n]; omega
theorem sumTo_mul (k : Int) (f : Nat → Int) : ∀ n, sumTo (fun j => k * f j) n = k * sumTo f n
  | 0 => by simp [sumTo]
  | n + 1 => by simp only [sumTo, sumTo_mul k f n, Int.mul_add]
theorem sumTo_swap (f : Nat → Nat → Int) (m : Nat) : ∀ n, sumTo (fun i => sumTo (fun k => f i k) n) m = sumTo (fun k => sumTo (fun i => f i k) m) n
  | 0 => by simp only [sumTo]; exact sumTo_zero m
  | n + 1 => by simp only [sumTo, sumTo_add, sumTo_swap f m n]
theorem gS_sum (F : S27 → Int) (mt : List S63) (r : List Int) (j : Nat) : ∀ n, gS F mt r j n = sumTo (fun i => rd r (i : Int) * F (rd_T27 (rd_T63 mt (i : Int)).f6 (j : Int))) n
  | 0 => rfl
  | n + 1 => by simp only [gS, sumTo, gS_sum F mt r j n]
theorem tot_map (r : List Int) (mt : List S63) (fc : S63 → Int) : tot r (mt.map fc) mt.length = sumTo (fun i => rd r (i : Int) * fc (rd_T63 mt (i : Int))) mt.length := by
  unfold tot
  exact sumTo_congr _ (fun j hj => by rw [rd_map mt fc j hj])
theorem max_pick {c lo hi : Int} (h : lo ≤ hi) : max (c * lo) (c * hi) = if 0 ≤ c then c * hi else c * lo := by
  by_cases hc : 0 ≤ c
  · rw [if_pos hc]
    have := Int.mul_le_mul_of_nonneg_left h hc
    omega
  · rw [if_neg hc]
    have := Int.mul_le_mul_of_nonpos_left (show c ≤ 0 by omega) h
    omega
section
variable {o : List ByteArray} {mt : List S63} {s : List S27} {p : List S65} {a4 a5 a6 : Int} {r : List Int}
theorem tot_gTS (H : BatchOk o mt s p a4 a5 a6) (hr : RecOk mt r) (df : Int → Int) :
    tot r (mt.map fun x => gTS df x.f6 x.f6.length) mt.length = sumTo (fun k => max (df (k : Int) * (rd_T27 (gramL o.length mt r) (k : Int)).f0) (df (k : Int) * (rd_T27 (gramL o.length mt r) (k : Int)).f1)) o.length := by
  rw [tot_map]
  have e1 : sumTo (fun i => rd r (i : Int) * gTS df (rd_T63 mt (i : Int)).f6 (rd_T63 mt (i : Int)).f6.length) mt.length = sumTo (fun i => sumTo (fun k => rd r (i : Int) * (df (k : Int) * (if 0 ≤ df (k : Int) then (rd_T27 (rd_T63 mt (i : Int)).f6 (k : Int)).f1 else (rd_T27 (rd_T63 mt (i : Int)).f6 (k : Int)).f0))) o.length) mt.length := by
    refine sumTo_congr _ (fun i hi => ?_)
    rw [sumTo_mul]
    congr 1
    unfold gTS
    rw [(H.mats i hi).len]
    refine sumTo_congr _ (fun k hk => ?_)
    unfold gT
    rw [max_pick ((H.mats i hi).con k hk).2.1]
    split <;> rfl
  rw [e1, sumTo_swap]
  refine sumTo_congr _ (fun k hk => ?_)
  have hb := gS_le H hr hk mt.length (Nat.le_refl _)
  rw [gramL_get _ _ _ _ hk, max_pick hb, gS_sum, gS_sum]
  by_cases hc : 0 ≤ df (k : Int)
  · simp only [if_pos hc]
    rw [← sumTo_mul]
    exact sumTo_congr _ (fun i hi => by rw [← Int.mul_assoc, ← Int.mul_assoc, Int.mul_comm (rd r (i : Int))])
  · simp only [if_neg hc]
    rw [← sumTo_mul]
    exact sumTo_congr _ (fun i hi => by rw [← Int.mul_assoc, ← Int.mul_assoc, Int.mul_comm (rd r (i : Int))])
theorem tot_up (H : BatchOk o mt s p a4 a5 a6) (hr : RecOk mt r) (j : Nat) : tot r (mt.map (upF s p j)) mt.length = aboveS (coefOf s p j) (gramL o.length mt r) (tgOf s p j).f1 := by
  have h := tot_gTS H hr (fun k => coefOf s p j k - (tgOf s p j).f1)
  rw [aboveS_sum, gramL_len]
  exact h
theorem tot_dn (H : BatchOk o mt s p a4 a5 a6) (hr : RecOk mt r) (j : Nat) : tot r (mt.map (dnF s p j)) mt.length = belowS (coefOf s p j) (gramL o.length mt r) (tgOf s p j).f0 := by
  have h := tot_gTS H hr (fun k => (tgOf s p j).f0 - coefOf s p j k)
  rw [belowS_sum, gramL_len]
  exact h
theorem wS_mats (H : BatchOk o mt s p a4 a5 a6) (F : S27 → Int) (hF : ∀ k : Nat, k < o.length → F (rd_T27 (gramL o.length mt r) (k : Int)) = gS F mt r k mt.length) :
    wS F (gramL o.length mt r) (gramL o.length mt r).length = sumTo (fun i => rd r (i : Int) * wS F (rd_T63 mt (i : Int)).f6 (rd_T63 mt (i : Int)).f6.length) mt.length := by
  have e1 : sumTo (fun i => rd r (i : Int) * wS F (rd_T63 mt (i : Int)).f6 (rd_T63 mt (i : Int)).f6.length) mt.length = sumTo (fun i => sumTo (fun k => rd r (i : Int) * F (rd_T27 (rd_T63 mt (i : Int)).f6 (k : Int))) o.length) mt.length := by
    refine sumTo_congr _ (fun i hi => ?_)
    rw [sumTo_mul, (H.mats i hi).len]
    rfl
  rw [e1, sumTo_swap, gramL_len]
  exact sumTo_congr _ (fun k hk => by rw [hF k hk, gS_sum])
theorem low_mats (H : BatchOk o mt s p a4 a5 a6) : wS S27.f0 (gramL o.length mt r) (gramL o.length mt r).length = sumTo (fun i => rd r (i : Int) * lowM (rd_T63 mt (i : Int))) mt.length :=
  wS_mats H S27.f0 (fun k hk => by rw [gramL_get _ _ _ _ hk])
theorem high_mats (H : BatchOk o mt s p a4 a5 a6) : wS S27.f1 (gramL o.length mt r) (gramL o.length mt r).length = sumTo (fun i => rd r (i : Int) * highM (rd_T63 mt (i : Int))) mt.length :=
  wS_mats H S27.f1 (fun k hk => by rw [gramL_get _ _ _ _ hk])
theorem tot_low (H : BatchOk o mt s p a4 a5 a6) : tot r (mt.map fun x => -lowM x) mt.length = -lowW o.length mt r := by
  rw [tot_map]
  unfold lowW
  rw [low_mats H]
  have e : sumTo (fun i => rd r (i : Int) * -lowM (rd_T63 mt (i : Int))) mt.length = sumTo (fun i => (-1) * (rd r (i : Int) * lowM (rd_T63 mt (i : Int)))) mt.length := sumTo_congr _ (fun i hi => by rw [Int.mul_neg]; omega)
  rw [e, sumTo_mul]
  omega
theorem rdS_sum (mt : List S63) (r : List Int) : ∀ n, rdS mt r n = sumTo (fun i => rd r (i : Int) * (rd_T63 mt (i : Int)).f2) n
  | 0 => rfl
  | n + 1 => by simp only [rdS, sumTo, rdS_sum mt r n]
theorem mn_pick {c lo hi : Int} (h : lo ≤ hi) : mn (c * lo) (c * hi) = if 0 ≤ c then c * lo else c * hi := by
  unfold mn
  by_cases hc : 0 ≤ c
  · rw [if_pos hc]
    have := Int.mul_le_mul_of_nonneg_left h hc
    rw [if_neg (by omega)]
  · rw [if_neg hc]
    have := Int.mul_le_mul_of_nonpos_left (show c ≤ 0 by omega) h
    split <;> omega
theorem mx_pick {c lo hi : Int} (h : lo ≤ hi) : mx (c * lo) (c * hi) = if 0 ≤ c then c * hi else c * lo := by
  rw [mx_max]
  exact max_pick h
def LO (n : Nat) (mt : List S63) (r : List Int) : Int := wS S27.f0 (gramL n mt r) (gramL n mt r).length
def HI (n : Nat) (mt : List S63) (r : List Int) : Int := wS S27.f1 (gramL n mt r) (gramL n mt r).length
theorem LO_HI (H : BatchOk o mt s p a4 a5 a6) (hr : RecOk mt r) : LO o.length mt r ≤ HI o.length mt r := (wS_bounds (gramL_ok H hr) _ (Nat.le_refl _)).2.2
theorem tot_rUp (H : BatchOk o mt s p a4 a5 a6) (hr : RecOk mt r) (u : Int) : tot r (mt.map (rUp u)) mt.length = 1000000 * rdS mt r mt.length - mn (u * LO o.length mt r) (u * HI o.length mt r) := by
  have e : sumTo (fun i => rd r (i : Int) * rUp u (rd_T63 mt (i : Int))) mt.length = sumTo (fun i => 1000000 * (rd r (i : Int) * (rd_T63 mt (i : Int)).f2) - u * (rd r (i : Int) * (if 0 ≤ u then lowM (rd_T63 mt (i : Int)) else highM (rd_T63 mt (i : Int))))) mt.length := by
    refine sumTo_congr _ (fun i hi => ?_)
    have hl := lowM_bound (mat_gok H hi)
    unfold rUp
    rw [mn_pick hl.2.1, Int.mul_sub, ← Int.mul_assoc 1000000, Int.mul_comm 1000000 (rd r (i : Int)), Int.mul_assoc]
    split
    · rw [← Int.mul_assoc, ← Int.mul_assoc, Int.mul_comm (rd r (i : Int)) u, Int.mul_assoc u]
    · rw [← Int.mul_assoc, ← Int.mul_assoc, Int.mul_comm (rd r (i : Int)) u, Int.mul_assoc u]
  rw [tot_map, e, sumTo_sub, sumTo_mul, sumTo_mul, mn_pick (LO_HI H hr), rdS_sum]
  unfold LO HI
  by_cases hu : 0 ≤ u
  · simp only [if_pos hu]; rw [low_mats H]
  · simp only [if_neg hu]; rw [high_mats H]
theorem tot_rDn (H : BatchOk o mt s p a4 a5 a6) (hr : RecOk mt r) (u : Int) : tot r (mt.map (rDn u)) mt.length = mx (u * LO o.length mt r) (u * HI o.length mt r) - 1000000 * rdS mt r mt.length := by
  have e : sumTo (fun i => rd r (i : Int) * rDn u (rd_T63 mt (i : Int))) mt.length = sumTo (fun i => u * (rd r (i : Int) * (if 0 ≤ u then highM (rd_T63 mt (i : Int)) else lowM (rd_T63 mt (i : Int)))) - 1000000 * (rd r (i : Int) * (rd_T63 mt (i : Int)).f2)) mt.length := by
    refine sumTo_congr _ (fun i hi => ?_)
    have hl := lowM_bound (mat_gok H hi)
    unfold rDn
    rw [mx_pick hl.2.1, Int.mul_sub, ← Int.mul_assoc 1000000, Int.mul_comm 1000000 (rd r (i : Int)), Int.mul_assoc]
    split
    · rw [← Int.mul_assoc, ← Int.mul_assoc, Int.mul_comm (rd r (i : Int)) u, Int.mul_assoc u]
    · rw [← Int.mul_assoc, ← Int.mul_assoc, Int.mul_comm (rd r (i : Int)) u, Int.mul_assoc u]
  rw [tot_map, e, sumTo_sub, sumTo_mul, sumTo_mul, mx_pick (LO_HI H hr), rdS_sum]
  unfold LO HI
  by_cases hu : 0 ≤ u
  · simp only [if_pos hu]; rw [high_mats H]
  · simp only [if_neg hu]; rw [low_mats H]
end
theorem ceil_le {x d a : Int} (hd : 0 < d) : -(-x / d) ≤ a ↔ x ≤ a * d := by
  have h := Int.le_ediv_iff_mul_le (a := -a) (b := -x) hd
  rw [Int.neg_mul] at h
  constructor
  · intro h1
    have := h.1 (by omega)
    omega
  · intro h1
    have := h.2 (by omega)
    omega
theorem le_floor {x d a : Int} (hd : 0 < d) : a ≤ x / d ↔ a * d ≤ x := Int.le_ediv_iff_mul_le hd
theorem le_mn {a x y : Int} : a ≤ mn x y ↔ a ≤ x ∧ a ≤ y := by unfold mn; split <;> omega
theorem mx_le {a x y : Int} : mx x y ≤ a ↔ x ≤ a ∧ y ≤ a := by unfold mx; split <;> omega
section
variable (o : List ByteArray) (mt : List S63) (s : List S27) (p : List S65) (a4 a5 a6 : Int) (r : List Int)
def inF (j : Nat) : Bool := decide ((tgOf s p j).f0 ≤ meanLo (coefOf s p j) (gramL o.length mt r)) && decide (meanHi (coefOf s p j) (gramL o.length mt r) ≤ (tgOf s p j).f1)
def inR : Bool := decide (a4 ≤ (redT mt r (LO o.length mt r) (HI o.length mt r)).1) && decide ((redT mt r (LO o.length mt r) (HI o.length mt r)).2.1 ≤ a5)
def inW : Bool := decide (lowW o.length mt r ≥ 1000 * a6)
def allF (i : Nat) : Bool := (List.range i).all (inF o mt s p r)
theorem allF_succ (i : Nat) : allF o mt s p r (i + 1) = (allF o mt s p r i && inF o mt s p r i) := by
  simp [allF, List.range_succ]
variable (H : BatchOk o mt s p a4 a5 a6) (hr : RecOk mt r)
include H hr in
theorem inF_iff (hp : 0 < lowW o.length mt r) {j : Nat} (hj : j < s.length + p.length) :
    inF o mt s p r j = (decide (tot r (mt.map (upF s p j)) mt.length ≤ 0) && decide (tot r (mt.map (dnF s p j)) mt.length ≤ 0)) := by
  have M : MeanOk (coefOf s p j) (gramL o.length mt r) := meanOk_of (gramL_ok H hr) (by rw [gramL_len]; exact coef_cfok H hj) hp
  unfold inF
  rw [tot_up H hr, tot_dn H hr, Bool.and_comm]
  congr 1
  · exact decide_eq_decide.2 (meanHi_iff M _).symm
  · exact decide_eq_decide.2 (meanLo_iff M _).symm
include H hr in
theorem inR_iff (hp : 0 < lowW o.length mt r) : inR o mt a4 a5 r = (decide (tot r (mt.map (rUp a5)) mt.length ≤ 0) && decide (tot r (mt.map (rDn a4)) mt.length ≤ 0)) := by
  have h0 : 0 < LO o.length mt r := hp
  have h1 : 0 < HI o.length mt r := Int.lt_of_lt_of_le h0 (LO_HI H hr)
  unfold inR redT
  rw [tot_rUp H hr, tot_rDn H hr, Bool.and_comm]
  congr 1
  · refine decide_eq_decide.2 ?_
    show mx _ _ ≤ a5 ↔ _
    rw [mx_le, ceil_le h0, ceil_le h1]
    have := le_mn (a := 1000000 * rdS mt r mt.length) (x := a5 * LO o.length mt r) (y := a5 * HI o.length mt r)
    omega
  · refine decide_eq_decide.2 ?_
    show a4 ≤ mn _ _ ↔ _
    rw [le_mn, le_floor h0, le_floor h1]
    have := mx_le (a := 1000000 * rdS mt r mt.length) (x := a4 * LO o.length mt r) (y := a4 * HI o.length mt r)
    omega
def okL (x : S51) : Bool := decide (tot r x.f0 mt.length ≤ x.f1)
include H hr in
theorem headL_all (hp : 0 < lowW o.length mt r) : ∀ n, n ≤ s.length + p.length → (headL mt s p a6 n).all (okL mt r) = (inW o mt a6 r && allF o mt s p r n)
  | 0, _ => by
    simp only [headL, List.all_cons, List.all_nil, Bool.and_true, okL, allF, List.range_zero]
    unfold inW
    refine decide_eq_decide.2 ?_
    rw [tot_low H]
    omega
  | n + 1, hn => by
    rw [headL, List.all_append, headL_all hp n (by omega), allF_succ, inF_iff o mt s p a4 a5 a6 r H hr hp (show n < s.length + p.length by omega)]
    simp only [pairL, List.all_cons, List.all_nil, Bool.and_true, okL, Bool.and_assoc]
include H hr in
theorem pass_inside (hp : 0 < lowW o.length mt r) : passB mt s p a4 a5 a6 r = (inW o mt a6 r && allF o mt s p r (s.length + p.length) && inR o mt a4 a5 r) := by
  rw [inR_iff o mt s p a4 a5 a6 r H hr hp, ← headL_all o mt s p a4 a5 a6 r H hr hp _ (Nat.le_refl _)]
  show (linesV mt s p a4 a5 a6).all (okL mt r) = _
  rw [linesV, List.all_append]
  simp only [List.all_cons, List.all_nil, Bool.and_true, okL]
include H in
end
end Go.Proofs.Ytkjkokgbhepmoaa.PB

namespace Go.Proofs.Ytkjkokgbhepmoaa.PB
open Go.RowKit Go.Proofs.YtkjkokgbhepmoaaW.PrintWords Go.Proofs.YtkjkokgbhepmoaaW.PrintLast Go.Proofs.YtkjkokgbhepmoaaW.PrintMore
attribute [local go_sem] max2_int min2_int max_two min_two max_three min_three max_four min_four
mutual
def lw_grams.l0 : Nat → List Int → List Int → Int → List ByteArray → List (S63) → List (S27) → List (S65) → Int → Int → Int → List (List Int) → Option (List Int × Bool)
 | 0, _, _, _, _, _, _, _, _, _, _, _ => none
 | k + 1, x1, x8, x9, x518q0, x518q1, x518q2, x518q3, x518q4, x518q5, x518q6, x519q0 => if x9 < (x1.length : Int) then (if 0 ≤ x9 then (if x9 < (x519q0.length : Int) then (if ((rd_L9 x519q0 x9).length : Int) = (x8.length : Int) then (lw_grams.l1 k x1 x8 x9 0 x518q0 x518q1 x518q2 x518q3 x518q4 x518q5 x518q6 x519q0) else (some (([] : List Int), false))) else (none)) else (none)) else (some (x8, true))
def lw_grams.l1 : Nat → List Int → List Int → Int → Int → List ByteArray → List (S63) → List (S27) → List (S65) → Int → Int → Int → List (List Int) → Option (List Int × Bool)
 | 0, _, _, _, _, _, _, _, _, _, _, _, _ => none
 | k + 1, x1, x8, x9, x10, x518q0, x518q1, x518q2, x518q3, x518q4, x518q5, x518q6, x519q0 => if x10 < (x8.length : Int) then (if 0 ≤ x9 then (if x9 < (x518q1.length : Int) then (if 0 ≤ x10 then (if x10 < (((rd_T63 x518q1 x9).f6).length : Int) then (if x9 < (x1.length : Int) then (if x9 < (x519q0.length : Int) then (if x10 < ((rd_L9 x519q0 x9).length : Int) then (lw_grams.l1 k x1 (x8.set (x10 : Int).toNat (wrap64 ((rd x8 x10) + (wrap64 ((rd x1 x9) * (wrap64 ((wrap64 (100 * ((rd_T27 ((rd_T63 x518q1 x9).f6) x10).f0))) + (wrap64 ((wrap64 (Int.tmod (rd (rd_L9 x519q0 x9) x10) 101)) * (wrap64 (((rd_T27 ((rd_T63 x518q1 x9).f6) x10).f1) - ((rd_T27 ((rd_T63 x518q1 x9).f6) x10).f0)))))))))))) x9 (wrap64 (x10 + 1)) x518q0 x518q1 x518q2 x518q3 x518q4 x518q5 x518q6 x519q0) else (none)) else (none)) else (none)) else (none)) else (none)) else (none)) else (none)) else (lw_grams.l0 k x1 x8 (wrap64 (x9 + 1)) x518q0 x518q1 x518q2 x518q3 x518q4 x518q5 x518q6 x519q0)
end
def lw_grams.f (k : Nat) (l0_0 : List ByteArray) (l0_1 : List (S63)) (l0_2 : List (S27)) (l0_3 : List (S65)) (a0_4 : Int) (a0_5 : Int) (a0_6 : Int) (l1 : List Int) (l2_0 : List (List Int)) : Option (List Int × Bool) := if 0 ≤ (l0_0.length : Int) then (if ((l0_0.length : Int) : Int).toNat ≤ 35184372088832 then (if (l2_0.length : Int) = (l1.length : Int) then (lw_grams.l0 k l1 (List.replicate ((l0_0.length : Int) : Int).toNat 0) 0 l0_0 l0_1 l0_2 l0_3 a0_4 a0_5 a0_6 l2_0) else (some (([] : List Int), false))) else (none)) else (none)
def lw_grams.T13 : Bool × List (List Nat × List Nat) := (true, [([], []), ([], []), ([0, 1], [0, 1]), ([2], [2]), ([], []), ([], []), ([4, 5], [4, 5]), ([6], [6]), ([], []), ([8], [8]), ([9], [9]), ([], []), ([11], [11]), ([], []), ([12, 13], [12, 13]), ([14], [14]), ([], []), ([15, 16], [15, 16]), ([17], [17]), ([18], [18]), ([19], [19]), ([], []), ([21], [21]), ([], []), ([23], [23]), ([22, 24], [22, 24]), ([20, 25], [20, 25]), ([10, 26], [10, 26]), ([7, 27], [7, 27]), ([3, 28], [3, 28]), ([0, 1, 0, 1, 2, 3, 4, 5, 6, 7, 8, 9, 10, 11, 12, 13, 14, 15, 16, 17, 18, 19, 20, 21, 22, 23, 24, 25, 26, 27, 28, 29], [0, 1]), ([30, 29, 0, 1, 2, 3, 4, 5, 6, 7, 8, 9, 10, 11, 12, 13, 14, 15, 16, 17, 18, 19, 20, 21, 22, 23, 24, 25, 26, 27, 28, 29], [29, 30])])
def lw_grams.B13 : List Nat := [0, 0, 3, 7, 0, 0, 48, 112, 0, 256, 768, 0, 2048, 0, 14336, 30720, 0, 129024, 260096, 522240, 1046528, 0, 2097152, 0, 8388608, 31457280, 67106816, 134217472, 268435440, 536870911, 1073741823, 2147483647]
theorem lw_grams.tab13 : rtab .any (opsOf Try.f32 13) = lw_grams.T13 := by kernel_rfl
theorem lw_grams.bits13 : waitsOk lw_grams.T13.2 lw_grams.B13 = true := by kernel_rfl
set_option maxHeartbeats 8000000 in
set_option maxRecDepth 100000 in
theorem lw_grams.calls (k : Nat) (A0_0 : Option Addr) (c0_0 : Nat) (l0_0 : List ByteArray) (A0_1 : Option Addr) (c0_1 : Nat) (l0_1 : List (S63)) (A0_2 : Option Addr) (c0_2 : Nat) (l0_2 : List (S27)) (A0_3 : Option Addr) (c0_3 : Nat) (l0_3 : List (S65)) (a0_4 : Int) (a0_5 : Int) (a0_6 : Int) (A1 : Option Addr) (c1 : Nat) (l1 : List Int) (A2_0 : Option Addr) (c2_0 : Nat) (l2_0 : List (List Int)) (r1 : List Int) (r2 : Bool) (w : World) (hr0_0 : Kd.C Kd.string w A0_0 l0_0.length l0_0) (hc0_0 : l0_0.length ≤ c0_0) (hr0_1 : Kd.C k63 w A0_1 l0_1.length l0_1) (hc0_1 : l0_1.length ≤ c0_1) (hr0_2 : Kd.C k27 w A0_2 l0_2.length l0_2) (hc0_2 : l0_2.length ≤ c0_2) (hr0_3 : Kd.C k65 w A0_3 l0_3.length l0_3) (hc0_3 : l0_3.length ≤ c0_3) (hr1 : Kd.C (Kd.int .i64) w A1 l1.length l1) (hc1 : l1.length ≤ c1) (hr2_0 : Kd.C (Kd.slice 5 (Kd.int .u8)) w A2_0 l2_0.length l2_0) (hc2_0 : l2_0.length ≤ c2_0) (h : lw_grams.f k l0_0 l0_1 l0_2 l0_3 a0_4 a0_5 a0_6 l1 l2_0 = some (r1, r2)) :
  Calls Try.prog 32 #[.agg #[.slice A0_0 l0_0.length c0_0, .slice A0_1 l0_1.length c0_1, .slice A0_2 l0_2.length c0_2, .slice A0_3 l0_3.length c0_3, .int .i64 a0_4, .int .i64 a0_5, .int .i64 a0_6], .slice A1 l1.length c1, .agg #[.slice A2_0 l2_0.length c2_0]] w fun e w' => ∃ v0_ : Value, e = .returned (.tuple #[v0_, .bool r2]) ∧ Kd.R (Kd.int .i64) 3 w' w.heap.size (fun _ => True) v0_ r1 ∧ Below w.heap.size w w' := by
 have hu29 := Try.underlying29; have hu59 := Try.underlying59; have hu27 := Try.underlying27; have HR0_0 := Sd.mk hr0_0; have HC0_0 := Sd.mk hc0_0; clear hr0_0 hc0_0; have HR0_1 := Sd.mk hr0_1; have HC0_1 := Sd.mk hc0_1; clear hr0_1 hc0_1; have HR0_2 := Sd.mk hr0_2; have HC0_2 := Sd.mk hc0_2; clear hr0_2 hc0_2; have HR0_3 := Sd.mk hr0_3; have HC0_3 := Sd.mk hc0_3; clear hr0_3 hc0_3; have HR1 := Sd.mk hr1; have HC1 := Sd.mk hc1; clear hr1 hc1; have HR2_0 := Sd.mk hr2_0; have HC2_0 := Sd.mk hc2_0; clear hr2_0 hc2_0; have HB := Sd.mk (Below.refl w.heap.size w)
 have H : (if 0 ≤ (l0_0.length : Int) then (if ((l0_0.length : Int) : Int).toNat ≤ 35184372088832 then (if (l2_0.length : Int) = (l1.length : Int) then (lw_grams.l0 k l1 (List.replicate ((l0_0.length : Int) : Int).toNat 0) 0 l0_0 l0_1 l0_2 l0_3 a0_4 a0_5 a0_6 l2_0) else (some (([] : List Int), false))) else (none)) else (none)) = some (r1, r2) := h
 clear h
 by_cases c4 : 0 ≤ (l0_0.length : Int)
 ·rw [if_pos c4] at H
  have c4b0 := eq_true c4
  have c4b1 : decide (0 ≤ (l0_0.length : Int)) = true := decide_eq_true c4
  clear c4
  by_cases c5 : ((l0_0.length : Int) : Int).toNat ≤ 35184372088832
  ·rw [if_pos c5] at H
   have c5b0 := eq_true c5
   have c5b1 : decide (((l0_0.length : Int) : Int).toNat ≤ 35184372088832) = true := decide_eq_true c5
   clear c5
   obtain ⟨y519, hy519⟩ : ∃ y_ : List Int, y_ = (List.replicate ((l0_0.length : Int) : Int).toNat 0) := ⟨_, rfl⟩
   replace H : (if (l2_0.length : Int) = (l1.length : Int) then (lw_grams.l0 k l1 y519 0 l0_0 l0_1 l0_2 l0_3 a0_4 a0_5 a0_6 l2_0) else (some (([] : List Int), false))) = some (r1, r2) := by first | (rw [hy519]; with_reducible exact H) | (have H2_ := (Option.bind_some _ _).symm.trans H; rw [hy519]; with_reducible exact H2_) | (have H2_ := (Option.bind_some _ _).symm.trans H; with_reducible exact H2_) | with_reducible exact H | (rw [hy519]; exact H) | exact H
   have Ny519 := Sd.mk hy519; clear hy519
   by_cases c6 : (l2_0.length : Int) = (l1.length : Int)
   ·rw [if_pos c6] at H
    have c6b0 : ((l2_0.length : Int) == (l1.length : Int)) = true := beq_iff_eq.mpr c6
    have c6b1 : ((l2_0.length : Int) != (l1.length : Int)) = false := bne_eq_false_iff_eq.mpr c6
    have c6b2 : (l2_0.length == l1.length) = true := by first | simpa using c6 | (simp at c6 ⊢; omega)
    clear c6; have H' := Sd.mk H; clear H
    go_enter Try.func32, Try.ntmps32
    go_wp2_with (first | ((with_reducible refine gate_dst (N := 3) rfl ?_); refine box_event ?hg (N := 3) ?hd (cs := #[.slice A0_0 l0_0.length c0_0, .slice A0_1 l0_1.length c0_1, .slice A0_2 l0_2.length c0_2, .slice A0_3 l0_3.length c0_3, .int .i64 a0_4, .int .i64 a0_5, .int .i64 a0_6]) (t := 29) ?hr ?_; (case hd => rfl); (case hg => rfl); (case hr => exact tG); intro gb517 hg w7 hbox hb; have BK517 := Sd.mk (hbox); have GW517 := Sd.mk (bSz hg (bBl HB.out)); have GE517 := Sd.mk (bSz hg (bBl HB.out)); replace HB := Sd.mk (below_step (bBl HB.out) hb); clear hb hbox hg) | ((with_reducible refine gate_dst (N := 5) rfl ?_); refine box_event ?hg (N := 5) ?hd (cs := #[.slice A2_0 l2_0.length c2_0]) (t := 59) ?hr ?_; (case hd => rfl); (case hg => rfl); (case hr => exact tG); intro gb518 hg w8 hbox hb; have BK518 := Sd.mk (hbox); have GW518 := Sd.mk (bSz hg (bBl HB.out)); have GE518 := Sd.mk (bSz hg (bBl HB.out)); replace HB := Sd.mk (below_step (bBl HB.out) hb); have NB517_518 := Sd.mk (bNl hg (bkA BK517.out)); have NB518_517 := Sd.mk (bNg hg (bkA BK517.out)); replace BK517 := Sd.mk (blk_below (bkA BK517.out) hb); clear hb hbox hg; have hnb9 := NB517_518.out; have hnc9 := NB518_517.out; obtain ⟨u10_0, u10_1, u10_2, u10_3, u10_4, u10_5, u10_6, o10_0, o10_1, o10_2, o10_3, o10_4, o10_5, o10_6⟩ := bc7 (w := w8) BK517.out) | ((with_reducible refine gate_dst (N := 15) rfl ?_); refine Kd.R_make (Kd.int .i64) _ 3 rfl (N := 15) rfl 30 _ _ rfl (l0_0.length : Int) rfl rfl Try.underlying30 (.int .i64 0) 8 info3 rfl (by decide) (by omega) 0 (ok := fun _ => True) (okp := fun _ => True) rfl (fun _ hk => hk) trivial (tB) (Nat.le_trans (Nat.mul_le_mul_right _ (tB : (l0_0.length : Int).toNat ≤ 35184372088832)) (by omega)) (Below.refl _ _) (Nat.le_refl _) ?_; intro v520 w11 ho12 hb hg_ hnew_; clear hg_ hnew_; (first | rw [← Ny519.out] at ho12 | (simp only [Int.reduceToNat] at ho12; rw [← Ny519.out] at ho12)); have HO521 := Sd.mk (Kd.R_lower ho12 (below_size (bBl HB.out))); replace BK517 := Sd.mk (blk_below (bkA BK517.out) hb); replace BK518 := Sd.mk (blk_below (bkA BK518.out) hb); replace HB := Sd.mk (below_step (bBl HB.out) hb); clear hb ho12; obtain ⟨u13_0, o13_0⟩ := bc1 (w := w11) BK518.out))
    go_loopg [9] k (fun kq v9 w' => ∃ (x8_1 : List Int) (x9_1 : Int), v9 = .int .i64 x9_1 ∧ Sd (lw_grams.l0 kq l1 x8_1 x9_1 l0_0 l0_1 l0_2 l0_3 a0_4 a0_5 a0_6 l2_0 = some (r1, r2)) ∧ Sd (kq ≤ k) ∧ Sd (Kd.R (Kd.int .i64) 3 w' w.heap.size (fun _ => True) v520 x8_1) ∧ Sd (w'.heap[gb517]? = some (.cells #[(.slice A0_0 l0_0.length c0_0), (.slice A0_1 l0_1.length c0_1), (.slice A0_2 l0_2.length c0_2), (.slice A0_3 l0_3.length c0_3), .int .i64 a0_4, .int .i64 a0_5, .int .i64 a0_6] 29 (0, 0))) ∧ Sd (w'.heap[gb518]? = some (.cells #[(.slice A2_0 l2_0.length c2_0)] 59 (0, 0))) ∧ Sd (Below w.heap.size w w'))
    case atStart => exact ⟨(y519), (0), tS, H', ⟨Nat.le_refl _⟩, ⟨by (with_reducible repeat (first | apply Kd.R_alloc | apply Kd.R_drewN | apply Kd.R_drew)); exact HO521.out⟩, ⟨bkA BK517.out⟩, ⟨bkA BK518.out⟩, ⟨bBl HB.out⟩⟩
    case round =>
     clear H'; (try clear c1); (try clear c2); (try clear p2); (try clear c3); (try clear c4); (try clear c4b0); (try clear c4b1); (try clear c5); (try clear c5b0); (try clear c5b1); (try clear c6); (try clear c6b0); (try clear c6b1); (try clear c6b2); (try clear c9); (try clear u10_0 u10_1 u10_2 u10_3 u10_4 u10_5 u10_6); (try clear u13_0); (try clear o10_0 o10_1 o10_2 o10_3 o10_4 o10_5 o10_6); (try clear o13_0); obtain ⟨x8_1, x9_1, rfl, HA, HK1, HO_8, BK517, BK518, HB⟩ := hrel
     cases gk with
     | zero => exact absurd HA.out (by simp [lw_grams.l0])
     | succ k1 =>
      have H := HA.out; clear HA
      simp only [lw_grams.l0] at H
      by_cases c14 : x9_1 < (l1.length : Int)
      ·rw [if_pos c14] at H
       have c14b0 : decide (x9_1 < (l1.length : Int)) = true := decide_eq_true c14
       clear c14
       by_cases c15 : 0 ≤ x9_1
       ·rw [if_pos c15] at H
        have c15b0 : decide (0 ≤ x9_1) = true := decide_eq_true c15
        clear c15
        by_cases c16 : x9_1 < (l2_0.length : Int)
        ·rw [if_pos c16] at H
         have c16b0 : decide (x9_1 < (l2_0.length : Int)) = true := decide_eq_true c16
         clear c16
         by_cases c17 : ((rd_L9 l2_0 x9_1).length : Int) = (x8_1.length : Int)
         ·rw [if_pos c17] at H
          have c17b0 : (((rd_L9 l2_0 x9_1).length : Int) == (x8_1.length : Int)) = true := beq_iff_eq.mpr c17
          have c17b1 : (((rd_L9 l2_0 x9_1).length : Int) != (x8_1.length : Int)) = false := bne_eq_false_iff_eq.mpr c17
          have c17b2 : ((rd_L9 l2_0 x9_1).length == x8_1.length) = true := by first | simpa using c17 | (simp at c17 ⊢; omega)
          clear c17; have H' := Sd.mk H; clear H; have hnb18 := NB518_517.out; have hnc18 := NB517_518.out; obtain ⟨u19_0, o19_0⟩ := bc1 (w := wr) BK518.out
          have p522 : 0 ≤ (x9_1 : Int) := tB
          have q522 : x9_1 < (l2_0.length : Int) := tB
          obtain ⟨ad522, A522_0, c522_0, e522, hx522_0, hl522_0, hi522_0⟩ := at_L9 HR2_0.out x9_1 p522 q522; cases e522; replace hx522_0 := cU HB hx522_0; have HR522_0 := Sd.mk hi522_0; have HC522_0 := Sd.mk hl522_0; clear hi522_0 hl522_0; replace p522 := eq_true p522; replace q522 := eq_true q522; obtain ⟨Ao20, co20, eo20⟩ := Kd.R_slice HO_8.out; subst eo20
          go_wp2
          go_loopg [10] k1 (fun kq v10 w' => ∃ (x8_2 : List Int) (x10_2 : Int), v10 = .int .i64 x10_2 ∧ Sd (lw_grams.l1 kq l1 x8_2 x9_1 x10_2 l0_0 l0_1 l0_2 l0_3 a0_4 a0_5 a0_6 l2_0 = some (r1, r2)) ∧ Sd (kq ≤ k1) ∧ Sd (Kd.R (Kd.int .i64) 3 w' w.heap.size (fun _ => True) (.slice Ao20 x8_1.length co20) x8_2) ∧ Sd (w'.heap[gb517]? = some (.cells #[(.slice A0_0 l0_0.length c0_0), (.slice A0_1 l0_1.length c0_1), (.slice A0_2 l0_2.length c0_2), (.slice A0_3 l0_3.length c0_3), .int .i64 a0_4, .int .i64 a0_5, .int .i64 a0_6] 29 (0, 0))) ∧ Sd (w'.heap[gb518]? = some (.cells #[(.slice (some ad522) l2_0.length c2_0)] 59 (0, 0))) ∧ Sd (Below w.heap.size w w'))
          case atStart => exact ⟨(x8_1), (0), tS, H', ⟨Nat.le_refl _⟩, ⟨by (with_reducible repeat (first | apply Kd.R_alloc | apply Kd.R_drewN | apply Kd.R_drew)); exact HO_8.out⟩, ⟨bkA BK517.out⟩, ⟨bkA BK518.out⟩, ⟨bBl HB.out⟩⟩
          case round =>
           clear H'; (try clear c1); (try clear c2); (try clear p2 p2); (try clear c3); (try clear c4); (try clear c4b0); (try clear c4b1); (try clear c5); (try clear c5b0); (try clear c5b1); (try clear p5); (try clear q5); (try clear hx5); (try clear c6); (try clear c6b0); (try clear c6b1); (try clear c6b2); (try clear c9); (try clear c14); (try clear c14b0); (try clear c15); (try clear c15b0); (try clear c16); (try clear c16b0); (try clear c17); (try clear c17b0); (try clear c17b1); (try clear c17b2); (try clear c18); (try clear u10_0 u10_1 u10_2 u10_3 u10_4 u10_5 u10_6); (try clear u13_0); (try clear u19_0); (try clear o10_0 o10_1 o10_2 o10_3 o10_4 o10_5 o10_6); (try clear o13_0); (try clear o19_0); (try clear hx522_0); (try clear p522); (try clear q522); obtain ⟨x8_2, x10_2, rfl, HA, HK2, HO_8, BK517, BK518, HB⟩ := hrel; have hl8_2 := (Kd.R_reads' HO_8.out).1
           rw [hl8_2] at HO_8
           (try simp only [hl8_2])
           (try simp only [hl8_2] at BK517)
           (try simp only [hl8_2] at BK518)
           cases gk with
           | zero => exact absurd HA.out (by simp [lw_grams.l1])
           | succ k2 =>
            have H := HA.out; clear HA
            simp only [lw_grams.l1] at H
            by_cases c21 : x10_2 < (x8_2.length : Int)
            ·rw [if_pos c21] at H
             have c21b0 : decide (x10_2 < (x8_2.length : Int)) = true := decide_eq_true c21
             clear c21
             by_cases c22 : 0 ≤ x9_1
             ·rw [if_pos c22] at H
              have c22b0 : decide (0 ≤ x9_1) = true := decide_eq_true c22
              clear c22
              by_cases c23 : x9_1 < (l0_1.length : Int)
              ·rw [if_pos c23] at H
               have c23b0 : decide (x9_1 < (l0_1.length : Int)) = true := decide_eq_true c23
               clear c23
               by_cases c24 : 0 ≤ x10_2
               ·rw [if_pos c24] at H
                have c24b0 : decide (0 ≤ x10_2) = true := decide_eq_true c24
                clear c24
                by_cases c25 : x10_2 < (((rd_T63 l0_1 x9_1).f6).length : Int)
                ·rw [if_pos c25] at H
                 have c25b0 : decide (x10_2 < (((rd_T63 l0_1 x9_1).f6).length : Int)) = true := decide_eq_true c25
                 clear c25
                 by_cases c26 : x9_1 < (l1.length : Int)
                 ·rw [if_pos c26] at H
                  have c26b0 : decide (x9_1 < (l1.length : Int)) = true := decide_eq_true c26
                  clear c26
                  by_cases c27 : x9_1 < (l2_0.length : Int)
                  ·rw [if_pos c27] at H
                   have c27b0 : decide (x9_1 < (l2_0.length : Int)) = true := decide_eq_true c27
                   clear c27
                   by_cases c28 : x10_2 < ((rd_L9 l2_0 x9_1).length : Int)
                   ·rw [if_pos c28] at H
                    have c28b0 : decide (x10_2 < ((rd_L9 l2_0 x9_1).length : Int)) = true := decide_eq_true c28
                    clear c28
                    obtain ⟨y530, hy530⟩ : ∃ y_ : List Int, y_ = (x8_2.set (x10_2 : Int).toNat (wrap64 ((rd x8_2 x10_2) + (wrap64 ((rd l1 x9_1) * (wrap64 ((wrap64 (100 * ((rd_T27 ((rd_T63 l0_1 x9_1).f6) x10_2).f0))) + (wrap64 ((wrap64 (Int.tmod (rd (rd_L9 l2_0 x9_1) x10_2) 101)) * (wrap64 (((rd_T27 ((rd_T63 l0_1 x9_1).f6) x10_2).f1) - ((rd_T27 ((rd_T63 l0_1 x9_1).f6) x10_2).f0)))))))))))) := ⟨_, rfl⟩
                    replace H : (lw_grams.l1 k2 l1 y530 x9_1 (wrap64 (x10_2 + 1)) l0_0 l0_1 l0_2 l0_3 a0_4 a0_5 a0_6 l2_0) = some (r1, r2) := by first | (rw [hy530]; with_reducible exact H) | (have H2_ := (Option.bind_some _ _).symm.trans H; rw [hy530]; with_reducible exact H2_) | (have H2_ := (Option.bind_some _ _).symm.trans H; with_reducible exact H2_) | with_reducible exact H | (rw [hy530]; exact H) | exact H
                    have Ny530 := Sd.mk hy530; clear hy530; have H' := Sd.mk H; clear H; have hnb30 := NB517_518.out; have hnc30 := NB518_517.out; obtain ⟨u31_0, u31_1, u31_2, u31_3, u31_4, u31_5, u31_6, o31_0, o31_1, o31_2, o31_3, o31_4, o31_5, o31_6⟩ := bc7 (w := wr) BK517.out
                    have p523 : 0 ≤ (x9_1 : Int) := tB
                    have q523 : x9_1 < (l0_1.length : Int) := tB
                    obtain ⟨ad523, A523_6, c523_6, e523, hx523_0, hx523_1, hx523_2, hx523_3, hx523_4, hx523_5, hx523_6, hl523_6, hi523_6⟩ := at_T63 HR0_1.out x9_1 p523 q523; cases e523; replace hx523_0 := cU HB hx523_0; replace hx523_1 := cU HB hx523_1; replace hx523_2 := cU HB hx523_2; replace hx523_3 := cU HB hx523_3; replace hx523_4 := cU HB hx523_4; replace hx523_5 := cU HB hx523_5; replace hx523_6 := cU HB hx523_6; have HR523_6 := Sd.mk hi523_6; have HC523_6 := Sd.mk hl523_6; clear hi523_6 hl523_6; replace p523 := eq_true p523; replace q523 := eq_true q523
                    have p524 : 0 ≤ (x10_2 : Int) := tB
                    have q524 : x10_2 < (((rd_T63 l0_1 x9_1).f6).length : Int) := tB
                    obtain ⟨ad524, e524, hx524_0, hx524_1⟩ := at_T27 HR523_6.out x10_2 p524 q524; cases e524; replace hx524_0 := cU HB hx524_0; replace hx524_1 := cU HB hx524_1; replace p524 := eq_true p524; replace q524 := eq_true q524
                    try go_wp2_with (first | ((with_reducible refine gate_dst (N := 11) rfl ?_); refine box_event ?hg (N := 11) ?hd (cs := #[.int .i64 0, .int .i64 0]) (t := 27) ?hr ?_; (case hd => rfl); (case hg => rfl); (case hr => exact tG); intro gb525 hg w32 hbox hb; replace HO_8 := Sd.mk (Kd.R_below (by (with_reducible repeat (first | apply Kd.R_alloc | apply Kd.R_drewN | apply Kd.R_drew)); exact HO_8.out) hb); have BK525 := Sd.mk (hbox); have GW525 := Sd.mk (bSz hg (bBl HB.out)); have GE525 := Sd.mk (bSz hg (bBl HB.out)); replace HB := Sd.mk (below_step (bBl HB.out) hb); have NB517_525 := Sd.mk (bNl hg (bkA BK517.out)); have NB525_517 := Sd.mk (bNg hg (bkA BK517.out)); replace BK517 := Sd.mk (blk_below (bkA BK517.out) hb); have NB518_525 := Sd.mk (bNl hg (bkA BK518.out)); have NB525_518 := Sd.mk (bNg hg (bkA BK518.out)); replace BK518 := Sd.mk (blk_below (bkA BK518.out) hb); clear hb hbox hg; have hnb33 := NB525_517.out; have hnc33 := NB517_525.out; have hnb34 := NB525_518.out; have hnc34 := NB518_525.out; obtain ⟨u35_0, u35_1, o35_0, o35_1⟩ := bc2 (w := w32) BK525.out))
                    have n0_ : Sd (Kd.R (Kd.int .i64) 3 ((w32.setCell ⟨gb525, 0, none⟩ (.int .i64 ((rd_T27 ((rd_T63 l0_1 x9_1).f6) x10_2).f0))).setCell ⟨gb525, 1, none⟩ (.int .i64 ((rd_T27 ((rd_T63 l0_1 x9_1).f6) x10_2).f1))) w.heap.size (fun _ => True) (.slice Ao20 x8_2.length co20) x8_2) := ⟨by (with_reducible repeat (first | apply Kd.R_alloc | apply Kd.R_drewN | apply Kd.R_drew)); exact Kd.R_mono (Kd.R_far (p := ⟨gb525, 1, none⟩) (Kd.R_far (p := ⟨gb525, 0, none⟩) (Kd.R_types HO_8.out BK525.out (by decide)) (fun _ hk => hk.2) (.int .i64 ((rd_T27 ((rd_T63 l0_1 x9_1).f6) x10_2).f0))) (fun _ hk => hk.2) (.int .i64 ((rd_T27 ((rd_T63 l0_1 x9_1).f6) x10_2).f1))) (fun _ hk => trivial)⟩
                    have n1_ : Sd (((w32.setCell ⟨gb525, 0, none⟩ (.int .i64 ((rd_T27 ((rd_T63 l0_1 x9_1).f6) x10_2).f0))).setCell ⟨gb525, 1, none⟩ (.int .i64 ((rd_T27 ((rd_T63 l0_1 x9_1).f6) x10_2).f1))).heap[gb517]? = some (.cells #[.slice A0_0 l0_0.length c0_0, .slice (some ad523) l0_1.length c0_1, .slice A0_2 l0_2.length c0_2, .slice A0_3 l0_3.length c0_3, .int .i64 a0_4, .int .i64 a0_5, .int .i64 a0_6] 29 (0, 0))) := ⟨by (with_reducible repeat (first | refine blk_drewN ?_ _ | refine blk_drew ?_ | refine blk_alloc ?_ _)); refine blk_far ?_ NB517_525.out _; (with_reducible repeat (first | refine blk_drewN ?_ _ | refine blk_drew ?_ | refine blk_alloc ?_ _)); refine blk_far ?_ NB517_525.out _; (with_reducible repeat (first | refine blk_drewN ?_ _ | refine blk_drew ?_ | refine blk_alloc ?_ _)); exact BK517.out⟩
                    have n2_ : Sd (((w32.setCell ⟨gb525, 0, none⟩ (.int .i64 ((rd_T27 ((rd_T63 l0_1 x9_1).f6) x10_2).f0))).setCell ⟨gb525, 1, none⟩ (.int .i64 ((rd_T27 ((rd_T63 l0_1 x9_1).f6) x10_2).f1))).heap[gb518]? = some (.cells #[.slice (some ad522) l2_0.length c2_0] 59 (0, 0))) := ⟨by (with_reducible repeat (first | refine blk_drewN ?_ _ | refine blk_drew ?_ | refine blk_alloc ?_ _)); refine blk_far ?_ NB518_525.out _; (with_reducible repeat (first | refine blk_drewN ?_ _ | refine blk_drew ?_ | refine blk_alloc ?_ _)); refine blk_far ?_ NB518_525.out _; (with_reducible repeat (first | refine blk_drewN ?_ _ | refine blk_drew ?_ | refine blk_alloc ?_ _)); exact BK518.out⟩
                    have n3_ : Sd (((w32.setCell ⟨gb525, 0, none⟩ (.int .i64 ((rd_T27 ((rd_T63 l0_1 x9_1).f6) x10_2).f0))).setCell ⟨gb525, 1, none⟩ (.int .i64 ((rd_T27 ((rd_T63 l0_1 x9_1).f6) x10_2).f1))).heap[gb525]? = some (.cells #[.int .i64 ((rd_T27 ((rd_T63 l0_1 x9_1).f6) x10_2).f0), .int .i64 ((rd_T27 ((rd_T63 l0_1 x9_1).f6) x10_2).f1)] 27 (0, 0))) := ⟨by (with_reducible repeat (first | refine blk_drewN ?_ _ | refine blk_drew ?_ | refine blk_alloc ?_ _)); refine blk_put (cs := #[.int .i64 ((rd_T27 ((rd_T63 l0_1 x9_1).f6) x10_2).f0), .int .i64 0]) ?_ 1 _ rfl; (with_reducible repeat (first | refine blk_drewN ?_ _ | refine blk_drew ?_ | refine blk_alloc ?_ _)); refine blk_put (cs := #[.int .i64 0, .int .i64 0]) ?_ 0 _ rfl; (with_reducible repeat (first | refine blk_drewN ?_ _ | refine blk_drew ?_ | refine blk_alloc ?_ _)); exact BK525.out⟩
                    have n4_ : Sd (Below w.heap.size w ((w32.setCell ⟨gb525, 0, none⟩ (.int .i64 ((rd_T27 ((rd_T63 l0_1 x9_1).f6) x10_2).f0))).setCell ⟨gb525, 1, none⟩ (.int .i64 ((rd_T27 ((rd_T63 l0_1 x9_1).f6) x10_2).f1)))) := ⟨bBl HB.out⟩
                    (try clear HO_8)
                    (try clear BK517)
                    (try clear BK518)
                    (try clear BK525)
                    (try clear HB)
                    generalize ((w32.setCell ⟨gb525, 0, none⟩ (.int .i64 ((rd_T27 ((rd_T63 l0_1 x9_1).f6) x10_2).f0))).setCell ⟨gb525, 1, none⟩ (.int .i64 ((rd_T27 ((rd_T63 l0_1 x9_1).f6) x10_2).f1))) = w36 at n0_ n1_ n2_ n3_ n4_ ⊢
                    have HO_8 := n0_; have BK517 := n1_; have BK518 := n2_; have BK525 := n3_; have HB := n4_; clear n0_ n1_ n2_ n3_ n4_; replace HO_8 := Sd.mk (Kd.R_drew HO_8.out); replace BK517 := Sd.mk (blk_drew BK517.out); replace BK518 := Sd.mk (blk_drew BK518.out); replace BK525 := Sd.mk (blk_drew BK525.out); replace HB := Sd.mk (below_drew1 HB.out)
                    have p526 : 0 ≤ (x10_2 : Int) := tB
                    have q526 : x10_2 < (x8_2.length : Int) := tB
                    obtain ⟨ad526, e526, hx526_0⟩ := Kd.at_int (Kd.R_reads' HO_8.out).2.2 x10_2 p526 q526; cases e526; replace p526 := eq_true p526; replace q526 := eq_true q526
                    have p527 : 0 ≤ (x9_1 : Int) := tB
                    have q527 : x9_1 < (l1.length : Int) := tB
                    obtain ⟨ad527, e527, hx527_0⟩ := Kd.at_int HR1.out x9_1 p527 q527; have hw527_0 := hx527_0; cases e527; replace hx527_0 := cU HB hx527_0; replace p527 := eq_true p527; replace q527 := eq_true q527
                    have p528 : 0 ≤ (x9_1 : Int) := tB
                    have q528 : x9_1 < (l2_0.length : Int) := tB
                    obtain ⟨ad528, A528_0, c528_0, e528, hx528_0, hl528_0, hi528_0⟩ := at_L9 HR2_0.out x9_1 p528 q528; have hw528_0 := hx528_0
                    obtain rfl : ad522 = ad528 := (by injection e528)
                    replace hx528_0 := cU HB hx528_0; have HR528_0 := Sd.mk hi528_0; have HC528_0 := Sd.mk hl528_0; clear hi528_0 hl528_0; replace p528 := eq_true p528; replace q528 := eq_true q528
                    have p529 : 0 ≤ (x10_2 : Int) := tB
                    have q529 : x10_2 < ((rd_L9 l2_0 x9_1).length : Int) := tB
                    obtain ⟨ad529, e529, hx529_0⟩ := Kd.at_int HR528_0.out x10_2 p529 q529; have hw529_0 := hx529_0; cases e529; replace hx529_0 := cU HB hx529_0; replace p529 := eq_true p529; replace q529 := eq_true q529
                    have p29 : 0 ≤ (x10_2 : Int) := tB
                    have q29 : (x10_2 : Int) < ((x8_2.length : Int) : Int) := tB
                    obtain ⟨go29, co29, eo29, gb29, gl29, cl29, HG29⟩ := Kd.R_form HO_8.out (by omega)
                    (first | cases eo29 | (injection eo29 with ea_ en_ ec_; (first | subst ea_ | (injection ea_ with ea_; subst ea_)); subst ec_; clear en_))
                    have GB29 := Sd.mk gb29; have GG29 := Sd.mk HG29; clear gb29 gl29 HG29
                    (first | simp only [add_plain] at hx526_0 | skip)
                    obtain ⟨hx29_0, hf29_0⟩ := Kd.R_celln 0 HO_8.out (x10_2 : Int) p29 q29; replace p29 := eq_true p29; replace q29 := eq_true q29; have HP38 := Kd.R_putn HO_8.out (x10_2 : Int) (wrap64 ((rd x8_2 x10_2) + (wrap64 ((rd l1 x9_1) * (wrap64 ((wrap64 (100 * ((rd_T27 ((rd_T63 l0_1 x9_1).f6) x10_2).f0))) + (wrap64 ((wrap64 (Int.tmod (rd (rd_L9 l2_0 x9_1) x10_2) 101)) * (wrap64 (((rd_T27 ((rd_T63 l0_1 x9_1).f6) x10_2).f1) - ((rd_T27 ((rd_T63 l0_1 x9_1).f6) x10_2).f0)))))))))))
                    rw [← Ny530.out] at HP38
                    have HQ38 := Sd.mk HP38; clear HP38
                    refine start_ (n := 32) (S := fun w' => w'.cell? ⟨gb525, 0, none⟩ = some (.int .i64 ((rd_T27 ((rd_T63 l0_1 x9_1).f6) x10_2).f0)) ∧ w'.cell? ⟨gb525, 1, none⟩ = some (.int .i64 ((rd_T27 ((rd_T63 l0_1 x9_1).f6) x10_2).f1)) ∧ w'.cell? ⟨gb518, 0, none⟩ = some (.slice (some ad522) l2_0.length c2_0) ∧ w'.cell? ⟨go29, (x10_2).toNat, none⟩ = some (.int .i64 (rd x8_2 x10_2)) ∧ w'.cell? (ad527.add (x9_1).toNat) = some (.int .i64 (rd l1 x9_1)) ∧ w'.cell? (ad522.add (x9_1).toNat) = some (.slice (some ad529) (rd_L9 l2_0 x9_1).length c528_0) ∧ w'.cell? (ad529.add (x10_2).toNat) = some (.int .u8 (rd (rd_L9 l2_0 x9_1) x10_2))) (ds := [31]) #[false, false, false, false, false, false, false, false, false, false, false, false, false, false, false, false, false, false, false, false, false, false, false, false, false, false, false, false, false, false, false, false] (by kernel_rfl) rfl rfl ⟨(blk_cell BK525.out 0).trans rfl, (blk_cell BK525.out 1).trans rfl, (blk_cell BK518.out 0).trans rfl, hx526_0, ((HB.out.cell (World.block_lt_of_cell? w _ hw527_0)).trans hw527_0), ((HB.out.cell (World.block_lt_of_cell? w _ hw528_0)).trans hw528_0), ((HB.out.cell (World.block_lt_of_cell? w _ hw529_0)).trans hw529_0)⟩ (fun hHeld => ?_); refine with_tabW lw_grams.tab13 lw_grams.bits13 (fun HT_ HW_ => ?_)
                    generalize w36.drew = w37 at HO_8 BK517 BK518 BK525 HB GG29 HQ38 HR528_0 hf29_0 hx29_0 hx526_0 hx527_0 hx528_0 hx529_0 hHeld ⊢
                    refine pure_ (i := 0) (N := some 52) (v := ?_) (a' := ?_) #[true, false, false, false, false, false, false, false, false, false, false, false, false, false, false, false, false, false, false, false, false, false, false, false, false, false, false, false, false, false, false, false] rfl rfl (any_of HT_.out (by kernel_rfl)) (fun _ _ _ h => h) (Or.inl ⟨by rfl, ?_⟩) ?_ ?_
                    rotate_left
                    ·exact tW
                    rotate_left
                    ·exact tP
                    refine pure_ (i := 1) (N := some 53) (v := ?_) (a' := ?_) #[true, true, false, false, false, false, false, false, false, false, false, false, false, false, false, false, false, false, false, false, false, false, false, false, false, false, false, false, false, false, false, false] rfl rfl (any_of HT_.out (by kernel_rfl)) (fun _ _ _ h => h) (Or.inl ⟨by rfl, ?_⟩) ?_ ?_
                    rotate_left
                    ·exact tW
                    rotate_left
                    ·exact tP
                    refine pure_ (i := 2) (N := some 54) (v := ?_) (a' := ?_) #[true, true, true, false, false, false, false, false, false, false, false, false, false, false, false, false, false, false, false, false, false, false, false, false, false, false, false, false, false, false, false, false] rfl rfl (any_of HT_.out (by kernel_rfl)) (fun _ _ _ h => h) (Or.inl ⟨by rfl, ?_⟩) ?_ ?_
                    rotate_left
                    ·exact tW
                    rotate_left
                    ·exact tP
                    refine pure_ (i := 4) (N := some 56) (v := ?_) (a' := ?_) #[true, true, true, false, true, false, false, false, false, false, false, false, false, false, false, false, false, false, false, false, false, false, false, false, false, false, false, false, false, false, false, false] rfl rfl (any_of HT_.out (by kernel_rfl)) (fun _ _ _ h => h) (Or.inl ⟨by rfl, ?_⟩) ?_ ?_
                    rotate_left
                    ·exact tW
                    rotate_left
                    ·exact tP
                    refine pure_ (i := 5) (N := some 57) (v := ?_) (a' := ?_) #[true, true, true, false, true, true, false, false, false, false, false, false, false, false, false, false, false, false, false, false, false, false, false, false, false, false, false, false, false, false, false, false] rfl rfl (any_of HT_.out (by kernel_rfl)) (fun _ _ _ h => h) (Or.inl ⟨by rfl, ?_⟩) ?_ ?_
                    rotate_left
                    ·exact tW
                    rotate_left
                    ·exact tP
                    refine pure_ (i := 6) (N := some 58) (v := ?_) (a' := ?_) #[true, true, true, false, true, true, true, false, false, false, false, false, false, false, false, false, false, false, false, false, false, false, false, false, false, false, false, false, false, false, false, false] rfl rfl (any_of HT_.out (by kernel_rfl)) (fun _ _ _ h => h) (Or.inl ⟨by rfl, ?_⟩) ?_ ?_
                    rotate_left
                    ·exact tW
                    rotate_left
                    ·exact tP
                    refine pure_ (i := 8) (N := some 60) (v := ?_) (a' := ?_) #[true, true, true, false, true, true, true, false, true, false, false, false, false, false, false, false, false, false, false, false, false, false, false, false, false, false, false, false, false, false, false, false] rfl rfl (any_of HT_.out (by kernel_rfl)) (fun _ _ _ h => h) (Or.inl ⟨by rfl, ?_⟩) ?_ ?_
                    rotate_left
                    ·exact tW
                    rotate_left
                    ·exact tP
                    refine pure_ (i := 11) (N := some 63) (v := ?_) (a' := ?_) #[true, true, true, false, true, true, true, false, true, false, false, true, false, false, false, false, false, false, false, false, false, false, false, false, false, false, false, false, false, false, false, false] rfl rfl (any_of HT_.out (by kernel_rfl)) (fun _ _ _ h => h) (Or.inl ⟨by rfl, ?_⟩) ?_ ?_
                    rotate_left
                    ·exact tW
                    rotate_left
                    ·exact tP
                    refine pure_ (i := 13) (N := some 65) (v := ?_) (a' := ?_) #[true, true, true, false, true, true, true, false, true, false, false, true, false, true, false, false, false, false, false, false, false, false, false, false, false, false, false, false, false, false, false, false] rfl rfl (any_of HT_.out (by kernel_rfl)) (fun _ _ _ h => h) (Or.inl ⟨by rfl, ?_⟩) ?_ ?_
                    rotate_left
                    ·exact tW
                    rotate_left
                    ·exact tP
                    refine pure_ (i := 16) (N := some 68) (v := ?_) (a' := ?_) #[true, true, true, false, true, true, true, false, true, false, false, true, false, true, false, false, true, false, false, false, false, false, false, false, false, false, false, false, false, false, false, false] rfl rfl (any_of HT_.out (by kernel_rfl)) (fun _ _ _ h => h) (Or.inl ⟨by rfl, ?_⟩) ?_ ?_
                    rotate_left
                    ·exact tW
                    rotate_left
                    ·exact tP
                    refine pure_ (i := 21) (N := some 73) (v := ?_) (a' := ?_) #[true, true, true, false, true, true, true, false, true, false, false, true, false, true, false, false, true, false, false, false, false, true, false, false, false, false, false, false, false, false, false, false] rfl rfl (any_of HT_.out (by kernel_rfl)) (fun _ _ _ h => h) (Or.inl ⟨by rfl, ?_⟩) ?_ ?_
                    rotate_left
                    ·exact tW
                    rotate_left
                    ·exact tP
                    refine pure_ (i := 23) (N := some 75) (v := ?_) (a' := ?_) #[true, true, true, false, true, true, true, false, true, false, false, true, false, true, false, false, true, false, false, false, false, true, false, true, false, false, false, false, false, false, false, false] rfl rfl (any_of HT_.out (by kernel_rfl)) (fun _ _ _ h => h) (Or.inl ⟨by rfl, ?_⟩) ?_ ?_
                    rotate_left
                    ·exact tW
                    rotate_left
                    ·exact tP
                    refine take_ (i := 3) (N := some 55) (v := ?_) (a' := ?_) #[true, true, true, true, true, true, true, false, true, false, false, true, false, true, false, false, true, false, false, false, false, true, false, true, false, false, false, false, false, false, false, false] rfl rfl (take_ofW HT_.out HW_.out (by kernel_rfl)) (fun _ _ _ h => h) (Or.inl ⟨by rfl, ?_⟩) hHeld ?_ ?_
                    rotate_left
                    ·rintro w' ⟨s0, s1, s2, s3, s4, s5, s6⟩
                     go_simp
                     with_reducible rfl
                    rotate_left
                    ·exact tP
                    refine take_ (i := 7) (N := some 59) (v := ?_) (a' := ?_) #[true, true, true, true, true, true, true, true, true, false, false, true, false, true, false, false, true, false, false, false, false, true, false, true, false, false, false, false, false, false, false, false] rfl rfl (take_ofW HT_.out HW_.out (by kernel_rfl)) (fun _ _ _ h => h) (Or.inl ⟨by rfl, ?_⟩) hHeld ?_ ?_
                    rotate_left
                    ·rintro w' ⟨s0, s1, s2, s3, s4, s5, s6⟩
                     go_simp
                     with_reducible rfl
                    rotate_left
                    ·exact tP
                    refine take_ (i := 9) (N := some 61) (v := ?_) (a' := ?_) #[true, true, true, true, true, true, true, true, true, true, false, true, false, true, false, false, true, false, false, false, false, true, false, true, false, false, false, false, false, false, false, false] rfl rfl (take_ofW HT_.out HW_.out (by kernel_rfl)) (fun _ _ _ h => h) (Or.inl ⟨by rfl, ?_⟩) hHeld ?_ ?_
                    rotate_left
                    ·rintro w' ⟨s0, s1, s2, s3, s4, s5, s6⟩
                     go_simp
                     with_reducible rfl
                    rotate_left
                    ·exact tP
                    refine pure_ (i := 10) (N := some 62) (v := ?_) (a' := ?_) #[true, true, true, true, true, true, true, true, true, true, true, true, false, true, false, false, true, false, false, false, false, true, false, true, false, false, false, false, false, false, false, false] rfl rfl (any_of HT_.out (by kernel_rfl)) (fun _ _ _ h => h) (Or.inl ⟨by rfl, ?_⟩) ?_ ?_
                    rotate_left
                    ·exact tW
                    rotate_left
                    ·exact tP
                    refine take_ (i := 12) (N := some 64) (v := ?_) (a' := ?_) #[true, true, true, true, true, true, true, true, true, true, true, true, true, true, false, false, true, false, false, false, false, true, false, true, false, false, false, false, false, false, false, false] rfl rfl (take_ofW HT_.out HW_.out (by kernel_rfl)) (fun _ _ _ h => h) (Or.inl ⟨by rfl, ?_⟩) hHeld ?_ ?_
                    rotate_left
                    ·rintro w' ⟨s0, s1, s2, s3, s4, s5, s6⟩
                     go_simp
                     with_reducible rfl
                    rotate_left
                    ·exact tP
                    refine pure_ (i := 14) (N := some 66) (v := ?_) (a' := ?_) #[true, true, true, true, true, true, true, true, true, true, true, true, true, true, true, false, true, false, false, false, false, true, false, true, false, false, false, false, false, false, false, false] rfl rfl (any_of HT_.out (by kernel_rfl)) (fun _ _ _ h => h) (Or.inl ⟨by rfl, ?_⟩) ?_ ?_
                    rotate_left
                    ·exact tW
                    rotate_left
                    ·exact tP
                    refine take_ (i := 15) (N := some 67) (v := ?_) (a' := ?_) #[true, true, true, true, true, true, true, true, true, true, true, true, true, true, true, true, true, false, false, false, false, true, false, true, false, false, false, false, false, false, false, false] rfl rfl (take_ofW HT_.out HW_.out (by kernel_rfl)) (fun _ _ _ h => h) (Or.inl ⟨by rfl, ?_⟩) hHeld ?_ ?_
                    rotate_left
                    ·rintro w' ⟨s0, s1, s2, s3, s4, s5, s6⟩
                     go_simp
                     with_reducible rfl
                    rotate_left
                    ·exact tP
                    refine pure_ (i := 17) (N := some 69) (v := ?_) (a' := ?_) #[true, true, true, true, true, true, true, true, true, true, true, true, true, true, true, true, true, true, false, false, false, true, false, true, false, false, false, false, false, false, false, false] rfl rfl (any_of HT_.out (by kernel_rfl)) (fun _ _ _ h => h) (Or.inl ⟨by rfl, ?_⟩) ?_ ?_
                    rotate_left
                    ·exact tW
                    rotate_left
                    ·exact tP
                    refine take_ (i := 18) (N := some 70) (v := ?_) (a' := ?_) #[true, true, true, true, true, true, true, true, true, true, true, true, true, true, true, true, true, true, true, false, false, true, false, true, false, false, false, false, false, false, false, false] rfl rfl (take_ofW HT_.out HW_.out (by kernel_rfl)) (fun _ _ _ h => h) (Or.inl ⟨by rfl, ?_⟩) hHeld ?_ ?_
                    rotate_left
                    ·rintro w' ⟨s0, s1, s2, s3, s4, s5, s6⟩
                     go_simp
                     with_reducible rfl
                    rotate_left
                    ·exact tP
                    refine pure_ (i := 19) (N := some 71) (v := ?_) (a' := ?_) #[true, true, true, true, true, true, true, true, true, true, true, true, true, true, true, true, true, true, true, true, false, true, false, true, false, false, false, false, false, false, false, false] rfl rfl (any_of HT_.out (by kernel_rfl)) (fun _ _ _ h => h) (Or.inl ⟨by rfl, ?_⟩) ?_ ?_
                    rotate_left
                    ·exact tW
                    rotate_left
                    ·exact tP
                    refine pure_ (i := 20) (N := some 72) (v := ?_) (a' := ?_) #[true, true, true, true, true, true, true, true, true, true, true, true, true, true, true, true, true, true, true, true, true, true, false, true, false, false, false, false, false, false, false, false] rfl rfl (any_of HT_.out (by kernel_rfl)) (fun _ _ _ h => h) (Or.inl ⟨by rfl, ?_⟩) ?_ ?_
                    rotate_left
                    ·exact tW
                    rotate_left
                    ·exact tP
                    refine take_ (i := 22) (N := some 74) (v := ?_) (a' := ?_) #[true, true, true, true, true, true, true, true, true, true, true, true, true, true, true, true, true, true, true, true, true, true, true, true, false, false, false, false, false, false, false, false] rfl rfl (take_ofW HT_.out HW_.out (by kernel_rfl)) (fun _ _ _ h => h) (Or.inl ⟨by rfl, ?_⟩) hHeld ?_ ?_
                    rotate_left
                    ·rintro w' ⟨s0, s1, s2, s3, s4, s5, s6⟩
                     go_simp
                     with_reducible rfl
                    rotate_left
                    ·exact tP
                    refine take_ (i := 24) (N := some 76) (v := ?_) (a' := ?_) #[true, true, true, true, true, true, true, true, true, true, true, true, true, true, true, true, true, true, true, true, true, true, true, true, true, false, false, false, false, false, false, false] rfl rfl (take_ofW HT_.out HW_.out (by kernel_rfl)) (fun _ _ _ h => h) (Or.inl ⟨by rfl, ?_⟩) hHeld ?_ ?_
                    rotate_left
                    ·rintro w' ⟨s0, s1, s2, s3, s4, s5, s6⟩
                     go_simp
                     with_reducible rfl
                    rotate_left
                    ·exact tP
                    refine pure_ (i := 25) (N := some 77) (v := ?_) (a' := ?_) #[true, true, true, true, true, true, true, true, true, true, true, true, true, true, true, true, true, true, true, true, true, true, true, true, true, true, false, false, false, false, false, false] rfl rfl (any_of HT_.out (by kernel_rfl)) (fun _ _ _ h => h) (Or.inl ⟨by rfl, ?_⟩) ?_ ?_
                    rotate_left
                    ·exact tW
                    rotate_left
                    ·exact tP
                    refine pure_ (i := 26) (N := some 78) (v := ?_) (a' := ?_) #[true, true, true, true, true, true, true, true, true, true, true, true, true, true, true, true, true, true, true, true, true, true, true, true, true, true, true, false, false, false, false, false] rfl rfl (any_of HT_.out (by kernel_rfl)) (fun _ _ _ h => h) (Or.inl ⟨by rfl, ?_⟩) ?_ ?_
                    rotate_left
                    ·exact tW
                    rotate_left
                    ·exact tP
                    refine pure_ (i := 27) (N := some 79) (v := ?_) (a' := ?_) #[true, true, true, true, true, true, true, true, true, true, true, true, true, true, true, true, true, true, true, true, true, true, true, true, true, true, true, true, false, false, false, false] rfl rfl (any_of HT_.out (by kernel_rfl)) (fun _ _ _ h => h) (Or.inl ⟨by rfl, ?_⟩) ?_ ?_
                    rotate_left
                    ·exact tW
                    rotate_left
                    ·exact tP
                    refine pure_ (i := 28) (N := some 80) (v := ?_) (a' := ?_) #[true, true, true, true, true, true, true, true, true, true, true, true, true, true, true, true, true, true, true, true, true, true, true, true, true, true, true, true, true, false, false, false] rfl rfl (any_of HT_.out (by kernel_rfl)) (fun _ _ _ h => h) (Or.inl ⟨by rfl, ?_⟩) ?_ ?_
                    rotate_left
                    ·exact tW
                    rotate_left
                    ·exact tP
                    refine pure_ (i := 29) (N := some 81) (v := ?_) (a' := ?_) #[true, true, true, true, true, true, true, true, true, true, true, true, true, true, true, true, true, true, true, true, true, true, true, true, true, true, true, true, true, true, false, false] rfl rfl (any_of HT_.out (by kernel_rfl)) (fun _ _ _ h => h) (Or.inl ⟨by rfl, ?_⟩) ?_ ?_
                    rotate_left
                    ·exact tW
                    rotate_left
                    ·exact tP
                    refine pure_ (i := 30) (N := some 82) (v := ?_) (a' := ?_) #[true, true, true, true, true, true, true, true, true, true, true, true, true, true, true, true, true, true, true, true, true, true, true, true, true, true, true, true, true, true, true, false] rfl rfl (any_of HT_.out (by kernel_rfl)) (fun _ _ _ h => h) (Or.inl ⟨by rfl, ?_⟩) ?_ ?_
                    rotate_left
                    ·exact tW
                    rotate_left
                    ·exact tP
                    refine last_ (i := 31) (N := none) #[true, true, true, true, true, true, true, true, true, true, true, true, true, true, true, true, true, true, true, true, true, true, true, true, true, true, true, true, true, true, true, true] rfl rfl (one_of HT_.out (by kernel_rfl)) (by decide) (fun K hK => ?_)
                    refine skip_ (w1 := ?_) (by rfl) rfl ?_ ?_
                    rotate_left
                    ·go_simp
                     rfl
                    refine hK.out _ _ ?_
                    clear hK K
                    refine done_ (done_of HT_.out (by kernel_rfl)) ?_
                    try go_wp2
                    (try simp only [← hl8_2])
                    go_roundg k2
                    case measure => have := HK1.out; have := HK2.out; omega
                    case rel => exact ⟨(y530), (wrap64 (x10_2 + 1)), tS, H', ⟨by have := HK1.out; have := HK2.out; omega⟩, ⟨by (try simp only [hl8_2]); (with_reducible repeat (first | apply Kd.R_alloc | apply Kd.R_drewN | apply Kd.R_drew)); exact HQ38.out⟩, ⟨by (try simp only [hl8_2]); (with_reducible repeat (first | refine blk_drewN ?_ _ | refine blk_drew ?_ | refine blk_alloc ?_ _)); refine blk_far ?_ (by have h_ := Kd.R_ne HO_8.out BK517.out (by decide); intro e_; exact h_ (by rw [e_]; rfl)) _; (with_reducible repeat (first | refine blk_drewN ?_ _ | refine blk_drew ?_ | refine blk_alloc ?_ _)); exact BK517.out⟩, ⟨by (try simp only [hl8_2]); (with_reducible repeat (first | refine blk_drewN ?_ _ | refine blk_drew ?_ | refine blk_alloc ?_ _)); refine blk_far ?_ (by have h_ := Kd.R_ne HO_8.out BK518.out (by decide); intro e_; exact h_ (by rw [e_]; rfl)) _; (with_reducible repeat (first | refine blk_drewN ?_ _ | refine blk_drew ?_ | refine blk_alloc ?_ _)); exact BK518.out⟩, ⟨bBl HB.out⟩⟩
                   ·rw [if_neg c28] at H
                    exact absurd H (by simp)
                  ·rw [if_neg c27] at H
                   exact absurd H (by simp)
                 ·rw [if_neg c26] at H
                  exact absurd H (by simp)
                ·rw [if_neg c25] at H
                 exact absurd H (by simp)
               ·rw [if_neg c24] at H
                exact absurd H (by simp)
              ·rw [if_neg c23] at H
               exact absurd H (by simp)
             ·rw [if_neg c22] at H
              exact absurd H (by simp)
            ·rw [if_neg c21] at H
             have c21b0 : decide (x10_2 < (x8_2.length : Int)) = false := decide_eq_false c21
             clear c21; have H' := Sd.mk H; clear H
             go_wp2
             (try simp only [← hl8_2])
             go_roundg k2
             case measure => have := HK1.out; have := HK2.out; omega
             case rel => exact ⟨(x8_2), (wrap64 (x9_1 + 1)), tS, H', ⟨by have := HK1.out; have := HK2.out; omega⟩, ⟨by (try simp only [hl8_2]); (with_reducible repeat (first | apply Kd.R_alloc | apply Kd.R_drewN | apply Kd.R_drew)); exact HO_8.out⟩, ⟨by (try simp only [hl8_2]); (with_reducible repeat (first | refine blk_drewN ?_ _ | refine blk_drew ?_ | refine blk_alloc ?_ _)); exact BK517.out⟩, ⟨by (try simp only [hl8_2]); (with_reducible repeat (first | refine blk_drewN ?_ _ | refine blk_drew ?_ | refine blk_alloc ?_ _)); exact BK518.out⟩, ⟨bBl HB.out⟩⟩
         ·rw [if_neg c17] at H
          have c17b0 : (((rd_L9 l2_0 x9_1).length : Int) == (x8_1.length : Int)) = false := beq_eq_false_iff_ne.mpr c17
          have c17b1 : (((rd_L9 l2_0 x9_1).length : Int) != (x8_1.length : Int)) = true := bne_iff_ne.mpr c17
          have c17b2 : ((rd_L9 l2_0 x9_1).length == x8_1.length) = false := by first | simpa using c17 | (simp at c17 ⊢; omega)
          simp only [Option.some.injEq, Prod.mk.injEq] at H
          obtain ⟨rfl, rfl⟩ := H; have hnb39 := NB518_517.out; have hnc39 := NB517_518.out; obtain ⟨u40_0, o40_0⟩ := bc1 (w := wr) BK518.out
          have p522 : 0 ≤ (x9_1 : Int) := tB
          have q522 : x9_1 < (l2_0.length : Int) := tB
          obtain ⟨ad522, A522_0, c522_0, e522, hx522_0, hl522_0, hi522_0⟩ := at_L9 HR2_0.out x9_1 p522 q522; cases e522; replace hx522_0 := cU HB hx522_0; have HR522_0 := Sd.mk hi522_0; have HC522_0 := Sd.mk hl522_0; clear hi522_0 hl522_0; replace p522 := eq_true p522; replace q522 := eq_true q522; obtain ⟨Ao41, co41, eo41⟩ := Kd.R_slice HO_8.out; subst eo41
          go_wp2
          go_ret2
          exact ⟨_, tE, by first | exact Kd.R_nil _ _ _ _ _ | exact Kd.N_nil _ _ _ _ _ | exact Kd.V_nil _ _ _ _ _ | exact Kd.Q_nil _ _ _ _ _ | exact Kd.S_nil _ _ _ _ _, bBl HB.out⟩
        ·rw [if_neg c16] at H
         exact absurd H (by simp)
       ·rw [if_neg c15] at H
        exact absurd H (by simp)
      ·rw [if_neg c14] at H
       have c14b0 : decide (x9_1 < (l1.length : Int)) = false := decide_eq_false c14
       clear c14
       simp only [Option.some.injEq, Prod.mk.injEq] at H
       obtain ⟨rfl, rfl⟩ := H
       go_wp2
       go_ret2
       exact ⟨_, tE, by (with_reducible repeat (first | apply Kd.R_alloc | apply Kd.R_drewN | apply Kd.R_drew)); exact HO_8.out, bBl HB.out⟩
   ·rw [if_neg c6] at H
    have c6b0 : ((l2_0.length : Int) == (l1.length : Int)) = false := beq_eq_false_iff_ne.mpr c6
    have c6b1 : ((l2_0.length : Int) != (l1.length : Int)) = true := bne_iff_ne.mpr c6
    have c6b2 : (l2_0.length == l1.length) = false := by first | simpa using c6 | (simp at c6 ⊢; omega)
    simp only [Option.some.injEq, Prod.mk.injEq] at H
    obtain ⟨rfl, rfl⟩ := H
    go_enter Try.func32, Try.ntmps32
    go_wp2_with (first | ((with_reducible refine gate_dst (N := 3) rfl ?_); refine box_event ?hg (N := 3) ?hd (cs := #[.slice A0_0 l0_0.length c0_0, .slice A0_1 l0_1.length c0_1, .slice A0_2 l0_2.length c0_2, .slice A0_3 l0_3.length c0_3, .int .i64 a0_4, .int .i64 a0_5, .int .i64 a0_6]) (t := 29) ?hr ?_; (case hd => rfl); (case hg => rfl); (case hr => exact tG); intro gb517 hg w42 hbox hb; have BK517 := Sd.mk (hbox); have GW517 := Sd.mk (bSz hg (bBl HB.out)); have GE517 := Sd.mk (bSz hg (bBl HB.out)); replace HB := Sd.mk (below_step (bBl HB.out) hb); clear hb hbox hg) | ((with_reducible refine gate_dst (N := 5) rfl ?_); refine box_event ?hg (N := 5) ?hd (cs := #[.slice A2_0 l2_0.length c2_0]) (t := 59) ?hr ?_; (case hd => rfl); (case hg => rfl); (case hr => exact tG); intro gb518 hg w43 hbox hb; have BK518 := Sd.mk (hbox); have GW518 := Sd.mk (bSz hg (bBl HB.out)); have GE518 := Sd.mk (bSz hg (bBl HB.out)); replace HB := Sd.mk (below_step (bBl HB.out) hb); have NB517_518 := Sd.mk (bNl hg (bkA BK517.out)); have NB518_517 := Sd.mk (bNg hg (bkA BK517.out)); replace BK517 := Sd.mk (blk_below (bkA BK517.out) hb); clear hb hbox hg; have hnb44 := NB517_518.out; have hnc44 := NB518_517.out; obtain ⟨u45_0, u45_1, u45_2, u45_3, u45_4, u45_5, u45_6, o45_0, o45_1, o45_2, o45_3, o45_4, o45_5, o45_6⟩ := bc7 (w := w43) BK517.out) | ((with_reducible refine gate_dst (N := 15) rfl ?_); refine Kd.R_make (Kd.int .i64) _ 3 rfl (N := 15) rfl 30 _ _ rfl (l0_0.length : Int) rfl rfl Try.underlying30 (.int .i64 0) 8 info3 rfl (by decide) (by omega) 0 (ok := fun _ => True) (okp := fun _ => True) rfl (fun _ hk => hk) trivial (tB) (Nat.le_trans (Nat.mul_le_mul_right _ (tB : (l0_0.length : Int).toNat ≤ 35184372088832)) (by omega)) (Below.refl _ _) (Nat.le_refl _) ?_; intro v520 w46 ho47 hb hg_ hnew_; clear hg_ hnew_; (first | rw [← Ny519.out] at ho47 | (simp only [Int.reduceToNat] at ho47; rw [← Ny519.out] at ho47)); have HO521 := Sd.mk (Kd.R_lower ho47 (below_size (bBl HB.out))); replace BK517 := Sd.mk (blk_below (bkA BK517.out) hb); replace BK518 := Sd.mk (blk_below (bkA BK518.out) hb); replace HB := Sd.mk (below_step (bBl HB.out) hb); clear hb ho47; obtain ⟨u48_0, o48_0⟩ := bc1 (w := w46) BK518.out))
    go_ret2
    exact ⟨_, tE, by first | exact Kd.R_nil _ _ _ _ _ | exact Kd.N_nil _ _ _ _ _ | exact Kd.V_nil _ _ _ _ _ | exact Kd.Q_nil _ _ _ _ _ | exact Kd.S_nil _ _ _ _ _, bBl HB.out⟩
  ·rw [if_neg c5] at H
   exact absurd H (by simp)
 ·rw [if_neg c4] at H
  exact absurd H (by simp)
end Go.Proofs.Ytkjkokgbhepmoaa.PB

namespace Go.Proofs.Ytkjkokgbhepmoaa.PB
open Go.RowKit Go.Proofs.YtkjkokgbhepmoaaW.PrintWords Go.Proofs.YtkjkokgbhepmoaaW.PrintLast Go.Proofs.YtkjkokgbhepmoaaW.PrintMore
attribute [local go_sem] max2_int min2_int max_two min_two max_three min_three max_four min_four
def lw_floor.f (a0 : Int) (a1 : Int) : Option (Int) := if a1 = 0 then (none) else (if (wrap64 ((wrap64 (Int.tdiv a0 a1)) * a1)) > a0 then (some (wrap64 ((wrap64 (Int.tdiv a0 a1)) - 1))) else (some (wrap64 (Int.tdiv a0 a1))))
set_option maxHeartbeats 8000000 in
set_option maxRecDepth 100000 in
theorem lw_floor.calls (a0 : Int) (a1 : Int) (r : Int) (w : World) (h : lw_floor.f a0 a1 = some r) :
  Calls Try.prog 83 #[.int .i64 a0, .int .i64 a1] w fun e w' => e = .returned (.int .i64 r) ∧ Drawn0 w w' := by
 have H : (if a1 = 0 then (none) else (if (wrap64 ((wrap64 (Int.tdiv a0 a1)) * a1)) > a0 then (some (wrap64 ((wrap64 (Int.tdiv a0 a1)) - 1))) else (some (wrap64 (Int.tdiv a0 a1))))) = some r := h
 clear h
 by_cases c3 : a1 = 0
 ·rw [if_pos c3] at H
  exact absurd H (by simp)
 ·rw [if_neg c3] at H
  have c3b0 : (a1 == 0) = false := beq_eq_false_iff_ne.mpr c3
  have c3b1 : (a1 != 0) = true := bne_iff_ne.mpr c3
  by_cases c4 : (wrap64 ((wrap64 (Int.tdiv a0 a1)) * a1)) > a0
  ·rw [if_pos c4] at H
   have c4b0 : decide (a0 < (wrap64 ((wrap64 (Int.tdiv a0 a1)) * a1))) = true := decide_eq_true c4
   clear c4; obtain rfl := Option.some.inj H
   go_enter Try.func83, Try.ntmps83
   go_wp2
   go_ret
   exact ⟨by first | rfl | (simp; done) | (simp [*]; done), by repeat (first | exact Drawn0.refl _ | apply Drawn0.step)⟩
  ·rw [if_neg c4] at H
   have c4b0 : decide (a0 < (wrap64 ((wrap64 (Int.tdiv a0 a1)) * a1))) = false := decide_eq_false c4
   clear c4; obtain rfl := Option.some.inj H
   go_enter Try.func83, Try.ntmps83
   go_wp2
   go_ret
   exact ⟨by first | rfl | (simp; done) | (simp [*]; done), by repeat (first | exact Drawn0.refl _ | apply Drawn0.step)⟩
end Go.Proofs.Ytkjkokgbhepmoaa.PB

namespace Go.Proofs.Ytkjkokgbhepmoaa.PB
open Go.RowKit Go.Proofs.YtkjkokgbhepmoaaW.PrintWords Go.Proofs.YtkjkokgbhepmoaaW.PrintLast Go.Proofs.YtkjkokgbhepmoaaW.PrintMore
attribute [local go_sem] max2_int min2_int max_two min_two max_three min_three max_four min_four
def lw_less.l0 : Nat → Int → Int → Int → Int → Int → Option (Bool)
 | 0, _, _, _, _, _ => none
 | k + 1, x0, x1, x2, x3, x9 => if x9 < 200 then ((lw_floor.f x0 x2).bind fun t531 => ((lw_floor.f x3 x1).bind fun t532 => (if t531 = t532 then (if (wrap64 (x0 - (wrap64 (t531 * x2)))) = 0 then (some ((wrap64 (x0 - (wrap64 (t531 * x2)))) == 0)) else (if (wrap64 (x3 - (wrap64 (t532 * x1)))) = 0 then (some ((wrap64 (x0 - (wrap64 (t531 * x2)))) == 0)) else (lw_less.l0 k x1 (wrap64 (x0 - (wrap64 (t531 * x2)))) (wrap64 (x3 - (wrap64 (t532 * x1)))) x2 (wrap64 (x9 + 1))))) else (some (decide (t531 < t532)))))) else (some true)
def lw_less.f (k : Nat) (a0 : Int) (a1 : Int) (a2 : Int) (a3 : Int) : Option (Bool) := lw_less.l0 k a0 a1 a2 a3 0
set_option maxHeartbeats 8000000 in
set_option maxRecDepth 100000 in
theorem lw_less.calls (k : Nat) (a0 : Int) (a1 : Int) (a2 : Int) (a3 : Int) (r : Bool) (w : World) (h : lw_less.f k a0 a1 a2 a3 = some r) :
  Calls Try.prog 33 #[.int .i64 a0, .int .i64 a1, .int .i64 a2, .int .i64 a3] w fun e w' => e = .returned (.bool r) ∧ Drawn0 w w' := by
 have H : (lw_less.l0 k a0 a1 a2 a3 0) = some r := h
 clear h; have H' := Sd.mk H; clear H
 go_enter Try.func33, Try.ntmps33
 go_wp2
 go_loopg [0, 1, 2, 3, 9] k (fun kq v0 v1 v2 v3 v9 w' => ∃ (x0_1 : Int) (x1_1 : Int) (x2_1 : Int) (x3_1 : Int) (x9_1 : Int), v0 = .int .i64 x0_1 ∧ v1 = .int .i64 x1_1 ∧ v2 = .int .i64 x2_1 ∧ v3 = .int .i64 x3_1 ∧ v9 = .int .i64 x9_1 ∧ Sd (lw_less.l0 kq x0_1 x1_1 x2_1 x3_1 x9_1 = some r) ∧ Sd (kq ≤ k) ∧ Drawn0 w w')
 case atStart => exact ⟨(a0), (a1), (a2), (a3), (0), tS, tS, tS, tS, tS, H', ⟨Nat.le_refl _⟩, by repeat (first | exact Drawn0.refl _ | apply Drawn0.step)⟩
 case round =>
  clear H'; (try clear p2); (try clear c3)
  obtain ⟨x0_1, x1_1, x2_1, x3_1, x9_1, rfl, rfl, rfl, rfl, rfl, HA, HK1, ⟨m1, rfl⟩⟩ := hrel
  cases gk with
  | zero => exact absurd HA.out (by simp [lw_less.l0])
  | succ k1 =>
   have H := HA.out; clear HA
   simp only [lw_less.l0] at H
   by_cases c5 : x9_1 < 200
   ·rw [if_pos c5] at H
    have c5b0 : decide (x9_1 < 200) = true := decide_eq_true c5
    clear c5; replace H := Option.bind_eq_some_iff.mp H; obtain ⟨t531, A60, H⟩ := H
    try dsimp only at H
    have A6 := Sd.mk A60; clear A60; replace H := Option.bind_eq_some_iff.mp H; obtain ⟨t532, A70, H⟩ := H
    try dsimp only at H
    have A7 := Sd.mk A70; clear A70
    by_cases c8 : t531 = t532
    ·rw [if_pos c8] at H
     have c8b0 : (t531 == t532) = true := beq_iff_eq.mpr c8
     have c8b1 : (t531 != t532) = false := bne_eq_false_iff_eq.mpr c8
     clear c8
     by_cases c9 : (wrap64 (x0_1 - (wrap64 (t531 * x2_1)))) = 0
     ·rw [if_pos c9] at H
      have c9b0 : ((wrap64 (x0_1 - (wrap64 (t531 * x2_1)))) == 0) = true := beq_iff_eq.mpr c9
      have c9b1 : ((wrap64 (x0_1 - (wrap64 (t531 * x2_1)))) != 0) = false := bne_eq_false_iff_eq.mpr c9
      clear c9; obtain rfl := Option.some.inj H
      go_wp2_with (first | ((with_reducible refine gate_callee (f := 83) rfl ?_); refine goesL_ (some 20) rfl rfl Try.func83 (by kernel_rfl) rfl #[.int .i64 x0_1, .int .i64 x2_1] rfl tM ?_; (with_reducible refine (lw_floor.calls x0_1 x2_1 t531 _ A6.out).mono ?_); rintro e w' ⟨rfl, ⟨nd, rfl⟩⟩; refine ⟨_, rfl, ?_⟩) | ((with_reducible refine gate_callee (f := 83) rfl ?_); refine goesL_ (some 23) rfl rfl Try.func83 (by kernel_rfl) rfl #[.int .i64 x3_1, .int .i64 x1_1] rfl tM ?_; (with_reducible refine (lw_floor.calls x3_1 x1_1 t532 _ A7.out).mono ?_); rintro e w' ⟨rfl, ⟨nd, rfl⟩⟩; refine ⟨_, rfl, ?_⟩))
      go_ret
      exact ⟨by first | rfl | (simp; done) | (simp [*]; done), by repeat (first | exact Drawn0.refl _ | apply Drawn0.step)⟩
     ·rw [if_neg c9] at H
      have c9b0 : ((wrap64 (x0_1 - (wrap64 (t531 * x2_1)))) == 0) = false := beq_eq_false_iff_ne.mpr c9
      have c9b1 : ((wrap64 (x0_1 - (wrap64 (t531 * x2_1)))) != 0) = true := bne_iff_ne.mpr c9
      by_cases c10 : (wrap64 (x3_1 - (wrap64 (t532 * x1_1)))) = 0
      ·rw [if_pos c10] at H
       have c10b0 : ((wrap64 (x3_1 - (wrap64 (t532 * x1_1)))) == 0) = true := beq_iff_eq.mpr c10
       have c10b1 : ((wrap64 (x3_1 - (wrap64 (t532 * x1_1)))) != 0) = false := bne_eq_false_iff_eq.mpr c10
       clear c10; obtain rfl := Option.some.inj H
       go_wp2_with (first | ((with_reducible refine gate_callee (f := 83) rfl ?_); refine goesL_ (some 20) rfl rfl Try.func83 (by kernel_rfl) rfl #[.int .i64 x0_1, .int .i64 x2_1] rfl tM ?_; (with_reducible refine (lw_floor.calls x0_1 x2_1 t531 _ A6.out).mono ?_); rintro e w' ⟨rfl, ⟨nd, rfl⟩⟩; refine ⟨_, rfl, ?_⟩) | ((with_reducible refine gate_callee (f := 83) rfl ?_); refine goesL_ (some 23) rfl rfl Try.func83 (by kernel_rfl) rfl #[.int .i64 x3_1, .int .i64 x1_1] rfl tM ?_; (with_reducible refine (lw_floor.calls x3_1 x1_1 t532 _ A7.out).mono ?_); rintro e w' ⟨rfl, ⟨nd, rfl⟩⟩; refine ⟨_, rfl, ?_⟩))
       go_ret
       exact ⟨by first | rfl | (simp; done) | (simp [*]; done), by repeat (first | exact Drawn0.refl _ | apply Drawn0.step)⟩
      ·rw [if_neg c10] at H
       have c10b0 : ((wrap64 (x3_1 - (wrap64 (t532 * x1_1)))) == 0) = false := beq_eq_false_iff_ne.mpr c10
       have c10b1 : ((wrap64 (x3_1 - (wrap64 (t532 * x1_1)))) != 0) = true := bne_iff_ne.mpr c10
       have H' := Sd.mk H; clear H
       go_wp2_with (first | ((with_reducible refine gate_callee (f := 83) rfl ?_); refine goesL_ (some 20) rfl rfl Try.func83 (by kernel_rfl) rfl #[.int .i64 x0_1, .int .i64 x2_1] rfl tM ?_; (with_reducible refine (lw_floor.calls x0_1 x2_1 t531 _ A6.out).mono ?_); rintro e w' ⟨rfl, ⟨nd, rfl⟩⟩; refine ⟨_, rfl, ?_⟩) | ((with_reducible refine gate_callee (f := 83) rfl ?_); refine goesL_ (some 23) rfl rfl Try.func83 (by kernel_rfl) rfl #[.int .i64 x3_1, .int .i64 x1_1] rfl tM ?_; (with_reducible refine (lw_floor.calls x3_1 x1_1 t532 _ A7.out).mono ?_); rintro e w' ⟨rfl, ⟨nd, rfl⟩⟩; refine ⟨_, rfl, ?_⟩))
       go_roundg k1
       case measure => have := HK1.out; omega
       case rel => exact ⟨(x1_1), (wrap64 (x0_1 - (wrap64 (t531 * x2_1)))), (wrap64 (x3_1 - (wrap64 (t532 * x1_1)))), (x2_1), (wrap64 (x9_1 + 1)), tS, tS, tS, tS, tS, H', ⟨by have := HK1.out; omega⟩, by repeat (first | exact Drawn0.refl _ | apply Drawn0.step)⟩
    ·rw [if_neg c8] at H
     have c8b0 : (t531 == t532) = false := beq_eq_false_iff_ne.mpr c8
     have c8b1 : (t531 != t532) = true := bne_iff_ne.mpr c8
     obtain rfl := Option.some.inj H
     go_wp2_with (first | ((with_reducible refine gate_callee (f := 83) rfl ?_); refine goesL_ (some 20) rfl rfl Try.func83 (by kernel_rfl) rfl #[.int .i64 x0_1, .int .i64 x2_1] rfl tM ?_; (with_reducible refine (lw_floor.calls x0_1 x2_1 t531 _ A6.out).mono ?_); rintro e w' ⟨rfl, ⟨nd, rfl⟩⟩; refine ⟨_, rfl, ?_⟩) | ((with_reducible refine gate_callee (f := 83) rfl ?_); refine goesL_ (some 23) rfl rfl Try.func83 (by kernel_rfl) rfl #[.int .i64 x3_1, .int .i64 x1_1] rfl tM ?_; (with_reducible refine (lw_floor.calls x3_1 x1_1 t532 _ A7.out).mono ?_); rintro e w' ⟨rfl, ⟨nd, rfl⟩⟩; refine ⟨_, rfl, ?_⟩))
     go_ret
     exact ⟨by first | rfl | (simp; done) | (simp [*]; done), by repeat (first | exact Drawn0.refl _ | apply Drawn0.step)⟩
   ·rw [if_neg c5] at H
    have c5b0 : decide (x9_1 < 200) = false := decide_eq_false c5
    clear c5; obtain rfl := Option.some.inj H
    go_wp2
    go_ret
    exact ⟨by first | rfl | (simp; done) | (simp [*]; done), by repeat (first | exact Drawn0.refl _ | apply Drawn0.step)⟩
end Go.Proofs.Ytkjkokgbhepmoaa.PB

namespace Go.Proofs.Ytkjkokgbhepmoaa.PB
open Go.RowKit Go.Proofs.YtkjkokgbhepmoaaW.PrintWords Go.Proofs.YtkjkokgbhepmoaaW.PrintLast Go.Proofs.YtkjkokgbhepmoaaW.PrintMore
theorem lfloor (n d : Int) (hd : 0 < d) (hd2 : d ≤ 1000000000000000) (hn1 : -1000000000000000 ≤ n) (hn2 : n ≤ 1000000000000000) : lw_floor.f n d = some (n / d) := rfloor_f n d hd (by omega) (by omega) (by omega)
structure LessOk (a b c d : Int) : Prop where
  ha : -1000000000000000 ≤ a ∧ a ≤ 1000000000000000
  hb : 0 < b ∧ b ≤ 1000000000000000
  hc : 0 < c ∧ c ≤ 1000000000000000
  hd : -1000000000000000 ≤ d ∧ d ≤ 1000000000000000
  hle : a * b ≤ c * d
theorem quo_facts {n d : Int} (hd : 0 < d) (h1 : -1000000000000000 ≤ n) (h2 : n ≤ 1000000000000000) (hd2 : d ≤ 1000000000000000) : ∃ r, n = n / d * d + r ∧ 0 ≤ r ∧ r < d ∧ (-2000000000000000 ≤ n / d * d ∧ n / d * d ≤ 1000000000000000) := by
  have e := Int.mul_ediv_add_emod n d
  have e1 := Int.emod_nonneg n (show d ≠ 0 by omega)
  have e2 := Int.emod_lt_of_pos n hd
  have e3 : d * (n / d) = n / d * d := Int.mul_comm _ _
  exact ⟨n % d, by omega, e1, e2, by omega, by omega⟩
theorem less_l0 : ∀ (m n : Nat) (a b c d : Int), n + m = 200 → LessOk a b c d → Ev (fun k => lw_less.l0 k a b c d (n : Int)) true
  | 0, n, a, b, c, d, hn, H => by
    apply Ev.step
    simp only [lw_less.l0, if_neg (show ¬ (n : Int) < 200 by omega)]
    exact Ev.const _
  | m + 1, n, a, b, c, d, hn, H => by
    obtain ⟨⟨a1, a2⟩, ⟨b1, b2⟩, ⟨c1, c2⟩, ⟨d1, d2⟩, hle⟩ := H
    obtain ⟨r, er, r1, r2, r3, r4⟩ := quo_facts c1 a1 a2 c2
    obtain ⟨s, es, s1, s2, s3, s4⟩ := quo_facts b1 d1 d2 b2
    have hq : a / c ≤ d / b := by
      refine (Int.le_ediv_iff_mul_le b1).2 ?_
      have e1 : a / c * c * b ≤ a * b := Int.mul_le_mul_of_nonneg_right (by omega) (by omega)
      have e2 : c * (a / c * b) ≤ c * d := by
        have : c * (a / c * b) = a / c * c * b := by rw [← Int.mul_assoc, Int.mul_comm c]
        omega
      exact Int.le_of_mul_le_mul_left e2 c1
    apply Ev.step
    simp only [lw_less.l0, if_pos (show (n : Int) < 200 by omega), lfloor a c c1 c2 a1 a2, lfloor d b b1 b2 d1 d2, Option.bind_some]
    by_cases he : a / c = d / b
    · have hr : wrap64 (a - wrap64 (a / c * c)) = r := by
        rw [wrap_id (x := a / c * c) (by omega) (by omega)]
        rw [show a - a / c * c = r by omega]
        exact wrap_id (by omega) (by omega)
      have hs : wrap64 (d - wrap64 (d / b * b)) = s := by
        rw [wrap_id (x := d / b * b) (by omega) (by omega)]
        rw [show d - d / b * b = s by omega]
        exact wrap_id (by omega) (by omega)
      have hrs : b * r ≤ s * c := by
        have e1 : a * b = a / c * c * b + r * b := by
          have e0 : a * b = (a / c * c + r) * b := congrArg (· * b) er
          rw [e0, Int.add_mul]
        have e2 : c * d = c * (d / b * b) + c * s := by
          have e0 : c * d = c * (d / b * b + s) := congrArg (c * ·) es
          rw [e0, Int.mul_add]
        have e3 : a / c * c * b = c * (d / b * b) := by rw [he, Int.mul_comm (d / b) c, Int.mul_assoc]
        have e4 : r * b = b * r := Int.mul_comm _ _
        have e5 : c * s = s * c := Int.mul_comm _ _
        omega
      simp only [if_pos he, hr, hs]
      by_cases h0 : r = 0
      · simp only [if_pos h0, h0, BEq.rfl]; exact Ev.const _
      · by_cases h1 : s = 0
        · exfalso
          rw [h1, Int.zero_mul] at hrs
          have := Int.mul_pos b1 (show 0 < r by omega)
          omega
        · simp only [if_neg h0, if_neg h1, wrap_succ (i_pos n) (show (n : Int) ≤ 1000000000 by omega)]
          exact less_l0 m (n + 1) b r s c (by omega) ⟨by omega, by omega, by omega, by omega, hrs⟩
    · simp only [if_neg he, decide_eq_true (show a / c < d / b by omega)]
      exact Ev.const _
theorem less_ev {a b c d : Int} (H : LessOk a b c d) : Ev (fun k => lw_less.f k a b c d) true := less_l0 200 0 a b c d (by omega) H
section
variable (o : List ByteArray) (mt : List S63) (s : List S27) (p : List S65) (a4 a5 a6 : Int) (r : List Int) (y : List (List Int))
def tm (k i : Nat) : Int := Int.tmod (rd (rd_L9 y (k : Int)) (i : Int)) 101
def vC (k i : Nat) : Int := 100 * (rd_T27 (rd_T63 mt (k : Int)).f6 (i : Int)).f0 + tm y k i * ((rd_T27 (rd_T63 mt (k : Int)).f6 (i : Int)).f1 - (rd_T27 (rd_T63 mt (k : Int)).f6 (i : Int)).f0)
def gA (n i : Nat) : Int := sumTo (fun k => rd r (k : Int) * vC mt y k i) n
def stI (n i jj : Nat) : List Int := (List.range n).map fun j => if j < jj then gA mt r y (i + 1) j else gA mt r y i j
theorem stI_len (n i jj : Nat) : (stI mt r y n i jj).length = n := by simp [stI]
theorem stI_get (n i jj j : Nat) (h : j < n) : rd (stI mt r y n i jj) (j : Int) = if j < jj then gA mt r y (i + 1) j else gA mt r y i j := by
  simp [rd, stI, List.getD, h]
theorem stI_zero (n : Nat) : List.replicate n (0 : Int) = stI mt r y n 0 0 := by
  apply List.ext_getElem
  · simp [stI]
  · intro j h1 h2
    simp [stI, gA, sumTo]
theorem stI_next (n i : Nat) : stI mt r y n i n = stI mt r y n (i + 1) 0 := by
  apply List.ext_getElem
  · simp [stI]
  · intro j h1 h2
    have : j < n := by simpa [stI] using h1
    simp [stI, this]
theorem stI_set (n i jj : Nat) (h : jj < n) : (stI mt r y n i jj).set jj (gA mt r y (i + 1) jj) = stI mt r y n i (jj + 1) := by
  apply List.ext_getElem
  · simp [stI]
  · intro j h1 h2
    have hj : j < n := by simpa [stI] using h2
    rw [List.getElem_set]
    by_cases e : jj = j
    · subst e; simp [stI]
    · rw [if_neg e]
      simp only [stI, List.getElem_map, List.getElem_range]
      by_cases h3 : j < jj
      · rw [if_pos h3, if_pos (by omega)]
      · rw [if_neg h3, if_neg (by omega)]
structure RealOk : Prop where
  at_ : ∀ k i : Nat, 0 ≤ rd (rd_L9 y (k : Int)) (i : Int)
variable (H : BatchOk o mt s p a4 a5 a6) (hr : RecOk mt r) (hy : RealOk y)
include hy in
theorem tm_bound (k i : Nat) : 0 ≤ tm y k i ∧ tm y k i ≤ 100 := by
  have h := hy.at_ k i
  have e1 := Int.tmod_nonneg (a := rd (rd_L9 y (k : Int)) (i : Int)) 101 h
  have e2 := Int.tmod_lt_of_pos (rd (rd_L9 y (k : Int)) (i : Int)) (show (0 : Int) < 101 by omega)
  unfold tm
  omega
include H hy in
theorem vC_bound {k i : Nat} (hk : k < mt.length) (hi : i < o.length) : (100 * (rd_T27 (rd_T63 mt (k : Int)).f6 (i : Int)).f0 ≤ vC mt y k i ∧ vC mt y k i ≤ 100 * (rd_T27 (rd_T63 mt (k : Int)).f6 (i : Int)).f1) ∧ 0 ≤ vC mt y k i ∧ vC mt y k i ≤ 100000 ∧ (0 ≤ tm y k i * ((rd_T27 (rd_T63 mt (k : Int)).f6 (i : Int)).f1 - (rd_T27 (rd_T63 mt (k : Int)).f6 (i : Int)).f0) ∧ tm y k i * ((rd_T27 (rd_T63 mt (k : Int)).f6 (i : Int)).f1 - (rd_T27 (rd_T63 mt (k : Int)).f6 (i : Int)).f0) ≤ 100000) := by
  have c := (H.mats k hk).con i hi
  have t := tm_bound y hy k i
  have e1 := Int.mul_nonneg t.1 (show 0 ≤ (rd_T27 (rd_T63 mt (k : Int)).f6 (i : Int)).f1 - (rd_T27 (rd_T63 mt (k : Int)).f6 (i : Int)).f0 by omega)
  have e2 := Int.mul_le_mul_of_nonneg_right t.2 (show 0 ≤ (rd_T27 (rd_T63 mt (k : Int)).f6 (i : Int)).f1 - (rd_T27 (rd_T63 mt (k : Int)).f6 (i : Int)).f0 by omega)
  unfold vC
  refine ⟨⟨?_, ?_⟩, ?_, ?_, ?_, ?_⟩ <;> omega
include H hr hy in
theorem gA_bound {i : Nat} (hi : i < o.length) : ∀ n, n ≤ mt.length → (100 * gS S27.f0 mt r i n ≤ gA mt r y n i ∧ gA mt r y n i ≤ 100 * gS S27.f1 mt r i n) ∧ 0 ≤ gA mt r y n i ∧ gA mt r y n i ≤ 1000000000 * n
  | 0, _ => by simp [gA, sumTo, gS]
  | n + 1, hn => by
    have ih := gA_bound hi n (by omega)
    have v := vC_bound o mt s p a4 a5 a6 y H hy (show n < mt.length by omega) hi
    have k := hr.kilos n (by omega)
    have e1 := Int.mul_le_mul_of_nonneg_left v.1.1 k.1
    have e2 := Int.mul_le_mul_of_nonneg_left v.1.2 k.1
    have e3 := Int.mul_nonneg k.1 v.2.1
    have e4 := Int.mul_le_mul_of_nonneg_left v.2.2.1 k.1
    have e5 := Int.mul_le_mul_of_nonneg_right k.2 (show (0 : Int) ≤ 100000 by omega)
    have g : gA mt r y (n + 1) i = gA mt r y n i + rd r (n : Int) * vC mt y n i := rfl
    have f0 : gS S27.f0 mt r i (n + 1) = gS S27.f0 mt r i n + rd r (n : Int) * (rd_T27 (rd_T63 mt (n : Int)).f6 (i : Int)).f0 := rfl
    have f1 : gS S27.f1 mt r i (n + 1) = gS S27.f1 mt r i n + rd r (n : Int) * (rd_T27 (rd_T63 mt (n : Int)).f6 (i : Int)).f1 := rfl
    have m0 : rd r (n : Int) * (100 * (rd_T27 (rd_T63 mt (n : Int)).f6 (i : Int)).f0) = 100 * (rd r (n : Int) * (rd_T27 (rd_T63 mt (n : Int)).f6 (i : Int)).f0) := by rw [← Int.mul_assoc, Int.mul_comm (rd r (n : Int)) 100, Int.mul_assoc]
    have m1 : rd r (n : Int) * (100 * (rd_T27 (rd_T63 mt (n : Int)).f6 (i : Int)).f1) = 100 * (rd r (n : Int) * (rd_T27 (rd_T63 mt (n : Int)).f6 (i : Int)).f1) := by rw [← Int.mul_assoc, Int.mul_comm (rd r (n : Int)) 100, Int.mul_assoc]
    rw [g, f0, f1]
    refine ⟨⟨?_, ?_⟩, ?_, ?_⟩ <;> omega
def gL : List Int := stI mt r y o.length mt.length 0
include H hr hy in
theorem reals_l1 (i : Nat) (hi : i < mt.length) (hy1 : r.length = y.length) (hy2 : (rd_L9 y (i : Int)).length = o.length) (v : List Int × Bool) (hv : Ev (fun k => lw_grams.l0 k r (stI mt r y o.length (i + 1) 0) ((i + 1 : Nat) : Int) o mt s p a4 a5 a6 y) v) :
    ∀ (m jj : Nat), jj + m = o.length → Ev (fun k => lw_grams.l1 k r (stI mt r y o.length i jj) (i : Int) (jj : Int) o mt s p a4 a5 a6 y) v
  | 0, jj, hj => by
    have hm := H.m12
    have hl := stI_len mt r y o.length i jj
    apply Ev.step
    simp only [lw_grams.l1, if_neg (show ¬ (jj : Int) < ((stI mt r y o.length i jj).length : Int) by omega), wrap_succ (i_pos i) (show (i : Int) ≤ 1000000000 by omega)]
    rw [show jj = o.length by omega, stI_next]
    exact hv
  | m + 1, jj, hj => by
    have ih := reals_l1 i hi hy1 hy2 v hv m (jj + 1) (by omega)
    have hm := H.m12
    have ho := H.o12
    have hl := stI_len mt r y o.length i jj
    have hrl := hr.len
    have hcl := (H.mats i hi).len
    have c := (H.mats i hi).con jj (by omega)
    have t := tm_bound y hy i jj
    have b := vC_bound o mt s p a4 a5 a6 y H hy hi (show jj < o.length by omega)
    have k := hr.kilos i hi
    have g := gA_bound o mt s p a4 a5 a6 r y H hr hy (show jj < o.length by omega) (i + 1) (by omega)
    have g0 := gA_bound o mt s p a4 a5 a6 r y H hr hy (show jj < o.length by omega) i (by omega)
    have eg : gA mt r y (i + 1) jj = gA mt r y i jj + rd r (i : Int) * vC mt y i jj := rfl
    have hn : wrap64 (rd (stI mt r y o.length i jj) (jj : Int) + wrap64 (rd r (i : Int) * wrap64 (wrap64 (100 * (rd_T27 (rd_T63 mt (i : Int)).f6 (jj : Int)).f0) + wrap64 (wrap64 (Int.tmod (rd (rd_L9 y (i : Int)) (jj : Int)) 101) * wrap64 ((rd_T27 (rd_T63 mt (i : Int)).f6 (jj : Int)).f1 - (rd_T27 (rd_T63 mt (i : Int)).f6 (jj : Int)).f0))))) = gA mt r y (i + 1) jj := by
      rw [stI_get mt r y o.length i jj jj (by omega), if_neg (by omega)]
      have e1 : wrap64 (Int.tmod (rd (rd_L9 y (i : Int)) (jj : Int)) 101) = tm y i jj := wrap_id (by unfold tm at t; omega) (by unfold tm at t; omega)
      rw [e1, wrap_id (x := (rd_T27 (rd_T63 mt (i : Int)).f6 (jj : Int)).f1 - (rd_T27 (rd_T63 mt (i : Int)).f6 (jj : Int)).f0) (by omega) (by omega), wrap_id (x := 100 * (rd_T27 (rd_T63 mt (i : Int)).f6 (jj : Int)).f0) (by omega) (by omega), wrap_id (x := tm y i jj * _) (by omega) (by omega)]
      have e2 : wrap64 (100 * (rd_T27 (rd_T63 mt (i : Int)).f6 (jj : Int)).f0 + tm y i jj * ((rd_T27 (rd_T63 mt (i : Int)).f6 (jj : Int)).f1 - (rd_T27 (rd_T63 mt (i : Int)).f6 (jj : Int)).f0)) = vC mt y i jj := wrap_id (by unfold vC at b; omega) (by unfold vC at b; omega)
      rw [e2, wrap_id (x := rd r (i : Int) * vC mt y i jj) (by omega) (by omega), ← eg]
      exact wrap_id (by omega) (by omega)
    apply Ev.step
    simp only [lw_grams.l1, hn, Int.toNat_natCast, if_pos (show (jj : Int) < ((stI mt r y o.length i jj).length : Int) by omega), if_pos (i_pos i), if_pos (i_pos jj), if_pos (show (i : Int) < (mt.length : Int) by omega), if_pos (show (jj : Int) < ((rd_T63 mt (i : Int)).f6.length : Int) by omega), if_pos (show (i : Int) < (r.length : Int) by omega), if_pos (show (i : Int) < (y.length : Int) by omega), if_pos (show (jj : Int) < ((rd_L9 y (i : Int)).length : Int) by omega), wrap_succ (i_pos jj) (show (jj : Int) ≤ 1000000000 by omega)]
    rw [stI_set mt r y o.length i jj (by omega)]
    exact ih
include H hr hy in
theorem reals_l0 (hy1 : r.length = y.length) : ∀ (m i : Nat), i + m = mt.length → ∃ v, Ev (fun k => lw_grams.l0 k r (stI mt r y o.length i 0) (i : Int) o mt s p a4 a5 a6 y) v ∧ (v.2 = true → v.1 = gL o mt r y)
  | 0, i, hi => by
    have hrl := hr.len
    obtain rfl : i = mt.length := by omega
    refine ⟨(gL o mt r y, true), ?_, fun _ => rfl⟩
    apply Ev.step
    simp only [lw_grams.l0, if_neg (show ¬ (mt.length : Int) < (r.length : Int) by omega)]
    exact Ev.const _
  | m + 1, i, hi => by
    have hrl := hr.len
    have hl := stI_len mt r y o.length i 0
    by_cases hy2 : (rd_L9 y (i : Int)).length = o.length
    · obtain ⟨v, h1, h2⟩ := reals_l0 hy1 m (i + 1) (by omega)
      have h := reals_l1 o mt s p a4 a5 a6 r y H hr hy i (by omega) hy1 hy2 v h1 o.length 0 (by omega)
      refine ⟨v, ?_, h2⟩
      apply Ev.step
      simp only [lw_grams.l0, if_pos (show (i : Int) < (r.length : Int) by omega), if_pos (i_pos i), if_pos (show (i : Int) < (y.length : Int) by omega), if_pos (show ((rd_L9 y (i : Int)).length : Int) = ((stI mt r y o.length i 0).length : Int) by omega)]
      exact h
    · refine ⟨([], false), ?_, fun h => by cases h⟩
      apply Ev.step
      simp only [lw_grams.l0, if_pos (show (i : Int) < (r.length : Int) by omega), if_pos (i_pos i), if_pos (show (i : Int) < (y.length : Int) by omega), if_neg (show ¬ ((rd_L9 y (i : Int)).length : Int) = ((stI mt r y o.length i 0).length : Int) by omega)]
      exact Ev.const _
include H hr hy in
theorem reals : ∃ v, Ev (fun k => lw_grams.f k o mt s p a4 a5 a6 r y) v ∧ (v.2 = true → v.1 = gL o mt r y) := by
  have ho := H.o12
  unfold lw_grams.f
  simp only [if_pos (i_pos o.length), Int.toNat_natCast, if_pos (show o.length ≤ 35184372088832 by omega)]
  by_cases hy1 : r.length = y.length
  · simp only [if_pos (show (y.length : Int) = (r.length : Int) by omega)]
    obtain ⟨v, h1, h2⟩ := reals_l0 o mt s p a4 a5 a6 r y H hr hy hy1 mt.length 0 (by omega)
    rw [← stI_zero] at h1
    exact ⟨v, h1, h2⟩
  · simp only [if_neg (show ¬ (y.length : Int) = (r.length : Int) by omega)]
    exact ⟨([], false), Ev.const _, fun h => by cases h⟩
end
end Go.Proofs.Ytkjkokgbhepmoaa.PB

namespace Go.Proofs.Ytkjkokgbhepmoaa.PB
open Go.RowKit Go.Proofs.YtkjkokgbhepmoaaW.PrintWords Go.Proofs.YtkjkokgbhepmoaaW.PrintLast Go.Proofs.YtkjkokgbhepmoaaW.PrintMore
open Go.ChangeShapes Go.WideShapes
theorem C_of_trodQ {α H : Type} {enc : TypeId × Value → H} {P : Program} {w : World} {spare : Nat → Bool} {held : Bool} (d : Kd α) {Q : α → Prop} {t e : TypeId} {fuel : Nat} {cs : List Value} {x : DataW H × List MemPlace}
    (ht : P.underlying t = some (.slice e)) (hc : P.cellsOf e = d.sz) (hd : ∀ n cs' y, DataW.trod enc P w 0 spare held n e cs' = some y → ∃ a, d.K w a cs' ∧ Q a) (h : DataW.trod enc P w 0 spare held fuel t cs = some x) :
    ∃ A c xs, cs = [.slice A xs.length c] ∧ xs.length ≤ c ∧ d.C w A xs.length xs ∧ ∀ z ∈ xs, Q z := by
  rcases Deep.open_slice ht h with ⟨rfl, _⟩ | ⟨a, len, cap, m, n, D, Pl, rfl, hb, hl, hm, hmm, _, hx⟩
  · exact ⟨none, 0, [], rfl, Nat.le_refl _, Kd.C_nil d w, fun z hz => by cases hz⟩
  · have hle : len ≤ m := by rw [hmm]; split <;> omega
    have hj : ∀ j : Fin len, ∃ y : α, (∃ cs', cs'.length = d.sz ∧ d.K w y cs' ∧ ∀ i u, cs'[i]? = some u → w.cell? (a.add (j.val * d.sz + i)) = some u) ∧ Q y := by
      intro j
      obtain ⟨cs', h1, h2⟩ := hx j.val (by have := j.isLt; omega)
      obtain ⟨y, hy, hq⟩ := hd _ _ _ h2
      obtain ⟨_, h3, h4⟩ := World.cells?_some h1
      refine ⟨y, ⟨cs', by rw [h3, hc], hy, ?_⟩, hq⟩
      intro i u hu
      have hi : i < P.cellsOf e := by
        have := (List.getElem?_eq_some_iff.1 hu).1
        omega
      rw [← hc, ← Deep.add_add, h4 i hi, hu]
    refine ⟨some a, cap, List.ofFn fun j : Fin len => Classical.choose (hj j), by rw [List.length_ofFn], by rw [List.length_ofFn]; exact hl, ⟨rfl, by rw [List.length_ofFn]; exact Nat.le_trans (by omega : len ≤ maxLen) (by decide), fun _ => ⟨a, rfl, ?_⟩⟩, ?_⟩
    · intro j p hp
      rw [List.getElem?_ofFn] at hp
      split at hp
      · rename_i hjl
        obtain rfl := Option.some.inj hp
        exact (Classical.choose_spec (hj ⟨j, hjl⟩)).1
      · exact absurd hp (by simp)
    · intro z hz
      obtain ⟨j, rfl⟩ := (List.mem_ofFn).1 hz
      exact (Classical.choose_spec (hj j)).2
section
variable {H : Type} {enc : TypeId × Value → H} {w : World} {spare : Nat → Bool} {held : Bool} {x : DataW H × List MemPlace} {fuel : Nat} {cs : List Value}
theorem cells5 : Try.prog.cellsOf 5 = 1 := by kernel_rfl
theorem cells128 : Try.prog.cellsOf 128 = 1 := by kernel_rfl
theorem cells57 : Try.prog.cellsOf 57 = 1 := by kernel_rfl
theorem cells59 : Try.prog.cellsOf 59 = 1 := by kernel_rfl
theorem el5 (h : DataW.trod enc Try.prog w 0 spare held fuel 5 cs = some x) : ∃ a, (Kd.int .u8).K w a cs ∧ 0 ≤ a := by
  obtain ⟨n, rfl, _, hw⟩ := DataW.trod_int Try.underlying5 h
  refine ⟨n, rfl, ?_⟩
  simp only [Lit.wf, Bool.and_eq_true, decide_eq_true_eq] at hw
  have h0 : IntKind.min .u8 = 0 := by decide
  omega
theorem sl128 (h : DataW.trod enc Try.prog w 0 spare held fuel 128 cs = some x) : ∃ A c xs, cs = [.slice A xs.length c] ∧ xs.length ≤ c ∧ (Kd.int .u8).C w A xs.length xs ∧ ∀ z ∈ xs, 0 ≤ z :=
  C_of_trodQ (Kd.int .u8) Try.underlying128 cells5 (fun _ cs' _ h' => el5 h') h
theorem sl57 (h : DataW.trod enc Try.prog w 0 spare held fuel 57 cs = some x) : ∃ A c xs, cs = [.slice A xs.length c] ∧ xs.length ≤ c ∧ (Kd.slice 5 (Kd.int .u8)).C w A xs.length xs ∧ ∀ z ∈ xs, ∀ u ∈ z, 0 ≤ u :=
  C_of_trodQ (Kd.slice 5 (Kd.int .u8)) Try.underlying57 cells128 (fun _ cs' _ h' => by
    obtain ⟨A, c, xs, e, h1, h2, h3⟩ := sl128 h'
    exact ⟨xs, ⟨A, c, e, h1, h2⟩, h3⟩) h
theorem arg59 (h : DataW.trod enc Try.prog w 0 spare held fuel 59 cs = some x) : ∃ (A : Option Addr) (c : Nat) (ys : List (List Int)), cs = [.slice A ys.length c] ∧ (ys.length ≤ c ∧ (Kd.slice 5 (Kd.int .u8)).C w A ys.length ys) ∧ RealOk ys := by
  have hl := (struct_len Try.underlying59 h).trans cells59
  obtain ⟨_, _, h0⟩ := fld Try.underlying59 h 0 _ rfl rfl rfl cells57
  match cs, hl with
  | [v0], _ =>
    obtain ⟨A, c, ys, e, h1, h2, h3⟩ := sl57 h0
    refine ⟨A, c, ys, e, ⟨h1, h2⟩, ⟨fun k i => ?_⟩⟩
    simp only [rd_L9, rd, Int.toNat_natCast, List.getD]
    cases hk : ys[k]? with
    | none => simp
    | some z =>
      simp only [Option.getD_some]
      cases hi : z[i]? with
      | none => simp
      | some u => exact h3 z (List.mem_of_getElem? hk) u (List.mem_of_getElem? hi)
end
end Go.Proofs.Ytkjkokgbhepmoaa.PB

namespace Go.Proofs.Ytkjkokgbhepmoaa.PB
open Go.RowKit Go.Proofs.YtkjkokgbhepmoaaW.PrintWords Go.Proofs.YtkjkokgbhepmoaaW.PrintLast Go.Proofs.YtkjkokgbhepmoaaW.PrintMore
section
variable {G : List S27} {g : Nat → Int} {cf : Int → Int}
def wG (g : Nat → Int) (n : Nat) : Int := sumTo g n
def cG (cf : Int → Int) (g : Nat → Int) (n : Nat) : Int := sumTo (fun k => cf (k : Int) * g k) n
theorem mul_max {c x lo hi : Int} (h1 : 100 * lo ≤ x) (h2 : x ≤ 100 * hi) : c * x ≤ 100 * max (c * lo) (c * hi) := by
  by_cases h : 0 ≤ c
  · have e1 := Int.mul_le_mul_of_nonneg_left h2 h
    have e2 : c * (100 * hi) = 100 * (c * hi) := by rw [← Int.mul_assoc, Int.mul_comm c 100, Int.mul_assoc]
    omega
  · have e1 := Int.mul_le_mul_of_nonpos_left (show c ≤ 0 by omega) h1
    have e2 : c * (100 * lo) = 100 * (c * lo) := by rw [← Int.mul_assoc, Int.mul_comm c 100, Int.mul_assoc]
    omega
theorem span_lo (hG : GOk G) (C : CfOk cf G.length) (hp : 0 < wS S27.f0 G G.length) (hg : ∀ j : Nat, j < G.length → 100 * (rd_T27 G (j : Int)).f0 ≤ g j ∧ g j ≤ 100 * (rd_T27 G (j : Int)).f1) {m : Int} (hm : m ≤ meanLo cf G) : m * wG g G.length ≤ cG cf g G.length := by
  have h := (meanLo_iff (meanOk_of hG C hp) m).2 hm
  rw [belowS_sum] at h
  have h1 : sumTo (fun k => (m - cf (k : Int)) * g k) G.length ≤ sumTo (fun k => 100 * bT cf G m k) G.length := sumTo_le _ (fun j hj => mul_max (hg j hj).1 (hg j hj).2)
  rw [sumTo_mul] at h1
  have h2 : sumTo (fun k => (m - cf (k : Int)) * g k) G.length = m * sumTo g G.length - sumTo (fun k => cf (k : Int) * g k) G.length := by
    rw [← sumTo_mul, ← sumTo_sub]
    exact sumTo_congr _ (fun j hj => Int.sub_mul _ _ _)
  unfold wG cG
  omega
theorem span_hi (hG : GOk G) (C : CfOk cf G.length) (hp : 0 < wS S27.f0 G G.length) (hg : ∀ j : Nat, j < G.length → 100 * (rd_T27 G (j : Int)).f0 ≤ g j ∧ g j ≤ 100 * (rd_T27 G (j : Int)).f1) {m : Int} (hm : meanHi cf G ≤ m) : cG cf g G.length ≤ m * wG g G.length := by
  have h := (meanHi_iff (meanOk_of hG C hp) m).2 hm
  rw [aboveS_sum] at h
  have h1 : sumTo (fun k => (cf (k : Int) - m) * g k) G.length ≤ sumTo (fun k => 100 * aT cf G m k) G.length := sumTo_le _ (fun j hj => mul_max (hg j hj).1 (hg j hj).2)
  rw [sumTo_mul] at h1
  have h2 : sumTo (fun k => (cf (k : Int) - m) * g k) G.length = sumTo (fun k => cf (k : Int) * g k) G.length - m * sumTo g G.length := by
    rw [← sumTo_mul, ← sumTo_sub]
    exact sumTo_congr _ (fun j hj => Int.sub_mul _ _ _)
  unfold wG cG
  omega
theorem wG_bounds (hg : ∀ j : Nat, j < G.length → 100 * (rd_T27 G (j : Int)).f0 ≤ g j ∧ g j ≤ 100 * (rd_T27 G (j : Int)).f1) : 100 * wS S27.f0 G G.length ≤ wG g G.length ∧ wG g G.length ≤ 100 * wS S27.f1 G G.length := by
  have h1 : sumTo (fun j => 100 * (rd_T27 G (j : Int)).f0) G.length ≤ sumTo g G.length := sumTo_le _ (fun j hj => (hg j hj).1)
  have h2 : sumTo g G.length ≤ sumTo (fun j => 100 * (rd_T27 G (j : Int)).f1) G.length := sumTo_le _ (fun j hj => (hg j hj).2)
  rw [sumTo_mul] at h1 h2
  exact ⟨h1, h2⟩
theorem cG_unit (g : Nat → Int) (i : Nat) : ∀ n, cG (unitC i) g n = if i < n then 1000 * g i else 0
  | 0 => by simp [cG, sumTo]
  | n + 1 => by
    have ih := cG_unit g i n
    have e : cG (unitC i) g (n + 1) = cG (unitC i) g n + unitC i (n : Int) * g n := rfl
    rw [e, ih]
    unfold unitC
    by_cases h : i < n
    · rw [if_pos h, if_pos (show i < n + 1 by omega), if_neg (show ¬ (n : Int) = (i : Int) by omega)]; omega
    · by_cases h2 : i = n
      · subst h2; rw [if_neg h, if_pos (show i < i + 1 by omega), if_pos rfl]; omega
      · rw [if_neg h, if_neg (show ¬ i < n + 1 by omega), if_neg (show ¬ (n : Int) = (i : Int) by omega)]; omega
end
section
variable (o : List ByteArray) (mt : List S63) (s : List S27) (p : List S65) (a4 a5 a6 : Int) (r q : List Int) (n b3 b4 : Int) (l5 : List Int) (y : List (List Int))
variable (H : BatchOk o mt s p a4 a5 a6) (hr : RecOk mt r) (hy : RealOk y)
def rG (i : Nat) : Int := gA mt r y mt.length i
def WT : Int := wG (rG mt r y) o.length
theorem gL_len : (gL o mt r y).length = o.length := stI_len mt r y o.length mt.length 0
theorem gL_get (j : Nat) (h : j < o.length) : rd (gL o mt r y) (j : Int) = rG mt r y j := by
  unfold gL
  rw [stI_get mt r y o.length mt.length 0 j h, if_neg (by omega)]
  rfl
include H hr hy in
theorem rG_at : ∀ j : Nat, j < (gramL o.length mt r).length → 100 * (rd_T27 (gramL o.length mt r) (j : Int)).f0 ≤ rG mt r y j ∧ rG mt r y j ≤ 100 * (rd_T27 (gramL o.length mt r) (j : Int)).f1 := by
  intro j hj
  rw [gramL_len] at hj
  rw [gramL_get _ _ _ _ hj]
  exact (gA_bound o mt s p a4 a5 a6 r y H hr hy hj mt.length (Nat.le_refl _)).1
include H hr hy in
theorem rG_small (j : Nat) (hj : j < o.length) : 0 ≤ rG mt r y j ∧ rG mt r y j ≤ 12000000000 := by
  have h := (gA_bound o mt s p a4 a5 a6 r y H hr hy hj mt.length (Nat.le_refl _)).2
  have := H.m12
  unfold rG
  omega
include H hr hy in
theorem WT_small (i : Nat) (hi : i ≤ o.length) : 0 ≤ wG (rG mt r y) i ∧ wG (rG mt r y) i ≤ 144000000000 := by
  have h := sumTo_bound (f := rG mt r y) (M := 12000000000) (n := o.length) (fun j hj => by have := rG_small o mt s p a4 a5 a6 r y H hr hy j hj; omega) i hi
  have h2 : sumTo (fun _ => 0) i ≤ sumTo (rG mt r y) i := sumTo_le _ (fun j hj => (rG_small o mt s p a4 a5 a6 r y H hr hy j (by omega)).1)
  rw [sumTo_zero] at h2
  have := H.o12
  unfold wG
  omega
include H hr hy in
theorem WT_at : 100 * LO o.length mt r ≤ WT o mt r y ∧ WT o mt r y ≤ 100 * HI o.length mt r := by
  have h := wG_bounds (rG_at o mt s p a4 a5 a6 r y H hr hy)
  rw [gramL_len] at h
  unfold LO HI WT
  rw [gramL_len]
  exact h
theorem red_lo {m X lo hi w : Int} (h1 : m * lo ≤ X) (h2 : m * hi ≤ X) (h3 : 100 * lo ≤ w) (h4 : w ≤ 100 * hi) : m * w ≤ 100 * X := by
  by_cases hm : 0 ≤ m
  · have e := Int.mul_le_mul_of_nonneg_left h4 hm
    have e2 : m * (100 * hi) = 100 * (m * hi) := by rw [← Int.mul_assoc, Int.mul_comm m 100, Int.mul_assoc]
    omega
  · have e := Int.mul_le_mul_of_nonpos_left (show m ≤ 0 by omega) h3
    have e2 : m * (100 * lo) = 100 * (m * lo) := by rw [← Int.mul_assoc, Int.mul_comm m 100, Int.mul_assoc]
    omega
theorem red_hi {m X lo hi w : Int} (h1 : X ≤ m * lo) (h2 : X ≤ m * hi) (h3 : 100 * lo ≤ w) (h4 : w ≤ 100 * hi) : 100 * X ≤ m * w := by
  have h := red_lo (m := -m) (X := -X) (lo := lo) (hi := hi) (w := w) (by rw [Int.neg_mul]; omega) (by rw [Int.neg_mul]; omega) h3 h4
  rw [Int.neg_mul] at h
  omega
theorem mulw {c w : Int} (h1 : -10000 ≤ c) (h2 : c ≤ 10000) (h3 : 0 ≤ w) (h4 : w ≤ 144000000000) : -1440000000000000 ≤ c * w ∧ c * w ≤ 1440000000000000 := by
  have e1 := Int.mul_le_mul_of_nonneg_right h1 h3
  have e2 := Int.mul_le_mul_of_nonneg_right h2 h3
  omega
theorem quo_small {n d : Int} (hd : 0 < d) (h1 : -1000000000000000 ≤ n) (h2 : n ≤ 1000000000000000) : -1000000000000000 ≤ n / d ∧ n / d ≤ 1000000000000000 := by
  constructor
  · exact (Int.le_ediv_iff_mul_le hd).2 (by have := Int.mul_le_mul_of_nonpos_left (show (-1000000000000000 : Int) ≤ 0 by omega) (show (1:Int) ≤ d by omega); omega)
  · by_cases hm : 0 ≤ n
    · exact Int.le_trans (Int.ediv_le_self _ hm) h2
    · have : n / d < 0 := Int.ediv_neg_of_neg_of_pos (by omega) hd
      omega
theorem all_range {f : Nat → Bool} {n : Nat} (h : (List.range n).all f = true) {j : Nat} (hj : j < n) : f j = true := List.all_eq_true.1 h j (by simpa using hj)
structure Kept (is : Bool) : Prop where
  w : is = true → lowW o.length mt r ≥ 1000 * a6
  f : is = true → ∀ j, j < s.length + p.length → (tgOf s p j).f0 ≤ meanLo (coefOf s p j) (gramL o.length mt r) ∧ meanHi (coefOf s p j) (gramL o.length mt r) ≤ (tgOf s p j).f1
  r : is = true → a4 ≤ (redT mt r (LO o.length mt r) (HI o.length mt r)).1 ∧ (redT mt r (LO o.length mt r) (HI o.length mt r)).2.1 ≤ a5
include H hr in
theorem kept_of (hp : 0 < lowW o.length mt r) : Kept o mt s p a4 a5 a6 r (passB mt s p a4 a5 a6 r) := by
  have h := pass_inside o mt s p a4 a5 a6 r H hr hp
  rw [h]
  refine ⟨fun h1 => ?_, fun h1 j hj => ?_, fun h1 => ?_⟩ <;> rw [Bool.and_eq_true, Bool.and_eq_true] at h1
  · exact of_decide_eq_true h1.1.1
  · have h2 := all_range h1.1.2 hj
    unfold inF at h2
    rw [Bool.and_eq_true] at h2
    exact ⟨of_decide_eq_true h2.1, of_decide_eq_true h2.2⟩
  · have h2 := h1.2
    unfold inR at h2
    rw [Bool.and_eq_true] at h2
    exact ⟨of_decide_eq_true h2.1, of_decide_eq_true h2.2⟩
include H hr in
theorem red_small (hp : 0 < lowW o.length mt r) : ((redT mt r (LO o.length mt r) (HI o.length mt r)).1 * LO o.length mt r ≤ 1000000 * rdS mt r mt.length ∧ (redT mt r (LO o.length mt r) (HI o.length mt r)).1 * HI o.length mt r ≤ 1000000 * rdS mt r mt.length) ∧
    (1000000 * rdS mt r mt.length ≤ (redT mt r (LO o.length mt r) (HI o.length mt r)).2.1 * LO o.length mt r ∧ 1000000 * rdS mt r mt.length ≤ (redT mt r (LO o.length mt r) (HI o.length mt r)).2.1 * HI o.length mt r) ∧
    (-1000000000000000 ≤ (redT mt r (LO o.length mt r) (HI o.length mt r)).1 ∧ (redT mt r (LO o.length mt r) (HI o.length mt r)).1 ≤ 1000000000000000) ∧ -1000000000000000 ≤ (redT mt r (LO o.length mt r) (HI o.length mt r)).2.1 ∧ (redT mt r (LO o.length mt r) (HI o.length mt r)).2.1 ≤ 1000000000000000 := by
  have h0 : 0 < LO o.length mt r := hp
  have h1 : 0 < HI o.length mt r := Int.lt_of_lt_of_le h0 (LO_HI H hr)
  have hb := rdS_bound H hr mt.length (Nat.le_refl _)
  have hm := H.m12
  have e1 := (le_mn (a := (redT mt r (LO o.length mt r) (HI o.length mt r)).1)).1 (Int.le_refl _)
  have e2 := (mx_le (a := (redT mt r (LO o.length mt r) (HI o.length mt r)).2.1)).1 (Int.le_refl _)
  have f1 := (le_floor h0).1 e1.1
  have f2 := (le_floor h1).1 e1.2
  have f3 := (ceil_le h0).1 e2.1
  have f4 := (ceil_le h1).1 e2.2
  have q1 := fun (d : Int) (hd : 0 < d) => quo_small (n := 1000000 * rdS mt r mt.length) hd (by omega) (by omega)
  have q2 := fun (d : Int) (hd : 0 < d) => quo_small (n := -(1000000 * rdS mt r mt.length)) hd (by omega) (by omega)
  have g1 := q1 _ h0; have g2 := q1 _ h1; have g3 := q2 _ h0; have g4 := q2 _ h1
  refine ⟨⟨f1, f2⟩, ⟨f3, f4⟩, ?_, ?_⟩
  · unfold redT mn
    dsimp only
    split <;> omega
  · unfold redT mx
    dsimp only
    split <;> omega
end
end Go.Proofs.Ytkjkokgbhepmoaa.PB

