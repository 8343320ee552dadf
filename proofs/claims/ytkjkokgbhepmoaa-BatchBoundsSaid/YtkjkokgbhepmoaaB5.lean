import Derived.Test.YtkjkokgbhepmoaaB4
import Derived.Shelf.Abstract
import Derived.Laws.EntriesVeiled
set_option linter.unusedVariables false
set_option linter.unusedSimpArgs false
namespace Go.Proofs.Ytkjkokgbhepmoaa.PB
open Go.RowKit Go.Proofs.YtkjkokgbhepmoaaW.PrintWords Go.Proofs.YtkjkokgbhepmoaaW.PrintLast Go.Proofs.YtkjkokgbhepmoaaW.PrintMore
attribute [local go_sem] max2_int min2_int max_two min_two
set_option maxHeartbeats 1000000 in
theorem l122_calls (F g : Nat) (lb : Array Value) (cf : Int → Int) (N t0 t1 : Int) (w W : World) (eg : ∀ args w, (callFunc g args).run Try.prog w = .ok (.enter g args) w)
    (hq : CoefQ g lb cf N w) (hb : Below w.heap.size w W) (hF : W.heap[F]? = some (.cells #[.func (.func g) #[] lb, .int .i64 t0, .int .i64 t1] 105 (0, 0))) (x : Int) (hx0 : 0 ≤ x) (hx1 : x < N)
    (hw : wrap64 (cf x - t1) = cf x - t1) :
    Calls Try.prog 122 #[.int .i64 x, .pointer (some ⟨F, 0, none⟩)] W fun e w' => e = .returned (.int .i64 (cf x - t1)) ∧ ∃ q, w' = W.drewN q := by
  have h1 : ∀ n, Calls Try.prog g (#[.int .i64 x] ++ lb) (W.drewN n) fun e w' => e = .returned (.int .i64 (cf x)) ∧ ∃ q, w' = (W.drewN n).drewN q := fun n => hq _ (pw_below_drewN hb n) x hx0 hx1
  have H1 : Sd _ := ⟨h1⟩
  have HW := Sd.mk hw
  have c0 : W.cell? ⟨F, 0, none⟩ = some (.func (.func g) #[] lb) := (blk_cell hF 0).trans rfl
  have c2 : W.cell? ⟨F, 0 + 1 + 1, none⟩ = some (.int .i64 t1) := (blk_cell hF 2).trans rfl
  clear h1 hq hb hw hF
  generalize cf x = cx at *
  go_enter Try.func122, Try.ntmps122
  go_wp2_with fail
  go_quiet (first | (go_at_fn g; exact Calls.quiet_of (H1.out _)))
  go_wp2
  go_ret
  exact ⟨by show Ending.returned (.int .i64 (wrap64 (cx - t1))) = _; rw [HW.out], _, rfl⟩
set_option maxHeartbeats 1000000 in
theorem l124_calls (F g : Nat) (lb : Array Value) (cf : Int → Int) (N t0 t1 : Int) (w W : World) (eg : ∀ args w, (callFunc g args).run Try.prog w = .ok (.enter g args) w)
    (hq : CoefQ g lb cf N w) (hb : Below w.heap.size w W) (hF : W.heap[F]? = some (.cells #[.func (.func g) #[] lb, .int .i64 t0, .int .i64 t1] 105 (0, 0))) (x : Int) (hx0 : 0 ≤ x) (hx1 : x < N)
    (hw : wrap64 (t0 - cf x) = t0 - cf x) :
    Calls Try.prog 124 #[.int .i64 x, .pointer (some ⟨F, 0, none⟩)] W fun e w' => e = .returned (.int .i64 (t0 - cf x)) ∧ ∃ q, w' = W.drewN q := by
  have h1 : ∀ n, Calls Try.prog g (#[.int .i64 x] ++ lb) (W.drewN n) fun e w' => e = .returned (.int .i64 (cf x)) ∧ ∃ q, w' = (W.drewN n).drewN q := fun n => hq _ (pw_below_drewN hb n) x hx0 hx1
  have H1 : Sd _ := ⟨h1⟩
  have HW := Sd.mk hw
  have c0 : W.cell? ⟨F, 0, none⟩ = some (.func (.func g) #[] lb) := (blk_cell hF 0).trans rfl
  have c2 : W.cell? ⟨F, 0 + 1, none⟩ = some (.int .i64 t0) := (blk_cell hF 1).trans rfl
  clear h1 hq hb hw hF
  generalize cf x = cx at *
  go_enter Try.func124, Try.ntmps124
  go_wp2_with fail
  go_quiet (first | (go_at_fn g; exact Calls.quiet_of (H1.out _)))
  go_wp2
  go_ret
  exact ⟨by show Ending.returned (.int .i64 (wrap64 (t0 - cx))) = _; rw [HW.out], _, rfl⟩
def gT (df : Int → Int) (l : List S27) (j : Nat) : Int := max (df (j : Int) * (rd_T27 l (j : Int)).f0) (df (j : Int) * (rd_T27 l (j : Int)).f1)
def gTS (df : Int → Int) (l : List S27) (n : Nat) : Int := sumTo (gT df l) n
structure DfOk (df : Int → Int) (n : Nat) : Prop where
  at_ : ∀ j : Nat, j < n → -20000 ≤ df (j : Int) ∧ df (j : Int) ≤ 20000
theorem gT_bound {df : Int → Int} {l : List S27} (H : GOk l) (C : DfOk df l.length) : ∀ j, j < l.length → -3600000000000 ≤ gT df l j ∧ gT df l j ≤ 3600000000000 := by
  intro j hj
  have a1 := H.at_ j hj
  have a2 := C.at_ j hj
  have b1 := mulb (c := df j) (x := (rd_T27 l (j : Int)).f0) (by omega) (by omega) (by omega) (by omega)
  have b2 := mulb (c := df j) (x := (rd_T27 l (j : Int)).f1) (by omega) (by omega) (by omega) (by omega)
  unfold gT
  omega
theorem gTS_step {df : Int → Int} {l : List S27} (H : GOk l) (C : DfOk df l.length) {k : Nat} (hk : k < l.length) :
    wrap64 (gTS df l k + mx (wrap64 (df (k : Int) * (rd_T27 l (k : Int)).f0)) (wrap64 (df (k : Int) * (rd_T27 l (k : Int)).f1))) = gTS df l (k + 1) := by
  have hn := H.n12
  have a1 := H.at_ k hk
  have a2 := C.at_ k hk
  have b1 := mulb (c := df k) (x := (rd_T27 l (k : Int)).f0) (by omega) (by omega) (by omega) (by omega)
  have b2 := mulb (c := df k) (x := (rd_T27 l (k : Int)).f1) (by omega) (by omega) (by omega) (by omega)
  have b3 := gT_bound H C k hk
  have b4 := sumTo_bound (f := gT df l) (M := 3600000000000) (n := l.length) (gT_bound H C) k (by omega)
  rw [wrap_id (x := df k * (rd_T27 l (k : Int)).f0) (by omega) (by omega), wrap_id (x := df k * (rd_T27 l (k : Int)).f1) (by omega) (by omega), mx_max]
  show wrap64 (gTS df l k + gT df l k) = _
  unfold gTS
  rw [wrap_id (by omega) (by omega)]
  rfl
set_option maxHeartbeats 2000000 in
theorem greatest_calls (x : S63) (A : Option Addr) (c g : Nat) (lb : Array Value) (df : Int → Int) (w : World) (eg : ∀ args w, (callFunc g args).run Try.prog w = .ok (.enter g args) w)
    (hq : CoefQ g lb df x.f6.length w) (hC : Kd.C k27 w A x.f6.length x.f6) (hc : x.f6.length ≤ c) (hG : GOk x.f6) (hd : DfOk df x.f6.length) :
    Calls Try.prog 121 #[.agg #[.string x.f0, .int .i64 x.f1, .int .i64 x.f2, .int .i64 x.f3, .int .i64 x.f4, .int .i64 x.f5, .slice A x.f6.length c], .func (.func g) #[] lb] w fun e w' => e = .returned (.int .i64 (gTS df x.f6 x.f6.length)) ∧ Below w.heap.size w w' := by
  have hb0 : Below w.heap.size w (w.alloc (.cells #[.string x.f0, .int .i64 x.f1, .int .i64 x.f2, .int .i64 x.f3, .int .i64 x.f4, .int .i64 x.f5, .slice A x.f6.length c] 63)) := below_alloc (Below.refl _ _) _
  have HB := Sd.mk hb0
  have hbk := blk_new w (.cells #[.string x.f0, .int .i64 x.f1, .int .i64 x.f2, .int .i64 x.f3, .int .i64 x.f4, .int .i64 x.f5, .slice A x.f6.length c] 63)
  have HBK := Sd.mk hbk
  have HQ := Sd.mk hq
  have HC := Sd.mk hC
  have HG := Sd.mk hG
  have HD := Sd.mk hd
  clear hq hC hc hG hd hb0
  go_enter Try.func121, Try.ntmps121
  have hc6 : (w.alloc (.cells #[.string x.f0, .int .i64 x.f1, .int .i64 x.f2, .int .i64 x.f3, .int .i64 x.f4, .int .i64 x.f5, .slice A x.f6.length c] 63)).cell? ⟨w.heap.size, 0 + 6, none⟩ = some (.slice A x.f6.length c) := (blk_cell hbk 6).trans rfl
  go_wp2
  have hl12 : x.f6.length ≤ 12 := HG.out.n12
  have HL12 := Sd.mk hl12
  clear hc6 hbk hl12
  generalize w.alloc (.cells #[.string x.f0, .int .i64 x.f1, .int .i64 x.f2, .int .i64 x.f3, .int .i64 x.f4, .int .i64 x.f5, .slice A x.f6.length c] 63) = w0 at HB HBK ⊢
  go_loopg [11, 5] x.f6.length (fun gq v11 v5 wr => ∃ k : Nat, v11 = .int .i64 k ∧ v5 = .int .i64 (gTS df x.f6 k) ∧ k ≤ x.f6.length ∧ x.f6.length - k ≤ gq ∧ Sd (Below w.heap.size w wr))
  case atStart => exact ⟨0, rfl, rfl, Nat.zero_le _, by omega, HB⟩
  case round =>
    clear HB HBK
    obtain ⟨k, rfl, rfl, hk, hgk, HB⟩ := hrel
    have hl12 := HL12.out
    by_cases hlt : k < x.f6.length
    · have hltz : (k : Int) < (x.f6.length : Int) := by omega
      obtain ⟨ad, rfl, hx0, hx1⟩ := at_T27 (Kd.C_below HC.out HB.out) (k : Int) (by omega) hltz
      simp only [Int.toNat_natCast] at hx0 hx1
      have HB2 := Sd.mk (below_alloc HB.out (.cells #[.int .i64 (rd_T27 x.f6 (k : Int)).f0, .int .i64 (rd_T27 x.f6 (k : Int)).f1] 27))
      have hbk := blk_new wr (.cells #[.int .i64 (rd_T27 x.f6 (k : Int)).f0, .int .i64 (rd_T27 x.f6 (k : Int)).f1] 27)
      have HSTEP := Sd.mk (gTS_step HG.out HD.out hlt)
      have h0 : (wr.alloc (.cells #[.int .i64 (rd_T27 x.f6 (k : Int)).f0, .int .i64 (rd_T27 x.f6 (k : Int)).f1] 27)).cell? ⟨wr.heap.size, 0, none⟩ = some (.int .i64 (rd_T27 x.f6 (k : Int)).f0) := (blk_cell hbk 0).trans rfl
      have h1 : (wr.alloc (.cells #[.int .i64 (rd_T27 x.f6 (k : Int)).f0, .int .i64 (rd_T27 x.f6 (k : Int)).f1] 27)).cell? ⟨wr.heap.size, 0 + 1, none⟩ = some (.int .i64 (rd_T27 x.f6 (k : Int)).f1) := (blk_cell hbk 1).trans rfl
      have HH0 := Sd.mk h0
      have HH1 := Sd.mk h1
      have hcoef : ∀ W, Below wr.heap.size wr W → Calls Try.prog g (#[.int .i64 (k : Int)] ++ lb) W fun e w' => e = .returned (.int .i64 (df k)) ∧ ∃ q, w' = W.drewN q := fun W hW => HQ.out W (below_then HB.out HB.out.size hW) _ (by omega) hltz
      have HCF := Sd.mk hcoef
      clear hbk h0 h1 hcoef
      go_upto_region 5 with (fail)
      generalize gTS df x.f6 k = acc at *
      have H1 : Sd (∀ n, Calls Try.prog g (#[.int .i64 (k : Int)] ++ lb) ((wr.alloc (.cells #[.int .i64 (rd_T27 x.f6 (k : Int)).f0, .int .i64 (rd_T27 x.f6 (k : Int)).f1] 27)).drewN n) fun e w' => e = .returned (.int .i64 (df k)) ∧ ∃ q, w' = ((wr.alloc (.cells #[.int .i64 (rd_T27 x.f6 (k : Int)).f0, .int .i64 (rd_T27 x.f6 (k : Int)).f1] 27)).drewN n).drewN q) := ⟨fun n => HCF.out _ (pw_below_drewN (below_alloc (Below.refl _ _) _) n)⟩
      generalize wr.alloc (.cells #[.int .i64 (rd_T27 x.f6 (k : Int)).f0, .int .i64 (rd_T27 x.f6 (k : Int)).f1] 27) = wa at *
      have h0 := HH0.out
      have h1 := HH1.out
      go_quiet (first | (go_at_fn g; exact Calls.quiet_of (H1.out _)))
      clear h0 h1 HH0 HH1 H1
      go_wp2
      all_goals
        go_roundg (x.f6.length - (k + 1))
        case measure => omega
        case rel => exact ⟨k + 1, rfl, by rw [← HSTEP.out]; unfold mx; first | rw [if_pos (by assumption)] | rw [if_neg (Int.not_lt.2 (by assumption))], by omega, by omega, ⟨by repeat (first | (with_reducible first | exact HB2.out | apply pw_below_drewN | apply below_drew1) | exact HB2.out)⟩⟩
    · have hltz : ¬ (k : Int) < (x.f6.length : Int) := by omega
      obtain rfl : k = x.f6.length := by omega
      go_wp2
      go_ret
      exact ⟨rfl, HB.out⟩
def lowM (x : S63) : Int := wS S27.f0 x.f6 x.f6.length
def highM (x : S63) : Int := wS S27.f1 x.f6 x.f6.length
theorem ends_l0 {l : List S27} (H : GOk l) : ∀ (m i : Nat), i + m = l.length → Ev (fun k => batch_ends.l0 k (wS S27.f0 l i) (wS S27.f1 l i) l (l.length : Int) (i : Int)) (wS S27.f0 l l.length, wS S27.f1 l l.length)
  | 0, i, hi => by
    apply Ev.step
    simp only [batch_ends.l0, if_neg (show ¬ (i : Int) < (l.length : Int) by omega)]
    rw [show i = l.length by omega]
    exact Ev.const _
  | m + 1, i, hi => by
    have ih := ends_l0 H m (i + 1) (by omega)
    have hn := H.n12
    have hb := wS_bounds H i (by omega)
    have hc := H.at_ i (by omega)
    apply Ev.step
    simp only [batch_ends.l0, if_pos (show (i : Int) < (l.length : Int) by omega), if_pos (i_pos i), wrap_succ (i_pos i) (show (i : Int) ≤ 1000000000 by omega)]
    rw [wrap_id (x := wS S27.f0 l i + (rd_T27 l (i : Int)).f0) (by omega) (by omega), wrap_id (x := wS S27.f1 l i + (rd_T27 l (i : Int)).f1) (by omega) (by omega)]
    exact ih
theorem ends_calls (x : S63) (A : Option Addr) (c : Nat) (w : World) (hC : Kd.C k27 w A x.f6.length x.f6) (hc : x.f6.length ≤ c) (hG : GOk x.f6) :
    Calls Try.prog 119 #[.agg #[.string x.f0, .int .i64 x.f1, .int .i64 x.f2, .int .i64 x.f3, .int .i64 x.f4, .int .i64 x.f5, .slice A x.f6.length c]] w fun e w' => e = .returned (.tuple #[.int .i64 (lowM x), .int .i64 (highM x)]) ∧ Below w.heap.size w w' := by
  obtain ⟨K, hK⟩ := ends_l0 hG x.f6.length 0 (by omega)
  exact batch_ends.calls K x.f0 x.f1 x.f2 x.f3 x.f4 x.f5 A c x.f6 (lowM x) (highM x) w hC hc (hK K (Nat.le_refl _))
theorem lowM_bound {x : S63} (H : GOk x.f6) : 0 ≤ lowM x ∧ lowM x ≤ highM x ∧ highM x ≤ 1440000000 := by
  have h := wS_bounds H x.f6.length (Nat.le_refl _)
  have hn := H.n12
  unfold lowM highM
  omega
set_option maxHeartbeats 1000000 in
theorem l118_calls (x : S63) (A : Option Addr) (c : Nat) (w : World) (hC : Kd.C k27 w A x.f6.length x.f6) (hc : x.f6.length ≤ c) (hG : GOk x.f6) :
    Calls Try.prog 118 #[.agg #[.string x.f0, .int .i64 x.f1, .int .i64 x.f2, .int .i64 x.f3, .int .i64 x.f4, .int .i64 x.f5, .slice A x.f6.length c]] w fun e w' => e = .returned (.int .i64 (-lowM x)) ∧ Below w.heap.size w w' := by
  have hb0 : Below w.heap.size w (w.alloc (.cells #[.string x.f0, .int .i64 x.f1, .int .i64 x.f2, .int .i64 x.f3, .int .i64 x.f4, .int .i64 x.f5, .slice A x.f6.length c] 63)) := below_alloc (Below.refl _ _) _
  have hgo := ends_calls x A c (w.alloc (.cells #[.string x.f0, .int .i64 x.f1, .int .i64 x.f2, .int .i64 x.f3, .int .i64 x.f4, .int .i64 x.f5, .slice A x.f6.length c] 63)) (Kd.C_below hC hb0) hc hG
  have HLB := Sd.mk (lowM_bound hG)
  have HB := Sd.mk hb0
  clear hC hc hG hb0
  go_enter Try.func118, Try.ntmps118
  go_wp2_with fail
  generalize w.alloc (.cells #[.string x.f0, .int .i64 x.f1, .int .i64 x.f2, .int .i64 x.f3, .int .i64 x.f4, .int .i64 x.f5, .slice A x.f6.length c] 63) = w0 at *
  refine hgo.mono ?_
  clear hgo
  rintro e w1 ⟨rfl, hb⟩
  have hlb := HLB.out
  go_wp2
  go_ret
  exact ⟨rfl, below_trans' HB.out hb⟩
set_option maxHeartbeats 1000000 in
theorem l120_calls (x : S63) (A : Option Addr) (c F g : Nat) (lb : Array Value) (cf : Int → Int) (t0 t1 : Int) (w W : World) (eg : ∀ args w, (callFunc g args).run Try.prog w = .ok (.enter g args) w)
    (hq : CoefQ g lb cf x.f6.length w) (hb : Below w.heap.size w W) (hF : W.heap[F]? = some (.cells #[.func (.func g) #[] lb, .int .i64 t0, .int .i64 t1] 105 (0, 0)))
    (hC : Kd.C k27 W A x.f6.length x.f6) (hc : x.f6.length ≤ c) (hG : GOk x.f6) (hcf : CfOk cf x.f6.length) (ht : (-10000 ≤ t0 ∧ t0 ≤ 10000) ∧ -10000 ≤ t1 ∧ t1 ≤ 10000) :
    Calls Try.prog 120 (#[.agg #[.string x.f0, .int .i64 x.f1, .int .i64 x.f2, .int .i64 x.f3, .int .i64 x.f4, .int .i64 x.f5, .slice A x.f6.length c]] ++ #[.pointer (some ⟨F, 0, none⟩)]) W fun e w' => e = .returned (.int .i64 (gTS (fun k => cf k - t1) x.f6 x.f6.length)) ∧ Below W.heap.size W w' := by
  have hb0 : Below W.heap.size W (W.alloc (.cells #[.string x.f0, .int .i64 x.f1, .int .i64 x.f2, .int .i64 x.f3, .int .i64 x.f4, .int .i64 x.f5, .slice A x.f6.length c] 63)) := below_alloc (Below.refl _ _) _
  have hq2 : CoefQ 122 #[.pointer (some ⟨F, 0, none⟩)] (fun k => cf k - t1) x.f6.length (W.alloc (.cells #[.string x.f0, .int .i64 x.f1, .int .i64 x.f2, .int .i64 x.f3, .int .i64 x.f4, .int .i64 x.f5, .slice A x.f6.length c] 63)) := by
    intro W' hW' y hy0 hy1
    obtain ⟨j, hj, rfl⟩ : ∃ j : Nat, j < x.f6.length ∧ y = j := ⟨y.toNat, by omega, by omega⟩
    have h1 := hcf.at_ j hj
    exact l122_calls F g lb cf x.f6.length t0 t1 w W' eg hq (below_trans' hb (below_trans' hb0 hW')) (blk_below hF (below_trans' hb0 hW')) (j : Int) hy0 hy1 (wrap_id (by omega) (by omega))
  have hgo := greatest_calls x A c 122 #[.pointer (some ⟨F, 0, none⟩)] (fun k => cf k - t1) (W.alloc (.cells #[.string x.f0, .int .i64 x.f1, .int .i64 x.f2, .int .i64 x.f3, .int .i64 x.f4, .int .i64 x.f5, .slice A x.f6.length c] 63)) (enters_of Try.func122 (by kernel_rfl) rfl) hq2 (Kd.C_below hC hb0) hc hG ⟨fun j hj => by have h1 := hcf.at_ j hj; omega⟩
  have HB := Sd.mk hb0
  clear hC hc hG hb0 hq2 hq hb hF
  show Calls Try.prog 120 #[.agg #[.string x.f0, .int .i64 x.f1, .int .i64 x.f2, .int .i64 x.f3, .int .i64 x.f4, .int .i64 x.f5, .slice A x.f6.length c], .pointer (some ⟨F, 0, none⟩)] W _
  go_enter Try.func120, Try.ntmps120
  go_wp2_with fail
  generalize W.alloc (.cells #[.string x.f0, .int .i64 x.f1, .int .i64 x.f2, .int .i64 x.f3, .int .i64 x.f4, .int .i64 x.f5, .slice A x.f6.length c] 63) = w0 at *
  refine hgo.mono ?_
  clear hgo
  rintro e w1 ⟨rfl, hb⟩
  go_wp2
  go_ret
  exact ⟨rfl, below_trans' HB.out hb⟩
set_option maxHeartbeats 1000000 in
theorem l123_calls (x : S63) (A : Option Addr) (c F g : Nat) (lb : Array Value) (cf : Int → Int) (t0 t1 : Int) (w W : World) (eg : ∀ args w, (callFunc g args).run Try.prog w = .ok (.enter g args) w)
    (hq : CoefQ g lb cf x.f6.length w) (hb : Below w.heap.size w W) (hF : W.heap[F]? = some (.cells #[.func (.func g) #[] lb, .int .i64 t0, .int .i64 t1] 105 (0, 0)))
    (hC : Kd.C k27 W A x.f6.length x.f6) (hc : x.f6.length ≤ c) (hG : GOk x.f6) (hcf : CfOk cf x.f6.length) (ht : (-10000 ≤ t0 ∧ t0 ≤ 10000) ∧ -10000 ≤ t1 ∧ t1 ≤ 10000) :
    Calls Try.prog 123 (#[.agg #[.string x.f0, .int .i64 x.f1, .int .i64 x.f2, .int .i64 x.f3, .int .i64 x.f4, .int .i64 x.f5, .slice A x.f6.length c]] ++ #[.pointer (some ⟨F, 0, none⟩)]) W fun e w' => e = .returned (.int .i64 (gTS (fun k => t0 - cf k) x.f6 x.f6.length)) ∧ Below W.heap.size W w' := by
  have hb0 : Below W.heap.size W (W.alloc (.cells #[.string x.f0, .int .i64 x.f1, .int .i64 x.f2, .int .i64 x.f3, .int .i64 x.f4, .int .i64 x.f5, .slice A x.f6.length c] 63)) := below_alloc (Below.refl _ _) _
  have hq2 : CoefQ 124 #[.pointer (some ⟨F, 0, none⟩)] (fun k => t0 - cf k) x.f6.length (W.alloc (.cells #[.string x.f0, .int .i64 x.f1, .int .i64 x.f2, .int .i64 x.f3, .int .i64 x.f4, .int .i64 x.f5, .slice A x.f6.length c] 63)) := by
    intro W' hW' y hy0 hy1
    obtain ⟨j, hj, rfl⟩ : ∃ j : Nat, j < x.f6.length ∧ y = j := ⟨y.toNat, by omega, by omega⟩
    have h1 := hcf.at_ j hj
    exact l124_calls F g lb cf x.f6.length t0 t1 w W' eg hq (below_trans' hb (below_trans' hb0 hW')) (blk_below hF (below_trans' hb0 hW')) (j : Int) hy0 hy1 (wrap_id (by omega) (by omega))
  have hgo := greatest_calls x A c 124 #[.pointer (some ⟨F, 0, none⟩)] (fun k => t0 - cf k) (W.alloc (.cells #[.string x.f0, .int .i64 x.f1, .int .i64 x.f2, .int .i64 x.f3, .int .i64 x.f4, .int .i64 x.f5, .slice A x.f6.length c] 63)) (enters_of Try.func124 (by kernel_rfl) rfl) hq2 (Kd.C_below hC hb0) hc hG ⟨fun j hj => by have h1 := hcf.at_ j hj; omega⟩
  have HB := Sd.mk hb0
  clear hC hc hG hb0 hq2 hq hb hF
  show Calls Try.prog 123 #[.agg #[.string x.f0, .int .i64 x.f1, .int .i64 x.f2, .int .i64 x.f3, .int .i64 x.f4, .int .i64 x.f5, .slice A x.f6.length c], .pointer (some ⟨F, 0, none⟩)] W _
  go_enter Try.func123, Try.ntmps123
  go_wp2_with fail
  generalize W.alloc (.cells #[.string x.f0, .int .i64 x.f1, .int .i64 x.f2, .int .i64 x.f3, .int .i64 x.f4, .int .i64 x.f5, .slice A x.f6.length c] 63) = w0 at *
  refine hgo.mono ?_
  clear hgo
  rintro e w1 ⟨rfl, hb⟩
  go_wp2
  go_ret
  exact ⟨rfl, below_trans' HB.out hb⟩
def rUp (u : Int) (x : S63) : Int := 1000000 * x.f2 - mn (u * lowM x) (u * highM x)
def rDn (t : Int) (x : S63) : Int := mx (t * lowM x) (t * highM x) - 1000000 * x.f2
theorem mulr {c x : Int} (h1 : -10000 ≤ c) (h2 : c ≤ 10000) (h3 : 0 ≤ x) (h4 : x ≤ 1440000000) : -14400000000000 ≤ c * x ∧ c * x ≤ 14400000000000 := by
  have e1 := Int.mul_le_mul_of_nonneg_right h1 h3
  have e2 := Int.mul_le_mul_of_nonneg_right h2 h3
  omega
set_option maxHeartbeats 1000000 in
theorem l125_calls (x : S63) (A : Option Addr) (c U : Nat) (u : Int) (W : World) (hU : W.heap[U]? = some (.cells #[.int .i64 u] 3 (0, 0)))
    (hC : Kd.C k27 W A x.f6.length x.f6) (hc : x.f6.length ≤ c) (hG : GOk x.f6) (hu : -10000 ≤ u ∧ u ≤ 10000) (hr : -1000 ≤ x.f2 ∧ x.f2 ≤ 1000) :
    Calls Try.prog 125 (#[.agg #[.string x.f0, .int .i64 x.f1, .int .i64 x.f2, .int .i64 x.f3, .int .i64 x.f4, .int .i64 x.f5, .slice A x.f6.length c]] ++ #[.pointer (some ⟨U, 0, none⟩)]) W fun e w' => e = .returned (.int .i64 (rUp u x)) ∧ Below W.heap.size W w' := by
  have hb0 : Below W.heap.size W (W.alloc (.cells #[.string x.f0, .int .i64 x.f1, .int .i64 x.f2, .int .i64 x.f3, .int .i64 x.f4, .int .i64 x.f5, .slice A x.f6.length c] 63)) := below_alloc (Below.refl _ _) _
  have hgo := ends_calls x A c (W.alloc (.cells #[.string x.f0, .int .i64 x.f1, .int .i64 x.f2, .int .i64 x.f3, .int .i64 x.f4, .int .i64 x.f5, .slice A x.f6.length c] 63)) (Kd.C_below hC hb0) hc hG
  have hlb := lowM_bound hG
  have hp1 := mulr hu.1 hu.2 hlb.1 (Int.le_trans hlb.2.1 hlb.2.2)
  have hp2 := mulr hu.1 hu.2 (Int.le_trans hlb.1 hlb.2.1) hlb.2.2
  have HP1 := Sd.mk hp1
  have HP2 := Sd.mk hp2
  have HR := Sd.mk hr
  have HB := Sd.mk hb0
  have BU := Sd.mk (blk_below hU hb0)
  have BM := Sd.mk (blk_new W (.cells #[.string x.f0, .int .i64 x.f1, .int .i64 x.f2, .int .i64 x.f3, .int .i64 x.f4, .int .i64 x.f5, .slice A x.f6.length c] 63))
  clear hC hc hG hb0 hu hr hlb hp1 hp2 hU
  show Calls Try.prog 125 #[.agg #[.string x.f0, .int .i64 x.f1, .int .i64 x.f2, .int .i64 x.f3, .int .i64 x.f4, .int .i64 x.f5, .slice A x.f6.length c], .pointer (some ⟨U, 0, none⟩)] W _
  go_enter Try.func125, Try.ntmps125
  go_wp2_with fail
  generalize W.alloc (.cells #[.string x.f0, .int .i64 x.f1, .int .i64 x.f2, .int .i64 x.f3, .int .i64 x.f4, .int .i64 x.f5, .slice A x.f6.length c] 63) = w0 at *
  refine hgo.mono ?_
  clear hgo
  rintro e w1 ⟨rfl, hb⟩
  have HB1 := Sd.mk hb
  have hm2 : w1.cell? ⟨W.heap.size, 0 + 2, none⟩ = some (.int .i64 x.f2) := (blk_cell (blk_below BM.out hb) 2).trans rfl
  have hu0 : w1.cell? ⟨U, 0, none⟩ = some (.int .i64 u) := (blk_cell (blk_below BU.out hb) 0).trans rfl
  obtain ⟨hp1, hp1'⟩ := HP1.out
  obtain ⟨hp2, hp2'⟩ := HP2.out
  obtain ⟨hr1, hr2⟩ := HR.out
  clear hb
  go_wp2
  all_goals
    go_ret
    refine ⟨?_, below_trans' HB.out HB1.out⟩
    unfold rUp mn
    first | rw [if_pos (by assumption)] | rw [if_neg (Int.not_lt.2 (by assumption))]
    try rfl
set_option maxHeartbeats 1000000 in
theorem l126_calls (x : S63) (A : Option Addr) (c U : Nat) (u : Int) (W : World) (hU : W.heap[U]? = some (.cells #[.int .i64 u] 3 (0, 0)))
    (hC : Kd.C k27 W A x.f6.length x.f6) (hc : x.f6.length ≤ c) (hG : GOk x.f6) (hu : -10000 ≤ u ∧ u ≤ 10000) (hr : -1000 ≤ x.f2 ∧ x.f2 ≤ 1000) :
    Calls Try.prog 126 (#[.agg #[.string x.f0, .int .i64 x.f1, .int .i64 x.f2, .int .i64 x.f3, .int .i64 x.f4, .int .i64 x.f5, .slice A x.f6.length c]] ++ #[.pointer (some ⟨U, 0, none⟩)]) W fun e w' => e = .returned (.int .i64 (rDn u x)) ∧ Below W.heap.size W w' := by
  have hb0 : Below W.heap.size W (W.alloc (.cells #[.string x.f0, .int .i64 x.f1, .int .i64 x.f2, .int .i64 x.f3, .int .i64 x.f4, .int .i64 x.f5, .slice A x.f6.length c] 63)) := below_alloc (Below.refl _ _) _
  have hgo := ends_calls x A c (W.alloc (.cells #[.string x.f0, .int .i64 x.f1, .int .i64 x.f2, .int .i64 x.f3, .int .i64 x.f4, .int .i64 x.f5, .slice A x.f6.length c] 63)) (Kd.C_below hC hb0) hc hG
  have hlb := lowM_bound hG
  have hp1 := mulr hu.1 hu.2 hlb.1 (Int.le_trans hlb.2.1 hlb.2.2)
  have hp2 := mulr hu.1 hu.2 (Int.le_trans hlb.1 hlb.2.1) hlb.2.2
  have HP1 := Sd.mk hp1
  have HP2 := Sd.mk hp2
  have HR := Sd.mk hr
  have HB := Sd.mk hb0
  have BU := Sd.mk (blk_below hU hb0)
  have BM := Sd.mk (blk_new W (.cells #[.string x.f0, .int .i64 x.f1, .int .i64 x.f2, .int .i64 x.f3, .int .i64 x.f4, .int .i64 x.f5, .slice A x.f6.length c] 63))
  clear hC hc hG hb0 hu hr hlb hp1 hp2 hU
  show Calls Try.prog 126 #[.agg #[.string x.f0, .int .i64 x.f1, .int .i64 x.f2, .int .i64 x.f3, .int .i64 x.f4, .int .i64 x.f5, .slice A x.f6.length c], .pointer (some ⟨U, 0, none⟩)] W _
  go_enter Try.func126, Try.ntmps126
  go_wp2_with fail
  generalize W.alloc (.cells #[.string x.f0, .int .i64 x.f1, .int .i64 x.f2, .int .i64 x.f3, .int .i64 x.f4, .int .i64 x.f5, .slice A x.f6.length c] 63) = w0 at *
  refine hgo.mono ?_
  clear hgo
  rintro e w1 ⟨rfl, hb⟩
  have HB1 := Sd.mk hb
  have hm2 : w1.cell? ⟨W.heap.size, 0 + 2, none⟩ = some (.int .i64 x.f2) := (blk_cell (blk_below BM.out hb) 2).trans rfl
  have hu0 : w1.cell? ⟨U, 0, none⟩ = some (.int .i64 u) := (blk_cell (blk_below BU.out hb) 0).trans rfl
  obtain ⟨hp1, hp1'⟩ := HP1.out
  obtain ⟨hp2, hp2'⟩ := HP2.out
  obtain ⟨hr1, hr2⟩ := HR.out
  clear hb
  go_wp2
  all_goals
    go_ret
    refine ⟨?_, below_trans' HB.out HB1.out⟩
    unfold rDn mx
    first | rw [if_pos (by assumption)] | rw [if_neg (Int.not_lt.2 (by assumption))]
    try rfl
end Go.Proofs.Ytkjkokgbhepmoaa.PB

namespace Go.Proofs.Ytkjkokgbhepmoaa.PB
open Go.RowKit Go.Proofs.YtkjkokgbhepmoaaW.PrintWords Go.Proofs.YtkjkokgbhepmoaaW.PrintLast Go.Proofs.YtkjkokgbhepmoaaW.PrintMore
attribute [local go_sem] max2_int min2_int max_two min_two
theorem goesV_ {P : Program} {ops : Array Oper} {Q : Exit → Act → World → Prop} {oi : Oper} {N : Option Tmp} {a : Act} {w : World} {K : Act → World → Prop} (f : FuncId) (lb : Array Value) (eg : ∀ args w, (callFunc f args).run P w = .ok (.enter f args) w)
    {t : Tmp} {as_ : Array Operand} {ts : Array TypeId} (args : Array Value) (hw : Region.wanted oi (yielded ops a.tmps) = true) (hN : oi.dst = N) (hop : oi.op = .call { callee := .value (.tmp t), args := as_, argTypes := ts })
    (ht : a.eval (.tmp t) = .func (.func f) #[] lb) (hargs : as_.map a.eval = args) (h : Calls P f (args ++ lb) w fun e w' => ∃ v, e = .returned v ∧ K (a.put N v) w') : if Region.wanted oi (yielded ops a.tmps) = true then Oper.wp P oi a w K Q else K (a.put N undef) w := by
  refine call_ f (args ++ lb) hw hN ?_ h
  have he := eg (args ++ lb) w
  have ht' : a.tmps.getD t undef = .func (.func f) #[] lb := ht
  unfold execOp
  simp [hop, resolve, Deferred.ofValue, invoke, Act.eval, ht', ht, hargs, he]
def FacQ (g : Nat) (lb : Array Value) (fc : S63 → Int) (mt : List S63) (w : World) : Prop :=
  ∀ W, Below w.heap.size w W → ∀ i : Nat, i < mt.length → ∀ A c, Kd.C k27 W A (rd_T63 mt (i : Int)).f6.length (rd_T63 mt (i : Int)).f6 → (rd_T63 mt (i : Int)).f6.length ≤ c →
    Calls Try.prog g (#[.agg #[.string (rd_T63 mt (i : Int)).f0, .int .i64 (rd_T63 mt (i : Int)).f1, .int .i64 (rd_T63 mt (i : Int)).f2, .int .i64 (rd_T63 mt (i : Int)).f3, .int .i64 (rd_T63 mt (i : Int)).f4, .int .i64 (rd_T63 mt (i : Int)).f5, .slice A (rd_T63 mt (i : Int)).f6.length c]] ++ lb) W fun e w' => e = .returned (.int .i64 (fc (rd_T63 mt (i : Int)))) ∧ Below W.heap.size W w'
def lineT : Bool × List (List Nat × List Nat) := (true, [([], []), ([0], [0]), ([], []), ([], []), ([2, 3], [2, 3]), ([4], [4]), ([1, 5, 4], [1, 5]), ([0, 1, 2, 3, 4, 5, 6], []), ([7, 6, 6, 0, 1, 2, 3, 4, 5, 6], [6, 7])])
def lineB : List Nat := [0, 1, 0, 0, 12, 28, 63, 127, 255]
theorem line_tab : rtab .any (opsOf Try.f117 5) = lineT := by kernel_rfl
theorem line_bits : waitsOk lineT.2 lineB = true := by kernel_rfl
structure LineW (w W : World) (b : Int) (fl : List Int) : Prop where
  below : Below w.heap.size w W
  res : W.heap[w.heap.size + 1]? = some (.cells #[.slice none 0 0, .int .i64 0] 51 (0, 0))
  out : ∃ A c, W.heap[w.heap.size + 2]? = some (.cells #[.slice A fl.length c, .int .i64 b] 51 (0, 0)) ∧ Kd.R (Kd.int .i64) 3 W w.heap.size (fun _ => True) (.slice A fl.length c) fl
set_option maxHeartbeats 4000000 in
set_option maxRecDepth 100000 in
theorem line_calls (A0 A1 A2 A3 : Option Addr) (n0 c0 c1 n2 c2 n3 c3 : Nat) (mt : List S63) (a4 a5 a6 b : Int) (g : Nat) (lb : Array Value) (fc : S63 → Int) (w : World)
    (eg : ∀ args w, (callFunc g args).run Try.prog w = .ok (.enter g args) w) (hq : FacQ g lb fc mt w) (hC : Kd.C k63 w A1 mt.length mt) (hm : mt.length ≤ 12) :
    Calls Try.prog 117 #[.agg #[.slice A0 n0 c0, .slice A1 mt.length c1, .slice A2 n2 c2, .slice A3 n3 c3, .int .i64 a4, .int .i64 a5, .int .i64 a6], .int .i64 b, .func (.func g) #[] lb] w fun e w' =>
      ∃ v, e = .returned (.agg #[v, .int .i64 b]) ∧ Kd.R (Kd.int .i64) 3 w' w.heap.size (fun _ => True) v (mt.map fc) ∧ Below w.heap.size w w' := by
  have hlw : LineW w (((w.alloc (.cells #[.slice A0 n0 c0, .slice A1 mt.length c1, .slice A2 n2 c2, .slice A3 n3 c3, .int .i64 a4, .int .i64 a5, .int .i64 a6] 29)).alloc (.cells #[.slice none 0 0, .int .i64 0] 51)).alloc (.cells #[.slice none 0 0, .int .i64 b] 51)) b (List.map fc (mt.take 0)) := by
    refine ⟨below_alloc (below_alloc (below_alloc (Below.refl _ _) _) _) _, ?_, none, 0, ?_, ?_⟩
    · have := blk_alloc (blk_new (w.alloc (.cells #[.slice A0 n0 c0, .slice A1 mt.length c1, .slice A2 n2 c2, .slice A3 n3 c3, .int .i64 a4, .int .i64 a5, .int .i64 a6] 29)) (.cells #[.slice none 0 0, .int .i64 0] 51)) (.cells #[.slice none 0 0, .int .i64 b] 51)
      simpa using this
    · have := blk_new ((w.alloc (.cells #[.slice A0 n0 c0, .slice A1 mt.length c1, .slice A2 n2 c2, .slice A3 n3 c3, .int .i64 a4, .int .i64 a5, .int .i64 a6] 29)).alloc (.cells #[.slice none 0 0, .int .i64 0] 51)) (.cells #[.slice none 0 0, .int .i64 b] 51)
      simpa using this
    · exact Kd.R_nil _ _ _ _ _
  have HQ := Sd.mk hq
  have HC := Sd.mk hC
  have HM := Sd.mk hm
  have HLW := Sd.mk hlw
  have hc1 : (((w.alloc (.cells #[.slice A0 n0 c0, .slice A1 mt.length c1, .slice A2 n2 c2, .slice A3 n3 c3, .int .i64 a4, .int .i64 a5, .int .i64 a6] 29)).alloc (.cells #[.slice none 0 0, .int .i64 0] 51)).alloc (.cells #[.slice none 0 0, .int .i64 b] 51)).cell? ⟨w.heap.size, 0 + 1, none⟩ = some (.slice A1 mt.length c1) := (blk_cell (blk_alloc (blk_alloc (blk_new w _) _) _) 1).trans rfl
  clear hq hC hlw
  go_enter Try.func117, Try.ntmps117
  go_wp2
  clear hc1
  generalize ((w.alloc (.cells #[.slice A0 n0 c0, .slice A1 mt.length c1, .slice A2 n2 c2, .slice A3 n3 c3, .int .i64 a4, .int .i64 a5, .int .i64 a6] 29)).alloc (.cells #[.slice none 0 0, .int .i64 0] 51)).alloc (.cells #[.slice none 0 0, .int .i64 b] 51) = w0 at HLW ⊢
  go_loopg [15] mt.length (fun gq v15 wr => ∃ k : Nat, v15 = .int .i64 k ∧ k ≤ mt.length ∧ mt.length - k ≤ gq ∧ Sd (LineW w wr b (List.map fc (mt.take k))))
  case atStart => exact ⟨0, rfl, Nat.zero_le _, by omega, HLW⟩
  case round =>
    clear HLW
    obtain ⟨k, rfl, hk, hgk, HW⟩ := hrel
    have hm12 := HM.out
    by_cases hlt : k < mt.length
    · have hltz : (k : Int) < (mt.length : Int) := by omega
      obtain ⟨A, c, hO, hR⟩ := HW.out.out
      obtain ⟨ad, A6, c6, rfl, hx0, hx1, hx2, hx3, hx4, hx5, hx6, hl6, hi6⟩ := at_T63 (Kd.C_below HC.out HW.out.below) (k : Int) (by omega) hltz
      simp only [Int.toNat_natCast] at hx0 hx1 hx2 hx3 hx4 hx5 hx6
      have BM := Sd.mk (blk_new wr (.cells #[.string (rd_T63 mt (k : Int)).f0, .int .i64 (rd_T63 mt (k : Int)).f1, .int .i64 (rd_T63 mt (k : Int)).f2, .int .i64 (rd_T63 mt (k : Int)).f3, .int .i64 (rd_T63 mt (k : Int)).f4, .int .i64 (rd_T63 mt (k : Int)).f5, .slice A6 (rd_T63 mt (k : Int)).f6.length c6] 63))
      have BO := Sd.mk (blk_alloc hO (.cells #[.string (rd_T63 mt (k : Int)).f0, .int .i64 (rd_T63 mt (k : Int)).f1, .int .i64 (rd_T63 mt (k : Int)).f2, .int .i64 (rd_T63 mt (k : Int)).f3, .int .i64 (rd_T63 mt (k : Int)).f4, .int .i64 (rd_T63 mt (k : Int)).f5, .slice A6 (rd_T63 mt (k : Int)).f6.length c6] 63))
      have BR := Sd.mk (blk_alloc HW.out.res (.cells #[.string (rd_T63 mt (k : Int)).f0, .int .i64 (rd_T63 mt (k : Int)).f1, .int .i64 (rd_T63 mt (k : Int)).f2, .int .i64 (rd_T63 mt (k : Int)).f3, .int .i64 (rd_T63 mt (k : Int)).f4, .int .i64 (rd_T63 mt (k : Int)).f5, .slice A6 (rd_T63 mt (k : Int)).f6.length c6] 63))
      have HB := Sd.mk (below_alloc HW.out.below (.cells #[.string (rd_T63 mt (k : Int)).f0, .int .i64 (rd_T63 mt (k : Int)).f1, .int .i64 (rd_T63 mt (k : Int)).f2, .int .i64 (rd_T63 mt (k : Int)).f3, .int .i64 (rd_T63 mt (k : Int)).f4, .int .i64 (rd_T63 mt (k : Int)).f5, .slice A6 (rd_T63 mt (k : Int)).f6.length c6] 63))
      have HR := Sd.mk (Kd.R_alloc hR (.cells #[.string (rd_T63 mt (k : Int)).f0, .int .i64 (rd_T63 mt (k : Int)).f1, .int .i64 (rd_T63 mt (k : Int)).f2, .int .i64 (rd_T63 mt (k : Int)).f3, .int .i64 (rd_T63 mt (k : Int)).f4, .int .i64 (rd_T63 mt (k : Int)).f5, .slice A6 (rd_T63 mt (k : Int)).f6.length c6] 63))
      have NXO := Sd.mk (show w.heap.size + 2 ≠ wr.heap.size from Nat.ne_of_lt (blk_lt hO))
      have hfl : (List.map fc (mt.take k)).length = k := by simp; omega
      have HFL := Sd.mk hfl
      have HSTEP : Sd (List.map fc (mt.take k) ++ [fc (rd_T63 mt (k : Int))] = List.map fc (mt.take (k + 1))) := ⟨by rw [List.take_succ_eq_append_getElem hlt, List.map_append]; simp [rd_T63, hlt]⟩
      have HCALL := Sd.mk (fun W hW => HQ.out W hW k hlt A6 c6)
      have HL6 := Sd.mk hl6
      have HI6 := Sd.mk (Kd.C_alloc hi6 (.cells #[.string (rd_T63 mt (k : Int)).f0, .int .i64 (rd_T63 mt (k : Int)).f1, .int .i64 (rd_T63 mt (k : Int)).f2, .int .i64 (rd_T63 mt (k : Int)).f3, .int .i64 (rd_T63 mt (k : Int)).f4, .int .i64 (rd_T63 mt (k : Int)).f5, .slice A6 (rd_T63 mt (k : Int)).f6.length c6] 63))
      clear hO hR HW hfl hl6 hi6
      go_upto_region 5 with (fail)
      clear hx0 hx1 hx2 hx3 hx4 hx5 hx6
      generalize hfv : List.map fc (mt.take k) = fl at *
      clear hfv
      generalize hWX : wr.alloc (.cells #[.string (rd_T63 mt (k : Int)).f0, .int .i64 (rd_T63 mt (k : Int)).f1, .int .i64 (rd_T63 mt (k : Int)).f2, .int .i64 (rd_T63 mt (k : Int)).f3, .int .i64 (rd_T63 mt (k : Int)).f4, .int .i64 (rd_T63 mt (k : Int)).f5, .slice A6 (rd_T63 mt (k : Int)).f6.length c6] 63) = WX at *
      clear hWX
      generalize hXX : wr.heap.size = X at *
      generalize hOO : w.heap.size + 2 = O at *
      refine start_ (n := 9) (S := fun w' => w'.cell? ⟨O, 0, none⟩ = some (.slice A fl.length c) ∧ w'.cell? ⟨X, 0, none⟩ = some (.string (rd_T63 mt (k : Int)).f0) ∧ w'.cell? ⟨X, 1, none⟩ = some (.int .i64 (rd_T63 mt (k : Int)).f1) ∧ w'.cell? ⟨X, 2, none⟩ = some (.int .i64 (rd_T63 mt (k : Int)).f2) ∧ w'.cell? ⟨X, 3, none⟩ = some (.int .i64 (rd_T63 mt (k : Int)).f3) ∧ w'.cell? ⟨X, 4, none⟩ = some (.int .i64 (rd_T63 mt (k : Int)).f4) ∧ w'.cell? ⟨X, 5, none⟩ = some (.int .i64 (rd_T63 mt (k : Int)).f5) ∧ w'.cell? ⟨X, 6, none⟩ = some (.slice A6 (rd_T63 mt (k : Int)).f6.length c6)) (ds := [8]) #[false, false, false, false, false, false, false, false, false] (by kernel_rfl) rfl rfl ⟨(blk_cell BO.out 0).trans rfl, (blk_cell BM.out 0).trans rfl, (blk_cell BM.out 1).trans rfl, (blk_cell BM.out 2).trans rfl, (blk_cell BM.out 3).trans rfl, (blk_cell BM.out 4).trans rfl, (blk_cell BM.out 5).trans rfl, (blk_cell BM.out 6).trans rfl⟩ (fun hHeld => ?_); refine with_tabW line_tab line_bits (fun HT_ HW_ => ?_)
      replace BM := Sd.mk (blk_drew BM.out)
      replace BO := Sd.mk (blk_drew BO.out)
      replace BR := Sd.mk (blk_drew BR.out)
      replace HB := Sd.mk (below_drew1 HB.out)
      replace HI6 := Sd.mk (Kd.C_drew HI6.out)
      replace HR := Sd.mk (Kd.R_drew HR.out)
      generalize WX.drew = W0 at BM BO BR HB HI6 HR hHeld ⊢
      refine pure_ (i := 0) (N := some 19) (v := ?_) (a' := ?_) #[true, false, false, false, false, false, false, false, false] rfl rfl (any_of HT_.out (by kernel_rfl)) (fun _ _ _ h => h) (Or.inl ⟨by rfl, ?_⟩) ?_ ?_
      rotate_left
      · intro w'
        go_simp
        with_reducible rfl
      rotate_left
      · simp only [Act.put, List.setIfInBounds_toArray, List.set_cons_zero, List.set_cons_succ, i64_w, i32_w]
        rfl
      refine take_ (i := 1) (N := some 20) (v := ?_) (a' := ?_) #[true, true, false, false, false, false, false, false, false] rfl rfl (take_ofW HT_.out HW_.out (by kernel_rfl)) (fun _ _ _ h => h) (Or.inl ⟨by rfl, ?_⟩) hHeld ?_ ?_
      rotate_left
      · rintro w' ⟨s0, s1, s2, s3, s4, s5, s6, s7⟩
        go_simp
        with_reducible rfl
      rotate_left
      · simp only [Act.put, List.setIfInBounds_toArray, List.set_cons_zero, List.set_cons_succ, i64_w, i32_w]
        rfl
      refine pure_ (i := 2) (N := some 21) (v := ?_) (a' := ?_) #[true, true, true, false, false, false, false, false, false] rfl rfl (any_of HT_.out (by kernel_rfl)) (fun _ _ _ h => h) (Or.inl ⟨by rfl, ?_⟩) ?_ ?_
      rotate_left
      · intro w'
        go_simp
        with_reducible rfl
      rotate_left
      · simp only [Act.put, List.setIfInBounds_toArray, List.set_cons_zero, List.set_cons_succ, i64_w, i32_w]
        rfl
      refine take_ (i := 3) (N := some 22) (v := ?_) (a' := ?_) #[true, true, true, true, false, false, false, false, false] rfl rfl (take_ofW HT_.out HW_.out (by kernel_rfl)) (fun _ _ _ h => h) (Or.inl ⟨by rfl, ?_⟩) hHeld ?_ ?_
      rotate_left
      · rintro w' ⟨s0, s1, s2, s3, s4, s5, s6, s7⟩
        go_simp
        with_reducible rfl
      rotate_left
      · simp only [Act.put, List.setIfInBounds_toArray, List.set_cons_zero, List.set_cons_succ, i64_w, i32_w]
        rfl
      refine one_ (i := 4) (N := some 23) #[true, true, true, true, true, false, false, false, false] rfl rfl (one_of HT_.out (by kernel_rfl)) (by decide) (fun K hK => ?_)
      refine goesV_ g lb eg #[.agg #[.string (rd_T63 mt (k : Int)).f0, .int .i64 (rd_T63 mt (k : Int)).f1, .int .i64 (rd_T63 mt (k : Int)).f2, .int .i64 (rd_T63 mt (k : Int)).f3, .int .i64 (rd_T63 mt (k : Int)).f4, .int .i64 (rd_T63 mt (k : Int)).f5, .slice A6 (rd_T63 mt (k : Int)).f6.length c6]] (by rfl) rfl rfl (by rfl) (by (try simp only [List.map_toArray, List.map_cons, List.map_nil]); first | done | rfl) ?_
      refine (HCALL.out W0 HB.out HI6.out HL6.out).mono ?_
      rintro e w4 ⟨rfl, hb⟩
      refine ⟨_, rfl, ?_⟩
      replace BM := Sd.mk (blk_below BM.out hb)
      replace BO := Sd.mk (blk_below BO.out hb)
      replace BR := Sd.mk (blk_below BR.out hb)
      replace HB := Sd.mk (below_step HB.out hb)
      replace HR := Sd.mk (Kd.R_below HR.out hb)
      clear hb HI6 HCALL
      refine hK.out _ _ ⟨(blk_cell BO.out 0).trans rfl, (blk_cell BM.out 0).trans rfl, (blk_cell BM.out 1).trans rfl, (blk_cell BM.out 2).trans rfl, (blk_cell BM.out 3).trans rfl, (blk_cell BM.out 4).trans rfl, (blk_cell BM.out 5).trans rfl, (blk_cell BM.out 6).trans rfl⟩ (fun hHeld => ?_)
      clear hK K
      refine norm_ (a' := ?_) ?_ ?_
      rotate_left
      · show Act.put _ (some 23) _ = _
        simp only [Act.put, List.setIfInBounds_toArray, List.set_cons_zero, List.set_cons_succ, i64_w, i32_w]
        rfl
      refine one_ (i := 5) (N := some 24) #[true, true, true, true, true, true, false, false, false] rfl rfl (one_of HT_.out (by kernel_rfl)) (by decide) (fun K hK => ?_)
      refine value_ (w1 := ?_) (v := ?_) (by rfl) rfl ?_ ?_
      rotate_left 2
      · go_simp
        constructor
        · rfl
        · rfl
      refine hK.out _ _ ⟨(blk_cell (blk_alloc BO.out _) 0).trans rfl, (blk_cell (blk_alloc BM.out _) 0).trans rfl, (blk_cell (blk_alloc BM.out _) 1).trans rfl, (blk_cell (blk_alloc BM.out _) 2).trans rfl, (blk_cell (blk_alloc BM.out _) 3).trans rfl, (blk_cell (blk_alloc BM.out _) 4).trans rfl, (blk_cell (blk_alloc BM.out _) 5).trans rfl, (blk_cell (blk_alloc BM.out _) 6).trans rfl⟩ (fun hHeld => ?_)
      clear hK K
      refine norm_ (a' := ?_) ?_ ?_
      rotate_left
      · show Act.put _ (some 24) _ = _
        simp only [Act.put, List.setIfInBounds_toArray, List.set_cons_zero, List.set_cons_succ, i64_w, i32_w]
        rfl
      refine one_ (i := 6) (N := some 25) #[true, true, true, true, true, true, true, false, false] rfl rfl (one_of HT_.out (by kernel_rfl)) (by decide) (fun K hK => ?_)
      refine Kd.R_append_step (Kd.int .i64) (w0 := w) w.heap.size (by rfl) (.tmp 20) (.tmp 24) 30 3 (.int .i64 0) 8 rfl Try.underlying30 info3 rfl (by decide) (by omega) (.slice A fl.length c) fl (fc (rd_T63 mt (k : Int))) [.int .i64 (fc (rd_T63 mt (k : Int)))] (fun _ => True) (fun _ => False) rfl rfl ?aP (fun _ hk => hk.elim) ?aF ?aO ?aB ?aS ?aL ?_
      (case aP => exact rfl)
      (case aB => exact (by repeat (first | (with_reducible first | exact HB.out | apply below_alloc | apply pw_below_drewN | apply below_drew1) | exact HB.out)))
      (case aF => exact (fun _ _ => trivial))
      (case aO => exact (by (with_reducible repeat (first | apply Kd.R_alloc | apply Kd.R_drewN | apply Kd.R_drew)); exact HR.out))
      (case aS => exact below_size HB.out)
      (case aL => exact (by rw [HFL.out]; exact Nat.le_trans (Nat.mul_le_mul_right 8 (show k + 1 ≤ 13 by omega)) (by decide)))
      intro v1 w5 ho hb hg hat
      have HB2 := Sd.mk hb
      have HO := Sd.mk ho
      have BO2 := Sd.mk (blk_grown BO.out hg (Kd.R_ne HR.out BO.out (by decide)))
      have BM2 := Sd.mk (blk_grown BM.out hg (Kd.R_ne HR.out BM.out (by decide)))
      have BR2 := Sd.mk (blk_grown BR.out hg (Kd.R_ne HR.out BR.out (by decide)))
      clear HB HR BO BM BR hb ho hat hg
      refine hK.out _ _ ⟨(blk_cell BO2.out 0).trans rfl, (blk_cell BM2.out 0).trans rfl, (blk_cell BM2.out 1).trans rfl, (blk_cell BM2.out 2).trans rfl, (blk_cell BM2.out 3).trans rfl, (blk_cell BM2.out 4).trans rfl, (blk_cell BM2.out 5).trans rfl, (blk_cell BM2.out 6).trans rfl⟩ (fun hHeld => ?_)
      clear hK K
      refine norm_ (a' := ?_) ?_ ?_
      rotate_left
      · show Act.put _ (some 25) _ = _
        simp only [Act.put, List.setIfInBounds_toArray, List.set_cons_zero, List.set_cons_succ, i64_w, i32_w]
        rfl
      refine pure_ (i := 7) (N := some 26) (v := ?_) (a' := ?_) #[true, true, true, true, true, true, true, true, false] rfl rfl (any_of HT_.out (by kernel_rfl)) (fun _ _ _ h => h) (Or.inl ⟨by rfl, ?_⟩) ?_ ?_
      rotate_left
      · intro w'
        go_simp
        with_reducible rfl
      rotate_left
      · simp only [Act.put, List.setIfInBounds_toArray, List.set_cons_zero, List.set_cons_succ, i64_w, i32_w]
        rfl
      have HO' := Sd.mk (Kd.R_types (t := 51) HO.out BO2.out (by decide))
      clear HO
      obtain ⟨A1', c1', rfl⟩ := Kd.R_slice HO'.out
      have hw0 : w5.cell? ⟨O, 0, none⟩ = some (.slice A fl.length c) := (blk_cell BO2.out 0).trans rfl
      have hwf := blk_frozen BO2.out 0
      refine last_ (i := 8) (N := none) #[true, true, true, true, true, true, true, true, true] rfl rfl (one_of HT_.out (by kernel_rfl)) (by decide) (fun K hK => ?_)
      refine skip_ (w1 := ?_) (by rfl) rfl ?_ ?_
      rotate_left
      · go_simp
        rfl
      refine hK.out _ _ ?_
      clear hK K
      refine done_ (done_of HT_.out (by kernel_rfl)) ?_
      clear hw0 hwf
      go_wp2
      go_roundg (mt.length - (k + 1))
      case measure => omega
      case rel =>
        subst hOO
        refine ⟨k + 1, rfl, by omega, by omega, ⟨?_⟩⟩
        rw [← HSTEP.out]
        refine ⟨below_set HB2.out (by omega), blk_far BR2.out (p := ⟨w.heap.size + 2, 0, none⟩) (by simp) _, A1', c1', ?_, ?_⟩
        · have h_ := blk_put (cs := #[.slice A fl.length c, .int .i64 b]) BO2.out 0 (.slice A1' (fl.length + 1) c1') rfl
          simpa using h_
        · have h_ := Kd.R_mono (ok' := fun _ => True) (Kd.R_far HO'.out (fun _ hk => hk.2) (.slice A1' (fl.length + 1) c1') (p := ⟨w.heap.size + 2, 0, none⟩)) (fun _ _ => trivial)
          simpa using h_
    · have hltz : ¬ (k : Int) < (mt.length : Int) := by omega
      obtain rfl : k = mt.length := by omega
      obtain ⟨A, c, hO, hR⟩ := HW.out.out
      have hT : List.map fc (mt.take mt.length) = List.map fc mt := by rw [List.take_length]
      rw [hT] at hO hR
      rw [List.length_map] at hO hR
      have HR := Sd.mk (Kd.R_types (t := 51) hR hO (by decide))
      have HR2 := Sd.mk (Kd.R_types (t := 51) hR HW.out.res (by decide))
      have c0 : wr.cell? ⟨w.heap.size + 2, 0, none⟩ = some (.slice A mt.length c) := (blk_cell hO 0).trans rfl
      have c1 : wr.cell? ⟨w.heap.size + 2, 1, none⟩ = some (.int .i64 b) := (blk_cell hO 1).trans rfl
      have r0 : wr.cell? ⟨w.heap.size + 1, 0, none⟩ = some (.slice none 0 0) := (blk_cell HW.out.res 0).trans rfl
      have r1 : wr.cell? ⟨w.heap.size + 1, 1, none⟩ = some (.int .i64 0) := (blk_cell HW.out.res 1).trans rfl
      have f0 := blk_frozen HW.out.res 0
      have f1 := blk_frozen HW.out.res 1
      clear hO hR hT
      go_wp2
      refine bodyPost_ret (results_cell_row rfl _ _ (w.heap.size + 1) 51 #[.slice A mt.length c, .int .i64 b] (0, 0) _ rfl (blk_put (cs := #[.slice A mt.length c, .int .i64 0]) (blk_put (cs := #[.slice none 0 0, .int .i64 0]) HW.out.res 0 _ rfl) 1 _ rfl) Try.underlying51 (by decide) (by kernel_rfl)) rfl ?_
      refine ⟨_, rfl, ?_, below_set (below_set HW.out.below (by omega)) (by omega)⟩
      exact Kd.R_mono (Kd.R_far (Kd.R_far HR2.out (fun _ hk => hk.2) _) (fun _ hk => hk.2) _) (fun _ _ => trivial)
end Go.Proofs.Ytkjkokgbhepmoaa.PB

namespace Go.Proofs.Ytkjkokgbhepmoaa.PB
open Go.RowKit Go.Proofs.YtkjkokgbhepmoaaW.PrintWords Go.Proofs.YtkjkokgbhepmoaaW.PrintLast Go.Proofs.YtkjkokgbhepmoaaW.PrintMore
attribute [local go_sem] max2_int min2_int max_two min_two
def tgOf (s : List S27) (p : List S65) (j : Nat) : S27 := if j < s.length then rd_T27 s (j : Int) else (rd_T65 p ((j - s.length : Nat) : Int)).f2
def upF (s : List S27) (p : List S65) (j : Nat) (x : S63) : Int := gTS (fun k => coefOf s p j k - (tgOf s p j).f1) x.f6 x.f6.length
def dnF (s : List S27) (p : List S65) (j : Nat) (x : S63) : Int := gTS (fun k => (tgOf s p j).f0 - coefOf s p j k) x.f6 x.f6.length
def pairL (mt : List S63) (s : List S27) (p : List S65) (j : Nat) : List S51 := [⟨mt.map (upF s p j), 0⟩, ⟨mt.map (dnF s p j), 0⟩]
def headL (mt : List S63) (s : List S27) (p : List S65) (a6 : Int) : Nat → List S51
  | 0 => [⟨mt.map (fun x => -lowM x), -1000 * a6⟩]
  | n + 1 => headL mt s p a6 n ++ pairL mt s p n
def linesV (mt : List S63) (s : List S27) (p : List S65) (a4 a5 a6 : Int) : List S51 := headL mt s p a6 (s.length + p.length) ++ [⟨mt.map (rUp a5), 0⟩, ⟨mt.map (rDn a4), 0⟩]
theorem headL_len (mt : List S63) (s : List S27) (p : List S65) (a6 : Int) : ∀ n, (headL mt s p a6 n).length = 1 + 2 * n
  | 0 => rfl
  | n + 1 => by simp only [headL, List.length_append, headL_len mt s p a6 n, pairL, List.length_cons, List.length_nil]; omega
section
variable {o : List ByteArray} {mt : List S63} {s : List S27} {p : List S65} {a4 a5 a6 : Int}
theorem mat_gok (H : BatchOk o mt s p a4 a5 a6) {i : Nat} (hi : i < mt.length) : GOk (rd_T63 mt (i : Int)).f6 := by
  have M := H.mats i hi
  refine ⟨by rw [M.len]; exact H.o12, fun j hj => ?_⟩
  have := M.con j (by rw [← M.len]; exact hj)
  omega
theorem coef_cfok (H : BatchOk o mt s p a4 a5 a6) {j : Nat} (hj : j < s.length + p.length) : CfOk (coefOf s p j) o.length := by
  refine ⟨fun i hi => ?_⟩
  unfold coefOf
  by_cases h : j < s.length
  · rw [if_pos h]; split <;> omega
  · rw [if_neg h]
    exact (H.pros (j - s.length) (by omega)).coef i hi
theorem tg_ok (H : BatchOk o mt s p a4 a5 a6) {j : Nat} (hj : j < s.length + p.length) : (-10000 ≤ (tgOf s p j).f0 ∧ (tgOf s p j).f0 ≤ 10000) ∧ -10000 ≤ (tgOf s p j).f1 ∧ (tgOf s p j).f1 ≤ 10000 := by
  unfold tgOf
  by_cases h : j < s.length
  · rw [if_pos h]
    have := H.shares j h
    omega
  · rw [if_neg h]
    have := (H.pros (j - s.length) (by omega)).target
    omega
theorem form_tg {w W : World} {j : Nat} {f : F105} (h : FormAt w W s p j f) : f.tg = tgOf s p j := by
  unfold tgOf
  by_cases hj : j < s.length
  · obtain ⟨I, e, _⟩ := h.1 hj
    rw [if_pos hj, e]
  · obtain ⟨P, A, c, e, _⟩ := h.2 (by omega)
    rw [if_neg hj, e]
theorem form_enters {w W : World} {j : Nat} {f : F105} (h : FormAt w W s p j f) : ∀ args w, (callFunc f.fn args).run Try.prog w = .ok (.enter f.fn args) w := by
  by_cases hj : j < s.length
  · obtain ⟨I, e, _⟩ := h.1 hj
    rw [e]
    exact enters_of Try.func111 (by kernel_rfl) rfl
  · obtain ⟨P, A, c, e, _⟩ := h.2 (by omega)
    rw [e]
    exact enters_of Try.func112 (by kernel_rfl) rfl
theorem facQ118 (H : BatchOk o mt s p a4 a5 a6) (w : World) : FacQ 118 #[] (fun x => -lowM x) mt w := by
  intro W hW i hi A c hC hc
  have h := l118_calls (rd_T63 mt (i : Int)) A c W hC hc (mat_gok H hi)
  simpa using h
theorem facQ_form (H : BatchOk o mt s p a4 a5 a6) {w W0 W1 : World} {j F : Nat} {f : F105} (hF : FormAt w W0 s p j f) (hj : j < s.length + p.length) (hb : Below w.heap.size w W0)
    (hFc : W1.heap[F]? = some (.cells #[.func (.func f.fn) #[] f.lb, .int .i64 f.tg.f0, .int .i64 f.tg.f1] 105 (0, 0))) (hb1 : Below W0.heap.size W0 W1) :
    FacQ 120 #[.pointer (some ⟨F, 0, none⟩)] (upF s p j) mt W1 ∧ FacQ 123 #[.pointer (some ⟨F, 0, none⟩)] (dnF s p j) mt W1 := by
  have T := tg_ok H hj
  have hco : ∀ i : Nat, i < mt.length → CoefQ f.fn f.lb (coefOf s p j) (rd_T63 mt (i : Int)).f6.length W0 ∧ CfOk (coefOf s p j) (rd_T63 mt (i : Int)).f6.length := by
    intro i hi
    have M := H.mats i hi
    refine ⟨hF.coef hb _ (fun hh => ?_), by rw [M.len]; exact coef_cfok H hj⟩
    have := (H.pros (j - s.length) (by omega)).len
    rw [M.len, this]
    exact Int.le_refl _
  constructor
  · intro W hW i hi A c hC hc
    have h := l120_calls (rd_T63 mt (i : Int)) A c F f.fn f.lb (coefOf s p j) f.tg.f0 f.tg.f1 W0 W (form_enters hF) (hco i hi).1 (below_trans' hb1 hW) (blk_below hFc hW) hC hc (mat_gok H hi) (hco i hi).2 (by rw [form_tg hF]; exact T)
    rw [form_tg hF] at h
    exact h
  · intro W hW i hi A c hC hc
    have h := l123_calls (rd_T63 mt (i : Int)) A c F f.fn f.lb (coefOf s p j) f.tg.f0 f.tg.f1 W0 W (form_enters hF) (hco i hi).1 (below_trans' hb1 hW) (blk_below hFc hW) hC hc (mat_gok H hi) (hco i hi).2 (by rw [form_tg hF]; exact T)
    rw [form_tg hF] at h
    exact h
theorem facQ125 (H : BatchOk o mt s p a4 a5 a6) {W1 : World} {U : Nat} {u : Int} (hu : -10000 ≤ u ∧ u ≤ 10000) (hU : W1.heap[U]? = some (.cells #[.int .i64 u] 3 (0, 0))) :
    FacQ 125 #[.pointer (some ⟨U, 0, none⟩)] (rUp u) mt W1 ∧ FacQ 126 #[.pointer (some ⟨U, 0, none⟩)] (rDn u) mt W1 :=
  ⟨fun W hW i hi A c hC hc => l125_calls (rd_T63 mt (i : Int)) A c U u W (blk_below hU hW) hC hc (mat_gok H hi) hu (H.mats i hi).redox,
   fun W hW i hi A c hC hc => l126_calls (rd_T63 mt (i : Int)) A c U u W (blk_below hU hW) hC hc (mat_gok H hi) hu (H.mats i hi).redox⟩
end
theorem R_litW {α : Type} (d : Kd α) (base e : Nat) {W : World} {xs : List α} {inner : List Value} {ok okp : Nat → Prop} (hrep : Reps (d.M W base okp) d.sz xs inner) (hok : ∀ k, okp k → ok k) (hfresh : ok W.heap.size) (hbase : base ≤ W.heap.size) (hm : xs.length ≤ 9223372036854775807) :
    d.R e (W.alloc (.cells inner.toArray e)) base ok (.slice (some ⟨W.heap.size, 0, none⟩) xs.length xs.length) xs := by
  refine ⟨fun k hk => ?_, inner, ?_, ?_⟩
  · have : W.heap.size = k := by simpa [Value.ownBlock] using hk
    subst this
    exact hfresh
  · have h2 := World.ownsRow_lit (base := base) (e := e) (size := d.sz) W inner.toArray xs.length hbase (by simpa [maxLen] using hm) (by simpa using hrep.1)
    simpa using h2
  · refine hrep.imp_ (fun p c hp => d.M_mono (fun k hk => ⟨hok k hk.1, fun he => ?_⟩) (Kd.M_below (d.M_bound hp) (below_alloc (Below.refl _ _) _)))
    have h3 : k = W.heap.size := by simpa [Value.ownBlock] using he
    have := hk.2.2.1
    omega
theorem R_one51 {W : World} {base : Nat} {v : Value} {x : S51} (h : (Kd.int .i64).R 3 W base (fun _ => True) v x.f0) (hbase : base ≤ W.heap.size) :
    k51.R 51 (W.alloc (.cells #[v, .int .i64 x.f1] 51)) base (fun _ => True) (.slice (some ⟨W.heap.size, 0, none⟩) 1 1) [x] := by
  have hr : Reps (k51.M W base (fun _ => True)) k51.sz [x] [v, .int .i64 x.f1] := Reps.snoc (Reps.none _ _) (k51_mkM W base _ x h) rfl
  exact R_litW k51 base 51 hr (fun _ h => h) trivial hbase (by simp)
theorem pair_reads {W : World} {base : Nat} {v3 v1 v2 : Value} {xs : List S51} {x x' : S51} (HL : k51.R 51 W base (fun _ => True) v3 xs) (hx : 0 < xs.length) (h1 : (Kd.int .i64).R 3 W base (fun _ => True) v1 x.f0) (h2 : (Kd.int .i64).R 3 W base (fun _ => True) v2 x'.f0) (hbase : base ≤ W.heap.size) :
    ReadsRow (k51.M (W.alloc (.cells #[v1, .int .i64 x.f1, v2, .int .i64 x'.f1] 51)) base (fun j => some j ≠ v3.ownBlock)) k51.sz (W.alloc (.cells #[v1, .int .i64 x.f1, v2, .int .i64 x'.f1] 51)) (some ⟨W.heap.size, 0, none⟩) 2 [x, x'] := by
  obtain ⟨g, cap, rfl, _, hlt, cells, hg⟩ := Kd.R_form HL hx
  have e : ∀ j, j ≠ g → some j ≠ (Value.slice (some ⟨g, 0, none⟩) xs.length cap).ownBlock := by
    intro j hj he
    have : g = j := by simpa [Value.ownBlock] using he.symm
    exact hj this.symm
  have r1 := Kd.R_mono (Kd.R_types (t := 51) h1 hg (by decide)) (fun j hj => e j hj.2)
  have r2 := Kd.R_mono (Kd.R_types (t := 51) h2 hg (by decide)) (fun j hj => e j hj.2)
  have hr : Reps (k51.M W base (fun j => some j ≠ (Value.slice (some ⟨g, 0, none⟩) xs.length cap).ownBlock)) k51.sz [x, x'] [v1, .int .i64 x.f1, v2, .int .i64 x'.f1] := Reps.snoc (Reps.snoc (Reps.none _ _) (k51_mkM W base _ x r1) rfl) (k51_mkM W base _ x' r2) rfl
  have r := R_litW k51 base 51 hr (fun _ h => h) (e _ (Nat.ne_of_gt hlt)) hbase (by simp)
  obtain ⟨A, c, he, _, hrd⟩ := OwnRow.reads r.2
  cases he
  exact ReadsRow.imp_ hrd (Below.refl _ _) (fun _ _ hp => k51.M_mono (fun _ hk => hk.1) hp)
theorem info51 : (Try.prog.info? 51).map (fun i => (i.zero, i.size, i.bytes)) = some (some (.agg #[.slice none 0 0, .int .i64 0]), 2, 32) := by kernel_rfl
structure LinesW (w W : World) (cs : Array Value) (xs : List S51) (v : Value) : Prop where
  below : Below w.heap.size w W
  box : W.heap[w.heap.size]? = some (.cells cs 29 (0, 0))
  list : k51.R 51 W w.heap.size (fun _ => True) v xs
theorem LinesW.later {w W W' : World} {cs : Array Value} {xs : List S51} {v : Value} (h : LinesW w W cs xs v) (hb : Below W.heap.size W W') : LinesW w W' cs xs v :=
  ⟨below_step h.below hb, blk_below h.box hb, Kd.R_below h.list hb⟩
structure FormsOk (w W : World) (s : List S27) (p : List S65) (A : Option Addr) (c : Nat) (fs : List F105) : Prop where
  row : k105.R 105 W w.heap.size (fun _ => True) (.slice A fs.length c) fs
  at_ : ∀ j (hj : j < fs.length), FormAt w W s p j fs[j]
theorem FormsOk.reads {w W : World} {s : List S27} {p : List S65} {A : Option Addr} {c : Nat} {fs : List F105} (h : FormsOk w W s p A c fs) : Kd.C k105 W A fs.length fs := by
  obtain ⟨A', c', he, _, hC⟩ := Kd.R_reads h.row
  cases he
  exact hC
theorem FormsOk.later {w W W' : World} {s : List S27} {p : List S65} {A : Option Addr} {c : Nat} {fs : List F105} (h : FormsOk w W s p A c fs) (hb : Below W.heap.size W W') : FormsOk w W' s p A c fs :=
  ⟨Kd.R_below h.row hb, fun j hj => (h.at_ j hj).below hb⟩
theorem FormsOk.grown {w W W' : World} {s : List S27} {p : List S65} {A : Option Addr} {c : Nat} {fs : List F105} {base : Nat} {v3 : Value} {xs : List S51} (h : FormsOk w W s p A c fs) (HL : k51.R 51 W base (fun _ => True) v3 xs) (hx : 0 < xs.length) (hg : W.grownBy W' v3.ownBlock) : FormsOk w W' s p A c fs := by
  refine ⟨?_, fun j hj => ⟨fun hh => ?_, fun hh => ?_⟩⟩
  · obtain ⟨g, cap, rfl, _, hlt, cells, hgb⟩ := Kd.R_form HL hx
    refine Kd.R_mono (Kd.R_grown (Kd.R_types (t := 51) h.row hgb (by decide)) hg (fun k hk he => hk.2 ?_)) (fun _ _ => trivial)
    have : g = k := by simpa [Value.ownBlock] using he.symm
    exact this.symm
  · obtain ⟨I, e, hI⟩ := (h.at_ j hj).1 hh
    exact ⟨I, e, blk_grown hI hg (Kd.R_ne HL hI (by decide))⟩
  · obtain ⟨P, A1, c1, e, hP, hC⟩ := (h.at_ j hj).2 hh
    exact ⟨P, A1, c1, e, blk_grown hP hg (Kd.R_ne HL hP (by decide)), hC⟩
def linesT : Bool × List (List Nat × List Nat) := (true, [([], []), ([], []), ([], []), ([1, 2], [1, 2]), ([], []), ([], []), ([4, 5, 3], [4, 5]), ([3, 6], [3, 6]), ([0, 7, 6], [0, 7]), ([8, 8, 0, 1, 2, 3, 4, 5, 6, 7, 8], [0, 8])])
def linesB : List Nat := [0, 0, 0, 6, 0, 0, 62, 126, 255, 511]
theorem lines_tab : rtab .any (opsOf Try.f63 5) = linesT := by kernel_rfl
theorem lines_bits : waitsOk linesT.2 linesB = true := by kernel_rfl
def lines7T : Bool × List (List Nat × List Nat) := (true, [([], []), ([0], [0]), ([1], [1]), ([], []), ([3], [3]), ([4], [4]), ([], []), ([], []), ([6, 2, 0, 1, 2, 6, 7], [2, 6]), ([7, 5, 8, 0, 1, 2, 3, 4, 5, 6, 7, 8], [5, 7])])
def lines7B : List Nat := [0, 1, 3, 0, 8, 24, 0, 0, 199, 511]
theorem lines7_tab : rtab .any (opsOf Try.f63 7) = lines7T := by kernel_rfl
theorem lines7_bits : waitsOk lines7T.2 lines7B = true := by kernel_rfl
def lines8T : Bool × List (List Nat × List Nat) := (true, [([], []), ([], []), ([], []), ([1, 2], [1, 2]), ([], []), ([], []), ([4, 5, 3], [4, 5]), ([3, 6], [3, 6]), ([0, 7, 6], [0, 7]), ([8, 8, 0, 1, 2, 3, 4, 5, 6, 7, 8], [8])])
theorem lines8_tab : rtab .any (opsOf Try.f63 8) = lines8T := by kernel_rfl
theorem lines8_bits : waitsOk lines8T.2 linesB = true := by kernel_rfl
set_option maxHeartbeats 8000000 in
set_option maxRecDepth 100000 in
theorem lines_calls (A0_0 : Option Addr) (c0_0 : Nat) (l0_0 : List ByteArray) (A0_1 : Option Addr) (c0_1 : Nat) (l0_1 : List (S63)) (A0_2 : Option Addr) (c0_2 : Nat) (l0_2 : List (S27)) (A0_3 : Option Addr) (c0_3 : Nat) (l0_3 : List (S65)) (a0_4 : Int) (a0_5 : Int) (a0_6 : Int) (w : World) (hr0_0 : Kd.C Kd.string w A0_0 l0_0.length l0_0) (hc0_0 : l0_0.length ≤ c0_0) (hr0_1 : Kd.C k63 w A0_1 l0_1.length l0_1) (hc0_1 : l0_1.length ≤ c0_1) (hr0_2 : Kd.C k27 w A0_2 l0_2.length l0_2) (hc0_2 : l0_2.length ≤ c0_2) (hr0_3 : Kd.C k65 w A0_3 l0_3.length l0_3) (hc0_3 : l0_3.length ≤ c0_3)
    (H : BatchOk l0_0 l0_1 l0_2 l0_3 a0_4 a0_5 a0_6) :
    Calls Try.prog 63 #[.agg #[.slice A0_0 l0_0.length c0_0, .slice A0_1 l0_1.length c0_1, .slice A0_2 l0_2.length c0_2, .slice A0_3 l0_3.length c0_3, .int .i64 a0_4, .int .i64 a0_5, .int .i64 a0_6]] w fun e w' => ∃ v0_ : Value, e = .returned v0_ ∧ Kd.R k51 51 w' w.heap.size (fun _ => True) v0_ (linesV l0_1 l0_2 l0_3 a0_4 a0_5 a0_6) ∧ Below w.heap.size w w' := by
  have hb0 : Below w.heap.size w (w.alloc (.cells #[.slice A0_0 l0_0.length c0_0, .slice A0_1 l0_1.length c0_1, .slice A0_2 l0_2.length c0_2, .slice A0_3 l0_3.length c0_3, .int .i64 a0_4, .int .i64 a0_5, .int .i64 a0_6] 29)) := below_alloc (Below.refl _ _) _
  have hbk := blk_new w (.cells #[.slice A0_0 l0_0.length c0_0, .slice A0_1 l0_1.length c0_1, .slice A0_2 l0_2.length c0_2, .slice A0_3 l0_3.length c0_3, .int .i64 a0_4, .int .i64 a0_5, .int .i64 a0_6] 29)
  have hgo := line_calls A0_0 A0_1 A0_2 A0_3 l0_0.length c0_0 c0_1 l0_2.length c0_2 l0_3.length c0_3 l0_1 a0_4 a0_5 a0_6 (-1000 * a0_6) 118 #[] (fun x => -lowM x) (w.alloc (.cells #[.slice A0_0 l0_0.length c0_0, .slice A0_1 l0_1.length c0_1, .slice A0_2 l0_2.length c0_2, .slice A0_3 l0_3.length c0_3, .int .i64 a0_4, .int .i64 a0_5, .int .i64 a0_6] 29)) (enters_of Try.func118 (by kernel_rfl) rfl) (facQ118 H _) (Kd.C_below hr0_1 hb0) H.m12
  have HR0 := Sd.mk hr0_0
  have HC0 := Sd.mk hc0_0
  have HR1 := Sd.mk hr0_1
  have HC1 := Sd.mk hc0_1
  have HR2 := Sd.mk hr0_2
  have HC2 := Sd.mk hc0_2
  have HR3 := Sd.mk hr0_3
  have HC3 := Sd.mk hc0_3
  have HH := Sd.mk H
  have HB := Sd.mk hb0
  have BK := Sd.mk hbk
  have hw6 := H.wanted
  obtain ⟨hw6a, hw6b⟩ := hw6
  have k0 : (w.alloc (.cells #[.slice A0_0 l0_0.length c0_0, .slice A0_1 l0_1.length c0_1, .slice A0_2 l0_2.length c0_2, .slice A0_3 l0_3.length c0_3, .int .i64 a0_4, .int .i64 a0_5, .int .i64 a0_6] 29)).cell? ⟨w.heap.size, 0, none⟩ = some (.slice A0_0 l0_0.length c0_0) := (blk_cell hbk 0).trans rfl
  have k1 : (w.alloc (.cells #[.slice A0_0 l0_0.length c0_0, .slice A0_1 l0_1.length c0_1, .slice A0_2 l0_2.length c0_2, .slice A0_3 l0_3.length c0_3, .int .i64 a0_4, .int .i64 a0_5, .int .i64 a0_6] 29)).cell? ⟨w.heap.size, 1, none⟩ = some (.slice A0_1 l0_1.length c0_1) := (blk_cell hbk 1).trans rfl
  have k2 : (w.alloc (.cells #[.slice A0_0 l0_0.length c0_0, .slice A0_1 l0_1.length c0_1, .slice A0_2 l0_2.length c0_2, .slice A0_3 l0_3.length c0_3, .int .i64 a0_4, .int .i64 a0_5, .int .i64 a0_6] 29)).cell? ⟨w.heap.size, 2, none⟩ = some (.slice A0_2 l0_2.length c0_2) := (blk_cell hbk 2).trans rfl
  have k3 : (w.alloc (.cells #[.slice A0_0 l0_0.length c0_0, .slice A0_1 l0_1.length c0_1, .slice A0_2 l0_2.length c0_2, .slice A0_3 l0_3.length c0_3, .int .i64 a0_4, .int .i64 a0_5, .int .i64 a0_6] 29)).cell? ⟨w.heap.size, 3, none⟩ = some (.slice A0_3 l0_3.length c0_3) := (blk_cell hbk 3).trans rfl
  have k4 : (w.alloc (.cells #[.slice A0_0 l0_0.length c0_0, .slice A0_1 l0_1.length c0_1, .slice A0_2 l0_2.length c0_2, .slice A0_3 l0_3.length c0_3, .int .i64 a0_4, .int .i64 a0_5, .int .i64 a0_6] 29)).cell? ⟨w.heap.size, 4, none⟩ = some (.int .i64 a0_4) := (blk_cell hbk 4).trans rfl
  have k5 : (w.alloc (.cells #[.slice A0_0 l0_0.length c0_0, .slice A0_1 l0_1.length c0_1, .slice A0_2 l0_2.length c0_2, .slice A0_3 l0_3.length c0_3, .int .i64 a0_4, .int .i64 a0_5, .int .i64 a0_6] 29)).cell? ⟨w.heap.size, 5, none⟩ = some (.int .i64 a0_5) := (blk_cell hbk 5).trans rfl
  have k6 : (w.alloc (.cells #[.slice A0_0 l0_0.length c0_0, .slice A0_1 l0_1.length c0_1, .slice A0_2 l0_2.length c0_2, .slice A0_3 l0_3.length c0_3, .int .i64 a0_4, .int .i64 a0_5, .int .i64 a0_6] 29)).cell? ⟨w.heap.size, 6, none⟩ = some (.int .i64 a0_6) := (blk_cell hbk 6).trans rfl
  have k6' : (w.alloc (.cells #[.slice A0_0 l0_0.length c0_0, .slice A0_1 l0_1.length c0_1, .slice A0_2 l0_2.length c0_2, .slice A0_3 l0_3.length c0_3, .int .i64 a0_4, .int .i64 a0_5, .int .i64 a0_6] 29)).cell? ⟨w.heap.size, 0 + 6, none⟩ = some (.int .i64 a0_6) := (blk_cell hbk 6).trans rfl
  clear hr0_0 hc0_0 hr0_1 hc0_1 hr0_2 hc0_2 hr0_3 hc0_3 H hb0 hbk
  go_enter Try.func63, Try.ntmps63
  go_wp2_with fail
  clear k0 k1 k2 k3 k4 k5 k6 k6' hw6a hw6b
  generalize w.alloc (.cells #[.slice A0_0 l0_0.length c0_0, .slice A0_1 l0_1.length c0_1, .slice A0_2 l0_2.length c0_2, .slice A0_3 l0_3.length c0_3, .int .i64 a0_4, .int .i64 a0_5, .int .i64 a0_6] 29) = w0 at *
  refine hgo.mono ?_
  clear hgo
  rintro e w1 ⟨v, rfl, hR, hb⟩
  have hlw : LinesW w (w1.alloc (.cells #[v, .int .i64 (-1000 * a0_6)] 51)) #[.slice A0_0 l0_0.length c0_0, .slice A0_1 l0_1.length c0_1, .slice A0_2 l0_2.length c0_2, .slice A0_3 l0_3.length c0_3, .int .i64 a0_4, .int .i64 a0_5, .int .i64 a0_6] (headL l0_1 l0_2 l0_3 a0_6 0) (.slice (some ⟨w1.heap.size, 0, none⟩) 1 1) :=
    ⟨below_alloc (below_step HB.out hb) _, blk_alloc (blk_below BK.out hb) _, R_one51 (x := ⟨List.map (fun x => -lowM x) l0_1, -1000 * a0_6⟩) (Kd.R_lower hR (below_size HB.out)) (below_size (below_step HB.out hb))⟩
  have HLW := Sd.mk hlw
  have hbA : Below w.heap.size w (w1.alloc (.cells #[v, .int .i64 (-1000 * a0_6)] 51)) := hlw.below
  have H := HH.out
  have hsz : (l0_2.length + l0_3.length + 1) * 24 ≤ 140737488355328 := Nat.le_trans (Nat.mul_le_mul_right 24 (show l0_2.length + l0_3.length + 1 ≤ 19 by have := H.slen; have := H.o12; have := H.p6; omega)) (by decide)
  have hgo := forms_calls A0_0 c0_0 l0_0 A0_1 c0_1 l0_1 A0_2 c0_2 l0_2 A0_3 c0_3 l0_3 a0_4 a0_5 a0_6 w (w1.alloc (.cells #[v, .int .i64 (-1000 * a0_6)] 51)) hbA (Kd.C_below HR0.out hbA) HC0.out (Kd.C_below HR1.out hbA) HC1.out (Kd.C_below HR2.out hbA) HC2.out HR3.out HC3.out hsz
  have k0 : (w1.alloc (.cells #[v, .int .i64 (-1000 * a0_6)] 51)).cell? ⟨w.heap.size, 0, none⟩ = some (.slice A0_0 l0_0.length c0_0) := (blk_cell hlw.box 0).trans rfl
  have k1 : (w1.alloc (.cells #[v, .int .i64 (-1000 * a0_6)] 51)).cell? ⟨w.heap.size, 1, none⟩ = some (.slice A0_1 l0_1.length c0_1) := (blk_cell hlw.box 1).trans rfl
  have k2 : (w1.alloc (.cells #[v, .int .i64 (-1000 * a0_6)] 51)).cell? ⟨w.heap.size, 2, none⟩ = some (.slice A0_2 l0_2.length c0_2) := (blk_cell hlw.box 2).trans rfl
  have k3 : (w1.alloc (.cells #[v, .int .i64 (-1000 * a0_6)] 51)).cell? ⟨w.heap.size, 3, none⟩ = some (.slice A0_3 l0_3.length c0_3) := (blk_cell hlw.box 3).trans rfl
  have k4 : (w1.alloc (.cells #[v, .int .i64 (-1000 * a0_6)] 51)).cell? ⟨w.heap.size, 4, none⟩ = some (.int .i64 a0_4) := (blk_cell hlw.box 4).trans rfl
  have k5 : (w1.alloc (.cells #[v, .int .i64 (-1000 * a0_6)] 51)).cell? ⟨w.heap.size, 5, none⟩ = some (.int .i64 a0_5) := (blk_cell hlw.box 5).trans rfl
  have k6 : (w1.alloc (.cells #[v, .int .i64 (-1000 * a0_6)] 51)).cell? ⟨w.heap.size, 6, none⟩ = some (.int .i64 a0_6) := (blk_cell hlw.box 6).trans rfl
  clear hlw hbA H hsz hR hb HB BK
  go_wp2_with fail
  clear k0 k1 k2 k3 k4 k5 k6
  generalize w1.alloc (.cells #[v, .int .i64 (-1000 * a0_6)] 51) = wA at *
  refine hgo.mono ?_
  clear hgo
  rintro e w2 ⟨Af, cf, fs, rfl, hfc, hfC, hfl, hF, hb2, hfR⟩
  have HLW2 := Sd.mk (HLW.out.later hb2)
  have HFO := Sd.mk (FormsOk.mk (Kd.R_lower hfR (below_size HLW.out.below)) hF)
  have HFL := Sd.mk hfl
  have hfz : (fs.length : Int) < 9223372036854775807 := by have H := HH.out; have := H.slen; have := H.o12; have := H.p6; omega
  have HFZ := Sd.mk hfz
  clear HLW hb2 hfC hfl hF hfR
  go_wp2
  clear hfc hfz
  go_loopg [3, 17] fs.length (fun gq v3 v17 wr => ∃ k : Nat, v17 = .int .i64 k ∧ k ≤ fs.length ∧ fs.length - k ≤ gq ∧ Sd (LinesW w wr #[.slice A0_0 l0_0.length c0_0, .slice A0_1 l0_1.length c0_1, .slice A0_2 l0_2.length c0_2, .slice A0_3 l0_3.length c0_3, .int .i64 a0_4, .int .i64 a0_5, .int .i64 a0_6] (headL l0_1 l0_2 l0_3 a0_6 k) v3) ∧ Sd (FormsOk w wr l0_2 l0_3 Af cf fs))
  case atStart => exact ⟨0, rfl, Nat.zero_le _, by omega, HLW2, HFO⟩
  case round =>
    clear HLW2 HFO
    obtain ⟨k, rfl, hk, hgk, HW, HFO⟩ := hrel
    have hfz := HFZ.out
    by_cases hlt : k < fs.length
    · have hltz : (k : Int) < (fs.length : Int) := by omega
      obtain ⟨ad, rfl, hx0, hx1, hx2⟩ := at_T105 HFO.out.reads k hlt
      have HFK := Sd.mk (HFO.out.at_ k hlt)
      generalize hff : fs[k] = f at *
      clear hff
      have HLX := Sd.mk (HW.out.later (below_alloc (Below.refl _ _) (.cells #[.func (.func f.fn) #[] f.lb, .int .i64 f.tg.f0, .int .i64 f.tg.f1] 105)))
      have BF := Sd.mk (blk_new wr (.cells #[.func (.func f.fn) #[] f.lb, .int .i64 f.tg.f0, .int .i64 f.tg.f1] 105))
      have H := HH.out
      have hkl : k < l0_2.length + l0_3.length := by have := HFL.out; omega
      have hfq := facQ_form H (F := wr.heap.size) (W1 := wr.alloc (.cells #[.func (.func f.fn) #[] f.lb, .int .i64 f.tg.f0, .int .i64 f.tg.f1] 105)) HFK.out hkl HW.out.below (blk_new wr (.cells #[.func (.func f.fn) #[] f.lb, .int .i64 f.tg.f0, .int .i64 f.tg.f1] 105)) (below_alloc (Below.refl _ _) _)
      have HQ := Sd.mk hfq
      have HFY := Sd.mk (HFO.out.later (below_alloc (Below.refl _ _) (.cells #[.func (.func f.fn) #[] f.lb, .int .i64 f.tg.f0, .int .i64 f.tg.f1] 105)))
      have HKL := Sd.mk hkl
      have HK := Sd.mk hgk
      have HLT := Sd.mk hlt
      have HM12 := Sd.mk H.m12
      clear HW HFO H hkl hfq hgk hlt
      go_upto_region 5 with (fail)
      clear hx0 hx1 hx2
      generalize wr.alloc (.cells #[.func (.func f.fn) #[] f.lb, .int .i64 f.tg.f0, .int .i64 f.tg.f1] 105) = WX at *
      generalize hXX : wr.heap.size = X at *
      clear hXX
      have HB := Sd.mk HLX.out.below
      have BK := Sd.mk HLX.out.box
      have HL := Sd.mk HLX.out.list
      have HBZ := Sd.mk (Below.refl WX.heap.size WX)
      clear HLX BF
      refine start_ (n := 10) (S := fun w' => w'.cell? ⟨w.heap.size, 0, none⟩ = some (.slice A0_0 l0_0.length c0_0) ∧ w'.cell? ⟨w.heap.size, 1, none⟩ = some (.slice A0_1 l0_1.length c0_1) ∧ w'.cell? ⟨w.heap.size, 2, none⟩ = some (.slice A0_2 l0_2.length c0_2) ∧ w'.cell? ⟨w.heap.size, 3, none⟩ = some (.slice A0_3 l0_3.length c0_3) ∧ w'.cell? ⟨w.heap.size, 4, none⟩ = some (.int .i64 a0_4) ∧ w'.cell? ⟨w.heap.size, 5, none⟩ = some (.int .i64 a0_5) ∧ w'.cell? ⟨w.heap.size, 6, none⟩ = some (.int .i64 a0_6)) (ds := []) #[false, false, false, false, false, false, false, false, false, false] (by kernel_rfl) rfl rfl ⟨(blk_cell BK.out 0).trans rfl, (blk_cell BK.out 1).trans rfl, (blk_cell BK.out 2).trans rfl, (blk_cell BK.out 3).trans rfl, (blk_cell BK.out 4).trans rfl, (blk_cell BK.out 5).trans rfl, (blk_cell BK.out 6).trans rfl⟩ (fun hHeld => ?_); refine with_tabW lines_tab lines_bits (fun HT_ HW_ => ?_)
      replace BK := Sd.mk (blk_drew BK.out)
      replace HL := Sd.mk (Kd.R_drew HL.out)
      replace HB := Sd.mk (below_drew1 HB.out)
      replace HBZ := Sd.mk (below_drew1 HBZ.out)
      replace HFY := Sd.mk (HFY.out.later (below_drew1 (Below.refl WX.heap.size WX)))
      generalize WX.drew = W0 at BK HL HB HBZ HFY hHeld ⊢
      refine pure_ (i := 0) (N := some 21) (v := ?_) (a' := ?_) #[true, false, false, false, false, false, false, false, false, false] rfl rfl (any_of HT_.out (by kernel_rfl)) (fun _ _ _ h => h) (Or.inl ⟨by rfl, ?_⟩) ?_ ?_
      rotate_left
      · intro w'
        go_simp
        with_reducible rfl
      rotate_left
      · simp only [Act.put, List.setIfInBounds_toArray, List.set_cons_zero, List.set_cons_succ, i64_w, i32_w]
        rfl
      refine take_ (i := 1) (N := some 22) (v := ?_) (a' := ?_) #[true, true, false, false, false, false, false, false, false, false] rfl rfl (take_ofW HT_.out HW_.out (by kernel_rfl)) (fun _ _ _ h => h) (Or.inl ⟨by rfl, ?_⟩) hHeld ?_ ?_
      rotate_left
      · rintro w' ⟨s0, s1, s2, s3, s4, s5, s6⟩
        go_simp
        with_reducible rfl
      rotate_left
      · simp only [Act.put, List.setIfInBounds_toArray, List.set_cons_zero, List.set_cons_succ, i64_w, i32_w]
        rfl
      refine pure_ (i := 2) (N := some 23) (v := ?_) (a' := ?_) #[true, true, true, false, false, false, false, false, false, false] rfl rfl (any_of HT_.out (by kernel_rfl)) (fun _ _ _ h => h) (Or.inl ⟨by rfl, ?_⟩) ?_ ?_
      rotate_left
      · intro w'
        go_simp
        with_reducible rfl
      rotate_left
      · simp only [Act.put, List.setIfInBounds_toArray, List.set_cons_zero, List.set_cons_succ, i64_w, i32_w]
        rfl
      refine take_ (i := 4) (N := some 25) (v := ?_) (a' := ?_) #[true, true, true, false, true, false, false, false, false, false] rfl rfl (take_ofW HT_.out HW_.out (by kernel_rfl)) (fun _ _ _ h => h) (Or.inl ⟨by rfl, ?_⟩) hHeld ?_ ?_
      rotate_left
      · rintro w' ⟨s0, s1, s2, s3, s4, s5, s6⟩
        go_simp
        with_reducible rfl
      rotate_left
      · simp only [Act.put, List.setIfInBounds_toArray, List.set_cons_zero, List.set_cons_succ, i64_w, i32_w]
        rfl
      refine pure_ (i := 5) (N := some 26) (v := ?_) (a' := ?_) #[true, true, true, false, true, true, false, false, false, false] rfl rfl (any_of HT_.out (by kernel_rfl)) (fun _ _ _ h => h) (Or.inl ⟨by rfl, ?_⟩) ?_ ?_
      rotate_left
      · intro w'
        go_simp
        with_reducible rfl
      rotate_left
      · simp only [Act.put, List.setIfInBounds_toArray, List.set_cons_zero, List.set_cons_succ, i64_w, i32_w]
        rfl
      refine one_ (i := 3) (N := some 24) #[true, true, true, true, true, true, false, false, false, false] rfl rfl (one_of HT_.out (by kernel_rfl)) (by decide) (fun K hK => ?_)
      refine goes_ Try.func117 (by kernel_rfl) rfl #[.agg #[.slice A0_0 l0_0.length c0_0, .slice A0_1 l0_1.length c0_1, .slice A0_2 l0_2.length c0_2, .slice A0_3 l0_3.length c0_3, .int .i64 a0_4, .int .i64 a0_5, .int .i64 a0_6], .int .i64 0, .func (.func 120) #[] #[.pointer (some ⟨X, 0, none⟩)]] (by rfl) rfl rfl (by (try simp only [List.map_toArray, List.map_cons, List.map_nil]); first | done | rfl) ?_
      refine (line_calls A0_0 A0_1 A0_2 A0_3 l0_0.length c0_0 c0_1 l0_2.length c0_2 l0_3.length c0_3 l0_1 a0_4 a0_5 a0_6 0 120 #[.pointer (some ⟨X, 0, none⟩)] (upF l0_2 l0_3 k) _ (enters_of Try.func120 (by kernel_rfl) rfl) (fun W hW => HQ.out.1 W (below_trans' HBZ.out hW)) (Kd.C_below HR1.out HB.out) HM12.out).mono ?_
      rintro e w4 ⟨v1, rfl, hR, hb⟩
      refine ⟨_, rfl, ?_⟩
      have Hv1 := Sd.mk (Kd.R_lower hR (below_size HB.out))
      replace BK := Sd.mk (blk_below BK.out hb)
      replace HL := Sd.mk (Kd.R_below HL.out hb)
      replace HBZ := Sd.mk (below_step HBZ.out hb)
      replace HFY := Sd.mk (HFY.out.later hb)
      replace HB := Sd.mk (below_step HB.out hb)
      clear hb hR
      refine hK.out _ _ ⟨(blk_cell BK.out 0).trans rfl, (blk_cell BK.out 1).trans rfl, (blk_cell BK.out 2).trans rfl, (blk_cell BK.out 3).trans rfl, (blk_cell BK.out 4).trans rfl, (blk_cell BK.out 5).trans rfl, (blk_cell BK.out 6).trans rfl⟩ (fun hHeld => ?_)
      clear hK K
      refine norm_ (a' := ?_) ?_ ?_
      rotate_left
      · show Act.put _ (some 24) _ = _
        simp only [Act.put, List.setIfInBounds_toArray, List.set_cons_zero, List.set_cons_succ, i64_w, i32_w]
        rfl
      refine one_ (i := 6) (N := some 27) #[true, true, true, true, true, true, true, false, false, false] rfl rfl (one_of HT_.out (by kernel_rfl)) (by decide) (fun K hK => ?_)
      refine goes_ Try.func117 (by kernel_rfl) rfl #[.agg #[.slice A0_0 l0_0.length c0_0, .slice A0_1 l0_1.length c0_1, .slice A0_2 l0_2.length c0_2, .slice A0_3 l0_3.length c0_3, .int .i64 a0_4, .int .i64 a0_5, .int .i64 a0_6], .int .i64 0, .func (.func 123) #[] #[.pointer (some ⟨X, 0, none⟩)]] (by rfl) rfl rfl (by (try simp only [List.map_toArray, List.map_cons, List.map_nil]); first | done | rfl) ?_
      refine (line_calls A0_0 A0_1 A0_2 A0_3 l0_0.length c0_0 c0_1 l0_2.length c0_2 l0_3.length c0_3 l0_1 a0_4 a0_5 a0_6 0 123 #[.pointer (some ⟨X, 0, none⟩)] (dnF l0_2 l0_3 k) _ (enters_of Try.func123 (by kernel_rfl) rfl) (fun W hW => HQ.out.2 W (below_trans' HBZ.out hW)) (Kd.C_below HR1.out HB.out) HM12.out).mono ?_
      rintro e w4 ⟨v2, rfl, hR, hb⟩
      refine ⟨_, rfl, ?_⟩
      have Hv2 := Sd.mk (Kd.R_lower hR (below_size HB.out))
      replace Hv1 := Sd.mk (Kd.R_below Hv1.out hb)
      replace BK := Sd.mk (blk_below BK.out hb)
      replace HL := Sd.mk (Kd.R_below HL.out hb)
      replace HBZ := Sd.mk (below_step HBZ.out hb)
      replace HFY := Sd.mk (HFY.out.later hb)
      replace HB := Sd.mk (below_step HB.out hb)
      clear hb hR
      refine hK.out _ _ ⟨(blk_cell BK.out 0).trans rfl, (blk_cell BK.out 1).trans rfl, (blk_cell BK.out 2).trans rfl, (blk_cell BK.out 3).trans rfl, (blk_cell BK.out 4).trans rfl, (blk_cell BK.out 5).trans rfl, (blk_cell BK.out 6).trans rfl⟩ (fun hHeld => ?_)
      clear hK K
      refine norm_ (a' := ?_) ?_ ?_
      rotate_left
      · show Act.put _ (some 27) _ = _
        simp only [Act.put, List.setIfInBounds_toArray, List.set_cons_zero, List.set_cons_succ, i64_w, i32_w]
        rfl
      refine one_ (i := 7) (N := some 28) #[true, true, true, true, true, true, true, true, false, false] rfl rfl (one_of HT_.out (by kernel_rfl)) (by decide) (fun K hK => ?_)
      refine value_ (w1 := ?_) (v := ?_) (by rfl) rfl ?_ ?_
      rotate_left 2
      · go_simp
        constructor
        · rfl
        · rfl
      refine hK.out _ _ ⟨(blk_cell (blk_alloc BK.out _) 0).trans rfl, (blk_cell (blk_alloc BK.out _) 1).trans rfl, (blk_cell (blk_alloc BK.out _) 2).trans rfl, (blk_cell (blk_alloc BK.out _) 3).trans rfl, (blk_cell (blk_alloc BK.out _) 4).trans rfl, (blk_cell (blk_alloc BK.out _) 5).trans rfl, (blk_cell (blk_alloc BK.out _) 6).trans rfl⟩ (fun hHeld => ?_)
      clear hK K
      refine norm_ (a' := ?_) ?_ ?_
      rotate_left
      · show Act.put _ (some 28) _ = _
        simp only [Act.put, List.setIfInBounds_toArray, List.set_cons_zero, List.set_cons_succ, i64_w, i32_w]
        rfl
      refine one_ (i := 8) (N := some 29) #[true, true, true, true, true, true, true, true, true, false] rfl rfl (one_of HT_.out (by kernel_rfl)) (by decide) (fun K hK => ?_)
      refine Kd.R_append_rows_step k51 (w0 := w) w.heap.size (by rfl) (.tmp 21) (.tmp 28) 46 51 (.agg #[.slice none 0 0, .int .i64 0]) 32 rfl Try.underlying46 info51 rfl (by decide) (by omega) u3 (headL l0_1 l0_2 l0_3 a0_6 k) (pairL l0_1 l0_2 l0_3 k) (some ⟨_, 0, none⟩) 2 2 (fun _ => True) (fun j => some j ≠ u3.ownBlock) rfl rfl (Kd.R_alloc HL.out _) (pair_reads HL.out (by rw [headL_len]; omega) Hv1.out Hv2.out (below_size HB.out)) (fun _ _ hp => hp) (fun _ hk => ⟨trivial, hk⟩) (fun _ _ => trivial) (below_alloc HB.out _) ?aS ?aL ?_
      (case aS => exact below_size (below_alloc HB.out _))
      (case aL => exact (by rw [headL_len]; exact Nat.le_trans (Nat.mul_le_mul_right 32 (show 1 + 2 * k + 2 ≤ 100 by have := HKL.out; have H := HH.out; have := H.slen; have := H.o12; have := H.p6; omega)) (by decide)))
      intro v5 w5 ho hb hg hat
      have BK2 := Sd.mk (blk_grown (blk_alloc BK.out _) hg (Kd.R_ne HL.out BK.out (by decide)))
      have HLW := Sd.mk (LinesW.mk hb BK2.out ho)
      have HFX := Sd.mk ((HFY.out.later (below_alloc (Below.refl _ _) _)).grown (Kd.R_alloc HL.out _) (by rw [headL_len]; omega) hg)
      clear BK HL HB Hv1 Hv2 HFY hb ho hat hg
      refine hK.out _ _ ⟨(blk_cell BK2.out 0).trans rfl, (blk_cell BK2.out 1).trans rfl, (blk_cell BK2.out 2).trans rfl, (blk_cell BK2.out 3).trans rfl, (blk_cell BK2.out 4).trans rfl, (blk_cell BK2.out 5).trans rfl, (blk_cell BK2.out 6).trans rfl⟩ (fun hHeld => ?_)
      clear hK K
      refine norm_ (a' := ?_) ?_ ?_
      rotate_left
      · show Act.put _ (some 29) _ = _
        simp only [Act.put, List.setIfInBounds_toArray, List.set_cons_zero, List.set_cons_succ, i64_w, i32_w]
        rfl
      refine pure_ (i := 9) (N := some 3) (v := ?_) (a' := ?_) #[true, true, true, true, true, true, true, true, true, true] rfl rfl (any_of HT_.out (by kernel_rfl)) (fun _ _ _ h => h) (Or.inl ⟨by rfl, ?_⟩) ?_ ?_
      rotate_left
      · intro w'
        go_simp
        with_reducible rfl
      rotate_left
      · simp only [Act.put, List.setIfInBounds_toArray, List.set_cons_zero, List.set_cons_succ, i64_w, i32_w]
        rfl
      refine done_ (done_of HT_.out (by kernel_rfl)) ?_
      have hfz := HFZ.out
      have hlt := HLT.out
      have hgk := HK.out
      go_wp2
      go_roundg (fs.length - (k + 1))
      case measure => omega
      case rel => exact ⟨k + 1, by first | rfl | (rw [wrap_id (by omega) (by omega)]; rfl), by omega, by omega, HLW, HFX⟩
    · have H := HH.out
      have hkn : k = l0_2.length + l0_3.length := by have := HFL.out; omega
      have hltz : ¬ (k : Int) < (fs.length : Int) := by omega
      have HB := Sd.mk HW.out.below
      have BK := Sd.mk HW.out.box
      have HL := Sd.mk HW.out.list
      have HM12 := Sd.mk H.m12
      have HRX := Sd.mk H.redox
      have HKN := Sd.mk hkn
      have HSZ := Sd.mk (show 1 + 2 * k + 2 ≤ 100 by have := H.slen; have := H.o12; have := H.p6; omega)
      clear HW HFO H hkn hgk
      go_upto_region 7 with (fail)
      refine start_ (n := 10) (S := fun w' => w'.cell? ⟨w.heap.size, 0, none⟩ = some (.slice A0_0 l0_0.length c0_0) ∧ w'.cell? ⟨w.heap.size, 1, none⟩ = some (.slice A0_1 l0_1.length c0_1) ∧ w'.cell? ⟨w.heap.size, 2, none⟩ = some (.slice A0_2 l0_2.length c0_2) ∧ w'.cell? ⟨w.heap.size, 3, none⟩ = some (.slice A0_3 l0_3.length c0_3) ∧ w'.cell? ⟨w.heap.size, 4, none⟩ = some (.int .i64 a0_4) ∧ w'.cell? ⟨w.heap.size, 5, none⟩ = some (.int .i64 a0_5) ∧ w'.cell? ⟨w.heap.size, 6, none⟩ = some (.int .i64 a0_6)) (ds := []) #[false, false, false, false, false, false, false, false, false, false] (by kernel_rfl) rfl rfl ⟨(blk_cell BK.out 0).trans rfl, (blk_cell BK.out 1).trans rfl, (blk_cell BK.out 2).trans rfl, (blk_cell BK.out 3).trans rfl, (blk_cell BK.out 4).trans rfl, (blk_cell BK.out 5).trans rfl, (blk_cell BK.out 6).trans rfl⟩ (fun hHeld => ?_); refine with_tabW lines7_tab lines7_bits (fun HT_ HW_ => ?_)
      replace BK := Sd.mk (blk_drew BK.out)
      replace HL := Sd.mk (Kd.R_drew HL.out)
      replace HB := Sd.mk (below_drew1 HB.out)
      generalize wr.drew = W0 at BK HL HB hHeld ⊢
      refine pure_ (i := 0) (N := some 31) (v := ?_) (a' := ?_) #[true, false, false, false, false, false, false, false, false, false] rfl rfl (any_of HT_.out (by kernel_rfl)) (fun _ _ _ h => h) (Or.inl ⟨by rfl, ?_⟩) ?_ ?_
      rotate_left
      · intro w'
        go_simp
        with_reducible rfl
      rotate_left
      · simp only [Act.put, List.setIfInBounds_toArray, List.set_cons_zero, List.set_cons_succ, i64_w, i32_w]
        rfl
      refine pure_ (i := 1) (N := some 32) (v := ?_) (a' := ?_) #[true, true, false, false, false, false, false, false, false, false] rfl rfl (any_of HT_.out (by kernel_rfl)) (fun _ _ _ h => h) (Or.inl ⟨by rfl, ?_⟩) ?_ ?_
      rotate_left
      · intro w'
        go_simp
        with_reducible rfl
      rotate_left
      · simp only [Act.put, List.setIfInBounds_toArray, List.set_cons_zero, List.set_cons_succ, i64_w, i32_w]
        rfl
      refine take_ (i := 2) (N := some 33) (v := ?_) (a' := ?_) #[true, true, true, false, false, false, false, false, false, false] rfl rfl (take_ofW HT_.out HW_.out (by kernel_rfl)) (fun _ _ _ h => h) (Or.inl ⟨by rfl, ?_⟩) hHeld ?_ ?_
      rotate_left
      · rintro w' ⟨s0, s1, s2, s3, s4, s5, s6⟩
        go_simp
        with_reducible rfl
      rotate_left
      · simp only [Act.put, List.setIfInBounds_toArray, List.set_cons_zero, List.set_cons_succ, i64_w, i32_w]
        rfl
      refine pure_ (i := 3) (N := some 34) (v := ?_) (a' := ?_) #[true, true, true, true, false, false, false, false, false, false] rfl rfl (any_of HT_.out (by kernel_rfl)) (fun _ _ _ h => h) (Or.inl ⟨by rfl, ?_⟩) ?_ ?_
      rotate_left
      · intro w'
        go_simp
        with_reducible rfl
      rotate_left
      · simp only [Act.put, List.setIfInBounds_toArray, List.set_cons_zero, List.set_cons_succ, i64_w, i32_w]
        rfl
      refine pure_ (i := 4) (N := some 35) (v := ?_) (a' := ?_) #[true, true, true, true, true, false, false, false, false, false] rfl rfl (any_of HT_.out (by kernel_rfl)) (fun _ _ _ h => h) (Or.inl ⟨by rfl, ?_⟩) ?_ ?_
      rotate_left
      · intro w'
        go_simp
        with_reducible rfl
      rotate_left
      · simp only [Act.put, List.setIfInBounds_toArray, List.set_cons_zero, List.set_cons_succ, i64_w, i32_w]
        rfl
      refine take_ (i := 5) (N := some 36) (v := ?_) (a' := ?_) #[true, true, true, true, true, true, false, false, false, false] rfl rfl (take_ofW HT_.out HW_.out (by kernel_rfl)) (fun _ _ _ h => h) (Or.inl ⟨by rfl, ?_⟩) hHeld ?_ ?_
      rotate_left
      · rintro w' ⟨s0, s1, s2, s3, s4, s5, s6⟩
        go_simp
        with_reducible rfl
      rotate_left
      · simp only [Act.put, List.setIfInBounds_toArray, List.set_cons_zero, List.set_cons_succ, i64_w, i32_w]
        rfl
      refine join_ (σ := Nat × Nat) 2 #[true, true, true, true, true, true, true, true, false, false] (fun s_ => [(6, .pointer (some ⟨s_.1, 0, none⟩)), (7, .pointer (some ⟨s_.2, 0, none⟩))]) (fun s_ w' => (w'.cell? ⟨w.heap.size, 0, none⟩ = some (.slice A0_0 l0_0.length c0_0) ∧ w'.cell? ⟨w.heap.size, 1, none⟩ = some (.slice A0_1 l0_1.length c0_1) ∧ w'.cell? ⟨w.heap.size, 2, none⟩ = some (.slice A0_2 l0_2.length c0_2) ∧ w'.cell? ⟨w.heap.size, 3, none⟩ = some (.slice A0_3 l0_3.length c0_3) ∧ w'.cell? ⟨w.heap.size, 4, none⟩ = some (.int .i64 a0_4) ∧ w'.cell? ⟨w.heap.size, 5, none⟩ = some (.int .i64 a0_5) ∧ w'.cell? ⟨w.heap.size, 6, none⟩ = some (.int .i64 a0_6)) ∧ Below w.heap.size w w' ∧ w'.heap[w.heap.size]? = some (.cells #[.slice A0_0 l0_0.length c0_0, .slice A0_1 l0_1.length c0_1, .slice A0_2 l0_2.length c0_2, .slice A0_3 l0_3.length c0_3, .int .i64 a0_4, .int .i64 a0_5, .int .i64 a0_6] 29 (0, 0)) ∧ k51.R 51 w' w.heap.size (fun j => j ≠ s_.1 ∧ j ≠ s_.2) u3 (headL l0_1 l0_2 l0_3 a0_6 k) ∧ w'.heap[s_.1]? = some (.cells #[.int .i64 0] 3 (0, 0)) ∧ w'.heap[s_.2]? = some (.cells #[.int .i64 0] 3 (0, 0)) ∧ s_.1 ≠ s_.2 ∧ w.heap.size < s_.1 ∧ w.heap.size < s_.2) ?_ ?_
      rotate_left
      · skip
        intro hCont
        refine two_ (i := 6) (j := 7) (Ni := some 6) (Nj := some 7) #[true, true, true, true, true, true, true, false, false, false] #[true, true, true, true, true, true, false, true, false, false] rfl rfl rfl rfl (two_of HT_.out (by kernel_rfl)) (by decide) (by decide) (fun K hK => ?_) (fun K hK => ?_)
        · skip
          refine box_step ?hg (N := 6) ?hd (cs := #[.int .i64 0]) (t := 3) ?hr ?_; (case hd => rfl); (case hg => rfl); (case hr => first | (go_simp; done) | (go_simp; rfl))
          intro U6 hg6 w6 hbox6 hb6
          have BK6 := Sd.mk (blk_below BK.out hb6)
          refine hK.out _ _ ⟨(blk_cell BK6.out 0).trans rfl, (blk_cell BK6.out 1).trans rfl, (blk_cell BK6.out 2).trans rfl, (blk_cell BK6.out 3).trans rfl, (blk_cell BK6.out 4).trans rfl, (blk_cell BK6.out 5).trans rfl, (blk_cell BK6.out 6).trans rfl⟩ (fun hHeld => ?_)
          clear hK K
          refine norm_ (a' := ?_) ?_ ?_
          rotate_left
          · show Act.put _ (some 6) _ = _
            simp only [Act.put, List.setIfInBounds_toArray, List.set_cons_zero, List.set_cons_succ, i64_w, i32_w]
            rfl
          refine one_ (i := 7) (N := some 7) #[true, true, true, true, true, true, true, true, false, false] rfl rfl (one_of HT_.out (by kernel_rfl)) (by decide) (fun K hK => ?_)
          refine box_step ?hg (N := 7) ?hd (cs := #[.int .i64 0]) (t := 3) ?hr ?_; (case hd => rfl); (case hg => rfl); (case hr => first | (go_simp; done) | (go_simp; rfl))
          intro U7 hg7 w7 hbox7 hb7
          have BK7 := Sd.mk (blk_below BK6.out hb7)
          refine hK.out _ _ ⟨(blk_cell BK7.out 0).trans rfl, (blk_cell BK7.out 1).trans rfl, (blk_cell BK7.out 2).trans rfl, (blk_cell BK7.out 3).trans rfl, (blk_cell BK7.out 4).trans rfl, (blk_cell BK7.out 5).trans rfl, (blk_cell BK7.out 6).trans rfl⟩ (fun hHeld => ?_)
          clear hK K
          refine norm_ (a' := ?_) ?_ ?_
          rotate_left
          · show Act.put _ (some 7) _ = _
            simp only [Act.put, List.setIfInBounds_toArray, List.set_cons_zero, List.set_cons_succ, i64_w, i32_w]
            rfl
          have hl1 := blk_lt BK.out
          have hl2 := blk_lt hbox6
          have hokk : ∀ j, (True ∧ w.heap.size ≤ j ∧ j < W0.heap.size ∧ ∃ q, q ∈ 51 :: k51.E ∧ ∃ cells, W0.heap[j]? = some (.cells cells q (0, 0))) → j ≠ U6 ∧ j ≠ U7 := fun j hj => ⟨by have := hj.2.2.1; omega, by have := hj.2.2.1; omega⟩
          exact norm_ (by simp only [putAll, Act.put, List.setIfInBounds_toArray, List.set_cons_zero, List.set_cons_succ]) (hCont (U6, U7) _ ⟨⟨(blk_cell BK7.out 0).trans rfl, (blk_cell BK7.out 1).trans rfl, (blk_cell BK7.out 2).trans rfl, (blk_cell BK7.out 3).trans rfl, (blk_cell BK7.out 4).trans rfl, (blk_cell BK7.out 5).trans rfl, (blk_cell BK7.out 6).trans rfl⟩, below_step (below_step HB.out hb6) hb7, BK7.out, Kd.R_below (Kd.R_below (Kd.R_mono (Kd.R_bound HL.out) hokk) hb6) hb7, blk_below hbox6 hb7, hbox7, by omega, by have := hb6.size; omega, by have := hb6.size; omega⟩)
        · skip
          refine box_step ?hg (N := 7) ?hd (cs := #[.int .i64 0]) (t := 3) ?hr ?_; (case hd => rfl); (case hg => rfl); (case hr => first | (go_simp; done) | (go_simp; rfl))
          intro U7 hg7 w7 hbox7 hb7
          have BK7 := Sd.mk (blk_below BK.out hb7)
          refine hK.out _ _ ⟨(blk_cell BK7.out 0).trans rfl, (blk_cell BK7.out 1).trans rfl, (blk_cell BK7.out 2).trans rfl, (blk_cell BK7.out 3).trans rfl, (blk_cell BK7.out 4).trans rfl, (blk_cell BK7.out 5).trans rfl, (blk_cell BK7.out 6).trans rfl⟩ (fun hHeld => ?_)
          clear hK K
          refine norm_ (a' := ?_) ?_ ?_
          rotate_left
          · show Act.put _ (some 7) _ = _
            simp only [Act.put, List.setIfInBounds_toArray, List.set_cons_zero, List.set_cons_succ, i64_w, i32_w]
            rfl
          refine one_ (i := 6) (N := some 6) #[true, true, true, true, true, true, true, true, false, false] rfl rfl (one_of HT_.out (by kernel_rfl)) (by decide) (fun K hK => ?_)
          refine box_step ?hg (N := 6) ?hd (cs := #[.int .i64 0]) (t := 3) ?hr ?_; (case hd => rfl); (case hg => rfl); (case hr => first | (go_simp; done) | (go_simp; rfl))
          intro U6 hg6 w6 hbox6 hb6
          have BK6 := Sd.mk (blk_below BK7.out hb6)
          refine hK.out _ _ ⟨(blk_cell BK6.out 0).trans rfl, (blk_cell BK6.out 1).trans rfl, (blk_cell BK6.out 2).trans rfl, (blk_cell BK6.out 3).trans rfl, (blk_cell BK6.out 4).trans rfl, (blk_cell BK6.out 5).trans rfl, (blk_cell BK6.out 6).trans rfl⟩ (fun hHeld => ?_)
          clear hK K
          refine norm_ (a' := ?_) ?_ ?_
          rotate_left
          · show Act.put _ (some 6) _ = _
            simp only [Act.put, List.setIfInBounds_toArray, List.set_cons_zero, List.set_cons_succ, i64_w, i32_w]
            rfl
          have hl1 := blk_lt BK.out
          have hl2 := blk_lt hbox7
          have hokk : ∀ j, (True ∧ w.heap.size ≤ j ∧ j < W0.heap.size ∧ ∃ q, q ∈ 51 :: k51.E ∧ ∃ cells, W0.heap[j]? = some (.cells cells q (0, 0))) → j ≠ U6 ∧ j ≠ U7 := fun j hj => ⟨by have := hj.2.2.1; omega, by have := hj.2.2.1; omega⟩
          exact norm_ (by simp only [putAll, Act.put, List.setIfInBounds_toArray, List.set_cons_zero, List.set_cons_succ]) (hCont (U6, U7) _ ⟨⟨(blk_cell BK6.out 0).trans rfl, (blk_cell BK6.out 1).trans rfl, (blk_cell BK6.out 2).trans rfl, (blk_cell BK6.out 3).trans rfl, (blk_cell BK6.out 4).trans rfl, (blk_cell BK6.out 5).trans rfl, (blk_cell BK6.out 6).trans rfl⟩, below_step (below_step HB.out hb7) hb6, BK6.out, Kd.R_below (Kd.R_below (Kd.R_mono (Kd.R_bound HL.out) hokk) hb7) hb6, hbox6, blk_below hbox7 hb6, by omega, by have := hb7.size; omega, by have := hb7.size; omega⟩)
      rintro ⟨U6, U7⟩ w7 ⟨hS_, hB, hBK, hL, h6, h7, hne, hg6, hg7⟩
      dsimp only at hB hBK hL h6 h7 hne hg6 hg7
      clear HB BK HL
      refine norm_ (a' := ?_) ?_ ?_
      rotate_left
      · simp only [putAll, Act.put, List.setIfInBounds_toArray, List.set_cons_zero, List.set_cons_succ]
        rfl
      have h60 : w7.cell? ⟨U6, 0, none⟩ = some (.int .i64 0) := (blk_cell h6 0).trans rfl
      have f60 := blk_frozen h6 0
      refine one_ (i := 8) (N := none) #[true, true, true, true, true, true, true, true, true, false] rfl rfl (one_of HT_.out (by kernel_rfl)) (by decide) (fun K hK => ?_)
      refine skip_ (w1 := ?_) (by rfl) rfl ?_ ?_
      rotate_left
      · go_simp
        rfl
      have hBK8 := blk_far hBK (p := ⟨U6, 0, none⟩) (show w.heap.size ≠ U6 by omega) (.int .i64 a0_4)
      have hL8 := Kd.R_far hL (p := ⟨U6, 0, none⟩) (fun j hj => hj.1) (.int .i64 a0_4)
      have hB8 := below_set (j := 0) (v := .int .i64 a0_4) hB (show w.heap.size ≤ U6 by omega)
      have h68 := blk_put (cs := #[.int .i64 0]) h6 0 (.int .i64 a0_4) rfl
      have h78 := blk_far h7 (p := ⟨U6, 0, none⟩) (Ne.symm hne) (.int .i64 a0_4)
      refine hK.out _ _ ⟨(blk_cell hBK8 0).trans rfl, (blk_cell hBK8 1).trans rfl, (blk_cell hBK8 2).trans rfl, (blk_cell hBK8 3).trans rfl, (blk_cell hBK8 4).trans rfl, (blk_cell hBK8 5).trans rfl, (blk_cell hBK8 6).trans rfl⟩ (fun hHeld => ?_)
      clear hK K h60 f60
      have h70 : (w7.setCell ⟨U6, 0, none⟩ (.int .i64 a0_4)).cell? ⟨U7, 0, none⟩ = some (.int .i64 0) := (blk_cell h78 0).trans rfl
      have f70 := blk_frozen h78 0
      refine one_ (i := 9) (N := none) #[true, true, true, true, true, true, true, true, true, true] rfl rfl (one_of HT_.out (by kernel_rfl)) (by decide) (fun K hK => ?_)
      refine skip_ (w1 := ?_) (by rfl) rfl ?_ ?_
      rotate_left
      · go_simp
        rfl
      have BK := Sd.mk (blk_far hBK8 (p := ⟨U7, 0, none⟩) (show w.heap.size ≠ U7 by omega) (.int .i64 a0_5))
      have HL := Sd.mk (Kd.R_mono (ok' := fun _ => True) (Kd.R_far hL8 (p := ⟨U7, 0, none⟩) (fun j hj => hj.2) (.int .i64 a0_5)) (fun _ _ => trivial))
      have HB := Sd.mk (below_set (j := 0) (v := .int .i64 a0_5) hB8 (show w.heap.size ≤ U7 by omega))
      have B6 := Sd.mk (blk_far h68 (p := ⟨U7, 0, none⟩) hne (.int .i64 a0_5))
      have B7 := Sd.mk (blk_put (cs := #[.int .i64 0]) h78 0 (.int .i64 a0_5) rfl)
      refine hK.out _ _ ⟨(blk_cell BK.out 0).trans rfl, (blk_cell BK.out 1).trans rfl, (blk_cell BK.out 2).trans rfl, (blk_cell BK.out 3).trans rfl, (blk_cell BK.out 4).trans rfl, (blk_cell BK.out 5).trans rfl, (blk_cell BK.out 6).trans rfl⟩ (fun hHeld => ?_)
      clear hK K h70 f70 hBK8 hL8 hB8 h68 h78 hB hBK hL h6 h7 hne hg6 hg7 hS_
      refine done_ (done_of HT_.out (by kernel_rfl)) ?_
      go_upto_region 8 with (fail)
      generalize ((w7.setCell ⟨U6, 0, none⟩ (.int .i64 a0_4)).setCell ⟨U7, 0, none⟩ (.int .i64 a0_5)) = WX at *
      have H := HH.out
      have hr := HRX.out
      have HQ5 := Sd.mk (facQ125 H (u := a0_5) (by omega) B7.out).1
      have HQ6 := Sd.mk (facQ125 H (u := a0_4) (by omega) B6.out).2
      have HBZ := Sd.mk (Below.refl WX.heap.size WX)
      clear B6 B7 H hr
      refine start_ (n := 10) (S := fun w' => w'.cell? ⟨w.heap.size, 0, none⟩ = some (.slice A0_0 l0_0.length c0_0) ∧ w'.cell? ⟨w.heap.size, 1, none⟩ = some (.slice A0_1 l0_1.length c0_1) ∧ w'.cell? ⟨w.heap.size, 2, none⟩ = some (.slice A0_2 l0_2.length c0_2) ∧ w'.cell? ⟨w.heap.size, 3, none⟩ = some (.slice A0_3 l0_3.length c0_3) ∧ w'.cell? ⟨w.heap.size, 4, none⟩ = some (.int .i64 a0_4) ∧ w'.cell? ⟨w.heap.size, 5, none⟩ = some (.int .i64 a0_5) ∧ w'.cell? ⟨w.heap.size, 6, none⟩ = some (.int .i64 a0_6)) (ds := []) #[false, false, false, false, false, false, false, false, false, false] (by kernel_rfl) rfl rfl ⟨(blk_cell BK.out 0).trans rfl, (blk_cell BK.out 1).trans rfl, (blk_cell BK.out 2).trans rfl, (blk_cell BK.out 3).trans rfl, (blk_cell BK.out 4).trans rfl, (blk_cell BK.out 5).trans rfl, (blk_cell BK.out 6).trans rfl⟩ (fun hHeld => ?_); refine with_tabW lines8_tab lines8_bits (fun HT_ HW_ => ?_)
      replace BK := Sd.mk (blk_drew BK.out)
      replace HL := Sd.mk (Kd.R_drew HL.out)
      replace HB := Sd.mk (below_drew1 HB.out)
      replace HBZ := Sd.mk (below_drew1 HBZ.out)
      generalize WX.drew = W9 at BK HL HB HBZ hHeld ⊢
      refine pure_ (i := 0) (N := some 37) (v := ?_) (a' := ?_) #[true, false, false, false, false, false, false, false, false, false] rfl rfl (any_of HT_.out (by kernel_rfl)) (fun _ _ _ h => h) (Or.inl ⟨by rfl, ?_⟩) ?_ ?_
      rotate_left
      · intro w'
        go_simp
        with_reducible rfl
      rotate_left
      · simp only [Act.put, List.setIfInBounds_toArray, List.set_cons_zero, List.set_cons_succ, i64_w, i32_w]
        rfl
      refine take_ (i := 1) (N := some 38) (v := ?_) (a' := ?_) #[true, true, false, false, false, false, false, false, false, false] rfl rfl (take_ofW HT_.out HW_.out (by kernel_rfl)) (fun _ _ _ h => h) (Or.inl ⟨by rfl, ?_⟩) hHeld ?_ ?_
      rotate_left
      · rintro w' ⟨s0, s1, s2, s3, s4, s5, s6⟩
        go_simp
        with_reducible rfl
      rotate_left
      · simp only [Act.put, List.setIfInBounds_toArray, List.set_cons_zero, List.set_cons_succ, i64_w, i32_w]
        rfl
      refine pure_ (i := 2) (N := some 39) (v := ?_) (a' := ?_) #[true, true, true, false, false, false, false, false, false, false] rfl rfl (any_of HT_.out (by kernel_rfl)) (fun _ _ _ h => h) (Or.inl ⟨by rfl, ?_⟩) ?_ ?_
      rotate_left
      · intro w'
        go_simp
        with_reducible rfl
      rotate_left
      · simp only [Act.put, List.setIfInBounds_toArray, List.set_cons_zero, List.set_cons_succ, i64_w, i32_w]
        rfl
      refine take_ (i := 4) (N := some 41) (v := ?_) (a' := ?_) #[true, true, true, false, true, false, false, false, false, false] rfl rfl (take_ofW HT_.out HW_.out (by kernel_rfl)) (fun _ _ _ h => h) (Or.inl ⟨by rfl, ?_⟩) hHeld ?_ ?_
      rotate_left
      · rintro w' ⟨s0, s1, s2, s3, s4, s5, s6⟩
        go_simp
        with_reducible rfl
      rotate_left
      · simp only [Act.put, List.setIfInBounds_toArray, List.set_cons_zero, List.set_cons_succ, i64_w, i32_w]
        rfl
      refine pure_ (i := 5) (N := some 42) (v := ?_) (a' := ?_) #[true, true, true, false, true, true, false, false, false, false] rfl rfl (any_of HT_.out (by kernel_rfl)) (fun _ _ _ h => h) (Or.inl ⟨by rfl, ?_⟩) ?_ ?_
      rotate_left
      · intro w'
        go_simp
        with_reducible rfl
      rotate_left
      · simp only [Act.put, List.setIfInBounds_toArray, List.set_cons_zero, List.set_cons_succ, i64_w, i32_w]
        rfl
      refine one_ (i := 3) (N := some 40) #[true, true, true, true, true, true, false, false, false, false] rfl rfl (one_of HT_.out (by kernel_rfl)) (by decide) (fun K hK => ?_)
      refine goes_ Try.func117 (by kernel_rfl) rfl #[.agg #[.slice A0_0 l0_0.length c0_0, .slice A0_1 l0_1.length c0_1, .slice A0_2 l0_2.length c0_2, .slice A0_3 l0_3.length c0_3, .int .i64 a0_4, .int .i64 a0_5, .int .i64 a0_6], .int .i64 0, .func (.func 125) #[] #[.pointer (some ⟨U7, 0, none⟩)]] (by rfl) rfl rfl (by (try simp only [List.map_toArray, List.map_cons, List.map_nil]); first | done | rfl) ?_
      refine (line_calls A0_0 A0_1 A0_2 A0_3 l0_0.length c0_0 c0_1 l0_2.length c0_2 l0_3.length c0_3 l0_1 a0_4 a0_5 a0_6 0 125 #[.pointer (some ⟨U7, 0, none⟩)] (rUp a0_5) _ (enters_of Try.func125 (by kernel_rfl) rfl) (fun W hW => HQ5.out W (below_trans' HBZ.out hW)) (Kd.C_below HR1.out HB.out) HM12.out).mono ?_
      rintro e w4 ⟨v1, rfl, hR, hb⟩
      refine ⟨_, rfl, ?_⟩
      have Hv1 := Sd.mk (Kd.R_lower hR (below_size HB.out))
      replace BK := Sd.mk (blk_below BK.out hb)
      replace HL := Sd.mk (Kd.R_below HL.out hb)
      replace HBZ := Sd.mk (below_step HBZ.out hb)
      replace HB := Sd.mk (below_step HB.out hb)
      clear hb hR
      refine hK.out _ _ ⟨(blk_cell BK.out 0).trans rfl, (blk_cell BK.out 1).trans rfl, (blk_cell BK.out 2).trans rfl, (blk_cell BK.out 3).trans rfl, (blk_cell BK.out 4).trans rfl, (blk_cell BK.out 5).trans rfl, (blk_cell BK.out 6).trans rfl⟩ (fun hHeld => ?_)
      clear hK K
      refine norm_ (a' := ?_) ?_ ?_
      rotate_left
      · show Act.put _ (some 40) _ = _
        simp only [Act.put, List.setIfInBounds_toArray, List.set_cons_zero, List.set_cons_succ, i64_w, i32_w]
        rfl
      refine one_ (i := 6) (N := some 43) #[true, true, true, true, true, true, true, false, false, false] rfl rfl (one_of HT_.out (by kernel_rfl)) (by decide) (fun K hK => ?_)
      refine goes_ Try.func117 (by kernel_rfl) rfl #[.agg #[.slice A0_0 l0_0.length c0_0, .slice A0_1 l0_1.length c0_1, .slice A0_2 l0_2.length c0_2, .slice A0_3 l0_3.length c0_3, .int .i64 a0_4, .int .i64 a0_5, .int .i64 a0_6], .int .i64 0, .func (.func 126) #[] #[.pointer (some ⟨U6, 0, none⟩)]] (by rfl) rfl rfl (by (try simp only [List.map_toArray, List.map_cons, List.map_nil]); first | done | rfl) ?_
      refine (line_calls A0_0 A0_1 A0_2 A0_3 l0_0.length c0_0 c0_1 l0_2.length c0_2 l0_3.length c0_3 l0_1 a0_4 a0_5 a0_6 0 126 #[.pointer (some ⟨U6, 0, none⟩)] (rDn a0_4) _ (enters_of Try.func126 (by kernel_rfl) rfl) (fun W hW => HQ6.out W (below_trans' HBZ.out hW)) (Kd.C_below HR1.out HB.out) HM12.out).mono ?_
      rintro e w4 ⟨v2, rfl, hR, hb⟩
      refine ⟨_, rfl, ?_⟩
      have Hv2 := Sd.mk (Kd.R_lower hR (below_size HB.out))
      replace Hv1 := Sd.mk (Kd.R_below Hv1.out hb)
      replace BK := Sd.mk (blk_below BK.out hb)
      replace HL := Sd.mk (Kd.R_below HL.out hb)
      replace HBZ := Sd.mk (below_step HBZ.out hb)
      replace HB := Sd.mk (below_step HB.out hb)
      clear hb hR
      refine hK.out _ _ ⟨(blk_cell BK.out 0).trans rfl, (blk_cell BK.out 1).trans rfl, (blk_cell BK.out 2).trans rfl, (blk_cell BK.out 3).trans rfl, (blk_cell BK.out 4).trans rfl, (blk_cell BK.out 5).trans rfl, (blk_cell BK.out 6).trans rfl⟩ (fun hHeld => ?_)
      clear hK K
      refine norm_ (a' := ?_) ?_ ?_
      rotate_left
      · show Act.put _ (some 43) _ = _
        simp only [Act.put, List.setIfInBounds_toArray, List.set_cons_zero, List.set_cons_succ, i64_w, i32_w]
        rfl
      refine one_ (i := 7) (N := some 44) #[true, true, true, true, true, true, true, true, false, false] rfl rfl (one_of HT_.out (by kernel_rfl)) (by decide) (fun K hK => ?_)
      refine value_ (w1 := ?_) (v := ?_) (by rfl) rfl ?_ ?_
      rotate_left 2
      · go_simp
        constructor
        · rfl
        · rfl
      refine hK.out _ _ ⟨(blk_cell (blk_alloc BK.out _) 0).trans rfl, (blk_cell (blk_alloc BK.out _) 1).trans rfl, (blk_cell (blk_alloc BK.out _) 2).trans rfl, (blk_cell (blk_alloc BK.out _) 3).trans rfl, (blk_cell (blk_alloc BK.out _) 4).trans rfl, (blk_cell (blk_alloc BK.out _) 5).trans rfl, (blk_cell (blk_alloc BK.out _) 6).trans rfl⟩ (fun hHeld => ?_)
      clear hK K
      refine norm_ (a' := ?_) ?_ ?_
      rotate_left
      · show Act.put _ (some 44) _ = _
        simp only [Act.put, List.setIfInBounds_toArray, List.set_cons_zero, List.set_cons_succ, i64_w, i32_w]
        rfl
      refine one_ (i := 8) (N := some 45) #[true, true, true, true, true, true, true, true, true, false] rfl rfl (one_of HT_.out (by kernel_rfl)) (by decide) (fun K hK => ?_)
      refine Kd.R_append_rows_step k51 (w0 := w) w.heap.size (by rfl) (.tmp 37) (.tmp 44) 46 51 (.agg #[.slice none 0 0, .int .i64 0]) 32 rfl Try.underlying46 info51 rfl (by decide) (by omega) u3 (headL l0_1 l0_2 l0_3 a0_6 k) [⟨l0_1.map (rUp a0_5), 0⟩, ⟨l0_1.map (rDn a0_4), 0⟩] (some ⟨_, 0, none⟩) 2 2 (fun _ => True) (fun j => some j ≠ u3.ownBlock) rfl rfl (Kd.R_alloc HL.out _) (pair_reads (x := ⟨l0_1.map (rUp a0_5), 0⟩) (x' := ⟨l0_1.map (rDn a0_4), 0⟩) HL.out (by rw [headL_len]; omega) Hv1.out Hv2.out (below_size HB.out)) (fun _ _ hp => hp) (fun _ hk => ⟨trivial, hk⟩) (fun _ _ => trivial) (below_alloc HB.out _) ?aS ?aL ?_
      (case aS => exact below_size (below_alloc HB.out _))
      (case aL => exact (by rw [headL_len]; exact Nat.le_trans (Nat.mul_le_mul_right 32 HSZ.out) (by decide)))
      intro v5 w5 ho hb hg hat
      have BK2 := Sd.mk (blk_grown (blk_alloc BK.out _) hg (Kd.R_ne HL.out BK.out (by decide)))
      have HO := Sd.mk ho
      have HB2 := Sd.mk hb
      clear BK HL HB Hv1 Hv2 hb ho hat hg
      refine hK.out _ _ ⟨(blk_cell BK2.out 0).trans rfl, (blk_cell BK2.out 1).trans rfl, (blk_cell BK2.out 2).trans rfl, (blk_cell BK2.out 3).trans rfl, (blk_cell BK2.out 4).trans rfl, (blk_cell BK2.out 5).trans rfl, (blk_cell BK2.out 6).trans rfl⟩ (fun hHeld => ?_)
      clear hK K
      refine norm_ (a' := ?_) ?_ ?_
      rotate_left
      · show Act.put _ (some 45) _ = _
        simp only [Act.put, List.setIfInBounds_toArray, List.set_cons_zero, List.set_cons_succ, i64_w, i32_w]
        rfl
      refine pure_ (i := 9) (N := some 2) (v := ?_) (a' := ?_) #[true, true, true, true, true, true, true, true, true, true] rfl rfl (any_of HT_.out (by kernel_rfl)) (fun _ _ _ h => h) (Or.inl ⟨by rfl, ?_⟩) ?_ ?_
      rotate_left
      · intro w'
        go_simp
        with_reducible rfl
      rotate_left
      · simp only [Act.put, List.setIfInBounds_toArray, List.set_cons_zero, List.set_cons_succ, i64_w, i32_w]
        rfl
      refine done_ (done_of HT_.out (by kernel_rfl)) ?_
      go_wp2
      go_ret
      have hkn := HKN.out
      subst hkn
      exact ⟨v5, rfl, HO.out, HB2.out⟩
end Go.Proofs.Ytkjkokgbhepmoaa.PB

namespace Go.Proofs.Ytkjkokgbhepmoaa.PB
open Go.RowKit Go.Proofs.YtkjkokgbhepmoaaW.PrintWords Go.Proofs.YtkjkokgbhepmoaaW.PrintLast Go.Proofs.YtkjkokgbhepmoaaW.PrintMore
def x_lines.f (l0_0 : List ByteArray) (l0_1 : List (S63)) (l0_2 : List (S27)) (l0_3 : List (S65)) (a0_4 : Int) (a0_5 : Int) (a0_6 : Int) : Option (List S51) :=
  if checkV l0_0 l0_1 l0_2 l0_3 a0_4 a0_5 a0_6 = 0 then some (linesV l0_1 l0_2 l0_3 a0_4 a0_5 a0_6) else none
theorem x_lines.calls (A0_0 : Option Addr) (c0_0 : Nat) (l0_0 : List ByteArray) (A0_1 : Option Addr) (c0_1 : Nat) (l0_1 : List (S63)) (A0_2 : Option Addr) (c0_2 : Nat) (l0_2 : List (S27)) (A0_3 : Option Addr) (c0_3 : Nat) (l0_3 : List (S65)) (a0_4 : Int) (a0_5 : Int) (a0_6 : Int) (r : List S51) (w : World) (hr0_0 : Kd.C Kd.string w A0_0 l0_0.length l0_0) (hc0_0 : l0_0.length ≤ c0_0) (hr0_1 : Kd.C k63 w A0_1 l0_1.length l0_1) (hc0_1 : l0_1.length ≤ c0_1) (hr0_2 : Kd.C k27 w A0_2 l0_2.length l0_2) (hc0_2 : l0_2.length ≤ c0_2) (hr0_3 : Kd.C k65 w A0_3 l0_3.length l0_3) (hc0_3 : l0_3.length ≤ c0_3) (h : x_lines.f l0_0 l0_1 l0_2 l0_3 a0_4 a0_5 a0_6 = some r) :
    Calls Try.prog 63 #[.agg #[.slice A0_0 l0_0.length c0_0, .slice A0_1 l0_1.length c0_1, .slice A0_2 l0_2.length c0_2, .slice A0_3 l0_3.length c0_3, .int .i64 a0_4, .int .i64 a0_5, .int .i64 a0_6]] w fun e w' => ∃ v0_ : Value, e = .returned v0_ ∧ Kd.R k51 51 w' w.heap.size (fun _ => True) v0_ r ∧ Below w.heap.size w w' := by
  unfold x_lines.f at h
  by_cases hc : checkV l0_0 l0_1 l0_2 l0_3 a0_4 a0_5 a0_6 = 0
  · rw [if_pos hc] at h
    obtain rfl := Option.some.inj h
    exact lines_calls A0_0 c0_0 l0_0 A0_1 c0_1 l0_1 A0_2 c0_2 l0_2 A0_3 c0_3 l0_3 a0_4 a0_5 a0_6 w hr0_0 hc0_0 hr0_1 hc0_1 hr0_2 hc0_2 hr0_3 hc0_3 (check_ok hc)
  · rw [if_neg hc] at h; cases h
end Go.Proofs.Ytkjkokgbhepmoaa.PB

namespace Go.Proofs.Ytkjkokgbhepmoaa.PB
open Go.RowKit Go.Proofs.YtkjkokgbhepmoaaW.PrintWords Go.Proofs.YtkjkokgbhepmoaaW.PrintLast Go.Proofs.YtkjkokgbhepmoaaW.PrintMore
attribute [local go_sem] max2_int min2_int max_two min_two max_three min_three max_four min_four
end Go.Proofs.Ytkjkokgbhepmoaa.PB

namespace Go.Proofs.Ytkjkokgbhepmoaa.PB
open Go.RowKit Go.Proofs.YtkjkokgbhepmoaaW.PrintWords Go.Proofs.YtkjkokgbhepmoaaW.PrintLast Go.Proofs.YtkjkokgbhepmoaaW.PrintMore
attribute [local go_sem] max2_int min2_int max_two min_two max_three min_three max_four min_four
end Go.Proofs.Ytkjkokgbhepmoaa.PB

namespace Go.Proofs.Ytkjkokgbhepmoaa.PB
open Go.RowKit Go.Proofs.YtkjkokgbhepmoaaW.PrintWords Go.Proofs.YtkjkokgbhepmoaaW.PrintLast Go.Proofs.YtkjkokgbhepmoaaW.PrintMore
theorem rd_map (mt : List S63) (fc : S63 → Int) (j : Nat) (h : j < mt.length) : rd (mt.map fc) (j : Int) = fc (rd_T63 mt (j : Int)) := by
  simp [rd, rd_T63, List.getD, h]
section
variable {o : List ByteArray} {mt : List S63} {s : List S27} {p : List S65} {a4 a5 a6 : Int}
end
section
variable (o : List ByteArray) (mt : List S63) (s : List S27) (p : List S65) (a4 a5 a6 : Int) (r : List Int)
end
end Go.Proofs.Ytkjkokgbhepmoaa.PB

namespace Go.Proofs.Ytkjkokgbhepmoaa.PB
open Go.RowKit Go.Proofs.YtkjkokgbhepmoaaW.PrintWords Go.Proofs.YtkjkokgbhepmoaaW.PrintLast Go.Proofs.YtkjkokgbhepmoaaW.PrintMore
section
variable {o : List ByteArray} {mt : List S63} {s : List S27} {p : List S65} {a4 a5 a6 : Int}
def refForms (n : Nat) (s : List S27) (p : List S65) : List S65 := formL n s n ++ p
theorem refForms_len (H : BatchOk o mt s p a4 a5 a6) : (refForms o.length s p).length = s.length + p.length := by
  simp only [refForms, List.length_append, formL_len, H.slen]
theorem refForms_lo (H : BatchOk o mt s p a4 a5 a6) {j : Nat} (hj : j < s.length) : rd_T65 (refForms o.length s p) (j : Int) = ⟨(⟨#[]⟩ : ByteArray), (List.replicate o.length 0).set j 1000, ⟨(rd_T27 s (j : Int)).f0, (rd_T27 s (j : Int)).f1⟩⟩ := by
  have h : j < o.length := by rw [← H.slen]; exact hj
  simp [rd_T65, List.getD, refForms, formL, List.getElem?_append, h]
theorem refForms_hi (H : BatchOk o mt s p a4 a5 a6) {j : Nat} (hj : s.length ≤ j) : rd_T65 (refForms o.length s p) (j : Int) = rd_T65 p ((j - s.length : Nat) : Int) := by
  have h : ¬ j < o.length := by rw [← H.slen]; omega
  simp [rd_T65, List.getD, refForms, List.getElem?_append, formL_len, h, H.slen]
theorem refForms_tg (H : BatchOk o mt s p a4 a5 a6) {j : Nat} (hj : j < s.length + p.length) : (rd_T65 (refForms o.length s p) (j : Int)).f2 = tgOf s p j := by
  unfold tgOf
  by_cases h : j < s.length
  · rw [if_pos h, refForms_lo H h]
  · rw [if_neg h, refForms_hi H (by omega)]
theorem refForms_clen (H : BatchOk o mt s p a4 a5 a6) {j : Nat} (hj : j < s.length + p.length) : (rd_T65 (refForms o.length s p) (j : Int)).f1.length = o.length := by
  by_cases h : j < s.length
  · rw [refForms_lo H h]; simp
  · rw [refForms_hi H (by omega)]; exact (H.pros (j - s.length) (by omega)).len
theorem refForms_cf (H : BatchOk o mt s p a4 a5 a6) {j : Nat} (hj : j < s.length + p.length) {i : Nat} (hi : i < o.length) : rd (rd_T65 (refForms o.length s p) (j : Int)).f1 (i : Int) = coefOf s p j (i : Int) := by
  unfold coefOf
  by_cases h : j < s.length
  · rw [if_pos h, refForms_lo H h, unit_rd _ _ _ hi]; rfl
  · rw [if_neg h, refForms_hi H (by omega)]
theorem aboveF (H : BatchOk o mt s p a4 a5 a6) {j : Nat} (hj : j < s.length + p.length) {i : Nat} (hi : i < mt.length) :
    ∃ K, rf_above.f K (rd_T65 (refForms o.length s p) (j : Int)).f1 (rd_T63 mt (i : Int)).f6 (rd_T65 (refForms o.length s p) (j : Int)).f2.f1 = some (upF s p j (rd_T63 mt (i : Int))) := by
  have M := (H.mats i hi).len
  have T := tg_ok H hj
  have C := coef_cfok H hj
  rw [refForms_tg H hj]
  obtain ⟨K, hK⟩ := rabove_l0 (cf := coefOf s p j) (m := (tgOf s p j).f1) (mat_gok H hi) (by rw [M]; exact C) (by rw [M, refForms_clen H hj]; exact Nat.le_refl _) (fun j' hj' => refForms_cf H hj (by rw [← M]; exact hj')) (by omega) (by omega) (rd_T63 mt (i : Int)).f6.length 0 (by omega)
  refine ⟨K, (hK K (Nat.le_refl _)).trans ?_⟩
  rw [aboveS_sum]
  rfl
theorem belowF (H : BatchOk o mt s p a4 a5 a6) {j : Nat} (hj : j < s.length + p.length) {i : Nat} (hi : i < mt.length) :
    ∃ K, rf_below.f K (rd_T65 (refForms o.length s p) (j : Int)).f1 (rd_T63 mt (i : Int)).f6 (rd_T65 (refForms o.length s p) (j : Int)).f2.f0 = some (dnF s p j (rd_T63 mt (i : Int))) := by
  have M := (H.mats i hi).len
  have T := tg_ok H hj
  have C := coef_cfok H hj
  rw [refForms_tg H hj]
  obtain ⟨K, hK⟩ := rbelow_l0 (cf := coefOf s p j) (m := (tgOf s p j).f0) (mat_gok H hi) (by rw [M]; exact C) (by rw [M, refForms_clen H hj]; exact Nat.le_refl _) (fun j' hj' => refForms_cf H hj (by rw [← M]; exact hj')) (by omega) (by omega) (rd_T63 mt (i : Int)).f6.length 0 (by omega)
  refine ⟨K, (hK K (Nat.le_refl _)).trans ?_⟩
  rw [belowS_sum]
  rfl
theorem sumsF (H : BatchOk o mt s p a4 a5 a6) {i : Nat} (hi : i < mt.length) : ∃ K, rf_sums.f K (rd_T63 mt (i : Int)).f6 = some (lowM (rd_T63 mt (i : Int)), highM (rd_T63 mt (i : Int))) := by
  obtain ⟨K, hK⟩ := rsums (mat_gok H hi)
  exact ⟨K, hK K (Nat.le_refl _)⟩
theorem formsF (H : BatchOk o mt s p a4 a5 a6) : ∃ K, rf_Forms.f K o mt s p a4 a5 a6 = some (refForms o.length s p) := by
  obtain ⟨K, hK⟩ := rforms H
  exact ⟨K, hK K (Nat.le_refl _)⟩
end
structure RowAt (w W : World) (g : Nat) (b : Int) (fl : List Int) : Prop where
  ge : w.heap.size ≤ g
  row : ∃ A c, W.heap[g]? = some (.cells #[.slice A fl.length c, .int .i64 b] 51 (0, 0)) ∧ (Kd.int .i64).R 3 W w.heap.size (fun _ => True) (.slice A fl.length c) fl
theorem RowAt.below {w W W' : World} {g : Nat} {b : Int} {fl : List Int} (h : RowAt w W g b fl) (hb : Below W.heap.size W W') : RowAt w W' g b fl := by
  obtain ⟨A, c, h1, h2⟩ := h.row
  exact ⟨h.ge, A, c, blk_below h1 hb, Kd.R_below h2 hb⟩
theorem R_int_own {W : World} {base : Nat} {ok : Nat → Prop} {v : Value} {xs : List Int} (h : (Kd.int .i64).R 3 W base ok v xs) : (Kd.int .i64).R 3 W base (fun k => v.ownBlock = some k) v xs :=
  ⟨fun _ hk => hk, h.2.imp_ (fun _ _ hp => hp)⟩
structure AllW (w Wc Wf W : World) (cs : Array Value) (okN okL : Nat → Prop) (vF : Value) (forms : List S65) (v7 : Value) (xs : List S51) : Prop where
  below : Below w.heap.size w W
  size : Wf.heap.size ≤ W.heap.size
  box : W.heap[w.heap.size]? = some (.cells cs 29 (0, 0))
  forms : k65.N 65 W Wc.heap.size okN vF forms
  list : k51.R 51 W w.heap.size okL v7 xs
theorem AllW.later {w Wc Wf W W' : World} {cs : Array Value} {okN okL : Nat → Prop} {vF v7 : Value} {forms : List S65} {xs : List S51} (h : AllW w Wc Wf W cs okN okL vF forms v7 xs) (hb : Below W.heap.size W W') : AllW w Wc Wf W' cs okN okL vF forms v7 xs :=
  ⟨below_step h.below hb, Nat.le_trans h.size hb.size, blk_below h.box hb, Kd.N_below h.forms hb, Kd.R_below h.list hb⟩
theorem AllW.set {w Wc Wf W : World} {cs : Array Value} {okN okL : Nat → Prop} {vF v7 : Value} {forms : List S65} {xs : List S51} (h : AllW w Wc Wf W cs okN okL vF forms v7 xs) {g : Nat} (u : Value) (h1 : w.heap.size < g) (h2 : ∀ k, okN k → k ≠ g) (h3 : ∀ k, okL k → k ≠ g) : AllW w Wc Wf (W.setCell ⟨g, 0, none⟩ u) cs okN okL vF forms v7 xs :=
  ⟨below_set h.below (Nat.le_of_lt h1), Nat.le_trans h.size (by simp only [World.size_setCell]; exact Nat.le_refl _), blk_far (p := ⟨g, 0, none⟩) h.box (Nat.ne_of_lt h1) u, Kd.N_far (p := ⟨g, 0, none⟩) h.forms h2 u, Kd.R_far (p := ⟨g, 0, none⟩) h.list h3 u⟩
theorem AllW.grown {w Wc Wf W W' : World} {cs : Array Value} {okN okL : Nat → Prop} {vF v7 : Value} {forms : List S65} {xs : List S51} (h : AllW w Wc Wf W cs okN okL vF forms v7 xs) {row : Option Nat} (hb : Below w.heap.size w W') (hg : W.grownBy W' row) (h1 : some w.heap.size ≠ row) (h2 : ∀ k, okN k → some k ≠ row) (h3 : ∀ k, okL k → some k ≠ row) : AllW w Wc Wf W' cs okN okL vF forms v7 xs :=
  ⟨hb, Nat.le_trans h.size hg.size, blk_grown h.box hg h1, Kd.N_grown h.forms hg h2, Kd.R_grown h.list hg h3⟩
structure RowAt3 (w WB W : World) (g : Nat) (v : Value) (fl : List Int) : Prop where
  ge : WB.heap.size ≤ g
  cell : W.heap[g]? = some (.cells #[v, .int .i64 0] 51 (0, 0))
  row : (Kd.int .i64).R 3 W w.heap.size (fun k => v.ownBlock = some k) v fl
  own : ∀ k, v.ownBlock = some k → WB.heap.size ≤ k
theorem RowAt3.later {w WB W W' : World} {g : Nat} {v : Value} {fl : List Int} (h : RowAt3 w WB W g v fl) (hb : Below W.heap.size W W') : RowAt3 w WB W' g v fl :=
  ⟨h.ge, blk_below h.cell hb, Kd.R_below h.row hb, h.own⟩
theorem RowAt3.grown {w WB W W' : World} {g : Nat} {v : Value} {fl : List Int} (h : RowAt3 w WB W g v fl) {row : Option Nat} (hg : W.grownBy W' row) (h1 : some g ≠ row) (h2 : ∀ k, v.ownBlock = some k → some k ≠ row) : RowAt3 w WB W' g v fl :=
  ⟨h.ge, blk_grown h.cell hg h1, Kd.R_grown h.row hg h2, h.own⟩
theorem RowAt3.set {w WB W : World} {g : Nat} {v : Value} {fl : List Int} (h : RowAt3 w WB W g v fl) {g' : Nat} {cs : Array Value} (u : Value) (h1 : g ≠ g') (h2 : W.heap[g']? = some (.cells cs 51 (0, 0))) : RowAt3 w WB (W.setCell ⟨g', 0, none⟩ u) g v fl :=
  ⟨h.ge, blk_far (p := ⟨g', 0, none⟩) h.cell h1 u, Kd.R_mono (Kd.R_far (p := ⟨g', 0, none⟩) (Kd.R_types (t := 51) h.row h2 (by decide)) (fun _ hk => hk.2) u) (fun _ hk => hk.1), h.own⟩
end Go.Proofs.Ytkjkokgbhepmoaa.PB

namespace Go.Proofs.Ytkjkokgbhepmoaa.PB
open Go.RowKit Go.Proofs.YtkjkokgbhepmoaaW.PrintWords Go.Proofs.YtkjkokgbhepmoaaW.PrintLast Go.Proofs.YtkjkokgbhepmoaaW.PrintMore
theorem max2_mx (k k' : IntKind) (x y : Int) : Builtin.max2 (.int k x) (.int k' y) = pure (.int k (mx x y)) := max2_int k k' x y
theorem min2_mn (k k' : IntKind) (x y : Int) : Builtin.min2 (.int k x) (.int k' y) = pure (.int k (mn x y)) := min2_int k k' x y
theorem mn_in {a b l u : Int} (h1 : l ≤ a ∧ a ≤ u) (h2 : l ≤ b ∧ b ≤ u) : l ≤ mn a b ∧ mn a b ≤ u := by unfold mn; split <;> assumption
theorem mx_in {a b l u : Int} (h1 : l ≤ a ∧ a ≤ u) (h2 : l ≤ b ∧ b ≤ u) : l ≤ mx a b ∧ mx a b ≤ u := by unfold mx; split <;> assumption
attribute [local go_sem] max2_mx min2_mn max_two min_two
def allLT : Bool × List (List Nat × List Nat) := (true, [([], []), ([0], [0]), ([], []), ([], []), ([2, 3], [2, 3]), ([4], [4]), ([5], [5]), ([], []), ([7], [7]), ([], []), ([8, 9], [8, 9]), ([10], [10]), ([11], [11]), ([], []), ([], []), ([13, 14], [13, 14]), ([15], [15]), ([16], [16]), ([17], [17]), ([6, 12, 18], [6, 12, 18]), ([19], [19]), ([1, 20, 19], [1, 20]), ([0, 1, 2, 3, 4, 5, 6, 7, 8, 9, 10, 11, 12, 13, 14, 15, 16, 17, 18, 19, 20, 21], []), ([22, 21, 21, 0, 1, 2, 3, 4, 5, 6, 7, 8, 9, 10, 11, 12, 13, 14, 15, 16, 17, 18, 19, 20, 21], [21, 22])])
def allLB : List Nat := [0, 1, 0, 0, 12, 28, 60, 0, 128, 0, 896, 1920, 3968, 0, 0, 24576, 57344, 122880, 253952, 524284, 1048572, 2097151, 4194303, 8388607]
theorem allL16_tab : rtab .any (opsOf Try.f64 16) = allLT := by kernel_rfl
theorem allL17_tab : rtab .any (opsOf Try.f64 17) = allLT := by kernel_rfl
theorem allL_bits : waitsOk allLT.2 allLB = true := by kernel_rfl
theorem World.cell?_drew_ {w : World} {a : Addr} {v : Value} (h : w.cell? a = some v) : w.drew.cell? a = some v := h
theorem cellB {W W' : World} (hb : Below W.heap.size W W') {a : Addr} {v : Value} (h : W.cell? a = some v) : W'.cell? a = some v := (hb.cell (World.block_lt_of_cell? W a h)).trans h
theorem cellG {W W' : World} {row : Option Nat} (hg : W.grownBy W' row) {a : Addr} {v : Value} (h : W.cell? a = some v) (hne : some a.block ≠ row) : W'.cell? a = some v := (World.cell?_of_block (hg.block a.block (World.block_lt_of_cell? W a h) hne)).trans h
theorem addB {g k : Nat} : (Addr.add ⟨g, 0, none⟩ k).block = g := by first | rfl | (unfold Addr.add; split <;> rfl)
theorem pair_reads2 {W : World} {base : Nat} {ok : Nat → Prop} {v3 v1 v2 : Value} {xs : List S51} {x x' : S51} (HL : k51.R 51 W base ok v3 xs) (hx : 0 < xs.length) (h1 : (Kd.int .i64).R 3 W base ok v1 x.f0) (h2 : (Kd.int .i64).R 3 W base ok v2 x'.f0) (hok : ok W.heap.size) (hbase : base ≤ W.heap.size) :
    ReadsRow (k51.M (W.alloc (.cells #[v1, .int .i64 x.f1, v2, .int .i64 x'.f1] 51)) base (fun j => ok j ∧ some j ≠ v3.ownBlock)) k51.sz (W.alloc (.cells #[v1, .int .i64 x.f1, v2, .int .i64 x'.f1] 51)) (some ⟨W.heap.size, 0, none⟩) 2 [x, x'] := by
  obtain ⟨g, cap, rfl, _, hlt, cells, hg⟩ := Kd.R_form HL hx
  have e : ∀ j, j ≠ g → some j ≠ (Value.slice (some ⟨g, 0, none⟩) xs.length cap).ownBlock := by
    intro j hj he
    have : g = j := by simpa [Value.ownBlock] using he.symm
    exact hj this.symm
  have r1 := Kd.R_mono (Kd.R_types (t := 51) h1 hg (by decide)) (ok' := fun j => ok j ∧ some j ≠ (Value.slice (some ⟨g, 0, none⟩) xs.length cap).ownBlock) (fun j hj => ⟨hj.1, e j hj.2⟩)
  have r2 := Kd.R_mono (Kd.R_types (t := 51) h2 hg (by decide)) (ok' := fun j => ok j ∧ some j ≠ (Value.slice (some ⟨g, 0, none⟩) xs.length cap).ownBlock) (fun j hj => ⟨hj.1, e j hj.2⟩)
  have hr : Reps (k51.M W base (fun j => ok j ∧ some j ≠ (Value.slice (some ⟨g, 0, none⟩) xs.length cap).ownBlock)) k51.sz [x, x'] [v1, .int .i64 x.f1, v2, .int .i64 x'.f1] := Reps.snoc (Reps.snoc (Reps.none _ _) (k51_mkM W base _ x r1) rfl) (k51_mkM W base _ x' r2) rfl
  have r := R_litW k51 base 51 hr (fun _ h => h) ⟨hok, e _ (Nat.ne_of_gt hlt)⟩ hbase (by simp)
  obtain ⟨A, c, he, _, hrd⟩ := OwnRow.reads r.2
  cases he
  exact ReadsRow.imp_ hrd (Below.refl _ _) (fun _ _ hp => k51.M_mono (fun _ hk => hk.1) hp)
set_option maxHeartbeats 8000000 in
set_option maxRecDepth 100000 in
theorem allLines_calls (A0_0 : Option Addr) (c0_0 : Nat) (l0_0 : List ByteArray) (A0_1 : Option Addr) (c0_1 : Nat) (l0_1 : List (S63)) (A0_2 : Option Addr) (c0_2 : Nat) (l0_2 : List (S27)) (A0_3 : Option Addr) (c0_3 : Nat) (l0_3 : List (S65)) (a0_4 : Int) (a0_5 : Int) (a0_6 : Int) (w : World) (hr0_0 : Kd.C Kd.string w A0_0 l0_0.length l0_0) (hc0_0 : l0_0.length ≤ c0_0) (hr0_1 : Kd.C k63 w A0_1 l0_1.length l0_1) (hc0_1 : l0_1.length ≤ c0_1) (hr0_2 : Kd.C k27 w A0_2 l0_2.length l0_2) (hc0_2 : l0_2.length ≤ c0_2) (hr0_3 : Kd.C k65 w A0_3 l0_3.length l0_3) (hc0_3 : l0_3.length ≤ c0_3)
    (H : BatchOk l0_0 l0_1 l0_2 l0_3 a0_4 a0_5 a0_6) :
    Calls Try.prog 64 #[.agg #[.slice A0_0 l0_0.length c0_0, .slice A0_1 l0_1.length c0_1, .slice A0_2 l0_2.length c0_2, .slice A0_3 l0_3.length c0_3, .int .i64 a0_4, .int .i64 a0_5, .int .i64 a0_6]] w fun e w' => ∃ v0_ : Value, e = .returned v0_ ∧ Kd.R k51 51 w' w.heap.size (fun _ => True) v0_ (linesV l0_1 l0_2 l0_3 a0_4 a0_5 a0_6) ∧ Below w.heap.size w w' := by
  have hb0 : Below w.heap.size w (w.alloc (.cells #[.slice A0_0 l0_0.length c0_0, .slice A0_1 l0_1.length c0_1, .slice A0_2 l0_2.length c0_2, .slice A0_3 l0_3.length c0_3, .int .i64 a0_4, .int .i64 a0_5, .int .i64 a0_6] 29)) := below_alloc (Below.refl _ _) _
  have hbk := blk_new w (.cells #[.slice A0_0 l0_0.length c0_0, .slice A0_1 l0_1.length c0_1, .slice A0_2 l0_2.length c0_2, .slice A0_3 l0_3.length c0_3, .int .i64 a0_4, .int .i64 a0_5, .int .i64 a0_6] 29)
  have HR0 := Sd.mk hr0_0
  have HC0 := Sd.mk hc0_0
  have HR1 := Sd.mk hr0_1
  have HC1 := Sd.mk hc0_1
  have HR2 := Sd.mk hr0_2
  have HC2 := Sd.mk hc0_2
  have HR3 := Sd.mk hr0_3
  have HC3 := Sd.mk hc0_3
  have HH := Sd.mk H
  have hw6 := H.wanted
  have HM12 := Sd.mk H.m12
  obtain ⟨hw6a, hw6b⟩ := hw6
  have k6' : (w.alloc (.cells #[.slice A0_0 l0_0.length c0_0, .slice A0_1 l0_1.length c0_1, .slice A0_2 l0_2.length c0_2, .slice A0_3 l0_3.length c0_3, .int .i64 a0_4, .int .i64 a0_5, .int .i64 a0_6] 29)).cell? ⟨w.heap.size, 0 + 6, none⟩ = some (.int .i64 a0_6) := (blk_cell hbk 6).trans rfl
  have hf := blk_new (w.alloc (.cells #[.slice A0_0 l0_0.length c0_0, .slice A0_1 l0_1.length c0_1, .slice A0_2 l0_2.length c0_2, .slice A0_3 l0_3.length c0_3, .int .i64 a0_4, .int .i64 a0_5, .int .i64 a0_6] 29)) (.cells #[.slice none 0 0, .int .i64 (-1000 * a0_6)] 51)
  have HB := Sd.mk (below_alloc hb0 (.cells #[.slice none 0 0, .int .i64 (-1000 * a0_6)] 51))
  have BK := Sd.mk (blk_alloc hbk (.cells #[.slice none 0 0, .int .i64 (-1000 * a0_6)] 51))
  have HF : Sd (RowAt w ((w.alloc (.cells #[.slice A0_0 l0_0.length c0_0, .slice A0_1 l0_1.length c0_1, .slice A0_2 l0_2.length c0_2, .slice A0_3 l0_3.length c0_3, .int .i64 a0_4, .int .i64 a0_5, .int .i64 a0_6] 29)).alloc (.cells #[.slice none 0 0, .int .i64 (-1000 * a0_6)] 51)) (w.heap.size + 1) (-1000 * a0_6) (List.map (fun x => -lowM x) (l0_1.take 0))) :=
    ⟨⟨Nat.le_succ _, none, 0, by simpa using hf, Kd.R_nil _ _ _ _ _⟩⟩
  clear hr0_0 hc0_0 hr0_1 hc0_1 hr0_2 hc0_2 hr0_3 hc0_3 H hb0 hbk hf
  go_enter Try.func64, Try.ntmps64
  go_wp2
  clear k6' hw6a hw6b
  generalize (w.alloc (.cells #[.slice A0_0 l0_0.length c0_0, .slice A0_1 l0_1.length c0_1, .slice A0_2 l0_2.length c0_2, .slice A0_3 l0_3.length c0_3, .int .i64 a0_4, .int .i64 a0_5, .int .i64 a0_6] 29)).alloc (.cells #[.slice none 0 0, .int .i64 (-1000 * a0_6)] 51) = w0 at *
  go_loopg [4] l0_1.length (fun gq v4 wr => ∃ k : Nat, v4 = .int .i64 k ∧ k ≤ l0_1.length ∧ l0_1.length - k ≤ gq ∧ Sd (Below w.heap.size w wr) ∧ Sd (wr.heap[w.heap.size]? = some (.cells #[.slice A0_0 l0_0.length c0_0, .slice A0_1 l0_1.length c0_1, .slice A0_2 l0_2.length c0_2, .slice A0_3 l0_3.length c0_3, .int .i64 a0_4, .int .i64 a0_5, .int .i64 a0_6] 29 (0, 0))) ∧ Sd (RowAt w wr (w.heap.size + 1) (-1000 * a0_6) (List.map (fun x => -lowM x) (l0_1.take k))))
  case atStart => exact ⟨0, rfl, Nat.zero_le _, by omega, HB, BK, HF⟩
  case round =>
    clear HB BK HF
    obtain ⟨k, rfl, hk, hgk, HB, BK, HF⟩ := hrel
    have hm12 := HM12.out
    have kz1 : wr.cell? ⟨w.heap.size, 0 + 1, none⟩ = some (.slice A0_1 l0_1.length c0_1) := (blk_cell BK.out 1).trans rfl
    by_cases hlt : k < l0_1.length
    · have hltz : (k : Int) < (l0_1.length : Int) := by omega
      obtain ⟨ad, A6, c6, rfl, hx0, hx1, hx2, hx3, hx4, hx5, hx6, hl6, hi6⟩ := at_T63 (Kd.C_below HR1.out HB.out) (k : Int) (by omega) hltz
      simp only [Int.toNat_natCast] at hx6
      clear hx0 hx1 hx2 hx3 hx4 hx5
      obtain ⟨K, hK⟩ := sumsF HH.out hlt
      have hgo := rf_sums.calls K A6 c6 (rd_T63 l0_1 (k : Int)).f6 (lowM (rd_T63 l0_1 (k : Int))) (highM (rd_T63 l0_1 (k : Int))) wr hi6 hl6 hK
      have hlb := lowM_bound (mat_gok HH.out hlt)
      have HLB := Sd.mk hlb
      clear hK hl6 hi6 hlb
      go_wp2_with fail
      refine hgo.mono ?_
      clear hgo
      rintro e w1 ⟨rfl, ⟨nd, rfl⟩⟩
      obtain ⟨A, c, hO, hR⟩ := HF.out.row
      have hlb := HLB.out
      have hfl : (List.map (fun x => -lowM x) (l0_1.take k)).length = k := by simp; omega
      have hstep : List.map (fun x => -lowM x) (l0_1.take k) ++ [-lowM (rd_T63 l0_1 (k : Int))] = List.map (fun x => -lowM x) (l0_1.take (k + 1)) := by rw [List.take_succ_eq_append_getElem hlt, List.map_append]; simp [rd_T63, hlt]
      have HSTEP := Sd.mk hstep
      have HFL := Sd.mk hfl
      clear hstep
      have c0 : (wr.drewN nd).cell? ⟨w.heap.size + 1, 0, none⟩ = some (.slice A (List.map (fun x => -lowM x) (l0_1.take k)).length c) := (blk_cell hO 0).trans rfl
      generalize hflv : List.map (fun x => -lowM x) (l0_1.take k) = fl at *
      clear hflv
      have hlm : (fl.length + 1) * 8 ≤ 140737488355328 := by rw [HFL.out]; exact Nat.le_trans (Nat.mul_le_mul_right 8 (show k + 1 ≤ 13 by omega)) (by decide)
      have HOO := Sd.mk hO
      have HRR := Sd.mk (Kd.R_drewN hR nd)
      have HBD := Sd.mk (pw_below_drewN HB.out nd)
      have HNE := Sd.mk (Kd.R_ne hR hO (by decide))
      have HNB := Sd.mk (Kd.R_ne hR BK.out (by decide))
      clear hO hR HF hfl
      go_wp2_with ((with_reducible refine gate_builtin (b := .append) (xs := #[.tmp 41, .tmp 44]) rfl ?_); at_builtin; refine Kd.R_append (Kd.int .i64) (w0 := w) w.heap.size rfl (.tmp 41) (.tmp 44) 30 3 (.int .i64 0) 8 rfl Try.underlying30 info3 rfl (by decide) (by omega) (.slice A fl.length c) (fl) (-lowM (rd_T63 l0_1 (k : Int))) [.int .i64 (-lowM (rd_T63 l0_1 (k : Int)))] (fun _ => True) (fun _ => False) rfl rfl ?aP (fun _ hk => hk.elim) ?aF ?aO ?aB ?aS ?aL ?_; (case aP => exact rfl); (case aB => exact (by repeat (first | (with_reducible first | exact HBD.out | apply below_alloc | apply pw_below_drewN | apply below_drew1) | exact HBD.out))); (case aF => exact (fun _ _ => trivial)); (case aO => exact (by (with_reducible repeat (first | apply Kd.R_alloc | apply Kd.R_drewN | apply Kd.R_drew)); exact HRR.out)); (case aS => exact below_size (by repeat (first | (with_reducible first | exact HBD.out | apply below_alloc | apply pw_below_drewN | apply below_drew1) | exact HBD.out))); (case aL => exact hlm); intro v5 w5 ho hb hg hat; obtain ⟨A1', c1', rfl⟩ := Kd.R_slice ho; have bo := blk_grown (blk_drewN HOO.out nd) hg HNE.out; have hw0 : w5.cell? ⟨w.heap.size + 1, 0, none⟩ = some (.slice A fl.length c) := (blk_cell bo 0).trans rfl; have hwf := blk_frozen bo 0)
      have HB5 := Sd.mk (below_set (j := 0) (v := .slice A1' (fl.length + 1) c1') hb (Nat.le_succ w.heap.size))
      have BK5 := Sd.mk (blk_far (p := ⟨w.heap.size + 1, 0, none⟩) (blk_grown (blk_drewN BK.out nd) hg HNB.out) (by simp) (.slice A1' (fl.length + 1) c1'))
      have HO' := Sd.mk (Kd.R_types (t := 51) ho bo (by decide))
      have bo' := Sd.mk bo
      clear ho hb hg hat bo hw0 hwf hlm c0 kz1
      go_roundg (l0_1.length - (k + 1))
      case measure => omega
      case rel =>
        refine ⟨k + 1, by first | rfl | (rw [wrap_id (by omega) (by omega)]; rfl), by omega, by omega, HB5, BK5, ⟨?_⟩⟩
        rw [← HSTEP.out]
        refine ⟨Nat.le_succ _, A1', c1', ?_, ?_⟩
        · have h_ := blk_put (cs := #[.slice A fl.length c, .int .i64 (-1000 * a0_6)]) bo'.out 0 (.slice A1' (fl.length + 1) c1') rfl
          simpa using h_
        · have h_ := Kd.R_mono (ok' := fun _ => True) (Kd.R_far HO'.out (fun _ hk => hk.2) (.slice A1' (fl.length + 1) c1') (p := ⟨w.heap.size + 1, 0, none⟩)) (fun _ _ => trivial)
          simpa using h_
    · skip
      have hltz : ¬ (k : Int) < (l0_1.length : Int) := by omega
      obtain rfl : k = l0_1.length := by omega
      obtain ⟨A, c, hO, hR⟩ := HF.out.row
      have hT : List.map (fun x => -lowM x) (l0_1.take l0_1.length) = List.map (fun x => -lowM x) l0_1 := by rw [List.take_length]
      rw [hT] at hO hR
      have hlen : (List.map (fun x => -lowM x) l0_1).length = l0_1.length := List.length_map _
      rw [hlen] at hO hR
      have c0 : wr.cell? ⟨w.heap.size + 1, 0, none⟩ = some (.slice A l0_1.length c) := (blk_cell hO 0).trans rfl
      have c1 : wr.cell? ⟨w.heap.size + 1, 1, none⟩ = some (.int .i64 (-1000 * a0_6)) := (blk_cell hO 1).trans rfl
      have hLC := R_one51 (x := ⟨List.map (fun x => -lowM x) l0_1, -1000 * a0_6⟩) hR (below_size HB.out)
      have hbC := below_alloc HB.out (.cells #[.slice A l0_1.length c, .int .i64 (-1000 * a0_6)] 51)
      have hkC := blk_alloc BK.out (.cells #[.slice A l0_1.length c, .int .i64 (-1000 * a0_6)] 51)
      obtain ⟨K, hK⟩ := formsF HH.out
      have hs3 : Kd.V k65 65 (wr.alloc (.cells #[.slice A l0_1.length c, .int .i64 (-1000 * a0_6)] 51)) (wr.alloc (.cells #[.slice A l0_1.length c, .int .i64 (-1000 * a0_6)] 51)).heap.size (fun k_ => k_ < w.heap.size) (.slice A0_3 l0_3.length c0_3) l0_3 :=
        ⟨A0_3, c0_3, rfl, HC3.out, Kd.F_below (Kd.C_F k65_heap HR3.out) hbC⟩
      have hgo := rf_Forms.calls K A0_0 c0_0 l0_0 A0_1 c0_1 l0_1 A0_2 c0_2 l0_2 (fun k_ => k_ < w.heap.size) A0_3 c0_3 l0_3 a0_4 a0_5 a0_6 (refForms l0_0.length l0_2 l0_3) (wr.alloc (.cells #[.slice A l0_1.length c, .int .i64 (-1000 * a0_6)] 51)) (Kd.C_below HR0.out hbC) HC0.out (Kd.C_below HR1.out hbC) HC1.out (Kd.C_below HR2.out hbC) HC2.out hs3 hK
      have k0 : (wr.alloc (.cells #[.slice A l0_1.length c, .int .i64 (-1000 * a0_6)] 51)).cell? ⟨w.heap.size, 0, none⟩ = some (.slice A0_0 l0_0.length c0_0) := (blk_cell hkC 0).trans rfl
      have k1 : (wr.alloc (.cells #[.slice A l0_1.length c, .int .i64 (-1000 * a0_6)] 51)).cell? ⟨w.heap.size, 1, none⟩ = some (.slice A0_1 l0_1.length c0_1) := (blk_cell hkC 1).trans rfl
      have k2 : (wr.alloc (.cells #[.slice A l0_1.length c, .int .i64 (-1000 * a0_6)] 51)).cell? ⟨w.heap.size, 2, none⟩ = some (.slice A0_2 l0_2.length c0_2) := (blk_cell hkC 2).trans rfl
      have k3 : (wr.alloc (.cells #[.slice A l0_1.length c, .int .i64 (-1000 * a0_6)] 51)).cell? ⟨w.heap.size, 3, none⟩ = some (.slice A0_3 l0_3.length c0_3) := (blk_cell hkC 3).trans rfl
      have k4 : (wr.alloc (.cells #[.slice A l0_1.length c, .int .i64 (-1000 * a0_6)] 51)).cell? ⟨w.heap.size, 4, none⟩ = some (.int .i64 a0_4) := (blk_cell hkC 4).trans rfl
      have k5 : (wr.alloc (.cells #[.slice A l0_1.length c, .int .i64 (-1000 * a0_6)] 51)).cell? ⟨w.heap.size, 5, none⟩ = some (.int .i64 a0_5) := (blk_cell hkC 5).trans rfl
      have k6 : (wr.alloc (.cells #[.slice A l0_1.length c, .int .i64 (-1000 * a0_6)] 51)).cell? ⟨w.heap.size, 6, none⟩ = some (.int .i64 a0_6) := (blk_cell hkC 6).trans rfl
      have HLC := Sd.mk hLC
      have HBC := Sd.mk hbC
      have HKC := Sd.mk hkC
      clear hO hR hT hlen hLC hbC hkC hK hs3 HB BK HF
      go_wp2_with fail
      clear k0 k1 k2 k3 k4 k5 k6 c0 c1 kz1
      generalize (wr.alloc (.cells #[.slice A l0_1.length c, .int .i64 (-1000 * a0_6)] 51)) = Wc at *
      refine hgo.mono ?_
      clear hgo
      rintro e Wf ⟨vF, rfl, hN, hb⟩
      obtain ⟨Af, cf, rfl⟩ := Kd.N_slice hN
      have hAW : AllW w Wc Wf Wf #[.slice A0_0 l0_0.length c0_0, .slice A0_1 l0_1.length c0_1, .slice A0_2 l0_2.length c0_2, .slice A0_3 l0_3.length c0_3, .int .i64 a0_4, .int .i64 a0_5, .int .i64 a0_6] (fun j => (j < w.heap.size ∨ Wc.heap.size ≤ j) ∧ j < Wf.heap.size) (fun j => (w.heap.size ≤ j ∧ j < Wc.heap.size) ∨ Wf.heap.size ≤ j) (.slice Af (refForms l0_0.length l0_2 l0_3).length cf) (refForms l0_0.length l0_2 l0_3) (.slice (some ⟨wr.heap.size, 0, none⟩) 1 1) (headL l0_1 l0_2 l0_3 a0_6 0) :=
        ⟨below_step HBC.out hb, Nat.le_refl _, blk_below HKC.out hb, Kd.N_bound hN, Kd.R_below (Kd.R_mono (Kd.R_bound HLC.out) (fun j hj => Or.inl ⟨hj.2.1, hj.2.2.1⟩)) hb⟩
      have HAW := Sd.mk hAW
      have HBF := Sd.mk hb
      have HLF := Sd.mk (refForms_len HH.out)
      have HWC := Sd.mk (below_size HBC.out)
      have hfz : ((refForms l0_0.length l0_2 l0_3).length : Int) < 9223372036854775807 := by have H := HH.out; have := HLF.out; have := H.slen; have := H.o12; have := H.p6; omega
      have HFZ := Sd.mk hfz
      clear hAW hb hN HBC HKC HLC hfz
      generalize hfm : refForms l0_0.length l0_2 l0_3 = fm at *
      have HFM := Sd.mk hfm
      clear hfm
      go_wp2
      go_loopg [9, 7] fm.length (fun gq v9 v7 wr => ∃ j : Nat, v9 = .int .i64 j ∧ j ≤ fm.length ∧ fm.length - j ≤ gq ∧ Sd (AllW w Wc Wf wr #[.slice A0_0 l0_0.length c0_0, .slice A0_1 l0_1.length c0_1, .slice A0_2 l0_2.length c0_2, .slice A0_3 l0_3.length c0_3, .int .i64 a0_4, .int .i64 a0_5, .int .i64 a0_6] (fun j => (j < w.heap.size ∨ Wc.heap.size ≤ j) ∧ j < Wf.heap.size) (fun j => (w.heap.size ≤ j ∧ j < Wc.heap.size) ∨ Wf.heap.size ≤ j) (.slice Af fm.length cf) fm v7 (headL l0_1 l0_2 l0_3 a0_6 j)))
      case atStart => exact ⟨0, rfl, Nat.zero_le _, by omega, HAW⟩
      case round =>
        clear HAW
        obtain ⟨j, rfl, hj, hgj, HAW⟩ := hrel
        have hfz := HFZ.out
        by_cases hjt : j < fm.length
        · have hjz : (j : Int) < (fm.length : Int) := by omega
          obtain ⟨wo, rfl⟩ : ∃ wo : World, wo = wr := ⟨_, rfl⟩
          have hU2 : (wo.alloc (.cells #[.slice none 0 0, .int .i64 0] 51)).heap.size = wo.heap.size + 1 := by simp
          have hA0 : AllW w Wc Wf wo #[.slice A0_0 l0_0.length c0_0, .slice A0_1 l0_1.length c0_1, .slice A0_2 l0_2.length c0_2, .slice A0_3 l0_3.length c0_3, .int .i64 a0_4, .int .i64 a0_5, .int .i64 a0_6] (fun j => (j < w.heap.size ∨ Wc.heap.size ≤ j) ∧ j < Wf.heap.size) (fun j => ((w.heap.size ≤ j ∧ j < Wc.heap.size) ∨ Wf.heap.size ≤ j) ∧ j < wo.heap.size) (.slice Af fm.length cf) fm u7 (headL l0_1 l0_2 l0_3 a0_6 j) := by
            have h_ := HAW.out
            exact ⟨h_.below, h_.size, h_.box, h_.forms, Kd.R_mono (Kd.R_bound h_.list) (fun j hj => ⟨hj.1, hj.2.2.1⟩)⟩
          have HA := Sd.mk (hA0.later (below_alloc (below_alloc (Below.refl _ _) (.cells #[.slice none 0 0, .int .i64 0] 51)) (.cells #[.slice none 0 0, .int .i64 0] 51)))
          have HU1 : Sd (RowAt3 w wo ((wo.alloc (.cells #[.slice none 0 0, .int .i64 0] 51)).alloc (.cells #[.slice none 0 0, .int .i64 0] 51)) wo.heap.size (.slice none 0 0) (List.map (upF l0_2 l0_3 j) (l0_1.take 0))) :=
            ⟨⟨Nat.le_refl _, blk_alloc (blk_new wo _) _, R_int_own (Kd.R_nil _ _ _ _ (fun _ => True)), fun k hk => by simp [Value.ownBlock] at hk⟩⟩
          have HU2 : Sd (RowAt3 w wo ((wo.alloc (.cells #[.slice none 0 0, .int .i64 0] 51)).alloc (.cells #[.slice none 0 0, .int .i64 0] 51)) (wo.heap.size + 1) (.slice none 0 0) (List.map (dnF l0_2 l0_3 j) (l0_1.take 0))) :=
            ⟨⟨Nat.le_succ _, by have h_ := blk_new (wo.alloc (.cells #[.slice none 0 0, .int .i64 0] 51)) (.cells #[.slice none 0 0, .int .i64 0] 51); rw [hU2] at h_; exact h_, R_int_own (Kd.R_nil _ _ _ _ (fun _ => True)), fun k hk => by simp [Value.ownBlock] at hk⟩⟩
          have HDI : Sd (∀ k, (Value.slice none 0 0).ownBlock = some k → (Value.slice none 0 0).ownBlock = some k → False) := ⟨fun k hk => by simp [Value.ownBlock] at hk⟩
          have HGJ := Sd.mk hgj
          have HJT := Sd.mk hjt
          have HSO := Sd.mk hA0.size
          have HWO := Sd.mk (show w.heap.size < wo.heap.size from blk_lt hA0.box)
          clear hU2 hA0 HAW hgj
          go_wp2
          generalize (wo.alloc (.cells #[.slice none 0 0, .int .i64 0] 51)).alloc (.cells #[.slice none 0 0, .int .i64 0] 51) = w1 at *
          go_loopg [12] l0_1.length (fun gq v12 wr => ∃ i : Nat, ∃ vu vd : Value, v12 = .int .i64 i ∧ i ≤ l0_1.length ∧ l0_1.length - i ≤ gq ∧ Sd (AllW w Wc Wf wr #[.slice A0_0 l0_0.length c0_0, .slice A0_1 l0_1.length c0_1, .slice A0_2 l0_2.length c0_2, .slice A0_3 l0_3.length c0_3, .int .i64 a0_4, .int .i64 a0_5, .int .i64 a0_6] (fun j => (j < w.heap.size ∨ Wc.heap.size ≤ j) ∧ j < Wf.heap.size) (fun j => ((w.heap.size ≤ j ∧ j < Wc.heap.size) ∨ Wf.heap.size ≤ j) ∧ j < wo.heap.size) (.slice Af fm.length cf) fm u7 (headL l0_1 l0_2 l0_3 a0_6 j)) ∧ Sd (RowAt3 w wo wr wo.heap.size vu (List.map (upF l0_2 l0_3 j) (l0_1.take i))) ∧ Sd (RowAt3 w wo wr (wo.heap.size + 1) vd (List.map (dnF l0_2 l0_3 j) (l0_1.take i))) ∧ Sd (∀ k, vu.ownBlock = some k → vd.ownBlock = some k → False))
          case atStart => exact ⟨0, _, _, rfl, Nat.zero_le _, by omega, HA, HU1, HU2, HDI⟩
          case round =>
            clear HA HU1 HU2 HDI
            obtain ⟨i, vu, vd, rfl, hi, hgi, HA, HU1, HU2, HDI⟩ := hrel
            have hm12 := HM12.out
            have kz1 : wr.cell? ⟨w.heap.size, 0 + 1, none⟩ = some (.slice A0_1 l0_1.length c0_1) := (blk_cell HA.out.box 1).trans rfl
            by_cases hit : i < l0_1.length
            · have hiz : (i : Int) < (l0_1.length : Int) := by omega
              obtain ⟨adM, A6, c6, rfl, hx0, hx1, hx2, hx3, hx4, hx5, hx6, hl6, hi6⟩ := at_T63 (Kd.C_below HR1.out HA.out.below) (i : Int) (by omega) hiz
              simp only [Int.toNat_natCast] at hx6
              clear hx0 hx1 hx2 hx3 hx4 hx5
              obtain ⟨Af', cf', he, _, hCF⟩ := Kd.N_reads HA.out.forms
              cases he
              obtain ⟨adF, Ac, cc, rfl, hy0, hy1, hy2, hy3, hlc, hic⟩ := at_T65 hCF (j : Int) (by omega) hjz
              simp only [Int.toNat_natCast] at hy0 hy1 hy2 hy3
              go_upto_region 16 with (fail)
              have hbF : (adF.add (j * 4)).block < wo.heap.size := by
                obtain ⟨g_, cap_, e_, _, _, _⟩ := Kd.N_form HA.out.forms (by have := HJT.out; omega)
                have hok := HA.out.forms.1 g_ (by rw [e_]; rfl)
                injection e_ with e1_ e2_ e3_
                injection e1_ with e1_
                subst e1_
                rw [addB]
                exact Nat.lt_of_lt_of_le hok.2 HSO.out
              have hbM : (adM.add (i * 7)).block < wo.heap.size := by
                obtain ⟨ad_, A_, c_, e_, _, _, _, _, _, _, hz6, _, _⟩ := at_T63 HR1.out (i : Int) (by omega) hiz
                cases e_
                have h_ := World.block_lt_of_cell? w _ hz6
                have := HWO.out
                simp only [Int.toNat_natCast] at h_
                exact Nat.lt_trans h_ this
              have HBF := Sd.mk hbF
              have HBM := Sd.mk hbM
              clear hbF hbM
              obtain ⟨Ax, cx, rfl⟩ := Kd.R_slice HU1.out.row
              have hfl : (List.map (upF l0_2 l0_3 j) (l0_1.take i)).length = i := by simp; omega
              have HFL := Sd.mk hfl
              have HSTEP : Sd (List.map (upF l0_2 l0_3 j) (l0_1.take i) ++ [upF l0_2 l0_3 j (rd_T63 l0_1 (i : Int))] = List.map (upF l0_2 l0_3 j) (l0_1.take (i + 1))) := ⟨by rw [List.take_succ_eq_append_getElem hit, List.map_append]; simp [rd_T63, hit]⟩
              have hjl : j < l0_2.length + l0_3.length := by have := HJT.out; have := HLF.out; omega
              obtain ⟨Kf, hKf⟩ := aboveF HH.out hjl hit
              rw [HFM.out] at hKf
              have HKF := Sd.mk hKf
              have HS0 := Sd.mk (show wr.cell? ⟨wo.heap.size, 0, none⟩ = some (.slice Ax (List.map (upF l0_2 l0_3 j) (l0_1.take i)).length cx) from (blk_cell HU1.out.cell 0).trans rfl)
              have HS1 := Sd.mk (show wr.cell? ⟨w.heap.size, 1, none⟩ = some (.slice (some adM) l0_1.length c0_1) from (blk_cell HA.out.box 1).trans rfl)
              have HS2 := Sd.mk hy1
              have HS3 := Sd.mk hy2
              have HS4 := Sd.mk hy3
              have HS6 := Sd.mk hx6
              have HIC := Sd.mk hic
              have HLCC := Sd.mk hlc
              have HI6 := Sd.mk hi6
              have HL6 := Sd.mk hl6
              have HNE1 := Sd.mk (Kd.R_ne HU1.out.row HU1.out.cell (by decide))
              have HNE2 := Sd.mk (Kd.R_ne HU1.out.row HU2.out.cell (by decide))
              have HNE3 := Sd.mk (Kd.R_ne HU1.out.row HA.out.box (by decide))
              have HNEB : Sd (∀ b, b < wo.heap.size → some b ≠ (Value.slice Ax (List.map (upF l0_2 l0_3 j) (l0_1.take i)).length cx).ownBlock) := ⟨fun b hb he => Nat.not_le_of_lt hb (HU1.out.own b he.symm)⟩
              clear hfl hjl hKf hic hlc hi6 hl6 hy0 hy1 hy2 hy3 hx6
              generalize hflv : List.map (upF l0_2 l0_3 j) (l0_1.take i) = flu at *
              clear hflv
              refine start_ (n := 24) (S := fun w' => w'.cell? ⟨wo.heap.size, 0, none⟩ = some (.slice Ax flu.length cx) ∧ w'.cell? ⟨w.heap.size, 1, none⟩ = some (.slice (some adM) l0_1.length c0_1) ∧ w'.cell? ⟨(adF.add (j * 4)).block, (adF.add (j * 4)).off + 1, none⟩ = some (.slice Ac (rd_T65 fm (j : Int)).f1.length cc) ∧ w'.cell? ⟨(adF.add (j * 4)).block, (adF.add (j * 4)).off + 2, none⟩ = some (.int .i64 (rd_T65 fm (j : Int)).f2.f0) ∧ w'.cell? ⟨(adF.add (j * 4)).block, (adF.add (j * 4)).off + 3, none⟩ = some (.int .i64 (rd_T65 fm (j : Int)).f2.f1) ∧ w'.cell? ⟨(adF.add (j * 4)).block, (adF.add (j * 4)).off + 2 + 1, none⟩ = some (.int .i64 (rd_T65 fm (j : Int)).f2.f1) ∧ w'.cell? ⟨(adM.add (i * 7)).block, (adM.add (i * 7)).off + 6, none⟩ = some (.slice A6 (rd_T63 l0_1 (i : Int)).f6.length c6)) (ds := [23]) #[false, false, false, false, false, false, false, false, false, false, false, false, false, false, false, false, false, false, false, false, false, false, false, false] (by kernel_rfl) rfl rfl ⟨HS0.out, HS1.out, HS2.out, HS3.out, HS4.out, HS4.out, HS6.out⟩ (fun hHeld => ?_); refine with_tabW allL16_tab allL_bits (fun HT_ HW_ => ?_)
              replace HA := Sd.mk (HA.out.later (below_drew1 (Below.refl _ _)))
              replace HU1 := Sd.mk (HU1.out.later (below_drew1 (Below.refl _ _)))
              replace HU2 := Sd.mk (HU2.out.later (below_drew1 (Below.refl _ _)))
              replace HIC := Sd.mk (Kd.C_drew HIC.out)
              replace HI6 := Sd.mk (Kd.C_drew HI6.out)
              replace HS0 := Sd.mk (World.cell?_drew_ HS0.out)
              replace HS1 := Sd.mk (World.cell?_drew_ HS1.out)
              replace HS2 := Sd.mk (World.cell?_drew_ HS2.out)
              replace HS3 := Sd.mk (World.cell?_drew_ HS3.out)
              replace HS4 := Sd.mk (World.cell?_drew_ HS4.out)
              replace HS6 := Sd.mk (World.cell?_drew_ HS6.out)
              generalize wr.drew = W0 at HA HU1 HU2 HIC HI6 HS0 HS1 HS2 HS3 HS4 HS6 hHeld ⊢
              refine pure_ (i := 0) (N := some 64) (v := ?_) (a' := ?_) #[true, false, false, false, false, false, false, false, false, false, false, false, false, false, false, false, false, false, false, false, false, false, false, false] rfl rfl (any_of HT_.out (by kernel_rfl)) (fun _ _ _ h => h) (Or.inl ⟨by rfl, ?_⟩) ?_ ?_
              rotate_left
              · intro w'
                go_simp
                with_reducible rfl
              rotate_left
              · simp only [Act.put, List.setIfInBounds_toArray, List.set_cons_zero, List.set_cons_succ, i64_w, i32_w]
                rfl
              refine take_ (i := 1) (N := some 65) (v := ?_) (a' := ?_) #[true, true, false, false, false, false, false, false, false, false, false, false, false, false, false, false, false, false, false, false, false, false, false, false] rfl rfl (take_ofW HT_.out HW_.out (by kernel_rfl)) (fun _ _ _ h => h) (Or.inl ⟨by rfl, ?_⟩) hHeld ?_ ?_
              rotate_left
              · rintro w' ⟨s0, s1, s2, s3, s4, s5, s6⟩
                go_simp
                with_reducible rfl
              rotate_left
              · simp only [Act.put, List.setIfInBounds_toArray, List.set_cons_zero, List.set_cons_succ, i64_w, i32_w]
                rfl
              refine pure_ (i := 2) (N := some 66) (v := ?_) (a' := ?_) #[true, true, true, false, false, false, false, false, false, false, false, false, false, false, false, false, false, false, false, false, false, false, false, false] rfl rfl (any_of HT_.out (by kernel_rfl)) (fun _ _ _ h => h) (Or.inl ⟨by rfl, ?_⟩) ?_ ?_
              rotate_left
              · intro w'
                go_simp
                with_reducible rfl
              rotate_left
              · simp only [Act.put, List.setIfInBounds_toArray, List.set_cons_zero, List.set_cons_succ, i64_w, i32_w]
                rfl
              refine pure_ (i := 3) (N := some 67) (v := ?_) (a' := ?_) #[true, true, true, true, false, false, false, false, false, false, false, false, false, false, false, false, false, false, false, false, false, false, false, false] rfl rfl (any_of HT_.out (by kernel_rfl)) (fun _ _ _ h => h) (Or.inl ⟨by rfl, ?_⟩) ?_ ?_
              rotate_left
              · intro w'
                go_simp
                with_reducible rfl
              rotate_left
              · simp only [Act.put, List.setIfInBounds_toArray, List.set_cons_zero, List.set_cons_succ, i64_w, i32_w]
                rfl
              refine pure_ (i := 4) (N := some 68) (v := ?_) (a' := ?_) #[true, true, true, true, true, false, false, false, false, false, false, false, false, false, false, false, false, false, false, false, false, false, false, false] rfl rfl (any_of HT_.out (by kernel_rfl)) (fun _ _ _ h => h) (Or.inl ⟨by rfl, ?_⟩) ?_ ?_
              rotate_left
              · intro w'
                go_simp
                with_reducible rfl
              rotate_left
              · simp only [Act.put, List.setIfInBounds_toArray, List.set_cons_zero, List.set_cons_succ, i64_w, i32_w]
                rfl
              refine pure_ (i := 5) (N := some 69) (v := ?_) (a' := ?_) #[true, true, true, true, true, true, false, false, false, false, false, false, false, false, false, false, false, false, false, false, false, false, false, false] rfl rfl (any_of HT_.out (by kernel_rfl)) (fun _ _ _ h => h) (Or.inl ⟨by rfl, ?_⟩) ?_ ?_
              rotate_left
              · intro w'
                go_simp
                with_reducible rfl
              rotate_left
              · simp only [Act.put, List.setIfInBounds_toArray, List.set_cons_zero, List.set_cons_succ, i64_w, i32_w]
                rfl
              refine take_ (i := 6) (N := some 70) (v := ?_) (a' := ?_) #[true, true, true, true, true, true, true, false, false, false, false, false, false, false, false, false, false, false, false, false, false, false, false, false] rfl rfl (take_ofW HT_.out HW_.out (by kernel_rfl)) (fun _ _ _ h => h) (Or.inl ⟨by rfl, ?_⟩) hHeld ?_ ?_
              rotate_left
              · rintro w' ⟨s0, s1, s2, s3, s4, s5, s6⟩
                go_simp
                with_reducible rfl
              rotate_left
              · simp only [Act.put, List.setIfInBounds_toArray, List.set_cons_zero, List.set_cons_succ, i64_w, i32_w]
                rfl
              refine pure_ (i := 7) (N := some 71) (v := ?_) (a' := ?_) #[true, true, true, true, true, true, true, true, false, false, false, false, false, false, false, false, false, false, false, false, false, false, false, false] rfl rfl (any_of HT_.out (by kernel_rfl)) (fun _ _ _ h => h) (Or.inl ⟨by rfl, ?_⟩) ?_ ?_
              rotate_left
              · intro w'
                go_simp
                with_reducible rfl
              rotate_left
              · simp only [Act.put, List.setIfInBounds_toArray, List.set_cons_zero, List.set_cons_succ, i64_w, i32_w]
                rfl
              refine take_ (i := 8) (N := some 72) (v := ?_) (a' := ?_) #[true, true, true, true, true, true, true, true, true, false, false, false, false, false, false, false, false, false, false, false, false, false, false, false] rfl rfl (take_ofW HT_.out HW_.out (by kernel_rfl)) (fun _ _ _ h => h) (Or.inl ⟨by rfl, ?_⟩) hHeld ?_ ?_
              rotate_left
              · rintro w' ⟨s0, s1, s2, s3, s4, s5, s6⟩
                go_simp
                with_reducible rfl
              rotate_left
              · simp only [Act.put, List.setIfInBounds_toArray, List.set_cons_zero, List.set_cons_succ, i64_w, i32_w]
                rfl
              refine pure_ (i := 9) (N := some 73) (v := ?_) (a' := ?_) #[true, true, true, true, true, true, true, true, true, true, false, false, false, false, false, false, false, false, false, false, false, false, false, false] rfl rfl (any_of HT_.out (by kernel_rfl)) (fun _ _ _ h => h) (Or.inl ⟨by rfl, ?_⟩) ?_ ?_
              rotate_left
              · intro w'
                go_simp
                with_reducible rfl
              rotate_left
              · simp only [Act.put, List.setIfInBounds_toArray, List.set_cons_zero, List.set_cons_succ, i64_w, i32_w]
                rfl
              refine pure_ (i := 10) (N := some 74) (v := ?_) (a' := ?_) #[true, true, true, true, true, true, true, true, true, true, true, false, false, false, false, false, false, false, false, false, false, false, false, false] rfl rfl (any_of HT_.out (by kernel_rfl)) (fun _ _ _ h => h) (Or.inl ⟨by rfl, ?_⟩) ?_ ?_
              rotate_left
              · intro w'
                go_simp
                with_reducible rfl
              rotate_left
              · simp only [Act.put, List.setIfInBounds_toArray, List.set_cons_zero, List.set_cons_succ, i64_w, i32_w]
                rfl
              refine pure_ (i := 11) (N := some 75) (v := ?_) (a' := ?_) #[true, true, true, true, true, true, true, true, true, true, true, true, false, false, false, false, false, false, false, false, false, false, false, false] rfl rfl (any_of HT_.out (by kernel_rfl)) (fun _ _ _ h => h) (Or.inl ⟨by rfl, ?_⟩) ?_ ?_
              rotate_left
              · intro w'
                go_simp
                with_reducible rfl
              rotate_left
              · simp only [Act.put, List.setIfInBounds_toArray, List.set_cons_zero, List.set_cons_succ, i64_w, i32_w]
                rfl
              refine take_ (i := 12) (N := some 76) (v := ?_) (a' := ?_) #[true, true, true, true, true, true, true, true, true, true, true, true, true, false, false, false, false, false, false, false, false, false, false, false] rfl rfl (take_ofW HT_.out HW_.out (by kernel_rfl)) (fun _ _ _ h => h) (Or.inl ⟨by rfl, ?_⟩) hHeld ?_ ?_
              rotate_left
              · rintro w' ⟨s0, s1, s2, s3, s4, s5, s6⟩
                go_simp
                with_reducible rfl
              rotate_left
              · simp only [Act.put, List.setIfInBounds_toArray, List.set_cons_zero, List.set_cons_succ, i64_w, i32_w]
                rfl
              refine pure_ (i := 13) (N := some 77) (v := ?_) (a' := ?_) #[true, true, true, true, true, true, true, true, true, true, true, true, true, true, false, false, false, false, false, false, false, false, false, false] rfl rfl (any_of HT_.out (by kernel_rfl)) (fun _ _ _ h => h) (Or.inl ⟨by rfl, ?_⟩) ?_ ?_
              rotate_left
              · intro w'
                go_simp
                with_reducible rfl
              rotate_left
              · simp only [Act.put, List.setIfInBounds_toArray, List.set_cons_zero, List.set_cons_succ, i64_w, i32_w]
                rfl
              refine pure_ (i := 14) (N := some 78) (v := ?_) (a' := ?_) #[true, true, true, true, true, true, true, true, true, true, true, true, true, true, true, false, false, false, false, false, false, false, false, false] rfl rfl (any_of HT_.out (by kernel_rfl)) (fun _ _ _ h => h) (Or.inl ⟨by rfl, ?_⟩) ?_ ?_
              rotate_left
              · intro w'
                go_simp
                with_reducible rfl
              rotate_left
              · simp only [Act.put, List.setIfInBounds_toArray, List.set_cons_zero, List.set_cons_succ, i64_w, i32_w]
                rfl
              refine pure_ (i := 15) (N := some 79) (v := ?_) (a' := ?_) #[true, true, true, true, true, true, true, true, true, true, true, true, true, true, true, true, false, false, false, false, false, false, false, false] rfl rfl (any_of HT_.out (by kernel_rfl)) (fun _ _ _ h => h) (Or.inl ⟨by rfl, ?_⟩) ?_ ?_
              rotate_left
              · intro w'
                go_simp
                with_reducible rfl
              rotate_left
              · simp only [Act.put, List.setIfInBounds_toArray, List.set_cons_zero, List.set_cons_succ, i64_w, i32_w]
                rfl
              refine pure_ (i := 16) (N := some 80) (v := ?_) (a' := ?_) #[true, true, true, true, true, true, true, true, true, true, true, true, true, true, true, true, true, false, false, false, false, false, false, false] rfl rfl (any_of HT_.out (by kernel_rfl)) (fun _ _ _ h => h) (Or.inl ⟨by rfl, ?_⟩) ?_ ?_
              rotate_left
              · intro w'
                go_simp
                with_reducible rfl
              rotate_left
              · simp only [Act.put, List.setIfInBounds_toArray, List.set_cons_zero, List.set_cons_succ, i64_w, i32_w]
                rfl
              refine pure_ (i := 17) (N := some 81) (v := ?_) (a' := ?_) #[true, true, true, true, true, true, true, true, true, true, true, true, true, true, true, true, true, true, false, false, false, false, false, false] rfl rfl (any_of HT_.out (by kernel_rfl)) (fun _ _ _ h => h) (Or.inl ⟨by rfl, ?_⟩) ?_ ?_
              rotate_left
              · intro w'
                go_simp
                with_reducible rfl
              rotate_left
              · simp only [Act.put, List.setIfInBounds_toArray, List.set_cons_zero, List.set_cons_succ, i64_w, i32_w]
                rfl
              refine take_ (i := 18) (N := some 82) (v := ?_) (a' := ?_) #[true, true, true, true, true, true, true, true, true, true, true, true, true, true, true, true, true, true, true, false, false, false, false, false] rfl rfl (take_ofW HT_.out HW_.out (by kernel_rfl)) (fun _ _ _ h => h) (Or.inl ⟨by rfl, ?_⟩) hHeld ?_ ?_
              rotate_left
              · rintro w' ⟨s0, s1, s2, s3, s4, s5, s6⟩
                go_simp
                with_reducible rfl
              rotate_left
              · simp only [Act.put, List.setIfInBounds_toArray, List.set_cons_zero, List.set_cons_succ, i64_w, i32_w]
                rfl
              refine one_ (i := 19) (N := some 83) #[true, true, true, true, true, true, true, true, true, true, true, true, true, true, true, true, true, true, true, true, false, false, false, false] rfl rfl (one_of HT_.out (by kernel_rfl)) (by decide) (fun K hK => ?_)
              refine goes_ Try.func116 (by kernel_rfl) rfl #[.slice Ac (rd_T65 fm (j : Int)).f1.length cc, .slice A6 (rd_T63 l0_1 (i : Int)).f6.length c6, .int .i64 (rd_T65 fm (j : Int)).f2.f1] (by rfl) rfl rfl (by (try simp only [List.map_toArray, List.map_cons, List.map_nil]); first | done | rfl) ?_
              refine (rf_above.calls Kf Ac cc (rd_T65 fm (j : Int)).f1 A6 c6 (rd_T63 l0_1 (i : Int)).f6 (rd_T65 fm (j : Int)).f2.f1 (upF l0_2 l0_3 j (rd_T63 l0_1 (i : Int))) W0 HIC.out HLCC.out HI6.out HL6.out HKF.out).mono ?_
              rintro e w4 ⟨rfl, hb⟩
              refine ⟨_, rfl, ?_⟩
              replace HA := Sd.mk (HA.out.later hb)
              replace HU1 := Sd.mk (HU1.out.later hb)
              replace HU2 := Sd.mk (HU2.out.later hb)
              replace HS0 := Sd.mk (cellB hb HS0.out)
              replace HS1 := Sd.mk (cellB hb HS1.out)
              replace HS2 := Sd.mk (cellB hb HS2.out)
              replace HS3 := Sd.mk (cellB hb HS3.out)
              replace HS4 := Sd.mk (cellB hb HS4.out)
              replace HS6 := Sd.mk (cellB hb HS6.out)
              clear hb HIC HI6 HKF HLCC HL6
              refine hK.out _ _ ⟨HS0.out, HS1.out, HS2.out, HS3.out, HS4.out, HS4.out, HS6.out⟩ (fun hHeld => ?_)
              clear hK K
              refine norm_ (a' := ?_) ?_ ?_
              rotate_left
              · show Act.put _ (some 83) _ = _
                simp only [Act.put, List.setIfInBounds_toArray, List.set_cons_zero, List.set_cons_succ, i64_w, i32_w]
                rfl
              refine one_ (i := 20) (N := some 84) #[true, true, true, true, true, true, true, true, true, true, true, true, true, true, true, true, true, true, true, true, true, false, false, false] rfl rfl (one_of HT_.out (by kernel_rfl)) (by decide) (fun K hK => ?_)
              refine value_ (w1 := ?_) (v := ?_) (by rfl) rfl ?_ ?_
              rotate_left 2
              · go_simp
                constructor
                · rfl
                · rfl
              have hba := below_alloc (Below.refl w4.heap.size w4) (.cells #[.int .i64 (upF l0_2 l0_3 j (rd_T63 l0_1 (i : Int)))] 3)
              refine hK.out _ _ ⟨cellB hba HS0.out, cellB hba HS1.out, cellB hba HS2.out, cellB hba HS3.out, cellB hba HS4.out, cellB hba HS4.out, cellB hba HS6.out⟩ (fun hHeld => ?_)
              clear hba
              clear hK K
              refine norm_ (a' := ?_) ?_ ?_
              rotate_left
              · show Act.put _ (some 84) _ = _
                simp only [Act.put, List.setIfInBounds_toArray, List.set_cons_zero, List.set_cons_succ, i64_w, i32_w]
                rfl
              refine one_ (i := 21) (N := some 85) #[true, true, true, true, true, true, true, true, true, true, true, true, true, true, true, true, true, true, true, true, true, true, false, false] rfl rfl (one_of HT_.out (by kernel_rfl)) (by decide) (fun K hK => ?_)
              refine Kd.R_append_step (Kd.int .i64) (w0 := w) w.heap.size (by rfl) (.tmp 65) (.tmp 84) 30 3 (.int .i64 0) 8 rfl Try.underlying30 info3 rfl (by decide) (by omega) (.slice Ax flu.length cx) flu (upF l0_2 l0_3 j (rd_T63 l0_1 (i : Int))) [.int .i64 (upF l0_2 l0_3 j (rd_T63 l0_1 (i : Int)))] (fun q => wo.heap.size ≤ q) (fun _ => False) rfl rfl ?aP (fun _ hk => hk.elim) ?aF ?aO ?aB ?aS ?aL ?_
              (case aP => exact rfl)
              (case aB => exact HA.out.below)
              (case aF => exact (fun q hq => Nat.le_trans (by have h1 := HU1.out.cell; have h2 := blk_lt h1; have h3 := HU1.out.ge; omega) hq))
              (case aO => exact Kd.R_mono HU1.out.row (fun q hq => HU1.out.own q hq))
              (case aS => exact below_size HA.out.below)
              (case aL => exact (by rw [HFL.out]; exact Nat.le_trans (Nat.mul_le_mul_right 8 (show i + 1 ≤ 13 by omega)) (by decide)))
              intro v1 w5 ho hb hg hat
              have HDJ : Sd (∀ q, v1.ownBlock = some q → vd.ownBlock = some q → False) := ⟨fun q hq hk => by
                have hlt := ((Kd.R_bound HU2.out.row).1 q hk).2.2.1
                rcases hat with hat | ⟨b, hat, hb_⟩
                · rw [hat] at hq; exact HDI.out q hq hk
                · rw [hat] at hq; injection hq with hq; omega⟩
              have HV' := Sd.mk (HU2.out.grown hg HNE2.out (fun q hk hq => by first | exact HDI.out q hq.symm hk | exact HDI.out q hk hq.symm))
              replace HA := Sd.mk (HA.out.grown hb hg HNE3.out (fun q hk => HNEB.out q (Nat.lt_of_lt_of_le hk.2 HSO.out)) (fun q hk => HNEB.out q hk.2))
              have HBU := Sd.mk (blk_grown HU1.out.cell hg HNE1.out)
              have HGE := Sd.mk HU1.out.ge
              replace HS0 := Sd.mk (cellG hg HS0.out HNE1.out)
              replace HS1 := Sd.mk (cellG hg HS1.out HNE3.out)
              replace HS2 := Sd.mk (cellG hg HS2.out (HNEB.out _ HBF.out))
              replace HS3 := Sd.mk (cellG hg HS3.out (HNEB.out _ HBF.out))
              replace HS4 := Sd.mk (cellG hg HS4.out (HNEB.out _ HBF.out))
              replace HS6 := Sd.mk (cellG hg HS6.out (HNEB.out _ HBM.out))
              have HO := Sd.mk (Kd.R_types (t := 51) ho HBU.out (by decide))
              have HOW := Sd.mk ho.1
              clear hb ho hg hat HNE1 HNE2 HNE3 HNEB HU1 HU2 HDI
              refine hK.out _ _ ⟨HS0.out, HS1.out, HS2.out, HS3.out, HS4.out, HS4.out, HS6.out⟩ (fun hHeld => ?_)
              clear hK K
              refine norm_ (a' := ?_) ?_ ?_
              rotate_left
              · show Act.put _ (some 85) _ = _
                simp only [Act.put, List.setIfInBounds_toArray, List.set_cons_zero, List.set_cons_succ, i64_w, i32_w]
                rfl
              refine pure_ (i := 22) (N := some 86) (v := ?_) (a' := ?_) #[true, true, true, true, true, true, true, true, true, true, true, true, true, true, true, true, true, true, true, true, true, true, true, false] rfl rfl (any_of HT_.out (by kernel_rfl)) (fun _ _ _ h => h) (Or.inl ⟨by rfl, ?_⟩) ?_ ?_
              rotate_left
              · intro w'
                go_simp
                with_reducible rfl
              rotate_left
              · simp only [Act.put, List.setIfInBounds_toArray, List.set_cons_zero, List.set_cons_succ, i64_w, i32_w]
                rfl
              obtain ⟨A1', c1', rfl⟩ := Kd.R_slice HO.out
              have hw0 : w5.cell? ⟨wo.heap.size, 0, none⟩ = some (.slice Ax flu.length cx) := HS0.out
              have hwf := blk_frozen HBU.out 0
              refine last_ (i := 23) (N := none) #[true, true, true, true, true, true, true, true, true, true, true, true, true, true, true, true, true, true, true, true, true, true, true, true] rfl rfl (one_of HT_.out (by kernel_rfl)) (by decide) (fun K hK => ?_)
              refine skip_ (w1 := ?_) (by rfl) rfl ?_ ?_
              rotate_left
              · go_simp
                rfl
              refine hK.out _ _ ?_
              clear hK K hw0 hwf
              refine done_ (done_of HT_.out (by kernel_rfl)) ?_
              clear HT_ HW_ hHeld HS0 HS1 HS2 HS3 HS4 HS6
              have HU2 := Sd.mk (HV'.out.set (.slice A1' (flu.length + 1) c1') (by omega) HBU.out)
              have HBK := Sd.mk (blk_put (cs' := #[.slice A1' (flu.length + 1) c1', .int .i64 0]) HBU.out 0 (.slice A1' (flu.length + 1) c1') (by rfl))
              replace HA := Sd.mk (HA.out.set (g := wo.heap.size) (.slice A1' (flu.length + 1) c1') (by have := HWO.out; omega) (fun q hk => by have := hk.2; have := HSO.out; omega) (fun q hk => by have := hk.2; omega))
              have HU1 : Sd (RowAt3 w wo (w5.setCell ⟨wo.heap.size, 0, none⟩ (.slice A1' (flu.length + 1) c1')) wo.heap.size (.slice A1' (flu.length + 1) c1') (List.map (upF l0_2 l0_3 j) (l0_1.take (i + 1)))) :=
                ⟨⟨HGE.out, HBK.out, by
                  have h_ := Kd.R_far (p := ⟨wo.heap.size, 0, none⟩) HO.out (fun _ hk => hk.2) (.slice A1' (flu.length + 1) c1')
                  rw [← HSTEP.out]
                  simpa using R_int_own h_, fun k hk => HOW.out k (by simpa using hk)⟩⟩
              have HDI : Sd (∀ k, (Value.slice A1' (flu.length + 1) c1').ownBlock = some k → vd.ownBlock = some k → False) := ⟨fun k h1 h2 => HDJ.out k (by simpa using h1) h2⟩
              clear HV' HBK HBU HGE HO HOW HDJ HFL HSTEP
              generalize w5.setCell ⟨wo.heap.size, 0, none⟩ (.slice A1' (flu.length + 1) c1') = Wu at *
              generalize Value.slice A1' (flu.length + 1) c1' = vu2 at *
              obtain ⟨adM2, A6, c6, ea_, hx0, hx1, hx2, hx3, hx4, hx5, hx6, hl6, hi6⟩ := at_T63 (Kd.C_below HR1.out HA.out.below) (i : Int) (by omega) hiz
              injection ea_ with ea_; subst ea_
              simp only [Int.toNat_natCast] at hx6
              clear hx0 hx1 hx2 hx3 hx4 hx5
              obtain ⟨Af', cf', he, _, hCF⟩ := Kd.N_reads HA.out.forms
              cases he
              obtain ⟨adF2, Ac, cc, ea_, hy0, hy1, hy2, hy3, hlc, hic⟩ := at_T65 hCF (j : Int) (by omega) hjz
              injection ea_ with ea_; subst ea_
              simp only [Int.toNat_natCast] at hy0 hy1 hy2 hy3
              clear hCF
              go_upto_region 17 with (fail)
              have hbF : (adF.add (j * 4)).block < wo.heap.size := by
                obtain ⟨g_, cap_, e_, _, _, _⟩ := Kd.N_form HA.out.forms (by have := HJT.out; omega)
                have hok := HA.out.forms.1 g_ (by rw [e_]; rfl)
                injection e_ with e1_ e2_ e3_
                injection e1_ with e1_
                subst e1_
                rw [addB]
                exact Nat.lt_of_lt_of_le hok.2 HSO.out
              have hbM : (adM.add (i * 7)).block < wo.heap.size := by
                obtain ⟨ad_, A_, c_, e_, _, _, _, _, _, _, hz6, _, _⟩ := at_T63 HR1.out (i : Int) (by omega) hiz
                cases e_
                have h_ := World.block_lt_of_cell? w _ hz6
                have := HWO.out
                simp only [Int.toNat_natCast] at h_
                exact Nat.lt_trans h_ this
              have HBF := Sd.mk hbF
              have HBM := Sd.mk hbM
              clear hbF hbM
              obtain ⟨Ax, cx, rfl⟩ := Kd.R_slice HU2.out.row
              have hfl : (List.map (dnF l0_2 l0_3 j) (l0_1.take i)).length = i := by simp; omega
              have HFL := Sd.mk hfl
              have HSTEP : Sd (List.map (dnF l0_2 l0_3 j) (l0_1.take i) ++ [dnF l0_2 l0_3 j (rd_T63 l0_1 (i : Int))] = List.map (dnF l0_2 l0_3 j) (l0_1.take (i + 1))) := ⟨by rw [List.take_succ_eq_append_getElem hit, List.map_append]; simp [rd_T63, hit]⟩
              have hjl : j < l0_2.length + l0_3.length := by have := HJT.out; have := HLF.out; omega
              obtain ⟨Kf, hKf⟩ := belowF HH.out hjl hit
              rw [HFM.out] at hKf
              have HKF := Sd.mk hKf
              have HS0 := Sd.mk (show Wu.cell? ⟨(wo.heap.size + 1), 0, none⟩ = some (.slice Ax (List.map (dnF l0_2 l0_3 j) (l0_1.take i)).length cx) from (blk_cell HU2.out.cell 0).trans rfl)
              have HS1 := Sd.mk (show Wu.cell? ⟨w.heap.size, 1, none⟩ = some (.slice (some adM) l0_1.length c0_1) from (blk_cell HA.out.box 1).trans rfl)
              have HS2 := Sd.mk hy1
              have HS3 := Sd.mk hy2
              have HS4 := Sd.mk hy3
              have HS6 := Sd.mk hx6
              have HIC := Sd.mk hic
              have HLCC := Sd.mk hlc
              have HI6 := Sd.mk hi6
              have HL6 := Sd.mk hl6
              have HNE1 := Sd.mk (Kd.R_ne HU2.out.row HU2.out.cell (by decide))
              have HNE2 := Sd.mk (Kd.R_ne HU2.out.row HU1.out.cell (by decide))
              have HNE3 := Sd.mk (Kd.R_ne HU2.out.row HA.out.box (by decide))
              have HNEB : Sd (∀ b, b < wo.heap.size → some b ≠ (Value.slice Ax (List.map (dnF l0_2 l0_3 j) (l0_1.take i)).length cx).ownBlock) := ⟨fun b hb he => Nat.not_le_of_lt hb (HU2.out.own b he.symm)⟩
              clear hfl hjl hKf hic hlc hi6 hl6 hy0 hy1 hy2 hy3 hx6
              generalize hflv : List.map (dnF l0_2 l0_3 j) (l0_1.take i) = fld at *
              clear hflv
              refine start_ (n := 24) (S := fun w' => w'.cell? ⟨(wo.heap.size + 1), 0, none⟩ = some (.slice Ax fld.length cx) ∧ w'.cell? ⟨w.heap.size, 1, none⟩ = some (.slice (some adM) l0_1.length c0_1) ∧ w'.cell? ⟨(adF.add (j * 4)).block, (adF.add (j * 4)).off + 1, none⟩ = some (.slice Ac (rd_T65 fm (j : Int)).f1.length cc) ∧ w'.cell? ⟨(adF.add (j * 4)).block, (adF.add (j * 4)).off + 2, none⟩ = some (.int .i64 (rd_T65 fm (j : Int)).f2.f0) ∧ w'.cell? ⟨(adF.add (j * 4)).block, (adF.add (j * 4)).off + 3, none⟩ = some (.int .i64 (rd_T65 fm (j : Int)).f2.f1) ∧ w'.cell? ⟨(adF.add (j * 4)).block, (adF.add (j * 4)).off + 2 + 1, none⟩ = some (.int .i64 (rd_T65 fm (j : Int)).f2.f1) ∧ w'.cell? ⟨(adM.add (i * 7)).block, (adM.add (i * 7)).off + 6, none⟩ = some (.slice A6 (rd_T63 l0_1 (i : Int)).f6.length c6)) (ds := [23]) #[false, false, false, false, false, false, false, false, false, false, false, false, false, false, false, false, false, false, false, false, false, false, false, false] (by kernel_rfl) rfl rfl ⟨HS0.out, HS1.out, HS2.out, HS3.out, HS4.out, HS4.out, HS6.out⟩ (fun hHeld => ?_); refine with_tabW allL17_tab allL_bits (fun HT_ HW_ => ?_)
              replace HA := Sd.mk (HA.out.later (below_drew1 (Below.refl _ _)))
              replace HU1 := Sd.mk (HU1.out.later (below_drew1 (Below.refl _ _)))
              replace HU2 := Sd.mk (HU2.out.later (below_drew1 (Below.refl _ _)))
              replace HIC := Sd.mk (Kd.C_drew HIC.out)
              replace HI6 := Sd.mk (Kd.C_drew HI6.out)
              replace HS0 := Sd.mk (World.cell?_drew_ HS0.out)
              replace HS1 := Sd.mk (World.cell?_drew_ HS1.out)
              replace HS2 := Sd.mk (World.cell?_drew_ HS2.out)
              replace HS3 := Sd.mk (World.cell?_drew_ HS3.out)
              replace HS4 := Sd.mk (World.cell?_drew_ HS4.out)
              replace HS6 := Sd.mk (World.cell?_drew_ HS6.out)
              generalize Wu.drew = W0 at HA HU1 HU2 HIC HI6 HS0 HS1 HS2 HS3 HS4 HS6 hHeld ⊢
              refine pure_ (i := 0) (N := some 87) (v := ?_) (a' := ?_) #[true, false, false, false, false, false, false, false, false, false, false, false, false, false, false, false, false, false, false, false, false, false, false, false] rfl rfl (any_of HT_.out (by kernel_rfl)) (fun _ _ _ h => h) (Or.inl ⟨by rfl, ?_⟩) ?_ ?_
              rotate_left
              · intro w'
                go_simp
                with_reducible rfl
              rotate_left
              · simp only [Act.put, List.setIfInBounds_toArray, List.set_cons_zero, List.set_cons_succ, i64_w, i32_w]
                rfl
              refine take_ (i := 1) (N := some 88) (v := ?_) (a' := ?_) #[true, true, false, false, false, false, false, false, false, false, false, false, false, false, false, false, false, false, false, false, false, false, false, false] rfl rfl (take_ofW HT_.out HW_.out (by kernel_rfl)) (fun _ _ _ h => h) (Or.inl ⟨by rfl, ?_⟩) hHeld ?_ ?_
              rotate_left
              · rintro w' ⟨s0, s1, s2, s3, s4, s5, s6⟩
                go_simp
                with_reducible rfl
              rotate_left
              · simp only [Act.put, List.setIfInBounds_toArray, List.set_cons_zero, List.set_cons_succ, i64_w, i32_w]
                rfl
              refine pure_ (i := 2) (N := some 89) (v := ?_) (a' := ?_) #[true, true, true, false, false, false, false, false, false, false, false, false, false, false, false, false, false, false, false, false, false, false, false, false] rfl rfl (any_of HT_.out (by kernel_rfl)) (fun _ _ _ h => h) (Or.inl ⟨by rfl, ?_⟩) ?_ ?_
              rotate_left
              · intro w'
                go_simp
                with_reducible rfl
              rotate_left
              · simp only [Act.put, List.setIfInBounds_toArray, List.set_cons_zero, List.set_cons_succ, i64_w, i32_w]
                rfl
              refine pure_ (i := 3) (N := some 90) (v := ?_) (a' := ?_) #[true, true, true, true, false, false, false, false, false, false, false, false, false, false, false, false, false, false, false, false, false, false, false, false] rfl rfl (any_of HT_.out (by kernel_rfl)) (fun _ _ _ h => h) (Or.inl ⟨by rfl, ?_⟩) ?_ ?_
              rotate_left
              · intro w'
                go_simp
                with_reducible rfl
              rotate_left
              · simp only [Act.put, List.setIfInBounds_toArray, List.set_cons_zero, List.set_cons_succ, i64_w, i32_w]
                rfl
              refine pure_ (i := 4) (N := some 91) (v := ?_) (a' := ?_) #[true, true, true, true, true, false, false, false, false, false, false, false, false, false, false, false, false, false, false, false, false, false, false, false] rfl rfl (any_of HT_.out (by kernel_rfl)) (fun _ _ _ h => h) (Or.inl ⟨by rfl, ?_⟩) ?_ ?_
              rotate_left
              · intro w'
                go_simp
                with_reducible rfl
              rotate_left
              · simp only [Act.put, List.setIfInBounds_toArray, List.set_cons_zero, List.set_cons_succ, i64_w, i32_w]
                rfl
              refine pure_ (i := 5) (N := some 92) (v := ?_) (a' := ?_) #[true, true, true, true, true, true, false, false, false, false, false, false, false, false, false, false, false, false, false, false, false, false, false, false] rfl rfl (any_of HT_.out (by kernel_rfl)) (fun _ _ _ h => h) (Or.inl ⟨by rfl, ?_⟩) ?_ ?_
              rotate_left
              · intro w'
                go_simp
                with_reducible rfl
              rotate_left
              · simp only [Act.put, List.setIfInBounds_toArray, List.set_cons_zero, List.set_cons_succ, i64_w, i32_w]
                rfl
              refine take_ (i := 6) (N := some 93) (v := ?_) (a' := ?_) #[true, true, true, true, true, true, true, false, false, false, false, false, false, false, false, false, false, false, false, false, false, false, false, false] rfl rfl (take_ofW HT_.out HW_.out (by kernel_rfl)) (fun _ _ _ h => h) (Or.inl ⟨by rfl, ?_⟩) hHeld ?_ ?_
              rotate_left
              · rintro w' ⟨s0, s1, s2, s3, s4, s5, s6⟩
                go_simp
                with_reducible rfl
              rotate_left
              · simp only [Act.put, List.setIfInBounds_toArray, List.set_cons_zero, List.set_cons_succ, i64_w, i32_w]
                rfl
              refine pure_ (i := 7) (N := some 94) (v := ?_) (a' := ?_) #[true, true, true, true, true, true, true, true, false, false, false, false, false, false, false, false, false, false, false, false, false, false, false, false] rfl rfl (any_of HT_.out (by kernel_rfl)) (fun _ _ _ h => h) (Or.inl ⟨by rfl, ?_⟩) ?_ ?_
              rotate_left
              · intro w'
                go_simp
                with_reducible rfl
              rotate_left
              · simp only [Act.put, List.setIfInBounds_toArray, List.set_cons_zero, List.set_cons_succ, i64_w, i32_w]
                rfl
              refine take_ (i := 8) (N := some 95) (v := ?_) (a' := ?_) #[true, true, true, true, true, true, true, true, true, false, false, false, false, false, false, false, false, false, false, false, false, false, false, false] rfl rfl (take_ofW HT_.out HW_.out (by kernel_rfl)) (fun _ _ _ h => h) (Or.inl ⟨by rfl, ?_⟩) hHeld ?_ ?_
              rotate_left
              · rintro w' ⟨s0, s1, s2, s3, s4, s5, s6⟩
                go_simp
                with_reducible rfl
              rotate_left
              · simp only [Act.put, List.setIfInBounds_toArray, List.set_cons_zero, List.set_cons_succ, i64_w, i32_w]
                rfl
              refine pure_ (i := 9) (N := some 96) (v := ?_) (a' := ?_) #[true, true, true, true, true, true, true, true, true, true, false, false, false, false, false, false, false, false, false, false, false, false, false, false] rfl rfl (any_of HT_.out (by kernel_rfl)) (fun _ _ _ h => h) (Or.inl ⟨by rfl, ?_⟩) ?_ ?_
              rotate_left
              · intro w'
                go_simp
                with_reducible rfl
              rotate_left
              · simp only [Act.put, List.setIfInBounds_toArray, List.set_cons_zero, List.set_cons_succ, i64_w, i32_w]
                rfl
              refine pure_ (i := 10) (N := some 97) (v := ?_) (a' := ?_) #[true, true, true, true, true, true, true, true, true, true, true, false, false, false, false, false, false, false, false, false, false, false, false, false] rfl rfl (any_of HT_.out (by kernel_rfl)) (fun _ _ _ h => h) (Or.inl ⟨by rfl, ?_⟩) ?_ ?_
              rotate_left
              · intro w'
                go_simp
                with_reducible rfl
              rotate_left
              · simp only [Act.put, List.setIfInBounds_toArray, List.set_cons_zero, List.set_cons_succ, i64_w, i32_w]
                rfl
              refine pure_ (i := 11) (N := some 98) (v := ?_) (a' := ?_) #[true, true, true, true, true, true, true, true, true, true, true, true, false, false, false, false, false, false, false, false, false, false, false, false] rfl rfl (any_of HT_.out (by kernel_rfl)) (fun _ _ _ h => h) (Or.inl ⟨by rfl, ?_⟩) ?_ ?_
              rotate_left
              · intro w'
                go_simp
                with_reducible rfl
              rotate_left
              · simp only [Act.put, List.setIfInBounds_toArray, List.set_cons_zero, List.set_cons_succ, i64_w, i32_w]
                rfl
              refine take_ (i := 12) (N := some 99) (v := ?_) (a' := ?_) #[true, true, true, true, true, true, true, true, true, true, true, true, true, false, false, false, false, false, false, false, false, false, false, false] rfl rfl (take_ofW HT_.out HW_.out (by kernel_rfl)) (fun _ _ _ h => h) (Or.inl ⟨by rfl, ?_⟩) hHeld ?_ ?_
              rotate_left
              · rintro w' ⟨s0, s1, s2, s3, s4, s5, s6⟩
                go_simp
                with_reducible rfl
              rotate_left
              · simp only [Act.put, List.setIfInBounds_toArray, List.set_cons_zero, List.set_cons_succ, i64_w, i32_w]
                rfl
              refine pure_ (i := 13) (N := some 100) (v := ?_) (a' := ?_) #[true, true, true, true, true, true, true, true, true, true, true, true, true, true, false, false, false, false, false, false, false, false, false, false] rfl rfl (any_of HT_.out (by kernel_rfl)) (fun _ _ _ h => h) (Or.inl ⟨by rfl, ?_⟩) ?_ ?_
              rotate_left
              · intro w'
                go_simp
                with_reducible rfl
              rotate_left
              · simp only [Act.put, List.setIfInBounds_toArray, List.set_cons_zero, List.set_cons_succ, i64_w, i32_w]
                rfl
              refine pure_ (i := 14) (N := some 101) (v := ?_) (a' := ?_) #[true, true, true, true, true, true, true, true, true, true, true, true, true, true, true, false, false, false, false, false, false, false, false, false] rfl rfl (any_of HT_.out (by kernel_rfl)) (fun _ _ _ h => h) (Or.inl ⟨by rfl, ?_⟩) ?_ ?_
              rotate_left
              · intro w'
                go_simp
                with_reducible rfl
              rotate_left
              · simp only [Act.put, List.setIfInBounds_toArray, List.set_cons_zero, List.set_cons_succ, i64_w, i32_w]
                rfl
              refine pure_ (i := 15) (N := some 102) (v := ?_) (a' := ?_) #[true, true, true, true, true, true, true, true, true, true, true, true, true, true, true, true, false, false, false, false, false, false, false, false] rfl rfl (any_of HT_.out (by kernel_rfl)) (fun _ _ _ h => h) (Or.inl ⟨by rfl, ?_⟩) ?_ ?_
              rotate_left
              · intro w'
                go_simp
                with_reducible rfl
              rotate_left
              · simp only [Act.put, List.setIfInBounds_toArray, List.set_cons_zero, List.set_cons_succ, i64_w, i32_w]
                rfl
              refine pure_ (i := 16) (N := some 103) (v := ?_) (a' := ?_) #[true, true, true, true, true, true, true, true, true, true, true, true, true, true, true, true, true, false, false, false, false, false, false, false] rfl rfl (any_of HT_.out (by kernel_rfl)) (fun _ _ _ h => h) (Or.inl ⟨by rfl, ?_⟩) ?_ ?_
              rotate_left
              · intro w'
                go_simp
                with_reducible rfl
              rotate_left
              · simp only [Act.put, List.setIfInBounds_toArray, List.set_cons_zero, List.set_cons_succ, i64_w, i32_w]
                rfl
              refine pure_ (i := 17) (N := some 104) (v := ?_) (a' := ?_) #[true, true, true, true, true, true, true, true, true, true, true, true, true, true, true, true, true, true, false, false, false, false, false, false] rfl rfl (any_of HT_.out (by kernel_rfl)) (fun _ _ _ h => h) (Or.inl ⟨by rfl, ?_⟩) ?_ ?_
              rotate_left
              · intro w'
                go_simp
                with_reducible rfl
              rotate_left
              · simp only [Act.put, List.setIfInBounds_toArray, List.set_cons_zero, List.set_cons_succ, i64_w, i32_w]
                rfl
              refine take_ (i := 18) (N := some 105) (v := ?_) (a' := ?_) #[true, true, true, true, true, true, true, true, true, true, true, true, true, true, true, true, true, true, true, false, false, false, false, false] rfl rfl (take_ofW HT_.out HW_.out (by kernel_rfl)) (fun _ _ _ h => h) (Or.inl ⟨by rfl, ?_⟩) hHeld ?_ ?_
              rotate_left
              · rintro w' ⟨s0, s1, s2, s3, s4, s5, s6⟩
                go_simp
                with_reducible rfl
              rotate_left
              · simp only [Act.put, List.setIfInBounds_toArray, List.set_cons_zero, List.set_cons_succ, i64_w, i32_w]
                rfl
              refine one_ (i := 19) (N := some 106) #[true, true, true, true, true, true, true, true, true, true, true, true, true, true, true, true, true, true, true, true, false, false, false, false] rfl rfl (one_of HT_.out (by kernel_rfl)) (by decide) (fun K hK => ?_)
              refine goes_ Try.func115 (by kernel_rfl) rfl #[.slice Ac (rd_T65 fm (j : Int)).f1.length cc, .slice A6 (rd_T63 l0_1 (i : Int)).f6.length c6, .int .i64 (rd_T65 fm (j : Int)).f2.f0] (by rfl) rfl rfl (by (try simp only [List.map_toArray, List.map_cons, List.map_nil]); first | done | rfl) ?_
              refine (rf_below.calls Kf Ac cc (rd_T65 fm (j : Int)).f1 A6 c6 (rd_T63 l0_1 (i : Int)).f6 (rd_T65 fm (j : Int)).f2.f0 (dnF l0_2 l0_3 j (rd_T63 l0_1 (i : Int))) W0 HIC.out HLCC.out HI6.out HL6.out HKF.out).mono ?_
              rintro e w4 ⟨rfl, hb⟩
              refine ⟨_, rfl, ?_⟩
              replace HA := Sd.mk (HA.out.later hb)
              replace HU1 := Sd.mk (HU1.out.later hb)
              replace HU2 := Sd.mk (HU2.out.later hb)
              replace HS0 := Sd.mk (cellB hb HS0.out)
              replace HS1 := Sd.mk (cellB hb HS1.out)
              replace HS2 := Sd.mk (cellB hb HS2.out)
              replace HS3 := Sd.mk (cellB hb HS3.out)
              replace HS4 := Sd.mk (cellB hb HS4.out)
              replace HS6 := Sd.mk (cellB hb HS6.out)
              clear hb HIC HI6 HKF HLCC HL6
              refine hK.out _ _ ⟨HS0.out, HS1.out, HS2.out, HS3.out, HS4.out, HS4.out, HS6.out⟩ (fun hHeld => ?_)
              clear hK K
              refine norm_ (a' := ?_) ?_ ?_
              rotate_left
              · show Act.put _ (some 106) _ = _
                simp only [Act.put, List.setIfInBounds_toArray, List.set_cons_zero, List.set_cons_succ, i64_w, i32_w]
                rfl
              refine one_ (i := 20) (N := some 107) #[true, true, true, true, true, true, true, true, true, true, true, true, true, true, true, true, true, true, true, true, true, false, false, false] rfl rfl (one_of HT_.out (by kernel_rfl)) (by decide) (fun K hK => ?_)
              refine value_ (w1 := ?_) (v := ?_) (by rfl) rfl ?_ ?_
              rotate_left 2
              · go_simp
                constructor
                · rfl
                · rfl
              have hba := below_alloc (Below.refl w4.heap.size w4) (.cells #[.int .i64 (dnF l0_2 l0_3 j (rd_T63 l0_1 (i : Int)))] 3)
              refine hK.out _ _ ⟨cellB hba HS0.out, cellB hba HS1.out, cellB hba HS2.out, cellB hba HS3.out, cellB hba HS4.out, cellB hba HS4.out, cellB hba HS6.out⟩ (fun hHeld => ?_)
              clear hba
              clear hK K
              refine norm_ (a' := ?_) ?_ ?_
              rotate_left
              · show Act.put _ (some 107) _ = _
                simp only [Act.put, List.setIfInBounds_toArray, List.set_cons_zero, List.set_cons_succ, i64_w, i32_w]
                rfl
              refine one_ (i := 21) (N := some 108) #[true, true, true, true, true, true, true, true, true, true, true, true, true, true, true, true, true, true, true, true, true, true, false, false] rfl rfl (one_of HT_.out (by kernel_rfl)) (by decide) (fun K hK => ?_)
              refine Kd.R_append_step (Kd.int .i64) (w0 := w) w.heap.size (by rfl) (.tmp 88) (.tmp 107) 30 3 (.int .i64 0) 8 rfl Try.underlying30 info3 rfl (by decide) (by omega) (.slice Ax fld.length cx) fld (dnF l0_2 l0_3 j (rd_T63 l0_1 (i : Int))) [.int .i64 (dnF l0_2 l0_3 j (rd_T63 l0_1 (i : Int)))] (fun q => wo.heap.size ≤ q) (fun _ => False) rfl rfl ?aP (fun _ hk => hk.elim) ?aF ?aO ?aB ?aS ?aL ?_
              (case aP => exact rfl)
              (case aB => exact HA.out.below)
              (case aF => exact (fun q hq => Nat.le_trans (by have h1 := HU1.out.cell; have h2 := blk_lt h1; have h3 := HU1.out.ge; omega) hq))
              (case aO => exact Kd.R_mono HU2.out.row (fun q hq => HU2.out.own q hq))
              (case aS => exact below_size HA.out.below)
              (case aL => exact (by rw [HFL.out]; exact Nat.le_trans (Nat.mul_le_mul_right 8 (show i + 1 ≤ 13 by omega)) (by decide)))
              intro v1 w5 ho hb hg hat
              have HDJ : Sd (∀ q, v1.ownBlock = some q → vu2.ownBlock = some q → False) := ⟨fun q hq hk => by
                have hlt := ((Kd.R_bound HU1.out.row).1 q hk).2.2.1
                rcases hat with hat | ⟨b, hat, hb_⟩
                · rw [hat] at hq; exact HDI.out q hk hq
                · rw [hat] at hq; injection hq with hq; omega⟩
              have HV' := Sd.mk (HU1.out.grown hg HNE2.out (fun q hk hq => by first | exact HDI.out q hq.symm hk | exact HDI.out q hk hq.symm))
              replace HA := Sd.mk (HA.out.grown hb hg HNE3.out (fun q hk => HNEB.out q (Nat.lt_of_lt_of_le hk.2 HSO.out)) (fun q hk => HNEB.out q hk.2))
              have HBU := Sd.mk (blk_grown HU2.out.cell hg HNE1.out)
              have HGE := Sd.mk HU2.out.ge
              replace HS0 := Sd.mk (cellG hg HS0.out HNE1.out)
              replace HS1 := Sd.mk (cellG hg HS1.out HNE3.out)
              replace HS2 := Sd.mk (cellG hg HS2.out (HNEB.out _ HBF.out))
              replace HS3 := Sd.mk (cellG hg HS3.out (HNEB.out _ HBF.out))
              replace HS4 := Sd.mk (cellG hg HS4.out (HNEB.out _ HBF.out))
              replace HS6 := Sd.mk (cellG hg HS6.out (HNEB.out _ HBM.out))
              have HO := Sd.mk (Kd.R_types (t := 51) ho HBU.out (by decide))
              have HOW := Sd.mk ho.1
              clear hb ho hg hat HNE1 HNE2 HNE3 HNEB HU1 HU2 HDI
              refine hK.out _ _ ⟨HS0.out, HS1.out, HS2.out, HS3.out, HS4.out, HS4.out, HS6.out⟩ (fun hHeld => ?_)
              clear hK K
              refine norm_ (a' := ?_) ?_ ?_
              rotate_left
              · show Act.put _ (some 108) _ = _
                simp only [Act.put, List.setIfInBounds_toArray, List.set_cons_zero, List.set_cons_succ, i64_w, i32_w]
                rfl
              refine pure_ (i := 22) (N := some 109) (v := ?_) (a' := ?_) #[true, true, true, true, true, true, true, true, true, true, true, true, true, true, true, true, true, true, true, true, true, true, true, false] rfl rfl (any_of HT_.out (by kernel_rfl)) (fun _ _ _ h => h) (Or.inl ⟨by rfl, ?_⟩) ?_ ?_
              rotate_left
              · intro w'
                go_simp
                with_reducible rfl
              rotate_left
              · simp only [Act.put, List.setIfInBounds_toArray, List.set_cons_zero, List.set_cons_succ, i64_w, i32_w]
                rfl
              obtain ⟨A1', c1', rfl⟩ := Kd.R_slice HO.out
              have hw0 : w5.cell? ⟨(wo.heap.size + 1), 0, none⟩ = some (.slice Ax fld.length cx) := HS0.out
              have hwf := blk_frozen HBU.out 0
              refine last_ (i := 23) (N := none) #[true, true, true, true, true, true, true, true, true, true, true, true, true, true, true, true, true, true, true, true, true, true, true, true] rfl rfl (one_of HT_.out (by kernel_rfl)) (by decide) (fun K hK => ?_)
              refine skip_ (w1 := ?_) (by rfl) rfl ?_ ?_
              rotate_left
              · go_simp
                rfl
              refine hK.out _ _ ?_
              clear hK K hw0 hwf
              refine done_ (done_of HT_.out (by kernel_rfl)) ?_
              clear HT_ HW_ hHeld HS0 HS1 HS2 HS3 HS4 HS6
              have HU1 := Sd.mk (HV'.out.set (.slice A1' (fld.length + 1) c1') (by omega) HBU.out)
              have HBK := Sd.mk (blk_put (cs' := #[.slice A1' (fld.length + 1) c1', .int .i64 0]) HBU.out 0 (.slice A1' (fld.length + 1) c1') (by rfl))
              replace HA := Sd.mk (HA.out.set (g := (wo.heap.size + 1)) (.slice A1' (fld.length + 1) c1') (by have := HWO.out; omega) (fun q hk => by have := hk.2; have := HSO.out; omega) (fun q hk => by have := hk.2; omega))
              have HU2 : Sd (RowAt3 w wo (w5.setCell ⟨(wo.heap.size + 1), 0, none⟩ (.slice A1' (fld.length + 1) c1')) (wo.heap.size + 1) (.slice A1' (fld.length + 1) c1') (List.map (dnF l0_2 l0_3 j) (l0_1.take (i + 1)))) :=
                ⟨⟨HGE.out, HBK.out, by
                  have h_ := Kd.R_far (p := ⟨(wo.heap.size + 1), 0, none⟩) HO.out (fun _ hk => hk.2) (.slice A1' (fld.length + 1) c1')
                  rw [← HSTEP.out]
                  simpa using R_int_own h_, fun k hk => HOW.out k (by simpa using hk)⟩⟩
              have HDI : Sd (∀ k, vu2.ownBlock = some k → (Value.slice A1' (fld.length + 1) c1').ownBlock = some k → False) := ⟨fun k h1 h2 => HDJ.out k (by simpa using h2) h1⟩
              clear HV' HBK HBU HGE HO HOW HDJ HFL HSTEP
              generalize w5.setCell ⟨(wo.heap.size + 1), 0, none⟩ (.slice A1' (fld.length + 1) c1') = Wd at *
              generalize Value.slice A1' (fld.length + 1) c1' = vd2 at *
              clear kz1 hm12
              go_wp2
              go_roundg (l0_1.length - (i + 1))
              case measure => omega
              case rel => exact ⟨i + 1, _, _, by first | rfl | (rw [wrap_id (by omega) (by omega)]; rfl), by omega, by omega, HA, HU1, HU2, HDI⟩
            · skip
              have hiz : ¬ (i : Int) < (l0_1.length : Int) := by omega
              obtain rfl : i = l0_1.length := by omega
              rw [List.take_length] at HU1 HU2
              have cu0 : wr.cell? ⟨wo.heap.size, 0, none⟩ = some vu := (blk_cell HU1.out.cell 0).trans rfl
              have cu1 : wr.cell? ⟨wo.heap.size, 1, none⟩ = some (.int .i64 0) := (blk_cell HU1.out.cell 1).trans rfl
              have cd0 : wr.cell? ⟨wo.heap.size + 1, 0, none⟩ = some vd := (blk_cell HU2.out.cell 0).trans rfl
              have cd1 : wr.cell? ⟨wo.heap.size + 1, 1, none⟩ = some (.int .i64 0) := (blk_cell HU2.out.cell 1).trans rfl
              have HL1 : Sd (k51.R 51 wr w.heap.size (fun j => (w.heap.size ≤ j ∧ j < Wc.heap.size) ∨ Wf.heap.size ≤ j) u7 (headL l0_1 l0_2 l0_3 a0_6 j)) := ⟨Kd.R_mono HA.out.list (fun k hk => hk.1)⟩
              have Hv1 : Sd ((Kd.int .i64).R 3 wr w.heap.size (fun j => (w.heap.size ≤ j ∧ j < Wc.heap.size) ∨ Wf.heap.size ≤ j) vu (List.map (upF l0_2 l0_3 j) l0_1)) := ⟨Kd.R_mono HU1.out.row (fun k hk => Or.inr (Nat.le_trans HSO.out (HU1.out.own k hk)))⟩
              have Hv2 : Sd ((Kd.int .i64).R 3 wr w.heap.size (fun j => (w.heap.size ≤ j ∧ j < Wc.heap.size) ∨ Wf.heap.size ≤ j) vd (List.map (dnF l0_2 l0_3 j) l0_1)) := ⟨Kd.R_mono HU2.out.row (fun k hk => Or.inr (Nat.le_trans HSO.out (HU2.out.own k hk)))⟩
              have HSZ := Sd.mk (show 1 + 2 * j + 2 ≤ 100 by have H := HH.out; have := H.slen; have := H.o12; have := H.p6; have := HLF.out; have := HJT.out; omega)
              go_upto_region 18 with (fail)
              clear kz1 hm12
              go_wp2_with ((with_reducible refine gate_builtin (b := .append) (xs := #[.tmp 110, .tmp 113]) rfl ?_); at_builtin; refine Kd.R_append_rows k51 (w0 := w) w.heap.size rfl (.tmp 110) (.tmp 113) 46 51 (.agg #[.slice none 0 0, .int .i64 0]) 32 rfl Try.underlying46 info51 rfl (by decide) (by omega) u7 (headL l0_1 l0_2 l0_3 a0_6 j) (pairL l0_1 l0_2 l0_3 j) (some ⟨_, 0, none⟩) 2 2 (fun j => (w.heap.size ≤ j ∧ j < Wc.heap.size) ∨ Wf.heap.size ≤ j) (fun k => (fun j => (w.heap.size ≤ j ∧ j < Wc.heap.size) ∨ Wf.heap.size ≤ j) k ∧ some k ≠ u7.ownBlock) rfl rfl ?aO ?aR (fun _ _ hp => hp) (fun _ hk => hk) ?aF ?aB ?aS ?aL ?_; (case aO => exact (by (with_reducible repeat (first | apply Kd.R_alloc | apply Kd.R_drewN | apply Kd.R_drew)); exact HL1.out)); (case aR => exact pair_reads2 (x := ⟨List.map (upF l0_2 l0_3 j) l0_1, 0⟩) (x' := ⟨List.map (dnF l0_2 l0_3 j) l0_1, 0⟩) HL1.out (by rw [headL_len]; omega) Hv1.out Hv2.out (Or.inr HA.out.size) (below_size HA.out.below)); (case aB => exact (by repeat (first | (with_reducible first | exact HA.out.below | apply below_alloc | apply pw_below_drewN | apply below_drew1) | exact HA.out.below))); (case aF => exact (fun _ hk => Or.inr (Nat.le_trans (Nat.le_trans HA.out.size (by simp)) hk))); (case aS => exact below_size (by repeat (first | (with_reducible first | exact HA.out.below | apply below_alloc | apply pw_below_drewN | apply below_drew1) | exact HA.out.below))); (case aL => exact (by rw [headL_len]; exact Nat.le_trans (Nat.mul_le_mul_right 32 HSZ.out) (by decide))); intro v5 w5 ho hb hg hat; have BOX5 := blk_grown (blk_alloc HA.out.box _) hg (Kd.R_ne HA.out.list HA.out.box (by decide)); have HAX := Sd.mk (AllW.mk (okN := (fun j => (j < w.heap.size ∨ Wc.heap.size ≤ j) ∧ j < Wf.heap.size)) (okL := (fun j => (w.heap.size ≤ j ∧ j < Wc.heap.size) ∨ Wf.heap.size ≤ j)) hb (Nat.le_trans HA.out.size (Nat.le_trans (below_alloc (Below.refl _ _) _).size hg.size)) BOX5 (Kd.N_grown (Kd.N_below HA.out.forms (below_alloc (Below.refl _ _) _)) hg (fun k hk he => by have h1 : (k < w.heap.size ∨ Wc.heap.size ≤ k) ∧ k < Wf.heap.size := hk; have h2 : (w.heap.size ≤ k ∧ k < Wc.heap.size) ∨ Wf.heap.size ≤ k := HL1.out.1 k he.symm; omega)) ho); clear cu0 cu1 cd0 cd1 ho hb hg hat BOX5)
              have hfz := HFZ.out
              have hjt := HJT.out
              have hgj := HGJ.out
              try go_wp2
              go_roundg (fm.length - (j + 1))
              case measure => omega
              case rel => exact ⟨j + 1, by first | rfl | (rw [wrap_id (by omega) (by omega)]; rfl), by omega, by omega, HAX⟩
        · skip
          have hjz : ¬ (j : Int) < (fm.length : Int) := by omega
          obtain rfl : j = fm.length := by omega
          obtain ⟨wo, rfl⟩ : ∃ wo : World, wo = wr := ⟨_, rfl⟩
          have hU2 : (wo.alloc (.cells #[.slice none 0 0, .int .i64 0] 51)).heap.size = wo.heap.size + 1 := by simp
          have hA0 : AllW w Wc Wf wo #[.slice A0_0 l0_0.length c0_0, .slice A0_1 l0_1.length c0_1, .slice A0_2 l0_2.length c0_2, .slice A0_3 l0_3.length c0_3, .int .i64 a0_4, .int .i64 a0_5, .int .i64 a0_6] (fun j => (j < w.heap.size ∨ Wc.heap.size ≤ j) ∧ j < Wf.heap.size) (fun j => ((w.heap.size ≤ j ∧ j < Wc.heap.size) ∨ Wf.heap.size ≤ j) ∧ j < wo.heap.size) (.slice Af fm.length cf) fm u7 (headL l0_1 l0_2 l0_3 a0_6 fm.length) := by
            have h_ := HAW.out
            exact ⟨h_.below, h_.size, h_.box, h_.forms, Kd.R_mono (Kd.R_bound h_.list) (fun j hj => ⟨hj.1, hj.2.2.1⟩)⟩
          have HA := Sd.mk (hA0.later (below_alloc (below_alloc (Below.refl _ _) (.cells #[.slice none 0 0, .int .i64 0] 51)) (.cells #[.slice none 0 0, .int .i64 0] 51)))
          have HU1 : Sd (RowAt3 w wo ((wo.alloc (.cells #[.slice none 0 0, .int .i64 0] 51)).alloc (.cells #[.slice none 0 0, .int .i64 0] 51)) wo.heap.size (.slice none 0 0) (List.map (rUp a0_5) (l0_1.take 0))) :=
            ⟨⟨Nat.le_refl _, blk_alloc (blk_new wo _) _, R_int_own (Kd.R_nil _ _ _ _ (fun _ => True)), fun k hk => by simp [Value.ownBlock] at hk⟩⟩
          have HU2 : Sd (RowAt3 w wo ((wo.alloc (.cells #[.slice none 0 0, .int .i64 0] 51)).alloc (.cells #[.slice none 0 0, .int .i64 0] 51)) (wo.heap.size + 1) (.slice none 0 0) (List.map (rDn a0_4) (l0_1.take 0))) :=
            ⟨⟨Nat.le_succ _, by have h_ := blk_new (wo.alloc (.cells #[.slice none 0 0, .int .i64 0] 51)) (.cells #[.slice none 0 0, .int .i64 0] 51); rw [hU2] at h_; exact h_, R_int_own (Kd.R_nil _ _ _ _ (fun _ => True)), fun k hk => by simp [Value.ownBlock] at hk⟩⟩
          have HDI : Sd (∀ k, (Value.slice none 0 0).ownBlock = some k → (Value.slice none 0 0).ownBlock = some k → False) := ⟨fun k hk => by simp [Value.ownBlock] at hk⟩
          have HSO := Sd.mk hA0.size
          have HWO := Sd.mk (show w.heap.size < wo.heap.size from blk_lt hA0.box)
          have hrx := HH.out.redox
          have HRX := Sd.mk hrx
          clear hU2 hA0 HAW hgj hrx
          go_wp2
          generalize (wo.alloc (.cells #[.slice none 0 0, .int .i64 0] 51)).alloc (.cells #[.slice none 0 0, .int .i64 0] 51) = w1 at *
          go_loopg [15] l0_1.length (fun gq v15 wr => ∃ i : Nat, ∃ vu vd : Value, v15 = .int .i64 i ∧ i ≤ l0_1.length ∧ l0_1.length - i ≤ gq ∧ Sd (AllW w Wc Wf wr #[.slice A0_0 l0_0.length c0_0, .slice A0_1 l0_1.length c0_1, .slice A0_2 l0_2.length c0_2, .slice A0_3 l0_3.length c0_3, .int .i64 a0_4, .int .i64 a0_5, .int .i64 a0_6] (fun j => (j < w.heap.size ∨ Wc.heap.size ≤ j) ∧ j < Wf.heap.size) (fun j => ((w.heap.size ≤ j ∧ j < Wc.heap.size) ∨ Wf.heap.size ≤ j) ∧ j < wo.heap.size) (.slice Af fm.length cf) fm u7 (headL l0_1 l0_2 l0_3 a0_6 fm.length)) ∧ Sd (RowAt3 w wo wr wo.heap.size vu (List.map (rUp a0_5) (l0_1.take i))) ∧ Sd (RowAt3 w wo wr (wo.heap.size + 1) vd (List.map (rDn a0_4) (l0_1.take i))) ∧ Sd (∀ k, vu.ownBlock = some k → vd.ownBlock = some k → False))
          case atStart => exact ⟨0, _, _, rfl, Nat.zero_le _, by omega, HA, HU1, HU2, HDI⟩
          case round =>
            clear HA HU1 HU2 HDI
            obtain ⟨i, vu, vd, rfl, hi, hgi, HA, HU1, HU2, HDI⟩ := hrel
            have hm12 := HM12.out
            have kz1 : wr.cell? ⟨w.heap.size, 0 + 1, none⟩ = some (.slice A0_1 l0_1.length c0_1) := (blk_cell HA.out.box 1).trans rfl
            by_cases hit : i < l0_1.length
            · have hiz : (i : Int) < (l0_1.length : Int) := by omega
              obtain ⟨adM, A6, c6, rfl, hx0, hx1, hx2, hx3, hx4, hx5, hx6, hl6, hi6⟩ := at_T63 (Kd.C_below HR1.out HA.out.below) (i : Int) (by omega) hiz
              simp only [Int.toNat_natCast] at hx0 hx1 hx2 hx3 hx4 hx5 hx6
              go_upto_region 24 with (fail)
              clear hx0 hx1 hx2 hx3 hx4 hx5 hx6 kz1 hm12
              obtain ⟨M, hM⟩ : ∃ M : Nat, M = wr.heap.size := ⟨_, rfl⟩
              have hb1 := below_alloc (Below.refl wr.heap.size wr) (.cells #[.string (rd_T63 l0_1 (i : Int)).f0, .int .i64 (rd_T63 l0_1 (i : Int)).f1, .int .i64 (rd_T63 l0_1 (i : Int)).f2, .int .i64 (rd_T63 l0_1 (i : Int)).f3, .int .i64 (rd_T63 l0_1 (i : Int)).f4, .int .i64 (rd_T63 l0_1 (i : Int)).f5, .slice A6 (rd_T63 l0_1 (i : Int)).f6.length c6] 63)
              have bm := blk_new wr (.cells #[.string (rd_T63 l0_1 (i : Int)).f0, .int .i64 (rd_T63 l0_1 (i : Int)).f1, .int .i64 (rd_T63 l0_1 (i : Int)).f2, .int .i64 (rd_T63 l0_1 (i : Int)).f3, .int .i64 (rd_T63 l0_1 (i : Int)).f4, .int .i64 (rd_T63 l0_1 (i : Int)).f5, .slice A6 (rd_T63 l0_1 (i : Int)).f6.length c6] 63)
              have hu1 := blk_lt HU1.out.cell
              have hu2 := blk_lt HU2.out.cell
              have HMU1 := Sd.mk (show M ≠ wo.heap.size by omega)
              have HMU2 := Sd.mk (show M ≠ wo.heap.size + 1 by omega)
              clear hu1 hu2
              have hlb := lowM_bound (mat_gok HH.out hit)
              have hrr := (HH.out.mats i hit).redox
              have hrx := HRX.out
              have hp1 := mulr (c := a0_5) (by omega) (by omega) hlb.1 (Int.le_trans hlb.2.1 hlb.2.2)
              have hp2 := mulr (c := a0_5) (by omega) (by omega) (Int.le_trans hlb.1 hlb.2.1) hlb.2.2
              have hp3 := mulr (c := a0_4) (by omega) (by omega) hlb.1 (Int.le_trans hlb.2.1 hlb.2.2)
              have hp4 := mulr (c := a0_4) (by omega) (by omega) (Int.le_trans hlb.1 hlb.2.1) hlb.2.2
              have HP1 := Sd.mk (And.intro hp1 (And.intro hp2 (mn_in hp1 hp2)))
              have HP2 := Sd.mk (And.intro hp3 (And.intro hp4 (mx_in hp3 hp4)))
              have HRR := Sd.mk hrr
              clear hlb hrr hrx hp1 hp2 hp3 hp4
              obtain ⟨Kf, hKf⟩ := sumsF HH.out hit
              have hgo := rf_sums.calls Kf A6 c6 (rd_T63 l0_1 (i : Int)).f6 (lowM (rd_T63 l0_1 (i : Int))) (highM (rd_T63 l0_1 (i : Int))) (wr.alloc (.cells #[.string (rd_T63 l0_1 (i : Int)).f0, .int .i64 (rd_T63 l0_1 (i : Int)).f1, .int .i64 (rd_T63 l0_1 (i : Int)).f2, .int .i64 (rd_T63 l0_1 (i : Int)).f3, .int .i64 (rd_T63 l0_1 (i : Int)).f4, .int .i64 (rd_T63 l0_1 (i : Int)).f5, .slice A6 (rd_T63 l0_1 (i : Int)).f6.length c6] 63)) (Kd.C_below hi6 hb1) hl6 hKf
              have hm6 : (wr.alloc (.cells #[.string (rd_T63 l0_1 (i : Int)).f0, .int .i64 (rd_T63 l0_1 (i : Int)).f1, .int .i64 (rd_T63 l0_1 (i : Int)).f2, .int .i64 (rd_T63 l0_1 (i : Int)).f3, .int .i64 (rd_T63 l0_1 (i : Int)).f4, .int .i64 (rd_T63 l0_1 (i : Int)).f5, .slice A6 (rd_T63 l0_1 (i : Int)).f6.length c6] 63)).cell? ⟨wr.heap.size, 6, none⟩ = some (.slice A6 (rd_T63 l0_1 (i : Int)).f6.length c6) := (blk_cell bm 6).trans rfl
              replace HA := Sd.mk (HA.out.later hb1)
              replace HU1 := Sd.mk (HU1.out.later hb1)
              replace HU2 := Sd.mk (HU2.out.later hb1)
              have HM := Sd.mk bm
              clear hKf hi6 hl6 hb1 bm
              go_wp2_with fail
              clear hm6
              generalize wr.alloc (.cells #[.string (rd_T63 l0_1 (i : Int)).f0, .int .i64 (rd_T63 l0_1 (i : Int)).f1, .int .i64 (rd_T63 l0_1 (i : Int)).f2, .int .i64 (rd_T63 l0_1 (i : Int)).f3, .int .i64 (rd_T63 l0_1 (i : Int)).f4, .int .i64 (rd_T63 l0_1 (i : Int)).f5, .slice A6 (rd_T63 l0_1 (i : Int)).f6.length c6] 63) = W1 at *
              rw [← hM] at HM
              refine hgo.mono ?_
              clear hgo
              rintro e W2 ⟨rfl, ⟨nd, rfl⟩⟩
              have hb1 := pw_below_drewN (Below.refl W1.heap.size W1) nd
              replace HA := Sd.mk (HA.out.later hb1)
              replace HU1 := Sd.mk (HU1.out.later hb1)
              replace HU2 := Sd.mk (HU2.out.later hb1)
              replace HM := Sd.mk (blk_below HM.out hb1)
              clear hb1
              generalize W1.drewN nd = W2 at *
              rw [← hM]
              clear hM
              go_upto_region 25 with (fail)
              obtain ⟨Ax, cx, rfl⟩ := Kd.R_slice HU1.out.row
              have hfl : (List.map (rUp a0_5) (l0_1.take i)).length = i := by simp; omega
              have HFL := Sd.mk hfl
              have HSTEP : Sd (List.map (rUp a0_5) (l0_1.take i) ++ [1000000 * (rd_T63 l0_1 (i : Int)).f2 - mn (a0_5 * lowM (rd_T63 l0_1 (i : Int))) (a0_5 * highM (rd_T63 l0_1 (i : Int)))] = List.map (rUp a0_5) (l0_1.take (i + 1))) := ⟨by rw [List.take_succ_eq_append_getElem hit, List.map_append]; simp [rd_T63, hit]; rfl⟩
              have HNE1 := Sd.mk (Kd.R_ne HU1.out.row HU1.out.cell (by decide))
              have HNE2 := Sd.mk (Kd.R_ne HU1.out.row HU2.out.cell (by decide))
              have HNE3 := Sd.mk (Kd.R_ne HU1.out.row HA.out.box (by decide))
              have HNE4 := Sd.mk (Kd.R_ne HU1.out.row HM.out (by decide))
              have HNEB : Sd (∀ b, b < wo.heap.size → some b ≠ (Value.slice Ax (List.map (rUp a0_5) (l0_1.take i)).length cx).ownBlock) := ⟨fun b hb he => Nat.not_le_of_lt hb (HU1.out.own b he.symm)⟩
              have cu : W2.cell? ⟨wo.heap.size, 0, none⟩ = some (.slice Ax (List.map (rUp a0_5) (l0_1.take i)).length cx) := (blk_cell HU1.out.cell 0).trans rfl
              have cm : W2.cell? ⟨M, 2, none⟩ = some (.int .i64 (rd_T63 l0_1 (i : Int)).f2) := (blk_cell HM.out 2).trans rfl
              have cb : W2.cell? ⟨w.heap.size, 4 + 1, none⟩ = some (.int .i64 a0_5) := (blk_cell HA.out.box 5).trans rfl
              have cb2 : W2.cell? ⟨w.heap.size, 5, none⟩ = some (.int .i64 a0_5) := (blk_cell HA.out.box 5).trans rfl
              obtain ⟨⟨hq1, hq2⟩, ⟨hq3, hq4⟩, hq5, hq6⟩ := HP1.out
              obtain ⟨hq7, hq8⟩ := HRR.out
              clear hfl
              generalize hflv : List.map (rUp a0_5) (l0_1.take i) = flu at *
              clear hflv
              go_upto_region 26 with ((with_reducible refine gate_builtin (b := .append) (xs := #[.tmp 134, .tmp 150]) rfl ?_); at_builtin; refine Kd.R_append (Kd.int .i64) (w0 := w) w.heap.size rfl (.tmp 134) (.tmp 150) 30 3 (.int .i64 0) 8 rfl Try.underlying30 info3 rfl (by decide) (by omega) (.slice Ax flu.length cx) flu (1000000 * (rd_T63 l0_1 (i : Int)).f2 - mn (a0_5 * lowM (rd_T63 l0_1 (i : Int))) (a0_5 * highM (rd_T63 l0_1 (i : Int)))) [.int .i64 (1000000 * (rd_T63 l0_1 (i : Int)).f2 - mn (a0_5 * lowM (rd_T63 l0_1 (i : Int))) (a0_5 * highM (rd_T63 l0_1 (i : Int))))] (fun q => wo.heap.size ≤ q) (fun _ => False) rfl rfl ?aP (fun _ hk => hk.elim) ?aF ?aO ?aB ?aS ?aL ?_; (case aP => exact rfl); (case aB => exact HA.out.below); (case aF => exact (fun q hq => Nat.le_trans (by have h1 := HU1.out.cell; have h2 := blk_lt h1; have h3 := HU1.out.ge; omega) hq)); (case aO => exact Kd.R_mono HU1.out.row (fun q hq => HU1.out.own q hq)); (case aS => exact below_size HA.out.below); (case aL => exact (by rw [HFL.out]; exact Nat.le_trans (Nat.mul_le_mul_right 8 (show i + 1 ≤ 13 by have := HM12.out; omega)) (by decide))); intro v1 w5 ho hb hg hat; have HDJ : Sd (∀ q, v1.ownBlock = some q → vd.ownBlock = some q → False) := ⟨fun q hq hk => by (have hlt := ((Kd.R_bound HU2.out.row).1 q hk).2.2.1); (rcases hat with hat | ⟨b, hat, hb_⟩; exact (by (rw [hat] at hq); exact HDI.out q hq hk); (rw [hat] at hq); injection hq with hq; omega)⟩; have HV' := Sd.mk (HU2.out.grown hg HNE2.out (fun q hk hq => by first | exact HDI.out q hq.symm hk | exact HDI.out q hk hq.symm)); have HA' := Sd.mk (HA.out.grown hb hg HNE3.out (fun q hk => HNEB.out q (Nat.lt_of_lt_of_le hk.2 HSO.out)) (fun q hk => HNEB.out q hk.2)); have HM' := Sd.mk (blk_grown HM.out hg HNE4.out); have HBU := Sd.mk (blk_grown HU1.out.cell hg HNE1.out); have HGE := Sd.mk HU1.out.ge; have HO := Sd.mk (Kd.R_types (t := 51) ho HBU.out (by decide)); have HOW := Sd.mk ho.1; obtain ⟨A1', c1', rfl⟩ := Kd.R_slice ho; have hw0 : w5.cell? ⟨wo.heap.size, 0, none⟩ = some (.slice Ax flu.length cx) := (blk_cell HBU.out 0).trans rfl; have hwf := blk_frozen HBU.out 0; clear hb ho hg hat HNE1 HNE2 HNE3 HNE4 HNEB HU1 HU2 HDI HA HM cu cm cb cb2)
              clear hw0 hwf hq1 hq2 hq3 hq4 hq5 hq6 hq7 hq8
              have HU2 := Sd.mk (HV'.out.set (.slice A1' (flu.length + 1) c1') (by omega) HBU.out)
              have HBK := Sd.mk (blk_put (cs' := #[.slice A1' (flu.length + 1) c1', .int .i64 0]) HBU.out 0 (.slice A1' (flu.length + 1) c1') (by rfl))
              have HM := Sd.mk (blk_far (p := ⟨wo.heap.size, 0, none⟩) HM'.out HMU1.out (.slice A1' (flu.length + 1) c1'))
              have HA := Sd.mk (HA'.out.set (g := wo.heap.size) (.slice A1' (flu.length + 1) c1') (by have := HWO.out; omega) (fun q hk => by have := hk.2; have := HSO.out; omega) (fun q hk => by have := hk.2; omega))
              have HU1 : Sd (RowAt3 w wo (w5.setCell ⟨wo.heap.size, 0, none⟩ (.slice A1' (flu.length + 1) c1')) wo.heap.size (.slice A1' (flu.length + 1) c1') (List.map (rUp a0_5) (l0_1.take (i + 1)))) :=
                ⟨⟨HGE.out, HBK.out, by
                  have h_ := Kd.R_far (p := ⟨wo.heap.size, 0, none⟩) HO.out (fun _ hk => hk.2) (.slice A1' (flu.length + 1) c1')
                  rw [← HSTEP.out]
                  simpa using R_int_own h_, fun k hk => HOW.out k (by simpa using hk)⟩⟩
              have HDI : Sd (∀ k, (Value.slice A1' (flu.length + 1) c1').ownBlock = some k → vd.ownBlock = some k → False) := ⟨fun k h1 h2 => HDJ.out k (by simpa using h1) h2⟩
              clear HV' HBK HBU HGE HO HOW HDJ HFL HSTEP HA' HM'
              generalize w5.setCell ⟨wo.heap.size, 0, none⟩ (.slice A1' (flu.length + 1) c1') = Wu at *
              generalize Value.slice A1' (flu.length + 1) c1' = vu2 at *
              obtain ⟨Ax, cx, rfl⟩ := Kd.R_slice HU2.out.row
              have hfl : (List.map (rDn a0_4) (l0_1.take i)).length = i := by simp; omega
              have HFL := Sd.mk hfl
              have HSTEP : Sd (List.map (rDn a0_4) (l0_1.take i) ++ [mx (a0_4 * lowM (rd_T63 l0_1 (i : Int))) (a0_4 * highM (rd_T63 l0_1 (i : Int))) - 1000000 * (rd_T63 l0_1 (i : Int)).f2] = List.map (rDn a0_4) (l0_1.take (i + 1))) := ⟨by rw [List.take_succ_eq_append_getElem hit, List.map_append]; simp [rd_T63, hit]; rfl⟩
              have HNE1 := Sd.mk (Kd.R_ne HU2.out.row HU2.out.cell (by decide))
              have HNE2 := Sd.mk (Kd.R_ne HU2.out.row HU1.out.cell (by decide))
              have HNE3 := Sd.mk (Kd.R_ne HU2.out.row HA.out.box (by decide))
              have HNE4 := Sd.mk (Kd.R_ne HU2.out.row HM.out (by decide))
              have HNEB : Sd (∀ b, b < wo.heap.size → some b ≠ (Value.slice Ax (List.map (rDn a0_4) (l0_1.take i)).length cx).ownBlock) := ⟨fun b hb he => Nat.not_le_of_lt hb (HU2.out.own b he.symm)⟩
              have cu : Wu.cell? ⟨(wo.heap.size + 1), 0, none⟩ = some (.slice Ax (List.map (rDn a0_4) (l0_1.take i)).length cx) := (blk_cell HU2.out.cell 0).trans rfl
              have cm : Wu.cell? ⟨M, 2, none⟩ = some (.int .i64 (rd_T63 l0_1 (i : Int)).f2) := (blk_cell HM.out 2).trans rfl
              have cb : Wu.cell? ⟨w.heap.size, 4 + 0, none⟩ = some (.int .i64 a0_4) := (blk_cell HA.out.box 4).trans rfl
              have cb2 : Wu.cell? ⟨w.heap.size, 4, none⟩ = some (.int .i64 a0_4) := (blk_cell HA.out.box 4).trans rfl
              obtain ⟨⟨hq1, hq2⟩, ⟨hq3, hq4⟩, hq5, hq6⟩ := HP2.out
              obtain ⟨hq7, hq8⟩ := HRR.out
              clear hfl
              generalize hflv : List.map (rDn a0_4) (l0_1.take i) = fld at *
              clear hflv
              go_upto_region 22 with ((with_reducible refine gate_builtin (b := .append) (xs := #[.tmp 154, .tmp 170]) rfl ?_); at_builtin; refine Kd.R_append (Kd.int .i64) (w0 := w) w.heap.size rfl (.tmp 154) (.tmp 170) 30 3 (.int .i64 0) 8 rfl Try.underlying30 info3 rfl (by decide) (by omega) (.slice Ax fld.length cx) fld (mx (a0_4 * lowM (rd_T63 l0_1 (i : Int))) (a0_4 * highM (rd_T63 l0_1 (i : Int))) - 1000000 * (rd_T63 l0_1 (i : Int)).f2) [.int .i64 (mx (a0_4 * lowM (rd_T63 l0_1 (i : Int))) (a0_4 * highM (rd_T63 l0_1 (i : Int))) - 1000000 * (rd_T63 l0_1 (i : Int)).f2)] (fun q => wo.heap.size ≤ q) (fun _ => False) rfl rfl ?aP (fun _ hk => hk.elim) ?aF ?aO ?aB ?aS ?aL ?_; (case aP => exact rfl); (case aB => exact HA.out.below); (case aF => exact (fun q hq => Nat.le_trans (by have h1 := HU1.out.cell; have h2 := blk_lt h1; have h3 := HU1.out.ge; omega) hq)); (case aO => exact Kd.R_mono HU2.out.row (fun q hq => HU2.out.own q hq)); (case aS => exact below_size HA.out.below); (case aL => exact (by rw [HFL.out]; exact Nat.le_trans (Nat.mul_le_mul_right 8 (show i + 1 ≤ 13 by have := HM12.out; omega)) (by decide))); intro v1 w5 ho hb hg hat; have HDJ : Sd (∀ q, v1.ownBlock = some q → vu2.ownBlock = some q → False) := ⟨fun q hq hk => by (have hlt := ((Kd.R_bound HU1.out.row).1 q hk).2.2.1); (rcases hat with hat | ⟨b, hat, hb_⟩; exact (by (rw [hat] at hq); exact HDI.out q hk hq); (rw [hat] at hq); injection hq with hq; omega)⟩; have HV' := Sd.mk (HU1.out.grown hg HNE2.out (fun q hk hq => by first | exact HDI.out q hq.symm hk | exact HDI.out q hk hq.symm)); have HA' := Sd.mk (HA.out.grown hb hg HNE3.out (fun q hk => HNEB.out q (Nat.lt_of_lt_of_le hk.2 HSO.out)) (fun q hk => HNEB.out q hk.2)); have HM' := Sd.mk (blk_grown HM.out hg HNE4.out); have HBU := Sd.mk (blk_grown HU2.out.cell hg HNE1.out); have HGE := Sd.mk HU2.out.ge; have HO := Sd.mk (Kd.R_types (t := 51) ho HBU.out (by decide)); have HOW := Sd.mk ho.1; obtain ⟨A1', c1', rfl⟩ := Kd.R_slice ho; have hw0 : w5.cell? ⟨(wo.heap.size + 1), 0, none⟩ = some (.slice Ax fld.length cx) := (blk_cell HBU.out 0).trans rfl; have hwf := blk_frozen HBU.out 0; clear hb ho hg hat HNE1 HNE2 HNE3 HNE4 HNEB HU1 HU2 HDI HA HM cu cm cb cb2)
              clear hw0 hwf hq1 hq2 hq3 hq4 hq5 hq6 hq7 hq8
              have HU1 := Sd.mk (HV'.out.set (.slice A1' (fld.length + 1) c1') (by omega) HBU.out)
              have HBK := Sd.mk (blk_put (cs' := #[.slice A1' (fld.length + 1) c1', .int .i64 0]) HBU.out 0 (.slice A1' (fld.length + 1) c1') (by rfl))
              have HM := Sd.mk (blk_far (p := ⟨(wo.heap.size + 1), 0, none⟩) HM'.out HMU2.out (.slice A1' (fld.length + 1) c1'))
              have HA := Sd.mk (HA'.out.set (g := (wo.heap.size + 1)) (.slice A1' (fld.length + 1) c1') (by have := HWO.out; omega) (fun q hk => by have := hk.2; have := HSO.out; omega) (fun q hk => by have := hk.2; omega))
              have HU2 : Sd (RowAt3 w wo (w5.setCell ⟨(wo.heap.size + 1), 0, none⟩ (.slice A1' (fld.length + 1) c1')) (wo.heap.size + 1) (.slice A1' (fld.length + 1) c1') (List.map (rDn a0_4) (l0_1.take (i + 1)))) :=
                ⟨⟨HGE.out, HBK.out, by
                  have h_ := Kd.R_far (p := ⟨(wo.heap.size + 1), 0, none⟩) HO.out (fun _ hk => hk.2) (.slice A1' (fld.length + 1) c1')
                  rw [← HSTEP.out]
                  simpa using R_int_own h_, fun k hk => HOW.out k (by simpa using hk)⟩⟩
              have HDI : Sd (∀ k, vu2.ownBlock = some k → (Value.slice A1' (fld.length + 1) c1').ownBlock = some k → False) := ⟨fun k h1 h2 => HDJ.out k (by simpa using h2) h1⟩
              clear HV' HBK HBU HGE HO HOW HDJ HFL HSTEP HA' HM'
              generalize w5.setCell ⟨(wo.heap.size + 1), 0, none⟩ (.slice A1' (fld.length + 1) c1') = Wd at *
              generalize Value.slice A1' (fld.length + 1) c1' = vd2 at *
              go_wp2
              go_roundg (l0_1.length - (i + 1))
              case measure => omega
              case rel => exact ⟨i + 1, _, _, by first | rfl | (rw [wrap_id (by omega) (by omega)]; rfl), by omega, by omega, HA, HU1, HU2, HDI⟩
            · skip
              have hiz : ¬ (i : Int) < (l0_1.length : Int) := by omega
              obtain rfl : i = l0_1.length := by omega
              rw [List.take_length] at HU1 HU2
              have cu0 : wr.cell? ⟨wo.heap.size, 0, none⟩ = some vu := (blk_cell HU1.out.cell 0).trans rfl
              have cu1 : wr.cell? ⟨wo.heap.size, 1, none⟩ = some (.int .i64 0) := (blk_cell HU1.out.cell 1).trans rfl
              have cd0 : wr.cell? ⟨wo.heap.size + 1, 0, none⟩ = some vd := (blk_cell HU2.out.cell 0).trans rfl
              have cd1 : wr.cell? ⟨wo.heap.size + 1, 1, none⟩ = some (.int .i64 0) := (blk_cell HU2.out.cell 1).trans rfl
              have HL1 : Sd (k51.R 51 wr w.heap.size (fun _ => True) u7 (headL l0_1 l0_2 l0_3 a0_6 fm.length)) := ⟨Kd.R_mono HA.out.list (fun _ _ => trivial)⟩
              have Hv1 : Sd ((Kd.int .i64).R 3 wr w.heap.size (fun _ => True) vu (List.map (rUp a0_5) l0_1)) := ⟨Kd.R_mono HU1.out.row (fun _ _ => trivial)⟩
              have Hv2 : Sd ((Kd.int .i64).R 3 wr w.heap.size (fun _ => True) vd (List.map (rDn a0_4) l0_1)) := ⟨Kd.R_mono HU2.out.row (fun _ _ => trivial)⟩
              have HSZ := Sd.mk (show 1 + 2 * fm.length + 2 ≤ 100 by have H := HH.out; have := H.slen; have := H.o12; have := H.p6; have := HLF.out; omega)
              go_upto_region 27 with (fail)
              clear kz1 hm12
              go_wp2_with ((with_reducible refine gate_builtin (b := .append) (xs := #[.tmp 173, .tmp 176]) rfl ?_); at_builtin; refine Kd.R_append_rows k51 (w0 := w) w.heap.size rfl (.tmp 173) (.tmp 176) 46 51 (.agg #[.slice none 0 0, .int .i64 0]) 32 rfl Try.underlying46 info51 rfl (by decide) (by omega) u7 (headL l0_1 l0_2 l0_3 a0_6 fm.length) [⟨l0_1.map (rUp a0_5), 0⟩, ⟨l0_1.map (rDn a0_4), 0⟩] (some ⟨_, 0, none⟩) 2 2 (fun _ => True) (fun k => some k ≠ u7.ownBlock) rfl rfl ?aO ?aR (fun _ _ hp => hp) (fun _ hk => ⟨trivial, hk⟩) ?aF ?aB ?aS ?aL ?_; (case aO => exact Kd.R_alloc HL1.out _); (case aR => exact pair_reads (x := ⟨l0_1.map (rUp a0_5), 0⟩) (x' := ⟨l0_1.map (rDn a0_4), 0⟩) HL1.out (by rw [headL_len]; omega) Hv1.out Hv2.out (below_size HA.out.below)); (case aB => exact below_alloc HA.out.below _); (case aF => exact (fun _ _ => trivial)); (case aS => exact below_size (below_alloc HA.out.below _)); (case aL => exact (by rw [headL_len]; exact Nat.le_trans (Nat.mul_le_mul_right 32 HSZ.out) (by decide))); intro v5 w5 ho hb hg hat; have HO := Sd.mk ho; have HB5 := Sd.mk hb; clear cu0 cu1 cd0 cd1 ho hb hg hat)
              go_ret
              exact ⟨v5, rfl, by rw [linesV, ← HLF.out]; exact HO.out, HB5.out⟩
end Go.Proofs.Ytkjkokgbhepmoaa.PB

namespace Go.Proofs.Ytkjkokgbhepmoaa.PB
open Go.RowKit Go.Proofs.YtkjkokgbhepmoaaW.PrintWords Go.Proofs.YtkjkokgbhepmoaaW.PrintLast Go.Proofs.YtkjkokgbhepmoaaW.PrintMore
structure LnOk (n : Nat) (x : S51) : Prop where
  len : x.f0.length = n
  at_ : ∀ j : Nat, j < n → -1200000000 ≤ rd x.f0 (j : Int) ∧ rd x.f0 (j : Int) ≤ 1200000000
  b0 : x.f1 ≤ 0
  b1 : -10000000 ≤ x.f1
theorem ln_ok {mt : List S63} {fc : S63 → Int} {b : Int} (h : ∀ i : Nat, i < mt.length → -1200000000 ≤ fc (rd_T63 mt (i : Int)) ∧ fc (rd_T63 mt (i : Int)) ≤ 1200000000) (h0 : b ≤ 0) (h1 : -10000000 ≤ b) : LnOk mt.length ⟨mt.map fc, b⟩ := by
  refine ⟨List.length_map _, fun j hj => ?_, h0, h1⟩
  show -1200000000 ≤ rd (mt.map fc) (j : Int) ∧ rd (mt.map fc) (j : Int) ≤ 1200000000
  rw [rd_map mt fc j hj]
  exact h j hj
theorem mulc {c x : Int} (h1 : -20000 ≤ c) (h2 : c ≤ 20000) (h3 : 0 ≤ x) (h4 : x ≤ 1000) : -20000000 ≤ c * x ∧ c * x ≤ 20000000 := by
  have e1 := Int.mul_le_mul_of_nonneg_right h1 h3
  have e2 := Int.mul_le_mul_of_nonneg_right h2 h3
  omega
theorem muld {c x : Int} (h1 : -10000 ≤ c) (h2 : c ≤ 10000) (h3 : 0 ≤ x) (h4 : x ≤ 12000) : -120000000 ≤ c * x ∧ c * x ≤ 120000000 := by
  have e1 := Int.mul_le_mul_of_nonneg_right h1 h3
  have e2 := Int.mul_le_mul_of_nonneg_right h2 h3
  omega
theorem mat_tS {n : Nat} {x : S63} (M : MatOk n x) (hn : n ≤ 12) {df : Int → Int} (C : DfOk df n) : -240000000 ≤ gTS df x.f6 x.f6.length ∧ gTS df x.f6 x.f6.length ≤ 240000000 := by
  have h := sumTo_bound (f := gT df x.f6) (M := 20000000) (n := x.f6.length) (fun j hj => by
    rw [M.len] at hj
    have a1 := M.con j hj
    have a2 := C.at_ j hj
    have b1 := mulc (c := df j) (x := (rd_T27 x.f6 (j : Int)).f0) (by omega) (by omega) (by omega) (by omega)
    have b2 := mulc (c := df j) (x := (rd_T27 x.f6 (j : Int)).f1) (by omega) (by omega) (by omega) (by omega)
    unfold gT
    omega) x.f6.length (Nat.le_refl _)
  have := M.len
  unfold gTS
  omega
theorem mat_low {n : Nat} {x : S63} (M : MatOk n x) (hn : n ≤ 12) : (0 ≤ lowM x ∧ lowM x ≤ 12000) ∧ 0 ≤ highM x ∧ highM x ≤ 12000 := by
  have ha := lowM_bound (x := x) ⟨by rw [M.len]; exact hn, fun j hj => by rw [M.len] at hj; have := M.con j hj; omega⟩
  have h := sumTo_bound (f := fun j => (rd_T27 x.f6 (j : Int)).f1) (M := 1000) (n := x.f6.length) (fun j hj => by
    rw [M.len] at hj
    have a1 := M.con j hj
    omega) x.f6.length (Nat.le_refl _)
  have e : highM x = sumTo (fun j => (rd_T27 x.f6 (j : Int)).f1) x.f6.length := rfl
  have := M.len
  omega
section
variable {o : List ByteArray} {mt : List S63} {s : List S27} {p : List S65} {a4 a5 a6 : Int}
theorem pair_ln (H : BatchOk o mt s p a4 a5 a6) {j : Nat} (hj : j < s.length + p.length) : ∀ x ∈ pairL mt s p j, LnOk mt.length x := by
  have T := tg_ok H hj
  have C := coef_cfok H hj
  have ho := H.o12
  intro x hx
  simp only [pairL, List.mem_cons, List.not_mem_nil, or_false] at hx
  rcases hx with rfl | rfl
  · refine ln_ok (fun i hi => ?_) (by omega) (by omega)
    have := mat_tS (H.mats i hi) ho (df := fun k => coefOf s p j k - (tgOf s p j).f1) ⟨fun j' hj' => by
      have := C.at_ j' hj'
      omega⟩
    unfold upF
    omega
  · refine ln_ok (fun i hi => ?_) (by omega) (by omega)
    have := mat_tS (H.mats i hi) ho (df := fun k => (tgOf s p j).f0 - coefOf s p j k) ⟨fun j' hj' => by
      have := C.at_ j' hj'
      omega⟩
    unfold dnF
    omega
theorem head_ln (H : BatchOk o mt s p a4 a5 a6) : ∀ n, n ≤ s.length + p.length → ∀ x ∈ headL mt s p a6 n, LnOk mt.length x := by
  intro n
  induction n with
  | zero =>
    intro _ x hx
    simp only [headL, List.mem_cons, List.not_mem_nil, or_false] at hx
    subst hx
    have hw := H.wanted
    refine ln_ok (fun i hi => ?_) (by omega) (by omega)
    have := mat_low (H.mats i hi) H.o12
    omega
  | succ n ih =>
    intro hn x hx
    simp only [headL, List.mem_append] at hx
    rcases hx with hx | hx
    · exact ih (by omega) x hx
    · exact pair_ln H (by omega) x hx
theorem red_ln (H : BatchOk o mt s p a4 a5 a6) {u : Int} (hu : -10000 ≤ u ∧ u ≤ 10000) {i : Nat} (hi : i < mt.length) :
    (-1200000000 ≤ rUp u (rd_T63 mt (i : Int)) ∧ rUp u (rd_T63 mt (i : Int)) ≤ 1200000000) ∧ -1200000000 ≤ rDn u (rd_T63 mt (i : Int)) ∧ rDn u (rd_T63 mt (i : Int)) ≤ 1200000000 := by
  have hl := mat_low (H.mats i hi) H.o12
  have hr := (H.mats i hi).redox
  have h1 := muld hu.1 hu.2 hl.1.1 hl.1.2
  have h2 := muld hu.1 hu.2 hl.2.1 hl.2.2
  unfold rUp rDn mn mx
  constructor <;> split <;> omega
theorem lines_ln (H : BatchOk o mt s p a4 a5 a6) : ∀ x ∈ linesV mt s p a4 a5 a6, LnOk mt.length x := by
  have hr := H.redox
  intro x hx
  simp only [linesV, List.mem_append, List.mem_cons, List.not_mem_nil, or_false] at hx
  rcases hx with hx | rfl | rfl
  · exact head_ln H _ (Nat.le_refl _) x hx
  · exact ln_ok (fun i hi => (red_ln H (by omega) hi).1) (by omega) (by omega)
  · exact ln_ok (fun i hi => (red_ln H (by omega) hi).2) (by omega) (by omega)
end
theorem downs {n d : Int} (hd : 0 < d) (h1 : -7000000000000000000 ≤ n) (h2 : n ≤ 7000000000000000000) : ∃ v, batch_down.f n d = some v ∧ rf_floor.f n d = some v ∧ -7000000000000000001 ≤ v ∧ v ≤ 7000000000000000001 := by
  have e1 := Int.mul_tdiv_add_tmod n d
  have e2 := Int.tmod_lt_of_pos n hd
  have e3 : -d < Int.tmod n d := by
    have h := Int.tmod_lt_of_pos (-n) hd
    rw [Int.neg_tmod] at h
    omega
  have hq : Int.tdiv n d = if 0 ≤ n then n / d else -((-n) / d) := by
    split
    · rename_i h; exact Int.tdiv_eq_ediv_of_nonneg h
    · rename_i h
      have := Int.neg_tdiv (a := -n) (b := d)
      rw [Int.neg_neg] at this
      rw [this, Int.tdiv_eq_ediv_of_nonneg (by omega)]
  have e4 : -7000000000000000000 ≤ Int.tdiv n d ∧ Int.tdiv n d ≤ 7000000000000000000 := by
    rw [hq]
    split
    · rename_i h
      have a1 := Int.ediv_le_self d h
      have a2 := Int.ediv_nonneg h (show 0 ≤ d by omega)
      omega
    · rename_i h
      have a1 := Int.ediv_le_self d (show 0 ≤ -n by omega)
      have a2 := Int.ediv_nonneg (show 0 ≤ -n by omega) (show 0 ≤ d by omega)
      omega
  have e5 : Int.tdiv n d * d = d * Int.tdiv n d := Int.mul_comm ..
  have e6 : -8000000000000000000 ≤ Int.tdiv n d * d ∧ Int.tdiv n d * d ≤ 8000000000000000000 := by
    rw [hq]
    split
    · rename_i h
      have a1 := Int.ediv_mul_le n (show d ≠ 0 by omega)
      have a2 := Int.mul_nonneg (Int.ediv_nonneg h (show 0 ≤ d by omega)) (show 0 ≤ d by omega)
      omega
    · rename_i h
      have a1 := Int.ediv_mul_le (-n) (show d ≠ 0 by omega)
      have a2 := Int.mul_nonneg (Int.ediv_nonneg (show 0 ≤ -n by omega) (show 0 ≤ d by omega)) (show 0 ≤ d by omega)
      rw [Int.neg_mul]
      omega
  unfold batch_down.f rf_floor.f
  rw [if_neg (show ¬ d = 0 by omega), if_neg (show ¬ d = 0 by omega), wrap_id (x := Int.tdiv n d) (by omega) (by omega), wrap_id (x := Int.tdiv n d * d) (by omega) (by omega)]
  by_cases h : Int.tmod n d < 0
  · rw [if_pos h, if_pos (by omega), wrap_id (by omega) (by omega)]
    exact ⟨_, rfl, rfl, by omega, by omega⟩
  · rw [if_neg h, if_neg (by omega)]
    exact ⟨_, rfl, rfl, by omega, by omega⟩
theorem ups {n d : Int} (hd : 0 < d) (h1 : -7000000000000000000 ≤ n) (h2 : n ≤ 7000000000000000000) : ∃ v, batch_up.f n d = some v ∧ rf_ceiling.f n d = some v := by
  obtain ⟨v, e1, e2, e3, e4⟩ := downs (n := -n) hd (by omega) (by omega)
  refine ⟨wrap64 (-v), ?_, ?_⟩
  · unfold batch_up.f
    rw [wrap_id (x := -n) (by omega) (by omega), e1]; rfl
  · unfold rf_ceiling.f
    rw [wrap_id (x := -n) (by omega) (by omega), e2]; rfl
end Go.Proofs.Ytkjkokgbhepmoaa.PB

namespace Go.Proofs.Ytkjkokgbhepmoaa.PB
open Go.RowKit Go.Proofs.YtkjkokgbhepmoaaW.PrintWords Go.Proofs.YtkjkokgbhepmoaaW.PrintLast Go.Proofs.YtkjkokgbhepmoaaW.PrintMore
attribute [local go_sem] max2_int min2_int max_two min_two max_three min_three max_four min_four
end Go.Proofs.Ytkjkokgbhepmoaa.PB

namespace Go.Proofs.Ytkjkokgbhepmoaa.PB
open Go.RowKit Go.Proofs.YtkjkokgbhepmoaaW.PrintWords Go.Proofs.YtkjkokgbhepmoaaW.PrintLast Go.Proofs.YtkjkokgbhepmoaaW.PrintMore
def x_AllLines.f (l0_0 : List ByteArray) (l0_1 : List (S63)) (l0_2 : List (S27)) (l0_3 : List (S65)) (a0_4 : Int) (a0_5 : Int) (a0_6 : Int) : Option (List S51) :=
  if checkV l0_0 l0_1 l0_2 l0_3 a0_4 a0_5 a0_6 = 0 then some (linesV l0_1 l0_2 l0_3 a0_4 a0_5 a0_6) else none
theorem x_AllLines.calls (A0_0 : Option Addr) (c0_0 : Nat) (l0_0 : List ByteArray) (A0_1 : Option Addr) (c0_1 : Nat) (l0_1 : List (S63)) (A0_2 : Option Addr) (c0_2 : Nat) (l0_2 : List (S27)) (A0_3 : Option Addr) (c0_3 : Nat) (l0_3 : List (S65)) (a0_4 : Int) (a0_5 : Int) (a0_6 : Int) (r : List S51) (w : World) (hr0_0 : Kd.C Kd.string w A0_0 l0_0.length l0_0) (hc0_0 : l0_0.length ≤ c0_0) (hr0_1 : Kd.C k63 w A0_1 l0_1.length l0_1) (hc0_1 : l0_1.length ≤ c0_1) (hr0_2 : Kd.C k27 w A0_2 l0_2.length l0_2) (hc0_2 : l0_2.length ≤ c0_2) (hr0_3 : Kd.C k65 w A0_3 l0_3.length l0_3) (hc0_3 : l0_3.length ≤ c0_3) (h : x_AllLines.f l0_0 l0_1 l0_2 l0_3 a0_4 a0_5 a0_6 = some r) :
    Calls Try.prog 64 #[.agg #[.slice A0_0 l0_0.length c0_0, .slice A0_1 l0_1.length c0_1, .slice A0_2 l0_2.length c0_2, .slice A0_3 l0_3.length c0_3, .int .i64 a0_4, .int .i64 a0_5, .int .i64 a0_6]] w fun e w' => ∃ v0_ : Value, e = .returned v0_ ∧ Kd.R k51 51 w' w.heap.size (fun _ => True) v0_ r ∧ Below w.heap.size w w' := by
  unfold x_AllLines.f at h
  by_cases hc : checkV l0_0 l0_1 l0_2 l0_3 a0_4 a0_5 a0_6 = 0
  · rw [if_pos hc] at h
    obtain rfl := Option.some.inj h
    exact allLines_calls A0_0 c0_0 l0_0 A0_1 c0_1 l0_1 A0_2 c0_2 l0_2 A0_3 c0_3 l0_3 a0_4 a0_5 a0_6 w hr0_0 hc0_0 hr0_1 hc0_1 hr0_2 hc0_2 hr0_3 hc0_3 (check_ok hc)
  · rw [if_neg hc] at h; cases h
end Go.Proofs.Ytkjkokgbhepmoaa.PB

namespace Go.Proofs.Ytkjkokgbhepmoaa.PB
open Go.RowKit Go.Proofs.YtkjkokgbhepmoaaW.PrintWords Go.Proofs.YtkjkokgbhepmoaaW.PrintLast Go.Proofs.YtkjkokgbhepmoaaW.PrintMore
attribute [local go_sem] max2_int min2_int max_two min_two max_three min_three max_four min_four
end Go.Proofs.Ytkjkokgbhepmoaa.PB

namespace Go.Proofs.Ytkjkokgbhepmoaa.PB
open Go.RowKit Go.Proofs.YtkjkokgbhepmoaaW.PrintWords Go.Proofs.YtkjkokgbhepmoaaW.PrintLast Go.Proofs.YtkjkokgbhepmoaaW.PrintMore
attribute [local go_sem] max2_int min2_int max_two min_two max_three min_three max_four min_four
end Go.Proofs.Ytkjkokgbhepmoaa.PB

namespace Go.Proofs.Ytkjkokgbhepmoaa.PB
open Go.RowKit Go.Proofs.YtkjkokgbhepmoaaW.PrintWords Go.Proofs.YtkjkokgbhepmoaaW.PrintLast Go.Proofs.YtkjkokgbhepmoaaW.PrintMore
section
variable {o : List ByteArray} {mt : List S63} {s : List S27} {p : List S65} {a4 a5 a6 : Int}
theorem linesV_len : (linesV mt s p a4 a5 a6).length = 1 + 2 * (s.length + p.length) + 2 := by
  simp [linesV, headL_len]
end
section
variable (o : List ByteArray) (mt : List S63) (s : List S27) (p : List S65) (a4 a5 a6 : Int)
end
end Go.Proofs.Ytkjkokgbhepmoaa.PB

