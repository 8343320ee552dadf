import Derived.Test.YtljfljekcpdpiaaGreatD3
import Derived.Deep.RegionWith
import Derived.Deep.DeepCutAuto
import Derived.Shelf.Abstract
import Derived.Laws.EntriesVeiled
import Derived.KernelRfl
set_option linter.unusedVariables false
set_option linter.unusedSimpArgs false
set_option maxHeartbeats 8000000
set_option maxRecDepth 1000000
namespace Go.Proofs.YtljfljekcpdpiaaGreat.PB
open Go.RowKit Go.Proofs.YtljfljekcpdpiaaGreatW.PrintWords Go.Proofs.YtljfljekcpdpiaaGreatW.PrintLast Go.Proofs.YtljfljekcpdpiaaGreatW.PrintMore
open Go.Sort (putRow Holds)
section
attribute [local go_sem] max2_int min2_int max_two min_two
theorem mean_calls (cf : Int → Int) (A0 : Option Addr) (c0 : Nat) (l0 : List S27) (g : Nat) (lb : Array Value) (w : World) (eg : ∀ args w, (callFunc g args).run Tryz.prog w = .ok (.enter g args) w)
  (hr0 : Kd.C k27 w A0 l0.length l0) (hc0 : l0.length ≤ c0) (hq : CoefQ g lb cf l0.length w) (hok : MeanOk cf l0) :
  Calls Tryz.prog 85 #[.slice A0 l0.length c0, .func (.func g) #[] lb] w fun e w' => e = .returned (.agg #[.int .i64 (meanLo cf l0), .int .i64 (meanHi cf l0)]) ∧ Below w.heap.size w w' := by
 have hn := hok.n12
 have HR0 := Sd.mk hr0
 have HQ := Sd.mk hq
 have HOK := Sd.mk hok
 have HMK := print_make 30 3 .i64 8 Tryz.underlying30 info3 (by decide) l0.length (by omega)
 have hpos : 0 < l0.length := by
  rcases Nat.eq_zero_or_pos l0.length with h | h
  ·have := List.eq_nil_of_length_eq_zero h
   subst this
   exact absurd hok.pos (by simp)
  ·exact h
 have HN := Sd.mk hn
 clear hr0 hq hok
 go_enter Tryz.func85, Tryz.ntmps85
 go_wp2
 have hz0 : (madeCells #[Value.int .i64 0] l0.length) = (Array.ofFn fun _ : Fin l0.length => Value.int .i64 0) := by
  apply Array.ext
  ·simp [madeCells]
  ·intro i h1 h2; simp [madeCells, Nat.mod_one]
 rw [hz0]
 have hzb : (((w.alloc (.cells #[.func (.func g) #[] lb] 126)).alloc (.cells #[.int .i64 0, .int .i64 0] 27)).alloc (.cells (Array.ofFn fun _ : Fin l0.length => Value.int .i64 0) 3)).heap[w.heap.size + 1 + 1]? = some (.cells (Array.ofFn fun _ : Fin l0.length => Value.int .i64 0) 3 (0, 0)) := by
  have := blk_new ((w.alloc (.cells #[.func (.func g) #[] lb] 126)).alloc (.cells #[.int .i64 0, .int .i64 0] 27)) (.cells (Array.ofFn fun _ : Fin l0.length => Value.int .i64 0) 3)
  simpa using this
 have hrb : (((w.alloc (.cells #[.func (.func g) #[] lb] 126)).alloc (.cells #[.int .i64 0, .int .i64 0] 27)).alloc (.cells (Array.ofFn fun _ : Fin l0.length => Value.int .i64 0) 3)).heap[w.heap.size + 1]? = some (.cells #[.int .i64 0, .int .i64 0] 27 (0, 0)) := by
  have := blk_alloc (blk_new (w.alloc (.cells #[.func (.func g) #[] lb] 126)) (.cells #[.int .i64 0, .int .i64 0] 27)) (.cells (Array.ofFn fun _ : Fin l0.length => Value.int .i64 0) 3)
  simpa using this
 have hfb : (((w.alloc (.cells #[.func (.func g) #[] lb] 126)).alloc (.cells #[.int .i64 0, .int .i64 0] 27)).alloc (.cells (Array.ofFn fun _ : Fin l0.length => Value.int .i64 0) 3)).heap[w.heap.size]? = some (.cells #[.func (.func g) #[] lb] 126 (0, 0)) :=
  blk_alloc (blk_alloc (blk_new w (.cells #[.func (.func g) #[] lb] 126)) _) _
 have hbe : Below w.heap.size w (((w.alloc (.cells #[.func (.func g) #[] lb] 126)).alloc (.cells #[.int .i64 0, .int .i64 0] 27)).alloc (.cells (Array.ofFn fun _ : Fin l0.length => Value.int .i64 0) 3)) := below_alloc (below_alloc (below_alloc (Below.refl _ _) _) _) _
 generalize ((w.alloc (.cells #[.func (.func g) #[] lb] 126)).alloc (.cells #[.int .i64 0, .int .i64 0] 27)).alloc (.cells (Array.ofFn fun _ : Fin l0.length => Value.int .i64 0) 3) = w1 at *
 have hH : Holds (Value.int .i64) w1 (w.heap.size + 1 + 1) 0 (fillTo l0.length 0) := by
  intro j hj
  rw [fillTo_size] at hj
  rw [blk_cell hzb, blk_frozen hzb, getElem!_pos _ j (by rw [fillTo_size]; exact hj)]
  simp [fillTo, hj]
 have HH := Sd.mk hH
 have HZB := Sd.mk hzb
 have HRB := Sd.mk hrb
 have HFB := Sd.mk hfb
 have HBE := Sd.mk hbe
 clear hH hzb hrb hfb hbe hz0 HMK
 have hself : w1 = putRow (Value.int .i64) w1 (w.heap.size + 1 + 1) 0 (fillTo l0.length 0) := (Go.Sort.putRow_self _ _ _ _ _ HH.out).symm
 have HSELF := Sd.mk hself
 clear hself
 go_loopg [22] l0.length (fun gq v22 wr => ∃ k : Nat, v22 = .int .i64 k ∧ k ≤ l0.length ∧ l0.length - k ≤ gq ∧ wr = putRow (Value.int .i64) w1 (w.heap.size + 1 + 1) 0 (fillTo l0.length k))
 case atStart => exact ⟨0, rfl, Nat.zero_le _, by omega, HSELF.out⟩
 case round =>
  obtain ⟨k, rfl, hk, hgk, rfl⟩ := hrel
  by_cases hlt : k < l0.length
  ·have hltz : (k : Int) < (l0.length : Int) := by omega
   have hcell := (Go.Sort.holds_putRow (Value.int .i64) w1 (w.heap.size + 1 + 1) 0 (fillTo l0.length 0) (fillTo l0.length k) HH.out (by rw [fillTo_size, fillTo_size])) k (by rw [fillTo_size]; exact hlt)
   have hset := Go.Sort.putRow_set (Value.int .i64) w1 (w.heap.size + 1 + 1) 0 (fillTo l0.length k) k (k : Int) (by rw [fillTo_size]; exact hlt)
   rw [fillTo_step _ _ hlt] at hset
   simp only [Nat.zero_add] at hcell hset
   obtain ⟨hc1, hc2⟩ := hcell
   have HSET := Sd.mk hset
   clear hset
   generalize putRow (Value.int .i64) w1 (w.heap.size + 1 + 1) 0 (fillTo l0.length k) = wq at hc1 hc2 HSET ⊢
   generalize (fillTo l0.length k)[k]! = z at hc1
   go_wp2
   go_roundg (l0.length - (k + 1))
   case measure => omega
   case rel => exact ⟨k + 1, by go_num, by omega, by omega, HSET.out⟩
  ·have hltz : ¬ (k : Int) < (l0.length : Int) := by omega
   obtain rfl : k = l0.length := by omega
   rw [fillTo_all]
   have hio : Holds (Value.int .i64) (putRow (Value.int .i64) w1 (w.heap.size + 1 + 1) 0 (iotaA l0.length)) (w.heap.size + 1 + 1) 0 (iotaA l0.length) :=
    Go.Sort.holds_putRow (Value.int .i64) w1 (w.heap.size + 1 + 1) 0 (fillTo l0.length 0) (iotaA l0.length) HH.out (by rw [fillTo_size, iotaA_size])
   have hb2 : Below w.heap.size w (putRow (Value.int .i64) w1 (w.heap.size + 1 + 1) 0 (iotaA l0.length)) := below_putRow HBE.out (by omega) _
   have hf2 : (putRow (Value.int .i64) w1 (w.heap.size + 1 + 1) 0 (iotaA l0.length)).heap[w.heap.size]? = some (.cells #[.func (.func g) #[] lb] 126 (0, 0)) := blk_putRow HFB.out (by omega) _
   have hr2 : (putRow (Value.int .i64) w1 (w.heap.size + 1 + 1) 0 (iotaA l0.length)).heap[w.heap.size + 1]? = some (.cells #[.int .i64 0, .int .i64 0] 27 (0, 0)) := blk_putRow HRB.out (by omega) _
   generalize putRow (Value.int .i64) w1 (w.heap.size + 1 + 1) 0 (iotaA l0.length) = w2 at hio hb2 hf2 hr2 ⊢
   clear HH HZB HRB HFB HBE HSELF
   have hsort := sortFunc_calls (fun a b => cf a - cf b) l0.length 168 #[.pointer (some ⟨w.heap.size, 0, none⟩)] rfl (w.heap.size + 1 + 1) 0 l0.length (iotaA l0.length) w2 (enters_of Tryz.func168 (by kernel_rfl) rfl)
    (fun m dk _ x y hx0 hx1 hy0 hy1 => meanCmp_calls w.heap.size g lb cf l0.length w ((putRow (Value.int .i64) w2 (w.heap.size + 1 + 1) 0 dk).drewN m) eg HQ.out
     (pw_below_drewN (below_putRow hb2 (by omega) dk) m) ((blk_cell (blk_drewN (blk_putRow hf2 (by omega) dk) m) 0).trans rfl) x y hx0 hx1 hy0 hy1 (HOK.out.c1 x hx0 hx1) (HOK.out.c2 x hx0 hx1) (HOK.out.c1 y hy0 hy1) (HOK.out.c2 y hy0 hy1))
    hio (fun j hj => by rw [iotaA_size] at hj; rw [getElem!_pos _ j (by rw [iotaA_size]; exact hj)]; simp [iotaA]; omega) (by rw [iotaA_size]; exact HN.out)
   rw [iotaA_size] at hsort
   have HSORT := Sd.mk hsort
   have HB2 := Sd.mk hb2
   have HF2 := Sd.mk hf2
   have HR2 := Sd.mk hr2
   have HIO2 := Sd.mk hio
   clear hsort hb2 hf2 hr2 hio hltz
   go_wp2_with (go_at_call 167; refine HSORT.out.mono ?_; rintro e w3 ⟨rfl, m3, rfl⟩)
   have hD : orderOf cf l0.length = Sort.insertionSort (ltC fun a b => cf a - cf b) (iotaA l0.length) 0 l0.length := rfl
   rw [← hD]
   have hholds := Go.Sort.holds_putRow (Value.int .i64) w2 (w.heap.size + 1 + 1) 0 (iotaA l0.length) (orderOf cf l0.length) HIO2.out (by rw [order_size, iotaA_size])
   have hsz : (putRow (Value.int .i64) w2 (w.heap.size + 1 + 1) 0 (orderOf cf l0.length)).heap.size = w2.heap.size := Go.Sort.size_putRow _ _ _ _ _
   have h5lt : w.heap.size + 1 + 1 < w2.heap.size := by
    have := World.block_lt_of_cell? _ _ ((hholds 0 (by rw [order_size]; exact hpos)).1)
    rw [hsz] at this; exact this
   have hout : OutW w w.heap.size (w.heap.size + 1) (w.heap.size + 1 + 1) w2.heap.size g lb (orderOf cf l0.length)
     (((putRow (Value.int .i64) w2 (w.heap.size + 1 + 1) 0 (orderOf cf l0.length)).drewN m3).alloc (.cells #[.int .i64 0, .int .i64 0] 27)) 0 0 := by
    refine ⟨below_alloc (pw_below_drewN (below_putRow HB2.out (by omega) _) m3) _, blk_alloc (blk_drewN (blk_putRow HF2.out (by omega) _) m3) _, blk_alloc (blk_drewN (blk_putRow HR2.out (by omega) _) m3) _, fun j hj => ?_, ?_⟩
    ·have := (hholds j hj).1
     simp only [Nat.zero_add] at this
     exact pw_cell_below (below_alloc (pw_below_drewN (Below.refl _ _) m3) _) this
    ·have := blk_new ((putRow (Value.int .i64) w2 (w.heap.size + 1 + 1) 0 (orderOf cf l0.length)).drewN m3) (.cells #[.int .i64 0, .int .i64 0] 27)
     simpa [hsz] using this
   generalize ((putRow (Value.int .i64) w2 (w.heap.size + 1 + 1) 0 (orderOf cf l0.length)).drewN m3).alloc (.cells #[.int .i64 0, .int .i64 0] 27) = w4 at hout ⊢
   generalize w2.heap.size = Bo at hout h5lt ⊢
   have HOUT := Sd.mk hout
   have hsD := order_size cf l0.length
   have hAll := order_in cf l0.length
   have HSD := Sd.mk hsD
   have HALL := Sd.mk hAll
   have HPERM := Sd.mk (order_perm cf l0.length)
   have HFIN : Sd (meanLo cf l0 = minF (lowQ cf l0 (orderOf cf l0.length)) l0.length ∧ meanHi cf l0 = maxF (highQ cf l0 (orderOf cf l0.length)) l0.length) := ⟨⟨rfl, rfl⟩⟩
   clear hout hholds hsz hD HSORT HB2 HF2 HR2 HIO2 hsD hAll
   generalize orderOf cf l0.length = D at HOUT HSD HALL HFIN HPERM
   go_loopg [8] (l0.length + 1) (fun gq v8 wr => ∃ cut : Nat, v8 = .int .i64 cut ∧ cut ≤ l0.length + 1 ∧ l0.length + 1 - cut ≤ gq ∧ Sd (OutW w w.heap.size (w.heap.size + 1) (w.heap.size + 1 + 1) Bo g lb D wr (atCut (lowQ cf l0 D) minF cut) (atCut (highQ cf l0 D) maxF cut)))
   case atStart => exact ⟨0, rfl, by omega, by omega, HOUT⟩
   case round =>
    obtain ⟨cut, rfl, hcut, hgq, HO⟩ := hrel
    by_cases hle : cut ≤ l0.length
    ·have hlez : (cut : Int) ≤ (l0.length : Int) := by omega
     go_wp2
     have hsz2 : wr.heap.size + 1 = (wr.alloc (.cells #[.int .i64 0, .int .i64 0] 190)).heap.size := by simp
     have hmw : MeanW wr ((wr.alloc (.cells #[.int .i64 0, .int .i64 0] 190)).alloc (.cells #[.int .i64 0, .int .i64 0] 190)) wr.heap.size (wr.heap.size + 1) 0 0 0 0 :=
      ⟨below_alloc (below_alloc (Below.refl _ _) _) _, blk_alloc (blk_new wr _) _, by rw [hsz2]; exact blk_new _ _⟩
     have HMW := Sd.mk hmw
     clear hmw hsz2
     generalize (wr.alloc (.cells #[.int .i64 0, .int .i64 0] 190)).alloc (.cells #[.int .i64 0, .int .i64 0] 190) = w5 at HMW ⊢
     obtain ⟨wo, rfl⟩ : ∃ wo : World, wo = wr := ⟨_, rfl⟩
     go_loopg [41] l0.length (fun gq2 v41 wr2 => ∃ at_ : Nat, v41 = .int .i64 at_ ∧ at_ ≤ l0.length ∧ l0.length - at_ ≤ gq2 ∧ Sd (MeanW wo wr2 wo.heap.size (wo.heap.size + 1) (lowN cf l0 D cut at_) (lowD l0 D cut at_) (highN cf l0 D cut at_) (highD l0 D cut at_)))
     case atStart => exact ⟨0, rfl, by omega, by omega, HMW⟩
     case round =>
      obtain ⟨at_, rfl, hat, hgq2, HM⟩ := hrel
      by_cases hlt2 : at_ < l0.length
      ·have hltz2 : (at_ : Int) < (l0.length : Int) := by omega
       have hm := HM.out
       have ho := HO.out.later hm.below
       have hj := HALL.out at_ (by rw [HSD.out]; exact hlt2)
       have hord := ho.row at_ (by rw [HSD.out]; exact hlt2)
       have hfn : wr.cell? ⟨w.heap.size, 0, none⟩ = some (.func (.func g) #[] lb) := (blk_cell ho.fn 0).trans rfl
       have hrg := mean_ranges HOK.out D HALL.out HSD.out cut at_ hlt2
       have hb1 := mean_sums HOK.out D HALL.out HSD.out cut at_ hat
       have hstep : lowN cf l0 D cut (at_ + 1) = lowN cf l0 D cut at_ + cf D[at_]! * wX l0 D cut at_ ∧ lowD l0 D cut (at_ + 1) = lowD l0 D cut at_ + wX l0 D cut at_ ∧ highN cf l0 D cut (at_ + 1) = highN cf l0 D cut at_ + cf D[at_]! * wY l0 D cut at_ ∧ highD l0 D cut (at_ + 1) = highD l0 D cut at_ + wY l0 D cut at_ := ⟨rfl, rfl, rfl, rfl⟩
       have HSTEP := Sd.mk hstep
       clear hstep
       have hX : wX l0 D cut at_ = if (at_ : Int) < (cut : Int) then (rd_T27 l0 D[at_]!).f1 else (rd_T27 l0 D[at_]!).f0 := rfl
       have hY : wY l0 D cut at_ = if (at_ : Int) < (cut : Int) then (rd_T27 l0 D[at_]!).f0 else (rd_T27 l0 D[at_]!).f1 := rfl
       have hcoef : ∀ W, Below wo.heap.size wo W → Calls Tryz.prog g (#[.int .i64 D[at_]!] ++ lb) W fun e w' => e = .returned (.int .i64 (cf D[at_]!)) ∧ ∃ q, w' = W.drewN q := fun W hW => HQ.out W (below_trans' HO.out.below hW) _ hj.1 hj.2
       obtain ⟨hj0, hj1⟩ := hj
       obtain ⟨ads, es, hs0, hs1⟩ := at_T27 (Kd.C_below HR0.out ho.below) D[at_]! hj0 hj1
       cases es
       generalize wX l0 D cut at_ = X at *
       generalize wY l0 D cut at_ = Y at *
       generalize cf D[at_]! = ck at *
       generalize rd_T27 l0 D[at_]! = sp at *
       generalize D[at_]! = kk at *
       have HC := Sd.mk hcoef
       have HX := Sd.mk hX
       have HY := Sd.mk hY
       have HRG := Sd.mk hrg
       have HB1 := Sd.mk hb1
       have hlen12 := HN.out
       clear hcoef hX hY hrg hb1 ho hm
       go_upto_region 16 with (fail)
       go_quiet (fail)
       go_upto_if 58 with (fail)
       go_cut [13, 14] (fun v13 v14 wx => v13 = .int .i64 X ∧ v14 = .int .i64 Y ∧ wr.drewN nq = wx)
       case first =>
        by_cases hac : (at_ : Int) < (cut : Int)
        ·go_wp2
         go_meet
         exact ⟨by rw [HX.out, if_pos hac], by rw [HY.out, if_pos hac], rfl⟩
        ·go_wp2
         go_meet
         exact ⟨by rw [HX.out, if_neg (show ¬ (at_ : Int) < (cut : Int) by omega)], by rw [HY.out, if_neg (show ¬ (at_ : Int) < (cut : Int) by omega)], rfl⟩
       case rest =>
        obtain ⟨rfl, rfl, rfl⟩ := hcut
        have hm := HM.out.drewN nq
        clear hfn hord hs0 hs1 HM HX HY
        obtain ⟨hX1, hY1, hp1, hp2⟩ := HRG.out
        obtain ⟨hs1, hs2, hs3, hs4⟩ := HB1.out
        obtain ⟨es1, es2, es3, es4⟩ := HSTEP.out
        have HW1 := Sd.mk (wrap_two es1 hs1.1 hs1.2 hp1.1 hp1.2)
        have HW2 := Sd.mk (wrap_one es2 hs2.1 hs2.2 hX1.1 hX1.2)
        have HW3 := Sd.mk (wrap_two es3 hs3.1 hs3.2 hp2.1 hp2.2)
        have HW4 := Sd.mk (wrap_one es4 hs4.1 hs4.2 hY1.1 hY1.2)
        clear hX1 hY1 hp1 hp2 hs1 hs2 hs3 hs4 es1 es2 es3 es4 HSTEP HRG HB1
        generalize wr.drewN nq = wn at hm ⊢
        have HM2 := Sd.mk hm
        have h90 : wn.cell? ⟨wo.heap.size, 0, none⟩ = some (.int .i64 (lowN cf l0 D cut at_)) := (blk_cell hm.b9 0).trans rfl
        have h91 : wn.cell? ⟨wo.heap.size, 1, none⟩ = some (.int .i64 (lowD l0 D cut at_)) := (blk_cell hm.b9 1).trans rfl
        have h92 := blk_frozen hm.b9 0
        have h93 := blk_frozen hm.b9 1
        have hfn : wn.cell? ⟨w.heap.size, 0, none⟩ = some (.func (.func g) #[] lb) := (blk_cell (HO.out.later hm.below).fn 0).trans rfl
        have hc1 := HC.out wn.drew (below_drew hm.below)
        clear hm
        go_upto_region 19 with (fail)
        go_cut [12] (fun v12 wx => v12 = .int .i64 kk ∧ Sd (MeanW wo wx wo.heap.size (wo.heap.size + 1) (lowN cf l0 D cut (at_ + 1)) (lowD l0 D cut (at_ + 1)) (highN cf l0 D cut at_) (highD l0 D cut at_)))
        case first =>
         clear HSD HALL HFIN HOUT HN HO HC HQ HR0 HOK
         go_region_with (go_at_fn g; refine hc1.mono ?_; rintro e w' ⟨rfl, q, rfl⟩)
         all_goals
          go_wp2_with fail
          go_meet
          refine ⟨rfl, ⟨?_⟩⟩
          rw [HW1.out, HW2.out]
          exact (HM2.out.drewN _).put9 (Nat.le_refl _) (by omega) _ _
        case rest =>
         clear h90 h91 h92 h93 hfn hc1 HM2
         rename_i wn2
         obtain ⟨rfl, HM2⟩ := hcut
         have hm := HM2.out
         have h90 : wc.cell? ⟨wo.heap.size + 1, 0, none⟩ = some (.int .i64 (highN cf l0 D cut at_)) := (blk_cell hm.b10 0).trans rfl
         have h91 : wc.cell? ⟨wo.heap.size + 1, 1, none⟩ = some (.int .i64 (highD l0 D cut at_)) := (blk_cell hm.b10 1).trans rfl
         have h92 := blk_frozen hm.b10 0
         have h93 := blk_frozen hm.b10 1
         have hfn : wc.cell? ⟨w.heap.size, 0, none⟩ = some (.func (.func g) #[] lb) := (blk_cell (HO.out.later hm.below).fn 0).trans rfl
         have hc1 := HC.out wc.drew (below_drew hm.below)
         clear hm
         go_upto_region 20 with (fail)
         go_region_with (go_at_fn g; refine hc1.mono ?_; rintro e w' ⟨rfl, q, rfl⟩)
         all_goals
          have hm4 : MeanW wo (((wc.drewN (1 + q)).setCell ⟨wo.heap.size + 1, 0, none⟩ (.int .i64 (IntKind.i64.wrap (highN cf l0 D cut at_ + IntKind.i64.wrap (ck * Y))))).setCell ⟨wo.heap.size + 1, 1, none⟩ (.int .i64 (IntKind.i64.wrap (highD l0 D cut at_ + Y)))) wo.heap.size (wo.heap.size + 1) (lowN cf l0 D cut (at_ + 1)) (lowD l0 D cut (at_ + 1)) (highN cf l0 D cut (at_ + 1)) (highD l0 D cut (at_ + 1)) := by
           rw [HW3.out, HW4.out]
           exact (HM2.out.drewN _).put10 (by omega) (by omega) _ _
          have HM4 := Sd.mk hm4
          clear hm4 h90 h91 h92 h93 hfn hc1
          generalize ((wc.drewN (1 + q)).setCell ⟨wo.heap.size + 1, 0, none⟩ (.int .i64 (IntKind.i64.wrap (highN cf l0 D cut at_ + IntKind.i64.wrap (ck * Y))))).setCell ⟨wo.heap.size + 1, 1, none⟩ (.int .i64 (IntKind.i64.wrap (highD l0 D cut at_ + Y))) = w9 at HM4 ⊢
          go_wp2
          go_roundg (l0.length - (at_ + 1))
          case measure => omega
          case rel => exact ⟨at_ + 1, by go_num, by omega, by omega, HM4⟩
      ·have hltz2 : ¬ (at_ : Int) < (l0.length : Int) := by omega
       obtain rfl : at_ = l0.length := by omega
       have hm := HM.out
       have ho := HO.out.later hm.below
       have hsm := mean_sums HOK.out D HALL.out HSD.out cut l0.length (Nat.le_refl _)
       have hpl : 0 < lowD l0 D cut l0.length ∧ 0 < highD l0 D cut l0.length := mean_pos HOK.out D HALL.out HSD.out HPERM.out cut
       have hq58 : ∀ W, Calls Tryz.prog 169 #[.int .i64 (lowN cf l0 D cut l0.length), .int .i64 (lowD l0 D cut l0.length)] W fun e w' => e = .returned (.int .i64 (lowQ cf l0 D cut)) ∧ ∃ q, w' = W.drewN q := fun W =>
        (b_down.calls _ _ _ W (down_f _ _ hpl.1 (by omega) (by omega))).mono fun e w' ⟨h1, h2⟩ => ⟨h1, h2.out⟩
       have hq59 : ∀ W, Calls Tryz.prog 96 #[.int .i64 (highN cf l0 D cut l0.length), .int .i64 (highD l0 D cut l0.length)] W fun e w' => e = .returned (.int .i64 (highQ cf l0 D cut)) ∧ ∃ q, w' = W.drewN q := fun W =>
        (b_up.calls _ _ _ W (up_f _ _ hpl.2 (by omega) (by omega))).mono fun e w' ⟨h1, h2⟩ => ⟨h1, h2.out⟩
       have h90 : wr.cell? ⟨wo.heap.size, 0, none⟩ = some (.int .i64 (lowN cf l0 D cut l0.length)) := (blk_cell hm.b9 0).trans rfl
       have h91 : wr.cell? ⟨wo.heap.size, 1, none⟩ = some (.int .i64 (lowD l0 D cut l0.length)) := (blk_cell hm.b9 1).trans rfl
       have h92 : wr.cell? ⟨wo.heap.size + 1, 0, none⟩ = some (.int .i64 (highN cf l0 D cut l0.length)) := (blk_cell hm.b10 0).trans rfl
       have h93 : wr.cell? ⟨wo.heap.size + 1, 1, none⟩ = some (.int .i64 (highD l0 D cut l0.length)) := (blk_cell hm.b10 1).trans rfl
       have H58 := Sd.mk hq58
       have H59 := Sd.mk hq59
       have HO2 := Sd.mk ho
       have ho0 : wr.cell? ⟨Bo, 0, none⟩ = some (.int .i64 (atCut (lowQ cf l0 D) minF cut)) := (blk_cell ho.out 0).trans rfl
       have ho1 : wr.cell? ⟨Bo, 1, none⟩ = some (.int .i64 (atCut (highQ cf l0 D) maxF cut)) := (blk_cell ho.out 1).trans rfl
       have ho2 := blk_frozen ho.out 0
       have ho3 := blk_frozen ho.out 1
       clear hq58 hq59 hm ho hsm hpl
       go_upto_region 22 with (fail)
       go_quiet (first | (go_at_call 169; exact Calls.quiet_of (H58.out _)) | (go_at_call 96; exact Calls.quiet_of (H59.out _)))
       have ho4 := HO2.out.drewN nq
       have HO4 := Sd.mk ho4
       have hBo : w.heap.size ≤ Bo := by omega
       cases cut with
       | zero =>
        have hcb : (((0 : Nat) : Int) == 0) = true := rfl
        have e1 : atCut (lowQ cf l0 D) minF (0 + 1) = lowQ cf l0 D 0 := rfl
        have e2 : atCut (highQ cf l0 D) maxF (0 + 1) = highQ cf l0 D 0 := rfl
        have E12 := Sd.mk (And.intro e1 e2)
        clear e1 e2 H58 H59 ho4
        generalize lowQ cf l0 D 0 = q1 at *
        generalize highQ cf l0 D 0 = q2 at *
        have hcz : ((0 : Nat) : Int) = 0 := rfl
        rw [hcz]
        generalize wr.drewN nq = w8 at *
        have ho0' : w8.cell? ⟨Bo, 0, none⟩ = some (.int .i64 0) := (blk_cell HO4.out.out 0).trans rfl
        have ho1' : w8.cell? ⟨Bo, 1, none⟩ = some (.int .i64 0) := (blk_cell HO4.out.out 1).trans rfl
        have ho2' := blk_frozen HO4.out.out 0
        have ho3' := blk_frozen HO4.out.out 1
        go_wp2
        go_roundg l0.length
        case measure => omega
        case rel => exact ⟨1, by first | rfl | go_num, by omega, by omega, ⟨by rw [E12.out.1, E12.out.2]; exact (HO4.out.put hBo (by omega) (by omega) (by omega) q1 q2).put hBo (by omega) (by omega) (by omega) q1 q2⟩⟩
       | succ cc =>
        have hcb : (((cc : Int) + 1) == 0) = false := by simp; omega
        have e1 : atCut (lowQ cf l0 D) minF (cc + 1 + 1) = if lowQ cf l0 D (cc + 1) < atCut (lowQ cf l0 D) minF (cc + 1) then lowQ cf l0 D (cc + 1) else atCut (lowQ cf l0 D) minF (cc + 1) := rfl
        have e2 : atCut (highQ cf l0 D) maxF (cc + 1 + 1) = if atCut (highQ cf l0 D) maxF (cc + 1) < highQ cf l0 D (cc + 1) then highQ cf l0 D (cc + 1) else atCut (highQ cf l0 D) maxF (cc + 1) := rfl
        have E12 := Sd.mk (And.intro e1 e2)
        clear e1 e2 H58 H59 ho4
        generalize lowQ cf l0 D (cc + 1) = q1 at *
        generalize highQ cf l0 D (cc + 1) = q2 at *
        generalize atCut (lowQ cf l0 D) minF (cc + 1) = x1 at *
        generalize atCut (highQ cf l0 D) maxF (cc + 1) = y1 at *
        rw [show ((cc + 1 : Nat) : Int) = (cc : Int) + 1 from by omega]
        generalize wr.drewN nq = w8 at *
        have ho0' : w8.cell? ⟨Bo, 0, none⟩ = some (.int .i64 x1) := (blk_cell HO4.out.out 0).trans rfl
        have ho1' : w8.cell? ⟨Bo, 1, none⟩ = some (.int .i64 y1) := (blk_cell HO4.out.out 1).trans rfl
        have ho2' := blk_frozen HO4.out.out 0
        have ho3' := blk_frozen HO4.out.out 1
        have hr1 : (cc : Int) + 1 ≤ 12 := by have := HN.out; omega
        have hr0 : 0 ≤ (cc : Int) := by omega
        go_wp2
        all_goals
         go_roundg (l0.length - (cc + 1))
         case measure => omega
         case rel => exact ⟨cc + 1 + 1, by first | rfl | go_num, by omega, by omega, ⟨by rw [E12.out.1, E12.out.2]; (first | rw [if_pos (show q1 < x1 by assumption)] | rw [if_neg (show ¬ q1 < x1 by omega)]); (first | rw [if_pos (show y1 < q2 by assumption)] | rw [if_neg (show ¬ y1 < q2 by omega)]); exact HO4.out.put hBo (by omega) (by omega) (by omega) _ _⟩⟩
    ·have hlez : ¬ (cut : Int) ≤ (l0.length : Int) := by omega
     obtain rfl : cut = l0.length + 1 := by omega
     have ho := HO.out
     have c0 : wr.cell? ⟨Bo, 0, none⟩ = some (.int .i64 (meanLo cf l0)) := by rw [HFIN.out.1]; exact (blk_cell ho.out 0).trans rfl
     have c1 : wr.cell? ⟨Bo, 1, none⟩ = some (.int .i64 (meanHi cf l0)) := by rw [HFIN.out.2]; exact (blk_cell ho.out 1).trans rfl
     have r0 : wr.cell? ⟨w.heap.size + 1, 0, none⟩ = some (.int .i64 0) := (blk_cell ho.res 0).trans rfl
     have r1 : wr.cell? ⟨w.heap.size + 1, 1, none⟩ = some (.int .i64 0) := (blk_cell ho.res 1).trans rfl
     have f0 := blk_frozen ho.res 0
     have f1 := blk_frozen ho.res 1
     clear ho
     go_wp2
     refine bodyPost_ret (results_cell_row rfl _ _ (w.heap.size + 1) 27 #[.int .i64 (meanLo cf l0), .int .i64 (meanHi cf l0)] (0, 0) _ rfl (blk_put (cs := #[.int .i64 (meanLo cf l0), .int .i64 0]) (blk_put (cs := #[.int .i64 0, .int .i64 0]) HO.out.res 0 _ rfl) 1 _ rfl) Tryz.underlying27 (by decide) (by kernel_rfl)) rfl ?_
     exact ⟨rfl, below_set (below_set HO.out.below (by omega)) (by omega)⟩
end
section
open Go.RowKit Go.Proofs.YtljfljekcpdpiaaGreatW.PrintWords Go.Proofs.YtljfljekcpdpiaaGreatW.PrintLast Go.Proofs.YtljfljekcpdpiaaGreatW.PrintMore
def meanOkB (cf : Int → Int) (l : List S27) : Bool :=
 decide (l.length ≤ 12) && ((List.range l.length).all fun j => decide (0 ≤ (rd_T27 l (j : Int)).f0) && decide ((rd_T27 l (j : Int)).f0 ≤ (rd_T27 l (j : Int)).f1) && decide ((rd_T27 l (j : Int)).f1 ≤ 1000000000) && decide (-100000 ≤ cf j) && decide (cf j ≤ 100000)) && decide (0 < MeanMath.lsum S27.f0 l)
theorem meanOkB_iff {cf : Int → Int} {l : List S27} : meanOkB cf l = true ↔ MeanOk cf l := by
 unfold meanOkB
 simp only [Bool.and_eq_true, decide_eq_true_eq, List.all_eq_true, List.mem_range]
 constructor
 ·rintro ⟨⟨h1, h2⟩, h3⟩
  have key : ∀ k : Int, 0 ≤ k → k < l.length → ∃ j : Nat, j < l.length ∧ k = j := fun k h0 h1 => ⟨k.toNat, by omega, by omega⟩
  refine ⟨h1, ?_, ?_, ?_, ?_, ?_, h3⟩ <;> intro k h0 hl <;> obtain ⟨j, hj, rfl⟩ := key k h0 hl <;> have := h2 j hj <;> omega
 ·intro h
  refine ⟨⟨h.n12, fun j hj => ?_⟩, h.pos⟩
  have h0 : (0 : Int) ≤ j := by omega
  have hl : (j : Int) < l.length := by omega
  exact ⟨⟨⟨⟨h.lo _ h0 hl, h.le _ h0 hl⟩, h.hi _ h0 hl⟩, h.c1 _ h0 hl⟩, h.c2 _ h0 hl⟩
end
section
open Go.RowKit Go.Proofs.YtljfljekcpdpiaaGreatW.PrintWords Go.Proofs.YtljfljekcpdpiaaGreatW.PrintLast Go.Proofs.YtljfljekcpdpiaaGreatW.PrintMore
structure F128 where
 fn : Nat
 lb : Array Value
 tg : S27
def kfn : Kd (Nat × Array Value) := Kd.scalar (fun x => .func (.func x.1) #[] x.2) (fun _ => rfl)
def k128 : Kd F128 := Kd.iso (Kd.pair kfn k27) (fun x : F128 => ((x.fn, x.lb), x.tg))
theorem k128_open {w : World} {x : F128} {cs : List Value} (h : k128.K w x cs) : cs = [.func (.func x.fn) #[] x.lb, .int .i64 x.tg.f0, .int .i64 x.tg.f1] := by
 obtain ⟨_, _, rfl, rfl, h2⟩ := h
 rw [k27_open h2]; rfl
theorem k128_mkM (w : World) (base : Nat) (ok : Nat → Prop) (x : F128) : k128.M w base ok x [.func (.func x.fn) #[] x.lb, .int .i64 x.tg.f0, .int .i64 x.tg.f1] := ⟨[.func (.func x.fn) #[] x.lb], [.int .i64 x.tg.f0, .int .i64 x.tg.f1], rfl, rfl, k27_mkM _ _ _ _⟩
theorem info128 : (Tryz.prog.info? 128).map (fun i => (i.zero, i.size, i.bytes)) = some (some (.agg #[.nilFunc, .int .i64 0, .int .i64 0]), 3, 24) := by kernel_rfl
def putT : Bool × List (List Nat × List Nat) := (true, [([], []), ([], []), ([1], [1]), ([2], [2]), ([], []), ([4], [4]), ([3, 5], [3, 5]), ([0, 0, 1, 2, 3, 4, 5, 6], [0]), ([7, 6, 6, 0, 1, 2, 3, 4, 5, 6], [6, 7])])
def putB : List Nat := [0, 0, 2, 6, 0, 16, 62, 1, 255]
theorem put_tab : rtab .any (opsOf Tryz.f164 1) = putT := by kernel_rfl
theorem put_bits : waitsOk putT.2 putB = true := by kernel_rfl
theorem put_calls (w W : World) (H : Nat) (A : Option Addr) (n c : Nat) (xs : List F128) (x : F128) (hb : Below w.heap.size w W) (hH : w.heap.size ≤ H) (hB : W.heap[H]? = some (.cells #[.slice A n c] 124 (0, 0)))
  (hR : Kd.R k128 128 W w.heap.size (fun _ => True) (.slice A n c) xs) (hl : (xs.length + 1) * 24 ≤ 140737488355328) :
  Calls Tryz.prog 164 #[.pointer (some ⟨H, 0, none⟩), .agg #[.func (.func x.fn) #[] x.lb, .int .i64 x.tg.f0, .int .i64 x.tg.f1]] W fun e w' => e = .returned (.tuple #[]) ∧ Below w.heap.size w w' ∧ (∃ v1, w'.heap[H]? = some (.cells #[v1] 124 (0, 0)) ∧ Kd.R k128 128 w' w.heap.size (fun _ => True) v1 (xs ++ [x])) ∧
   ∀ g cs t, W.heap[g]? = some (.cells cs t (0, 0)) → t ≠ 128 → g ≠ H → w'.heap[g]? = some (.cells cs t (0, 0)) := by
 have HH := Sd.mk hH
 have HL := Sd.mk hl
 have HS := Sd.mk (Nat.le_refl w.heap.size)
 have BH := Sd.mk (blk_alloc hB (.cells #[.func (.func x.fn) #[] x.lb, .int .i64 x.tg.f0, .int .i64 x.tg.f1] 128))
 have BX := Sd.mk (blk_new W (.cells #[.func (.func x.fn) #[] x.lb, .int .i64 x.tg.f0, .int .i64 x.tg.f1] 128))
 have HB := Sd.mk (below_alloc hb (.cells #[.func (.func x.fn) #[] x.lb, .int .i64 x.tg.f0, .int .i64 x.tg.f1] 128))
 have HR := Sd.mk (Kd.R_alloc hR (.cells #[.func (.func x.fn) #[] x.lb, .int .i64 x.tg.f0, .int .i64 x.tg.f1] 128))
 have NEX := Sd.mk (show some W.heap.size ≠ (Value.slice A n c).ownBlock from fun hk => Nat.lt_irrefl _ (Kd.R_lt hR _ hk.symm))
 have HOTH := Sd.mk (fun g cs t (hg : W.heap[g]? = some (.cells cs t (0, 0))) => blk_alloc hg (.cells #[.func (.func x.fn) #[] x.lb, .int .i64 x.tg.f0, .int .i64 x.tg.f1] 128))
 have NHX := Sd.mk (blk_lt hB)
 clear hH hl hb hR hB
 go_enter Tryz.func164, Tryz.ntmps164
 go_wp2
 generalize hWX : W.alloc (.cells #[.func (.func x.fn) #[] x.lb, .int .i64 x.tg.f0, .int .i64 x.tg.f1] 128) = WX at *
 generalize hXX : W.heap.size = X at *
 clear hXX
 clear hWX
 refine start_ (n := 9) (S := fun w' => w'.cell? ⟨H, 0, none⟩ = some (.slice A n c) ∧ w'.cell? ⟨X, 0, none⟩ = some (.func (.func x.fn) #[] x.lb) ∧ w'.cell? ⟨X, 1, none⟩ = some (.int .i64 x.tg.f0) ∧ w'.cell? ⟨X, 2, none⟩ = some (.int .i64 x.tg.f1)) (ds := [8]) (bA 9 0) (by kernel_rfl) rfl rfl ⟨(blk_cell BH.out 0).trans rfl, (blk_cell BX.out 0).trans rfl, (blk_cell BX.out 1).trans rfl, (blk_cell BX.out 2).trans rfl⟩ (fun hHeld => ?_); refine with_tabW put_tab put_bits (fun HT_ HW_ => ?_)
 replace BH := Sd.mk (blk_drew BH.out)
 replace BX := Sd.mk (blk_drew BX.out)
 replace HB := Sd.mk (below_drew1 HB.out)
 replace HR := Sd.mk (Kd.R_drew HR.out)
 replace HOTH := Sd.mk (fun g cs t hg => blk_drew (HOTH.out g cs t hg))
 generalize WX.drew = W0 at BH BX HB HR HOTH hHeld ⊢
 refine pQ 0 (some 4) (bA 9 1) ?_
 refine pQ 1 (some 5) (bA 9 3) ?_
 refine pQ 2 (some 6) (bA 9 7) ?_
 refine tQ 3 (some 7) (bA 9 15) ?_
 refine tQ 4 (some 8) (bA 9 31) ?_
 refine one_ (i := 5) (N := some 9) (bA 9 63) rfl rfl (one_of HT_.out (by kernel_rfl)) (by decide) (fun K hK => ?_)
 refine value_ (w1 := ?_) (v := ?_) (by rfl) rfl ?_ ?_
 rotate_left 2
 ·go_simp
  constructor
  ·rfl
  ·rfl
 refine hK.out _ _ ⟨(blk_cell (blk_alloc BH.out _) 0).trans rfl, (blk_cell (blk_alloc BX.out _) 0).trans rfl, (blk_cell (blk_alloc BX.out _) 1).trans rfl, (blk_cell (blk_alloc BX.out _) 2).trans rfl⟩ (fun hHeld => ?_)
 clear hK K
 refine norm_ (a' := ?_) ?_ ?_
 rotate_left
 ·show Act.put _ (some 9) _ = _
  exact tP
 refine one_ (i := 6) (N := some 10) (bA 9 127) rfl rfl (one_of HT_.out (by kernel_rfl)) (by decide) (fun K hK => ?_)
 refine Kd.R_append_step k128 (w0 := w) w.heap.size (by rfl) (.tmp 7) (.tmp 9) 124 128 (.agg #[.nilFunc, .int .i64 0, .int .i64 0]) 24 rfl Tryz.underlying124 info128 rfl (by decide) (by omega) (.slice A n c) xs x [.func (.func x.fn) #[] x.lb, .int .i64 x.tg.f0, .int .i64 x.tg.f1] (fun _ => True) (fun _ => False) rfl rfl ?aP (fun _ hk => hk.elim) ?aF ?aO ?aB ?aS ?aL ?_
 (case aP => exact k128_mkM _ _ _ x)
 (case aB => exact (by repeat (first | (with_reducible first | exact HB.out | apply below_alloc | apply pw_below_drewN | apply below_drew1) | exact HB.out)))
 (case aF => exact (fun _ _ => trivial))
 (case aO => exact (by (with_reducible repeat (first | apply Kd.R_alloc | apply Kd.R_drewN | apply Kd.R_drew)); exact HR.out))
 (case aS => exact Nat.le_trans HS.out (below_size HB.out))
 (case aL => exact HL.out)
 intro v1 w2 ho hb hg hat
 have HB2 := Sd.mk hb
 have HO := Sd.mk ho
 have hne := Kd.R_ne HR.out BH.out (by decide)
 have BH2 := Sd.mk (blk_grown BH.out hg (Kd.R_ne HR.out BH.out (by decide)))
 have BX2 := Sd.mk (blk_grown BX.out hg (fun hk => NEX.out hk))
 have HOTH2 := Sd.mk (fun g cs t hg' (ht : t ≠ 128) => blk_grown (HOTH.out g cs t hg') hg (Kd.R_ne HR.out (HOTH.out g cs t hg') (Ne.symm ht)))
 clear HB HR BH BX hb ho hat hg
 refine hK.out _ _ ⟨(blk_cell BH2.out 0).trans rfl, (blk_cell BX2.out 0).trans rfl, (blk_cell BX2.out 1).trans rfl, (blk_cell BX2.out 2).trans rfl⟩ (fun hHeld => ?_)
 clear hK K
 refine norm_ (a' := ?_) ?_ ?_
 rotate_left
 ·show Act.put _ (some 10) _ = _
  exact tP
 refine pQ 7 (some 11) (bA 9 255) ?_
 have HO' := Sd.mk (Kd.R_types (t := 124) HO.out BH2.out (by decide))
 clear HO
 obtain ⟨A1, c1, rfl⟩ := Kd.R_slice HO'.out
 have hw0 : w2.cell? ⟨H, 0, none⟩ = some (.slice A n c) := (blk_cell BH2.out 0).trans rfl
 have hwf := blk_frozen BH2.out 0
 refine last_ (i := 8) (N := none) (bA 9 511) rfl rfl (one_of HT_.out (by kernel_rfl)) (by decide) (fun K hK => ?_)
 refine skip_ (w1 := ?_) (by rfl) rfl ?_ ?_
 rotate_left
 ·go_simp
  rfl
 refine hK.out _ _ ?_
 clear hK K
 refine done_ (done_of HT_.out (by kernel_rfl)) ?_
 go_wp2
 go_end0
 refine ⟨rfl, below_set HB2.out HH.out, ⟨_, blk_put (cs := #[.slice A n c]) BH2.out 0 _ rfl, by have h_ := Kd.R_mono (ok' := fun _ => True) (Kd.R_far HO'.out (fun _ hk => hk.2) (.slice A1 (xs.length + 1) c1) (p := ⟨H, 0, none⟩)) (fun _ _ => trivial); simpa using h_⟩, ?_⟩
 ·intro g cs t hg ht hne
  exact blk_far (HOTH2.out g cs t hg ht) hne _
theorem forms1_calls (I : Nat) (i : Int) (W : World) (hI : W.heap[I]? = some (.cells #[.int .i64 i] 3 (0, 0))) (x : Int) :
  Calls Tryz.prog 165 #[.int .i64 x, .pointer (some ⟨I, 0, none⟩)] W fun e w' => e = .returned (.int .i64 (if x = i then 1000 else 0)) ∧ ∃ q, w' = W.drewN q := by
 have h0 : W.cell? ⟨I, 0, none⟩ = some (.int .i64 i) := (blk_cell hI 0).trans rfl
 go_enter Tryz.func165, Tryz.ntmps165
 by_cases he : x = i
 ·have heb : (x == i) = true := beq_iff_eq.mpr he
  go_wp2
  go_ret
  exact ⟨by simp [he], 0, rfl⟩
 ·have heb : (x == i) = false := beq_eq_false_iff_ne.mpr he
  go_wp2
  go_ret
  exact ⟨by simp [he], 0, rfl⟩
theorem forms2_calls (P n : Nat) (s : ByteArray) (A1 : Option Addr) (c1 : Nat) (xs : List Int) (lo hi : Int) (W : World) (hP : W.heap[P]? = some (.cells #[.string s, .slice A1 xs.length c1, .int .i64 lo, .int .i64 hi] 89 (0, 0)))
  (hr : Kd.C (Kd.int .i64) W A1 xs.length xs) (x : Int) (hx0 : 0 ≤ x) (hx1 : x < xs.length) :
  Calls Tryz.prog 166 #[.int .i64 x, .pointer (some ⟨P, 0, none⟩)] W fun e w' => e = .returned (.int .i64 (rd xs x)) ∧ ∃ q, w' = W.drewN q := by
 obtain ⟨ae, rfl, hqx⟩ := Kd.at_int hr x hx0 hx1
 have h1 : W.cell? ⟨P, 0 + 1, none⟩ = some (.slice (some ae) xs.length c1) := (blk_cell hP 1).trans rfl
 go_enter Tryz.func166, Tryz.ntmps166
 go_wp2
 go_ret
 exact ⟨rfl, 0, rfl⟩
def FormAt (w W : World) (l2 : List S27) (l3 : List S89) (j : Nat) (f : F128) : Prop :=
 (j < l2.length → ∃ I, f = ⟨165, #[.pointer (some ⟨I, 0, none⟩)], rd_T27 l2 j⟩ ∧ W.heap[I]? = some (.cells #[.int .i64 j] 3 (0, 0))) ∧
 (l2.length ≤ j → ∃ P A1 c1, f = ⟨166, #[.pointer (some ⟨P, 0, none⟩)], (rd_T89 l3 ((j - l2.length : Nat) : Int)).f2⟩ ∧
  W.heap[P]? = some (.cells #[.string (rd_T89 l3 ((j - l2.length : Nat) : Int)).f0, .slice A1 (rd_T89 l3 ((j - l2.length : Nat) : Int)).f1.length c1, .int .i64 (rd_T89 l3 ((j - l2.length : Nat) : Int)).f2.f0, .int .i64 (rd_T89 l3 ((j - l2.length : Nat) : Int)).f2.f1] 89 (0, 0)) ∧
  Kd.C (Kd.int .i64) w A1 (rd_T89 l3 ((j - l2.length : Nat) : Int)).f1.length (rd_T89 l3 ((j - l2.length : Nat) : Int)).f1)
theorem FormAt.below {w W W' : World} {l2 : List S27} {l3 : List S89} {j : Nat} {f : F128} (h : FormAt w W l2 l3 j f) (hb : Below W.heap.size W W') : FormAt w W' l2 l3 j f := by
 refine ⟨fun hj => ?_, fun hj => ?_⟩
 ·obtain ⟨I, e, hI⟩ := h.1 hj
  exact ⟨I, e, blk_below hI hb⟩
 ·obtain ⟨P, A1, c1, e, hP, hC⟩ := h.2 hj
  exact ⟨P, A1, c1, e, blk_below hP hb, hC⟩
theorem FormAt.other {w W W' : World} {l2 : List S27} {l3 : List S89} {j : Nat} {f : F128} {H : Nat} {v : Value} (h : FormAt w W l2 l3 j f) (hH : W.heap[H]? = some (.cells #[v] 124 (0, 0)))
  (ho : ∀ g cs t, W.heap[g]? = some (.cells cs t (0, 0)) → t ≠ 128 → g ≠ H → W'.heap[g]? = some (.cells cs t (0, 0))) : FormAt w W' l2 l3 j f := by
 refine ⟨fun hj => ?_, fun hj => ?_⟩
 ·obtain ⟨I, e, hI⟩ := h.1 hj
  exact ⟨I, e, ho _ _ _ hI (by decide) (by rintro rfl; rw [hH] at hI; simp at hI)⟩
 ·obtain ⟨P, A1, c1, e, hP, hC⟩ := h.2 hj
  exact ⟨P, A1, c1, e, ho _ _ _ hP (by decide) (by rintro rfl; rw [hH] at hP; simp at hP), hC⟩
def coefOf (l2 : List S27) (l3 : List S89) (j : Nat) : Int → Int := if j < l2.length then (fun k => if k = j then 1000 else 0) else rd (rd_T89 l3 ((j - l2.length : Nat) : Int)).f1
theorem FormAt.coef {w W : World} {l2 : List S27} {l3 : List S89} {j : Nat} {f : F128} (h : FormAt w W l2 l3 j f) (hb : Below w.heap.size w W) (N : Int) (hN : l2.length ≤ j → N ≤ (rd_T89 l3 ((j - l2.length : Nat) : Int)).f1.length) :
  CoefQ f.fn f.lb (coefOf l2 l3 j) N W := by
 intro W' hb' x hx0 hx1
 unfold coefOf
 by_cases hj : j < l2.length
 ·obtain ⟨I, rfl, hI⟩ := h.1 hj
  rw [if_pos hj]
  exact forms1_calls I j W' (blk_below hI hb') x
 ·obtain ⟨P, A1, c1, rfl, hP, hC⟩ := h.2 (by omega)
  rw [if_neg hj]
  exact forms2_calls P 0 _ A1 c1 _ _ _ W' (blk_below hP hb') (Kd.C_below (Kd.C_below hC hb) hb') x hx0 (by have := hN (by omega); omega)
structure FormsW (wp w W : World) (cs : Array Value) (l2 : List S27) (l3 : List S89) (k : Nat) : Prop where
 below : Below w.heap.size w W
 batch : W.heap[w.heap.size]? = some (.cells cs 29 (0, 0))
 list : ∃ A c, ∃ xs : List F128, W.heap[w.heap.size + 1]? = some (.cells #[.slice A xs.length c] 124 (0, 0)) ∧ Kd.R k128 128 W w.heap.size (fun _ => True) (.slice A xs.length c) xs ∧ xs.length = k ∧ ∀ j (hj : j < xs.length), FormAt wp W l2 l3 j xs[j]
theorem forms_lx {a b n k : Nat} (h : (a + b + 1) * 24 ≤ 140737488355328) (hx : n = k) (hk : k < a + b) : (n + 1) * 24 ≤ 140737488355328 := Nat.le_trans (Nat.mul_le_mul_right 24 (by omega)) h
theorem FormsW.step {wp w wr W2 w3 : World} {cs : Array Value} {l2 : List S27} {l3 : List S89} {k : Nat} {A : Option Addr} {c : Nat} {xs : List F128} {x : F128} (h : FormsW wp w wr cs l2 l3 k)
  (hO : wr.heap[w.heap.size + 1]? = some (.cells #[.slice A xs.length c] 124 (0, 0))) (hxl : xs.length = k) (hF : ∀ j (hj : j < xs.length), FormAt wp wr l2 l3 j xs[j]) (hb2 : Below wr.heap.size wr W2)
  (hb3 : Below w.heap.size w w3) {v1 : Value} (hv1 : w3.heap[w.heap.size + 1]? = some (.cells #[v1] 124 (0, 0))) (hr1 : Kd.R k128 128 w3 w.heap.size (fun _ => True) v1 (xs ++ [x]))
  (hoth : ∀ g cs t, W2.heap[g]? = some (.cells cs t (0, 0)) → t ≠ 128 → g ≠ w.heap.size + 1 → w3.heap[g]? = some (.cells cs t (0, 0))) (hx : FormAt wp W2 l2 l3 k x) : FormsW wp w w3 cs l2 l3 (k + 1) := by
 obtain ⟨A1, c1, rfl⟩ := Kd.R_slice hr1
 have hO2 := blk_below hO hb2
 refine ⟨hb3, hoth _ _ _ (blk_below h.batch hb2) (by decide) (by omega), A1, c1, xs ++ [x], hv1, hr1, by simp [hxl], fun j hj => ?_⟩
 by_cases hjx : j < xs.length
 ·rw [List.getElem_append_left hjx]
  exact ((hF j hjx).below hb2).other hO2 hoth
 ·have hjk : j = k := by simp at hj; omega
  subst hjk
  rw [List.getElem_append_right (by omega)]
  simp only [hxl, Nat.sub_self, List.getElem_cons_zero]
  exact hx.other hO2 hoth
theorem forms_calls (A0_0 : Option Addr) (c0_0 : Nat) (l0_0 : List ByteArray) (A0_1 : Option Addr) (c0_1 : Nat) (l0_1 : List (S70)) (A0_2 : Option Addr) (c0_2 : Nat) (l0_2 : List (S27)) (A0_3 : Option Addr) (c0_3 : Nat) (l0_3 : List (S89)) (a0_4 : Int) (a0_5 : Int) (a0_6 : Int) (wp w : World) (hbp : Below wp.heap.size wp w) (hr0_0 : Kd.C Kd.string w A0_0 l0_0.length l0_0) (hc0_0 : l0_0.length ≤ c0_0) (hr0_1 : Kd.C k70 w A0_1 l0_1.length l0_1) (hc0_1 : l0_1.length ≤ c0_1) (hr0_2 : Kd.C k27 w A0_2 l0_2.length l0_2) (hc0_2 : l0_2.length ≤ c0_2) (hr0_3 : Kd.C k89 wp A0_3 l0_3.length l0_3) (hc0_3 : l0_3.length ≤ c0_3) (hl : (l0_2.length + l0_3.length + 1) * 24 ≤ 140737488355328) :
  Calls Tryz.prog 84 #[.agg #[.slice A0_0 l0_0.length c0_0, .slice A0_1 l0_1.length c0_1, .slice A0_2 l0_2.length c0_2, .slice A0_3 l0_3.length c0_3, .int .i64 a0_4, .int .i64 a0_5, .int .i64 a0_6]] w fun e w' => ∃ A c fs, e = .returned (.slice A (List.length fs) c) ∧ fs.length ≤ c ∧ Kd.C k128 w' A fs.length fs ∧ fs.length = l0_2.length + l0_3.length ∧ (∀ j (hj : j < fs.length), FormAt wp w' l0_2 l0_3 j fs[j]) ∧ Below w.heap.size w w' ∧ Kd.R k128 128 w' w.heap.size (fun _ => True) (.slice A fs.length c) fs := by
 have hW0 : FormsW wp w ((w.alloc (.cells #[.slice A0_0 l0_0.length c0_0, .slice A0_1 l0_1.length c0_1, .slice A0_2 l0_2.length c0_2, .slice A0_3 l0_3.length c0_3, .int .i64 a0_4, .int .i64 a0_5, .int .i64 a0_6] 29)).alloc (.cells #[.slice none 0 0] 124)) #[.slice A0_0 l0_0.length c0_0, .slice A0_1 l0_1.length c0_1, .slice A0_2 l0_2.length c0_2, .slice A0_3 l0_3.length c0_3, .int .i64 a0_4, .int .i64 a0_5, .int .i64 a0_6] l0_2 l0_3 0 := by
  refine ⟨below_alloc (below_alloc (Below.refl _ _) _) _, blk_alloc (blk_new w _) _, none, 0, [], ?_, ?_, rfl, fun j hj => absurd hj (by simp)⟩
  ·have := blk_new (w.alloc (.cells #[.slice A0_0 l0_0.length c0_0, .slice A0_1 l0_1.length c0_1, .slice A0_2 l0_2.length c0_2, .slice A0_3 l0_3.length c0_3, .int .i64 a0_4, .int .i64 a0_5, .int .i64 a0_6] 29)) (.cells #[.slice none 0 0] 124)
   simpa using this
  ·exact Kd.R_nil _ _ _ _ _
 have HW0 := Sd.mk hW0
 have HR2 := Sd.mk hr0_2
 have HR3 := Sd.mk hr0_3
 have HBP := Sd.mk hbp
 have HL := Sd.mk hl
 have hl2 : (l0_2.length : Int) < 9223372036854775807 := by omega
 have hl3 : (l0_3.length : Int) < 9223372036854775807 := by omega
 have HL2 := Sd.mk hl2
 have HL3 := Sd.mk hl3
 clear hW0 hr0_0 hr0_1 hr0_2 hr0_3 hc0_0 hc0_1 hc0_2 hc0_3 hl hl2 hl3
 go_enter Tryz.func84, Tryz.ntmps84
 go_wp2
 generalize ((w.alloc (.cells #[.slice A0_0 l0_0.length c0_0, .slice A0_1 l0_1.length c0_1, .slice A0_2 l0_2.length c0_2, .slice A0_3 l0_3.length c0_3, .int .i64 a0_4, .int .i64 a0_5, .int .i64 a0_6] 29)).alloc (.cells #[.slice none 0 0] 124)) = w0 at HW0 ⊢
 go_loopg [11] l0_2.length (fun gq v11 wr => ∃ k : Nat, v11 = .int .i64 k ∧ k ≤ l0_2.length ∧ l0_2.length - k ≤ gq ∧ Sd (FormsW wp w wr #[.slice A0_0 l0_0.length c0_0, .slice A0_1 l0_1.length c0_1, .slice A0_2 l0_2.length c0_2, .slice A0_3 l0_3.length c0_3, .int .i64 a0_4, .int .i64 a0_5, .int .i64 a0_6] l0_2 l0_3 k))
 case atStart => exact ⟨0, rfl, Nat.zero_le _, by omega, HW0⟩
 case round =>
  clear HW0
  obtain ⟨k, rfl, hk, hgk, HW⟩ := hrel
  by_cases hlt : k < l0_2.length
  ·have hltz : (k : Int) < (l0_2.length : Int) := by omega
   obtain ⟨A, c, xs, hO, hR, hxl, hF⟩ := HW.out.list
   obtain ⟨ad, rfl, hx0, hx1⟩ := at_T27 (Kd.C_below HR2.out HW.out.below) (k : Int) (by omega) hltz
   simp only [Int.toNat_natCast] at hx0 hx1
   have HO := Sd.mk hO
   have HR := Sd.mk hR
   have HF := Sd.mk hF
   have HXL := Sd.mk hxl
   have HK := Sd.mk hgk
   clear hO hR hF hxl hgk hk
   have hb2 := below_alloc (below_alloc (Below.refl wr.heap.size wr) (.cells #[.int .i64 (k : Int)] 3)) (.cells #[.int .i64 (rd_T27 l0_2 (k : Int)).f0, .int .i64 (rd_T27 l0_2 (k : Int)).f1] 27)
   have hI := blk_alloc (blk_new wr (.cells #[.int .i64 (k : Int)] 3)) (.cells #[.int .i64 (rd_T27 l0_2 (k : Int)).f0, .int .i64 (rd_T27 l0_2 (k : Int)).f1] 27)
   have hlx := forms_lx HL.out HXL.out (Nat.lt_of_lt_of_le hlt (Nat.le_add_right _ _))
   have hp := put_calls w _ (w.heap.size + 1) A xs.length c xs ⟨165, #[.pointer (some ⟨wr.heap.size, 0, none⟩)], rd_T27 l0_2 (k : Int)⟩ (below_trans' HW.out.below hb2) (Nat.le_succ _) (blk_below HO.out hb2) (Kd.R_below HR.out hb2) hlx
   have HI := Sd.mk hI
   have HB2 := Sd.mk hb2
   clear hI hb2
   go_wp2_with fail
   refine hp.mono ?_
   clear hp
   rintro e w3 ⟨rfl, hb3, ⟨v1, hv1, hr1⟩, hoth⟩
   have hnew := FormsW.step HW.out HO.out HXL.out HF.out HB2.out hb3 hv1 hr1 hoth ⟨fun _ => ⟨wr.heap.size, rfl, HI.out⟩, fun hj => absurd hlt (by omega)⟩
   have HN := Sd.mk hnew
   clear hb3 hv1 hr1 hoth hnew HI HB2
   go_wp2
   go_roundg (l0_2.length - (k + 1))
   case measure => have := HK.out; omega
   case rel => exact ⟨k + 1, by have := HL2.out; rw [wrap_id (by omega) (by omega)]; rfl, by omega, by omega, HN⟩
  ·have hltz : ¬ (k : Int) < (l0_2.length : Int) := by omega
   obtain rfl : k = l0_2.length := by omega
   have hb3 : wr.cell? ⟨w.heap.size, 3, none⟩ = some (.slice A0_3 l0_3.length c0_3) := (blk_cell HW.out.batch 3).trans rfl
   clear hgk hk
   go_wp2
   clear hb3 hltz hlt
   have HW0 := HW
   clear HW
   generalize wr = w0' at HW0 ⊢
   go_loopg [24] l0_3.length (fun gq v24 wr => ∃ k : Nat, v24 = .int .i64 k ∧ k ≤ l0_3.length ∧ l0_3.length - k ≤ gq ∧ Sd (FormsW wp w wr #[.slice A0_0 l0_0.length c0_0, .slice A0_1 l0_1.length c0_1, .slice A0_2 l0_2.length c0_2, .slice A0_3 l0_3.length c0_3, .int .i64 a0_4, .int .i64 a0_5, .int .i64 a0_6] l0_2 l0_3 (l0_2.length + k)))
   case atStart => exact ⟨0, rfl, Nat.zero_le _, by omega, HW0⟩
   case round =>
    clear HW0
    obtain ⟨k, rfl, hk, hgk, HW⟩ := hrel
    by_cases hlt : k < l0_3.length
    ·have hltz : (k : Int) < (l0_3.length : Int) := by omega
     obtain ⟨A, c, xs, hO, hR, hxl, hF⟩ := HW.out.list
     obtain ⟨ad, A1, c1, rfl, hx0, hx1, hx2, hx3, hlc, hC⟩ := at_T89 (Kd.C_below (Kd.C_below HR3.out HBP.out) HW.out.below) (k : Int) (by omega) hltz
     obtain ⟨ad', A1', c1', he', hx0', hx1', hx2', hx3', hlc', hC'⟩ := at_T89 HR3.out (k : Int) (by omega) hltz
     cases he'
     have hsame : A1 = A1' := by
      have h0 := (HBP.out.cell (World.block_lt_of_cell? wp _ hx1')).trans hx1'
      have h1 := (HW.out.below.cell (World.block_lt_of_cell? w _ h0)).trans h0
      rw [hx1] at h1
      injection h1 with h1
      injection h1 with h1 h2
     subst hsame
     clear hx0' hx1' hx2' hx3' hlc' hC
     simp only [Int.toNat_natCast] at hx0 hx1 hx2 hx3
     have HO := Sd.mk hO
     have HR := Sd.mk hR
     have HF := Sd.mk hF
     have HXL := Sd.mk hxl
     have HK := Sd.mk hgk
     have HC' := Sd.mk hC'
     clear hO hR hF hxl hgk hk hC' hlc
     have hb2 := below_alloc (Below.refl wr.heap.size wr) (.cells #[.string (rd_T89 l0_3 (k : Int)).f0, .slice A1 (rd_T89 l0_3 (k : Int)).f1.length c1, .int .i64 (rd_T89 l0_3 (k : Int)).f2.f0, .int .i64 (rd_T89 l0_3 (k : Int)).f2.f1] 89)
     have hI := blk_new wr (.cells #[.string (rd_T89 l0_3 (k : Int)).f0, .slice A1 (rd_T89 l0_3 (k : Int)).f1.length c1, .int .i64 (rd_T89 l0_3 (k : Int)).f2.f0, .int .i64 (rd_T89 l0_3 (k : Int)).f2.f1] 89)
     have hlx := forms_lx HL.out HXL.out (Nat.add_lt_add_left hlt _)
     have hp := put_calls w _ (w.heap.size + 1) A xs.length c xs ⟨166, #[.pointer (some ⟨wr.heap.size, 0, none⟩)], (rd_T89 l0_3 (k : Int)).f2⟩ (below_trans' HW.out.below hb2) (Nat.le_succ _) (blk_below HO.out hb2) (Kd.R_below HR.out hb2) hlx
     have HI := Sd.mk hI
     have HB2 := Sd.mk hb2
     clear hI hb2
     go_wp2_with fail
     refine hp.mono ?_
     clear hp
     rintro e w3 ⟨rfl, hb3, ⟨v1, hv1, hr1⟩, hoth⟩
     have hnew := FormsW.step HW.out HO.out HXL.out HF.out HB2.out hb3 hv1 hr1 hoth ⟨fun hj => absurd hj (by omega), fun _ => ⟨wr.heap.size, A1, c1, by rw [Nat.add_sub_cancel_left], by rw [Nat.add_sub_cancel_left]; exact HI.out, by rw [Nat.add_sub_cancel_left]; exact HC'.out⟩⟩
     have HN := Sd.mk hnew
     clear hb3 hv1 hr1 hoth hnew HI HB2
     go_wp2
     go_roundg (l0_3.length - (k + 1))
     case measure => have := HK.out; omega
     case rel => exact ⟨k + 1, by have := HL3.out; rw [wrap_id (by omega) (by omega)]; rfl, by omega, by omega, HN⟩
    ·have hltz : ¬ (k : Int) < (l0_3.length : Int) := by omega
     obtain rfl : k = l0_3.length := by omega
     obtain ⟨A, c, xs, hO, hR, hxl, hF⟩ := HW.out.list
     have hb3 : wr.cell? ⟨w.heap.size + 1, 0, none⟩ = some (.slice A xs.length c) := (blk_cell hO 0).trans rfl
     have HR := Sd.mk hR
     have HF := Sd.mk hF
     have HXL := Sd.mk hxl
     clear hgk hk hR hF hxl
     go_wp2
     go_ret
     obtain ⟨A', c', he, hlc, hC⟩ := Kd.R_reads HR.out
     cases he
     exact ⟨A, c, xs, rfl, hlc, hC, HXL.out, HF.out, HW.out.below, HR.out⟩
end
section
open Go.RowKit Go.Proofs.YtljfljekcpdpiaaGreatW.PrintWords Go.Proofs.YtljfljekcpdpiaaGreatW.PrintLast Go.Proofs.YtljfljekcpdpiaaGreatW.PrintMore
def unitC (j : Nat) : Int → Int := fun k => if k = j then 1000 else 0
theorem coefOf_unit {l2 : List S27} {l3 : List S89} {j : Nat} (h : j < l2.length) : coefOf l2 l3 j = unitC j := by unfold coefOf; rw [if_pos h]; rfl
def meansOf (l : List S27) (n : Nat) : List S27 := (List.range n).map fun j => ⟨meanLo (unitC j) l, meanHi (unitC j) l⟩
theorem meansOf_succ (l : List S27) (n : Nat) : meansOf l (n + 1) = meansOf l n ++ [⟨meanLo (unitC n) l, meanHi (unitC n) l⟩] := by simp [meansOf, List.range_succ]
theorem meansOf_len (l : List S27) (n : Nat) : (meansOf l n).length = n := by simp [meansOf]
def x_Glass.f (k : Nat) (l0_0 : List ByteArray) (l0_1 : List (S70)) (l0_2 : List (S27)) (l0_3 : List (S89)) (a0_4 : Int) (a0_5 : Int) (a0_6 : Int) (l1 : List Int) : Option ((List (S27)) × Int) := (x_glass.f k l0_0 l0_1 l0_2 l0_3 a0_4 a0_5 a0_6 l1).bind fun p => if p.2 = 0 then (if p.1.length ≤ l0_2.length ∧ ((l0_2.length + l0_3.length + 1) * 24 ≤ 140737488355328 ∧ (List.range p.1.length).all (fun j => meanOkB (unitC j) p.1) = true) then some (meansOf p.1 p.1.length, 0) else none) else some ([], p.2)
theorem x_Glass.mono : ∀ l0_0 l0_1 l0_2 l0_3 a0_4 a0_5 a0_6 l1 k, LeO (x_Glass.f k l0_0 l0_1 l0_2 l0_3 a0_4 a0_5 a0_6 l1) (x_Glass.f (k + 1) l0_0 l0_1 l0_2 l0_3 a0_4 a0_5 a0_6 l1) := by
 intro l0_0 l0_1 l0_2 l0_3 a0_4 a0_5 a0_6 l1 k
 unfold x_Glass.f
 refine LeO.bind (x_glass.mono _ _ _ _ _ _ _ _ _) fun p => ?_
 exact LeO.refl _
theorem at_T128 {w : World} {A : Option Addr} {n : Nat} {xs : List F128} (h : Kd.C k128 w A n xs) (k : Nat) (hk : k < xs.length) : ∃ ad, A = some ad ∧ w.cell? (ad.add (k * 3)) = some (.func (.func xs[k].fn) #[] xs[k].lb) ∧ w.cell? ⟨(ad.add (k * 3)).block, (ad.add (k * 3)).off + 1, none⟩ = some (.int .i64 xs[k].tg.f0) ∧ w.cell? ⟨(ad.add (k * 3)).block, (ad.add (k * 3)).off + 2, none⟩ = some (.int .i64 xs[k].tg.f1) := by
 have hn := Kd.C_len h
 obtain ⟨ad, c, e, _, hK, hc0⟩ := Kd.C_get h ⟨0, #[], z27⟩ (k : Int) (by omega) (by omega)
 have hx : xs.getD ((k : Int)).toNat ⟨0, #[], z27⟩ = xs[k] := by simp [hk]
 rw [hx] at hK
 have hc : ∀ j u, c[j]? = some u → w.cell? (ad.add (k * 3 + j)) = some u := hc0
 obtain rfl := k128_open hK
 exact ⟨ad, e, hc 0 _ rfl, by rw [← add_field _ _ 1 (by omega)]; exact hc 1 _ rfl, by rw [← add_field _ _ 2 (by omega)]; exact hc 2 _ rfl⟩
theorem x_Glass.calls (k : Nat) (A0_0 : Option Addr) (c0_0 : Nat) (l0_0 : List ByteArray) (A0_1 : Option Addr) (c0_1 : Nat) (l0_1 : List (S70)) (A0_2 : Option Addr) (c0_2 : Nat) (l0_2 : List (S27)) (A0_3 : Option Addr) (c0_3 : Nat) (l0_3 : List (S89)) (a0_4 : Int) (a0_5 : Int) (a0_6 : Int) (A1 : Option Addr) (c1 : Nat) (l1 : List Int) (r1 : List (S27)) (r2 : Int) (w : World) (hr0_0 : Kd.C Kd.string w A0_0 l0_0.length l0_0) (hc0_0 : l0_0.length ≤ c0_0) (hr0_1 : Kd.C k70 w A0_1 l0_1.length l0_1) (hc0_1 : l0_1.length ≤ c0_1) (hr0_2 : Kd.C k27 w A0_2 l0_2.length l0_2) (hc0_2 : l0_2.length ≤ c0_2) (hr0_3 : Kd.C k89 w A0_3 l0_3.length l0_3) (hc0_3 : l0_3.length ≤ c0_3) (hr1 : Kd.C (Kd.int .i64) w A1 l1.length l1) (hc1 : l1.length ≤ c1) (h : x_Glass.f k l0_0 l0_1 l0_2 l0_3 a0_4 a0_5 a0_6 l1 = some (r1, r2)) :
  Calls Tryz.prog 26 #[.agg #[.slice A0_0 l0_0.length c0_0, .slice A0_1 l0_1.length c0_1, .slice A0_2 l0_2.length c0_2, .slice A0_3 l0_3.length c0_3, .int .i64 a0_4, .int .i64 a0_5, .int .i64 a0_6], .slice A1 l1.length c1] w fun e w' => ∃ v0_ : Value, e = .returned (.tuple #[v0_, .int .i64 r2]) ∧ Kd.R k27 27 w' w.heap.size (fun _ => True) v0_ r1 ∧ Below w.heap.size w w' := by
 unfold x_Glass.f at h
 obtain ⟨p, hp, H⟩ := Option.bind_eq_some_iff.mp h
 obtain ⟨pl, pe⟩ := p
 have hb0 : Below w.heap.size w (w.alloc (.cells #[.slice A0_0 l0_0.length c0_0, .slice A0_1 l0_1.length c0_1, .slice A0_2 l0_2.length c0_2, .slice A0_3 l0_3.length c0_3, .int .i64 a0_4, .int .i64 a0_5, .int .i64 a0_6] 29)) := below_alloc (Below.refl _ _) _
 clear h
 have HR0_0 := Sd.mk hr0_0
 have HC0_0 := Sd.mk hc0_0
 clear hr0_0 hc0_0
 have HR0_1 := Sd.mk hr0_1
 have HC0_1 := Sd.mk hc0_1
 clear hr0_1 hc0_1
 have HR0_2 := Sd.mk hr0_2
 have HC0_2 := Sd.mk hc0_2
 clear hr0_2 hc0_2
 have HR0_3 := Sd.mk hr0_3
 have HC0_3 := Sd.mk hc0_3
 clear hr0_3 hc0_3
 have HR1 := Sd.mk hr1
 have HC1 := Sd.mk hc1
 clear hr1 hc1
 have HH := Sd.mk H
 clear H
 have hgo := x_glass.calls k A0_0 c0_0 l0_0 A0_1 c0_1 l0_1 A0_2 c0_2 l0_2 A0_3 c0_3 l0_3 a0_4 a0_5 a0_6 A1 c1 l1 pl pe (w.alloc (.cells #[.slice A0_0 l0_0.length c0_0, .slice A0_1 l0_1.length c0_1, .slice A0_2 l0_2.length c0_2, .slice A0_3 l0_3.length c0_3, .int .i64 a0_4, .int .i64 a0_5, .int .i64 a0_6] 29)) (Kd.C_below HR0_0.out hb0) HC0_0.out (Kd.C_below HR0_1.out hb0) HC0_1.out (Kd.C_below HR0_2.out hb0) HC0_2.out (Kd.C_below HR0_3.out hb0) HC0_3.out (Kd.C_below HR1.out hb0) HC1.out hp
 have hC := blk_new w (.cells #[.slice A0_0 l0_0.length c0_0, .slice A0_1 l0_1.length c0_1, .slice A0_2 l0_2.length c0_2, .slice A0_3 l0_3.length c0_3, .int .i64 a0_4, .int .i64 a0_5, .int .i64 a0_6] 29)
 have BC := Sd.mk hC
 have HB := Sd.mk hb0
 clear hp hC hb0
 go_enter Tryz.func26, Tryz.ntmps26
 go_wp2_with fail
 generalize (w.alloc (.cells #[.slice A0_0 l0_0.length c0_0, .slice A0_1 l0_1.length c0_1, .slice A0_2 l0_2.length c0_2, .slice A0_3 l0_3.length c0_3, .int .i64 a0_4, .int .i64 a0_5, .int .i64 a0_6] 29)) = w0 at hgo BC HB ⊢
 refine hgo.mono ?_
 clear hgo
 rintro e w1 ⟨v, rfl, hR, hb⟩
 obtain ⟨A, c, rfl, hlc, hCpl⟩ := Kd.R_reads hR
 have BC1 := Sd.mk (blk_below BC.out hb)
 have HB1 := Sd.mk (below_trans' HB.out hb)
 have HPL := Sd.mk hCpl
 have HLC := Sd.mk hlc
 clear BC HB hb w0 hR hCpl hlc
 have H := HH.out
 clear HH
 by_cases hpe : pe = 0
 ·rw [if_pos hpe] at H
  have hpb : (pe != 0) = false := by simp [hpe]
  have hif : (pl.length ≤ l0_2.length ∧ ((l0_2.length + l0_3.length + 1) * 24 ≤ 140737488355328 ∧ (List.range pl.length).all (fun j => meanOkB (unitC j) pl) = true)) := by
   by_cases hh : (pl.length ≤ l0_2.length ∧ ((l0_2.length + l0_3.length + 1) * 24 ≤ 140737488355328 ∧ (List.range pl.length).all (fun j => meanOkB (unitC j) pl) = true))
   ·exact hh
   ·rw [if_neg hh] at H; cases H
  rw [if_pos hif] at H
  obtain ⟨h0, h1, h2⟩ := hif
  simp only [Option.some.injEq, Prod.mk.injEq] at H
  obtain ⟨rfl, rfl⟩ := H
  have hmok : ∀ j, j < pl.length → MeanOk (unitC j) pl := fun j hj => meanOkB_iff.mp (List.all_eq_true.mp h2 j (List.mem_range.2 hj))
  have HMOK := Sd.mk hmok
  have HL0 := Sd.mk h0
  have hgo := forms_calls A0_0 c0_0 l0_0 A0_1 c0_1 l0_1 A0_2 c0_2 l0_2 A0_3 c0_3 l0_3 a0_4 a0_5 a0_6 w1 w1 (Below.refl _ _) (Kd.C_below HR0_0.out HB1.out) HC0_0.out (Kd.C_below HR0_1.out HB1.out) HC0_1.out (Kd.C_below HR0_2.out HB1.out) HC0_2.out (Kd.C_below HR0_3.out HB1.out) HC0_3.out h1
  have hc_0 : w1.cell? ⟨w.heap.size, 0, none⟩ = some (.slice A0_0 l0_0.length c0_0) := (blk_cell BC1.out 0).trans rfl
  have hc_1 : w1.cell? ⟨w.heap.size, 1, none⟩ = some (.slice A0_1 l0_1.length c0_1) := (blk_cell BC1.out 1).trans rfl
  have hc_2 : w1.cell? ⟨w.heap.size, 2, none⟩ = some (.slice A0_2 l0_2.length c0_2) := (blk_cell BC1.out 2).trans rfl
  have hc_3 : w1.cell? ⟨w.heap.size, 3, none⟩ = some (.slice A0_3 l0_3.length c0_3) := (blk_cell BC1.out 3).trans rfl
  have hc_4 : w1.cell? ⟨w.heap.size, 4, none⟩ = some (.int .i64 a0_4) := (blk_cell BC1.out 4).trans rfl
  have hc_5 : w1.cell? ⟨w.heap.size, 5, none⟩ = some (.int .i64 a0_5) := (blk_cell BC1.out 5).trans rfl
  have hc_6 : w1.cell? ⟨w.heap.size, 6, none⟩ = some (.int .i64 a0_6) := (blk_cell BC1.out 6).trans rfl
  clear hmok h0 h1 h2 hpe
  go_wp2_with fail
  refine hgo.mono ?_
  clear hgo hc_0 hc_1 hc_2 hc_3 hc_4 hc_5 hc_6
  rintro e w2 ⟨Af, cf, fs, rfl, hfc, hfC, hfl, hF, hb2, _⟩
  have HB2 := Sd.mk (below_trans' HB1.out hb2)
  have HPL2 := Sd.mk (Kd.C_below HPL.out hb2)
  have HFC := Sd.mk hfC
  have HFL := Sd.mk hfl
  have HF := Sd.mk hF
  have HB12 := Sd.mk hb2
  have hcap : pl.length ≤ cf := by have := HL0.out; omega
  have HCAP := Sd.mk hcap
  clear HB1 BC1 HPL hb2 hfC hfl hF hfc
  have hpl2 : (pl.length : Int) < 9223372036854775807 := by rcases Nat.eq_zero_or_pos pl.length with h_ | h_; (· omega); (· have := (HMOK.out 0 h_).n12; omega)
  have HPLX := Sd.mk hpl2
  clear hpl2 hcap
  have hcap := HCAP.out
  go_wp2
  clear hcap
  have HBX := Sd.mk (Below.refl w2.heap.size w2)
  go_loopg [4, 24] pl.length (fun gq v4 v24 wr => ∃ k : Nat, v24 = .int .i64 k ∧ k ≤ pl.length ∧ pl.length - k ≤ gq ∧ Sd (Kd.R k27 27 wr w2.heap.size (fun _ => True) v4 (meansOf pl k)) ∧ Sd (Below w2.heap.size w2 wr))
  case atStart => exact ⟨0, rfl, Nat.zero_le _, by omega, ⟨Kd.R_nil _ _ _ _ _⟩, HBX⟩
  case round =>
   clear HBX
   obtain ⟨k, rfl, hk, hgk, HR4, HBX⟩ := hrel
   by_cases hlt : k < pl.length
   ·have hltz : (k : Int) < (pl.length : Int) := by omega
    have hkf : k < fs.length := by have := HFL.out; have := HL0.out; omega
    obtain ⟨ad, rfl, hx0, hx1, hx2⟩ := at_T128 (Kd.C_below HFC.out HBX.out) k hkf
    have hcoef := (HF.out k hkf).coef (HB12.out) pl.length (fun hh => absurd hh (by have := HL0.out; omega))
    rw [coefOf_unit (by have := HL0.out; omega)] at hcoef
    have hq : CoefQ fs[k].fn fs[k].lb (unitC k) pl.length (wr.alloc (.cells #[.func (.func fs[k].fn) #[] fs[k].lb, .int .i64 fs[k].tg.f0, .int .i64 fs[k].tg.f1] 128)) := fun W hW => hcoef W (below_then HBX.out HBX.out.size (below_then (below_alloc (Below.refl wr.heap.size wr) _) (by simp) hW))
    have hent : ∀ args w, (callFunc fs[k].fn args).run Tryz.prog w = .ok (.enter fs[k].fn args) w := by
     obtain ⟨I, e, _⟩ := (HF.out k hkf).1 (by have := HL0.out; omega)
     rw [e]
     exact enters_of Tryz.func165 (by kernel_rfl) rfl
    have hgo := mean_calls (unitC k) A c pl fs[k].fn fs[k].lb _ hent (Kd.C_below HPL2.out (below_then HBX.out HBX.out.size (below_alloc (Below.refl wr.heap.size wr) _))) HLC.out hq (HMOK.out k hlt)
    have HK := Sd.mk hgk
    have HLT := Sd.mk hlt
    clear hgk hk hq hcoef hent
    have HBY := Sd.mk (below_then HBX.out HBX.out.size (below_alloc (Below.refl wr.heap.size wr) (.cells #[.func (.func fs[k].fn) #[] fs[k].lb, .int .i64 fs[k].tg.f0, .int .i64 fs[k].tg.f1] 128)))
    have HR5 := Sd.mk (Kd.R_alloc HR4.out (.cells #[.func (.func fs[k].fn) #[] fs[k].lb, .int .i64 fs[k].tg.f0, .int .i64 fs[k].tg.f1] 128))
    clear HR4 HBX
    go_wp2_with fail
    generalize wr.alloc (.cells #[.func (.func fs[k].fn) #[] fs[k].lb, .int .i64 fs[k].tg.f0, .int .i64 fs[k].tg.f1] 128) = wx at hgo HBY HR5 ⊢
    refine hgo.mono ?_
    clear hgo
    rintro e w4 ⟨rfl, hb4⟩
    have HBX := Sd.mk (below_then HBY.out HBY.out.size hb4)
    have HR6 := Sd.mk (Kd.R_below HR5.out hb4)
    clear HBY HR5 hb4 hltz
    have hlm : ((meansOf pl k).length + 1) * 16 ≤ 140737488355328 := by
     rw [meansOf_len]
     have := (HMOK.out k HLT.out).n12
     have := HLT.out
     exact Nat.le_trans (Nat.mul_le_mul_right 16 (show k + 1 ≤ 13 by omega)) (by decide)
    go_wp2_with ((with_reducible refine gate_builtin (b := .append) (xs := #[.tmp 28, .tmp 33]) rfl ?_); at_builtin; refine Kd.R_append k27 (w0 := w2) w2.heap.size rfl (.tmp 28) (.tmp 33) 24 27 (.agg #[(.int .i64 0), (.int .i64 0)]) 16 rfl Tryz.underlying24 info27 rfl (by decide) (by omega) u4 (meansOf pl k) (⟨meanLo (unitC k) pl, meanHi (unitC k) pl⟩ : S27) [.int .i64 (meanLo (unitC k) pl), .int .i64 (meanHi (unitC k) pl)] (fun _ => True) (fun _ => False) rfl rfl ?aP (fun _ hk => hk.elim) ?aF ?aO ?aB ?aS ?aL ?_; (case aP => exact k27_mkM _ _ _ _); (case aB => exact HBX.out); (case aF => exact (fun _ _ => trivial)); (case aO => exact HR6.out); (case aS => exact below_size HBX.out); (case aL => exact hlm); intro v5 w5 ho hb hg hat)
    rw [← meansOf_succ] at ho
    have HR7 := Sd.mk ho
    have HB7 := Sd.mk hb
    clear ho hb hg hat hlm HR6 HBX
    go_roundg (pl.length - (k + 1))
    case measure => have := HK.out; have := HLT.out; omega
    case rel => exact ⟨k + 1, by have := HPLX.out; have := HLT.out; rw [wrap_id (by omega) (by omega)]; rfl, by have := HLT.out; omega, by omega, HR7, HB7⟩
   ·have hltz : ¬ (k : Int) < (pl.length : Int) := by omega
    obtain rfl : k = pl.length := by omega
    clear hgk hk
    go_wp2
    go_ret2
    exact ⟨_, rfl, Kd.R_lower HR4.out (below_size HB2.out), below_trans' HB2.out HBX.out⟩
 ·rw [if_neg hpe] at H
  have hpb : (pe != 0) = true := by simp [hpe]
  simp only [Option.some.injEq, Prod.mk.injEq] at H
  obtain ⟨rfl, rfl⟩ := H
  go_wp2
  go_ret2
  exact ⟨_, rfl, Kd.R_nil _ _ _ _ _, HB1.out⟩
end
section
open Go.RowKit Go.Proofs.YtljfljekcpdpiaaGreatW.PrintWords Go.Proofs.YtljfljekcpdpiaaGreatW.PrintLast Go.Proofs.YtljfljekcpdpiaaGreatW.PrintMore
end
section
open Go.RowKit Go.Proofs.YtljfljekcpdpiaaGreatW.PrintWords Go.Proofs.YtljfljekcpdpiaaGreatW.PrintLast Go.Proofs.YtljfljekcpdpiaaGreatW.PrintMore
end
section
open Go.RowKit Go.Proofs.YtljfljekcpdpiaaGreatW.PrintWords Go.Proofs.YtljfljekcpdpiaaGreatW.PrintLast Go.Proofs.YtljfljekcpdpiaaGreatW.PrintMore
end
section
open Go.RowKit Go.Proofs.YtljfljekcpdpiaaGreatW.PrintWords Go.Proofs.YtljfljekcpdpiaaGreatW.PrintLast Go.Proofs.YtljfljekcpdpiaaGreatW.PrintMore
theorem Ev.of_mono {α : Type} {f : Nat → Option α} {v : α} (hm : ∀ k, LeO (f k) (f (k + 1))) {K : Nat} (h : f K = some v) : Ev f v := by
  refine ⟨K, fun k hk => ?_⟩
  obtain ⟨d, rfl⟩ : ∃ d, k = K + d := ⟨k - K, by omega⟩
  induction d with
  | zero => exact h
  | succ d ih => exact hm (K + d) v (ih (by omega))
section
variable (o : List ByteArray) (mt : List S70) (s : List S27) (p : List S89) (a4 a5 a6 : Int) (r : List Int)
end
section
variable {o : List ByteArray} {mt : List S70} {s : List S27} {p : List S89} {a4 a5 a6 : Int} {r : List Int}
end
section
variable (o : List ByteArray) (mt : List S70) (s : List S27) (p : List S89) (a4 a5 a6 : Int) (r : List Int)
end
section
variable {o : List ByteArray} {mt : List S70} {s : List S27} {p : List S89} {a4 a5 a6 : Int} {r : List Int}
end
section
variable (o : List ByteArray) (mt : List S70) (s : List S27) (p : List S89) (a4 a5 a6 : Int) (r : List Int)
end
end
section
open Go.RowKit Go.Proofs.YtljfljekcpdpiaaGreatW.PrintWords Go.Proofs.YtljfljekcpdpiaaGreatW.PrintLast Go.Proofs.YtljfljekcpdpiaaGreatW.PrintMore
mutual
def lw_Great.j0 : Nat → Bool → List ByteArray → List (S70) → List (S27) → List (S89) → Int → Int → Int → Option (Bool)
 | 0, _, _, _, _, _, _, _, _ => none
 | k + 1, x28, x102q0, x102q1, x102q2, x102q3, x102q4, x102q5, x102q6 => if x28 = true then (some true) else (lw_Great.l0 k 0 0 x102q0 x102q1 x102q2 x102q3 x102q4 x102q5 x102q6)
def lw_Great.l0 : Nat → Int → Int → List ByteArray → List (S70) → List (S27) → List (S89) → Int → Int → Int → Option (Bool)
 | 0, _, _, _, _, _, _, _, _, _ => none
 | k + 1, x3, x4, x102q0, x102q1, x102q2, x102q3, x102q4, x102q5, x102q6 => if x4 < (x102q0.length : Int) then (if 0 ≤ x4 then (lw_Great.l0 k (wrap64 (x3 + ((rdOf ByteArray.empty x102q0 x4).size : Int))) (wrap64 (x4 + 1)) x102q0 x102q1 x102q2 x102q3 x102q4 x102q5 x102q6) else (none)) else (lw_Great.l1 k x3 0 x102q0 x102q1 x102q2 x102q3 x102q4 x102q5 x102q6)
def lw_Great.l1 : Nat → Int → Int → List ByteArray → List (S70) → List (S27) → List (S89) → Int → Int → Int → Option (Bool)
 | 0, _, _, _, _, _, _, _, _, _ => none
 | k + 1, x3, x5, x102q0, x102q1, x102q2, x102q3, x102q4, x102q5, x102q6 => if x5 < (x102q1.length : Int) then (if 0 ≤ x5 then (if (((rd_T70 x102q1 x5).f6).length : Int) > 20 then (some true) else (lw_Great.l1 k (wrap64 (x3 + (((rd_T70 x102q1 x5).f0).size : Int))) (wrap64 (x5 + 1)) x102q0 x102q1 x102q2 x102q3 x102q4 x102q5 x102q6)) else (none)) else (lw_Great.l2 k x3 0 x102q0 x102q1 x102q2 x102q3 x102q4 x102q5 x102q6)
def lw_Great.l2 : Nat → Int → Int → List ByteArray → List (S70) → List (S27) → List (S89) → Int → Int → Int → Option (Bool)
 | 0, _, _, _, _, _, _, _, _, _ => none
 | k + 1, x3, x6, x102q0, x102q1, x102q2, x102q3, x102q4, x102q5, x102q6 => if x6 < (x102q3.length : Int) then (if 0 ≤ x6 then (if (((rd_T89 x102q3 x6).f1).length : Int) > 20 then (some true) else (lw_Great.l2 k (wrap64 (x3 + (((rd_T89 x102q3 x6).f0).size : Int))) (wrap64 (x6 + 1)) x102q0 x102q1 x102q2 x102q3 x102q4 x102q5 x102q6)) else (none)) else (some (decide (x3 > 2000)))
end
def lw_Great.f (k : Nat) (l0_0 : List ByteArray) (l0_1 : List (S70)) (l0_2 : List (S27)) (l0_3 : List (S89)) (a0_4 : Int) (a0_5 : Int) (a0_6 : Int) : Option (Bool) := if (l0_0.length : Int) > 20 then (lw_Great.j0 k true l0_0 l0_1 l0_2 l0_3 a0_4 a0_5 a0_6) else (if (l0_1.length : Int) > 20 then (lw_Great.j0 k true l0_0 l0_1 l0_2 l0_3 a0_4 a0_5 a0_6) else (if (l0_2.length : Int) > 20 then (lw_Great.j0 k true l0_0 l0_1 l0_2 l0_3 a0_4 a0_5 a0_6) else (lw_Great.j0 k (decide ((l0_3.length : Int) > 20)) l0_0 l0_1 l0_2 l0_3 a0_4 a0_5 a0_6)))
theorem lw_Great.calls (k : Nat) (A0_0 : Option Addr) (c0_0 : Nat) (l0_0 : List ByteArray) (A0_1 : Option Addr) (c0_1 : Nat) (l0_1 : List (S70)) (A0_2 : Option Addr) (c0_2 : Nat) (l0_2 : List (S27)) (A0_3 : Option Addr) (c0_3 : Nat) (l0_3 : List (S89)) (a0_4 : Int) (a0_5 : Int) (a0_6 : Int) (r : Bool) (w : World) (hr0_0 : Kd.C Kd.string w A0_0 l0_0.length l0_0) (hc0_0 : l0_0.length ≤ c0_0) (hr0_1 : Kd.C k70 w A0_1 l0_1.length l0_1) (hc0_1 : l0_1.length ≤ c0_1) (hr0_2 : Kd.C k27 w A0_2 l0_2.length l0_2) (hc0_2 : l0_2.length ≤ c0_2) (hr0_3 : Kd.C k89 w A0_3 l0_3.length l0_3) (hc0_3 : l0_3.length ≤ c0_3) (h : lw_Great.f k l0_0 l0_1 l0_2 l0_3 a0_4 a0_5 a0_6 = some r) :
  Calls Tryz.prog 10 #[.agg #[.slice A0_0 l0_0.length c0_0, .slice A0_1 l0_1.length c0_1, .slice A0_2 l0_2.length c0_2, .slice A0_3 l0_3.length c0_3, .int .i64 a0_4, .int .i64 a0_5, .int .i64 a0_6]] w fun e w' => e = .returned (.bool r) ∧ Below w.heap.size w w' := by
 have hu29 := Tryz.underlying29; have HR0_0 := Sd.mk hr0_0; have HC0_0 := Sd.mk hc0_0; clear hr0_0 hc0_0; have HR0_1 := Sd.mk hr0_1; have HC0_1 := Sd.mk hc0_1; clear hr0_1 hc0_1; have HR0_2 := Sd.mk hr0_2; have HC0_2 := Sd.mk hc0_2; clear hr0_2 hc0_2; have HR0_3 := Sd.mk hr0_3; have HC0_3 := Sd.mk hc0_3; clear hr0_3 hc0_3; have HB := Sd.mk (Below.refl w.heap.size w)
 have H : (if (l0_0.length : Int) > 20 then (lw_Great.j0 k true l0_0 l0_1 l0_2 l0_3 a0_4 a0_5 a0_6) else (if (l0_1.length : Int) > 20 then (lw_Great.j0 k true l0_0 l0_1 l0_2 l0_3 a0_4 a0_5 a0_6) else (if (l0_2.length : Int) > 20 then (lw_Great.j0 k true l0_0 l0_1 l0_2 l0_3 a0_4 a0_5 a0_6) else (lw_Great.j0 k (decide ((l0_3.length : Int) > 20)) l0_0 l0_1 l0_2 l0_3 a0_4 a0_5 a0_6)))) = some r := h
 clear h; have HC2 := Sd.mk H; clear H
 go_enter Tryz.func10, Tryz.ntmps10
 go_upto_region 1 with (first | ((with_reducible refine gate_dst (N := 1) rfl ?_); (try (refine gate_guard (by rfl) ?_; dsimp only)); refine box_event ?hg (N := 1) ?hd (cs := #[.slice A0_0 l0_0.length c0_0, .slice A0_1 l0_1.length c0_1, .slice A0_2 l0_2.length c0_2, .slice A0_3 l0_3.length c0_3, .int .i64 a0_4, .int .i64 a0_5, .int .i64 a0_6]) (t := 29) ?hr ?_; (case hd => rfl); (case hg => rfl); (case hr => exact tG); intro gb101 hg w3 hbox hb; have BK101 := Sd.mk (hbox); have GW101 := Sd.mk (bSz hg (bBl HB.out)); have GE101 := Sd.mk (bSz hg (bBl HB.out)); replace HB := Sd.mk (below_step (bBl HB.out) hb); clear hb hbox hg))
 (try simp only [Act.put, List.setIfInBounds_toArray, List.set_cons_zero, List.set_cons_succ])
 go_cut [28] (fun v28 wc => ∃ (kq : Nat) (x28_1 : Bool), v28 = .bool x28_1 ∧ Sd (lw_Great.j0 kq x28_1 l0_0 l0_1 l0_2 l0_3 a0_4 a0_5 a0_6 = some r) ∧ Sd (kq ≤ k) ∧ Sd (wc.heap[gb101]? = some (.cells #[(.slice A0_0 l0_0.length c0_0), (.slice A0_1 l0_1.length c0_1), (.slice A0_2 l0_2.length c0_2), (.slice A0_3 l0_3.length c0_3), .int .i64 a0_4, .int .i64 a0_5, .int .i64 a0_6] 29 (0, 0))) ∧ Sd (Below w.heap.size w wc))
 case first =>
  have H := HC2.out; clear HC2
  by_cases c4 : (l0_0.length : Int) > 20
  ·rw [if_pos c4] at H
   have c4b0 : decide (20 < (l0_0.length : Int)) = true := decide_eq_true c4
   have c4b1 : decide (20 < l0_0.length) = true := decide_eq_true (by omega)
   clear c4
   (first | rw [c4b0] | (simp only [i64_w, i32_w]; rw [c4b0]) | skip)
   have H' := Sd.mk H; clear H; obtain ⟨u5_0, u5_1, u5_2, u5_3, u5_4, u5_5, u5_6, o5_0, o5_1, o5_2, o5_3, o5_4, o5_5, o5_6⟩ := bc7 (w := w3) BK101.out
   go_wp2
   go_meet
   case rel => exact ⟨_, (true), tS, H', ⟨by first | omega | exact Nat.le_refl _⟩, ⟨bkA BK101.out⟩, ⟨bBl HB.out⟩⟩
  ·rw [if_neg c4] at H
   have c4b0 : decide (20 < (l0_0.length : Int)) = false := decide_eq_false c4
   have c4b1 : decide (20 < l0_0.length) = false := decide_eq_false (by omega)
   clear c4
   (first | rw [c4b0] | (simp only [i64_w, i32_w]; rw [c4b0]) | skip)
   by_cases c6 : (l0_1.length : Int) > 20
   ·rw [if_pos c6] at H
    have c6b0 : decide (20 < (l0_1.length : Int)) = true := decide_eq_true c6
    have c6b1 : decide (20 < l0_1.length) = true := decide_eq_true (by omega)
    clear c6; have H' := Sd.mk H; clear H; obtain ⟨u7_0, u7_1, u7_2, u7_3, u7_4, u7_5, u7_6, o7_0, o7_1, o7_2, o7_3, o7_4, o7_5, o7_6⟩ := bc7 (w := w3) BK101.out
    go_wp2
    go_meet
    case rel => exact ⟨_, (true), tS, H', ⟨by first | omega | exact Nat.le_refl _⟩, ⟨bkA BK101.out⟩, ⟨bBl HB.out⟩⟩
   ·rw [if_neg c6] at H
    have c6b0 : decide (20 < (l0_1.length : Int)) = false := decide_eq_false c6
    have c6b1 : decide (20 < l0_1.length) = false := decide_eq_false (by omega)
    clear c6
    by_cases c8 : (l0_2.length : Int) > 20
    ·rw [if_pos c8] at H
     have c8b0 : decide (20 < (l0_2.length : Int)) = true := decide_eq_true c8
     have c8b1 : decide (20 < l0_2.length) = true := decide_eq_true (by omega)
     clear c8; have H' := Sd.mk H; clear H; obtain ⟨u9_0, u9_1, u9_2, u9_3, u9_4, u9_5, u9_6, o9_0, o9_1, o9_2, o9_3, o9_4, o9_5, o9_6⟩ := bc7 (w := w3) BK101.out
     go_wp2
     go_meet
     case rel => exact ⟨_, (true), tS, H', ⟨by first | omega | exact Nat.le_refl _⟩, ⟨bkA BK101.out⟩, ⟨bBl HB.out⟩⟩
    ·rw [if_neg c8] at H
     have c8b0 : decide (20 < (l0_2.length : Int)) = false := decide_eq_false c8
     have c8b1 : decide (20 < l0_2.length) = false := decide_eq_false (by omega)
     clear c8; have H' := Sd.mk H; clear H; obtain ⟨u10_0, u10_1, u10_2, u10_3, u10_4, u10_5, u10_6, o10_0, o10_1, o10_2, o10_3, o10_4, o10_5, o10_6⟩ := bc7 (w := w3) BK101.out
     go_wp2
     go_meet
     case rel => exact ⟨_, (decide ((l0_3.length : Int) > 20)), tS, H', ⟨by first | omega | exact Nat.le_refl _⟩, ⟨bkA BK101.out⟩, ⟨bBl HB.out⟩⟩
 case rest =>
  clear HC2; (try clear c1); (try clear p2); (try clear c4); (try clear c4b0); (try clear c4b1); (try clear c6); (try clear c6b0); (try clear c6b1); (try clear c8); (try clear c8b0); (try clear c8b1); (try clear c10); (try clear u10_0 u10_1 u10_2 u10_3 u10_4 u10_5 u10_6); (try clear u5_0 u5_1 u5_2 u5_3 u5_4 u5_5 u5_6); (try clear u7_0 u7_1 u7_2 u7_3 u7_4 u7_5 u7_6); (try clear u9_0 u9_1 u9_2 u9_3 u9_4 u9_5 u9_6); (try clear o10_0 o10_1 o10_2 o10_3 o10_4 o10_5 o10_6); (try clear o5_0 o5_1 o5_2 o5_3 o5_4 o5_5 o5_6); (try clear o7_0 o7_1 o7_2 o7_3 o7_4 o7_5 o7_6); (try clear o9_0 o9_1 o9_2 o9_3 o9_4 o9_5 o9_6); obtain ⟨kq, x28_1, rfl, HA, HJ1, BK101, HB⟩ := hcut
  cases kq with
  | zero => exact absurd HA.out (by simp [lw_Great.j0])
  | succ kj1 =>
   have H := HA.out; clear HA
   simp only [lw_Great.j0] at H
   by_cases c11 : x28_1 = true
   ·subst c11
    have H1 : (some true) = some r := by rw [if_pos rfl] at H; exact H
    clear H; have H := H1; clear H1; obtain rfl := Option.some.inj H
    go_wp2
    go_ret
    exact ⟨tE, bBl HB.out⟩
   ·replace c11 := Bool.eq_false_iff.mpr c11
    subst c11
    have H1 : (lw_Great.l0 kj1 0 0 l0_0 l0_1 l0_2 l0_3 a0_4 a0_5 a0_6) = some r := by rw [if_neg (show ¬ (false = true) by decide)] at H; exact H
    clear H; have H := H1; clear H1; have H' := Sd.mk H; clear H
    go_wp2
    go_loopg [3, 4] kj1 (fun kq v3 v4 w' => ∃ (x3_2 : Int) (x4_2 : Int), v3 = .int .i64 x3_2 ∧ v4 = .int .i64 x4_2 ∧ Sd (lw_Great.l0 kq x3_2 x4_2 l0_0 l0_1 l0_2 l0_3 a0_4 a0_5 a0_6 = some r) ∧ Sd (kq ≤ kj1) ∧ Sd (w'.heap[gb101]? = some (.cells #[(.slice A0_0 l0_0.length c0_0), (.slice A0_1 l0_1.length c0_1), (.slice A0_2 l0_2.length c0_2), (.slice A0_3 l0_3.length c0_3), .int .i64 a0_4, .int .i64 a0_5, .int .i64 a0_6] 29 (0, 0))) ∧ Sd (Below w.heap.size w w'))
    case atStart => exact ⟨(0), (0), tS, tS, H', ⟨Nat.le_refl _⟩, ⟨bkA BK101.out⟩, ⟨bBl HB.out⟩⟩
    case round =>
     clear H'; (try clear c1); (try clear p2 p2); (try clear c4); (try clear c4b0); (try clear c4b1); (try clear c6); (try clear c6b0); (try clear c6b1); (try clear c8); (try clear c8b0); (try clear c8b1); (try clear c10); (try clear c11); (try clear u10_0 u10_1 u10_2 u10_3 u10_4 u10_5 u10_6); (try clear u5_0 u5_1 u5_2 u5_3 u5_4 u5_5 u5_6); (try clear u7_0 u7_1 u7_2 u7_3 u7_4 u7_5 u7_6); (try clear u9_0 u9_1 u9_2 u9_3 u9_4 u9_5 u9_6); (try clear o10_0 o10_1 o10_2 o10_3 o10_4 o10_5 o10_6); (try clear o5_0 o5_1 o5_2 o5_3 o5_4 o5_5 o5_6); (try clear o7_0 o7_1 o7_2 o7_3 o7_4 o7_5 o7_6); (try clear o9_0 o9_1 o9_2 o9_3 o9_4 o9_5 o9_6); obtain ⟨x3_2, x4_2, rfl, rfl, HA, HK2, BK101, HB⟩ := hrel
     cases gk with
     | zero => exact absurd HA.out (by simp [lw_Great.l0])
     | succ k2 =>
      have H := HA.out; clear HA
      simp only [lw_Great.l0] at H
      by_cases c12 : x4_2 < (l0_0.length : Int)
      ·rw [if_pos c12] at H
       have c12b0 : decide (x4_2 < (l0_0.length : Int)) = true := decide_eq_true c12
       clear c12
       by_cases c13 : 0 ≤ x4_2
       ·rw [if_pos c13] at H
        have c13b0 : decide (0 ≤ x4_2) = true := decide_eq_true c13
        clear c13; have H' := Sd.mk H; clear H; obtain ⟨u14_0, u14_1, u14_2, u14_3, u14_4, u14_5, u14_6, o14_0, o14_1, o14_2, o14_3, o14_4, o14_5, o14_6⟩ := bc7 (w := wr) BK101.out
        have p102 : 0 ≤ (x4_2 : Int) := tB
        have q102 : x4_2 < (l0_0.length : Int) := tB
        obtain ⟨ad102, e102, hx102_0⟩ := Kd.at_string HR0_0.out x4_2 p102 q102; cases e102; replace hx102_0 := cU HB hx102_0; replace p102 := eq_true p102; replace q102 := eq_true q102
        go_wp2
        go_roundg k2
        case measure => have := HJ1.out; have := HK2.out; omega
        case rel => exact ⟨(wrap64 (x3_2 + ((rdOf ByteArray.empty l0_0 x4_2).size : Int))), (wrap64 (x4_2 + 1)), tS, tS, H', ⟨by have := HJ1.out; have := HK2.out; omega⟩, ⟨bkA BK101.out⟩, ⟨bBl HB.out⟩⟩
       ·rw [if_neg c13] at H
        exact absurd H (by simp)
      ·rw [if_neg c12] at H
       have c12b0 : decide (x4_2 < (l0_0.length : Int)) = false := decide_eq_false c12
       clear c12; have H' := Sd.mk H; clear H; obtain ⟨u15_0, u15_1, u15_2, u15_3, u15_4, u15_5, u15_6, o15_0, o15_1, o15_2, o15_3, o15_4, o15_5, o15_6⟩ := bc7 (w := wr) BK101.out
       go_wp2
       go_loopg [3, 5] k2 (fun kq v3 v5 w' => ∃ (x3_3 : Int) (x5_3 : Int), v3 = .int .i64 x3_3 ∧ v5 = .int .i64 x5_3 ∧ Sd (lw_Great.l1 kq x3_3 x5_3 l0_0 l0_1 l0_2 l0_3 a0_4 a0_5 a0_6 = some r) ∧ Sd (kq ≤ k2) ∧ Sd (w'.heap[gb101]? = some (.cells #[(.slice A0_0 l0_0.length c0_0), (.slice A0_1 l0_1.length c0_1), (.slice A0_2 l0_2.length c0_2), (.slice A0_3 l0_3.length c0_3), .int .i64 a0_4, .int .i64 a0_5, .int .i64 a0_6] 29 (0, 0))) ∧ Sd (Below w.heap.size w w'))
       case atStart => exact ⟨(x3_2), (0), tS, tS, H', ⟨Nat.le_refl _⟩, ⟨bkA BK101.out⟩, ⟨bBl HB.out⟩⟩
       case round =>
        clear H'; (try clear c1); (try clear p1); (try clear q1); (try clear hx1); (try clear p2 p2); (try clear c4); (try clear c4b0); (try clear c4b1); (try clear c6); (try clear c6b0); (try clear c6b1); (try clear p6); (try clear c8); (try clear c8b0); (try clear c8b1); (try clear c10); (try clear p10); (try clear q10); (try clear hx10); (try clear c11); (try clear c12); (try clear c12b0); (try clear c13); (try clear c13b0); (try clear u10_0 u10_1 u10_2 u10_3 u10_4 u10_5 u10_6); (try clear u14_0 u14_1 u14_2 u14_3 u14_4 u14_5 u14_6); (try clear u15_0 u15_1 u15_2 u15_3 u15_4 u15_5 u15_6); (try clear u5_0 u5_1 u5_2 u5_3 u5_4 u5_5 u5_6); (try clear u7_0 u7_1 u7_2 u7_3 u7_4 u7_5 u7_6); (try clear u9_0 u9_1 u9_2 u9_3 u9_4 u9_5 u9_6); (try clear o10_0 o10_1 o10_2 o10_3 o10_4 o10_5 o10_6); (try clear o14_0 o14_1 o14_2 o14_3 o14_4 o14_5 o14_6); (try clear o15_0 o15_1 o15_2 o15_3 o15_4 o15_5 o15_6); (try clear o5_0 o5_1 o5_2 o5_3 o5_4 o5_5 o5_6); (try clear o7_0 o7_1 o7_2 o7_3 o7_4 o7_5 o7_6); (try clear o9_0 o9_1 o9_2 o9_3 o9_4 o9_5 o9_6); (try clear hx102_0); (try clear p102); (try clear q102); obtain ⟨x3_3, x5_3, rfl, rfl, HA, HK3, BK101, HB⟩ := hrel
        cases gk with
        | zero => exact absurd HA.out (by simp [lw_Great.l1])
        | succ k3 =>
         have H := HA.out; clear HA
         simp only [lw_Great.l1] at H
         by_cases c16 : x5_3 < (l0_1.length : Int)
         ·rw [if_pos c16] at H
          have c16b0 : decide (x5_3 < (l0_1.length : Int)) = true := decide_eq_true c16
          clear c16
          by_cases c17 : 0 ≤ x5_3
          ·rw [if_pos c17] at H
           have c17b0 : decide (0 ≤ x5_3) = true := decide_eq_true c17
           clear c17
           by_cases c18 : (((rd_T70 l0_1 x5_3).f6).length : Int) > 20
           ·rw [if_pos c18] at H
            have c18b0 : decide (20 < (((rd_T70 l0_1 x5_3).f6).length : Int)) = true := decide_eq_true c18
            have c18b1 : decide (20 < ((rd_T70 l0_1 x5_3).f6).length) = true := decide_eq_true (by omega)
            clear c18; obtain rfl := Option.some.inj H; obtain ⟨u19_0, u19_1, u19_2, u19_3, u19_4, u19_5, u19_6, o19_0, o19_1, o19_2, o19_3, o19_4, o19_5, o19_6⟩ := bc7 (w := wr) BK101.out
            have p103 : 0 ≤ (x5_3 : Int) := tB
            have q103 : x5_3 < (l0_1.length : Int) := tB
            obtain ⟨ad103, A103_6, c103_6, e103, hx103_0, hx103_1, hx103_2, hx103_3, hx103_4, hx103_5, hx103_6, hl103_6, hi103_6⟩ := at_T70 HR0_1.out x5_3 p103 q103; cases e103; replace hx103_0 := cU HB hx103_0; replace hx103_1 := cU HB hx103_1; replace hx103_2 := cU HB hx103_2; replace hx103_3 := cU HB hx103_3; replace hx103_4 := cU HB hx103_4; replace hx103_5 := cU HB hx103_5; replace hx103_6 := cU HB hx103_6; have HR103_6 := Sd.mk hi103_6; have HC103_6 := Sd.mk hl103_6; clear hi103_6 hl103_6; replace p103 := eq_true p103; replace q103 := eq_true q103
            have p104 : 0 ≤ (x5_3 : Int) := tB
            have q104 : x5_3 < (l0_1.length : Int) := tB
            obtain ⟨ad104, A104_6, c104_6, e104, hx104_0, hx104_1, hx104_2, hx104_3, hx104_4, hx104_5, hx104_6, hl104_6, hi104_6⟩ := at_T70 HR0_1.out x5_3 p104 q104
            obtain rfl : ad103 = ad104 := (by injection e104)
            replace hx104_0 := cU HB hx104_0; replace hx104_1 := cU HB hx104_1; replace hx104_2 := cU HB hx104_2; replace hx104_3 := cU HB hx104_3; replace hx104_4 := cU HB hx104_4; replace hx104_5 := cU HB hx104_5; replace hx104_6 := cU HB hx104_6; have HR104_6 := Sd.mk hi104_6; have HC104_6 := Sd.mk hl104_6; clear hi104_6 hl104_6; replace p104 := eq_true p104; replace q104 := eq_true q104; have ea_ := Option.some.inj (hx103_6.symm.trans hx104_6)
            injection ea_ with ea_ en_ ec_
            subst ea_; subst ec_; clear en_
            go_wp2
            go_ret
            exact ⟨tE, bBl HB.out⟩
           ·rw [if_neg c18] at H
            have c18b0 : decide (20 < (((rd_T70 l0_1 x5_3).f6).length : Int)) = false := decide_eq_false c18
            have c18b1 : decide (20 < ((rd_T70 l0_1 x5_3).f6).length) = false := decide_eq_false (by omega)
            clear c18; have H' := Sd.mk H; clear H; obtain ⟨u20_0, u20_1, u20_2, u20_3, u20_4, u20_5, u20_6, o20_0, o20_1, o20_2, o20_3, o20_4, o20_5, o20_6⟩ := bc7 (w := wr) BK101.out
            have p103 : 0 ≤ (x5_3 : Int) := tB
            have q103 : x5_3 < (l0_1.length : Int) := tB
            obtain ⟨ad103, A103_6, c103_6, e103, hx103_0, hx103_1, hx103_2, hx103_3, hx103_4, hx103_5, hx103_6, hl103_6, hi103_6⟩ := at_T70 HR0_1.out x5_3 p103 q103; cases e103; replace hx103_0 := cU HB hx103_0; replace hx103_1 := cU HB hx103_1; replace hx103_2 := cU HB hx103_2; replace hx103_3 := cU HB hx103_3; replace hx103_4 := cU HB hx103_4; replace hx103_5 := cU HB hx103_5; replace hx103_6 := cU HB hx103_6; have HR103_6 := Sd.mk hi103_6; have HC103_6 := Sd.mk hl103_6; clear hi103_6 hl103_6; replace p103 := eq_true p103; replace q103 := eq_true q103
            have p104 : 0 ≤ (x5_3 : Int) := tB
            have q104 : x5_3 < (l0_1.length : Int) := tB
            obtain ⟨ad104, A104_6, c104_6, e104, hx104_0, hx104_1, hx104_2, hx104_3, hx104_4, hx104_5, hx104_6, hl104_6, hi104_6⟩ := at_T70 HR0_1.out x5_3 p104 q104
            obtain rfl : ad103 = ad104 := (by injection e104)
            replace hx104_0 := cU HB hx104_0; replace hx104_1 := cU HB hx104_1; replace hx104_2 := cU HB hx104_2; replace hx104_3 := cU HB hx104_3; replace hx104_4 := cU HB hx104_4; replace hx104_5 := cU HB hx104_5; replace hx104_6 := cU HB hx104_6; have HR104_6 := Sd.mk hi104_6; have HC104_6 := Sd.mk hl104_6; clear hi104_6 hl104_6; replace p104 := eq_true p104; replace q104 := eq_true q104; have ea_ := Option.some.inj (hx103_6.symm.trans hx104_6)
            injection ea_ with ea_ en_ ec_
            subst ea_; subst ec_; clear en_
            go_wp2
            go_roundg k3
            case measure => have := HJ1.out; have := HK2.out; have := HK3.out; omega
            case rel => exact ⟨(wrap64 (x3_3 + (((rd_T70 l0_1 x5_3).f0).size : Int))), (wrap64 (x5_3 + 1)), tS, tS, H', ⟨by have := HJ1.out; have := HK2.out; have := HK3.out; omega⟩, ⟨bkA BK101.out⟩, ⟨bBl HB.out⟩⟩
          ·rw [if_neg c17] at H
           exact absurd H (by simp)
         ·rw [if_neg c16] at H
          have c16b0 : decide (x5_3 < (l0_1.length : Int)) = false := decide_eq_false c16
          clear c16; have H' := Sd.mk H; clear H; obtain ⟨u21_0, u21_1, u21_2, u21_3, u21_4, u21_5, u21_6, o21_0, o21_1, o21_2, o21_3, o21_4, o21_5, o21_6⟩ := bc7 (w := wr) BK101.out
          go_wp2
          go_loopg [3, 6] k3 (fun kq v3 v6 w' => ∃ (x3_4 : Int) (x6_4 : Int), v3 = .int .i64 x3_4 ∧ v6 = .int .i64 x6_4 ∧ Sd (lw_Great.l2 kq x3_4 x6_4 l0_0 l0_1 l0_2 l0_3 a0_4 a0_5 a0_6 = some r) ∧ Sd (kq ≤ k3) ∧ Sd (w'.heap[gb101]? = some (.cells #[(.slice A0_0 l0_0.length c0_0), (.slice A0_1 l0_1.length c0_1), (.slice A0_2 l0_2.length c0_2), (.slice A0_3 l0_3.length c0_3), .int .i64 a0_4, .int .i64 a0_5, .int .i64 a0_6] 29 (0, 0))) ∧ Sd (Below w.heap.size w w'))
          case atStart => exact ⟨(x3_3), (0), tS, tS, H', ⟨Nat.le_refl _⟩, ⟨bkA BK101.out⟩, ⟨bBl HB.out⟩⟩
          case round =>
           clear H'; (try clear c1); (try clear p1 p1); (try clear q1 q1); (try clear hx1); (try clear p2 p2); (try clear c4); (try clear c4b0); (try clear c4b1); (try clear c6); (try clear c6b0); (try clear c6b1); (try clear p6 p6); (try clear c8); (try clear c8b0); (try clear c8b1); (try clear c10); (try clear p10 p10); (try clear q10 q10); (try clear hx10); (try clear c11); (try clear c12); (try clear c12b0); (try clear c13); (try clear c13b0); (try clear c16); (try clear c16b0); (try clear c17); (try clear c17b0); (try clear c18); (try clear c18b0); (try clear c18b1); (try clear u10_0 u10_1 u10_2 u10_3 u10_4 u10_5 u10_6); (try clear u14_0 u14_1 u14_2 u14_3 u14_4 u14_5 u14_6); (try clear u15_0 u15_1 u15_2 u15_3 u15_4 u15_5 u15_6); (try clear u19_0 u19_1 u19_2 u19_3 u19_4 u19_5 u19_6); (try clear u20_0 u20_1 u20_2 u20_3 u20_4 u20_5 u20_6); (try clear u21_0 u21_1 u21_2 u21_3 u21_4 u21_5 u21_6); (try clear u5_0 u5_1 u5_2 u5_3 u5_4 u5_5 u5_6); (try clear u7_0 u7_1 u7_2 u7_3 u7_4 u7_5 u7_6); (try clear u9_0 u9_1 u9_2 u9_3 u9_4 u9_5 u9_6); (try clear o10_0 o10_1 o10_2 o10_3 o10_4 o10_5 o10_6); (try clear o14_0 o14_1 o14_2 o14_3 o14_4 o14_5 o14_6); (try clear o15_0 o15_1 o15_2 o15_3 o15_4 o15_5 o15_6); (try clear o19_0 o19_1 o19_2 o19_3 o19_4 o19_5 o19_6); (try clear o20_0 o20_1 o20_2 o20_3 o20_4 o20_5 o20_6); (try clear o21_0 o21_1 o21_2 o21_3 o21_4 o21_5 o21_6); (try clear o5_0 o5_1 o5_2 o5_3 o5_4 o5_5 o5_6); (try clear o7_0 o7_1 o7_2 o7_3 o7_4 o7_5 o7_6); (try clear o9_0 o9_1 o9_2 o9_3 o9_4 o9_5 o9_6); (try clear hx102_0); (try clear hx103_0); (try clear hx103_1); (try clear hx103_2); (try clear hx103_3); (try clear hx103_4); (try clear hx103_5); (try clear hx103_6); (try clear hx104_0); (try clear hx104_1); (try clear hx104_2); (try clear hx104_3); (try clear hx104_4); (try clear hx104_5); (try clear hx104_6); (try clear p102); (try clear p103); (try clear p104); (try clear q102); (try clear q103); (try clear q104); obtain ⟨x3_4, x6_4, rfl, rfl, HA, HK4, BK101, HB⟩ := hrel
           cases gk with
           | zero => exact absurd HA.out (by simp [lw_Great.l2])
           | succ k4 =>
            have H := HA.out; clear HA
            simp only [lw_Great.l2] at H
            by_cases c22 : x6_4 < (l0_3.length : Int)
            ·rw [if_pos c22] at H
             have c22b0 : decide (x6_4 < (l0_3.length : Int)) = true := decide_eq_true c22
             clear c22
             by_cases c23 : 0 ≤ x6_4
             ·rw [if_pos c23] at H
              have c23b0 : decide (0 ≤ x6_4) = true := decide_eq_true c23
              clear c23
              by_cases c24 : (((rd_T89 l0_3 x6_4).f1).length : Int) > 20
              ·rw [if_pos c24] at H
               have c24b0 : decide (20 < (((rd_T89 l0_3 x6_4).f1).length : Int)) = true := decide_eq_true c24
               have c24b1 : decide (20 < ((rd_T89 l0_3 x6_4).f1).length) = true := decide_eq_true (by omega)
               clear c24; obtain rfl := Option.some.inj H; obtain ⟨u25_0, u25_1, u25_2, u25_3, u25_4, u25_5, u25_6, o25_0, o25_1, o25_2, o25_3, o25_4, o25_5, o25_6⟩ := bc7 (w := wr) BK101.out
               have p105 : 0 ≤ (x6_4 : Int) := tB
               have q105 : x6_4 < (l0_3.length : Int) := tB
               obtain ⟨ad105, A105_1, c105_1, e105, hx105_0, hx105_1, hx105_2, hx105_3, hl105_1, hi105_1⟩ := at_T89 HR0_3.out x6_4 p105 q105; cases e105; replace hx105_0 := cU HB hx105_0; replace hx105_1 := cU HB hx105_1; replace hx105_2 := cU HB hx105_2; replace hx105_3 := cU HB hx105_3; have HR105_1 := Sd.mk hi105_1; have HC105_1 := Sd.mk hl105_1; clear hi105_1 hl105_1; replace p105 := eq_true p105; replace q105 := eq_true q105
               have p106 : 0 ≤ (x6_4 : Int) := tB
               have q106 : x6_4 < (l0_3.length : Int) := tB
               obtain ⟨ad106, A106_1, c106_1, e106, hx106_0, hx106_1, hx106_2, hx106_3, hl106_1, hi106_1⟩ := at_T89 HR0_3.out x6_4 p106 q106
               obtain rfl : ad105 = ad106 := (by injection e106)
               replace hx106_0 := cU HB hx106_0; replace hx106_1 := cU HB hx106_1; replace hx106_2 := cU HB hx106_2; replace hx106_3 := cU HB hx106_3; have HR106_1 := Sd.mk hi106_1; have HC106_1 := Sd.mk hl106_1; clear hi106_1 hl106_1; replace p106 := eq_true p106; replace q106 := eq_true q106; have ea_ := Option.some.inj (hx105_1.symm.trans hx106_1)
               injection ea_ with ea_ en_ ec_
               subst ea_; subst ec_; clear en_
               go_wp2
               go_ret
               exact ⟨tE, bBl HB.out⟩
              ·rw [if_neg c24] at H
               have c24b0 : decide (20 < (((rd_T89 l0_3 x6_4).f1).length : Int)) = false := decide_eq_false c24
               have c24b1 : decide (20 < ((rd_T89 l0_3 x6_4).f1).length) = false := decide_eq_false (by omega)
               clear c24; have H' := Sd.mk H; clear H; obtain ⟨u26_0, u26_1, u26_2, u26_3, u26_4, u26_5, u26_6, o26_0, o26_1, o26_2, o26_3, o26_4, o26_5, o26_6⟩ := bc7 (w := wr) BK101.out
               have p105 : 0 ≤ (x6_4 : Int) := tB
               have q105 : x6_4 < (l0_3.length : Int) := tB
               obtain ⟨ad105, A105_1, c105_1, e105, hx105_0, hx105_1, hx105_2, hx105_3, hl105_1, hi105_1⟩ := at_T89 HR0_3.out x6_4 p105 q105; cases e105; replace hx105_0 := cU HB hx105_0; replace hx105_1 := cU HB hx105_1; replace hx105_2 := cU HB hx105_2; replace hx105_3 := cU HB hx105_3; have HR105_1 := Sd.mk hi105_1; have HC105_1 := Sd.mk hl105_1; clear hi105_1 hl105_1; replace p105 := eq_true p105; replace q105 := eq_true q105
               have p106 : 0 ≤ (x6_4 : Int) := tB
               have q106 : x6_4 < (l0_3.length : Int) := tB
               obtain ⟨ad106, A106_1, c106_1, e106, hx106_0, hx106_1, hx106_2, hx106_3, hl106_1, hi106_1⟩ := at_T89 HR0_3.out x6_4 p106 q106
               obtain rfl : ad105 = ad106 := (by injection e106)
               replace hx106_0 := cU HB hx106_0; replace hx106_1 := cU HB hx106_1; replace hx106_2 := cU HB hx106_2; replace hx106_3 := cU HB hx106_3; have HR106_1 := Sd.mk hi106_1; have HC106_1 := Sd.mk hl106_1; clear hi106_1 hl106_1; replace p106 := eq_true p106; replace q106 := eq_true q106; have ea_ := Option.some.inj (hx105_1.symm.trans hx106_1)
               injection ea_ with ea_ en_ ec_
               subst ea_; subst ec_; clear en_
               go_wp2
               go_roundg k4
               case measure => have := HJ1.out; have := HK2.out; have := HK3.out; have := HK4.out; omega
               case rel => exact ⟨(wrap64 (x3_4 + (((rd_T89 l0_3 x6_4).f0).size : Int))), (wrap64 (x6_4 + 1)), tS, tS, H', ⟨by have := HJ1.out; have := HK2.out; have := HK3.out; have := HK4.out; omega⟩, ⟨bkA BK101.out⟩, ⟨bBl HB.out⟩⟩
             ·rw [if_neg c23] at H
              exact absurd H (by simp)
            ·rw [if_neg c22] at H
             have c22b0 : decide (x6_4 < (l0_3.length : Int)) = false := decide_eq_false c22
             clear c22; obtain rfl := Option.some.inj H; obtain ⟨u27_0, u27_1, u27_2, u27_3, u27_4, u27_5, u27_6, o27_0, o27_1, o27_2, o27_3, o27_4, o27_5, o27_6⟩ := bc7 (w := wr) BK101.out
             go_wp2
             go_ret
             exact ⟨tE, bBl HB.out⟩
end
section
open Go.RowKit Go.Proofs.YtljfljekcpdpiaaGreatW.PrintWords Go.Proofs.YtljfljekcpdpiaaGreatW.PrintLast Go.Proofs.YtljfljekcpdpiaaGreatW.PrintMore
theorem eqA27 (d : Nat) (w : World) (x0 y0 : Int) (x1 y1 : Int) :
  (Op.equalIn (d + 2) 27 (.agg #[.int .i64 x0, .int .i64 x1]) (.agg #[.int .i64 y0, .int .i64 y1])).run Tryz.prog w = .ok (x0 == y0 && (x1 == y1)) w := by
 refine eqA_of Tryz.underlying27 (by kernel_rfl) ?_
 refine eqf_cons (by rfl) (by go_simp; rfl) (by go_simp; rfl) (by go_simp) ?_
 exact eqf_last (by rfl) (by go_simp; rfl) (by go_simp; rfl) (by go_simp)
end
section
open Go.RowKit Go.Proofs.YtljfljekcpdpiaaGreatW.PrintWords Go.Proofs.YtljfljekcpdpiaaGreatW.PrintLast Go.Proofs.YtljfljekcpdpiaaGreatW.PrintMore
attribute [local go_sem high] eqA27
def lw_SameSpans.l0 : Nat → List (S27) → List (S27) → Int → Option (Bool)
 | 0, _, _, _ => none
 | k + 1, x0, x1, x5 => if x5 < (x0.length : Int) then (if 0 ≤ x5 then (if x5 < (x1.length : Int) then (if (!(((rd_T27 x0 x5).f0) == ((rd_T27 x1 x5).f0)) || (!(((rd_T27 x0 x5).f1) == ((rd_T27 x1 x5).f1)))) = true then (some false) else (lw_SameSpans.l0 k x0 x1 (wrap64 (x5 + 1)))) else (none)) else (none)) else (some true)
def lw_SameSpans.f (k : Nat) (l0 : List (S27)) (l1 : List (S27)) : Option (Bool) := if (l0.length : Int) = (l1.length : Int) then (lw_SameSpans.l0 k l0 l1 0) else (some false)
theorem lw_SameSpans.mono_l : ∀ k, (∀ y0 y1 y2, LeO (lw_SameSpans.l0 k y0 y1 y2) (lw_SameSpans.l0 (k + 1) y0 y1 y2))
 | 0 => fun _ _ _ r h => by simp [lw_SameSpans.l0] at h
 | k + 1 => by
  have ih0 := lw_SameSpans.mono_l k
  ·intro y0 y1 y2
   unfold lw_SameSpans.l0
   repeat' first
   | (with_reducible exact ih0 _ _ _)
   | (with_reducible exact LeO.refl _)
   | (with_reducible exact LeO.none _)
   | (with_reducible refine LeO.ite ?_ ?_)
   | (with_reducible refine LeO.bind ?_ (fun _ => ?_))
   | exact LeO.none _
   | refine LeO.ite ?_ ?_
   | refine LeO.bind ?_ (fun _ => ?_)
theorem lw_SameSpans.mono : ∀ a0 a1 k, LeO (lw_SameSpans.f k a0 a1) (lw_SameSpans.f (k + 1) a0 a1) := by
 intro a0 a1 k
 have ih0 := lw_SameSpans.mono_l k
 unfold lw_SameSpans.f
 repeat' first
   | (with_reducible exact ih0 _ _ _)
   | (with_reducible exact LeO.refl _)
   | (with_reducible exact LeO.none _)
   | (with_reducible refine LeO.ite ?_ ?_)
   | (with_reducible refine LeO.bind ?_ (fun _ => ?_))
   | exact LeO.none _
   | refine LeO.ite ?_ ?_
   | refine LeO.bind ?_ (fun _ => ?_)
theorem lw_SameSpans.calls (k : Nat) (A0 : Option Addr) (c0 : Nat) (l0 : List (S27)) (A1 : Option Addr) (c1 : Nat) (l1 : List (S27)) (r : Bool) (w : World) (hr0 : Kd.C k27 w A0 l0.length l0) (hc0 : l0.length ≤ c0) (hr1 : Kd.C k27 w A1 l1.length l1) (hc1 : l1.length ≤ c1) (h : lw_SameSpans.f k l0 l1 = some r) :
  Calls Tryz.prog 49 #[.slice A0 l0.length c0, .slice A1 l1.length c1] w fun e w' => e = .returned (.bool r) ∧ Drawn0 w w' := by
 have hu27 := Tryz.underlying27; have HR0 := Sd.mk hr0; have HC0 := Sd.mk hc0; clear hr0 hc0; have HR1 := Sd.mk hr1; have HC1 := Sd.mk hc1; clear hr1 hc1
 have H : (if (l0.length : Int) = (l1.length : Int) then (lw_SameSpans.l0 k l0 l1 0) else (some false)) = some r := h
 clear h
 by_cases c3 : (l0.length : Int) = (l1.length : Int)
 ·rw [if_pos c3] at H
  have c3b0 : ((l0.length : Int) == (l1.length : Int)) = true := beq_iff_eq.mpr c3
  have c3b1 : ((l0.length : Int) != (l1.length : Int)) = false := bne_eq_false_iff_eq.mpr c3
  have c3b2 : (l0.length == l1.length) = true := by first | simpa using c3 | (simp at c3 ⊢; omega)
  clear c3; have H' := Sd.mk H; clear H
  go_enter Tryz.func49, Tryz.ntmps49
  go_wp2
  repeat (go_quiet (fail); try go_wp2)
  go_loopg [5] k (fun kq v5 w' => ∃ (x5_1 : Int), v5 = .int .i64 x5_1 ∧ Sd (lw_SameSpans.l0 kq l0 l1 x5_1 = some r) ∧ Sd (kq ≤ k) ∧ Drawn0 w w')
  case atStart => exact ⟨(0), tS, H', ⟨Nat.le_refl _⟩, by repeat (first | exact Drawn0.refl _ | apply Drawn0.step)⟩
  case round =>
   clear H'; (try clear c1); (try clear p2); (try clear c3); (try clear c3b0); (try clear c3b1); (try clear c3b2)
   obtain ⟨x5_1, rfl, HA, HK1, ⟨m1, rfl⟩⟩ := hrel
   cases gk with
   | zero => exact absurd HA.out (by simp [lw_SameSpans.l0])
   | succ k1 =>
    have H := HA.out; clear HA
    simp only [lw_SameSpans.l0] at H
    by_cases c4 : x5_1 < (l0.length : Int)
    ·rw [if_pos c4] at H
     have c4b0 : decide (x5_1 < (l0.length : Int)) = true := decide_eq_true c4
     clear c4
     by_cases c5 : 0 ≤ x5_1
     ·rw [if_pos c5] at H
      have c5b0 : decide (0 ≤ x5_1) = true := decide_eq_true c5
      clear c5
      by_cases c6 : x5_1 < (l1.length : Int)
      ·rw [if_pos c6] at H
       have c6b0 : decide (x5_1 < (l1.length : Int)) = true := decide_eq_true c6
       clear c6
       by_cases c7 : (!(((rd_T27 l0 x5_1).f0) == ((rd_T27 l1 x5_1).f0)) || (!(((rd_T27 l0 x5_1).f1) == ((rd_T27 l1 x5_1).f1)))) = true
       ·rw [if_pos c7] at H
        have c7b0 : (!(((rd_T27 l0 x5_1).f0) == ((rd_T27 l1 x5_1).f0)) || (!(((rd_T27 l0 x5_1).f1) == ((rd_T27 l1 x5_1).f1)))) = true := c7
        clear c7; obtain rfl := Option.some.inj H
        have p192 : 0 ≤ (x5_1 : Int) := tB
        have q192 : x5_1 < (l0.length : Int) := tB
        obtain ⟨ad192, e192, hx192_0, hx192_1⟩ := at_T27 HR0.out x5_1 p192 q192; cases e192; replace p192 := eq_true p192; replace q192 := eq_true q192
        have p193 : 0 ≤ (x5_1 : Int) := tB
        have q193 : x5_1 < (l1.length : Int) := tB
        obtain ⟨ad193, e193, hx193_0, hx193_1⟩ := at_T27 HR1.out x5_1 p193 q193; cases e193; replace p193 := eq_true p193; replace q193 := eq_true q193
        go_wp2
        repeat (go_quiet (fail); try go_wp2)
        go_ret
        exact ⟨by first | rfl | (simp; done) | (simp [*]; done), by repeat (first | exact Drawn0.refl _ | apply Drawn0.step)⟩
       ·rw [if_neg c7] at H
        have c7b0 : (!(((rd_T27 l0 x5_1).f0) == ((rd_T27 l1 x5_1).f0)) || (!(((rd_T27 l0 x5_1).f1) == ((rd_T27 l1 x5_1).f1)))) = false := by simpa using c7
        clear c7; have H' := Sd.mk H; clear H
        have p192 : 0 ≤ (x5_1 : Int) := tB
        have q192 : x5_1 < (l0.length : Int) := tB
        obtain ⟨ad192, e192, hx192_0, hx192_1⟩ := at_T27 HR0.out x5_1 p192 q192; cases e192; replace p192 := eq_true p192; replace q192 := eq_true q192
        have p193 : 0 ≤ (x5_1 : Int) := tB
        have q193 : x5_1 < (l1.length : Int) := tB
        obtain ⟨ad193, e193, hx193_0, hx193_1⟩ := at_T27 HR1.out x5_1 p193 q193; cases e193; replace p193 := eq_true p193; replace q193 := eq_true q193
        go_wp2
        repeat (go_quiet (fail); try go_wp2)
        go_roundg k1
        case measure => have := HK1.out; omega
        case rel => exact ⟨(wrap64 (x5_1 + 1)), tS, H', ⟨by have := HK1.out; omega⟩, by repeat (first | exact Drawn0.refl _ | apply Drawn0.step)⟩
      ·rw [if_neg c6] at H
       exact absurd H (by simp)
     ·rw [if_neg c5] at H
      exact absurd H (by simp)
    ·rw [if_neg c4] at H
     have c4b0 : decide (x5_1 < (l0.length : Int)) = false := decide_eq_false c4
     clear c4; obtain rfl := Option.some.inj H
     go_wp2
     repeat (go_quiet (fail); try go_wp2)
     go_ret
     exact ⟨by first | rfl | (simp; done) | (simp [*]; done), by repeat (first | exact Drawn0.refl _ | apply Drawn0.step)⟩
 ·rw [if_neg c3] at H
  have c3b0 : ((l0.length : Int) == (l1.length : Int)) = false := beq_eq_false_iff_ne.mpr c3
  have c3b1 : ((l0.length : Int) != (l1.length : Int)) = true := bne_iff_ne.mpr c3
  have c3b2 : (l0.length == l1.length) = false := by first | simpa using c3 | (simp at c3 ⊢; omega)
  obtain rfl := Option.some.inj H
  go_enter Tryz.func49, Tryz.ntmps49
  go_wp2
  repeat (go_quiet (fail); try go_wp2)
  go_ret
  exact ⟨by first | rfl | (simp; done) | (simp [*]; done), by repeat (first | exact Drawn0.refl _ | apply Drawn0.step)⟩
end
section
open Go.RowKit Go.Proofs.YtljfljekcpdpiaaGreatW.PrintWords Go.Proofs.YtljfljekcpdpiaaGreatW.PrintLast Go.Proofs.YtljfljekcpdpiaaGreatW.PrintMore
def lw_Example.f  : Option (List ByteArray × (List (S70)) × (List (S27)) × (List (S89)) × Int × Int × Int) := some ((([(⟨#[115, 105]⟩ : ByteArray), (⟨#[110, 97]⟩ : ByteArray)] : List ByteArray)), (([(⟨(⟨#[115, 97, 110, 100]⟩ : ByteArray), 1, 0, 0, 200, 20, (([(⟨980, 1000⟩ : S27), (⟨0, 0⟩ : S27)] : List (S27)))⟩ : S70), (⟨(⟨#[115, 111, 100, 97]⟩ : ByteArray), 4, 0, 0, 100, 20, (([(⟨0, 0⟩ : S27), (⟨570, 580⟩ : S27)] : List (S27)))⟩ : S70)] : List (S70))), (([(⟨700, 800⟩ : S27), (⟨200, 300⟩ : S27)] : List (S27))), ([] : List (S89)), (-9999), 9999, 100)
theorem lw_Example.calls  (r1 : List ByteArray) (r2 : List (S70)) (r3 : List (S27)) (r4 : List (S89)) (r5 : Int) (r6 : Int) (r7 : Int) (w : World) (h : lw_Example.f  = some (r1, r2, r3, r4, r5, r6, r7)) :
  Calls Tryz.prog 45 #[] w fun e w' => ∃ v0_ v1_ v2_ v3_ : Value, e = .returned (.agg #[v0_, v1_, v2_, v3_, .int .i64 r5, .int .i64 r6, .int .i64 r7]) ∧ Kd.R Kd.string 9 w' w.heap.size (fun k_ => (w.heap.size ≤ k_)) v0_ r1 ∧ Kd.N k70 70 w' w.heap.size (fun k_ => (w.heap.size ≤ k_) ∧ some k_ ≠ (v0_ : Value).ownBlock ∧ some k_ ≠ (v2_ : Value).ownBlock ∧ some k_ ≠ (v3_ : Value).ownBlock) v1_ r2 ∧ Kd.R k27 27 w' w.heap.size (fun k_ => (w.heap.size ≤ k_)) v2_ r3 ∧ Kd.N k89 89 w' w.heap.size (fun k_ => (w.heap.size ≤ k_) ∧ some k_ ≠ (v0_ : Value).ownBlock ∧ some k_ ≠ (v1_ : Value).ownBlock ∧ some k_ ≠ (v2_ : Value).ownBlock) v3_ r4 ∧ Below w.heap.size w w' := by
 have hu29 := Tryz.underlying29; have hu27 := Tryz.underlying27; have hu70 := Tryz.underlying70; have HB := Sd.mk (Below.refl w.heap.size w)
 have H : (some ((([(⟨#[115, 105]⟩ : ByteArray), (⟨#[110, 97]⟩ : ByteArray)] : List ByteArray)), (([(⟨(⟨#[115, 97, 110, 100]⟩ : ByteArray), 1, 0, 0, 200, 20, (([(⟨980, 1000⟩ : S27), (⟨0, 0⟩ : S27)] : List (S27)))⟩ : S70), (⟨(⟨#[115, 111, 100, 97]⟩ : ByteArray), 4, 0, 0, 100, 20, (([(⟨0, 0⟩ : S27), (⟨570, 580⟩ : S27)] : List (S27)))⟩ : S70)] : List (S70))), (([(⟨700, 800⟩ : S27), (⟨200, 300⟩ : S27)] : List (S27))), ([] : List (S89)), (-9999), 9999, 100)) = some (r1, r2, r3, r4, r5, r6, r7) := h
 clear h
 obtain ⟨y177, hy177⟩ : ∃ y_ : List ByteArray, y_ = (([(⟨#[115, 105]⟩ : ByteArray), (⟨#[110, 97]⟩ : ByteArray)] : List ByteArray)) := ⟨_, rfl⟩
 replace H : (some (y177, (([(⟨(⟨#[115, 97, 110, 100]⟩ : ByteArray), 1, 0, 0, 200, 20, (([(⟨980, 1000⟩ : S27), (⟨0, 0⟩ : S27)] : List (S27)))⟩ : S70), (⟨(⟨#[115, 111, 100, 97]⟩ : ByteArray), 4, 0, 0, 100, 20, (([(⟨0, 0⟩ : S27), (⟨570, 580⟩ : S27)] : List (S27)))⟩ : S70)] : List (S70))), (([(⟨700, 800⟩ : S27), (⟨200, 300⟩ : S27)] : List (S27))), ([] : List (S89)), (-9999), 9999, 100)) = some (r1, r2, r3, r4, r5, r6, r7) := by first | (rw [hy177]; with_reducible exact H) | (have H2_ := (Option.bind_some _ _).symm.trans H; rw [hy177]; with_reducible exact H2_) | (have H2_ := (Option.bind_some _ _).symm.trans H; with_reducible exact H2_) | with_reducible exact H | (rw [hy177]; exact H) | exact H
 have Ny177 := Sd.mk hy177; clear hy177
 obtain ⟨y180, hy180⟩ : ∃ y_ : List (S27), y_ = (([(⟨700, 800⟩ : S27), (⟨200, 300⟩ : S27)] : List (S27))) := ⟨_, rfl⟩
 replace H : (some (y177, (([(⟨(⟨#[115, 97, 110, 100]⟩ : ByteArray), 1, 0, 0, 200, 20, (([(⟨980, 1000⟩ : S27), (⟨0, 0⟩ : S27)] : List (S27)))⟩ : S70), (⟨(⟨#[115, 111, 100, 97]⟩ : ByteArray), 4, 0, 0, 100, 20, (([(⟨0, 0⟩ : S27), (⟨570, 580⟩ : S27)] : List (S27)))⟩ : S70)] : List (S70))), y180, ([] : List (S89)), (-9999), 9999, 100)) = some (r1, r2, r3, r4, r5, r6, r7) := by first | (rw [hy180]; with_reducible exact H) | (have H2_ := (Option.bind_some _ _).symm.trans H; rw [hy180]; with_reducible exact H2_) | (have H2_ := (Option.bind_some _ _).symm.trans H; with_reducible exact H2_) | with_reducible exact H | (rw [hy180]; exact H) | exact H
 have Ny180 := Sd.mk hy180; clear hy180
 obtain ⟨y183, hy183⟩ : ∃ y_ : List (S27), y_ = (([(⟨980, 1000⟩ : S27), (⟨0, 0⟩ : S27)] : List (S27))) := ⟨_, rfl⟩
 replace H : (some (y177, (([(⟨(⟨#[115, 97, 110, 100]⟩ : ByteArray), 1, 0, 0, 200, 20, y183⟩ : S70), (⟨(⟨#[115, 111, 100, 97]⟩ : ByteArray), 4, 0, 0, 100, 20, (([(⟨0, 0⟩ : S27), (⟨570, 580⟩ : S27)] : List (S27)))⟩ : S70)] : List (S70))), y180, ([] : List (S89)), (-9999), 9999, 100)) = some (r1, r2, r3, r4, r5, r6, r7) := by first | (rw [hy183]; with_reducible exact H) | (have H2_ := (Option.bind_some _ _).symm.trans H; rw [hy183]; with_reducible exact H2_) | (have H2_ := (Option.bind_some _ _).symm.trans H; with_reducible exact H2_) | with_reducible exact H | (rw [hy183]; exact H) | exact H
 have Ny183 := Sd.mk hy183; clear hy183
 obtain ⟨y186, hy186⟩ : ∃ y_ : List (S27), y_ = (([(⟨0, 0⟩ : S27), (⟨570, 580⟩ : S27)] : List (S27))) := ⟨_, rfl⟩
 replace H : (some (y177, (([(⟨(⟨#[115, 97, 110, 100]⟩ : ByteArray), 1, 0, 0, 200, 20, y183⟩ : S70), (⟨(⟨#[115, 111, 100, 97]⟩ : ByteArray), 4, 0, 0, 100, 20, y186⟩ : S70)] : List (S70))), y180, ([] : List (S89)), (-9999), 9999, 100)) = some (r1, r2, r3, r4, r5, r6, r7) := by first | (rw [hy186]; with_reducible exact H) | (have H2_ := (Option.bind_some _ _).symm.trans H; rw [hy186]; with_reducible exact H2_) | (have H2_ := (Option.bind_some _ _).symm.trans H; with_reducible exact H2_) | with_reducible exact H | (rw [hy186]; exact H) | exact H
 have Ny186 := Sd.mk hy186; clear hy186
 obtain ⟨y189, hy189⟩ : ∃ y_ : List (S70), y_ = (([(⟨(⟨#[115, 97, 110, 100]⟩ : ByteArray), 1, 0, 0, 200, 20, y183⟩ : S70), (⟨(⟨#[115, 111, 100, 97]⟩ : ByteArray), 4, 0, 0, 100, 20, y186⟩ : S70)] : List (S70))) := ⟨_, rfl⟩
 replace H : (some (y177, y189, y180, ([] : List (S89)), (-9999), 9999, 100)) = some (r1, r2, r3, r4, r5, r6, r7) := by first | (rw [hy189]; with_reducible exact H) | (have H2_ := (Option.bind_some _ _).symm.trans H; rw [hy189]; with_reducible exact H2_) | (have H2_ := (Option.bind_some _ _).symm.trans H; with_reducible exact H2_) | with_reducible exact H | (rw [hy189]; exact H) | exact H
 have Ny189 := Sd.mk hy189; clear hy189
 simp only [Option.some.injEq, Prod.mk.injEq] at H
 obtain ⟨rfl, rfl, rfl, rfl, rfl, rfl, rfl⟩ := H
 go_enter Tryz.func45, Tryz.ntmps45
 go_wp2_with (first | ((with_reducible refine gate_dst (N := 0) rfl ?_); refine box_event ?hg (N := 0) ?hd (cs := #[.slice none 0 0, .slice none 0 0, .slice none 0 0, .slice none 0 0, .int .i64 0, .int .i64 0, .int .i64 0]) (t := 29) ?hr ?_; (case hd => rfl); (case hg => rfl); (case hr => exact tG); intro gb176 hg w1 hbox hb; have BK176 := Sd.mk (hbox); have GW176 := Sd.mk (bSz hg (bBl HB.out)); have GE176 := Sd.mk (bSz hg (bBl HB.out)); replace HB := Sd.mk (below_step (bBl HB.out) hb); clear hb hbox hg) | ((with_reducible refine gate_dst (N := 1) rfl ?_); refine Kd.R_lit Kd.string _ 9 ?hg (N := 1) ?hd (xs := ([(⟨#[115, 105]⟩ : ByteArray), (⟨#[110, 97]⟩ : ByteArray)] : List ByteArray)) (inner := [.string (⟨#[115, 105]⟩ : ByteArray), .string (⟨#[110, 97]⟩ : ByteArray)]) (ok := fun _ => True) (okp := fun _ => True) ?hr ?hp (fun _ hk => hk) trivial (Below.refl _ _) (Nat.le_refl _) (by simp) ?_; (case hd => rfl); (case hg => rfl); (case hr => exact tG); (case hp => exact (Reps.one (show Kd.M Kd.string _ _ _ (⟨#[115, 105]⟩ : ByteArray) [.string (⟨#[115, 105]⟩ : ByteArray)] from rfl) (Reps.one (show Kd.M Kd.string _ _ _ (⟨#[110, 97]⟩ : ByteArray) [.string (⟨#[110, 97]⟩ : ByteArray)] from rfl) (Reps.none _ _)))); intro v178 w2 ho3 hb hg_ hnew_; clear hg_ hnew_; (first | rw [← Ny177.out] at ho3 | (simp only [Int.reduceToNat] at ho3; rw [← Ny177.out] at ho3)); have HO179 := Sd.mk (Kd.R_lower (Kd.R_newM (M := fun k_ => (w.heap.size ≤ k_)) ho3 (below_size (bBl HB.out)) (fun k_ h_ => h_)) (below_size (bBl HB.out))); replace BK176 := Sd.mk (blk_below (bkA BK176.out) hb); replace HB := Sd.mk (below_step (bBl HB.out) hb); clear hb ho3) | ((with_reducible refine gate_dst (N := 4) rfl ?_); refine Kd.R_lit k27 _ 27 ?hg (N := 4) ?hd (xs := ([(⟨700, 800⟩ : S27), (⟨200, 300⟩ : S27)] : List (S27))) (inner := [.int .i64 700, .int .i64 800, .int .i64 200, .int .i64 300]) (ok := fun _ => True) (okp := fun _ => True) ?hr ?hp (fun _ hk => hk) trivial (Below.refl _ _) (Nat.le_refl _) (by simp) ?_; (case hd => rfl); (case hg => rfl); (case hr => exact tG); (case hp => exact (Reps.c2 (show Kd.M k27 _ _ _ (⟨700, 800⟩ : S27) [.int .i64 700, .int .i64 800] from (k27_mkM _ _ _ (⟨700, 800⟩ : S27) )) (Reps.c2 (show Kd.M k27 _ _ _ (⟨200, 300⟩ : S27) [.int .i64 200, .int .i64 300] from (k27_mkM _ _ _ (⟨200, 300⟩ : S27) )) (Reps.none _ _)))); intro v181 w4 ho5 hb hg_ hnew_; clear hg_ hnew_; (first | rw [← Ny180.out] at ho5 | (simp only [Int.reduceToNat] at ho5; rw [← Ny180.out] at ho5)); replace HO179 := Sd.mk (Kd.R_below (by (with_reducible repeat (first | apply Kd.R_alloc | apply Kd.R_drewN | apply Kd.R_drew)); exact HO179.out) hb); have HO182 := Sd.mk (Kd.R_lower (Kd.R_newM (M := fun k_ => (w.heap.size ≤ k_)) ho5 (below_size (bBl HB.out)) (fun k_ h_ => h_)) (below_size (bBl HB.out))); replace BK176 := Sd.mk (blk_below (bkA BK176.out) hb); replace HB := Sd.mk (below_step (bBl HB.out) hb); clear hb ho5) | ((with_reducible refine gate_dst (N := 8) rfl ?_); refine Kd.R_lit k27 _ 27 ?hg (N := 8) ?hd (xs := ([(⟨980, 1000⟩ : S27), (⟨0, 0⟩ : S27)] : List (S27))) (inner := [.int .i64 980, .int .i64 1000, .int .i64 0, .int .i64 0]) (ok := fun _ => True) (okp := fun _ => True) ?hr ?hp (fun _ hk => hk) trivial (Below.refl _ _) (Nat.le_refl _) (by simp) ?_; (case hd => rfl); (case hg => rfl); (case hr => exact tG); (case hp => exact (Reps.c2 (show Kd.M k27 _ _ _ (⟨980, 1000⟩ : S27) [.int .i64 980, .int .i64 1000] from (k27_mkM _ _ _ (⟨980, 1000⟩ : S27) )) (Reps.c2 (show Kd.M k27 _ _ _ (⟨0, 0⟩ : S27) [.int .i64 0, .int .i64 0] from (k27_mkM _ _ _ (⟨0, 0⟩ : S27) )) (Reps.none _ _)))); intro v184 w6 ho7 hb hg_ hnew_; clear hg_ hnew_; (first | rw [← Ny183.out] at ho7 | (simp only [Int.reduceToNat] at ho7; rw [← Ny183.out] at ho7)); replace HO179 := Sd.mk (Kd.R_below (by (with_reducible repeat (first | apply Kd.R_alloc | apply Kd.R_drewN | apply Kd.R_drew)); exact HO179.out) hb); have HO185 := Sd.mk (Kd.R_lower (Kd.R_new' (Kd.R_newM (M := fun k_ => (w.heap.size ≤ k_)) ho7 (below_size (bBl HB.out)) (fun k_ h_ => h_)) (Kd.R_lt (by (with_reducible repeat (first | apply Kd.R_alloc | apply Kd.R_drewN | apply Kd.R_drew)); exact HO182.out))) (below_size (bBl HB.out))); replace HO182 := Sd.mk (Kd.R_elder' (by (with_reducible repeat (first | apply Kd.R_alloc | apply Kd.R_drewN | apply Kd.R_drew)); exact HO182.out) (Kd.R_base ho7) hb); replace BK176 := Sd.mk (blk_below (bkA BK176.out) hb); replace HB := Sd.mk (below_step (bBl HB.out) hb); clear hb ho7; obtain ⟨Ao8, co8, eo8⟩ := Kd.R_slice HO185.out; subst eo8) | ((with_reducible refine gate_dst (N := 12) rfl ?_); refine Kd.R_lit k27 _ 27 ?hg (N := 12) ?hd (xs := ([(⟨0, 0⟩ : S27), (⟨570, 580⟩ : S27)] : List (S27))) (inner := [.int .i64 0, .int .i64 0, .int .i64 570, .int .i64 580]) (ok := fun _ => True) (okp := fun _ => True) ?hr ?hp (fun _ hk => hk) trivial (Below.refl _ _) (Nat.le_refl _) (by simp) ?_; (case hd => rfl); (case hg => rfl); (case hr => exact tG); (case hp => exact (Reps.c2 (show Kd.M k27 _ _ _ (⟨0, 0⟩ : S27) [.int .i64 0, .int .i64 0] from (k27_mkM _ _ _ (⟨0, 0⟩ : S27) )) (Reps.c2 (show Kd.M k27 _ _ _ (⟨570, 580⟩ : S27) [.int .i64 570, .int .i64 580] from (k27_mkM _ _ _ (⟨570, 580⟩ : S27) )) (Reps.none _ _)))); intro v187 w9 ho10 hb hg_ hnew_; clear hg_ hnew_; (first | rw [← Ny186.out] at ho10 | (simp only [Int.reduceToNat] at ho10; rw [← Ny186.out] at ho10)); replace HO179 := Sd.mk (Kd.R_below (by (with_reducible repeat (first | apply Kd.R_alloc | apply Kd.R_drewN | apply Kd.R_drew)); exact HO179.out) hb); have HO188 := Sd.mk (Kd.R_lower (Kd.R_new' (Kd.R_new' (Kd.R_newM (M := fun k_ => (w.heap.size ≤ k_)) ho10 (below_size (bBl HB.out)) (fun k_ h_ => h_)) (Kd.R_lt (by (with_reducible repeat (first | apply Kd.R_alloc | apply Kd.R_drewN | apply Kd.R_drew)); exact HO182.out))) (Kd.R_lt (by (with_reducible repeat (first | apply Kd.R_alloc | apply Kd.R_drewN | apply Kd.R_drew)); exact HO185.out))) (below_size (bBl HB.out))); replace HO182 := Sd.mk (Kd.R_elder' (by (with_reducible repeat (first | apply Kd.R_alloc | apply Kd.R_drewN | apply Kd.R_drew)); exact HO182.out) (Kd.R_base ho10) hb); replace HO185 := Sd.mk (Kd.R_elder' (by (with_reducible repeat (first | apply Kd.R_alloc | apply Kd.R_drewN | apply Kd.R_drew)); exact HO185.out) (Kd.R_base ho10) hb); replace BK176 := Sd.mk (blk_below (bkA BK176.out) hb); replace HB := Sd.mk (below_step (bBl HB.out) hb); clear hb ho10; obtain ⟨Ao11, co11, eo11⟩ := Kd.R_slice HO188.out; subst eo11) | ((with_reducible refine gate_dst (N := 14) rfl ?_); refine Kd.N_lit k70 _ 70 ?hg (N' := 14) ?hd (xs := ([(⟨(⟨#[115, 97, 110, 100]⟩ : ByteArray), 1, 0, 0, 200, 20, y183⟩ : S70), (⟨(⟨#[115, 111, 100, 97]⟩ : ByteArray), 4, 0, 0, 100, 20, y186⟩ : S70)] : List (S70))) (inner := [.string (⟨#[115, 97, 110, 100]⟩ : ByteArray), .int .i64 1, .int .i64 0, .int .i64 0, .int .i64 200, .int .i64 20, .slice Ao8 y183.length co8, .string (⟨#[115, 111, 100, 97]⟩ : ByteArray), .int .i64 4, .int .i64 0, .int .i64 0, .int .i64 100, .int .i64 20, .slice Ao11 y186.length co11]) (ok := (fun k_ => (w.heap.size ≤ k_) ∧ some k_ ≠ (v178 : Value).ownBlock ∧ some k_ ≠ (v181 : Value).ownBlock ∧ k_ ≠ gb176)) (okp := (fun k_ => (w.heap.size ≤ k_) ∧ some k_ ≠ (v178 : Value).ownBlock ∧ some k_ ≠ (v181 : Value).ownBlock ∧ k_ ≠ gb176)) ?hr ?hp (fun _ hk => hk) ((show ∀ k_, w9.heap.size ≤ k_ → (fun k_ => (w.heap.size ≤ k_) ∧ some k_ ≠ (v178 : Value).ownBlock ∧ some k_ ≠ (v181 : Value).ownBlock ∧ k_ ≠ gb176) k_ from fun k_ hk => ⟨(Nat.le_trans (below_size (bBl HB.out)) hk), Kd.fresh' (Kd.R_lt (by (with_reducible repeat (first | apply Kd.R_alloc | apply Kd.R_drewN | apply Kd.R_drew)); exact HO179.out)) k_ hk, Kd.fresh' (Kd.R_lt (by (with_reducible repeat (first | apply Kd.R_alloc | apply Kd.R_drewN | apply Kd.R_drew)); exact HO182.out)) k_ hk, Kd.freshB (bkA BK176.out) k_ hk⟩) _ (Nat.le_refl _)) (Below.refl _ _) (Nat.le_refl _) (by simp) ?_; (case hd => rfl); (case hg => rfl); (case hr => exact tG); (case hp => exact (Reps.c7 (show Kd.FK k70 _ _ (⟨(⟨#[115, 97, 110, 100]⟩ : ByteArray), 1, 0, 0, 200, 20, y183⟩ : S70) [.string (⟨#[115, 97, 110, 100]⟩ : ByteArray), .int .i64 1, .int .i64 0, .int .i64 0, .int .i64 200, .int .i64 20, .slice Ao8 y183.length co8] from (k70_mkF _ _ (⟨(⟨#[115, 97, 110, 100]⟩ : ByteArray), 1, 0, 0, 200, 20, y183⟩ : S70) (Kd.R_reads' (Kd.R_mono (ok' := (fun k_ => (w.heap.size ≤ k_) ∧ some k_ ≠ (v178 : Value).ownBlock ∧ some k_ ≠ (v181 : Value).ownBlock ∧ k_ ≠ gb176)) (Kd.R_types (Kd.R_apart' (HO185.out) (Kd.R_typed HO179.out) (by decide)) BK176.out (by decide)) (fun k_ hk => ⟨hk.1.1.1.1.1, ⟨hk.1.2, ⟨hk.1.1.1.2, hk.2⟩⟩⟩))).2.1 (Kd.R_F (Kd.R_mono (ok' := (fun k_ => (w.heap.size ≤ k_) ∧ some k_ ≠ (v178 : Value).ownBlock ∧ some k_ ≠ (v181 : Value).ownBlock ∧ k_ ≠ gb176)) (Kd.R_types (Kd.R_apart' (HO185.out) (Kd.R_typed HO179.out) (by decide)) BK176.out (by decide)) (fun k_ hk => ⟨hk.1.1.1.1.1, ⟨hk.1.2, ⟨hk.1.1.1.2, hk.2⟩⟩⟩))))) (Reps.c7 (show Kd.FK k70 _ _ (⟨(⟨#[115, 111, 100, 97]⟩ : ByteArray), 4, 0, 0, 100, 20, y186⟩ : S70) [.string (⟨#[115, 111, 100, 97]⟩ : ByteArray), .int .i64 4, .int .i64 0, .int .i64 0, .int .i64 100, .int .i64 20, .slice Ao11 y186.length co11] from (k70_mkF _ _ (⟨(⟨#[115, 111, 100, 97]⟩ : ByteArray), 4, 0, 0, 100, 20, y186⟩ : S70) (Kd.R_reads' (Kd.R_mono (ok' := (fun k_ => (w.heap.size ≤ k_) ∧ some k_ ≠ (v178 : Value).ownBlock ∧ some k_ ≠ (v181 : Value).ownBlock ∧ k_ ≠ gb176)) (Kd.R_types (Kd.R_apart' (HO188.out) (Kd.R_typed HO179.out) (by decide)) BK176.out (by decide)) (fun k_ hk => ⟨hk.1.1.1.1.1, ⟨hk.1.2, ⟨hk.1.1.1.2, hk.2⟩⟩⟩))).2.1 (Kd.R_F (Kd.R_mono (ok' := (fun k_ => (w.heap.size ≤ k_) ∧ some k_ ≠ (v178 : Value).ownBlock ∧ some k_ ≠ (v181 : Value).ownBlock ∧ k_ ≠ gb176)) (Kd.R_types (Kd.R_apart' (HO188.out) (Kd.R_typed HO179.out) (by decide)) BK176.out (by decide)) (fun k_ hk => ⟨hk.1.1.1.1.1, ⟨hk.1.2, ⟨hk.1.1.1.2, hk.2⟩⟩⟩))))) (Reps.none _ _)))); intro v190 w12 ho13 hb hg_ hnew_; clear hg_ hnew_; (first | rw [← Ny189.out] at ho13 | (simp only [Int.reduceToNat] at ho13; rw [← Ny189.out] at ho13)); replace HO179 := Sd.mk (Kd.R_below (by (with_reducible repeat (first | apply Kd.R_alloc | apply Kd.R_drewN | apply Kd.R_drew)); exact HO179.out) hb); replace HO182 := Sd.mk (Kd.R_below (by (with_reducible repeat (first | apply Kd.R_alloc | apply Kd.R_drewN | apply Kd.R_drew)); exact HO182.out) hb); have HO191 := Sd.mk (Kd.N_lower ho13 (below_size (bBl HB.out))); replace BK176 := Sd.mk (blk_below (bkA BK176.out) hb); replace HB := Sd.mk (below_step (bBl HB.out) hb); clear HO185 HO188; clear hb ho13; obtain ⟨Ao14, co14, eo14⟩ := Kd.R_slice HO182.out; subst eo14; obtain ⟨Ao15, co15, eo15⟩ := Kd.N_slice HO191.out; subst eo15; obtain ⟨Ao16, co16, eo16⟩ := Kd.R_slice HO179.out; subst eo16; obtain ⟨u17_0, u17_1, u17_2, u17_3, u17_4, u17_5, u17_6, o17_0, o17_1, o17_2, o17_3, o17_4, o17_5, o17_6⟩ := bc7 (w := w12) BK176.out))
 refine bodyPost_ret (results_cell_row rfl _ _ gb176 29 #[.slice Ao16 y177.length co16, .slice Ao15 y189.length co15, .slice Ao14 y180.length co14, .slice none 0 0, .int .i64 (-9999), .int .i64 9999, .int .i64 100] (0, 0) _ rfl (by refine bkZ ?_; refine blk_put (cs := #[.slice Ao16 y177.length co16, .slice Ao15 y189.length co15, .slice Ao14 y180.length co14, .slice none 0 0, .int .i64 (-9999), .int .i64 9999, .int .i64 0]) ?_ 6 _ rfl; refine bkZ ?_; refine blk_put (cs := #[.slice Ao16 y177.length co16, .slice Ao15 y189.length co15, .slice Ao14 y180.length co14, .slice none 0 0, .int .i64 (-9999), .int .i64 0, .int .i64 0]) ?_ 5 _ rfl; refine bkZ ?_; refine blk_put (cs := #[.slice Ao16 y177.length co16, .slice Ao15 y189.length co15, .slice Ao14 y180.length co14, .slice none 0 0, .int .i64 0, .int .i64 0, .int .i64 0]) ?_ 4 _ rfl; refine bkZ ?_; refine blk_put (cs := #[.slice Ao16 y177.length co16, .slice Ao15 y189.length co15, .slice Ao14 y180.length co14, .slice none 0 0, .int .i64 0, .int .i64 0, .int .i64 0]) ?_ 3 _ rfl; refine bkZ ?_; refine blk_put (cs := #[.slice Ao16 y177.length co16, .slice Ao15 y189.length co15, .slice none 0 0, .slice none 0 0, .int .i64 0, .int .i64 0, .int .i64 0]) ?_ 2 _ rfl; refine bkZ ?_; refine blk_put (cs := #[.slice Ao16 y177.length co16, .slice none 0 0, .slice none 0 0, .slice none 0 0, .int .i64 0, .int .i64 0, .int .i64 0]) ?_ 1 _ rfl; refine bkZ ?_; refine blk_put (cs := #[.slice none 0 0, .slice none 0 0, .slice none 0 0, .slice none 0 0, .int .i64 0, .int .i64 0, .int .i64 0]) ?_ 0 _ rfl; refine bkZ ?_; exact BK176.out) Tryz.underlying29 rfl (by kernel_rfl)) rfl ?_
 exact ⟨_, _, _, _, tE, by (with_reducible repeat (first | apply Kd.R_alloc | apply Kd.R_drewN | apply Kd.R_drew)); exact Kd.R_mono (Kd.R_far (p := ⟨gb176, 6, none⟩) (Kd.R_far (p := ⟨gb176, 5, none⟩) (Kd.R_far (p := ⟨gb176, 4, none⟩) (Kd.R_far (p := ⟨gb176, 3, none⟩) (Kd.R_far (p := ⟨gb176, 2, none⟩) (Kd.R_far (p := ⟨gb176, 1, none⟩) (Kd.R_far (p := ⟨gb176, 0, none⟩) (Kd.R_types HO179.out BK176.out (by decide)) (fun _ hk => hk.2) (.slice Ao16 y177.length co16)) (fun _ hk => hk.2) (.slice Ao15 y189.length co15)) (fun _ hk => hk.2) (.slice Ao14 y180.length co14)) (fun _ hk => hk.2) (.slice none 0 0)) (fun _ hk => hk.2) (.int .i64 (-9999))) (fun _ hk => hk.2) (.int .i64 9999)) (fun _ hk => hk.2) (.int .i64 100)) (fun _ hk => hk.1.1), by (with_reducible repeat (first | apply Kd.N_alloc | apply Kd.N_drewN | apply Kd.N_drew)); exact Kd.N_mono (Kd.N_far (p := ⟨gb176, 6, none⟩) (Kd.N_far (p := ⟨gb176, 5, none⟩) (Kd.N_far (p := ⟨gb176, 4, none⟩) (Kd.N_far (p := ⟨gb176, 3, none⟩) (Kd.N_far (p := ⟨gb176, 2, none⟩) (Kd.N_far (p := ⟨gb176, 1, none⟩) (Kd.N_far (p := ⟨gb176, 0, none⟩) (Kd.N_mono HO191.out (fun k_ hk => (⟨hk, hk.2.2.2⟩ : _ ∧ k_ ≠ gb176))) (fun _ hk => hk.2) (.slice Ao16 y177.length co16)) (fun _ hk => hk.2) (.slice Ao15 y189.length co15)) (fun _ hk => hk.2) (.slice Ao14 y180.length co14)) (fun _ hk => hk.2) (.slice none 0 0)) (fun _ hk => hk.2) (.int .i64 (-9999))) (fun _ hk => hk.2) (.int .i64 9999)) (fun _ hk => hk.2) (.int .i64 100)) (fun _ hk => ⟨hk.1.1, ⟨hk.1.2.1, ⟨hk.1.2.2.1, (by simp [Value.ownBlock])⟩⟩⟩), by (with_reducible repeat (first | apply Kd.R_alloc | apply Kd.R_drewN | apply Kd.R_drew)); exact Kd.R_mono (Kd.R_far (p := ⟨gb176, 6, none⟩) (Kd.R_far (p := ⟨gb176, 5, none⟩) (Kd.R_far (p := ⟨gb176, 4, none⟩) (Kd.R_far (p := ⟨gb176, 3, none⟩) (Kd.R_far (p := ⟨gb176, 2, none⟩) (Kd.R_far (p := ⟨gb176, 1, none⟩) (Kd.R_far (p := ⟨gb176, 0, none⟩) (Kd.R_types HO182.out BK176.out (by decide)) (fun _ hk => hk.2) (.slice Ao16 y177.length co16)) (fun _ hk => hk.2) (.slice Ao15 y189.length co15)) (fun _ hk => hk.2) (.slice Ao14 y180.length co14)) (fun _ hk => hk.2) (.slice none 0 0)) (fun _ hk => hk.2) (.int .i64 (-9999))) (fun _ hk => hk.2) (.int .i64 9999)) (fun _ hk => hk.2) (.int .i64 100)) (fun _ hk => hk.1.1.1.1), by first | exact Kd.R_nil _ _ _ _ _ | exact Kd.N_nil _ _ _ _ _ | exact Kd.V_nil _ _ _ _ _ | exact Kd.Q_nil _ _ _ _ _ | exact Kd.S_nil _ _ _ _ _, bBl HB.out⟩
end
section
open Go.RowKit Go.Proofs.YtljfljekcpdpiaaGreatW.PrintWords Go.Proofs.YtljfljekcpdpiaaGreatW.PrintLast Go.Proofs.YtljfljekcpdpiaaGreatW.PrintMore
def lw_lives.f (k : Nat)  : Option (Bool) := (lw_Example.f).bind fun bt194 => ((x_Glass.f k bt194.1 bt194.2.1 bt194.2.2.1 bt194.2.2.2.1 bt194.2.2.2.2.1 bt194.2.2.2.2.2.1 bt194.2.2.2.2.2.2 (([80, 60] : List Int))).bind fun bt212 => (if bt212.2 = 0 then ((lw_SameSpans.f k bt212.1 (([(⟨692, 701⟩ : S27), (⟨299, 308⟩ : S27)] : List (S27)))).bind fun t219 => (some t219)) else (some false)))
theorem lw_lives.mono : ∀ k, LeO (lw_lives.f k ) (lw_lives.f (k + 1) ) := by
 intro  k
 unfold lw_lives.f
 repeat' first
   | (with_reducible exact lw_SameSpans.mono _ _ _)
   | (with_reducible exact x_Glass.mono _ _ _ _ _ _ _ _ _)
   | (with_reducible exact LeO.refl _)
   | (with_reducible exact LeO.none _)
   | (with_reducible refine LeO.ite ?_ ?_)
   | (with_reducible refine LeO.bind ?_ (fun _ => ?_))
   | exact LeO.none _
   | refine LeO.ite ?_ ?_
   | refine LeO.bind ?_ (fun _ => ?_)
theorem lw_lives.calls (k : Nat)  (r : Bool) (w : World) (h : lw_lives.f k  = some r) :
  Calls Tryz.prog 12 #[] w fun e w' => e = .returned (.bool r) ∧ Below w.heap.size w w' := by
 have hu27 := Tryz.underlying27; have HB := Sd.mk (Below.refl w.heap.size w)
 have H : ((lw_Example.f).bind fun bt194 => ((x_Glass.f k bt194.1 bt194.2.1 bt194.2.2.1 bt194.2.2.2.1 bt194.2.2.2.2.1 bt194.2.2.2.2.2.1 bt194.2.2.2.2.2.2 (([80, 60] : List Int))).bind fun bt212 => (if bt212.2 = 0 then ((lw_SameSpans.f k bt212.1 (([(⟨692, 701⟩ : S27), (⟨299, 308⟩ : S27)] : List (S27)))).bind fun t219 => (some t219)) else (some false)))) = some r := h
 clear h; replace H := Option.bind_eq_some_iff.mp H
 obtain ⟨⟨t194, t197, t200, t203, t206, t207, t208⟩, A10, H⟩ := H
 try dsimp only at H
 have A1 := Sd.mk A10; clear A10
 obtain ⟨y209, hy209⟩ : ∃ y_ : List Int, y_ = (([80, 60] : List Int)) := ⟨_, rfl⟩
 replace H : ((x_Glass.f k t194 t197 t200 t203 t206 t207 t208 y209).bind fun bt212 => (if bt212.2 = 0 then ((lw_SameSpans.f k bt212.1 (([(⟨692, 701⟩ : S27), (⟨299, 308⟩ : S27)] : List (S27)))).bind fun t219 => (some t219)) else (some false))) = some r := by first | (rw [hy209]; with_reducible exact H) | (have H2_ := (Option.bind_some _ _).symm.trans H; rw [hy209]; with_reducible exact H2_) | (have H2_ := (Option.bind_some _ _).symm.trans H; with_reducible exact H2_) | with_reducible exact H | (rw [hy209]; exact H) | exact H
 have Ny209 := Sd.mk hy209; clear hy209; replace H := Option.bind_eq_some_iff.mp H
 obtain ⟨⟨t212, t215⟩, A20, H⟩ := H
 try dsimp only at H
 have A2 := Sd.mk A20; clear A20
 by_cases c3 : t215 = 0
 ·rw [if_pos c3] at H
  have c3b0 : (t215 == 0) = true := beq_iff_eq.mpr c3
  have c3b1 : (t215 != 0) = false := bne_eq_false_iff_eq.mpr c3
  clear c3
  obtain ⟨y216, hy216⟩ : ∃ y_ : List (S27), y_ = (([(⟨692, 701⟩ : S27), (⟨299, 308⟩ : S27)] : List (S27))) := ⟨_, rfl⟩
  replace H : ((lw_SameSpans.f k t212 y216).bind fun t219 => (some t219)) = some r := by first | (rw [hy216]; with_reducible exact H) | (have H2_ := (Option.bind_some _ _).symm.trans H; rw [hy216]; with_reducible exact H2_) | (have H2_ := (Option.bind_some _ _).symm.trans H; with_reducible exact H2_) | with_reducible exact H | (rw [hy216]; exact H) | exact H
  have Ny216 := Sd.mk hy216; clear hy216; replace H := Option.bind_eq_some_iff.mp H; obtain ⟨t219, A40, H⟩ := H
  try dsimp only at H
  have A4 := Sd.mk A40; clear A40; obtain rfl := Option.some.inj H
  go_enter Tryz.func12, Tryz.ntmps12
  go_wp2_with (first | ((with_reducible refine gate_callee (f := 45) rfl ?_); refine goesL_ (some 4) rfl rfl Tryz.func45 (by kernel_rfl) rfl #[] rfl tM ?_; (with_reducible refine (lw_Example.calls  t194 t197 t200 t203 t206 t207 t208 _ A1.out).mono ?_); rintro e w5 ⟨v195, v198, v201, v204, rfl, ho0, ho1, ho2, ho3, hb⟩; refine ⟨_, rfl, ?_⟩; have HO196 := Sd.mk (Kd.R_lower (Kd.R_mono (ok' := fun k_ => True) ho0 (fun _ hk_ => trivial)) (below_size (bBl HB.out))); have HO199 := Sd.mk (Kd.N_lower (Kd.N_mono (ok' := fun k_ => some k_ ≠ (v195 : Value).ownBlock ∧ some k_ ≠ (v201 : Value).ownBlock ∧ some k_ ≠ (v204 : Value).ownBlock) ho1 (fun k_ hk_ => ⟨hk_.2.1, hk_.2.2.1, hk_.2.2.2⟩)) (below_size (bBl HB.out))); have HO202 := Sd.mk (Kd.R_lower (Kd.R_mono (ok' := fun k_ => True) ho2 (fun _ hk_ => trivial)) (below_size (bBl HB.out))); have HO205 := Sd.mk (Kd.N_lower (Kd.N_mono (ok' := fun k_ => some k_ ≠ (v195 : Value).ownBlock ∧ some k_ ≠ (v198 : Value).ownBlock ∧ some k_ ≠ (v201 : Value).ownBlock) ho3 (fun k_ hk_ => ⟨hk_.2.1, hk_.2.2.1, hk_.2.2.2⟩)) (below_size (bBl HB.out))); replace HB := Sd.mk (below_step (bBl HB.out) hb); (try clear hb); (try clear hb2); (try clear hk); (try clear hi); (try clear ho0); (try clear ho1); (try clear ho2); (try clear ho3)) | ((with_reducible refine gate_dst (N := 5) rfl ?_); (try (refine gate_guard (by rfl) ?_; dsimp only)); refine Kd.R_lit (Kd.int .i64) _ 3 ?hg (N := 5) ?hd (xs := ([80, 60] : List Int)) (inner := [.int .i64 80, .int .i64 60]) (ok := fun _ => True) (okp := fun _ => True) ?hr ?hp (fun _ hk => hk) trivial (Below.refl _ _) (Nat.le_refl _) (by simp) ?_; (case hd => rfl); (case hg => rfl); (case hr => exact tG); (case hp => exact (Reps.one (show Kd.M (Kd.int .i64) _ _ _ 80 [.int .i64 80] from rfl) (Reps.one (show Kd.M (Kd.int .i64) _ _ _ 60 [.int .i64 60] from rfl) (Reps.none _ _)))); intro v210 w6 ho7 hb hg_ hnew_; clear hg_ hnew_; (first | rw [← Ny209.out] at ho7 | (simp only [Int.reduceToNat] at ho7; rw [← Ny209.out] at ho7)); replace HO196 := Sd.mk (Kd.R_below (by (with_reducible repeat (first | apply Kd.R_alloc | apply Kd.R_drewN | apply Kd.R_drew)); exact HO196.out) hb); replace HO199 := Sd.mk (Kd.N_elder' (by (with_reducible repeat (first | apply Kd.N_alloc | apply Kd.N_drewN | apply Kd.N_drew)); exact HO199.out) (Kd.R_base ho7) hb); replace HO202 := Sd.mk (Kd.R_below (by (with_reducible repeat (first | apply Kd.R_alloc | apply Kd.R_drewN | apply Kd.R_drew)); exact HO202.out) hb); replace HO205 := Sd.mk (Kd.N_elder' (by (with_reducible repeat (first | apply Kd.N_alloc | apply Kd.N_drewN | apply Kd.N_drew)); exact HO205.out) (Kd.R_base ho7) hb); have HO211 := Sd.mk (Kd.R_lower ho7 (below_size (bBl HB.out))); replace HB := Sd.mk (below_step (bBl HB.out) hb); clear hb ho7; obtain ⟨Ao8, co8, eo8⟩ := Kd.R_slice HO196.out; subst eo8; obtain ⟨Ao9, co9, eo9⟩ := Kd.N_slice HO199.out; subst eo9; obtain ⟨Ao10, co10, eo10⟩ := Kd.R_slice HO202.out; subst eo10; obtain ⟨Ao11, co11, eo11⟩ := Kd.N_slice HO205.out; subst eo11; obtain ⟨Ao12, co12, eo12⟩ := Kd.R_slice HO211.out; subst eo12) | ((with_reducible refine gate_callee (f := 26) rfl ?_); refine goesL_ (some 6) rfl rfl Tryz.func26 (by kernel_rfl) rfl #[.agg #[.slice Ao8 t194.length co8, .slice Ao9 t197.length co9, .slice Ao10 t200.length co10, .slice Ao11 t203.length co11, .int .i64 t206, .int .i64 t207, .int .i64 t208], .slice Ao12 y209.length co12] rfl tM ?_; (with_reducible refine (x_Glass.calls k _ _ t194 _ _ t197 _ _ t200 _ _ t203 t206 t207 t208 _ _ y209 t212 t215 _ (cS ((Kd.R_reads' HO196.out).2.2)) ((Kd.R_reads' HO196.out).2.1) (cS ((Kd.N_reads' HO199.out).2.2)) ((Kd.N_reads' HO199.out).2.1) (cS ((Kd.R_reads' HO202.out).2.2)) ((Kd.R_reads' HO202.out).2.1) (cS ((Kd.N_reads' HO205.out).2.2)) ((Kd.N_reads' HO205.out).2.1) (cS ((Kd.R_reads' HO211.out).2.2)) ((Kd.R_reads' HO211.out).2.1) A2.out).mono ?_); rintro e w13 ⟨v213, rfl, ho0, hb⟩; refine ⟨_, rfl, ?_⟩; replace HO196 := Sd.mk (Kd.R_below (by (with_reducible repeat (first | apply Kd.R_alloc | apply Kd.R_drewN | apply Kd.R_drew)); exact HO196.out) hb); replace HO199 := Sd.mk (Kd.N_elder' (by (with_reducible repeat (first | apply Kd.N_alloc | apply Kd.N_drewN | apply Kd.N_drew)); exact HO199.out) (Kd.R_base ho0) hb); replace HO205 := Sd.mk (Kd.N_elder' (by (with_reducible repeat (first | apply Kd.N_alloc | apply Kd.N_drewN | apply Kd.N_drew)); exact HO205.out) (Kd.R_base ho0) hb); replace HO211 := Sd.mk (Kd.R_below (by (with_reducible repeat (first | apply Kd.R_alloc | apply Kd.R_drewN | apply Kd.R_drew)); exact HO211.out) hb); have HO214 := Sd.mk (Kd.R_lower (Kd.R_new' ho0 (Kd.R_lt (by (with_reducible repeat (first | apply Kd.R_alloc | apply Kd.R_drewN | apply Kd.R_drew)); exact HO202.out))) (below_size (bBl HB.out))); replace HO202 := Sd.mk (Kd.R_elder' (by (with_reducible repeat (first | apply Kd.R_alloc | apply Kd.R_drewN | apply Kd.R_drew)); exact HO202.out) (Kd.R_base ho0) hb); replace HB := Sd.mk (below_step (bBl HB.out) hb); (try clear hb); (try clear hb2); (try clear hk); (try clear hi); (try clear ho0)) | ((with_reducible refine gate_dst (N := 15) rfl ?_); (try (refine gate_guard (by rfl) ?_; dsimp only)); refine Kd.R_lit k27 _ 27 ?hg (N := 15) ?hd (xs := ([(⟨692, 701⟩ : S27), (⟨299, 308⟩ : S27)] : List (S27))) (inner := [.int .i64 692, .int .i64 701, .int .i64 299, .int .i64 308]) (ok := fun _ => True) (okp := fun _ => True) ?hr ?hp (fun _ hk => hk) trivial (Below.refl _ _) (Nat.le_refl _) (by simp) ?_; (case hd => rfl); (case hg => rfl); (case hr => exact tG); (case hp => exact (Reps.c2 (show Kd.M k27 _ _ _ (⟨692, 701⟩ : S27) [.int .i64 692, .int .i64 701] from (k27_mkM _ _ _ (⟨692, 701⟩ : S27) )) (Reps.c2 (show Kd.M k27 _ _ _ (⟨299, 308⟩ : S27) [.int .i64 299, .int .i64 308] from (k27_mkM _ _ _ (⟨299, 308⟩ : S27) )) (Reps.none _ _)))); intro v217 w14 ho15 hb hg_ hnew_; clear hg_ hnew_; (first | rw [← Ny216.out] at ho15 | (simp only [Int.reduceToNat] at ho15; rw [← Ny216.out] at ho15)); replace HO196 := Sd.mk (Kd.R_below (by (with_reducible repeat (first | apply Kd.R_alloc | apply Kd.R_drewN | apply Kd.R_drew)); exact HO196.out) hb); replace HO199 := Sd.mk (Kd.N_elder' (by (with_reducible repeat (first | apply Kd.N_alloc | apply Kd.N_drewN | apply Kd.N_drew)); exact HO199.out) (Kd.R_base ho15) hb); replace HO205 := Sd.mk (Kd.N_elder' (by (with_reducible repeat (first | apply Kd.N_alloc | apply Kd.N_drewN | apply Kd.N_drew)); exact HO205.out) (Kd.R_base ho15) hb); replace HO211 := Sd.mk (Kd.R_below (by (with_reducible repeat (first | apply Kd.R_alloc | apply Kd.R_drewN | apply Kd.R_drew)); exact HO211.out) hb); have HO218 := Sd.mk (Kd.R_lower (Kd.R_new' (Kd.R_new' ho15 (Kd.R_lt (by (with_reducible repeat (first | apply Kd.R_alloc | apply Kd.R_drewN | apply Kd.R_drew)); exact HO202.out))) (Kd.R_lt (by (with_reducible repeat (first | apply Kd.R_alloc | apply Kd.R_drewN | apply Kd.R_drew)); exact HO214.out))) (below_size (bBl HB.out))); replace HO202 := Sd.mk (Kd.R_elder' (by (with_reducible repeat (first | apply Kd.R_alloc | apply Kd.R_drewN | apply Kd.R_drew)); exact HO202.out) (Kd.R_base ho15) hb); replace HO214 := Sd.mk (Kd.R_elder' (by (with_reducible repeat (first | apply Kd.R_alloc | apply Kd.R_drewN | apply Kd.R_drew)); exact HO214.out) (Kd.R_base ho15) hb); replace HB := Sd.mk (below_step (bBl HB.out) hb); clear hb ho15; obtain ⟨Ao16, co16, eo16⟩ := Kd.R_slice HO214.out; subst eo16; obtain ⟨Ao17, co17, eo17⟩ := Kd.R_slice HO218.out; subst eo17) | (go_at_call 49; (with_reducible refine (lw_SameSpans.calls k _ _ t212 _ _ y216 t219 _ (cS ((Kd.R_reads' HO214.out).2.2)) ((Kd.R_reads' HO214.out).2.1) (cS ((Kd.R_reads' HO218.out).2.2)) ((Kd.R_reads' HO218.out).2.1) A4.out).mono ?_); rintro e w' ⟨rfl, ⟨nd, rfl⟩⟩))
  go_ret
  exact ⟨tE, bBl HB.out⟩
 ·rw [if_neg c3] at H
  have c3b0 : (t215 == 0) = false := beq_eq_false_iff_ne.mpr c3
  have c3b1 : (t215 != 0) = true := bne_iff_ne.mpr c3
  obtain rfl := Option.some.inj H
  go_enter Tryz.func12, Tryz.ntmps12
  go_wp2_with (first | ((with_reducible refine gate_callee (f := 45) rfl ?_); refine goesL_ (some 4) rfl rfl Tryz.func45 (by kernel_rfl) rfl #[] rfl tM ?_; (with_reducible refine (lw_Example.calls  t194 t197 t200 t203 t206 t207 t208 _ A1.out).mono ?_); rintro e w18 ⟨v195, v198, v201, v204, rfl, ho0, ho1, ho2, ho3, hb⟩; refine ⟨_, rfl, ?_⟩; have HO196 := Sd.mk (Kd.R_lower (Kd.R_mono (ok' := fun k_ => True) ho0 (fun _ hk_ => trivial)) (below_size (bBl HB.out))); have HO199 := Sd.mk (Kd.N_lower (Kd.N_mono (ok' := fun k_ => some k_ ≠ (v195 : Value).ownBlock ∧ some k_ ≠ (v201 : Value).ownBlock ∧ some k_ ≠ (v204 : Value).ownBlock) ho1 (fun k_ hk_ => ⟨hk_.2.1, hk_.2.2.1, hk_.2.2.2⟩)) (below_size (bBl HB.out))); have HO202 := Sd.mk (Kd.R_lower (Kd.R_mono (ok' := fun k_ => True) ho2 (fun _ hk_ => trivial)) (below_size (bBl HB.out))); have HO205 := Sd.mk (Kd.N_lower (Kd.N_mono (ok' := fun k_ => some k_ ≠ (v195 : Value).ownBlock ∧ some k_ ≠ (v198 : Value).ownBlock ∧ some k_ ≠ (v201 : Value).ownBlock) ho3 (fun k_ hk_ => ⟨hk_.2.1, hk_.2.2.1, hk_.2.2.2⟩)) (below_size (bBl HB.out))); replace HB := Sd.mk (below_step (bBl HB.out) hb); (try clear hb); (try clear hb2); (try clear hk); (try clear hi); (try clear ho0); (try clear ho1); (try clear ho2); (try clear ho3)) | ((with_reducible refine gate_dst (N := 5) rfl ?_); (try (refine gate_guard (by rfl) ?_; dsimp only)); refine Kd.R_lit (Kd.int .i64) _ 3 ?hg (N := 5) ?hd (xs := ([80, 60] : List Int)) (inner := [.int .i64 80, .int .i64 60]) (ok := fun _ => True) (okp := fun _ => True) ?hr ?hp (fun _ hk => hk) trivial (Below.refl _ _) (Nat.le_refl _) (by simp) ?_; (case hd => rfl); (case hg => rfl); (case hr => exact tG); (case hp => exact (Reps.one (show Kd.M (Kd.int .i64) _ _ _ 80 [.int .i64 80] from rfl) (Reps.one (show Kd.M (Kd.int .i64) _ _ _ 60 [.int .i64 60] from rfl) (Reps.none _ _)))); intro v210 w19 ho20 hb hg_ hnew_; clear hg_ hnew_; (first | rw [← Ny209.out] at ho20 | (simp only [Int.reduceToNat] at ho20; rw [← Ny209.out] at ho20)); replace HO196 := Sd.mk (Kd.R_below (by (with_reducible repeat (first | apply Kd.R_alloc | apply Kd.R_drewN | apply Kd.R_drew)); exact HO196.out) hb); replace HO199 := Sd.mk (Kd.N_elder' (by (with_reducible repeat (first | apply Kd.N_alloc | apply Kd.N_drewN | apply Kd.N_drew)); exact HO199.out) (Kd.R_base ho20) hb); replace HO202 := Sd.mk (Kd.R_below (by (with_reducible repeat (first | apply Kd.R_alloc | apply Kd.R_drewN | apply Kd.R_drew)); exact HO202.out) hb); replace HO205 := Sd.mk (Kd.N_elder' (by (with_reducible repeat (first | apply Kd.N_alloc | apply Kd.N_drewN | apply Kd.N_drew)); exact HO205.out) (Kd.R_base ho20) hb); have HO211 := Sd.mk (Kd.R_lower ho20 (below_size (bBl HB.out))); replace HB := Sd.mk (below_step (bBl HB.out) hb); clear hb ho20; obtain ⟨Ao21, co21, eo21⟩ := Kd.R_slice HO196.out; subst eo21; obtain ⟨Ao22, co22, eo22⟩ := Kd.N_slice HO199.out; subst eo22; obtain ⟨Ao23, co23, eo23⟩ := Kd.R_slice HO202.out; subst eo23; obtain ⟨Ao24, co24, eo24⟩ := Kd.N_slice HO205.out; subst eo24; obtain ⟨Ao25, co25, eo25⟩ := Kd.R_slice HO211.out; subst eo25) | ((with_reducible refine gate_callee (f := 26) rfl ?_); refine goesL_ (some 6) rfl rfl Tryz.func26 (by kernel_rfl) rfl #[.agg #[.slice Ao21 t194.length co21, .slice Ao22 t197.length co22, .slice Ao23 t200.length co23, .slice Ao24 t203.length co24, .int .i64 t206, .int .i64 t207, .int .i64 t208], .slice Ao25 y209.length co25] rfl tM ?_; (with_reducible refine (x_Glass.calls k _ _ t194 _ _ t197 _ _ t200 _ _ t203 t206 t207 t208 _ _ y209 t212 t215 _ (cS ((Kd.R_reads' HO196.out).2.2)) ((Kd.R_reads' HO196.out).2.1) (cS ((Kd.N_reads' HO199.out).2.2)) ((Kd.N_reads' HO199.out).2.1) (cS ((Kd.R_reads' HO202.out).2.2)) ((Kd.R_reads' HO202.out).2.1) (cS ((Kd.N_reads' HO205.out).2.2)) ((Kd.N_reads' HO205.out).2.1) (cS ((Kd.R_reads' HO211.out).2.2)) ((Kd.R_reads' HO211.out).2.1) A2.out).mono ?_); rintro e w26 ⟨v213, rfl, ho0, hb⟩; refine ⟨_, rfl, ?_⟩; replace HO196 := Sd.mk (Kd.R_below (by (with_reducible repeat (first | apply Kd.R_alloc | apply Kd.R_drewN | apply Kd.R_drew)); exact HO196.out) hb); replace HO199 := Sd.mk (Kd.N_elder' (by (with_reducible repeat (first | apply Kd.N_alloc | apply Kd.N_drewN | apply Kd.N_drew)); exact HO199.out) (Kd.R_base ho0) hb); replace HO205 := Sd.mk (Kd.N_elder' (by (with_reducible repeat (first | apply Kd.N_alloc | apply Kd.N_drewN | apply Kd.N_drew)); exact HO205.out) (Kd.R_base ho0) hb); replace HO211 := Sd.mk (Kd.R_below (by (with_reducible repeat (first | apply Kd.R_alloc | apply Kd.R_drewN | apply Kd.R_drew)); exact HO211.out) hb); have HO214 := Sd.mk (Kd.R_lower (Kd.R_new' ho0 (Kd.R_lt (by (with_reducible repeat (first | apply Kd.R_alloc | apply Kd.R_drewN | apply Kd.R_drew)); exact HO202.out))) (below_size (bBl HB.out))); replace HO202 := Sd.mk (Kd.R_elder' (by (with_reducible repeat (first | apply Kd.R_alloc | apply Kd.R_drewN | apply Kd.R_drew)); exact HO202.out) (Kd.R_base ho0) hb); replace HB := Sd.mk (below_step (bBl HB.out) hb); (try clear hb); (try clear hb2); (try clear hk); (try clear hi); (try clear ho0)))
  go_ret
  exact ⟨tE, bBl HB.out⟩
end
section
open Go.RowKit Go.Proofs.YtljfljekcpdpiaaGreatW.PrintWords Go.Proofs.YtljfljekcpdpiaaGreatW.PrintLast Go.Proofs.YtljfljekcpdpiaaGreatW.PrintMore
def lw_wide.f (l0_0 : List Int) (l0_1 : List Int) (a0_2 : Int) (a0_3 : Int) (a0_4 : Int) (l0_5 : List Int) : Option (Bool) := if (l0_0.length : Int) > 100 then (some true) else (if (l0_1.length : Int) > 100 then (some true) else (some (decide ((l0_5.length : Int) > 100))))
theorem lw_wide.calls (A0_0 : Option Addr) (c0_0 : Nat) (l0_0 : List Int) (A0_1 : Option Addr) (c0_1 : Nat) (l0_1 : List Int) (a0_2 : Int) (a0_3 : Int) (a0_4 : Int) (A0_5 : Option Addr) (c0_5 : Nat) (l0_5 : List Int) (r : Bool) (w : World) (hr0_0 : Kd.C (Kd.int .i64) w A0_0 l0_0.length l0_0) (hc0_0 : l0_0.length ≤ c0_0) (hr0_1 : Kd.C (Kd.int .i64) w A0_1 l0_1.length l0_1) (hc0_1 : l0_1.length ≤ c0_1) (hr0_5 : Kd.C (Kd.int .i64) w A0_5 l0_5.length l0_5) (hc0_5 : l0_5.length ≤ c0_5) (h : lw_wide.f l0_0 l0_1 a0_2 a0_3 a0_4 l0_5 = some r) :
  Calls Tryz.prog 11 #[.agg #[.slice A0_0 l0_0.length c0_0, .slice A0_1 l0_1.length c0_1, .int .i64 a0_2, .int .i64 a0_3, .int .i64 a0_4, .slice A0_5 l0_5.length c0_5]] w fun e w' => e = .returned (.bool r) ∧ Below w.heap.size w w' := by
 have hu34 := Tryz.underlying34; have HR0_0 := Sd.mk hr0_0; have HC0_0 := Sd.mk hc0_0; clear hr0_0 hc0_0; have HR0_1 := Sd.mk hr0_1; have HC0_1 := Sd.mk hc0_1; clear hr0_1 hc0_1; have HR0_5 := Sd.mk hr0_5; have HC0_5 := Sd.mk hc0_5; clear hr0_5 hc0_5; have HB := Sd.mk (Below.refl w.heap.size w)
 have H : (if (l0_0.length : Int) > 100 then (some true) else (if (l0_1.length : Int) > 100 then (some true) else (some (decide ((l0_5.length : Int) > 100))))) = some r := h
 clear h
 by_cases c2 : (l0_0.length : Int) > 100
 ·rw [if_pos c2] at H
  have c2b0 : decide (100 < (l0_0.length : Int)) = true := decide_eq_true c2
  have c2b1 : decide (100 < l0_0.length) = true := decide_eq_true (by omega)
  clear c2; obtain rfl := Option.some.inj H
  go_enter Tryz.func11, Tryz.ntmps11
  go_wp2_with (first | ((with_reducible refine gate_dst (N := 1) rfl ?_); (try (refine gate_guard (by rfl) ?_; dsimp only)); refine box_event ?hg (N := 1) ?hd (cs := #[.slice A0_0 l0_0.length c0_0, .slice A0_1 l0_1.length c0_1, .int .i64 a0_2, .int .i64 a0_3, .int .i64 a0_4, .slice A0_5 l0_5.length c0_5]) (t := 34) ?hr ?_; (case hd => rfl); (case hg => rfl); (case hr => exact tG); intro gb107 hg w3 hbox hb; have BK107 := Sd.mk (hbox); have GW107 := Sd.mk (bSz hg (bBl HB.out)); have GE107 := Sd.mk (bSz hg (bBl HB.out)); replace HB := Sd.mk (below_step (bBl HB.out) hb); clear hb hbox hg; obtain ⟨u4_0, u4_1, u4_2, u4_3, u4_4, u4_5, o4_0, o4_1, o4_2, o4_3, o4_4, o4_5⟩ := bc6 (w := w3) BK107.out))
  go_ret
  exact ⟨tE, bBl HB.out⟩
 ·rw [if_neg c2] at H
  have c2b0 : decide (100 < (l0_0.length : Int)) = false := decide_eq_false c2
  have c2b1 : decide (100 < l0_0.length) = false := decide_eq_false (by omega)
  clear c2
  by_cases c5 : (l0_1.length : Int) > 100
  ·rw [if_pos c5] at H
   have c5b0 : decide (100 < (l0_1.length : Int)) = true := decide_eq_true c5
   have c5b1 : decide (100 < l0_1.length) = true := decide_eq_true (by omega)
   clear c5; obtain rfl := Option.some.inj H
   go_enter Tryz.func11, Tryz.ntmps11
   go_wp2_with (first | ((with_reducible refine gate_dst (N := 1) rfl ?_); (try (refine gate_guard (by rfl) ?_; dsimp only)); refine box_event ?hg (N := 1) ?hd (cs := #[.slice A0_0 l0_0.length c0_0, .slice A0_1 l0_1.length c0_1, .int .i64 a0_2, .int .i64 a0_3, .int .i64 a0_4, .slice A0_5 l0_5.length c0_5]) (t := 34) ?hr ?_; (case hd => rfl); (case hg => rfl); (case hr => exact tG); intro gb107 hg w6 hbox hb; have BK107 := Sd.mk (hbox); have GW107 := Sd.mk (bSz hg (bBl HB.out)); have GE107 := Sd.mk (bSz hg (bBl HB.out)); replace HB := Sd.mk (below_step (bBl HB.out) hb); clear hb hbox hg; obtain ⟨u7_0, u7_1, u7_2, u7_3, u7_4, u7_5, o7_0, o7_1, o7_2, o7_3, o7_4, o7_5⟩ := bc6 (w := w6) BK107.out))
   go_ret
   exact ⟨tE, bBl HB.out⟩
  ·rw [if_neg c5] at H
   have c5b0 : decide (100 < (l0_1.length : Int)) = false := decide_eq_false c5
   have c5b1 : decide (100 < l0_1.length) = false := decide_eq_false (by omega)
   clear c5; obtain rfl := Option.some.inj H
   go_enter Tryz.func11, Tryz.ntmps11
   go_wp2_with (first | ((with_reducible refine gate_dst (N := 1) rfl ?_); (try (refine gate_guard (by rfl) ?_; dsimp only)); refine box_event ?hg (N := 1) ?hd (cs := #[.slice A0_0 l0_0.length c0_0, .slice A0_1 l0_1.length c0_1, .int .i64 a0_2, .int .i64 a0_3, .int .i64 a0_4, .slice A0_5 l0_5.length c0_5]) (t := 34) ?hr ?_; (case hd => rfl); (case hg => rfl); (case hr => exact tG); intro gb107 hg w8 hbox hb; have BK107 := Sd.mk (hbox); have GW107 := Sd.mk (bSz hg (bBl HB.out)); have GE107 := Sd.mk (bSz hg (bBl HB.out)); replace HB := Sd.mk (below_step (bBl HB.out) hb); clear hb hbox hg; obtain ⟨u9_0, u9_1, u9_2, u9_3, u9_4, u9_5, o9_0, o9_1, o9_2, o9_3, o9_4, o9_5⟩ := bc6 (w := w8) BK107.out))
   go_ret
   exact ⟨tE, bBl HB.out⟩
end
section
open Go.RowKit Go.Proofs.YtljfljekcpdpiaaGreatW.PrintWords Go.Proofs.YtljfljekcpdpiaaGreatW.PrintLast Go.Proofs.YtljfljekcpdpiaaGreatW.PrintMore
section
variable {o : List ByteArray} {mt : List S70} {s : List S27} {p : List S89} {a4 a5 a6 : Int} {r : List Int}
end
section
variable (o : List ByteArray) (mt : List S70) (s : List S27) (p : List S89) (a4 a5 a6 : Int) (r : List Int)
end
section
variable (o : List ByteArray) (mt : List S70) (s : List S27) (p : List S89) (a4 a5 a6 : Int)
theorem great_l2 (hp : p.length ≤ 20) : ∀ (m i : Nat) (x : Int), i + m = p.length → ∃ b, Ev (fun k => lw_Great.l2 k x (i : Int) o mt s p a4 a5 a6) b
  | 0, i, x, hi => by
    refine ⟨decide (x > 2000), ?_⟩
    apply Ev.step
    simp only [lw_Great.l2, if_neg (show ¬ (i : Int) < (p.length : Int) by omega)]
    exact Ev.const _
  | m + 1, i, x, hi => by
    obtain ⟨b, ih⟩ := great_l2 hp m (i + 1) (wrap64 (x + ((rd_T89 p (i : Int)).f0.size : Int))) (by omega)
    by_cases h : (((rd_T89 p (i : Int)).f1).length : Int) > 20
    · refine ⟨true, ?_⟩
      apply Ev.step
      simp only [lw_Great.l2, if_pos (show (i : Int) < (p.length : Int) by omega), if_pos (i_pos i), if_pos h]
      exact Ev.const _
    · refine ⟨b, ?_⟩
      apply Ev.step
      simp only [lw_Great.l2, if_pos (show (i : Int) < (p.length : Int) by omega), if_pos (i_pos i), if_neg h, wrap_succ (i_pos i) (show (i : Int) ≤ 1000000000 by omega)]
      exact ih
theorem great_l1 (hm : mt.length ≤ 20) (hp : p.length ≤ 20) : ∀ (m i : Nat) (x : Int), i + m = mt.length → ∃ b, Ev (fun k => lw_Great.l1 k x (i : Int) o mt s p a4 a5 a6) b
  | 0, i, x, hi => by
    obtain ⟨b, hb⟩ := great_l2 o mt s p a4 a5 a6 hp p.length 0 x (by omega)
    refine ⟨b, ?_⟩
    apply Ev.step
    simp only [lw_Great.l1, if_neg (show ¬ (i : Int) < (mt.length : Int) by omega)]
    exact hb
  | m + 1, i, x, hi => by
    obtain ⟨b, ih⟩ := great_l1 hm hp m (i + 1) (wrap64 (x + ((rd_T70 mt (i : Int)).f0.size : Int))) (by omega)
    by_cases h : (((rd_T70 mt (i : Int)).f6).length : Int) > 20
    · refine ⟨true, ?_⟩
      apply Ev.step
      simp only [lw_Great.l1, if_pos (show (i : Int) < (mt.length : Int) by omega), if_pos (i_pos i), if_pos h]
      exact Ev.const _
    · refine ⟨b, ?_⟩
      apply Ev.step
      simp only [lw_Great.l1, if_pos (show (i : Int) < (mt.length : Int) by omega), if_pos (i_pos i), if_neg h, wrap_succ (i_pos i) (show (i : Int) ≤ 1000000000 by omega)]
      exact ih
theorem great_l0 (ho : o.length ≤ 20) (hm : mt.length ≤ 20) (hp : p.length ≤ 20) : ∀ (m i : Nat) (x : Int), i + m = o.length → ∃ b, Ev (fun k => lw_Great.l0 k x (i : Int) o mt s p a4 a5 a6) b
  | 0, i, x, hi => by
    obtain ⟨b, hb⟩ := great_l1 o mt s p a4 a5 a6 hm hp mt.length 0 x (by omega)
    refine ⟨b, ?_⟩
    apply Ev.step
    simp only [lw_Great.l0, if_neg (show ¬ (i : Int) < (o.length : Int) by omega)]
    exact hb
  | m + 1, i, x, hi => by
    obtain ⟨b, ih⟩ := great_l0 ho hm hp m (i + 1) (wrap64 (x + ((rdOf ByteArray.empty o (i : Int)).size : Int))) (by omega)
    refine ⟨b, ?_⟩
    apply Ev.step
    simp only [lw_Great.l0, if_pos (show (i : Int) < (o.length : Int) by omega), if_pos (i_pos i), wrap_succ (i_pos i) (show (i : Int) ≤ 1000000000 by omega)]
    exact ih
theorem great : ∃ b, Ev (fun k => lw_Great.f k o mt s p a4 a5 a6) b := by
  have ht : Ev (fun k => lw_Great.j0 k true o mt s p a4 a5 a6) true := by
    apply Ev.step
    simp only [lw_Great.j0, if_true]
    exact Ev.const _
  unfold lw_Great.f
  by_cases h1 : (o.length : Int) > 20
  · simp only [if_pos h1]; exact ⟨_, ht⟩
  by_cases h2 : (mt.length : Int) > 20
  · simp only [if_neg h1, if_pos h2]; exact ⟨_, ht⟩
  by_cases h3 : (s.length : Int) > 20
  · simp only [if_neg h1, if_neg h2, if_pos h3]; exact ⟨_, ht⟩
  simp only [if_neg h1, if_neg h2, if_neg h3]
  by_cases h4 : (p.length : Int) > 20
  · rw [show decide ((p.length : Int) > 20) = true by simpa using h4]; exact ⟨_, ht⟩
  · rw [show decide ((p.length : Int) > 20) = false by simpa using h4]
    obtain ⟨b, hb⟩ := great_l0 o mt s p a4 a5 a6 (by omega) (by omega) (by omega) o.length 0 0 (by omega)
    refine ⟨b, ?_⟩
    apply Ev.step
    simp only [lw_Great.j0, Bool.false_eq_true, if_false]
    exact hb
theorem wide_ev (l0 l1 : List Int) (a2 a3 a4 : Int) (l5 : List Int) : ∃ b, lw_wide.f l0 l1 a2 a3 a4 l5 = some b := by
  unfold lw_wide.f
  split
  · exact ⟨_, rfl⟩
  · split <;> exact ⟨_, rfl⟩
end
theorem lives_ev : Ev (fun k => lw_lives.f k) true := by
  refine Ev.of_mono (f := fun k => lw_lives.f k) (K := 60) (fun k => lw_lives.mono k) ?_
  kernel_rfl
section
variable (o : List ByteArray) (mt : List S70) (s : List S27) (p : List S89) (a4 a5 a6 : Int) (r l1 : List Int) (n b3 b4 : Int) (l5 : List Int)
end
end
section
open Go.RowKit Go.Proofs.YtljfljekcpdpiaaGreatW.PrintWords Go.Proofs.YtljfljekcpdpiaaGreatW.PrintLast Go.Proofs.YtljfljekcpdpiaaGreatW.PrintMore
def b_ends.l0 : Nat → Int → Int → List (S27) → Int → Int → Option (Int × Int)
 | 0, _, _, _, _, _ => none
 | k + 1, x2, x3, x7, x8, x9 => if x9 < x8 then (if 0 ≤ x9 then (if x9 < (x7.length : Int) then (b_ends.l0 k (wrap64 (x2 + ((rd_T27 x7 x9).f0))) (wrap64 (x3 + ((rd_T27 x7 x9).f1))) x7 x8 (wrap64 (x9 + 1))) else (none)) else (none)) else (some (x2, x3))
def b_ends.f (k : Nat) (a0_0 : ByteArray) (a0_1 : Int) (a0_2 : Int) (a0_3 : Int) (a0_4 : Int) (a0_5 : Int) (l0_6 : List (S27)) : Option (Int × Int) := b_ends.l0 k 0 0 l0_6 (l0_6.length : Int) 0
theorem b_ends.calls (k : Nat) (a0_0 : ByteArray) (a0_1 : Int) (a0_2 : Int) (a0_3 : Int) (a0_4 : Int) (a0_5 : Int) (A0_6 : Option Addr) (c0_6 : Nat) (l0_6 : List (S27)) (r1 : Int) (r2 : Int) (w : World) (hr0_6 : Kd.C k27 w A0_6 l0_6.length l0_6) (hc0_6 : l0_6.length ≤ c0_6) (h : b_ends.f k a0_0 a0_1 a0_2 a0_3 a0_4 a0_5 l0_6 = some (r1, r2)) :
  Calls Tryz.prog 140 #[.agg #[.string a0_0, .int .i64 a0_1, .int .i64 a0_2, .int .i64 a0_3, .int .i64 a0_4, .int .i64 a0_5, .slice A0_6 l0_6.length c0_6]] w fun e w' => e = .returned (.tuple #[.int .i64 r1, .int .i64 r2]) ∧ Below w.heap.size w w' := by
 have hu70 := Tryz.underlying70; have hu27 := Tryz.underlying27; have HR0_6 := Sd.mk hr0_6; have HC0_6 := Sd.mk hc0_6; clear hr0_6 hc0_6; have HB := Sd.mk (Below.refl w.heap.size w)
 have H : (b_ends.l0 k 0 0 l0_6 (l0_6.length : Int) 0) = some (r1, r2) := h
 clear h; have H' := Sd.mk H; clear H
 go_enter Tryz.func140, Tryz.ntmps140
 go_wp2_with (first | ((with_reducible refine gate_dst (N := 1) rfl ?_); refine box_event ?hg (N := 1) ?hd (cs := #[.string a0_0, .int .i64 a0_1, .int .i64 a0_2, .int .i64 a0_3, .int .i64 a0_4, .int .i64 a0_5, .slice A0_6 l0_6.length c0_6]) (t := 70) ?hr ?_; (case hd => rfl); (case hg => rfl); (case hr => exact tG); intro gb1006 hg w2 hbox hb; have BK1006 := Sd.mk (hbox); have GW1006 := Sd.mk (bSz hg (bBl HB.out)); have GE1006 := Sd.mk (bSz hg (bBl HB.out)); replace HB := Sd.mk (below_step (bBl HB.out) hb); clear hb hbox hg; obtain ⟨u3_0, u3_1, u3_2, u3_3, u3_4, u3_5, u3_6, o3_0, o3_1, o3_2, o3_3, o3_4, o3_5, o3_6⟩ := bc7 (w := w2) BK1006.out))
 go_loopg [2, 3, 9] k (fun kq v2 v3 v9 w' => ∃ (x2_1 : Int) (x3_1 : Int) (x9_1 : Int), v2 = .int .i64 x2_1 ∧ v3 = .int .i64 x3_1 ∧ v9 = .int .i64 x9_1 ∧ Sd (b_ends.l0 kq x2_1 x3_1 l0_6 (l0_6.length : Int) x9_1 = some (r1, r2)) ∧ Sd (kq ≤ k) ∧ Sd (w'.heap[gb1006]? = some (.cells #[.string a0_0, .int .i64 a0_1, .int .i64 a0_2, .int .i64 a0_3, .int .i64 a0_4, .int .i64 a0_5, (.slice A0_6 l0_6.length c0_6)] 70 (0, 0))) ∧ Sd (Below w.heap.size w w'))
 case atStart => exact ⟨(0), (0), (0), tS, tS, tS, H', ⟨Nat.le_refl _⟩, ⟨bkA BK1006.out⟩, ⟨bBl HB.out⟩⟩
 case round =>
  clear H'; (try clear c1); (try clear p2); (try clear u3_0 u3_1 u3_2 u3_3 u3_4 u3_5 u3_6); (try clear o3_0 o3_1 o3_2 o3_3 o3_4 o3_5 o3_6); obtain ⟨x2_1, x3_1, x9_1, rfl, rfl, rfl, HA, HK1, BK1006, HB⟩ := hrel
  cases gk with
  | zero => exact absurd HA.out (by simp [b_ends.l0])
  | succ k1 =>
   have H := HA.out; clear HA
   simp only [b_ends.l0] at H
   by_cases c4 : x9_1 < (l0_6.length : Int)
   ·rw [if_pos c4] at H
    have c4b0 : decide (x9_1 < (l0_6.length : Int)) = true := decide_eq_true c4
    clear c4
    by_cases c5 : 0 ≤ x9_1
    ·rw [if_pos c5] at H
     have c5b0 : decide (0 ≤ x9_1) = true := decide_eq_true c5
     clear c5
     by_cases c6 : x9_1 < (l0_6.length : Int)
     ·rw [if_pos c6] at H
      have c6b0 : decide (x9_1 < (l0_6.length : Int)) = true := decide_eq_true c6
      clear c6; have H' := Sd.mk H; clear H
      have p1007 : 0 ≤ (x9_1 : Int) := tB
      have q1007 : x9_1 < (l0_6.length : Int) := tB
      obtain ⟨ad1007, e1007, hx1007_0, hx1007_1⟩ := at_T27 HR0_6.out x9_1 p1007 q1007; cases e1007; replace hx1007_0 := cU HB hx1007_0; replace hx1007_1 := cU HB hx1007_1; replace p1007 := eq_true p1007; replace q1007 := eq_true q1007
      go_wp2_with (first | ((with_reducible refine gate_dst (N := 5) rfl ?_); refine box_event ?hg (N := 5) ?hd (cs := #[.int .i64 0, .int .i64 0]) (t := 27) ?hr ?_; (case hd => rfl); (case hg => rfl); (case hr => exact tG); intro gb1008 hg w7 hbox hb; have BK1008 := Sd.mk (hbox); have GW1008 := Sd.mk (bSz hg (bBl HB.out)); have GE1008 := Sd.mk (bSz hg (bBl HB.out)); replace HB := Sd.mk (below_step (bBl HB.out) hb); have NB1006_1008 := Sd.mk (bNl hg (bkA BK1006.out)); have NB1008_1006 := Sd.mk (bNg hg (bkA BK1006.out)); replace BK1006 := Sd.mk (blk_below (bkA BK1006.out) hb); clear hb hbox hg; have hnb8 := NB1008_1006.out; have hnc8 := NB1006_1008.out; obtain ⟨u9_0, u9_1, o9_0, o9_1⟩ := bc2 (w := w7) BK1008.out))
      go_roundg k1
      case measure => have := HK1.out; omega
      case rel => exact ⟨(wrap64 (x2_1 + ((rd_T27 l0_6 x9_1).f0))), (wrap64 (x3_1 + ((rd_T27 l0_6 x9_1).f1))), (wrap64 (x9_1 + 1)), tS, tS, tS, H', ⟨by have := HK1.out; omega⟩, ⟨by refine bkZ ?_; refine blk_far ?_ NB1006_1008.out _; refine bkZ ?_; refine blk_far ?_ NB1006_1008.out _; refine bkZ ?_; exact BK1006.out⟩, ⟨bBl HB.out⟩⟩
     ·rw [if_neg c6] at H
      exact absurd H (by simp)
    ·rw [if_neg c5] at H
     exact absurd H (by simp)
   ·rw [if_neg c4] at H
    have c4b0 : decide (x9_1 < (l0_6.length : Int)) = false := decide_eq_false c4
    clear c4
    simp only [Option.some.injEq, Prod.mk.injEq] at H
    obtain ⟨rfl, rfl⟩ := H
    go_wp2
    go_ret2
    exact ⟨tE, bBl HB.out⟩
end
section
open Go.RowKit Go.Proofs.YtljfljekcpdpiaaGreatW.PrintWords Go.Proofs.YtljfljekcpdpiaaGreatW.PrintLast Go.Proofs.YtljfljekcpdpiaaGreatW.PrintMore
attribute [local go_sem] max2_int min2_int max_two min_two
theorem l122_calls (F g : Nat) (lb : Array Value) (cf : Int → Int) (N t0 t1 : Int) (w W : World) (eg : ∀ args w, (callFunc g args).run Tryz.prog w = .ok (.enter g args) w)
  (hq : CoefQ g lb cf N w) (hb : Below w.heap.size w W) (hF : W.heap[F]? = some (.cells #[.func (.func g) #[] lb, .int .i64 t0, .int .i64 t1] 128 (0, 0))) (x : Int) (hx0 : 0 ≤ x) (hx1 : x < N)
  (hw : wrap64 (cf x - t1) = cf x - t1) :
  Calls Tryz.prog 143 #[.int .i64 x, .pointer (some ⟨F, 0, none⟩)] W fun e w' => e = .returned (.int .i64 (cf x - t1)) ∧ ∃ q, w' = W.drewN q := by
 have h1 : ∀ n, Calls Tryz.prog g (#[.int .i64 x] ++ lb) (W.drewN n) fun e w' => e = .returned (.int .i64 (cf x)) ∧ ∃ q, w' = (W.drewN n).drewN q := fun n => hq _ (pw_below_drewN hb n) x hx0 hx1
 have H1 : Sd _ := ⟨h1⟩
 have HW := Sd.mk hw
 have c0 : W.cell? ⟨F, 0, none⟩ = some (.func (.func g) #[] lb) := (blk_cell hF 0).trans rfl
 have c2 : W.cell? ⟨F, 0 + 1 + 1, none⟩ = some (.int .i64 t1) := (blk_cell hF 2).trans rfl
 clear h1 hq hb hw hF
 generalize cf x = cx at *
 go_enter Tryz.func143, Tryz.ntmps143
 go_wp2_with fail
 go_quiet (first | (go_at_fn g; exact Calls.quiet_of (H1.out _)))
 go_wp2
 go_ret
 exact ⟨by show Ending.returned (.int .i64 (wrap64 (cx - t1))) = _; rw [HW.out], _, rfl⟩
theorem l124_calls (F g : Nat) (lb : Array Value) (cf : Int → Int) (N t0 t1 : Int) (w W : World) (eg : ∀ args w, (callFunc g args).run Tryz.prog w = .ok (.enter g args) w)
  (hq : CoefQ g lb cf N w) (hb : Below w.heap.size w W) (hF : W.heap[F]? = some (.cells #[.func (.func g) #[] lb, .int .i64 t0, .int .i64 t1] 128 (0, 0))) (x : Int) (hx0 : 0 ≤ x) (hx1 : x < N)
  (hw : wrap64 (t0 - cf x) = t0 - cf x) :
  Calls Tryz.prog 145 #[.int .i64 x, .pointer (some ⟨F, 0, none⟩)] W fun e w' => e = .returned (.int .i64 (t0 - cf x)) ∧ ∃ q, w' = W.drewN q := by
 have h1 : ∀ n, Calls Tryz.prog g (#[.int .i64 x] ++ lb) (W.drewN n) fun e w' => e = .returned (.int .i64 (cf x)) ∧ ∃ q, w' = (W.drewN n).drewN q := fun n => hq _ (pw_below_drewN hb n) x hx0 hx1
 have H1 : Sd _ := ⟨h1⟩
 have HW := Sd.mk hw
 have c0 : W.cell? ⟨F, 0, none⟩ = some (.func (.func g) #[] lb) := (blk_cell hF 0).trans rfl
 have c2 : W.cell? ⟨F, 0 + 1, none⟩ = some (.int .i64 t0) := (blk_cell hF 1).trans rfl
 clear h1 hq hb hw hF
 generalize cf x = cx at *
 go_enter Tryz.func145, Tryz.ntmps145
 go_wp2_with fail
 go_quiet (first | (go_at_fn g; exact Calls.quiet_of (H1.out _)))
 go_wp2
 go_ret
 exact ⟨by show Ending.returned (.int .i64 (wrap64 (t0 - cx))) = _; rw [HW.out], _, rfl⟩
def gT (df : Int → Int) (l : List S27) (j : Nat) : Int := max (df (j : Int) * (rd_T27 l (j : Int)).f0) (df (j : Int) * (rd_T27 l (j : Int)).f1)
def gTS (df : Int → Int) (l : List S27) (n : Nat) : Int := sumTo (gT df l) n
structure DfOk (df : Int → Int) (n : Nat) : Prop where
 at_ : ∀ j : Nat, j < n → -20000 ≤ df (j : Int) ∧ df (j : Int) ≤ 20000
theorem gT_bound {df : Int → Int} {l : List S27} (H : GOk l) (C : DfOk df l.length) : ∀ j, j < l.length → -3600000000000 ≤ gT df l j ∧ gT df l j ≤ 3600000000000 := by
 intro j hj
 have a1 := H.at_ j hj
 have a2 := C.at_ j hj
 have b1 := mulb (c := df j) (x := (rd_T27 l (j : Int)).f0) (by omega) (by omega) (by omega) (by omega)
 have b2 := mulb (c := df j) (x := (rd_T27 l (j : Int)).f1) (by omega) (by omega) (by omega) (by omega)
 unfold gT
 omega
theorem gTS_step {df : Int → Int} {l : List S27} (H : GOk l) (C : DfOk df l.length) {k : Nat} (hk : k < l.length) :
  wrap64 (gTS df l k + mx (wrap64 (df (k : Int) * (rd_T27 l (k : Int)).f0)) (wrap64 (df (k : Int) * (rd_T27 l (k : Int)).f1))) = gTS df l (k + 1) := by
 have hn := H.n12
 have a1 := H.at_ k hk
 have a2 := C.at_ k hk
 have b1 := mulb (c := df k) (x := (rd_T27 l (k : Int)).f0) (by omega) (by omega) (by omega) (by omega)
 have b2 := mulb (c := df k) (x := (rd_T27 l (k : Int)).f1) (by omega) (by omega) (by omega) (by omega)
 have b3 := gT_bound H C k hk
 have b4 := sumTo_bound (f := gT df l) (M := 3600000000000) (n := l.length) (gT_bound H C) k (by omega)
 rw [wrap_id (x := df k * (rd_T27 l (k : Int)).f0) (by omega) (by omega), wrap_id (x := df k * (rd_T27 l (k : Int)).f1) (by omega) (by omega), mx_max]
 show wrap64 (gTS df l k + gT df l k) = _
 unfold gTS
 rw [wrap_id (by omega) (by omega)]
 rfl
theorem greatest_calls (x : S70) (A : Option Addr) (c g : Nat) (lb : Array Value) (df : Int → Int) (w : World) (eg : ∀ args w, (callFunc g args).run Tryz.prog w = .ok (.enter g args) w)
  (hq : CoefQ g lb df x.f6.length w) (hC : Kd.C k27 w A x.f6.length x.f6) (hc : x.f6.length ≤ c) (hG : GOk x.f6) (hd : DfOk df x.f6.length) :
  Calls Tryz.prog 142 #[.agg #[.string x.f0, .int .i64 x.f1, .int .i64 x.f2, .int .i64 x.f3, .int .i64 x.f4, .int .i64 x.f5, .slice A x.f6.length c], .func (.func g) #[] lb] w fun e w' => e = .returned (.int .i64 (gTS df x.f6 x.f6.length)) ∧ Below w.heap.size w w' := by
 have hb0 : Below w.heap.size w (w.alloc (.cells #[.string x.f0, .int .i64 x.f1, .int .i64 x.f2, .int .i64 x.f3, .int .i64 x.f4, .int .i64 x.f5, .slice A x.f6.length c] 70)) := below_alloc (Below.refl _ _) _
 have HB := Sd.mk hb0
 have hbk := blk_new w (.cells #[.string x.f0, .int .i64 x.f1, .int .i64 x.f2, .int .i64 x.f3, .int .i64 x.f4, .int .i64 x.f5, .slice A x.f6.length c] 70)
 have HBK := Sd.mk hbk
 have HQ := Sd.mk hq
 have HC := Sd.mk hC
 have HG := Sd.mk hG
 have HD := Sd.mk hd
 clear hq hC hc hG hd hb0
 go_enter Tryz.func142, Tryz.ntmps142
 have hc6 : (w.alloc (.cells #[.string x.f0, .int .i64 x.f1, .int .i64 x.f2, .int .i64 x.f3, .int .i64 x.f4, .int .i64 x.f5, .slice A x.f6.length c] 70)).cell? ⟨w.heap.size, 0 + 6, none⟩ = some (.slice A x.f6.length c) := (blk_cell hbk 6).trans rfl
 go_wp2
 have hl12 : x.f6.length ≤ 12 := HG.out.n12
 have HL12 := Sd.mk hl12
 clear hc6 hbk hl12
 generalize w.alloc (.cells #[.string x.f0, .int .i64 x.f1, .int .i64 x.f2, .int .i64 x.f3, .int .i64 x.f4, .int .i64 x.f5, .slice A x.f6.length c] 70) = w0 at HB HBK ⊢
 go_loopg [11, 5] x.f6.length (fun gq v11 v5 wr => ∃ k : Nat, v11 = .int .i64 k ∧ v5 = .int .i64 (gTS df x.f6 k) ∧ k ≤ x.f6.length ∧ x.f6.length - k ≤ gq ∧ Sd (Below w.heap.size w wr))
 case atStart => exact ⟨0, rfl, rfl, Nat.zero_le _, by omega, HB⟩
 case round =>
  clear HB HBK
  obtain ⟨k, rfl, rfl, hk, hgk, HB⟩ := hrel
  have hl12 := HL12.out
  by_cases hlt : k < x.f6.length
  ·have hltz : (k : Int) < (x.f6.length : Int) := by omega
   obtain ⟨ad, rfl, hx0, hx1⟩ := at_T27 (Kd.C_below HC.out HB.out) (k : Int) (by omega) hltz
   simp only [Int.toNat_natCast] at hx0 hx1
   have HB2 := Sd.mk (below_alloc HB.out (.cells #[.int .i64 (rd_T27 x.f6 (k : Int)).f0, .int .i64 (rd_T27 x.f6 (k : Int)).f1] 27))
   have hbk := blk_new wr (.cells #[.int .i64 (rd_T27 x.f6 (k : Int)).f0, .int .i64 (rd_T27 x.f6 (k : Int)).f1] 27)
   have HSTEP := Sd.mk (gTS_step HG.out HD.out hlt)
   have h0 : (wr.alloc (.cells #[.int .i64 (rd_T27 x.f6 (k : Int)).f0, .int .i64 (rd_T27 x.f6 (k : Int)).f1] 27)).cell? ⟨wr.heap.size, 0, none⟩ = some (.int .i64 (rd_T27 x.f6 (k : Int)).f0) := (blk_cell hbk 0).trans rfl
   have h1 : (wr.alloc (.cells #[.int .i64 (rd_T27 x.f6 (k : Int)).f0, .int .i64 (rd_T27 x.f6 (k : Int)).f1] 27)).cell? ⟨wr.heap.size, 0 + 1, none⟩ = some (.int .i64 (rd_T27 x.f6 (k : Int)).f1) := (blk_cell hbk 1).trans rfl
   have HH0 := Sd.mk h0
   have HH1 := Sd.mk h1
   have hcoef : ∀ W, Below wr.heap.size wr W → Calls Tryz.prog g (#[.int .i64 (k : Int)] ++ lb) W fun e w' => e = .returned (.int .i64 (df k)) ∧ ∃ q, w' = W.drewN q := fun W hW => HQ.out W (below_then HB.out HB.out.size hW) _ (by omega) hltz
   have HCF := Sd.mk hcoef
   clear hbk h0 h1 hcoef
   go_upto_region 5 with (fail)
   generalize gTS df x.f6 k = acc at *
   have H1 : Sd (∀ n, Calls Tryz.prog g (#[.int .i64 (k : Int)] ++ lb) ((wr.alloc (.cells #[.int .i64 (rd_T27 x.f6 (k : Int)).f0, .int .i64 (rd_T27 x.f6 (k : Int)).f1] 27)).drewN n) fun e w' => e = .returned (.int .i64 (df k)) ∧ ∃ q, w' = ((wr.alloc (.cells #[.int .i64 (rd_T27 x.f6 (k : Int)).f0, .int .i64 (rd_T27 x.f6 (k : Int)).f1] 27)).drewN n).drewN q) := ⟨fun n => HCF.out _ (pw_below_drewN (below_alloc (Below.refl _ _) _) n)⟩
   generalize wr.alloc (.cells #[.int .i64 (rd_T27 x.f6 (k : Int)).f0, .int .i64 (rd_T27 x.f6 (k : Int)).f1] 27) = wa at *
   have h0 := HH0.out
   have h1 := HH1.out
   go_quiet (first | (go_at_fn g; exact Calls.quiet_of (H1.out _)))
   clear h0 h1 HH0 HH1 H1
   go_wp2
   all_goals
    go_roundg (x.f6.length - (k + 1))
    case measure => omega
    case rel => exact ⟨k + 1, rfl, by rw [← HSTEP.out]; unfold mx; first | rw [if_pos (by assumption)] | rw [if_neg (Int.not_lt.2 (by assumption))], by omega, by omega, ⟨by repeat (first | (with_reducible first | exact HB2.out | apply pw_below_drewN | apply below_drew1) | exact HB2.out)⟩⟩
  ·have hltz : ¬ (k : Int) < (x.f6.length : Int) := by omega
   obtain rfl : k = x.f6.length := by omega
   go_wp2
   go_ret
   exact ⟨rfl, HB.out⟩
def lowM (x : S70) : Int := wS S27.f0 x.f6 x.f6.length
def highM (x : S70) : Int := wS S27.f1 x.f6 x.f6.length
theorem ends_l0 {l : List S27} (H : GOk l) : ∀ (m i : Nat), i + m = l.length → Ev (fun k => b_ends.l0 k (wS S27.f0 l i) (wS S27.f1 l i) l (l.length : Int) (i : Int)) (wS S27.f0 l l.length, wS S27.f1 l l.length)
 | 0, i, hi => by
  apply Ev.step
  simp only [b_ends.l0, if_neg (show ¬ (i : Int) < (l.length : Int) by omega)]
  rw [show i = l.length by omega]
  exact Ev.const _
 | m + 1, i, hi => by
  have ih := ends_l0 H m (i + 1) (by omega)
  have hn := H.n12
  have hb := wS_bounds H i (by omega)
  have hc := H.at_ i (by omega)
  apply Ev.step
  simp only [b_ends.l0, if_pos (show (i : Int) < (l.length : Int) by omega), if_pos (i_pos i), wrap_succ (i_pos i) (show (i : Int) ≤ 1000000000 by omega)]
  rw [wrap_id (x := wS S27.f0 l i + (rd_T27 l (i : Int)).f0) (by omega) (by omega), wrap_id (x := wS S27.f1 l i + (rd_T27 l (i : Int)).f1) (by omega) (by omega)]
  exact ih
theorem ends_calls (x : S70) (A : Option Addr) (c : Nat) (w : World) (hC : Kd.C k27 w A x.f6.length x.f6) (hc : x.f6.length ≤ c) (hG : GOk x.f6) :
  Calls Tryz.prog 140 #[.agg #[.string x.f0, .int .i64 x.f1, .int .i64 x.f2, .int .i64 x.f3, .int .i64 x.f4, .int .i64 x.f5, .slice A x.f6.length c]] w fun e w' => e = .returned (.tuple #[.int .i64 (lowM x), .int .i64 (highM x)]) ∧ Below w.heap.size w w' := by
 obtain ⟨K, hK⟩ := ends_l0 hG x.f6.length 0 (by omega)
 exact b_ends.calls K x.f0 x.f1 x.f2 x.f3 x.f4 x.f5 A c x.f6 (lowM x) (highM x) w hC hc (hK K (Nat.le_refl _))
theorem lowM_bound {x : S70} (H : GOk x.f6) : 0 ≤ lowM x ∧ lowM x ≤ highM x ∧ highM x ≤ 1440000000 := by
 have h := wS_bounds H x.f6.length (Nat.le_refl _)
 have hn := H.n12
 unfold lowM highM
 omega
theorem l118_calls (x : S70) (A : Option Addr) (c : Nat) (w : World) (hC : Kd.C k27 w A x.f6.length x.f6) (hc : x.f6.length ≤ c) (hG : GOk x.f6) :
  Calls Tryz.prog 139 #[.agg #[.string x.f0, .int .i64 x.f1, .int .i64 x.f2, .int .i64 x.f3, .int .i64 x.f4, .int .i64 x.f5, .slice A x.f6.length c]] w fun e w' => e = .returned (.int .i64 (-lowM x)) ∧ Below w.heap.size w w' := by
 have hb0 : Below w.heap.size w (w.alloc (.cells #[.string x.f0, .int .i64 x.f1, .int .i64 x.f2, .int .i64 x.f3, .int .i64 x.f4, .int .i64 x.f5, .slice A x.f6.length c] 70)) := below_alloc (Below.refl _ _) _
 have hgo := ends_calls x A c (w.alloc (.cells #[.string x.f0, .int .i64 x.f1, .int .i64 x.f2, .int .i64 x.f3, .int .i64 x.f4, .int .i64 x.f5, .slice A x.f6.length c] 70)) (Kd.C_below hC hb0) hc hG
 have HLB := Sd.mk (lowM_bound hG)
 have HB := Sd.mk hb0
 clear hC hc hG hb0
 go_enter Tryz.func139, Tryz.ntmps139
 go_wp2_with fail
 generalize w.alloc (.cells #[.string x.f0, .int .i64 x.f1, .int .i64 x.f2, .int .i64 x.f3, .int .i64 x.f4, .int .i64 x.f5, .slice A x.f6.length c] 70) = w0 at *
 refine hgo.mono ?_
 clear hgo
 rintro e w1 ⟨rfl, hb⟩
 have hlb := HLB.out
 go_wp2
 go_ret
 exact ⟨rfl, below_trans' HB.out hb⟩
theorem l120_calls (x : S70) (A : Option Addr) (c F g : Nat) (lb : Array Value) (cf : Int → Int) (t0 t1 : Int) (w W : World) (eg : ∀ args w, (callFunc g args).run Tryz.prog w = .ok (.enter g args) w)
  (hq : CoefQ g lb cf x.f6.length w) (hb : Below w.heap.size w W) (hF : W.heap[F]? = some (.cells #[.func (.func g) #[] lb, .int .i64 t0, .int .i64 t1] 128 (0, 0)))
  (hC : Kd.C k27 W A x.f6.length x.f6) (hc : x.f6.length ≤ c) (hG : GOk x.f6) (hcf : CfOk cf x.f6.length) (ht : (-10000 ≤ t0 ∧ t0 ≤ 10000) ∧ -10000 ≤ t1 ∧ t1 ≤ 10000) :
  Calls Tryz.prog 141 (#[.agg #[.string x.f0, .int .i64 x.f1, .int .i64 x.f2, .int .i64 x.f3, .int .i64 x.f4, .int .i64 x.f5, .slice A x.f6.length c]] ++ #[.pointer (some ⟨F, 0, none⟩)]) W fun e w' => e = .returned (.int .i64 (gTS (fun k => cf k - t1) x.f6 x.f6.length)) ∧ Below W.heap.size W w' := by
 have hb0 : Below W.heap.size W (W.alloc (.cells #[.string x.f0, .int .i64 x.f1, .int .i64 x.f2, .int .i64 x.f3, .int .i64 x.f4, .int .i64 x.f5, .slice A x.f6.length c] 70)) := below_alloc (Below.refl _ _) _
 have hq2 : CoefQ 143 #[.pointer (some ⟨F, 0, none⟩)] (fun k => cf k - t1) x.f6.length (W.alloc (.cells #[.string x.f0, .int .i64 x.f1, .int .i64 x.f2, .int .i64 x.f3, .int .i64 x.f4, .int .i64 x.f5, .slice A x.f6.length c] 70)) := by
  intro W' hW' y hy0 hy1
  obtain ⟨j, hj, rfl⟩ : ∃ j : Nat, j < x.f6.length ∧ y = j := ⟨y.toNat, by omega, by omega⟩
  have h1 := hcf.at_ j hj
  exact l122_calls F g lb cf x.f6.length t0 t1 w W' eg hq (below_trans' hb (below_trans' hb0 hW')) (blk_below hF (below_trans' hb0 hW')) (j : Int) hy0 hy1 (wrap_id (by omega) (by omega))
 have hgo := greatest_calls x A c 143 #[.pointer (some ⟨F, 0, none⟩)] (fun k => cf k - t1) (W.alloc (.cells #[.string x.f0, .int .i64 x.f1, .int .i64 x.f2, .int .i64 x.f3, .int .i64 x.f4, .int .i64 x.f5, .slice A x.f6.length c] 70)) (enters_of Tryz.func143 (by kernel_rfl) rfl) hq2 (Kd.C_below hC hb0) hc hG ⟨fun j hj => by have h1 := hcf.at_ j hj; omega⟩
 have HB := Sd.mk hb0
 clear hC hc hG hb0 hq2 hq hb hF
 show Calls Tryz.prog 141 #[.agg #[.string x.f0, .int .i64 x.f1, .int .i64 x.f2, .int .i64 x.f3, .int .i64 x.f4, .int .i64 x.f5, .slice A x.f6.length c], .pointer (some ⟨F, 0, none⟩)] W _
 go_enter Tryz.func141, Tryz.ntmps141
 go_wp2_with fail
 generalize W.alloc (.cells #[.string x.f0, .int .i64 x.f1, .int .i64 x.f2, .int .i64 x.f3, .int .i64 x.f4, .int .i64 x.f5, .slice A x.f6.length c] 70) = w0 at *
 refine hgo.mono ?_
 clear hgo
 rintro e w1 ⟨rfl, hb⟩
 go_wp2
 go_ret
 exact ⟨rfl, below_trans' HB.out hb⟩
theorem l123_calls (x : S70) (A : Option Addr) (c F g : Nat) (lb : Array Value) (cf : Int → Int) (t0 t1 : Int) (w W : World) (eg : ∀ args w, (callFunc g args).run Tryz.prog w = .ok (.enter g args) w)
  (hq : CoefQ g lb cf x.f6.length w) (hb : Below w.heap.size w W) (hF : W.heap[F]? = some (.cells #[.func (.func g) #[] lb, .int .i64 t0, .int .i64 t1] 128 (0, 0)))
  (hC : Kd.C k27 W A x.f6.length x.f6) (hc : x.f6.length ≤ c) (hG : GOk x.f6) (hcf : CfOk cf x.f6.length) (ht : (-10000 ≤ t0 ∧ t0 ≤ 10000) ∧ -10000 ≤ t1 ∧ t1 ≤ 10000) :
  Calls Tryz.prog 144 (#[.agg #[.string x.f0, .int .i64 x.f1, .int .i64 x.f2, .int .i64 x.f3, .int .i64 x.f4, .int .i64 x.f5, .slice A x.f6.length c]] ++ #[.pointer (some ⟨F, 0, none⟩)]) W fun e w' => e = .returned (.int .i64 (gTS (fun k => t0 - cf k) x.f6 x.f6.length)) ∧ Below W.heap.size W w' := by
 have hb0 : Below W.heap.size W (W.alloc (.cells #[.string x.f0, .int .i64 x.f1, .int .i64 x.f2, .int .i64 x.f3, .int .i64 x.f4, .int .i64 x.f5, .slice A x.f6.length c] 70)) := below_alloc (Below.refl _ _) _
 have hq2 : CoefQ 145 #[.pointer (some ⟨F, 0, none⟩)] (fun k => t0 - cf k) x.f6.length (W.alloc (.cells #[.string x.f0, .int .i64 x.f1, .int .i64 x.f2, .int .i64 x.f3, .int .i64 x.f4, .int .i64 x.f5, .slice A x.f6.length c] 70)) := by
  intro W' hW' y hy0 hy1
  obtain ⟨j, hj, rfl⟩ : ∃ j : Nat, j < x.f6.length ∧ y = j := ⟨y.toNat, by omega, by omega⟩
  have h1 := hcf.at_ j hj
  exact l124_calls F g lb cf x.f6.length t0 t1 w W' eg hq (below_trans' hb (below_trans' hb0 hW')) (blk_below hF (below_trans' hb0 hW')) (j : Int) hy0 hy1 (wrap_id (by omega) (by omega))
 have hgo := greatest_calls x A c 145 #[.pointer (some ⟨F, 0, none⟩)] (fun k => t0 - cf k) (W.alloc (.cells #[.string x.f0, .int .i64 x.f1, .int .i64 x.f2, .int .i64 x.f3, .int .i64 x.f4, .int .i64 x.f5, .slice A x.f6.length c] 70)) (enters_of Tryz.func145 (by kernel_rfl) rfl) hq2 (Kd.C_below hC hb0) hc hG ⟨fun j hj => by have h1 := hcf.at_ j hj; omega⟩
 have HB := Sd.mk hb0
 clear hC hc hG hb0 hq2 hq hb hF
 show Calls Tryz.prog 144 #[.agg #[.string x.f0, .int .i64 x.f1, .int .i64 x.f2, .int .i64 x.f3, .int .i64 x.f4, .int .i64 x.f5, .slice A x.f6.length c], .pointer (some ⟨F, 0, none⟩)] W _
 go_enter Tryz.func144, Tryz.ntmps144
 go_wp2_with fail
 generalize W.alloc (.cells #[.string x.f0, .int .i64 x.f1, .int .i64 x.f2, .int .i64 x.f3, .int .i64 x.f4, .int .i64 x.f5, .slice A x.f6.length c] 70) = w0 at *
 refine hgo.mono ?_
 clear hgo
 rintro e w1 ⟨rfl, hb⟩
 go_wp2
 go_ret
 exact ⟨rfl, below_trans' HB.out hb⟩
def rUp (u : Int) (x : S70) : Int := 1000000 * x.f2 - mn (u * lowM x) (u * highM x)
def rDn (t : Int) (x : S70) : Int := mx (t * lowM x) (t * highM x) - 1000000 * x.f2
theorem mulr {c x : Int} (h1 : -10000 ≤ c) (h2 : c ≤ 10000) (h3 : 0 ≤ x) (h4 : x ≤ 1440000000) : -14400000000000 ≤ c * x ∧ c * x ≤ 14400000000000 := by
 have e1 := Int.mul_le_mul_of_nonneg_right h1 h3
 have e2 := Int.mul_le_mul_of_nonneg_right h2 h3
 omega
theorem l125_calls (x : S70) (A : Option Addr) (c U : Nat) (u : Int) (W : World) (hU : W.heap[U]? = some (.cells #[.int .i64 u] 3 (0, 0)))
  (hC : Kd.C k27 W A x.f6.length x.f6) (hc : x.f6.length ≤ c) (hG : GOk x.f6) (hu : -10000 ≤ u ∧ u ≤ 10000) (hr : -1000 ≤ x.f2 ∧ x.f2 ≤ 1000) :
  Calls Tryz.prog 146 (#[.agg #[.string x.f0, .int .i64 x.f1, .int .i64 x.f2, .int .i64 x.f3, .int .i64 x.f4, .int .i64 x.f5, .slice A x.f6.length c]] ++ #[.pointer (some ⟨U, 0, none⟩)]) W fun e w' => e = .returned (.int .i64 (rUp u x)) ∧ Below W.heap.size W w' := by
 have hb0 : Below W.heap.size W (W.alloc (.cells #[.string x.f0, .int .i64 x.f1, .int .i64 x.f2, .int .i64 x.f3, .int .i64 x.f4, .int .i64 x.f5, .slice A x.f6.length c] 70)) := below_alloc (Below.refl _ _) _
 have hgo := ends_calls x A c (W.alloc (.cells #[.string x.f0, .int .i64 x.f1, .int .i64 x.f2, .int .i64 x.f3, .int .i64 x.f4, .int .i64 x.f5, .slice A x.f6.length c] 70)) (Kd.C_below hC hb0) hc hG
 have hlb := lowM_bound hG
 have hp1 := mulr hu.1 hu.2 hlb.1 (Int.le_trans hlb.2.1 hlb.2.2)
 have hp2 := mulr hu.1 hu.2 (Int.le_trans hlb.1 hlb.2.1) hlb.2.2
 have HP1 := Sd.mk hp1
 have HP2 := Sd.mk hp2
 have HR := Sd.mk hr
 have HB := Sd.mk hb0
 have BU := Sd.mk (blk_below hU hb0)
 have BM := Sd.mk (blk_new W (.cells #[.string x.f0, .int .i64 x.f1, .int .i64 x.f2, .int .i64 x.f3, .int .i64 x.f4, .int .i64 x.f5, .slice A x.f6.length c] 70))
 clear hC hc hG hb0 hu hr hlb hp1 hp2 hU
 show Calls Tryz.prog 146 #[.agg #[.string x.f0, .int .i64 x.f1, .int .i64 x.f2, .int .i64 x.f3, .int .i64 x.f4, .int .i64 x.f5, .slice A x.f6.length c], .pointer (some ⟨U, 0, none⟩)] W _
 go_enter Tryz.func146, Tryz.ntmps146
 go_wp2_with fail
 generalize W.alloc (.cells #[.string x.f0, .int .i64 x.f1, .int .i64 x.f2, .int .i64 x.f3, .int .i64 x.f4, .int .i64 x.f5, .slice A x.f6.length c] 70) = w0 at *
 refine hgo.mono ?_
 clear hgo
 rintro e w1 ⟨rfl, hb⟩
 have HB1 := Sd.mk hb
 have hm2 : w1.cell? ⟨W.heap.size, 0 + 2, none⟩ = some (.int .i64 x.f2) := (blk_cell (blk_below BM.out hb) 2).trans rfl
 have hu0 : w1.cell? ⟨U, 0, none⟩ = some (.int .i64 u) := (blk_cell (blk_below BU.out hb) 0).trans rfl
 obtain ⟨hp1, hp1'⟩ := HP1.out
 obtain ⟨hp2, hp2'⟩ := HP2.out
 obtain ⟨hr1, hr2⟩ := HR.out
 clear hb
 go_wp2
 all_goals
  go_ret
  refine ⟨?_, below_trans' HB.out HB1.out⟩
  unfold rUp mn
  first | rw [if_pos (by assumption)] | rw [if_neg (Int.not_lt.2 (by assumption))]
  try rfl
theorem l126_calls (x : S70) (A : Option Addr) (c U : Nat) (u : Int) (W : World) (hU : W.heap[U]? = some (.cells #[.int .i64 u] 3 (0, 0)))
  (hC : Kd.C k27 W A x.f6.length x.f6) (hc : x.f6.length ≤ c) (hG : GOk x.f6) (hu : -10000 ≤ u ∧ u ≤ 10000) (hr : -1000 ≤ x.f2 ∧ x.f2 ≤ 1000) :
  Calls Tryz.prog 147 (#[.agg #[.string x.f0, .int .i64 x.f1, .int .i64 x.f2, .int .i64 x.f3, .int .i64 x.f4, .int .i64 x.f5, .slice A x.f6.length c]] ++ #[.pointer (some ⟨U, 0, none⟩)]) W fun e w' => e = .returned (.int .i64 (rDn u x)) ∧ Below W.heap.size W w' := by
 have hb0 : Below W.heap.size W (W.alloc (.cells #[.string x.f0, .int .i64 x.f1, .int .i64 x.f2, .int .i64 x.f3, .int .i64 x.f4, .int .i64 x.f5, .slice A x.f6.length c] 70)) := below_alloc (Below.refl _ _) _
 have hgo := ends_calls x A c (W.alloc (.cells #[.string x.f0, .int .i64 x.f1, .int .i64 x.f2, .int .i64 x.f3, .int .i64 x.f4, .int .i64 x.f5, .slice A x.f6.length c] 70)) (Kd.C_below hC hb0) hc hG
 have hlb := lowM_bound hG
 have hp1 := mulr hu.1 hu.2 hlb.1 (Int.le_trans hlb.2.1 hlb.2.2)
 have hp2 := mulr hu.1 hu.2 (Int.le_trans hlb.1 hlb.2.1) hlb.2.2
 have HP1 := Sd.mk hp1
 have HP2 := Sd.mk hp2
 have HR := Sd.mk hr
 have HB := Sd.mk hb0
 have BU := Sd.mk (blk_below hU hb0)
 have BM := Sd.mk (blk_new W (.cells #[.string x.f0, .int .i64 x.f1, .int .i64 x.f2, .int .i64 x.f3, .int .i64 x.f4, .int .i64 x.f5, .slice A x.f6.length c] 70))
 clear hC hc hG hb0 hu hr hlb hp1 hp2 hU
 show Calls Tryz.prog 147 #[.agg #[.string x.f0, .int .i64 x.f1, .int .i64 x.f2, .int .i64 x.f3, .int .i64 x.f4, .int .i64 x.f5, .slice A x.f6.length c], .pointer (some ⟨U, 0, none⟩)] W _
 go_enter Tryz.func147, Tryz.ntmps147
 go_wp2_with fail
 generalize W.alloc (.cells #[.string x.f0, .int .i64 x.f1, .int .i64 x.f2, .int .i64 x.f3, .int .i64 x.f4, .int .i64 x.f5, .slice A x.f6.length c] 70) = w0 at *
 refine hgo.mono ?_
 clear hgo
 rintro e w1 ⟨rfl, hb⟩
 have HB1 := Sd.mk hb
 have hm2 : w1.cell? ⟨W.heap.size, 0 + 2, none⟩ = some (.int .i64 x.f2) := (blk_cell (blk_below BM.out hb) 2).trans rfl
 have hu0 : w1.cell? ⟨U, 0, none⟩ = some (.int .i64 u) := (blk_cell (blk_below BU.out hb) 0).trans rfl
 obtain ⟨hp1, hp1'⟩ := HP1.out
 obtain ⟨hp2, hp2'⟩ := HP2.out
 obtain ⟨hr1, hr2⟩ := HR.out
 clear hb
 go_wp2
 all_goals
  go_ret
  refine ⟨?_, below_trans' HB.out HB1.out⟩
  unfold rDn mx
  first | rw [if_pos (by assumption)] | rw [if_neg (Int.not_lt.2 (by assumption))]
  try rfl
end
section
open Go.RowKit Go.Proofs.YtljfljekcpdpiaaGreatW.PrintWords Go.Proofs.YtljfljekcpdpiaaGreatW.PrintLast Go.Proofs.YtljfljekcpdpiaaGreatW.PrintMore
attribute [local go_sem] max2_int min2_int max_two min_two
theorem goesV_ {P : Program} {ops : Array Oper} {Q : Exit → Act → World → Prop} {oi : Oper} {N : Option Tmp} {a : Act} {w : World} {K : Act → World → Prop} (f : FuncId) (lb : Array Value) (eg : ∀ args w, (callFunc f args).run P w = .ok (.enter f args) w)
  {t : Tmp} {as_ : Array Operand} {ts : Array TypeId} (args : Array Value) (hw : Region.wanted oi (yielded ops a.tmps) = true) (hN : oi.dst = N) (hop : oi.op = .call { callee := .value (.tmp t), args := as_, argTypes := ts })
  (ht : a.eval (.tmp t) = .func (.func f) #[] lb) (hargs : as_.map a.eval = args) (h : Calls P f (args ++ lb) w fun e w' => ∃ v, e = .returned v ∧ K (a.put N v) w') : if Region.wanted oi (yielded ops a.tmps) = true then Oper.wp P oi a w K Q else K (a.put N undef) w := by
 refine call_ f (args ++ lb) hw hN ?_ h
 have he := eg (args ++ lb) w
 have ht' : a.tmps.getD t undef = .func (.func f) #[] lb := ht
 unfold execOp
 simp [hop, resolve, Deferred.ofValue, invoke, Act.eval, ht', ht, hargs, he]
def FacQ (g : Nat) (lb : Array Value) (fc : S70 → Int) (mt : List S70) (w : World) : Prop :=
 ∀ W, Below w.heap.size w W → ∀ i : Nat, i < mt.length → ∀ A c, Kd.C k27 W A (rd_T70 mt (i : Int)).f6.length (rd_T70 mt (i : Int)).f6 → (rd_T70 mt (i : Int)).f6.length ≤ c →
  Calls Tryz.prog g (#[.agg #[.string (rd_T70 mt (i : Int)).f0, .int .i64 (rd_T70 mt (i : Int)).f1, .int .i64 (rd_T70 mt (i : Int)).f2, .int .i64 (rd_T70 mt (i : Int)).f3, .int .i64 (rd_T70 mt (i : Int)).f4, .int .i64 (rd_T70 mt (i : Int)).f5, .slice A (rd_T70 mt (i : Int)).f6.length c]] ++ lb) W fun e w' => e = .returned (.int .i64 (fc (rd_T70 mt (i : Int)))) ∧ Below W.heap.size W w'
def lineT : Bool × List (List Nat × List Nat) := (true, [([], []), ([0], [0]), ([], []), ([], []), ([2, 3], [2, 3]), ([4], [4]), ([1, 5, 4], [1, 5]), ([0, 1, 2, 3, 4, 5, 6], []), ([7, 6, 6, 0, 1, 2, 3, 4, 5, 6], [6, 7])])
def lineB : List Nat := [0, 1, 0, 0, 12, 28, 63, 127, 255]
theorem line_tab : rtab .any (opsOf Tryz.f138 5) = lineT := by kernel_rfl
theorem line_bits : waitsOk lineT.2 lineB = true := by kernel_rfl
structure LineW (w W : World) (b : Int) (fl : List Int) : Prop where
 below : Below w.heap.size w W
 res : W.heap[w.heap.size + 1]? = some (.cells #[.slice none 0 0, .int .i64 0] 168 (0, 0))
 out : ∃ A c, W.heap[w.heap.size + 2]? = some (.cells #[.slice A fl.length c, .int .i64 b] 168 (0, 0)) ∧ Kd.R (Kd.int .i64) 3 W w.heap.size (fun _ => True) (.slice A fl.length c) fl
theorem line_calls (A0 A1 A2 A3 : Option Addr) (n0 c0 c1 n2 c2 n3 c3 : Nat) (mt : List S70) (a4 a5 a6 b : Int) (g : Nat) (lb : Array Value) (fc : S70 → Int) (w : World)
  (eg : ∀ args w, (callFunc g args).run Tryz.prog w = .ok (.enter g args) w) (hq : FacQ g lb fc mt w) (hC : Kd.C k70 w A1 mt.length mt) (hm : mt.length ≤ 12) :
  Calls Tryz.prog 138 #[.agg #[.slice A0 n0 c0, .slice A1 mt.length c1, .slice A2 n2 c2, .slice A3 n3 c3, .int .i64 a4, .int .i64 a5, .int .i64 a6], .int .i64 b, .func (.func g) #[] lb] w fun e w' =>
   ∃ v, e = .returned (.agg #[v, .int .i64 b]) ∧ Kd.R (Kd.int .i64) 3 w' w.heap.size (fun _ => True) v (mt.map fc) ∧ Below w.heap.size w w' := by
 have hlw : LineW w (((w.alloc (.cells #[.slice A0 n0 c0, .slice A1 mt.length c1, .slice A2 n2 c2, .slice A3 n3 c3, .int .i64 a4, .int .i64 a5, .int .i64 a6] 29)).alloc (.cells #[.slice none 0 0, .int .i64 0] 168)).alloc (.cells #[.slice none 0 0, .int .i64 b] 168)) b (List.map fc (mt.take 0)) := by
  refine ⟨below_alloc (below_alloc (below_alloc (Below.refl _ _) _) _) _, ?_, none, 0, ?_, ?_⟩
  ·have := blk_alloc (blk_new (w.alloc (.cells #[.slice A0 n0 c0, .slice A1 mt.length c1, .slice A2 n2 c2, .slice A3 n3 c3, .int .i64 a4, .int .i64 a5, .int .i64 a6] 29)) (.cells #[.slice none 0 0, .int .i64 0] 168)) (.cells #[.slice none 0 0, .int .i64 b] 168)
   simpa using this
  ·have := blk_new ((w.alloc (.cells #[.slice A0 n0 c0, .slice A1 mt.length c1, .slice A2 n2 c2, .slice A3 n3 c3, .int .i64 a4, .int .i64 a5, .int .i64 a6] 29)).alloc (.cells #[.slice none 0 0, .int .i64 0] 168)) (.cells #[.slice none 0 0, .int .i64 b] 168)
   simpa using this
  ·exact Kd.R_nil _ _ _ _ _
 have HQ := Sd.mk hq
 have HC := Sd.mk hC
 have HM := Sd.mk hm
 have HLW := Sd.mk hlw
 have hc1 : (((w.alloc (.cells #[.slice A0 n0 c0, .slice A1 mt.length c1, .slice A2 n2 c2, .slice A3 n3 c3, .int .i64 a4, .int .i64 a5, .int .i64 a6] 29)).alloc (.cells #[.slice none 0 0, .int .i64 0] 168)).alloc (.cells #[.slice none 0 0, .int .i64 b] 168)).cell? ⟨w.heap.size, 0 + 1, none⟩ = some (.slice A1 mt.length c1) := (blk_cell (blk_alloc (blk_alloc (blk_new w _) _) _) 1).trans rfl
 clear hq hC hlw
 go_enter Tryz.func138, Tryz.ntmps138
 go_wp2
 clear hc1
 generalize ((w.alloc (.cells #[.slice A0 n0 c0, .slice A1 mt.length c1, .slice A2 n2 c2, .slice A3 n3 c3, .int .i64 a4, .int .i64 a5, .int .i64 a6] 29)).alloc (.cells #[.slice none 0 0, .int .i64 0] 168)).alloc (.cells #[.slice none 0 0, .int .i64 b] 168) = w0 at HLW ⊢
 go_loopg [15] mt.length (fun gq v15 wr => ∃ k : Nat, v15 = .int .i64 k ∧ k ≤ mt.length ∧ mt.length - k ≤ gq ∧ Sd (LineW w wr b (List.map fc (mt.take k))))
 case atStart => exact ⟨0, rfl, Nat.zero_le _, by omega, HLW⟩
 case round =>
  clear HLW
  obtain ⟨k, rfl, hk, hgk, HW⟩ := hrel
  have hm12 := HM.out
  by_cases hlt : k < mt.length
  ·have hltz : (k : Int) < (mt.length : Int) := by omega
   obtain ⟨A, c, hO, hR⟩ := HW.out.out
   obtain ⟨ad, A6, c6, rfl, hx0, hx1, hx2, hx3, hx4, hx5, hx6, hl6, hi6⟩ := at_T70 (Kd.C_below HC.out HW.out.below) (k : Int) (by omega) hltz
   simp only [Int.toNat_natCast] at hx0 hx1 hx2 hx3 hx4 hx5 hx6
   have BM := Sd.mk (blk_new wr (.cells #[.string (rd_T70 mt (k : Int)).f0, .int .i64 (rd_T70 mt (k : Int)).f1, .int .i64 (rd_T70 mt (k : Int)).f2, .int .i64 (rd_T70 mt (k : Int)).f3, .int .i64 (rd_T70 mt (k : Int)).f4, .int .i64 (rd_T70 mt (k : Int)).f5, .slice A6 (rd_T70 mt (k : Int)).f6.length c6] 70))
   have BO := Sd.mk (blk_alloc hO (.cells #[.string (rd_T70 mt (k : Int)).f0, .int .i64 (rd_T70 mt (k : Int)).f1, .int .i64 (rd_T70 mt (k : Int)).f2, .int .i64 (rd_T70 mt (k : Int)).f3, .int .i64 (rd_T70 mt (k : Int)).f4, .int .i64 (rd_T70 mt (k : Int)).f5, .slice A6 (rd_T70 mt (k : Int)).f6.length c6] 70))
   have BR := Sd.mk (blk_alloc HW.out.res (.cells #[.string (rd_T70 mt (k : Int)).f0, .int .i64 (rd_T70 mt (k : Int)).f1, .int .i64 (rd_T70 mt (k : Int)).f2, .int .i64 (rd_T70 mt (k : Int)).f3, .int .i64 (rd_T70 mt (k : Int)).f4, .int .i64 (rd_T70 mt (k : Int)).f5, .slice A6 (rd_T70 mt (k : Int)).f6.length c6] 70))
   have HB := Sd.mk (below_alloc HW.out.below (.cells #[.string (rd_T70 mt (k : Int)).f0, .int .i64 (rd_T70 mt (k : Int)).f1, .int .i64 (rd_T70 mt (k : Int)).f2, .int .i64 (rd_T70 mt (k : Int)).f3, .int .i64 (rd_T70 mt (k : Int)).f4, .int .i64 (rd_T70 mt (k : Int)).f5, .slice A6 (rd_T70 mt (k : Int)).f6.length c6] 70))
   have HR := Sd.mk (Kd.R_alloc hR (.cells #[.string (rd_T70 mt (k : Int)).f0, .int .i64 (rd_T70 mt (k : Int)).f1, .int .i64 (rd_T70 mt (k : Int)).f2, .int .i64 (rd_T70 mt (k : Int)).f3, .int .i64 (rd_T70 mt (k : Int)).f4, .int .i64 (rd_T70 mt (k : Int)).f5, .slice A6 (rd_T70 mt (k : Int)).f6.length c6] 70))
   have NXO := Sd.mk (show w.heap.size + 2 ≠ wr.heap.size from Nat.ne_of_lt (blk_lt hO))
   have hfl : (List.map fc (mt.take k)).length = k := by simp; omega
   have HFL := Sd.mk hfl
   have HSTEP : Sd (List.map fc (mt.take k) ++ [fc (rd_T70 mt (k : Int))] = List.map fc (mt.take (k + 1))) := ⟨by rw [List.take_succ_eq_append_getElem hlt, List.map_append]; simp [rd_T70, hlt]⟩
   have HCALL := Sd.mk (fun W hW => HQ.out W hW k hlt A6 c6)
   have HL6 := Sd.mk hl6
   have HI6 := Sd.mk (Kd.C_alloc hi6 (.cells #[.string (rd_T70 mt (k : Int)).f0, .int .i64 (rd_T70 mt (k : Int)).f1, .int .i64 (rd_T70 mt (k : Int)).f2, .int .i64 (rd_T70 mt (k : Int)).f3, .int .i64 (rd_T70 mt (k : Int)).f4, .int .i64 (rd_T70 mt (k : Int)).f5, .slice A6 (rd_T70 mt (k : Int)).f6.length c6] 70))
   clear hO hR HW hfl hl6 hi6
   go_upto_region 5 with (fail)
   clear hx0 hx1 hx2 hx3 hx4 hx5 hx6
   generalize hfv : List.map fc (mt.take k) = fl at *
   clear hfv
   generalize hWX : wr.alloc (.cells #[.string (rd_T70 mt (k : Int)).f0, .int .i64 (rd_T70 mt (k : Int)).f1, .int .i64 (rd_T70 mt (k : Int)).f2, .int .i64 (rd_T70 mt (k : Int)).f3, .int .i64 (rd_T70 mt (k : Int)).f4, .int .i64 (rd_T70 mt (k : Int)).f5, .slice A6 (rd_T70 mt (k : Int)).f6.length c6] 70) = WX at *
   clear hWX
   generalize hXX : wr.heap.size = X at *
   generalize hOO : w.heap.size + 2 = O at *
   refine start_ (n := 9) (S := fun w' => w'.cell? ⟨O, 0, none⟩ = some (.slice A fl.length c) ∧ w'.cell? ⟨X, 0, none⟩ = some (.string (rd_T70 mt (k : Int)).f0) ∧ w'.cell? ⟨X, 1, none⟩ = some (.int .i64 (rd_T70 mt (k : Int)).f1) ∧ w'.cell? ⟨X, 2, none⟩ = some (.int .i64 (rd_T70 mt (k : Int)).f2) ∧ w'.cell? ⟨X, 3, none⟩ = some (.int .i64 (rd_T70 mt (k : Int)).f3) ∧ w'.cell? ⟨X, 4, none⟩ = some (.int .i64 (rd_T70 mt (k : Int)).f4) ∧ w'.cell? ⟨X, 5, none⟩ = some (.int .i64 (rd_T70 mt (k : Int)).f5) ∧ w'.cell? ⟨X, 6, none⟩ = some (.slice A6 (rd_T70 mt (k : Int)).f6.length c6)) (ds := [8]) (bA 9 0) (by kernel_rfl) rfl rfl ⟨(blk_cell BO.out 0).trans rfl, (blk_cell BM.out 0).trans rfl, (blk_cell BM.out 1).trans rfl, (blk_cell BM.out 2).trans rfl, (blk_cell BM.out 3).trans rfl, (blk_cell BM.out 4).trans rfl, (blk_cell BM.out 5).trans rfl, (blk_cell BM.out 6).trans rfl⟩ (fun hHeld => ?_); refine with_tabW line_tab line_bits (fun HT_ HW_ => ?_)
   replace BM := Sd.mk (blk_drew BM.out)
   replace BO := Sd.mk (blk_drew BO.out)
   replace BR := Sd.mk (blk_drew BR.out)
   replace HB := Sd.mk (below_drew1 HB.out)
   replace HI6 := Sd.mk (Kd.C_drew HI6.out)
   replace HR := Sd.mk (Kd.R_drew HR.out)
   generalize WX.drew = W0 at BM BO BR HB HI6 HR hHeld ⊢
   refine pQ 0 (some 19) (bA 9 1) ?_
   refine tQ 1 (some 20) (bA 9 3) ?_
   refine pQ 2 (some 21) (bA 9 7) ?_
   refine tQ 3 (some 22) (bA 9 15) ?_
   refine one_ (i := 4) (N := some 23) (bA 9 31) rfl rfl (one_of HT_.out (by kernel_rfl)) (by decide) (fun K hK => ?_)
   refine goesV_ g lb eg #[.agg #[.string (rd_T70 mt (k : Int)).f0, .int .i64 (rd_T70 mt (k : Int)).f1, .int .i64 (rd_T70 mt (k : Int)).f2, .int .i64 (rd_T70 mt (k : Int)).f3, .int .i64 (rd_T70 mt (k : Int)).f4, .int .i64 (rd_T70 mt (k : Int)).f5, .slice A6 (rd_T70 mt (k : Int)).f6.length c6]] (by rfl) rfl rfl (by rfl) (by (try simp only [List.map_toArray, List.map_cons, List.map_nil]); first | done | rfl) ?_
   refine (HCALL.out W0 HB.out HI6.out HL6.out).mono ?_
   rintro e w4 ⟨rfl, hb⟩
   refine ⟨_, rfl, ?_⟩
   replace BM := Sd.mk (blk_below BM.out hb)
   replace BO := Sd.mk (blk_below BO.out hb)
   replace BR := Sd.mk (blk_below BR.out hb)
   replace HB := Sd.mk (below_step HB.out hb)
   replace HR := Sd.mk (Kd.R_below HR.out hb)
   clear hb HI6 HCALL
   refine hK.out _ _ ⟨(blk_cell BO.out 0).trans rfl, (blk_cell BM.out 0).trans rfl, (blk_cell BM.out 1).trans rfl, (blk_cell BM.out 2).trans rfl, (blk_cell BM.out 3).trans rfl, (blk_cell BM.out 4).trans rfl, (blk_cell BM.out 5).trans rfl, (blk_cell BM.out 6).trans rfl⟩ (fun hHeld => ?_)
   clear hK K
   refine norm_ (a' := ?_) ?_ ?_
   rotate_left
   ·show Act.put _ (some 23) _ = _
    exact tP
   refine one_ (i := 5) (N := some 24) (bA 9 63) rfl rfl (one_of HT_.out (by kernel_rfl)) (by decide) (fun K hK => ?_)
   refine value_ (w1 := ?_) (v := ?_) (by rfl) rfl ?_ ?_
   rotate_left 2
   ·go_simp
    constructor
    ·rfl
    ·rfl
   refine hK.out _ _ ⟨(blk_cell (blk_alloc BO.out _) 0).trans rfl, (blk_cell (blk_alloc BM.out _) 0).trans rfl, (blk_cell (blk_alloc BM.out _) 1).trans rfl, (blk_cell (blk_alloc BM.out _) 2).trans rfl, (blk_cell (blk_alloc BM.out _) 3).trans rfl, (blk_cell (blk_alloc BM.out _) 4).trans rfl, (blk_cell (blk_alloc BM.out _) 5).trans rfl, (blk_cell (blk_alloc BM.out _) 6).trans rfl⟩ (fun hHeld => ?_)
   clear hK K
   refine norm_ (a' := ?_) ?_ ?_
   rotate_left
   ·show Act.put _ (some 24) _ = _
    exact tP
   refine one_ (i := 6) (N := some 25) (bA 9 127) rfl rfl (one_of HT_.out (by kernel_rfl)) (by decide) (fun K hK => ?_)
   refine Kd.R_append_step (Kd.int .i64) (w0 := w) w.heap.size (by rfl) (.tmp 20) (.tmp 24) 30 3 (.int .i64 0) 8 rfl Tryz.underlying30 info3 rfl (by decide) (by omega) (.slice A fl.length c) fl (fc (rd_T70 mt (k : Int))) [.int .i64 (fc (rd_T70 mt (k : Int)))] (fun _ => True) (fun _ => False) rfl rfl ?aP (fun _ hk => hk.elim) ?aF ?aO ?aB ?aS ?aL ?_
   (case aP => exact rfl)
   (case aB => exact (by repeat (first | (with_reducible first | exact HB.out | apply below_alloc | apply pw_below_drewN | apply below_drew1) | exact HB.out)))
   (case aF => exact (fun _ _ => trivial))
   (case aO => exact (by (with_reducible repeat (first | apply Kd.R_alloc | apply Kd.R_drewN | apply Kd.R_drew)); exact HR.out))
   (case aS => exact below_size HB.out)
   (case aL => exact (by rw [HFL.out]; exact Nat.le_trans (Nat.mul_le_mul_right 8 (show k + 1 ≤ 13 by omega)) (by decide)))
   intro v1 w5 ho hb hg hat
   have HB2 := Sd.mk hb
   have HO := Sd.mk ho
   have BO2 := Sd.mk (blk_grown BO.out hg (Kd.R_ne HR.out BO.out (by decide)))
   have BM2 := Sd.mk (blk_grown BM.out hg (Kd.R_ne HR.out BM.out (by decide)))
   have BR2 := Sd.mk (blk_grown BR.out hg (Kd.R_ne HR.out BR.out (by decide)))
   clear HB HR BO BM BR hb ho hat hg
   refine hK.out _ _ ⟨(blk_cell BO2.out 0).trans rfl, (blk_cell BM2.out 0).trans rfl, (blk_cell BM2.out 1).trans rfl, (blk_cell BM2.out 2).trans rfl, (blk_cell BM2.out 3).trans rfl, (blk_cell BM2.out 4).trans rfl, (blk_cell BM2.out 5).trans rfl, (blk_cell BM2.out 6).trans rfl⟩ (fun hHeld => ?_)
   clear hK K
   refine norm_ (a' := ?_) ?_ ?_
   rotate_left
   ·show Act.put _ (some 25) _ = _
    exact tP
   refine pQ 7 (some 26) (bA 9 255) ?_
   have HO' := Sd.mk (Kd.R_types (t := 168) HO.out BO2.out (by decide))
   clear HO
   obtain ⟨A1', c1', rfl⟩ := Kd.R_slice HO'.out
   have hw0 : w5.cell? ⟨O, 0, none⟩ = some (.slice A fl.length c) := (blk_cell BO2.out 0).trans rfl
   have hwf := blk_frozen BO2.out 0
   refine last_ (i := 8) (N := none) (bA 9 511) rfl rfl (one_of HT_.out (by kernel_rfl)) (by decide) (fun K hK => ?_)
   refine skip_ (w1 := ?_) (by rfl) rfl ?_ ?_
   rotate_left
   ·go_simp
    rfl
   refine hK.out _ _ ?_
   clear hK K
   refine done_ (done_of HT_.out (by kernel_rfl)) ?_
   clear hw0 hwf
   go_wp2
   go_roundg (mt.length - (k + 1))
   case measure => omega
   case rel =>
    subst hOO
    refine ⟨k + 1, rfl, by omega, by omega, ⟨?_⟩⟩
    rw [← HSTEP.out]
    refine ⟨below_set HB2.out (by omega), blk_far BR2.out (p := ⟨w.heap.size + 2, 0, none⟩) (by simp) _, A1', c1', ?_, ?_⟩
    ·have h_ := blk_put (cs := #[.slice A fl.length c, .int .i64 b]) BO2.out 0 (.slice A1' (fl.length + 1) c1') rfl
     simpa using h_
    ·have h_ := Kd.R_mono (ok' := fun _ => True) (Kd.R_far HO'.out (fun _ hk => hk.2) (.slice A1' (fl.length + 1) c1') (p := ⟨w.heap.size + 2, 0, none⟩)) (fun _ _ => trivial)
     simpa using h_
  ·have hltz : ¬ (k : Int) < (mt.length : Int) := by omega
   obtain rfl : k = mt.length := by omega
   obtain ⟨A, c, hO, hR⟩ := HW.out.out
   have hT : List.map fc (mt.take mt.length) = List.map fc mt := by rw [List.take_length]
   rw [hT] at hO hR
   rw [List.length_map] at hO hR
   have HR := Sd.mk (Kd.R_types (t := 168) hR hO (by decide))
   have HR2 := Sd.mk (Kd.R_types (t := 168) hR HW.out.res (by decide))
   have c0 : wr.cell? ⟨w.heap.size + 2, 0, none⟩ = some (.slice A mt.length c) := (blk_cell hO 0).trans rfl
   have c1 : wr.cell? ⟨w.heap.size + 2, 1, none⟩ = some (.int .i64 b) := (blk_cell hO 1).trans rfl
   have r0 : wr.cell? ⟨w.heap.size + 1, 0, none⟩ = some (.slice none 0 0) := (blk_cell HW.out.res 0).trans rfl
   have r1 : wr.cell? ⟨w.heap.size + 1, 1, none⟩ = some (.int .i64 0) := (blk_cell HW.out.res 1).trans rfl
   have f0 := blk_frozen HW.out.res 0
   have f1 := blk_frozen HW.out.res 1
   clear hO hR hT
   go_wp2
   refine bodyPost_ret (results_cell_row rfl _ _ (w.heap.size + 1) 168 #[.slice A mt.length c, .int .i64 b] (0, 0) _ rfl (blk_put (cs := #[.slice A mt.length c, .int .i64 0]) (blk_put (cs := #[.slice none 0 0, .int .i64 0]) HW.out.res 0 _ rfl) 1 _ rfl) Tryz.underlying168 (by decide) (by kernel_rfl)) rfl ?_
   refine ⟨_, rfl, ?_, below_set (below_set HW.out.below (by omega)) (by omega)⟩
   exact Kd.R_mono (Kd.R_far (Kd.R_far HR2.out (fun _ hk => hk.2) _) (fun _ hk => hk.2) _) (fun _ _ => trivial)
end
section
open Go.RowKit Go.Proofs.YtljfljekcpdpiaaGreatW.PrintWords Go.Proofs.YtljfljekcpdpiaaGreatW.PrintLast Go.Proofs.YtljfljekcpdpiaaGreatW.PrintMore
attribute [local go_sem] max2_int min2_int max_two min_two
def tgOf (s : List S27) (p : List S89) (j : Nat) : S27 := if j < s.length then rd_T27 s (j : Int) else (rd_T89 p ((j - s.length : Nat) : Int)).f2
def upF (s : List S27) (p : List S89) (j : Nat) (x : S70) : Int := gTS (fun k => coefOf s p j k - (tgOf s p j).f1) x.f6 x.f6.length
def dnF (s : List S27) (p : List S89) (j : Nat) (x : S70) : Int := gTS (fun k => (tgOf s p j).f0 - coefOf s p j k) x.f6 x.f6.length
def pairL (mt : List S70) (s : List S27) (p : List S89) (j : Nat) : List S168 := [⟨mt.map (upF s p j), 0⟩, ⟨mt.map (dnF s p j), 0⟩]
def headL (mt : List S70) (s : List S27) (p : List S89) (a6 : Int) : Nat → List S168
 | 0 => [⟨mt.map (fun x => -lowM x), -1000 * a6⟩]
 | n + 1 => headL mt s p a6 n ++ pairL mt s p n
def linesV (mt : List S70) (s : List S27) (p : List S89) (a4 a5 a6 : Int) : List S168 := headL mt s p a6 (s.length + p.length) ++ [⟨mt.map (rUp a5), 0⟩, ⟨mt.map (rDn a4), 0⟩]
theorem headL_len (mt : List S70) (s : List S27) (p : List S89) (a6 : Int) : ∀ n, (headL mt s p a6 n).length = 1 + 2 * n
 | 0 => rfl
 | n + 1 => by simp only [headL, List.length_append, headL_len mt s p a6 n, pairL, List.length_cons, List.length_nil]; omega
section
variable {o : List ByteArray} {mt : List S70} {s : List S27} {p : List S89} {a4 a5 a6 : Int}
theorem mat_gok (H : BatchOk o mt s p a4 a5 a6) {i : Nat} (hi : i < mt.length) : GOk (rd_T70 mt (i : Int)).f6 := by
 have M := H.mats i hi
 refine ⟨by rw [M.len]; exact H.o12, fun j hj => ?_⟩
 have := M.con j (by rw [← M.len]; exact hj)
 omega
theorem coef_cfok (H : BatchOk o mt s p a4 a5 a6) {j : Nat} (hj : j < s.length + p.length) : CfOk (coefOf s p j) o.length := by
 refine ⟨fun i hi => ?_⟩
 unfold coefOf
 by_cases h : j < s.length
 ·rw [if_pos h]; split <;> omega
 ·rw [if_neg h]
  exact (H.pros (j - s.length) (by omega)).coef i hi
theorem tg_ok (H : BatchOk o mt s p a4 a5 a6) {j : Nat} (hj : j < s.length + p.length) : (-10000 ≤ (tgOf s p j).f0 ∧ (tgOf s p j).f0 ≤ 10000) ∧ -10000 ≤ (tgOf s p j).f1 ∧ (tgOf s p j).f1 ≤ 10000 := by
 unfold tgOf
 by_cases h : j < s.length
 ·rw [if_pos h]
  have := H.shares j h
  omega
 ·rw [if_neg h]
  have := (H.pros (j - s.length) (by omega)).target
  omega
theorem form_tg {w W : World} {j : Nat} {f : F128} (h : FormAt w W s p j f) : f.tg = tgOf s p j := by
 unfold tgOf
 by_cases hj : j < s.length
 ·obtain ⟨I, e, _⟩ := h.1 hj
  rw [if_pos hj, e]
 ·obtain ⟨P, A, c, e, _⟩ := h.2 (by omega)
  rw [if_neg hj, e]
theorem form_enters {w W : World} {j : Nat} {f : F128} (h : FormAt w W s p j f) : ∀ args w, (callFunc f.fn args).run Tryz.prog w = .ok (.enter f.fn args) w := by
 by_cases hj : j < s.length
 ·obtain ⟨I, e, _⟩ := h.1 hj
  rw [e]
  exact enters_of Tryz.func165 (by kernel_rfl) rfl
 ·obtain ⟨P, A, c, e, _⟩ := h.2 (by omega)
  rw [e]
  exact enters_of Tryz.func166 (by kernel_rfl) rfl
theorem facQ118 (H : BatchOk o mt s p a4 a5 a6) (w : World) : FacQ 139 #[] (fun x => -lowM x) mt w := by
 intro W hW i hi A c hC hc
 have h := l118_calls (rd_T70 mt (i : Int)) A c W hC hc (mat_gok H hi)
 simpa using h
theorem facQ_form (H : BatchOk o mt s p a4 a5 a6) {w W0 W1 : World} {j F : Nat} {f : F128} (hF : FormAt w W0 s p j f) (hj : j < s.length + p.length) (hb : Below w.heap.size w W0)
  (hFc : W1.heap[F]? = some (.cells #[.func (.func f.fn) #[] f.lb, .int .i64 f.tg.f0, .int .i64 f.tg.f1] 128 (0, 0))) (hb1 : Below W0.heap.size W0 W1) :
  FacQ 141 #[.pointer (some ⟨F, 0, none⟩)] (upF s p j) mt W1 ∧ FacQ 144 #[.pointer (some ⟨F, 0, none⟩)] (dnF s p j) mt W1 := by
 have T := tg_ok H hj
 have hco : ∀ i : Nat, i < mt.length → CoefQ f.fn f.lb (coefOf s p j) (rd_T70 mt (i : Int)).f6.length W0 ∧ CfOk (coefOf s p j) (rd_T70 mt (i : Int)).f6.length := by
  intro i hi
  have M := H.mats i hi
  refine ⟨hF.coef hb _ (fun hh => ?_), by rw [M.len]; exact coef_cfok H hj⟩
  have := (H.pros (j - s.length) (by omega)).len
  rw [M.len, this]
  exact Int.le_refl _
 constructor
 ·intro W hW i hi A c hC hc
  have h := l120_calls (rd_T70 mt (i : Int)) A c F f.fn f.lb (coefOf s p j) f.tg.f0 f.tg.f1 W0 W (form_enters hF) (hco i hi).1 (below_trans' hb1 hW) (blk_below hFc hW) hC hc (mat_gok H hi) (hco i hi).2 (by rw [form_tg hF]; exact T)
  rw [form_tg hF] at h
  exact h
 ·intro W hW i hi A c hC hc
  have h := l123_calls (rd_T70 mt (i : Int)) A c F f.fn f.lb (coefOf s p j) f.tg.f0 f.tg.f1 W0 W (form_enters hF) (hco i hi).1 (below_trans' hb1 hW) (blk_below hFc hW) hC hc (mat_gok H hi) (hco i hi).2 (by rw [form_tg hF]; exact T)
  rw [form_tg hF] at h
  exact h
theorem facQ125 (H : BatchOk o mt s p a4 a5 a6) {W1 : World} {U : Nat} {u : Int} (hu : -10000 ≤ u ∧ u ≤ 10000) (hU : W1.heap[U]? = some (.cells #[.int .i64 u] 3 (0, 0))) :
  FacQ 146 #[.pointer (some ⟨U, 0, none⟩)] (rUp u) mt W1 ∧ FacQ 147 #[.pointer (some ⟨U, 0, none⟩)] (rDn u) mt W1 :=
 ⟨fun W hW i hi A c hC hc => l125_calls (rd_T70 mt (i : Int)) A c U u W (blk_below hU hW) hC hc (mat_gok H hi) hu (H.mats i hi).redox,
  fun W hW i hi A c hC hc => l126_calls (rd_T70 mt (i : Int)) A c U u W (blk_below hU hW) hC hc (mat_gok H hi) hu (H.mats i hi).redox⟩
end
theorem R_litW {α : Type} (d : Kd α) (base e : Nat) {W : World} {xs : List α} {inner : List Value} {ok okp : Nat → Prop} (hrep : Reps (d.M W base okp) d.sz xs inner) (hok : ∀ k, okp k → ok k) (hfresh : ok W.heap.size) (hbase : base ≤ W.heap.size) (hm : xs.length ≤ 9223372036854775807) :
  d.R e (W.alloc (.cells inner.toArray e)) base ok (.slice (some ⟨W.heap.size, 0, none⟩) xs.length xs.length) xs := by
 refine ⟨fun k hk => ?_, inner, ?_, ?_⟩
 ·have : W.heap.size = k := by simpa [Value.ownBlock] using hk
  subst this
  exact hfresh
 ·have h2 := World.ownsRow_lit (base := base) (e := e) (size := d.sz) W inner.toArray xs.length hbase (by simpa [maxLen] using hm) (by simpa using hrep.1)
  simpa using h2
 ·refine hrep.imp_ (fun p c hp => d.M_mono (fun k hk => ⟨hok k hk.1, fun he => ?_⟩) (Kd.M_below (d.M_bound hp) (below_alloc (Below.refl _ _) _)))
  have h3 : k = W.heap.size := by simpa [Value.ownBlock] using he
  have := hk.2.2.1
  omega
theorem R_one51 {W : World} {base : Nat} {v : Value} {x : S168} (h : (Kd.int .i64).R 3 W base (fun _ => True) v x.f0) (hbase : base ≤ W.heap.size) :
  k168.R 168 (W.alloc (.cells #[v, .int .i64 x.f1] 168)) base (fun _ => True) (.slice (some ⟨W.heap.size, 0, none⟩) 1 1) [x] := by
 have hr : Reps (k168.M W base (fun _ => True)) k168.sz [x] [v, .int .i64 x.f1] := Reps.snoc (Reps.none _ _) (k168_mkM W base _ x h) rfl
 exact R_litW k168 base 168 hr (fun _ h => h) trivial hbase (by simp)
theorem pair_reads {W : World} {base : Nat} {v3 v1 v2 : Value} {xs : List S168} {x x' : S168} (HL : k168.R 168 W base (fun _ => True) v3 xs) (hx : 0 < xs.length) (h1 : (Kd.int .i64).R 3 W base (fun _ => True) v1 x.f0) (h2 : (Kd.int .i64).R 3 W base (fun _ => True) v2 x'.f0) (hbase : base ≤ W.heap.size) :
  ReadsRow (k168.M (W.alloc (.cells #[v1, .int .i64 x.f1, v2, .int .i64 x'.f1] 168)) base (fun j => some j ≠ v3.ownBlock)) k168.sz (W.alloc (.cells #[v1, .int .i64 x.f1, v2, .int .i64 x'.f1] 168)) (some ⟨W.heap.size, 0, none⟩) 2 [x, x'] := by
 obtain ⟨g, cap, rfl, _, hlt, cells, hg⟩ := Kd.R_form HL hx
 have e : ∀ j, j ≠ g → some j ≠ (Value.slice (some ⟨g, 0, none⟩) xs.length cap).ownBlock := by
  intro j hj he
  have : g = j := by simpa [Value.ownBlock] using he.symm
  exact hj this.symm
 have r1 := Kd.R_mono (Kd.R_types (t := 168) h1 hg (by decide)) (fun j hj => e j hj.2)
 have r2 := Kd.R_mono (Kd.R_types (t := 168) h2 hg (by decide)) (fun j hj => e j hj.2)
 have hr : Reps (k168.M W base (fun j => some j ≠ (Value.slice (some ⟨g, 0, none⟩) xs.length cap).ownBlock)) k168.sz [x, x'] [v1, .int .i64 x.f1, v2, .int .i64 x'.f1] := Reps.snoc (Reps.snoc (Reps.none _ _) (k168_mkM W base _ x r1) rfl) (k168_mkM W base _ x' r2) rfl
 have r := R_litW k168 base 168 hr (fun _ h => h) (e _ (Nat.ne_of_gt hlt)) hbase (by simp)
 obtain ⟨A, c, he, _, hrd⟩ := OwnRow.reads r.2
 cases he
 exact ReadsRow.imp_ hrd (Below.refl _ _) (fun _ _ hp => k168.M_mono (fun _ hk => hk.1) hp)
theorem info168 : (Tryz.prog.info? 168).map (fun i => (i.zero, i.size, i.bytes)) = some (some (.agg #[.slice none 0 0, .int .i64 0]), 2, 32) := by kernel_rfl
structure LinesW (w W : World) (cs : Array Value) (xs : List S168) (v : Value) : Prop where
 below : Below w.heap.size w W
 box : W.heap[w.heap.size]? = some (.cells cs 29 (0, 0))
 list : k168.R 168 W w.heap.size (fun _ => True) v xs
theorem LinesW.later {w W W' : World} {cs : Array Value} {xs : List S168} {v : Value} (h : LinesW w W cs xs v) (hb : Below W.heap.size W W') : LinesW w W' cs xs v :=
 ⟨below_step h.below hb, blk_below h.box hb, Kd.R_below h.list hb⟩
structure FormsOk (w W : World) (s : List S27) (p : List S89) (A : Option Addr) (c : Nat) (fs : List F128) : Prop where
 row : k128.R 128 W w.heap.size (fun _ => True) (.slice A fs.length c) fs
 at_ : ∀ j (hj : j < fs.length), FormAt w W s p j fs[j]
theorem FormsOk.reads {w W : World} {s : List S27} {p : List S89} {A : Option Addr} {c : Nat} {fs : List F128} (h : FormsOk w W s p A c fs) : Kd.C k128 W A fs.length fs := by
 obtain ⟨A', c', he, _, hC⟩ := Kd.R_reads h.row
 cases he
 exact hC
theorem FormsOk.later {w W W' : World} {s : List S27} {p : List S89} {A : Option Addr} {c : Nat} {fs : List F128} (h : FormsOk w W s p A c fs) (hb : Below W.heap.size W W') : FormsOk w W' s p A c fs :=
 ⟨Kd.R_below h.row hb, fun j hj => (h.at_ j hj).below hb⟩
theorem FormsOk.grown {w W W' : World} {s : List S27} {p : List S89} {A : Option Addr} {c : Nat} {fs : List F128} {base : Nat} {v3 : Value} {xs : List S168} (h : FormsOk w W s p A c fs) (HL : k168.R 168 W base (fun _ => True) v3 xs) (hx : 0 < xs.length) (hg : W.grownBy W' v3.ownBlock) : FormsOk w W' s p A c fs := by
 refine ⟨?_, fun j hj => ⟨fun hh => ?_, fun hh => ?_⟩⟩
 ·obtain ⟨g, cap, rfl, _, hlt, cells, hgb⟩ := Kd.R_form HL hx
  refine Kd.R_mono (Kd.R_grown (Kd.R_types (t := 168) h.row hgb (by decide)) hg (fun k hk he => hk.2 ?_)) (fun _ _ => trivial)
  have : g = k := by simpa [Value.ownBlock] using he.symm
  exact this.symm
 ·obtain ⟨I, e, hI⟩ := (h.at_ j hj).1 hh
  exact ⟨I, e, blk_grown hI hg (Kd.R_ne HL hI (by decide))⟩
 ·obtain ⟨P, A1, c1, e, hP, hC⟩ := (h.at_ j hj).2 hh
  exact ⟨P, A1, c1, e, blk_grown hP hg (Kd.R_ne HL hP (by decide)), hC⟩
def linesT : Bool × List (List Nat × List Nat) := (true, [([], []), ([], []), ([], []), ([1, 2], [1, 2]), ([], []), ([], []), ([4, 5, 3], [4, 5]), ([3, 6], [3, 6]), ([0, 7, 6], [0, 7]), ([8, 8, 0, 1, 2, 3, 4, 5, 6, 7, 8], [0, 8])])
def linesB : List Nat := [0, 0, 0, 6, 0, 0, 62, 126, 255, 511]
theorem lines_tab : rtab .any (opsOf Tryz.f52 5) = linesT := by kernel_rfl
theorem lines_bits : waitsOk linesT.2 linesB = true := by kernel_rfl
def lines7T : Bool × List (List Nat × List Nat) := (true, [([], []), ([0], [0]), ([1], [1]), ([], []), ([3], [3]), ([4], [4]), ([], []), ([], []), ([6, 2, 0, 1, 2, 6, 7], [2, 6]), ([7, 5, 8, 0, 1, 2, 3, 4, 5, 6, 7, 8], [5, 7])])
def lines7B : List Nat := [0, 1, 3, 0, 8, 24, 0, 0, 199, 511]
theorem lines7_tab : rtab .any (opsOf Tryz.f52 7) = lines7T := by kernel_rfl
theorem lines7_bits : waitsOk lines7T.2 lines7B = true := by kernel_rfl
def lines8T : Bool × List (List Nat × List Nat) := (true, [([], []), ([], []), ([], []), ([1, 2], [1, 2]), ([], []), ([], []), ([4, 5, 3], [4, 5]), ([3, 6], [3, 6]), ([0, 7, 6], [0, 7]), ([8, 8, 0, 1, 2, 3, 4, 5, 6, 7, 8], [8])])
theorem lines8_tab : rtab .any (opsOf Tryz.f52 8) = lines8T := by kernel_rfl
theorem lines8_bits : waitsOk lines8T.2 linesB = true := by kernel_rfl
theorem lines_calls (A0_0 : Option Addr) (c0_0 : Nat) (l0_0 : List ByteArray) (A0_1 : Option Addr) (c0_1 : Nat) (l0_1 : List (S70)) (A0_2 : Option Addr) (c0_2 : Nat) (l0_2 : List (S27)) (A0_3 : Option Addr) (c0_3 : Nat) (l0_3 : List (S89)) (a0_4 : Int) (a0_5 : Int) (a0_6 : Int) (w : World) (hr0_0 : Kd.C Kd.string w A0_0 l0_0.length l0_0) (hc0_0 : l0_0.length ≤ c0_0) (hr0_1 : Kd.C k70 w A0_1 l0_1.length l0_1) (hc0_1 : l0_1.length ≤ c0_1) (hr0_2 : Kd.C k27 w A0_2 l0_2.length l0_2) (hc0_2 : l0_2.length ≤ c0_2) (hr0_3 : Kd.C k89 w A0_3 l0_3.length l0_3) (hc0_3 : l0_3.length ≤ c0_3)
  (H : BatchOk l0_0 l0_1 l0_2 l0_3 a0_4 a0_5 a0_6) :
  Calls Tryz.prog 52 #[.agg #[.slice A0_0 l0_0.length c0_0, .slice A0_1 l0_1.length c0_1, .slice A0_2 l0_2.length c0_2, .slice A0_3 l0_3.length c0_3, .int .i64 a0_4, .int .i64 a0_5, .int .i64 a0_6]] w fun e w' => ∃ v0_ : Value, e = .returned v0_ ∧ Kd.R k168 168 w' w.heap.size (fun _ => True) v0_ (linesV l0_1 l0_2 l0_3 a0_4 a0_5 a0_6) ∧ Below w.heap.size w w' := by
 have hb0 : Below w.heap.size w (w.alloc (.cells #[.slice A0_0 l0_0.length c0_0, .slice A0_1 l0_1.length c0_1, .slice A0_2 l0_2.length c0_2, .slice A0_3 l0_3.length c0_3, .int .i64 a0_4, .int .i64 a0_5, .int .i64 a0_6] 29)) := below_alloc (Below.refl _ _) _
 have hbk := blk_new w (.cells #[.slice A0_0 l0_0.length c0_0, .slice A0_1 l0_1.length c0_1, .slice A0_2 l0_2.length c0_2, .slice A0_3 l0_3.length c0_3, .int .i64 a0_4, .int .i64 a0_5, .int .i64 a0_6] 29)
 have hgo := line_calls A0_0 A0_1 A0_2 A0_3 l0_0.length c0_0 c0_1 l0_2.length c0_2 l0_3.length c0_3 l0_1 a0_4 a0_5 a0_6 (-1000 * a0_6) 139 #[] (fun x => -lowM x) (w.alloc (.cells #[.slice A0_0 l0_0.length c0_0, .slice A0_1 l0_1.length c0_1, .slice A0_2 l0_2.length c0_2, .slice A0_3 l0_3.length c0_3, .int .i64 a0_4, .int .i64 a0_5, .int .i64 a0_6] 29)) (enters_of Tryz.func139 (by kernel_rfl) rfl) (facQ118 H _) (Kd.C_below hr0_1 hb0) H.m12
 have HR0 := Sd.mk hr0_0
 have HC0 := Sd.mk hc0_0
 have HR1 := Sd.mk hr0_1
 have HC1 := Sd.mk hc0_1
 have HR2 := Sd.mk hr0_2
 have HC2 := Sd.mk hc0_2
 have HR3 := Sd.mk hr0_3
 have HC3 := Sd.mk hc0_3
 have HH := Sd.mk H
 have HB := Sd.mk hb0
 have BK := Sd.mk hbk
 have hw6 := H.wanted
 obtain ⟨hw6a, hw6b⟩ := hw6
 have k0 : (w.alloc (.cells #[.slice A0_0 l0_0.length c0_0, .slice A0_1 l0_1.length c0_1, .slice A0_2 l0_2.length c0_2, .slice A0_3 l0_3.length c0_3, .int .i64 a0_4, .int .i64 a0_5, .int .i64 a0_6] 29)).cell? ⟨w.heap.size, 0, none⟩ = some (.slice A0_0 l0_0.length c0_0) := (blk_cell hbk 0).trans rfl
 have k1 : (w.alloc (.cells #[.slice A0_0 l0_0.length c0_0, .slice A0_1 l0_1.length c0_1, .slice A0_2 l0_2.length c0_2, .slice A0_3 l0_3.length c0_3, .int .i64 a0_4, .int .i64 a0_5, .int .i64 a0_6] 29)).cell? ⟨w.heap.size, 1, none⟩ = some (.slice A0_1 l0_1.length c0_1) := (blk_cell hbk 1).trans rfl
 have k2 : (w.alloc (.cells #[.slice A0_0 l0_0.length c0_0, .slice A0_1 l0_1.length c0_1, .slice A0_2 l0_2.length c0_2, .slice A0_3 l0_3.length c0_3, .int .i64 a0_4, .int .i64 a0_5, .int .i64 a0_6] 29)).cell? ⟨w.heap.size, 2, none⟩ = some (.slice A0_2 l0_2.length c0_2) := (blk_cell hbk 2).trans rfl
 have k3 : (w.alloc (.cells #[.slice A0_0 l0_0.length c0_0, .slice A0_1 l0_1.length c0_1, .slice A0_2 l0_2.length c0_2, .slice A0_3 l0_3.length c0_3, .int .i64 a0_4, .int .i64 a0_5, .int .i64 a0_6] 29)).cell? ⟨w.heap.size, 3, none⟩ = some (.slice A0_3 l0_3.length c0_3) := (blk_cell hbk 3).trans rfl
 have k4 : (w.alloc (.cells #[.slice A0_0 l0_0.length c0_0, .slice A0_1 l0_1.length c0_1, .slice A0_2 l0_2.length c0_2, .slice A0_3 l0_3.length c0_3, .int .i64 a0_4, .int .i64 a0_5, .int .i64 a0_6] 29)).cell? ⟨w.heap.size, 4, none⟩ = some (.int .i64 a0_4) := (blk_cell hbk 4).trans rfl
 have k5 : (w.alloc (.cells #[.slice A0_0 l0_0.length c0_0, .slice A0_1 l0_1.length c0_1, .slice A0_2 l0_2.length c0_2, .slice A0_3 l0_3.length c0_3, .int .i64 a0_4, .int .i64 a0_5, .int .i64 a0_6] 29)).cell? ⟨w.heap.size, 5, none⟩ = some (.int .i64 a0_5) := (blk_cell hbk 5).trans rfl
 have k6 : (w.alloc (.cells #[.slice A0_0 l0_0.length c0_0, .slice A0_1 l0_1.length c0_1, .slice A0_2 l0_2.length c0_2, .slice A0_3 l0_3.length c0_3, .int .i64 a0_4, .int .i64 a0_5, .int .i64 a0_6] 29)).cell? ⟨w.heap.size, 6, none⟩ = some (.int .i64 a0_6) := (blk_cell hbk 6).trans rfl
 have k6' : (w.alloc (.cells #[.slice A0_0 l0_0.length c0_0, .slice A0_1 l0_1.length c0_1, .slice A0_2 l0_2.length c0_2, .slice A0_3 l0_3.length c0_3, .int .i64 a0_4, .int .i64 a0_5, .int .i64 a0_6] 29)).cell? ⟨w.heap.size, 0 + 6, none⟩ = some (.int .i64 a0_6) := (blk_cell hbk 6).trans rfl
 clear hr0_0 hc0_0 hr0_1 hc0_1 hr0_2 hc0_2 hr0_3 hc0_3 H hb0 hbk
 go_enter Tryz.func52, Tryz.ntmps52
 go_wp2_with fail
 clear k0 k1 k2 k3 k4 k5 k6 k6' hw6a hw6b
 generalize w.alloc (.cells #[.slice A0_0 l0_0.length c0_0, .slice A0_1 l0_1.length c0_1, .slice A0_2 l0_2.length c0_2, .slice A0_3 l0_3.length c0_3, .int .i64 a0_4, .int .i64 a0_5, .int .i64 a0_6] 29) = w0 at *
 refine hgo.mono ?_
 clear hgo
 rintro e w1 ⟨v, rfl, hR, hb⟩
 have hlw : LinesW w (w1.alloc (.cells #[v, .int .i64 (-1000 * a0_6)] 168)) #[.slice A0_0 l0_0.length c0_0, .slice A0_1 l0_1.length c0_1, .slice A0_2 l0_2.length c0_2, .slice A0_3 l0_3.length c0_3, .int .i64 a0_4, .int .i64 a0_5, .int .i64 a0_6] (headL l0_1 l0_2 l0_3 a0_6 0) (.slice (some ⟨w1.heap.size, 0, none⟩) 1 1) :=
  ⟨below_alloc (below_step HB.out hb) _, blk_alloc (blk_below BK.out hb) _, R_one51 (x := ⟨List.map (fun x => -lowM x) l0_1, -1000 * a0_6⟩) (Kd.R_lower hR (below_size HB.out)) (below_size (below_step HB.out hb))⟩
 have HLW := Sd.mk hlw
 have hbA : Below w.heap.size w (w1.alloc (.cells #[v, .int .i64 (-1000 * a0_6)] 168)) := hlw.below
 have H := HH.out
 have hsz : (l0_2.length + l0_3.length + 1) * 24 ≤ 140737488355328 := Nat.le_trans (Nat.mul_le_mul_right 24 (show l0_2.length + l0_3.length + 1 ≤ 19 by have := H.slen; have := H.o12; have := H.p6; omega)) (by decide)
 have hgo := forms_calls A0_0 c0_0 l0_0 A0_1 c0_1 l0_1 A0_2 c0_2 l0_2 A0_3 c0_3 l0_3 a0_4 a0_5 a0_6 w (w1.alloc (.cells #[v, .int .i64 (-1000 * a0_6)] 168)) hbA (Kd.C_below HR0.out hbA) HC0.out (Kd.C_below HR1.out hbA) HC1.out (Kd.C_below HR2.out hbA) HC2.out HR3.out HC3.out hsz
 have k0 : (w1.alloc (.cells #[v, .int .i64 (-1000 * a0_6)] 168)).cell? ⟨w.heap.size, 0, none⟩ = some (.slice A0_0 l0_0.length c0_0) := (blk_cell hlw.box 0).trans rfl
 have k1 : (w1.alloc (.cells #[v, .int .i64 (-1000 * a0_6)] 168)).cell? ⟨w.heap.size, 1, none⟩ = some (.slice A0_1 l0_1.length c0_1) := (blk_cell hlw.box 1).trans rfl
 have k2 : (w1.alloc (.cells #[v, .int .i64 (-1000 * a0_6)] 168)).cell? ⟨w.heap.size, 2, none⟩ = some (.slice A0_2 l0_2.length c0_2) := (blk_cell hlw.box 2).trans rfl
 have k3 : (w1.alloc (.cells #[v, .int .i64 (-1000 * a0_6)] 168)).cell? ⟨w.heap.size, 3, none⟩ = some (.slice A0_3 l0_3.length c0_3) := (blk_cell hlw.box 3).trans rfl
 have k4 : (w1.alloc (.cells #[v, .int .i64 (-1000 * a0_6)] 168)).cell? ⟨w.heap.size, 4, none⟩ = some (.int .i64 a0_4) := (blk_cell hlw.box 4).trans rfl
 have k5 : (w1.alloc (.cells #[v, .int .i64 (-1000 * a0_6)] 168)).cell? ⟨w.heap.size, 5, none⟩ = some (.int .i64 a0_5) := (blk_cell hlw.box 5).trans rfl
 have k6 : (w1.alloc (.cells #[v, .int .i64 (-1000 * a0_6)] 168)).cell? ⟨w.heap.size, 6, none⟩ = some (.int .i64 a0_6) := (blk_cell hlw.box 6).trans rfl
 clear hlw hbA H hsz hR hb HB BK
 go_wp2_with fail
 clear k0 k1 k2 k3 k4 k5 k6
 generalize w1.alloc (.cells #[v, .int .i64 (-1000 * a0_6)] 168) = wA at *
 refine hgo.mono ?_
 clear hgo
 rintro e w2 ⟨Af, cf, fs, rfl, hfc, hfC, hfl, hF, hb2, hfR⟩
 have HLW2 := Sd.mk (HLW.out.later hb2)
 have HFO := Sd.mk (FormsOk.mk (Kd.R_lower hfR (below_size HLW.out.below)) hF)
 have HFL := Sd.mk hfl
 have hfz : (fs.length : Int) < 9223372036854775807 := by have H := HH.out; have := H.slen; have := H.o12; have := H.p6; omega
 have HFZ := Sd.mk hfz
 clear HLW hb2 hfC hfl hF hfR
 go_wp2
 clear hfc hfz
 go_loopg [3, 17] fs.length (fun gq v3 v17 wr => ∃ k : Nat, v17 = .int .i64 k ∧ k ≤ fs.length ∧ fs.length - k ≤ gq ∧ Sd (LinesW w wr #[.slice A0_0 l0_0.length c0_0, .slice A0_1 l0_1.length c0_1, .slice A0_2 l0_2.length c0_2, .slice A0_3 l0_3.length c0_3, .int .i64 a0_4, .int .i64 a0_5, .int .i64 a0_6] (headL l0_1 l0_2 l0_3 a0_6 k) v3) ∧ Sd (FormsOk w wr l0_2 l0_3 Af cf fs))
 case atStart => exact ⟨0, rfl, Nat.zero_le _, by omega, HLW2, HFO⟩
 case round =>
  clear HLW2 HFO
  obtain ⟨k, rfl, hk, hgk, HW, HFO⟩ := hrel
  have hfz := HFZ.out
  by_cases hlt : k < fs.length
  ·have hltz : (k : Int) < (fs.length : Int) := by omega
   obtain ⟨ad, rfl, hx0, hx1, hx2⟩ := at_T128 HFO.out.reads k hlt
   have HFK := Sd.mk (HFO.out.at_ k hlt)
   generalize hff : fs[k] = f at *
   clear hff
   have HLX := Sd.mk (HW.out.later (below_alloc (Below.refl _ _) (.cells #[.func (.func f.fn) #[] f.lb, .int .i64 f.tg.f0, .int .i64 f.tg.f1] 128)))
   have BF := Sd.mk (blk_new wr (.cells #[.func (.func f.fn) #[] f.lb, .int .i64 f.tg.f0, .int .i64 f.tg.f1] 128))
   have H := HH.out
   have hkl : k < l0_2.length + l0_3.length := by have := HFL.out; omega
   have hfq := facQ_form H (F := wr.heap.size) (W1 := wr.alloc (.cells #[.func (.func f.fn) #[] f.lb, .int .i64 f.tg.f0, .int .i64 f.tg.f1] 128)) HFK.out hkl HW.out.below (blk_new wr (.cells #[.func (.func f.fn) #[] f.lb, .int .i64 f.tg.f0, .int .i64 f.tg.f1] 128)) (below_alloc (Below.refl _ _) _)
   have HQ := Sd.mk hfq
   have HFY := Sd.mk (HFO.out.later (below_alloc (Below.refl _ _) (.cells #[.func (.func f.fn) #[] f.lb, .int .i64 f.tg.f0, .int .i64 f.tg.f1] 128)))
   have HKL := Sd.mk hkl
   have HK := Sd.mk hgk
   have HLT := Sd.mk hlt
   have HM12 := Sd.mk H.m12
   clear HW HFO H hkl hfq hgk hlt
   go_upto_region 5 with (fail)
   clear hx0 hx1 hx2
   generalize wr.alloc (.cells #[.func (.func f.fn) #[] f.lb, .int .i64 f.tg.f0, .int .i64 f.tg.f1] 128) = WX at *
   generalize hXX : wr.heap.size = X at *
   clear hXX
   have HB := Sd.mk HLX.out.below
   have BK := Sd.mk HLX.out.box
   have HL := Sd.mk HLX.out.list
   have HBZ := Sd.mk (Below.refl WX.heap.size WX)
   clear HLX BF
   refine start_ (n := 10) (S := fun w' => w'.cell? ⟨w.heap.size, 0, none⟩ = some (.slice A0_0 l0_0.length c0_0) ∧ w'.cell? ⟨w.heap.size, 1, none⟩ = some (.slice A0_1 l0_1.length c0_1) ∧ w'.cell? ⟨w.heap.size, 2, none⟩ = some (.slice A0_2 l0_2.length c0_2) ∧ w'.cell? ⟨w.heap.size, 3, none⟩ = some (.slice A0_3 l0_3.length c0_3) ∧ w'.cell? ⟨w.heap.size, 4, none⟩ = some (.int .i64 a0_4) ∧ w'.cell? ⟨w.heap.size, 5, none⟩ = some (.int .i64 a0_5) ∧ w'.cell? ⟨w.heap.size, 6, none⟩ = some (.int .i64 a0_6)) (ds := []) (bA 10 0) (by kernel_rfl) rfl rfl ⟨(blk_cell BK.out 0).trans rfl, (blk_cell BK.out 1).trans rfl, (blk_cell BK.out 2).trans rfl, (blk_cell BK.out 3).trans rfl, (blk_cell BK.out 4).trans rfl, (blk_cell BK.out 5).trans rfl, (blk_cell BK.out 6).trans rfl⟩ (fun hHeld => ?_); refine with_tabW lines_tab lines_bits (fun HT_ HW_ => ?_)
   replace BK := Sd.mk (blk_drew BK.out)
   replace HL := Sd.mk (Kd.R_drew HL.out)
   replace HB := Sd.mk (below_drew1 HB.out)
   replace HBZ := Sd.mk (below_drew1 HBZ.out)
   replace HFY := Sd.mk (HFY.out.later (below_drew1 (Below.refl WX.heap.size WX)))
   generalize WX.drew = W0 at BK HL HB HBZ HFY hHeld ⊢
   refine pQ 0 (some 21) (bA 10 1) ?_
   refine tQ 1 (some 22) (bA 10 3) ?_
   refine pQ 2 (some 23) (bA 10 7) ?_
   refine tQ 4 (some 25) (bA 10 23) ?_
   refine pQ 5 (some 26) (bA 10 55) ?_
   refine one_ (i := 3) (N := some 24) (bA 10 63) rfl rfl (one_of HT_.out (by kernel_rfl)) (by decide) (fun K hK => ?_)
   refine goes_ Tryz.func138 (by kernel_rfl) rfl #[.agg #[.slice A0_0 l0_0.length c0_0, .slice A0_1 l0_1.length c0_1, .slice A0_2 l0_2.length c0_2, .slice A0_3 l0_3.length c0_3, .int .i64 a0_4, .int .i64 a0_5, .int .i64 a0_6], .int .i64 0, .func (.func 141) #[] #[.pointer (some ⟨X, 0, none⟩)]] (by rfl) rfl rfl (by (try simp only [List.map_toArray, List.map_cons, List.map_nil]); first | done | rfl) ?_
   refine (line_calls A0_0 A0_1 A0_2 A0_3 l0_0.length c0_0 c0_1 l0_2.length c0_2 l0_3.length c0_3 l0_1 a0_4 a0_5 a0_6 0 141 #[.pointer (some ⟨X, 0, none⟩)] (upF l0_2 l0_3 k) _ (enters_of Tryz.func141 (by kernel_rfl) rfl) (fun W hW => HQ.out.1 W (below_trans' HBZ.out hW)) (Kd.C_below HR1.out HB.out) HM12.out).mono ?_
   rintro e w4 ⟨v1, rfl, hR, hb⟩
   refine ⟨_, rfl, ?_⟩
   have Hv1 := Sd.mk (Kd.R_lower hR (below_size HB.out))
   replace BK := Sd.mk (blk_below BK.out hb)
   replace HL := Sd.mk (Kd.R_below HL.out hb)
   replace HBZ := Sd.mk (below_step HBZ.out hb)
   replace HFY := Sd.mk (HFY.out.later hb)
   replace HB := Sd.mk (below_step HB.out hb)
   clear hb hR
   refine hK.out _ _ ⟨(blk_cell BK.out 0).trans rfl, (blk_cell BK.out 1).trans rfl, (blk_cell BK.out 2).trans rfl, (blk_cell BK.out 3).trans rfl, (blk_cell BK.out 4).trans rfl, (blk_cell BK.out 5).trans rfl, (blk_cell BK.out 6).trans rfl⟩ (fun hHeld => ?_)
   clear hK K
   refine norm_ (a' := ?_) ?_ ?_
   rotate_left
   ·show Act.put _ (some 24) _ = _
    exact tP
   refine one_ (i := 6) (N := some 27) (bA 10 127) rfl rfl (one_of HT_.out (by kernel_rfl)) (by decide) (fun K hK => ?_)
   refine goes_ Tryz.func138 (by kernel_rfl) rfl #[.agg #[.slice A0_0 l0_0.length c0_0, .slice A0_1 l0_1.length c0_1, .slice A0_2 l0_2.length c0_2, .slice A0_3 l0_3.length c0_3, .int .i64 a0_4, .int .i64 a0_5, .int .i64 a0_6], .int .i64 0, .func (.func 144) #[] #[.pointer (some ⟨X, 0, none⟩)]] (by rfl) rfl rfl (by (try simp only [List.map_toArray, List.map_cons, List.map_nil]); first | done | rfl) ?_
   refine (line_calls A0_0 A0_1 A0_2 A0_3 l0_0.length c0_0 c0_1 l0_2.length c0_2 l0_3.length c0_3 l0_1 a0_4 a0_5 a0_6 0 144 #[.pointer (some ⟨X, 0, none⟩)] (dnF l0_2 l0_3 k) _ (enters_of Tryz.func144 (by kernel_rfl) rfl) (fun W hW => HQ.out.2 W (below_trans' HBZ.out hW)) (Kd.C_below HR1.out HB.out) HM12.out).mono ?_
   rintro e w4 ⟨v2, rfl, hR, hb⟩
   refine ⟨_, rfl, ?_⟩
   have Hv2 := Sd.mk (Kd.R_lower hR (below_size HB.out))
   replace Hv1 := Sd.mk (Kd.R_below Hv1.out hb)
   replace BK := Sd.mk (blk_below BK.out hb)
   replace HL := Sd.mk (Kd.R_below HL.out hb)
   replace HBZ := Sd.mk (below_step HBZ.out hb)
   replace HFY := Sd.mk (HFY.out.later hb)
   replace HB := Sd.mk (below_step HB.out hb)
   clear hb hR
   refine hK.out _ _ ⟨(blk_cell BK.out 0).trans rfl, (blk_cell BK.out 1).trans rfl, (blk_cell BK.out 2).trans rfl, (blk_cell BK.out 3).trans rfl, (blk_cell BK.out 4).trans rfl, (blk_cell BK.out 5).trans rfl, (blk_cell BK.out 6).trans rfl⟩ (fun hHeld => ?_)
   clear hK K
   refine norm_ (a' := ?_) ?_ ?_
   rotate_left
   ·show Act.put _ (some 27) _ = _
    exact tP
   refine one_ (i := 7) (N := some 28) (bA 10 255) rfl rfl (one_of HT_.out (by kernel_rfl)) (by decide) (fun K hK => ?_)
   refine value_ (w1 := ?_) (v := ?_) (by rfl) rfl ?_ ?_
   rotate_left 2
   ·go_simp
    constructor
    ·rfl
    ·rfl
   refine hK.out _ _ ⟨(blk_cell (blk_alloc BK.out _) 0).trans rfl, (blk_cell (blk_alloc BK.out _) 1).trans rfl, (blk_cell (blk_alloc BK.out _) 2).trans rfl, (blk_cell (blk_alloc BK.out _) 3).trans rfl, (blk_cell (blk_alloc BK.out _) 4).trans rfl, (blk_cell (blk_alloc BK.out _) 5).trans rfl, (blk_cell (blk_alloc BK.out _) 6).trans rfl⟩ (fun hHeld => ?_)
   clear hK K
   refine norm_ (a' := ?_) ?_ ?_
   rotate_left
   ·show Act.put _ (some 28) _ = _
    exact tP
   refine one_ (i := 8) (N := some 29) (bA 10 511) rfl rfl (one_of HT_.out (by kernel_rfl)) (by decide) (fun K hK => ?_)
   refine Kd.R_append_rows_step k168 (w0 := w) w.heap.size (by rfl) (.tmp 21) (.tmp 28) 100 168 (.agg #[.slice none 0 0, .int .i64 0]) 32 rfl Tryz.underlying100 info168 rfl (by decide) (by omega) u3 (headL l0_1 l0_2 l0_3 a0_6 k) (pairL l0_1 l0_2 l0_3 k) (some ⟨_, 0, none⟩) 2 2 (fun _ => True) (fun j => some j ≠ u3.ownBlock) rfl rfl (Kd.R_alloc HL.out _) (pair_reads HL.out (by rw [headL_len]; omega) Hv1.out Hv2.out (below_size HB.out)) (fun _ _ hp => hp) (fun _ hk => ⟨trivial, hk⟩) (fun _ _ => trivial) (below_alloc HB.out _) ?aS ?aL ?_
   (case aS => exact below_size (below_alloc HB.out _))
   (case aL => exact (by rw [headL_len]; exact Nat.le_trans (Nat.mul_le_mul_right 32 (show 1 + 2 * k + 2 ≤ 100 by have := HKL.out; have H := HH.out; have := H.slen; have := H.o12; have := H.p6; omega)) (by decide)))
   intro v5 w5 ho hb hg hat
   have BK2 := Sd.mk (blk_grown (blk_alloc BK.out _) hg (Kd.R_ne HL.out BK.out (by decide)))
   have HLW := Sd.mk (LinesW.mk hb BK2.out ho)
   have HFX := Sd.mk ((HFY.out.later (below_alloc (Below.refl _ _) _)).grown (Kd.R_alloc HL.out _) (by rw [headL_len]; omega) hg)
   clear BK HL HB Hv1 Hv2 HFY hb ho hat hg
   refine hK.out _ _ ⟨(blk_cell BK2.out 0).trans rfl, (blk_cell BK2.out 1).trans rfl, (blk_cell BK2.out 2).trans rfl, (blk_cell BK2.out 3).trans rfl, (blk_cell BK2.out 4).trans rfl, (blk_cell BK2.out 5).trans rfl, (blk_cell BK2.out 6).trans rfl⟩ (fun hHeld => ?_)
   clear hK K
   refine norm_ (a' := ?_) ?_ ?_
   rotate_left
   ·show Act.put _ (some 29) _ = _
    exact tP
   refine pQ 9 (some 3) (bA 10 1023) ?_
   refine done_ (done_of HT_.out (by kernel_rfl)) ?_
   have hfz := HFZ.out
   have hlt := HLT.out
   have hgk := HK.out
   go_wp2
   go_roundg (fs.length - (k + 1))
   case measure => omega
   case rel => exact ⟨k + 1, by first | rfl | (rw [wrap_id (by omega) (by omega)]; rfl), by omega, by omega, HLW, HFX⟩
  ·have H := HH.out
   have hkn : k = l0_2.length + l0_3.length := by have := HFL.out; omega
   have hltz : ¬ (k : Int) < (fs.length : Int) := by omega
   have HB := Sd.mk HW.out.below
   have BK := Sd.mk HW.out.box
   have HL := Sd.mk HW.out.list
   have HM12 := Sd.mk H.m12
   have HRX := Sd.mk H.redox
   have HKN := Sd.mk hkn
   have HSZ := Sd.mk (show 1 + 2 * k + 2 ≤ 100 by have := H.slen; have := H.o12; have := H.p6; omega)
   clear HW HFO H hkn hgk
   go_upto_region 7 with (fail)
   refine start_ (n := 10) (S := fun w' => w'.cell? ⟨w.heap.size, 0, none⟩ = some (.slice A0_0 l0_0.length c0_0) ∧ w'.cell? ⟨w.heap.size, 1, none⟩ = some (.slice A0_1 l0_1.length c0_1) ∧ w'.cell? ⟨w.heap.size, 2, none⟩ = some (.slice A0_2 l0_2.length c0_2) ∧ w'.cell? ⟨w.heap.size, 3, none⟩ = some (.slice A0_3 l0_3.length c0_3) ∧ w'.cell? ⟨w.heap.size, 4, none⟩ = some (.int .i64 a0_4) ∧ w'.cell? ⟨w.heap.size, 5, none⟩ = some (.int .i64 a0_5) ∧ w'.cell? ⟨w.heap.size, 6, none⟩ = some (.int .i64 a0_6)) (ds := []) (bA 10 0) (by kernel_rfl) rfl rfl ⟨(blk_cell BK.out 0).trans rfl, (blk_cell BK.out 1).trans rfl, (blk_cell BK.out 2).trans rfl, (blk_cell BK.out 3).trans rfl, (blk_cell BK.out 4).trans rfl, (blk_cell BK.out 5).trans rfl, (blk_cell BK.out 6).trans rfl⟩ (fun hHeld => ?_); refine with_tabW lines7_tab lines7_bits (fun HT_ HW_ => ?_)
   replace BK := Sd.mk (blk_drew BK.out)
   replace HL := Sd.mk (Kd.R_drew HL.out)
   replace HB := Sd.mk (below_drew1 HB.out)
   generalize wr.drew = W0 at BK HL HB hHeld ⊢
   refine pQ 0 (some 31) (bA 10 1) ?_
   refine pQ 1 (some 32) (bA 10 3) ?_
   refine tQ 2 (some 33) (bA 10 7) ?_
   refine pQ 3 (some 34) (bA 10 15) ?_
   refine pQ 4 (some 35) (bA 10 31) ?_
   refine tQ 5 (some 36) (bA 10 63) ?_
   refine join_ (σ := Nat × Nat) 2 (bA 10 255) (fun s_ => [(6, .pointer (some ⟨s_.1, 0, none⟩)), (7, .pointer (some ⟨s_.2, 0, none⟩))]) (fun s_ w' => (w'.cell? ⟨w.heap.size, 0, none⟩ = some (.slice A0_0 l0_0.length c0_0) ∧ w'.cell? ⟨w.heap.size, 1, none⟩ = some (.slice A0_1 l0_1.length c0_1) ∧ w'.cell? ⟨w.heap.size, 2, none⟩ = some (.slice A0_2 l0_2.length c0_2) ∧ w'.cell? ⟨w.heap.size, 3, none⟩ = some (.slice A0_3 l0_3.length c0_3) ∧ w'.cell? ⟨w.heap.size, 4, none⟩ = some (.int .i64 a0_4) ∧ w'.cell? ⟨w.heap.size, 5, none⟩ = some (.int .i64 a0_5) ∧ w'.cell? ⟨w.heap.size, 6, none⟩ = some (.int .i64 a0_6)) ∧ Below w.heap.size w w' ∧ w'.heap[w.heap.size]? = some (.cells #[.slice A0_0 l0_0.length c0_0, .slice A0_1 l0_1.length c0_1, .slice A0_2 l0_2.length c0_2, .slice A0_3 l0_3.length c0_3, .int .i64 a0_4, .int .i64 a0_5, .int .i64 a0_6] 29 (0, 0)) ∧ k168.R 168 w' w.heap.size (fun j => j ≠ s_.1 ∧ j ≠ s_.2) u3 (headL l0_1 l0_2 l0_3 a0_6 k) ∧ w'.heap[s_.1]? = some (.cells #[.int .i64 0] 3 (0, 0)) ∧ w'.heap[s_.2]? = some (.cells #[.int .i64 0] 3 (0, 0)) ∧ s_.1 ≠ s_.2 ∧ w.heap.size < s_.1 ∧ w.heap.size < s_.2) ?_ ?_
   rotate_left
   ·skip
    intro hCont
    refine two_ (i := 6) (j := 7) (Ni := some 6) (Nj := some 7) (bA 10 127) (bA 10 191) rfl rfl rfl rfl (two_of HT_.out (by kernel_rfl)) (by decide) (by decide) (fun K hK => ?_) (fun K hK => ?_)
    ·skip
     refine box_step ?hg (N := 6) ?hd (cs := #[.int .i64 0]) (t := 3) ?hr ?_; (case hd => rfl); (case hg => rfl); (case hr => first | (go_simp; done) | (go_simp; rfl))
     intro U6 hg6 w6 hbox6 hb6
     have BK6 := Sd.mk (blk_below BK.out hb6)
     refine hK.out _ _ ⟨(blk_cell BK6.out 0).trans rfl, (blk_cell BK6.out 1).trans rfl, (blk_cell BK6.out 2).trans rfl, (blk_cell BK6.out 3).trans rfl, (blk_cell BK6.out 4).trans rfl, (blk_cell BK6.out 5).trans rfl, (blk_cell BK6.out 6).trans rfl⟩ (fun hHeld => ?_)
     clear hK K
     refine norm_ (a' := ?_) ?_ ?_
     rotate_left
     ·show Act.put _ (some 6) _ = _
      exact tP
     refine one_ (i := 7) (N := some 7) (bA 10 255) rfl rfl (one_of HT_.out (by kernel_rfl)) (by decide) (fun K hK => ?_)
     refine box_step ?hg (N := 7) ?hd (cs := #[.int .i64 0]) (t := 3) ?hr ?_; (case hd => rfl); (case hg => rfl); (case hr => first | (go_simp; done) | (go_simp; rfl))
     intro U7 hg7 w7 hbox7 hb7
     have BK7 := Sd.mk (blk_below BK6.out hb7)
     refine hK.out _ _ ⟨(blk_cell BK7.out 0).trans rfl, (blk_cell BK7.out 1).trans rfl, (blk_cell BK7.out 2).trans rfl, (blk_cell BK7.out 3).trans rfl, (blk_cell BK7.out 4).trans rfl, (blk_cell BK7.out 5).trans rfl, (blk_cell BK7.out 6).trans rfl⟩ (fun hHeld => ?_)
     clear hK K
     refine norm_ (a' := ?_) ?_ ?_
     rotate_left
     ·show Act.put _ (some 7) _ = _
      exact tP
     have hl1 := blk_lt BK.out
     have hl2 := blk_lt hbox6
     have hokk : ∀ j, (True ∧ w.heap.size ≤ j ∧ j < W0.heap.size ∧ ∃ q, q ∈ 168 :: k168.E ∧ ∃ cells, W0.heap[j]? = some (.cells cells q (0, 0))) → j ≠ U6 ∧ j ≠ U7 := fun j hj => ⟨by have := hj.2.2.1; omega, by have := hj.2.2.1; omega⟩
     exact norm_ (by simp only [putAll, Act.put, List.setIfInBounds_toArray, List.set_cons_zero, List.set_cons_succ]) (hCont (U6, U7) _ ⟨⟨(blk_cell BK7.out 0).trans rfl, (blk_cell BK7.out 1).trans rfl, (blk_cell BK7.out 2).trans rfl, (blk_cell BK7.out 3).trans rfl, (blk_cell BK7.out 4).trans rfl, (blk_cell BK7.out 5).trans rfl, (blk_cell BK7.out 6).trans rfl⟩, below_step (below_step HB.out hb6) hb7, BK7.out, Kd.R_below (Kd.R_below (Kd.R_mono (Kd.R_bound HL.out) hokk) hb6) hb7, blk_below hbox6 hb7, hbox7, by omega, by have := hb6.size; omega, by have := hb6.size; omega⟩)
    ·skip
     refine box_step ?hg (N := 7) ?hd (cs := #[.int .i64 0]) (t := 3) ?hr ?_; (case hd => rfl); (case hg => rfl); (case hr => first | (go_simp; done) | (go_simp; rfl))
     intro U7 hg7 w7 hbox7 hb7
     have BK7 := Sd.mk (blk_below BK.out hb7)
     refine hK.out _ _ ⟨(blk_cell BK7.out 0).trans rfl, (blk_cell BK7.out 1).trans rfl, (blk_cell BK7.out 2).trans rfl, (blk_cell BK7.out 3).trans rfl, (blk_cell BK7.out 4).trans rfl, (blk_cell BK7.out 5).trans rfl, (blk_cell BK7.out 6).trans rfl⟩ (fun hHeld => ?_)
     clear hK K
     refine norm_ (a' := ?_) ?_ ?_
     rotate_left
     ·show Act.put _ (some 7) _ = _
      exact tP
     refine one_ (i := 6) (N := some 6) (bA 10 255) rfl rfl (one_of HT_.out (by kernel_rfl)) (by decide) (fun K hK => ?_)
     refine box_step ?hg (N := 6) ?hd (cs := #[.int .i64 0]) (t := 3) ?hr ?_; (case hd => rfl); (case hg => rfl); (case hr => first | (go_simp; done) | (go_simp; rfl))
     intro U6 hg6 w6 hbox6 hb6
     have BK6 := Sd.mk (blk_below BK7.out hb6)
     refine hK.out _ _ ⟨(blk_cell BK6.out 0).trans rfl, (blk_cell BK6.out 1).trans rfl, (blk_cell BK6.out 2).trans rfl, (blk_cell BK6.out 3).trans rfl, (blk_cell BK6.out 4).trans rfl, (blk_cell BK6.out 5).trans rfl, (blk_cell BK6.out 6).trans rfl⟩ (fun hHeld => ?_)
     clear hK K
     refine norm_ (a' := ?_) ?_ ?_
     rotate_left
     ·show Act.put _ (some 6) _ = _
      exact tP
     have hl1 := blk_lt BK.out
     have hl2 := blk_lt hbox7
     have hokk : ∀ j, (True ∧ w.heap.size ≤ j ∧ j < W0.heap.size ∧ ∃ q, q ∈ 168 :: k168.E ∧ ∃ cells, W0.heap[j]? = some (.cells cells q (0, 0))) → j ≠ U6 ∧ j ≠ U7 := fun j hj => ⟨by have := hj.2.2.1; omega, by have := hj.2.2.1; omega⟩
     exact norm_ (by simp only [putAll, Act.put, List.setIfInBounds_toArray, List.set_cons_zero, List.set_cons_succ]) (hCont (U6, U7) _ ⟨⟨(blk_cell BK6.out 0).trans rfl, (blk_cell BK6.out 1).trans rfl, (blk_cell BK6.out 2).trans rfl, (blk_cell BK6.out 3).trans rfl, (blk_cell BK6.out 4).trans rfl, (blk_cell BK6.out 5).trans rfl, (blk_cell BK6.out 6).trans rfl⟩, below_step (below_step HB.out hb7) hb6, BK6.out, Kd.R_below (Kd.R_below (Kd.R_mono (Kd.R_bound HL.out) hokk) hb7) hb6, hbox6, blk_below hbox7 hb6, by omega, by have := hb7.size; omega, by have := hb7.size; omega⟩)
   rintro ⟨U6, U7⟩ w7 ⟨hS_, hB, hBK, hL, h6, h7, hne, hg6, hg7⟩
   dsimp only at hB hBK hL h6 h7 hne hg6 hg7
   clear HB BK HL
   refine norm_ (a' := ?_) ?_ ?_
   rotate_left
   ·simp only [putAll, Act.put, List.setIfInBounds_toArray, List.set_cons_zero, List.set_cons_succ]
    rfl
   have h60 : w7.cell? ⟨U6, 0, none⟩ = some (.int .i64 0) := (blk_cell h6 0).trans rfl
   have f60 := blk_frozen h6 0
   refine one_ (i := 8) (N := none) (bA 10 511) rfl rfl (one_of HT_.out (by kernel_rfl)) (by decide) (fun K hK => ?_)
   refine skip_ (w1 := ?_) (by rfl) rfl ?_ ?_
   rotate_left
   ·go_simp
    rfl
   have hBK8 := blk_far hBK (p := ⟨U6, 0, none⟩) (show w.heap.size ≠ U6 by omega) (.int .i64 a0_4)
   have hL8 := Kd.R_far hL (p := ⟨U6, 0, none⟩) (fun j hj => hj.1) (.int .i64 a0_4)
   have hB8 := below_set (j := 0) (v := .int .i64 a0_4) hB (show w.heap.size ≤ U6 by omega)
   have h68 := blk_put (cs := #[.int .i64 0]) h6 0 (.int .i64 a0_4) rfl
   have h78 := blk_far h7 (p := ⟨U6, 0, none⟩) (Ne.symm hne) (.int .i64 a0_4)
   refine hK.out _ _ ⟨(blk_cell hBK8 0).trans rfl, (blk_cell hBK8 1).trans rfl, (blk_cell hBK8 2).trans rfl, (blk_cell hBK8 3).trans rfl, (blk_cell hBK8 4).trans rfl, (blk_cell hBK8 5).trans rfl, (blk_cell hBK8 6).trans rfl⟩ (fun hHeld => ?_)
   clear hK K h60 f60
   have h70 : (w7.setCell ⟨U6, 0, none⟩ (.int .i64 a0_4)).cell? ⟨U7, 0, none⟩ = some (.int .i64 0) := (blk_cell h78 0).trans rfl
   have f70 := blk_frozen h78 0
   refine one_ (i := 9) (N := none) (bA 10 1023) rfl rfl (one_of HT_.out (by kernel_rfl)) (by decide) (fun K hK => ?_)
   refine skip_ (w1 := ?_) (by rfl) rfl ?_ ?_
   rotate_left
   ·go_simp
    rfl
   have BK := Sd.mk (blk_far hBK8 (p := ⟨U7, 0, none⟩) (show w.heap.size ≠ U7 by omega) (.int .i64 a0_5))
   have HL := Sd.mk (Kd.R_mono (ok' := fun _ => True) (Kd.R_far hL8 (p := ⟨U7, 0, none⟩) (fun j hj => hj.2) (.int .i64 a0_5)) (fun _ _ => trivial))
   have HB := Sd.mk (below_set (j := 0) (v := .int .i64 a0_5) hB8 (show w.heap.size ≤ U7 by omega))
   have B6 := Sd.mk (blk_far h68 (p := ⟨U7, 0, none⟩) hne (.int .i64 a0_5))
   have B7 := Sd.mk (blk_put (cs := #[.int .i64 0]) h78 0 (.int .i64 a0_5) rfl)
   refine hK.out _ _ ⟨(blk_cell BK.out 0).trans rfl, (blk_cell BK.out 1).trans rfl, (blk_cell BK.out 2).trans rfl, (blk_cell BK.out 3).trans rfl, (blk_cell BK.out 4).trans rfl, (blk_cell BK.out 5).trans rfl, (blk_cell BK.out 6).trans rfl⟩ (fun hHeld => ?_)
   clear hK K h70 f70 hBK8 hL8 hB8 h68 h78 hB hBK hL h6 h7 hne hg6 hg7 hS_
   refine done_ (done_of HT_.out (by kernel_rfl)) ?_
   go_upto_region 8 with (fail)
   generalize ((w7.setCell ⟨U6, 0, none⟩ (.int .i64 a0_4)).setCell ⟨U7, 0, none⟩ (.int .i64 a0_5)) = WX at *
   have H := HH.out
   have hr := HRX.out
   have HQ5 := Sd.mk (facQ125 H (u := a0_5) (by omega) B7.out).1
   have HQ6 := Sd.mk (facQ125 H (u := a0_4) (by omega) B6.out).2
   have HBZ := Sd.mk (Below.refl WX.heap.size WX)
   clear B6 B7 H hr
   refine start_ (n := 10) (S := fun w' => w'.cell? ⟨w.heap.size, 0, none⟩ = some (.slice A0_0 l0_0.length c0_0) ∧ w'.cell? ⟨w.heap.size, 1, none⟩ = some (.slice A0_1 l0_1.length c0_1) ∧ w'.cell? ⟨w.heap.size, 2, none⟩ = some (.slice A0_2 l0_2.length c0_2) ∧ w'.cell? ⟨w.heap.size, 3, none⟩ = some (.slice A0_3 l0_3.length c0_3) ∧ w'.cell? ⟨w.heap.size, 4, none⟩ = some (.int .i64 a0_4) ∧ w'.cell? ⟨w.heap.size, 5, none⟩ = some (.int .i64 a0_5) ∧ w'.cell? ⟨w.heap.size, 6, none⟩ = some (.int .i64 a0_6)) (ds := []) (bA 10 0) (by kernel_rfl) rfl rfl ⟨(blk_cell BK.out 0).trans rfl, (blk_cell BK.out 1).trans rfl, (blk_cell BK.out 2).trans rfl, (blk_cell BK.out 3).trans rfl, (blk_cell BK.out 4).trans rfl, (blk_cell BK.out 5).trans rfl, (blk_cell BK.out 6).trans rfl⟩ (fun hHeld => ?_); refine with_tabW lines8_tab lines8_bits (fun HT_ HW_ => ?_)
   replace BK := Sd.mk (blk_drew BK.out)
   replace HL := Sd.mk (Kd.R_drew HL.out)
   replace HB := Sd.mk (below_drew1 HB.out)
   replace HBZ := Sd.mk (below_drew1 HBZ.out)
   generalize WX.drew = W9 at BK HL HB HBZ hHeld ⊢
   refine pQ 0 (some 37) (bA 10 1) ?_
   refine tQ 1 (some 38) (bA 10 3) ?_
   refine pQ 2 (some 39) (bA 10 7) ?_
   refine tQ 4 (some 41) (bA 10 23) ?_
   refine pQ 5 (some 42) (bA 10 55) ?_
   refine one_ (i := 3) (N := some 40) (bA 10 63) rfl rfl (one_of HT_.out (by kernel_rfl)) (by decide) (fun K hK => ?_)
   refine goes_ Tryz.func138 (by kernel_rfl) rfl #[.agg #[.slice A0_0 l0_0.length c0_0, .slice A0_1 l0_1.length c0_1, .slice A0_2 l0_2.length c0_2, .slice A0_3 l0_3.length c0_3, .int .i64 a0_4, .int .i64 a0_5, .int .i64 a0_6], .int .i64 0, .func (.func 146) #[] #[.pointer (some ⟨U7, 0, none⟩)]] (by rfl) rfl rfl (by (try simp only [List.map_toArray, List.map_cons, List.map_nil]); first | done | rfl) ?_
   refine (line_calls A0_0 A0_1 A0_2 A0_3 l0_0.length c0_0 c0_1 l0_2.length c0_2 l0_3.length c0_3 l0_1 a0_4 a0_5 a0_6 0 146 #[.pointer (some ⟨U7, 0, none⟩)] (rUp a0_5) _ (enters_of Tryz.func146 (by kernel_rfl) rfl) (fun W hW => HQ5.out W (below_trans' HBZ.out hW)) (Kd.C_below HR1.out HB.out) HM12.out).mono ?_
   rintro e w4 ⟨v1, rfl, hR, hb⟩
   refine ⟨_, rfl, ?_⟩
   have Hv1 := Sd.mk (Kd.R_lower hR (below_size HB.out))
   replace BK := Sd.mk (blk_below BK.out hb)
   replace HL := Sd.mk (Kd.R_below HL.out hb)
   replace HBZ := Sd.mk (below_step HBZ.out hb)
   replace HB := Sd.mk (below_step HB.out hb)
   clear hb hR
   refine hK.out _ _ ⟨(blk_cell BK.out 0).trans rfl, (blk_cell BK.out 1).trans rfl, (blk_cell BK.out 2).trans rfl, (blk_cell BK.out 3).trans rfl, (blk_cell BK.out 4).trans rfl, (blk_cell BK.out 5).trans rfl, (blk_cell BK.out 6).trans rfl⟩ (fun hHeld => ?_)
   clear hK K
   refine norm_ (a' := ?_) ?_ ?_
   rotate_left
   ·show Act.put _ (some 40) _ = _
    exact tP
   refine one_ (i := 6) (N := some 43) (bA 10 127) rfl rfl (one_of HT_.out (by kernel_rfl)) (by decide) (fun K hK => ?_)
   refine goes_ Tryz.func138 (by kernel_rfl) rfl #[.agg #[.slice A0_0 l0_0.length c0_0, .slice A0_1 l0_1.length c0_1, .slice A0_2 l0_2.length c0_2, .slice A0_3 l0_3.length c0_3, .int .i64 a0_4, .int .i64 a0_5, .int .i64 a0_6], .int .i64 0, .func (.func 147) #[] #[.pointer (some ⟨U6, 0, none⟩)]] (by rfl) rfl rfl (by (try simp only [List.map_toArray, List.map_cons, List.map_nil]); first | done | rfl) ?_
   refine (line_calls A0_0 A0_1 A0_2 A0_3 l0_0.length c0_0 c0_1 l0_2.length c0_2 l0_3.length c0_3 l0_1 a0_4 a0_5 a0_6 0 147 #[.pointer (some ⟨U6, 0, none⟩)] (rDn a0_4) _ (enters_of Tryz.func147 (by kernel_rfl) rfl) (fun W hW => HQ6.out W (below_trans' HBZ.out hW)) (Kd.C_below HR1.out HB.out) HM12.out).mono ?_
   rintro e w4 ⟨v2, rfl, hR, hb⟩
   refine ⟨_, rfl, ?_⟩
   have Hv2 := Sd.mk (Kd.R_lower hR (below_size HB.out))
   replace Hv1 := Sd.mk (Kd.R_below Hv1.out hb)
   replace BK := Sd.mk (blk_below BK.out hb)
   replace HL := Sd.mk (Kd.R_below HL.out hb)
   replace HBZ := Sd.mk (below_step HBZ.out hb)
   replace HB := Sd.mk (below_step HB.out hb)
   clear hb hR
   refine hK.out _ _ ⟨(blk_cell BK.out 0).trans rfl, (blk_cell BK.out 1).trans rfl, (blk_cell BK.out 2).trans rfl, (blk_cell BK.out 3).trans rfl, (blk_cell BK.out 4).trans rfl, (blk_cell BK.out 5).trans rfl, (blk_cell BK.out 6).trans rfl⟩ (fun hHeld => ?_)
   clear hK K
   refine norm_ (a' := ?_) ?_ ?_
   rotate_left
   ·show Act.put _ (some 43) _ = _
    exact tP
   refine one_ (i := 7) (N := some 44) (bA 10 255) rfl rfl (one_of HT_.out (by kernel_rfl)) (by decide) (fun K hK => ?_)
   refine value_ (w1 := ?_) (v := ?_) (by rfl) rfl ?_ ?_
   rotate_left 2
   ·go_simp
    constructor
    ·rfl
    ·rfl
   refine hK.out _ _ ⟨(blk_cell (blk_alloc BK.out _) 0).trans rfl, (blk_cell (blk_alloc BK.out _) 1).trans rfl, (blk_cell (blk_alloc BK.out _) 2).trans rfl, (blk_cell (blk_alloc BK.out _) 3).trans rfl, (blk_cell (blk_alloc BK.out _) 4).trans rfl, (blk_cell (blk_alloc BK.out _) 5).trans rfl, (blk_cell (blk_alloc BK.out _) 6).trans rfl⟩ (fun hHeld => ?_)
   clear hK K
   refine norm_ (a' := ?_) ?_ ?_
   rotate_left
   ·show Act.put _ (some 44) _ = _
    exact tP
   refine one_ (i := 8) (N := some 45) (bA 10 511) rfl rfl (one_of HT_.out (by kernel_rfl)) (by decide) (fun K hK => ?_)
   refine Kd.R_append_rows_step k168 (w0 := w) w.heap.size (by rfl) (.tmp 37) (.tmp 44) 100 168 (.agg #[.slice none 0 0, .int .i64 0]) 32 rfl Tryz.underlying100 info168 rfl (by decide) (by omega) u3 (headL l0_1 l0_2 l0_3 a0_6 k) [⟨l0_1.map (rUp a0_5), 0⟩, ⟨l0_1.map (rDn a0_4), 0⟩] (some ⟨_, 0, none⟩) 2 2 (fun _ => True) (fun j => some j ≠ u3.ownBlock) rfl rfl (Kd.R_alloc HL.out _) (pair_reads (x := ⟨l0_1.map (rUp a0_5), 0⟩) (x' := ⟨l0_1.map (rDn a0_4), 0⟩) HL.out (by rw [headL_len]; omega) Hv1.out Hv2.out (below_size HB.out)) (fun _ _ hp => hp) (fun _ hk => ⟨trivial, hk⟩) (fun _ _ => trivial) (below_alloc HB.out _) ?aS ?aL ?_
   (case aS => exact below_size (below_alloc HB.out _))
   (case aL => exact (by rw [headL_len]; exact Nat.le_trans (Nat.mul_le_mul_right 32 HSZ.out) (by decide)))
   intro v5 w5 ho hb hg hat
   have BK2 := Sd.mk (blk_grown (blk_alloc BK.out _) hg (Kd.R_ne HL.out BK.out (by decide)))
   have HO := Sd.mk ho
   have HB2 := Sd.mk hb
   clear BK HL HB Hv1 Hv2 hb ho hat hg
   refine hK.out _ _ ⟨(blk_cell BK2.out 0).trans rfl, (blk_cell BK2.out 1).trans rfl, (blk_cell BK2.out 2).trans rfl, (blk_cell BK2.out 3).trans rfl, (blk_cell BK2.out 4).trans rfl, (blk_cell BK2.out 5).trans rfl, (blk_cell BK2.out 6).trans rfl⟩ (fun hHeld => ?_)
   clear hK K
   refine norm_ (a' := ?_) ?_ ?_
   rotate_left
   ·show Act.put _ (some 45) _ = _
    exact tP
   refine pQ 9 (some 2) (bA 10 1023) ?_
   refine done_ (done_of HT_.out (by kernel_rfl)) ?_
   go_wp2
   go_ret
   have hkn := HKN.out
   subst hkn
   exact ⟨v5, rfl, HO.out, HB2.out⟩
end
section
open Go.RowKit Go.Proofs.YtljfljekcpdpiaaGreatW.PrintWords Go.Proofs.YtljfljekcpdpiaaGreatW.PrintLast Go.Proofs.YtljfljekcpdpiaaGreatW.PrintMore
def x_lines.f (l0_0 : List ByteArray) (l0_1 : List (S70)) (l0_2 : List (S27)) (l0_3 : List (S89)) (a0_4 : Int) (a0_5 : Int) (a0_6 : Int) : Option (List S168) :=
  if checkV l0_0 l0_1 l0_2 l0_3 a0_4 a0_5 a0_6 = 0 then some (linesV l0_1 l0_2 l0_3 a0_4 a0_5 a0_6) else none
theorem x_lines.calls (A0_0 : Option Addr) (c0_0 : Nat) (l0_0 : List ByteArray) (A0_1 : Option Addr) (c0_1 : Nat) (l0_1 : List (S70)) (A0_2 : Option Addr) (c0_2 : Nat) (l0_2 : List (S27)) (A0_3 : Option Addr) (c0_3 : Nat) (l0_3 : List (S89)) (a0_4 : Int) (a0_5 : Int) (a0_6 : Int) (r : List S168) (w : World) (hr0_0 : Kd.C Kd.string w A0_0 l0_0.length l0_0) (hc0_0 : l0_0.length ≤ c0_0) (hr0_1 : Kd.C k70 w A0_1 l0_1.length l0_1) (hc0_1 : l0_1.length ≤ c0_1) (hr0_2 : Kd.C k27 w A0_2 l0_2.length l0_2) (hc0_2 : l0_2.length ≤ c0_2) (hr0_3 : Kd.C k89 w A0_3 l0_3.length l0_3) (hc0_3 : l0_3.length ≤ c0_3) (h : x_lines.f l0_0 l0_1 l0_2 l0_3 a0_4 a0_5 a0_6 = some r) :
    Calls Tryz.prog 52 #[.agg #[.slice A0_0 l0_0.length c0_0, .slice A0_1 l0_1.length c0_1, .slice A0_2 l0_2.length c0_2, .slice A0_3 l0_3.length c0_3, .int .i64 a0_4, .int .i64 a0_5, .int .i64 a0_6]] w fun e w' => ∃ v0_ : Value, e = .returned v0_ ∧ Kd.R k168 168 w' w.heap.size (fun _ => True) v0_ r ∧ Below w.heap.size w w' := by
  unfold x_lines.f at h
  by_cases hc : checkV l0_0 l0_1 l0_2 l0_3 a0_4 a0_5 a0_6 = 0
  · rw [if_pos hc] at h
    obtain rfl := Option.some.inj h
    exact lines_calls A0_0 c0_0 l0_0 A0_1 c0_1 l0_1 A0_2 c0_2 l0_2 A0_3 c0_3 l0_3 a0_4 a0_5 a0_6 w hr0_0 hc0_0 hr0_1 hc0_1 hr0_2 hc0_2 hr0_3 hc0_3 (check_ok hc)
  · rw [if_neg hc] at h; cases h
end
section
open Go.RowKit Go.Proofs.YtljfljekcpdpiaaGreatW.PrintWords Go.Proofs.YtljfljekcpdpiaaGreatW.PrintLast Go.Proofs.YtljfljekcpdpiaaGreatW.PrintMore
def b_value.l0 : Nat → List Int → Int → List Int → Int → Int → Option (Int)
 | 0, _, _, _, _, _ => none
 | k + 1, x1, x5, x9, x10, x11 => if x11 < x10 then (if 0 ≤ x11 then (if x11 < (x9.length : Int) then (if x11 < (x1.length : Int) then (b_value.l0 k x1 (wrap64 (x5 + (wrap64 ((rd x1 x11) * (rd x9 x11))))) x9 x10 (wrap64 (x11 + 1))) else (none)) else (none)) else (none)) else (some x5)
def b_value.f (k : Nat) (l0_0 : List Int) (a0_1 : Int) (l1 : List Int) : Option (Int) := b_value.l0 k l1 0 l0_0 (l0_0.length : Int) 0
theorem b_value.calls (k : Nat) (A0_0 : Option Addr) (c0_0 : Nat) (l0_0 : List Int) (a0_1 : Int) (A1 : Option Addr) (c1 : Nat) (l1 : List Int) (r : Int) (w : World) (hr0_0 : Kd.C (Kd.int .i64) w A0_0 l0_0.length l0_0) (hc0_0 : l0_0.length ≤ c0_0) (hr1 : Kd.C (Kd.int .i64) w A1 l1.length l1) (hc1 : l1.length ≤ c1) (h : b_value.f k l0_0 a0_1 l1 = some r) :
  Calls Tryz.prog 137 #[.agg #[.slice A0_0 l0_0.length c0_0, .int .i64 a0_1], .slice A1 l1.length c1] w fun e w' => e = .returned (.int .i64 r) ∧ Below w.heap.size w w' := by
 have hu168 := Tryz.underlying168; have HR0_0 := Sd.mk hr0_0; have HC0_0 := Sd.mk hc0_0; clear hr0_0 hc0_0; have HR1 := Sd.mk hr1; have HC1 := Sd.mk hc1; clear hr1 hc1; have HB := Sd.mk (Below.refl w.heap.size w)
 have H : (b_value.l0 k l1 0 l0_0 (l0_0.length : Int) 0) = some r := h
 clear h; have H' := Sd.mk H; clear H
 go_enter Tryz.func137, Tryz.ntmps137
 go_wp2_with (first | ((with_reducible refine gate_dst (N := 2) rfl ?_); refine box_event ?hg (N := 2) ?hd (cs := #[.slice A0_0 l0_0.length c0_0, .int .i64 a0_1]) (t := 168) ?hr ?_; (case hd => rfl); (case hg => rfl); (case hr => exact tG); intro gb1009 hg w3 hbox hb; have BK1009 := Sd.mk (hbox); have GW1009 := Sd.mk (bSz hg (bBl HB.out)); have GE1009 := Sd.mk (bSz hg (bBl HB.out)); replace HB := Sd.mk (below_step (bBl HB.out) hb); clear hb hbox hg; obtain ⟨u4_0, u4_1, o4_0, o4_1⟩ := bc2 (w := w3) BK1009.out))
 go_loopg [5, 11] k (fun kq v5 v11 w' => ∃ (x5_1 : Int) (x11_1 : Int), v5 = .int .i64 x5_1 ∧ v11 = .int .i64 x11_1 ∧ Sd (b_value.l0 kq l1 x5_1 l0_0 (l0_0.length : Int) x11_1 = some r) ∧ Sd (kq ≤ k) ∧ Sd (w'.heap[gb1009]? = some (.cells #[(.slice A0_0 l0_0.length c0_0), .int .i64 a0_1] 168 (0, 0))) ∧ Sd (Below w.heap.size w w'))
 case atStart => exact ⟨(0), (0), tS, tS, H', ⟨Nat.le_refl _⟩, ⟨bkA BK1009.out⟩, ⟨bBl HB.out⟩⟩
 case round =>
  clear H'; (try clear c1); (try clear p2); (try clear u4_0 u4_1); (try clear o4_0 o4_1); obtain ⟨x5_1, x11_1, rfl, rfl, HA, HK1, BK1009, HB⟩ := hrel
  cases gk with
  | zero => exact absurd HA.out (by simp [b_value.l0])
  | succ k1 =>
   have H := HA.out; clear HA
   simp only [b_value.l0] at H
   by_cases c5 : x11_1 < (l0_0.length : Int)
   ·rw [if_pos c5] at H
    have c5b0 : decide (x11_1 < (l0_0.length : Int)) = true := decide_eq_true c5
    clear c5
    by_cases c6 : 0 ≤ x11_1
    ·rw [if_pos c6] at H
     have c6b0 : decide (0 ≤ x11_1) = true := decide_eq_true c6
     clear c6
     by_cases c7 : x11_1 < (l0_0.length : Int)
     ·rw [if_pos c7] at H
      have c7b0 : decide (x11_1 < (l0_0.length : Int)) = true := decide_eq_true c7
      clear c7
      by_cases c8 : x11_1 < (l1.length : Int)
      ·rw [if_pos c8] at H
       have c8b0 : decide (x11_1 < (l1.length : Int)) = true := decide_eq_true c8
       clear c8; have H' := Sd.mk H; clear H
       have p1010 : 0 ≤ (x11_1 : Int) := tB
       have q1010 : x11_1 < (l0_0.length : Int) := tB
       obtain ⟨ad1010, e1010, hx1010_0⟩ := Kd.at_int HR0_0.out x11_1 p1010 q1010; cases e1010; replace hx1010_0 := cU HB hx1010_0; replace p1010 := eq_true p1010; replace q1010 := eq_true q1010
       have p1011 : 0 ≤ (x11_1 : Int) := tB
       have q1011 : x11_1 < (l1.length : Int) := tB
       obtain ⟨ad1011, e1011, hx1011_0⟩ := Kd.at_int HR1.out x11_1 p1011 q1011; cases e1011; replace hx1011_0 := cU HB hx1011_0; replace p1011 := eq_true p1011; replace q1011 := eq_true q1011
       go_wp2
       go_roundg k1
       case measure => have := HK1.out; omega
       case rel => exact ⟨(wrap64 (x5_1 + (wrap64 ((rd l1 x11_1) * (rd l0_0 x11_1))))), (wrap64 (x11_1 + 1)), tS, tS, H', ⟨by have := HK1.out; omega⟩, ⟨bkA BK1009.out⟩, ⟨bBl HB.out⟩⟩
      ·rw [if_neg c8] at H
       exact absurd H (by simp)
     ·rw [if_neg c7] at H
      exact absurd H (by simp)
    ·rw [if_neg c6] at H
     exact absurd H (by simp)
   ·rw [if_neg c5] at H
    have c5b0 : decide (x11_1 < (l0_0.length : Int)) = false := decide_eq_false c5
    clear c5; obtain rfl := Option.some.inj H
    go_wp2
    go_ret
    exact ⟨tE, bBl HB.out⟩
end
section
open Go.RowKit Go.Proofs.YtljfljekcpdpiaaGreatW.PrintWords Go.Proofs.YtljfljekcpdpiaaGreatW.PrintLast Go.Proofs.YtljfljekcpdpiaaGreatW.PrintMore
def vW (r fs : List Int) : Nat → Int
 | 0 => 0
 | i + 1 => wrap64 (vW r fs i + wrap64 (rd r (i : Int) * rd fs (i : Int)))
theorem value_l0 (r fs : List Int) (h1 : fs.length ≤ r.length) (h2 : fs.length ≤ 1000000) : ∀ (m i : Nat), i + m = fs.length → Ev (fun k => b_value.l0 k r (vW r fs i) fs (fs.length : Int) (i : Int)) (vW r fs fs.length)
 | 0, i, hi => by
  apply Ev.step
  simp only [b_value.l0, if_neg (show ¬ (i : Int) < (fs.length : Int) by omega)]
  rw [show i = fs.length by omega]
  exact Ev.const _
 | m + 1, i, hi => by
  have ih := value_l0 r fs h1 h2 m (i + 1) (by omega)
  apply Ev.step
  simp only [b_value.l0, if_pos (show (i : Int) < (fs.length : Int) by omega), if_pos (i_pos i), if_pos (show (i : Int) < (r.length : Int) by omega), wrap_succ (i_pos i) (show (i : Int) ≤ 1000000000 by omega)]
  exact ih
theorem value_calls (x : S168) (r : List Int) (Ax A1 : Option Addr) (cx c1 : Nat) (w : World) (hx : Kd.C (Kd.int .i64) w Ax x.f0.length x.f0) (hcx : x.f0.length ≤ cx) (hr : Kd.C (Kd.int .i64) w A1 r.length r) (hc1 : r.length ≤ c1) (h1 : x.f0.length ≤ r.length) (h2 : x.f0.length ≤ 1000000) :
  Calls Tryz.prog 137 (#[.agg #[.slice Ax x.f0.length cx, .int .i64 x.f1]] ++ #[.slice A1 r.length c1]) w fun e w' => e = .returned (.int .i64 (vW r x.f0 x.f0.length)) ∧ Below w.heap.size w w' := by
 obtain ⟨K, hK⟩ := value_l0 r x.f0 h1 h2 x.f0.length 0 (by omega)
 exact b_value.calls K Ax cx x.f0 x.f1 A1 c1 r _ w hx hcx hr hc1 (hK K (Nat.le_refl _))
def keepT : Bool × List (List Nat × List Nat) := (true, [([], []), ([], []), ([0, 1], [0, 1]), ([], []), ([], []), ([4], [4]), ([3, 5], [3, 5]), ([2, 6], [2, 6]), ([7, 2, 0, 1, 2, 3, 4, 5, 6, 7], [7])])
def keepB : List Nat := [0, 0, 3, 0, 0, 16, 56, 127, 255]
theorem keep_tab : rtab .any (opsOf Tryz.f136 1) = keepT := by kernel_rfl
theorem keep_bits : waitsOk keepT.2 keepB = true := by kernel_rfl
theorem k110_calls (x : S168) (r : List Int) (Ax A1 : Option Addr) (cx c1 R T_ : Nat) (t : Int) (w : World) (hx : Kd.C (Kd.int .i64) w Ax x.f0.length x.f0) (hcx : x.f0.length ≤ cx) (hr : Kd.C (Kd.int .i64) w A1 r.length r) (hc1 : r.length ≤ c1) (h1 : x.f0.length ≤ r.length) (h2 : x.f0.length ≤ 1000000)
  (hR : w.heap[R]? = some (.cells #[.slice A1 r.length c1] 30 (0, 0))) (hT : w.heap[T_]? = some (.cells #[.int .i64 t] 3 (0, 0))) :
  Calls Tryz.prog 136 #[.agg #[.slice Ax x.f0.length cx, .int .i64 x.f1], .pointer (some ⟨R, 0, none⟩), .pointer (some ⟨T_, 0, none⟩)] w fun e w' => e = .returned (.bool (decide (wrap64 (t * x.f1) < vW r x.f0 x.f0.length))) ∧ Below w.heap.size w w' := by
 have hb0 : Below w.heap.size w (w.alloc (.cells #[.slice Ax x.f0.length cx, .int .i64 x.f1] 168)) := below_alloc (Below.refl _ _) _
 have HB := Sd.mk hb0
 have BX := Sd.mk (blk_new w (.cells #[.slice Ax x.f0.length cx, .int .i64 x.f1] 168))
 have BR := Sd.mk (blk_below hR hb0)
 have BT := Sd.mk (blk_below hT hb0)
 have HX := Sd.mk (Kd.C_below hx hb0)
 have HR := Sd.mk (Kd.C_below hr hb0)
 have HCX := Sd.mk hcx
 have HC1 := Sd.mk hc1
 have H1 := Sd.mk h1
 have H2 := Sd.mk h2
 clear hx hcx hr hc1 h1 h2 hR hT hb0
 go_enter Tryz.func136, Tryz.ntmps136
 go_upto_region 1 with (fail)
 generalize w.alloc (.cells #[.slice Ax x.f0.length cx, .int .i64 x.f1] 168) = WX at *
 generalize hXX : w.heap.size = X at BX ⊢
 generalize hv : vW r x.f0 x.f0.length = v at *
 refine start_ (n := 9) (S := fun w' => w'.cell? ⟨X, 0, none⟩ = some (.slice Ax x.f0.length cx) ∧ w'.cell? ⟨X, 1, none⟩ = some (.int .i64 x.f1) ∧ w'.cell? ⟨R, 0, none⟩ = some (.slice A1 r.length c1) ∧ w'.cell? ⟨T_, 0, none⟩ = some (.int .i64 t)) (ds := []) (bA 9 0) (by kernel_rfl) rfl rfl ⟨(blk_cell BX.out 0).trans rfl, (blk_cell BX.out 1).trans rfl, (blk_cell BR.out 0).trans rfl, (blk_cell BT.out 0).trans rfl⟩ (fun hHeld => ?_); refine with_tabW keep_tab keep_bits (fun HT_ HW_ => ?_)
 replace BX := Sd.mk (blk_drew BX.out)
 replace BR := Sd.mk (blk_drew BR.out)
 replace BT := Sd.mk (blk_drew BT.out)
 replace HX := Sd.mk (Kd.C_drew HX.out)
 replace HR := Sd.mk (Kd.C_drew HR.out)
 replace HB := Sd.mk (below_drew1 HB.out)
 generalize WX.drew = W0 at BX BR BT HX HR HB hHeld ⊢
 refine tQ 0 (some 5) (bA 9 1) ?_
 refine tQ 1 (some 6) (bA 9 3) ?_
 refine tQ 3 (some 8) (bA 9 11) ?_
 refine pQ 4 (some 9) (bA 9 27) ?_
 refine tQ 5 (some 10) (bA 9 59) ?_
 refine pQ 6 (some 11) (bA 9 123) ?_
 refine one_ (i := 2) (N := some 7) (bA 9 127) rfl rfl (one_of HT_.out (by kernel_rfl)) (by decide) (fun K hK => ?_)
 refine goes_ Tryz.func137 (by kernel_rfl) rfl (#[.agg #[.slice Ax x.f0.length cx, .int .i64 x.f1]] ++ #[.slice A1 r.length c1]) (by rfl) rfl rfl (by (try simp only [List.map_toArray, List.map_cons, List.map_nil]); first | done | rfl) ?_
 refine (value_calls x r Ax A1 cx c1 W0 HX.out HCX.out HR.out HC1.out H1.out H2.out).mono ?_
 rintro e w4 ⟨rfl, hb⟩
 refine ⟨_, rfl, ?_⟩
 replace BX := Sd.mk (blk_below BX.out hb)
 replace BR := Sd.mk (blk_below BR.out hb)
 replace BT := Sd.mk (blk_below BT.out hb)
 replace HB := Sd.mk (below_step HB.out hb)
 clear hb HX HR
 refine hK.out _ _ ⟨(blk_cell BX.out 0).trans rfl, (blk_cell BX.out 1).trans rfl, (blk_cell BR.out 0).trans rfl, (blk_cell BT.out 0).trans rfl⟩ (fun hHeld => ?_)
 clear hK K
 refine norm_ (a' := ?_) ?_ ?_
 rotate_left
 ·show Act.put _ (some 7) _ = _
  exact tP
 refine pQ 7 (some 12) (bA 9 255) ?_
 refine pQ 8 (some 4) (bA 9 511) ?_
 refine done_ (done_of HT_.out (by kernel_rfl)) ?_
 go_wp2
 go_ret
 subst hv
 exact ⟨by first | rfl | simp, HB.out⟩
def TellsL (g : Nat) (lb : Array Value) (x : S168) (b : Bool) (w : World) : Prop :=
 ∀ W, Below w.heap.size w W → ∀ (Ax : Option Addr) (cx : Nat), Kd.C (Kd.int .i64) W Ax x.f0.length x.f0 → x.f0.length ≤ cx →
  Calls Tryz.prog g (#[.agg #[.slice Ax x.f0.length cx, .int .i64 x.f1]] ++ lb) W fun e W' => e = .returned (.bool b) ∧ Below W.heap.size W W'
theorem indexFunc_line (p : S168 → Bool) (g : Nat) (lb : Array Value) (eg : ∀ args w, (callFunc g args).run Tryz.prog w = .ok (.enter g args) w)
  (A : Option Addr) (c : Nat) (l : List S168) (w : World) (hr : Kd.C k168 w A l.length l) (hg : ∀ x ∈ l, TellsL g lb x (p x) w) :
  Calls Tryz.prog 197 #[.slice A l.length c, .func (.func g) #[] lb] w fun e w' => e = .returned (.int .i64 (idxFrom p l 0)) ∧ Below w.heap.size w w' := by
 have HR := Sd.mk hr
 have HG := Sd.mk hg
 have hmax := Kd.C_max hr
 clear hr hg
 go_enter Tryz.func197, Tryz.ntmps197
 go_wp2
 go_loopg [5, 8] l.length (fun kq _ v8 w' => ∃ k : Nat, v8 = .int .i64 k ∧ k ≤ l.length ∧ Sd (l.length - k ≤ kq) ∧ Sd (idxFrom p l 0 = idxFrom p (l.drop k) k) ∧ Sd (Below w.heap.size w w'))
 case atStart => exact ⟨0, rfl, Nat.zero_le _, ⟨by omega⟩, ⟨rfl⟩, ⟨Below.refl _ _⟩⟩
 case round =>
  obtain ⟨k, rfl, hk, HM, HI, HB⟩ := hrel
  by_cases hlt : k < l.length
  ·have hltz : (k : Int) < (l.length : Int) := by omega
   obtain ⟨ad, Ax, cx, e, hc0, hc1, hlx, hix⟩ := at_T168 (Kd.C_below HR.out HB.out) (k : Int) (by omega) hltz
   cases e
   have HD := idxFrom_drop p z168 l k hlt k
   have hx : rd_T168 l (k : Int) = l.getD k z168 := by simp [rd_T168]
   have hmem : l.getD k z168 ∈ l := by
    rw [List.getD_eq_getElem?_getD, List.getElem?_eq_getElem hlt]; exact List.getElem_mem hlt
   rw [hx] at hc0 hc1 hlx hix
   have hcall := HG.out _ hmem _ HB.out Ax cx hix hlx
   generalize hxx : l.getD k z168 = x at hc0 hc1 hcall HD
   have HX := Sd.mk hxx
   have HD' := Sd.mk HD
   clear hxx HD hx hmem hlx hix
   simp only [Int.toNat_natCast] at hc0 hc1
   cases hp : p x with
   | true =>
    rw [hp] at hcall
    have HP := Sd.mk hp
    clear hp
    go_wp2_with (go_at_fn g; refine (hcall).mono ?_; rintro e w1 ⟨rfl, hb1⟩)
    go_ret
    exact ⟨by rw [HI.out, HD'.out, if_pos HP.out]; rfl, below_trans' HB.out hb1⟩
   | false =>
    rw [hp] at hcall
    have HP := Sd.mk hp
    clear hp
    go_wp2_with (go_at_fn g; refine (hcall).mono ?_; rintro e w1 ⟨rfl, hb1⟩)
    go_roundg (l.length - (k + 1))
    case measure => have := HM.out; omega
    case rel =>
     exact ⟨k + 1, by go_num, by omega, ⟨by omega⟩, ⟨by rw [HI.out, HD'.out, if_neg (by rw [HP.out]; simp)]; simp⟩, ⟨below_trans' HB.out hb1⟩⟩
  ·have hltz : ¬ (k : Int) < (l.length : Int) := by omega
   go_wp2
   go_ret
   exact ⟨by rw [HI.out, List.drop_eq_nil_of_le (by omega)]; rfl, HB.out⟩
theorem containsFunc_line (p : S168 → Bool) (g : Nat) (lb : Array Value) (eg : ∀ args w, (callFunc g args).run Tryz.prog w = .ok (.enter g args) w)
  (A : Option Addr) (c : Nat) (l : List S168) (w : World) (hr : Kd.C k168 w A l.length l) (hg : ∀ x ∈ l, TellsL g lb x (p x) w) :
  Calls Tryz.prog 135 #[.slice A l.length c, .func (.func g) #[] lb] w fun e w' => e = .returned (.bool (l.any p)) ∧ Below w.heap.size w w' := by
 have H := indexFunc_line p g lb eg A c l w hr hg
 have HA := Sd.mk (idxFrom_any p l 0 (Int.le_refl 0))
 clear hr hg eg
 go_enter Tryz.func135, Tryz.ntmps135
 go_wp2_with (go_at_call 197; refine H.mono ?_; rintro e w1 ⟨rfl, hb1⟩)
 go_ret
 exact ⟨by rw [← HA.out]; rfl, hb1⟩
def x_keeps.f (l : List S168) (r : List Int) (t : Int) : Option Bool :=
 if (l.all fun x => decide (x.f0.length ≤ r.length) && decide (x.f0.length ≤ 1000000)) = true then some (!(l.any fun x => decide (wrap64 (t * x.f1) < vW r x.f0 x.f0.length))) else none
theorem x_keeps.calls (A0 : Option Addr) (c0 : Nat) (l0 : List S168) (A1 : Option Addr) (c1 : Nat) (l1 : List Int) (a2 : Int) (r : Bool) (w : World) (hr0 : Kd.C k168 w A0 l0.length l0) (hc0 : l0.length ≤ c0) (hr1 : Kd.C (Kd.int .i64) w A1 l1.length l1) (hc1 : l1.length ≤ c1) (h : x_keeps.f l0 l1 a2 = some r) :
  Calls Tryz.prog 51 #[.slice A0 l0.length c0, .slice A1 l1.length c1, .int .i64 a2] w fun e w' => e = .returned (.bool r) ∧ Below w.heap.size w w' := by
 unfold x_keeps.f at h
 by_cases hall : (l0.all fun x => decide (x.f0.length ≤ l1.length) && decide (x.f0.length ≤ 1000000)) = true
 ·rw [if_pos hall] at h
  obtain rfl := Option.some.inj h
  have hb0 : Below w.heap.size w ((w.alloc (.cells #[.slice A1 l1.length c1] 30)).alloc (.cells #[.int .i64 a2] 3)) := below_alloc (below_alloc (Below.refl _ _) _) _
  have hR : ((w.alloc (.cells #[.slice A1 l1.length c1] 30)).alloc (.cells #[.int .i64 a2] 3)).heap[w.heap.size]? = some (.cells #[.slice A1 l1.length c1] 30 (0, 0)) := blk_alloc (blk_new w _) _
  have hT : ((w.alloc (.cells #[.slice A1 l1.length c1] 30)).alloc (.cells #[.int .i64 a2] 3)).heap[w.heap.size + 1]? = some (.cells #[.int .i64 a2] 3 (0, 0)) := by
   have := blk_new (w.alloc (.cells #[.slice A1 l1.length c1] 30)) (.cells #[.int .i64 a2] 3)
   simpa using this
  have hgo := containsFunc_line (fun x => decide (wrap64 (a2 * x.f1) < vW l1 x.f0 x.f0.length)) 136 #[.pointer (some ⟨w.heap.size, 0, none⟩), .pointer (some ⟨w.heap.size + 1, 0, none⟩)] (enters_of Tryz.func136 (by kernel_rfl) rfl) A0 c0 l0 _ (Kd.C_below hr0 hb0) (fun x hx W hW Ax cx hix hlx => by
   have hh := List.all_eq_true.1 hall x hx
   simp only [Bool.and_eq_true, decide_eq_true_eq] at hh
   exact k110_calls x l1 Ax A1 cx c1 w.heap.size (w.heap.size + 1) a2 W hix hlx (Kd.C_below (Kd.C_below hr1 hb0) hW) hc1 hh.1 hh.2 (blk_below hR hW) (blk_below hT hW))
  have HB := Sd.mk hb0
  clear hb0 hR hT hr0 hr1 hc0 hc1 h hall
  go_enter Tryz.func51, Tryz.ntmps51
  go_wp2_with (go_at_call 135; refine hgo.mono ?_; rintro e w1 ⟨rfl, hb1⟩)
  go_ret
  exact ⟨by first | rfl | simp, below_trans' HB.out hb1⟩
 ·rw [if_neg hall] at h; cases h
end
section
open Go.RowKit Go.Proofs.YtljfljekcpdpiaaGreatW.PrintWords Go.Proofs.YtljfljekcpdpiaaGreatW.PrintLast Go.Proofs.YtljfljekcpdpiaaGreatW.PrintMore
def b_Passes.f (k : Nat) (l0_0 : List ByteArray) (l0_1 : List (S70)) (l0_2 : List (S27)) (l0_3 : List (S89)) (a0_4 : Int) (a0_5 : Int) (a0_6 : Int) (l1 : List Int) : Option (Bool × Int) := (b_asked.f k l0_0 l0_1 l0_2 l0_3 a0_4 a0_5 a0_6 l1).bind fun t221 => (if t221 = 0 then ((x_lines.f l0_0 l0_1 l0_2 l0_3 a0_4 a0_5 a0_6).bind fun t222 => ((x_keeps.f t222 l1 1).bind fun t225 => (some (t225, 0)))) else (some (false, t221)))
theorem b_Passes.calls (k : Nat) (A0_0 : Option Addr) (c0_0 : Nat) (l0_0 : List ByteArray) (A0_1 : Option Addr) (c0_1 : Nat) (l0_1 : List (S70)) (A0_2 : Option Addr) (c0_2 : Nat) (l0_2 : List (S27)) (A0_3 : Option Addr) (c0_3 : Nat) (l0_3 : List (S89)) (a0_4 : Int) (a0_5 : Int) (a0_6 : Int) (A1 : Option Addr) (c1 : Nat) (l1 : List Int) (r1 : Bool) (r2 : Int) (w : World) (hr0_0 : Kd.C Kd.string w A0_0 l0_0.length l0_0) (hc0_0 : l0_0.length ≤ c0_0) (hr0_1 : Kd.C k70 w A0_1 l0_1.length l0_1) (hc0_1 : l0_1.length ≤ c0_1) (hr0_2 : Kd.C k27 w A0_2 l0_2.length l0_2) (hc0_2 : l0_2.length ≤ c0_2) (hr0_3 : Kd.C k89 w A0_3 l0_3.length l0_3) (hc0_3 : l0_3.length ≤ c0_3) (hr1 : Kd.C (Kd.int .i64) w A1 l1.length l1) (hc1 : l1.length ≤ c1) (h : b_Passes.f k l0_0 l0_1 l0_2 l0_3 a0_4 a0_5 a0_6 l1 = some (r1, r2)) :
  Calls Tryz.prog 13 #[.agg #[.slice A0_0 l0_0.length c0_0, .slice A0_1 l0_1.length c0_1, .slice A0_2 l0_2.length c0_2, .slice A0_3 l0_3.length c0_3, .int .i64 a0_4, .int .i64 a0_5, .int .i64 a0_6], .slice A1 l1.length c1] w fun e w' => e = .returned (.tuple #[.bool r1, .int .i64 r2]) ∧ Below w.heap.size w w' := by
 have hu29 := Tryz.underlying29; have HR0_0 := Sd.mk hr0_0; have HC0_0 := Sd.mk hc0_0; clear hr0_0 hc0_0; have HR0_1 := Sd.mk hr0_1; have HC0_1 := Sd.mk hc0_1; clear hr0_1 hc0_1; have HR0_2 := Sd.mk hr0_2; have HC0_2 := Sd.mk hc0_2; clear hr0_2 hc0_2; have HR0_3 := Sd.mk hr0_3; have HC0_3 := Sd.mk hc0_3; clear hr0_3 hc0_3; have HR1 := Sd.mk hr1; have HC1 := Sd.mk hc1; clear hr1 hc1; have HB := Sd.mk (Below.refl w.heap.size w)
 have H : ((b_asked.f k l0_0 l0_1 l0_2 l0_3 a0_4 a0_5 a0_6 l1).bind fun t221 => (if t221 = 0 then ((x_lines.f l0_0 l0_1 l0_2 l0_3 a0_4 a0_5 a0_6).bind fun t222 => ((x_keeps.f t222 l1 1).bind fun t225 => (some (t225, 0)))) else (some (false, t221)))) = some (r1, r2) := h
 clear h; replace H := Option.bind_eq_some_iff.mp H; obtain ⟨t221, A30, H⟩ := H
 try dsimp only at H
 have A3 := Sd.mk A30; clear A30
 by_cases c4 : t221 = 0
 ·rw [if_pos c4] at H
  have c4b0 : (t221 == 0) = true := beq_iff_eq.mpr c4
  have c4b1 : (t221 != 0) = false := bne_eq_false_iff_eq.mpr c4
  clear c4; replace H := Option.bind_eq_some_iff.mp H; obtain ⟨t222, A50, H⟩ := H
  try dsimp only at H
  have A5 := Sd.mk A50; clear A50; replace H := Option.bind_eq_some_iff.mp H; obtain ⟨t225, A60, H⟩ := H
  try dsimp only at H
  have A6 := Sd.mk A60; clear A60
  simp only [Option.some.injEq, Prod.mk.injEq] at H
  obtain ⟨rfl, rfl⟩ := H
  go_enter Tryz.func13, Tryz.ntmps13
  go_wp2_with (first | ((with_reducible refine gate_dst (N := 2) rfl ?_); refine box_event ?hg (N := 2) ?hd (cs := #[.slice A0_0 l0_0.length c0_0, .slice A0_1 l0_1.length c0_1, .slice A0_2 l0_2.length c0_2, .slice A0_3 l0_3.length c0_3, .int .i64 a0_4, .int .i64 a0_5, .int .i64 a0_6]) (t := 29) ?hr ?_; (case hd => rfl); (case hg => rfl); (case hr => exact tG); intro gb220 hg w7 hbox hb; have BK220 := Sd.mk (hbox); have GW220 := Sd.mk (bSz hg (bBl HB.out)); have GE220 := Sd.mk (bSz hg (bBl HB.out)); replace HB := Sd.mk (below_step (bBl HB.out) hb); clear hb hbox hg; obtain ⟨u8_0, u8_1, u8_2, u8_3, u8_4, u8_5, u8_6, o8_0, o8_1, o8_2, o8_3, o8_4, o8_5, o8_6⟩ := bc7 (w := w7) BK220.out) | ((with_reducible refine gate_callee (f := 50) rfl ?_); refine goesL_ (some 9) rfl rfl Tryz.func50 (by kernel_rfl) rfl #[.agg #[.slice A0_0 l0_0.length c0_0, .slice A0_1 l0_1.length c0_1, .slice A0_2 l0_2.length c0_2, .slice A0_3 l0_3.length c0_3, .int .i64 a0_4, .int .i64 a0_5, .int .i64 a0_6], .slice A1 l1.length c1] rfl tM ?_; (with_reducible refine (b_asked.calls k _ _ l0_0 _ _ l0_1 _ _ l0_2 _ _ l0_3 a0_4 a0_5 a0_6 _ _ l1 t221 _ (cS (Kd.C_below HR0_0.out HB.out)) HC0_0.out (cS (Kd.C_below HR0_1.out HB.out)) HC0_1.out (cS (Kd.C_below HR0_2.out HB.out)) HC0_2.out (cS (Kd.C_below HR0_3.out HB.out)) HC0_3.out (cS (Kd.C_below HR1.out HB.out)) HC1.out A3.out).mono ?_); rintro e w9 ⟨rfl, hb⟩; refine ⟨_, rfl, ?_⟩; replace BK220 := Sd.mk (blk_below (bkA BK220.out) hb); replace HB := Sd.mk (below_step (bBl HB.out) hb); (try clear hb); (try clear hb2); (try clear hk); (try clear hi); obtain ⟨u10_0, u10_1, u10_2, u10_3, u10_4, u10_5, u10_6, o10_0, o10_1, o10_2, o10_3, o10_4, o10_5, o10_6⟩ := bc7 (w := w9) BK220.out) | ((with_reducible refine gate_callee (f := 52) rfl ?_); refine goesL_ (some 14) rfl rfl Tryz.func52 (by kernel_rfl) rfl #[.agg #[.slice A0_0 l0_0.length c0_0, .slice A0_1 l0_1.length c0_1, .slice A0_2 l0_2.length c0_2, .slice A0_3 l0_3.length c0_3, .int .i64 a0_4, .int .i64 a0_5, .int .i64 a0_6]] rfl tM ?_; (with_reducible refine (x_lines.calls _ _ l0_0 _ _ l0_1 _ _ l0_2 _ _ l0_3 a0_4 a0_5 a0_6 t222 _ (cS (Kd.C_below HR0_0.out HB.out)) HC0_0.out (cS (Kd.C_below HR0_1.out HB.out)) HC0_1.out (cS (Kd.C_below HR0_2.out HB.out)) HC0_2.out (cS (Kd.C_below HR0_3.out HB.out)) HC0_3.out A5.out).mono ?_); rintro e w11 ⟨v223, rfl, ho0, hb⟩; refine ⟨_, rfl, ?_⟩; have HO224 := Sd.mk (Kd.R_lower ho0 (below_size (bBl HB.out))); replace BK220 := Sd.mk (blk_below (bkA BK220.out) hb); replace HB := Sd.mk (below_step (bBl HB.out) hb); (try clear hb); (try clear hb2); (try clear hk); (try clear hi); (try clear ho0); obtain ⟨Ao12, co12, eo12⟩ := Kd.R_slice HO224.out; subst eo12) | ((with_reducible refine gate_callee (f := 51) rfl ?_); refine goesL_ (some 16) rfl rfl Tryz.func51 (by kernel_rfl) rfl #[.slice Ao12 t222.length co12, .slice A1 l1.length c1, .int .i64 1] rfl tM ?_; (with_reducible refine (x_keeps.calls _ _ t222 _ _ l1 1 t225 _ (cS ((Kd.R_reads' HO224.out).2.2)) ((Kd.R_reads' HO224.out).2.1) (cS (Kd.C_below HR1.out HB.out)) HC1.out A6.out).mono ?_); rintro e w13 ⟨rfl, hb⟩; refine ⟨_, rfl, ?_⟩; replace HO224 := Sd.mk (Kd.R_below (by (with_reducible repeat (first | apply Kd.R_alloc | apply Kd.R_drewN | apply Kd.R_drew)); exact HO224.out) hb); replace BK220 := Sd.mk (blk_below (bkA BK220.out) hb); replace HB := Sd.mk (below_step (bBl HB.out) hb); (try clear hb); (try clear hb2); (try clear hk); (try clear hi)))
  go_ret2
  exact ⟨tE, bBl HB.out⟩
 ·rw [if_neg c4] at H
  have c4b0 : (t221 == 0) = false := beq_eq_false_iff_ne.mpr c4
  have c4b1 : (t221 != 0) = true := bne_iff_ne.mpr c4
  simp only [Option.some.injEq, Prod.mk.injEq] at H
  obtain ⟨rfl, rfl⟩ := H
  go_enter Tryz.func13, Tryz.ntmps13
  go_wp2_with (first | ((with_reducible refine gate_dst (N := 2) rfl ?_); refine box_event ?hg (N := 2) ?hd (cs := #[.slice A0_0 l0_0.length c0_0, .slice A0_1 l0_1.length c0_1, .slice A0_2 l0_2.length c0_2, .slice A0_3 l0_3.length c0_3, .int .i64 a0_4, .int .i64 a0_5, .int .i64 a0_6]) (t := 29) ?hr ?_; (case hd => rfl); (case hg => rfl); (case hr => exact tG); intro gb220 hg w14 hbox hb; have BK220 := Sd.mk (hbox); have GW220 := Sd.mk (bSz hg (bBl HB.out)); have GE220 := Sd.mk (bSz hg (bBl HB.out)); replace HB := Sd.mk (below_step (bBl HB.out) hb); clear hb hbox hg; obtain ⟨u15_0, u15_1, u15_2, u15_3, u15_4, u15_5, u15_6, o15_0, o15_1, o15_2, o15_3, o15_4, o15_5, o15_6⟩ := bc7 (w := w14) BK220.out) | ((with_reducible refine gate_callee (f := 50) rfl ?_); refine goesL_ (some 9) rfl rfl Tryz.func50 (by kernel_rfl) rfl #[.agg #[.slice A0_0 l0_0.length c0_0, .slice A0_1 l0_1.length c0_1, .slice A0_2 l0_2.length c0_2, .slice A0_3 l0_3.length c0_3, .int .i64 a0_4, .int .i64 a0_5, .int .i64 a0_6], .slice A1 l1.length c1] rfl tM ?_; (with_reducible refine (b_asked.calls k _ _ l0_0 _ _ l0_1 _ _ l0_2 _ _ l0_3 a0_4 a0_5 a0_6 _ _ l1 t221 _ (cS (Kd.C_below HR0_0.out HB.out)) HC0_0.out (cS (Kd.C_below HR0_1.out HB.out)) HC0_1.out (cS (Kd.C_below HR0_2.out HB.out)) HC0_2.out (cS (Kd.C_below HR0_3.out HB.out)) HC0_3.out (cS (Kd.C_below HR1.out HB.out)) HC1.out A3.out).mono ?_); rintro e w16 ⟨rfl, hb⟩; refine ⟨_, rfl, ?_⟩; replace BK220 := Sd.mk (blk_below (bkA BK220.out) hb); replace HB := Sd.mk (below_step (bBl HB.out) hb); (try clear hb); (try clear hb2); (try clear hk); (try clear hi)))
  go_ret2
  exact ⟨tE, bBl HB.out⟩
end
section
open Go.RowKit Go.Proofs.YtljfljekcpdpiaaGreatW.PrintWords Go.Proofs.YtljfljekcpdpiaaGreatW.PrintLast Go.Proofs.YtljfljekcpdpiaaGreatW.PrintMore
theorem rd_map (mt : List S70) (fc : S70 → Int) (j : Nat) (h : j < mt.length) : rd (mt.map fc) (j : Int) = fc (rd_T70 mt (j : Int)) := by
  simp [rd, rd_T70, List.getD, h]
structure LineOk (n : Nat) (x : S168) : Prop where
  len : x.f0.length = n
  at_ : ∀ j : Nat, j < n → -50000000000000 ≤ rd x.f0 (j : Int) ∧ rd x.f0 (j : Int) ≤ 50000000000000
  b0 : x.f1 ≤ 0
  b1 : -10000000 ≤ x.f1
theorem line_ok {mt : List S70} {fc : S70 → Int} {b : Int} (h : ∀ i : Nat, i < mt.length → -50000000000000 ≤ fc (rd_T70 mt (i : Int)) ∧ fc (rd_T70 mt (i : Int)) ≤ 50000000000000) (h0 : b ≤ 0) (h1 : -10000000 ≤ b) : LineOk mt.length ⟨mt.map fc, b⟩ := by
  refine ⟨List.length_map _, fun j hj => ?_, h0, h1⟩
  show -50000000000000 ≤ rd (mt.map fc) (j : Int) ∧ rd (mt.map fc) (j : Int) ≤ 50000000000000
  rw [rd_map mt fc j hj]
  exact h j hj
theorem gTS_bound {df : Int → Int} {l : List S27} (H : GOk l) (C : DfOk df l.length) : -50000000000000 ≤ gTS df l l.length ∧ gTS df l l.length ≤ 50000000000000 := by
  have h := sumTo_bound (f := gT df l) (M := 3600000000000) (n := l.length) (gT_bound H C) l.length (Nat.le_refl _)
  have hn := H.n12
  unfold gTS
  omega
section
variable {o : List ByteArray} {mt : List S70} {s : List S27} {p : List S89} {a4 a5 a6 : Int}
theorem pair_ok (H : BatchOk o mt s p a4 a5 a6) {j : Nat} (hj : j < s.length + p.length) : ∀ x ∈ pairL mt s p j, LineOk mt.length x := by
  have T := tg_ok H hj
  have C := coef_cfok H hj
  intro x hx
  simp only [pairL, List.mem_cons, List.not_mem_nil, or_false] at hx
  rcases hx with rfl | rfl
  · refine line_ok (fun i hi => ?_) (by omega) (by omega)
    refine gTS_bound (mat_gok H hi) ⟨fun j' hj' => ?_⟩
    rw [(H.mats i hi).len] at hj'
    have := C.at_ j' hj'
    omega
  · refine line_ok (fun i hi => ?_) (by omega) (by omega)
    refine gTS_bound (mat_gok H hi) ⟨fun j' hj' => ?_⟩
    rw [(H.mats i hi).len] at hj'
    have := C.at_ j' hj'
    omega
theorem head_ok (H : BatchOk o mt s p a4 a5 a6) : ∀ n, n ≤ s.length + p.length → ∀ x ∈ headL mt s p a6 n, LineOk mt.length x := by
  intro n
  induction n with
  | zero =>
    intro _ x hx
    simp only [headL, List.mem_cons, List.not_mem_nil, or_false] at hx
    subst hx
    have hw := H.wanted
    refine line_ok (fun i hi => ?_) (by omega) (by omega)
    have := lowM_bound (mat_gok H hi)
    omega
  | succ n ih =>
    intro hn x hx
    simp only [headL, List.mem_append] at hx
    rcases hx with hx | hx
    · exact ih (by omega) x hx
    · exact pair_ok H (by omega) x hx
theorem red_ok (H : BatchOk o mt s p a4 a5 a6) {u : Int} (hu : -10000 ≤ u ∧ u ≤ 10000) {i : Nat} (hi : i < mt.length) :
    (-50000000000000 ≤ rUp u (rd_T70 mt (i : Int)) ∧ rUp u (rd_T70 mt (i : Int)) ≤ 50000000000000) ∧ -50000000000000 ≤ rDn u (rd_T70 mt (i : Int)) ∧ rDn u (rd_T70 mt (i : Int)) ≤ 50000000000000 := by
  have hl := lowM_bound (mat_gok H hi)
  have hr := (H.mats i hi).redox
  have h1 := mulr hu.1 hu.2 hl.1 (Int.le_trans hl.2.1 hl.2.2)
  have h2 := mulr hu.1 hu.2 (Int.le_trans hl.1 hl.2.1) hl.2.2
  unfold rUp rDn mn mx
  constructor <;> split <;> omega
theorem lines_ok (H : BatchOk o mt s p a4 a5 a6) : ∀ x ∈ linesV mt s p a4 a5 a6, LineOk mt.length x := by
  have hr := H.redox
  intro x hx
  simp only [linesV, List.mem_append, List.mem_cons, List.not_mem_nil, or_false] at hx
  rcases hx with hx | rfl | rfl
  · exact head_ok H _ (Nat.le_refl _) x hx
  · exact line_ok (fun i hi => (red_ok H (by omega) hi).1) (by omega) (by omega)
  · exact line_ok (fun i hi => (red_ok H (by omega) hi).2) (by omega) (by omega)
end
def tot (r fs : List Int) (i : Nat) : Int := sumTo (fun j => rd r (j : Int) * rd fs (j : Int)) i
theorem prod_bound {a b : Int} (h0 : 0 ≤ a) (h1 : a ≤ 10000) (h2 : -50000000000000 ≤ b) (h3 : b ≤ 50000000000000) : -500000000000000000 ≤ a * b ∧ a * b ≤ 500000000000000000 := by
  have e1 := Int.mul_le_mul_of_nonneg_left h2 h0
  have e2 := Int.mul_le_mul_of_nonneg_left h3 h0
  omega
theorem vW_tot {mt : List S70} {r : List Int} {x : S168} (hm : mt.length ≤ 12) (hr : RecOk mt r) (hx : LineOk mt.length x) : ∀ i, i ≤ mt.length → vW r x.f0 i = tot r x.f0 i := by
  have hb : ∀ j, j < mt.length → -500000000000000000 ≤ rd r (j : Int) * rd x.f0 (j : Int) ∧ rd r (j : Int) * rd x.f0 (j : Int) ≤ 500000000000000000 := fun j hj => prod_bound (hr.kilos j hj).1 (hr.kilos j hj).2 (hx.at_ j hj).1 (hx.at_ j hj).2
  intro i
  induction i with
  | zero => intro _; rfl
  | succ i ih =>
    intro hi
    have h1 := hb i (by omega)
    have h2 := sumTo_bound (f := fun j => rd r (j : Int) * rd x.f0 (j : Int)) (M := 500000000000000000) (n := mt.length) hb i (by omega)
    have h3 := ih (by omega)
    unfold tot at *
    simp only [vW, sumTo, h3]
    rw [wrap_id (x := rd r (i : Int) * rd x.f0 (i : Int)) (by omega) (by omega), wrap_id (by omega) (by omega)]
theorem not_any_all {α : Type} {l : List α} {f g : α → Bool} (h : ∀ x ∈ l, f x = !(g x)) : (!(l.any f)) = l.all g := by
  induction l with
  | nil => rfl
  | cons x l ih =>
    rw [List.any_cons, List.all_cons, ← ih fun y hy => h y (List.mem_cons_of_mem _ hy), h x List.mem_cons_self]
    cases g x <;> simp
section
variable (o : List ByteArray) (mt : List S70) (s : List S27) (p : List S89) (a4 a5 a6 : Int) (r : List Int)
def passB : Bool := (linesV mt s p a4 a5 a6).all fun x => decide (tot r x.f0 mt.length ≤ x.f1)
theorem keeps_f (H : BatchOk o mt s p a4 a5 a6) (hr : RecOk mt r) : x_keeps.f (linesV mt s p a4 a5 a6) r 1 = some (passB mt s p a4 a5 a6 r) := by
  have L := lines_ok H
  have hm := H.m12
  have hrl := hr.len
  unfold x_keeps.f passB
  rw [if_pos (List.all_eq_true.2 fun x hx => by have h := (L x hx).len; simp only [Bool.and_eq_true, decide_eq_true_eq]; omega)]
  congr 1
  refine not_any_all fun x hx => ?_
  have h := L x hx
  rw [h.len, vW_tot hm hr h mt.length (Nat.le_refl _), wrap_id (x := 1 * x.f1) (by have := h.b0; have := h.b1; omega) (by have := h.b0; omega), Int.one_mul]
  by_cases hc : tot r x.f0 mt.length ≤ x.f1
  · rw [decide_eq_true hc, decide_eq_false (by omega)]; rfl
  · rw [decide_eq_false hc, decide_eq_true (by omega)]; rfl
def PassV : Bool × Int := if askV o mt s p a4 a5 a6 r = 0 then (passB mt s p a4 a5 a6 r, 0) else (false, askV o mt s p a4 a5 a6 r)
theorem ask_check (h : askV o mt s p a4 a5 a6 r = 0) : checkV o mt s p a4 a5 a6 = 0 := by
  unfold askV at h
  by_cases hc : checkV o mt s p a4 a5 a6 = 0
  · exact hc
  · rw [if_neg hc] at h; exact absurd h hc
theorem bPasses : Ev (fun k => b_Passes.f k o mt s p a4 a5 a6 r) (PassV o mt s p a4 a5 a6 r) := by
  unfold b_Passes.f PassV
  refine Ev.bind (basked o mt s p a4 a5 a6 r) ?_
  by_cases h : askV o mt s p a4 a5 a6 r = 0
  · obtain ⟨H, hr⟩ := ask_ok h
    simp only [if_pos h, x_lines.f, if_pos (ask_check o mt s p a4 a5 a6 r h), Option.bind_some, keeps_f o mt s p a4 a5 a6 r H hr]
    exact Ev.const _
  · simp only [if_neg h]; exact Ev.const _
end
end
section
open Go.RowKit Go.Proofs.YtljfljekcpdpiaaGreatW.PrintWords Go.Proofs.YtljfljekcpdpiaaGreatW.PrintLast Go.Proofs.YtljfljekcpdpiaaGreatW.PrintMore
section
variable {o : List ByteArray} {mt : List S70} {s : List S27} {p : List S89} {a4 a5 a6 : Int}
end
structure RowAt (w W : World) (g : Nat) (b : Int) (fl : List Int) : Prop where
 ge : w.heap.size ≤ g
 row : ∃ A c, W.heap[g]? = some (.cells #[.slice A fl.length c, .int .i64 b] 168 (0, 0)) ∧ (Kd.int .i64).R 3 W w.heap.size (fun _ => True) (.slice A fl.length c) fl
theorem RowAt.below {w W W' : World} {g : Nat} {b : Int} {fl : List Int} (h : RowAt w W g b fl) (hb : Below W.heap.size W W') : RowAt w W' g b fl := by
 obtain ⟨A, c, h1, h2⟩ := h.row
 exact ⟨h.ge, A, c, blk_below h1 hb, Kd.R_below h2 hb⟩
structure AllW (w Wc Wf W : World) (cs : Array Value) (okN okL : Nat → Prop) (vF : Value) (forms : List S89) (v7 : Value) (xs : List S168) : Prop where
 below : Below w.heap.size w W
 size : Wf.heap.size ≤ W.heap.size
 box : W.heap[w.heap.size]? = some (.cells cs 29 (0, 0))
 forms : k89.N 89 W Wc.heap.size okN vF forms
 list : k168.R 168 W w.heap.size okL v7 xs
theorem AllW.later {w Wc Wf W W' : World} {cs : Array Value} {okN okL : Nat → Prop} {vF v7 : Value} {forms : List S89} {xs : List S168} (h : AllW w Wc Wf W cs okN okL vF forms v7 xs) (hb : Below W.heap.size W W') : AllW w Wc Wf W' cs okN okL vF forms v7 xs :=
 ⟨below_step h.below hb, Nat.le_trans h.size hb.size, blk_below h.box hb, Kd.N_below h.forms hb, Kd.R_below h.list hb⟩
theorem AllW.set {w Wc Wf W : World} {cs : Array Value} {okN okL : Nat → Prop} {vF v7 : Value} {forms : List S89} {xs : List S168} (h : AllW w Wc Wf W cs okN okL vF forms v7 xs) {g : Nat} (u : Value) (h1 : w.heap.size < g) (h2 : ∀ k, okN k → k ≠ g) (h3 : ∀ k, okL k → k ≠ g) : AllW w Wc Wf (W.setCell ⟨g, 0, none⟩ u) cs okN okL vF forms v7 xs :=
 ⟨below_set h.below (Nat.le_of_lt h1), Nat.le_trans h.size (by simp only [World.size_setCell]; exact Nat.le_refl _), blk_far (p := ⟨g, 0, none⟩) h.box (Nat.ne_of_lt h1) u, Kd.N_far (p := ⟨g, 0, none⟩) h.forms h2 u, Kd.R_far (p := ⟨g, 0, none⟩) h.list h3 u⟩
theorem AllW.grown {w Wc Wf W W' : World} {cs : Array Value} {okN okL : Nat → Prop} {vF v7 : Value} {forms : List S89} {xs : List S168} (h : AllW w Wc Wf W cs okN okL vF forms v7 xs) {row : Option Nat} (hb : Below w.heap.size w W') (hg : W.grownBy W' row) (h1 : some w.heap.size ≠ row) (h2 : ∀ k, okN k → some k ≠ row) (h3 : ∀ k, okL k → some k ≠ row) : AllW w Wc Wf W' cs okN okL vF forms v7 xs :=
 ⟨hb, Nat.le_trans h.size hg.size, blk_grown h.box hg h1, Kd.N_grown h.forms hg h2, Kd.R_grown h.list hg h3⟩
structure RowAt3 (w WB W : World) (g : Nat) (v : Value) (fl : List Int) : Prop where
 ge : WB.heap.size ≤ g
 cell : W.heap[g]? = some (.cells #[v, .int .i64 0] 168 (0, 0))
 row : (Kd.int .i64).R 3 W w.heap.size (fun k => v.ownBlock = some k) v fl
 own : ∀ k, v.ownBlock = some k → WB.heap.size ≤ k
theorem RowAt3.later {w WB W W' : World} {g : Nat} {v : Value} {fl : List Int} (h : RowAt3 w WB W g v fl) (hb : Below W.heap.size W W') : RowAt3 w WB W' g v fl :=
 ⟨h.ge, blk_below h.cell hb, Kd.R_below h.row hb, h.own⟩
theorem RowAt3.grown {w WB W W' : World} {g : Nat} {v : Value} {fl : List Int} (h : RowAt3 w WB W g v fl) {row : Option Nat} (hg : W.grownBy W' row) (h1 : some g ≠ row) (h2 : ∀ k, v.ownBlock = some k → some k ≠ row) : RowAt3 w WB W' g v fl :=
 ⟨h.ge, blk_grown h.cell hg h1, Kd.R_grown h.row hg h2, h.own⟩
theorem RowAt3.set {w WB W : World} {g : Nat} {v : Value} {fl : List Int} (h : RowAt3 w WB W g v fl) {g' : Nat} {cs : Array Value} (u : Value) (h1 : g ≠ g') (h2 : W.heap[g']? = some (.cells cs 168 (0, 0))) : RowAt3 w WB (W.setCell ⟨g', 0, none⟩ u) g v fl :=
 ⟨h.ge, blk_far (p := ⟨g', 0, none⟩) h.cell h1 u, Kd.R_mono (Kd.R_far (p := ⟨g', 0, none⟩) (Kd.R_types (t := 168) h.row h2 (by decide)) (fun _ hk => hk.2) u) (fun _ hk => hk.1), h.own⟩
end
section
open Go.RowKit Go.Proofs.YtljfljekcpdpiaaGreatW.PrintWords Go.Proofs.YtljfljekcpdpiaaGreatW.PrintLast Go.Proofs.YtljfljekcpdpiaaGreatW.PrintMore
theorem max2_mx (k k' : IntKind) (x y : Int) : Builtin.max2 (.int k x) (.int k' y) = pure (.int k (mx x y)) := max2_int k k' x y
theorem min2_mn (k k' : IntKind) (x y : Int) : Builtin.min2 (.int k x) (.int k' y) = pure (.int k (mn x y)) := min2_int k k' x y
theorem mn_in {a b l u : Int} (h1 : l ≤ a ∧ a ≤ u) (h2 : l ≤ b ∧ b ≤ u) : l ≤ mn a b ∧ mn a b ≤ u := by unfold mn; split <;> assumption
attribute [local go_sem] max2_mx min2_mn max_two min_two
end
end Go.Proofs.YtljfljekcpdpiaaGreat.PB
