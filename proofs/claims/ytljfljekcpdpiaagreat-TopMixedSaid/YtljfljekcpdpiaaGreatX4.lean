import Derived.Test.YtljfljekcpdpiaaGreatX3
import Derived.Deep.RegionWith
import Derived.Deep.DeepCutAuto
import Derived.Shelf.AbstractIn
import Derived.Sort.CutIn
import Derived.Shelf.Abstract
import Derived.Laws.EntriesVeiled
set_option linter.unusedVariables false
set_option linter.unusedSimpArgs false
set_option maxHeartbeats 8000000
set_option maxRecDepth 1000000
namespace Go.Proofs.YtljfljekcpdpiaaGreat.PB
open Go.RowKit Go.Proofs.YtljfljekcpdpiaaGreatW.PrintWords Go.Proofs.YtljfljekcpdpiaaGreatW.PrintLast Go.Proofs.YtljfljekcpdpiaaGreatW.PrintMore
section
def b_cost.l0 : Nat → List Int → Int → List (S70) → Int → Int → Option (Int)
 | 0, _, _, _, _, _ => none
 | k + 1, x1, x5, x9, x10, x11 => if x11 < x10 then (if 0 ≤ x11 then (if x11 < (x9.length : Int) then (if x11 < (x1.length : Int) then (b_cost.l0 k x1 (wrap64 (x5 + (wrap64 ((rd x1 x11) * ((rd_T70 x9 x11).f1))))) x9 x10 (wrap64 (x11 + 1))) else (none)) else (none)) else (none)) else (some x5)
def b_cost.f (k : Nat) (l0_0 : List ByteArray) (l0_1 : List (S70)) (l0_2 : List (S27)) (l0_3 : List (S89)) (a0_4 : Int) (a0_5 : Int) (a0_6 : Int) (l1 : List Int) : Option (Int) := b_cost.l0 k l1 0 l0_1 (l0_1.length : Int) 0
theorem b_cost.calls (k : Nat) (A0_0 : Option Addr) (c0_0 : Nat) (l0_0 : List ByteArray) (A0_1 : Option Addr) (c0_1 : Nat) (l0_1 : List (S70)) (A0_2 : Option Addr) (c0_2 : Nat) (l0_2 : List (S27)) (A0_3 : Option Addr) (c0_3 : Nat) (l0_3 : List (S89)) (a0_4 : Int) (a0_5 : Int) (a0_6 : Int) (A1 : Option Addr) (c1 : Nat) (l1 : List Int) (r : Int) (w : World) (hr0_0 : Kd.C Kd.string w A0_0 l0_0.length l0_0) (hc0_0 : l0_0.length ≤ c0_0) (hr0_1 : Kd.C k70 w A0_1 l0_1.length l0_1) (hc0_1 : l0_1.length ≤ c0_1) (hr0_2 : Kd.C k27 w A0_2 l0_2.length l0_2) (hc0_2 : l0_2.length ≤ c0_2) (hr0_3 : Kd.C k89 w A0_3 l0_3.length l0_3) (hc0_3 : l0_3.length ≤ c0_3) (hr1 : Kd.C (Kd.int .i64) w A1 l1.length l1) (hc1 : l1.length ≤ c1) (h : b_cost.f k l0_0 l0_1 l0_2 l0_3 a0_4 a0_5 a0_6 l1 = some r) :
  Calls Tryz.prog 58 #[.agg #[.slice A0_0 l0_0.length c0_0, .slice A0_1 l0_1.length c0_1, .slice A0_2 l0_2.length c0_2, .slice A0_3 l0_3.length c0_3, .int .i64 a0_4, .int .i64 a0_5, .int .i64 a0_6], .slice A1 l1.length c1] w fun e w' => e = .returned (.int .i64 r) ∧ Below w.heap.size w w' := by
 have hbx : (w.alloc (.cells #[.slice A0_0 l0_0.length c0_0, .slice A0_1 l0_1.length c0_1, .slice A0_2 l0_2.length c0_2, .slice A0_3 l0_3.length c0_3, .int .i64 a0_4, .int .i64 a0_5, .int .i64 a0_6] 29)).cell? ⟨w.heap.size, 0 + 1, none⟩ = some (.slice A0_1 l0_1.length c0_1) := (blk_cell (blk_new w (.cells #[.slice A0_0 l0_0.length c0_0, .slice A0_1 l0_1.length c0_1, .slice A0_2 l0_2.length c0_2, .slice A0_3 l0_3.length c0_3, .int .i64 a0_4, .int .i64 a0_5, .int .i64 a0_6] 29)) 1).trans rfl
 have HB0 := Sd.mk (below_alloc (Below.refl w.heap.size w) (.cells #[.slice A0_0 l0_0.length c0_0, .slice A0_1 l0_1.length c0_1, .slice A0_2 l0_2.length c0_2, .slice A0_3 l0_3.length c0_3, .int .i64 a0_4, .int .i64 a0_5, .int .i64 a0_6] 29))
 have HR := Sd.mk hr0_1
 have HR1 := Sd.mk hr1
 have HA0 : Sd (b_cost.l0 k l1 0 l0_1 (l0_1.length : Int) 0 = some r) := ⟨h⟩
 clear hr0_0 hr0_1 hr0_2 hr0_3 hr1 h
 go_enter Tryz.func58, Tryz.ntmps58
 go_wp2
 clear hbx
 generalize w.alloc (.cells #[.slice A0_0 l0_0.length c0_0, .slice A0_1 l0_1.length c0_1, .slice A0_2 l0_2.length c0_2, .slice A0_3 l0_3.length c0_3, .int .i64 a0_4, .int .i64 a0_5, .int .i64 a0_6] 29) = w0 at HB0 ⊢
 go_loopg [5, 11] k (fun kq v5 v11 w' => ∃ (x5 : Int) (x11 : Int), v5 = .int .i64 x5 ∧ v11 = .int .i64 x11 ∧ Sd (b_cost.l0 kq l1 x5 l0_1 (l0_1.length : Int) x11 = some r) ∧ Sd (Below w.heap.size w w'))
 case atStart => exact ⟨0, 0, rfl, rfl, HA0, HB0⟩
 case round =>
  clear HA0 HB0
  obtain ⟨x5, x11, rfl, rfl, HA, HB⟩ := hrel
  cases gk with
  | zero => exact absurd HA.out (by simp [b_cost.l0])
  | succ k1 =>
   have H := HA.out
   clear HA
   simp only [b_cost.l0] at H
   by_cases c5 : x11 < (l0_1.length : Int)
   ·rw [if_pos c5] at H
    by_cases c6 : 0 ≤ x11
    ·rw [if_pos c6, if_pos c5] at H
     by_cases c8 : x11 < (l1.length : Int)
     ·rw [if_pos c8] at H
      have H' := Sd.mk H
      clear H
      obtain ⟨ad, A6, c6', rfl, hx0, hx1, hx2, hx3, hx4, hx5, hx6, hl6, hi6⟩ := at_T70 (Kd.C_below HR.out HB.out) x11 c6 c5
      obtain ⟨ae, rfl, hy0⟩ := Kd.at_int (Kd.C_alloc (Kd.C_below HR1.out HB.out) (.cells #[.string (rd_T70 l0_1 x11).f0, .int .i64 (rd_T70 l0_1 x11).f1, .int .i64 (rd_T70 l0_1 x11).f2, .int .i64 (rd_T70 l0_1 x11).f3, .int .i64 (rd_T70 l0_1 x11).f4, .int .i64 (rd_T70 l0_1 x11).f5, .slice A6 (rd_T70 l0_1 x11).f6.length c6'] 70)) x11 c6 c8
      have BM := (blk_cell (blk_new wr (.cells #[.string (rd_T70 l0_1 x11).f0, .int .i64 (rd_T70 l0_1 x11).f1, .int .i64 (rd_T70 l0_1 x11).f2, .int .i64 (rd_T70 l0_1 x11).f3, .int .i64 (rd_T70 l0_1 x11).f4, .int .i64 (rd_T70 l0_1 x11).f5, .slice A6 (rd_T70 l0_1 x11).f6.length c6'] 70)) 1).trans rfl
      have HB1 := Sd.mk (below_alloc HB.out (.cells #[.string (rd_T70 l0_1 x11).f0, .int .i64 (rd_T70 l0_1 x11).f1, .int .i64 (rd_T70 l0_1 x11).f2, .int .i64 (rd_T70 l0_1 x11).f3, .int .i64 (rd_T70 l0_1 x11).f4, .int .i64 (rd_T70 l0_1 x11).f5, .slice A6 (rd_T70 l0_1 x11).f6.length c6'] 70))
      clear HB hl6 hi6
      have BM' : (wr.alloc (.cells #[.string (rd_T70 l0_1 x11).f0, .int .i64 (rd_T70 l0_1 x11).f1, .int .i64 (rd_T70 l0_1 x11).f2, .int .i64 (rd_T70 l0_1 x11).f3, .int .i64 (rd_T70 l0_1 x11).f4, .int .i64 (rd_T70 l0_1 x11).f5, .slice A6 (rd_T70 l0_1 x11).f6.length c6'] 70)).cell? ⟨wr.heap.size, 1, none⟩ = some (.int .i64 (rd_T70 l0_1 x11).f1) := BM
      clear BM
      go_upto_region 5 with (fail)
      clear hx0 hx1 hx2 hx3 hx4 hx5 hx6
      generalize wr.alloc (.cells #[.string (rd_T70 l0_1 x11).f0, .int .i64 (rd_T70 l0_1 x11).f1, .int .i64 (rd_T70 l0_1 x11).f2, .int .i64 (rd_T70 l0_1 x11).f3, .int .i64 (rd_T70 l0_1 x11).f4, .int .i64 (rd_T70 l0_1 x11).f5, .slice A6 (rd_T70 l0_1 x11).f6.length c6'] 70) = WX at BM' hy0 HB1 ⊢
      generalize wr.heap.size = X at BM' ⊢
      have BM := BM'
      go_quiet (fail)
      go_wp2
      go_roundg k1
      case measure => omega
      case rel => exact ⟨_, _, rfl, rfl, H', ⟨by first | exact HB1.out | exact pw_below_drewN HB1.out _⟩⟩
     ·rw [if_neg c8] at H
      exact absurd H (by simp)
    ·rw [if_neg c6] at H
     exact absurd H (by simp)
   ·rw [if_neg c5] at H
    have c5b0 : decide (x11 < (l0_1.length : Int)) = false := decide_eq_false c5
    clear c5
    obtain rfl := Option.some.inj H
    go_wp2
    go_ret
    exact ⟨rfl, HB.out⟩
end
section
attribute [local go_sem] Oper.semAt_some
def chStep (rt : List Int → Bool) (cst : List Int → Int) (st : List Int × Int × Bool) (r : List Int) : List Int × Int × Bool :=
  if ((!st.2.2 || decide (cst r < st.2.1)) && rt r) = true then (r, cst r, true) else st
def chF (rt : List Int → Bool) (cst : List Int → Int) (rs : Nat → List Int) (k : Nat) : List Int × Int × Bool :=
  ((List.range k).map rs).foldl (chStep rt cst) ([], 0, false)
theorem chF_succ (rt : List Int → Bool) (cst : List Int → Int) (rs : Nat → List Int) (k : Nat) : chF rt cst rs (k + 1) = chStep rt cst (chF rt cst rs k) (rs k) := by
  unfold chF
  rw [List.range_succ, List.map_append, List.foldl_append]
  rfl
structure ChI (R : Nat) (lb bx : Array Value) (s : Nat) (RI : World → Prop) (st : List Int × Int × Bool) (W : World) : Prop where
  b0 : W.heap[s]? = some (.cells bx 29 (0, 0))
  b1 : W.heap[s + 1]? = some (.cells #[.func (.func R) #[] lb] 133 (0, 0))
  b3 : W.heap[s + 3]? = some (.cells #[.int .i64 st.2.1] 3 (0, 0))
  b4 : W.heap[s + 4]? = some (.cells #[.bool st.2.2] 4 (0, 0))
  b5 : W.heap[s + 5]? = some (.cells bx 29 (0, 0))
  b2 : ∃ v, W.heap[s + 2]? = some (.cells #[v] 30 (0, 0)) ∧ (Kd.int .i64).R 3 W s (fun g => s + 9 ≤ g) v st.1
  ri : RI W
theorem ChI.keep {R : Nat} {lb bx : Array Value} {s : Nat} {RI : World → Prop} {st : List Int × Int × Bool} {W W' : World} (hRI : ∀ W W', Below s W W' → RI W → RI W') (h : ChI R lb bx s RI st W) (hb : Below (s + 6) W W') (hk : KeepHi (s + 9) W W') : ChI R lb bx s RI st W' :=
  ⟨(hb.block _ (by omega)).trans h.b0, (hb.block _ (by omega)).trans h.b1, (hb.block _ (by omega)).trans h.b3, (hb.block _ (by omega)).trans h.b4, (hb.block _ (by omega)).trans h.b5,
    let ⟨v, h1, h2⟩ := h.b2; ⟨v, (hb.block _ (by omega)).trans h1, Kd.R_step h2 (fun g hg hl => hk.block g hg hl)⟩, hRI _ _ (hb.mono (by omega)) h.ri⟩
theorem blk_six (w : World) (o1 o2 o3 o4 o5 o6 : Obj) : ((((((w.alloc o1).alloc o2).alloc o3).alloc o4).alloc o5).alloc o6).heap[w.heap.size]? = some o1 ∧ ((((((w.alloc o1).alloc o2).alloc o3).alloc o4).alloc o5).alloc o6).heap[w.heap.size + 1]? = some o2 ∧ ((((((w.alloc o1).alloc o2).alloc o3).alloc o4).alloc o5).alloc o6).heap[w.heap.size + 2]? = some o3 ∧ ((((((w.alloc o1).alloc o2).alloc o3).alloc o4).alloc o5).alloc o6).heap[w.heap.size + 3]? = some o4 ∧ ((((((w.alloc o1).alloc o2).alloc o3).alloc o4).alloc o5).alloc o6).heap[w.heap.size + 4]? = some o5 ∧ ((((((w.alloc o1).alloc o2).alloc o3).alloc o4).alloc o5).alloc o6).heap[w.heap.size + 5]? = some o6 ∧ ((((((w.alloc o1).alloc o2).alloc o3).alloc o4).alloc o5).alloc o6).heap.size = w.heap.size + 6 ∧ Below w.heap.size w ((((((w.alloc o1).alloc o2).alloc o3).alloc o4).alloc o5).alloc o6) := by
  have a1 := blk_new w o1
  have a2 := blk_new (w.alloc o1) o2
  have a3 := blk_new ((w.alloc o1).alloc o2) o3
  have a4 := blk_new (((w.alloc o1).alloc o2).alloc o3) o4
  have a5 := blk_new ((((w.alloc o1).alloc o2).alloc o3).alloc o4) o5
  have a6 := blk_new (((((w.alloc o1).alloc o2).alloc o3).alloc o4).alloc o5) o6
  simp only [World.size_alloc] at a2 a3 a4 a5 a6
  exact ⟨blk_alloc (blk_alloc (blk_alloc (blk_alloc (blk_alloc a1 _) _) _) _) _, blk_alloc (blk_alloc (blk_alloc (blk_alloc a2 _) _) _) _, blk_alloc (blk_alloc (blk_alloc a3 _) _) _, blk_alloc (blk_alloc a4 _) _, blk_alloc a5 _, a6, by simp only [World.size_alloc], below_alloc (below_alloc (below_alloc (below_alloc (below_alloc (below_alloc (Below.refl _ _) _) _) _) _) _) _⟩
theorem ChI.kept {R : Nat} {lb bx : Array Value} {s : Nat} {RI : World → Prop} {st : List Int × Int × Bool} {W W' : World} (h : ChI R lb bx s RI st W) (hk : KeepHi s W W') (hri : RI W') : ChI R lb bx s RI st W' :=
  ⟨(hk.block _ (by omega) (blk_lt h.b0)).trans h.b0, (hk.block _ (by omega) (blk_lt h.b1)).trans h.b1, (hk.block _ (by omega) (blk_lt h.b3)).trans h.b3, (hk.block _ (by omega) (blk_lt h.b4)).trans h.b4, (hk.block _ (by omega) (blk_lt h.b5)).trans h.b5,
    let ⟨v, h1, h2⟩ := h.b2; ⟨v, (hk.block _ (by omega) (blk_lt h1)).trans h1, Kd.R_step h2 (fun g hg hl => hk.block g (by omega) hl)⟩, hri⟩
theorem ChI.store {R : Nat} {lb bx : Array Value} {s : Nat} {RI : World → Prop} {st : List Int × Int × Bool} {W : World} (hRI : ∀ W W', Below s W W' → RI W → RI W') (h : ChI R lb bx s RI st W) {v : Value} {r : List Int} (hv : (Kd.int .i64).R 3 W s (fun g => s + 9 ≤ g) v r) (n : Int) :
    ChI R lb bx s RI (r, n, true) (((W.setCell ⟨s + 2, 0, none⟩ v).setCell ⟨s + 3, 0, none⟩ (.int .i64 n)).setCell ⟨s + 4, 0, none⟩ (.bool true)) := by
  obtain ⟨v0, h2, _⟩ := h.b2
  exact ⟨blk_far (blk_far (blk_far h.b0 (p := ⟨s + 2, 0, none⟩) (by simp) _) (p := ⟨s + 3, 0, none⟩) (by simp) _) (p := ⟨s + 4, 0, none⟩) (by simp) _,
    blk_far (blk_far (blk_far h.b1 (p := ⟨s + 2, 0, none⟩) (by simp) _) (p := ⟨s + 3, 0, none⟩) (by simp) _) (p := ⟨s + 4, 0, none⟩) (by simp) _,
    blk_far (blk_put (blk_far h.b3 (p := ⟨s + 2, 0, none⟩) (by simp) _) 0 _ rfl) (p := ⟨s + 4, 0, none⟩) (by simp) _,
    blk_put (blk_far (blk_far h.b4 (p := ⟨s + 2, 0, none⟩) (by simp) _) (p := ⟨s + 3, 0, none⟩) (by simp) _) 0 _ rfl,
    blk_far (blk_far (blk_far h.b5 (p := ⟨s + 2, 0, none⟩) (by simp) _) (p := ⟨s + 3, 0, none⟩) (by simp) _) (p := ⟨s + 4, 0, none⟩) (by simp) _,
    ⟨v, blk_far (blk_far (blk_put h2 0 _ rfl) (p := ⟨s + 3, 0, none⟩) (by simp) _) (p := ⟨s + 4, 0, none⟩) (by simp) _, Kd.R_far (p := ⟨s + 4, 0, none⟩) (Kd.R_far (p := ⟨s + 3, 0, none⟩) (Kd.R_far (p := ⟨s + 2, 0, none⟩) hv (fun k hk => by simp; omega) _) (fun k hk => by simp; omega) _) (fun k hk => by simp; omega) _⟩,
    hRI _ _ ((((Below.refl _ _).setCell (p := ⟨s + 2, 0, none⟩) (by simp) _).setCell (p := ⟨s + 3, 0, none⟩) (by simp) _).setCell (p := ⟨s + 4, 0, none⟩) (by simp) _) h.ri⟩
theorem setCell_id {W : World} {g : Nat} {t : TypeId} {cs : Array Value} (h : W.heap[g]? = some (.cells cs t (0, 0))) (i : Nat) {u : Value} (hu : cs[i]? = some u) : W.setCell ⟨g, i, none⟩ u = W := by
  have h2 := blk_set h i u
  have e : cs.setIfInBounds i u = cs := by
    apply Array.ext_getElem?
    intro j
    rw [Array.getElem?_setIfInBounds]
    by_cases hj : i = j
    · subst hj
      rw [if_pos rfl, hu, if_pos (Array.getElem?_eq_some_iff.1 hu).1]
    · rw [if_neg hj]
  rw [e] at h2
  have hh : (W.setCell ⟨g, i, none⟩ u).heap = W.heap := by
    apply Array.ext_getElem?
    intro j
    by_cases hj : j = g
    · subst hj; rw [h2, h]
    · exact Below.heap_setCell W ⟨g, i, none⟩ u j hj
  have h3 : W.setCell ⟨g, i, none⟩ u = { W with heap := (W.setCell ⟨g, i, none⟩ u).heap } := by
    simp only [World.setCell, h]
  rw [h3, hh]
theorem ChI.below {R : Nat} {lb bx : Array Value} {s : Nat} {RI : World → Prop} {st : List Int × Int × Bool} {W W' : World} (hRI : ∀ W W', Below s W W' → RI W → RI W') (h : ChI R lb bx s RI st W) (hb : Below W.heap.size W W') : ChI R lb bx s RI st W' :=
  h.kept (KeepHi.of_below hb) (hRI _ _ (hb.mono (Nat.le_of_lt (blk_lt h.b0))) h.ri)
theorem recipes_callsI (n : Nat) (v0 v1 v2 v3 v4 v5 v6 : Value) (w : World) :
    CallsIn Fence.wide n Tryz.prog 175 #[.agg #[v0, v1, v2, v3, v4, v5, v6]] w fun e w' => e = .returned (.func (.func 207) #[] #[.pointer (some ⟨w.heap.size, 0, none⟩)]) ∧ w' = w.alloc (.cells #[v0, v1, v2, v3, v4, v5, v6] 29) := by
  have hmf := run_makeFunc_
  refine callsIn_of_wp Tryz.func175 rfl trivial ?_ rfl
  simp only [Tryz.ntmps175, List.size_toArray, List.length_cons, List.length_nil, Nat.reduceAdd, Nat.reduceSub, Array.replicate_succ, Array.replicate_zero, List.push_toArray, List.append_toArray, List.nil_append, List.cons_append]
  gi_wp2
  go_ret
  exact ⟨rfl, rfl⟩
section
variable (R : Nat) (lb : Array Value) (A0 A1 A2 A3 : Option Addr) (c0 c1 c2 c3 : Nat) (l0 : List ByteArray) (mt : List S70) (l2 : List S27) (l3 : List S89) (b4 b5 b6 : Int)
theorem cheapest_calls (eR : ∀ args w, (callFunc R args).run Tryz.prog w = .ok (.enter R args) w)
    (rt : List Int → Bool) (cst : List Int → Int) (N : Nat) (rs : Nat → List Int) (RI : World → Prop) (w : World) (hm0 : 1 ≤ mt.length) (hm20 : mt.length ≤ 12)
    (h00 : l0.length ≤ c0) (h01 : mt.length ≤ c1) (h02 : l2.length ≤ c2) (h03 : l3.length ≤ c3)
    (hr0 : 0 < N) (hrs0 : rs 0 = leasts mt mt.length) (hlen : ∀ k, (rs k).length = mt.length)
    (hnext : ∀ k, k < N → adv mt mt.length (rs k) = if k + 1 < N then (true, rs (k + 1)) else (false, (adv mt mt.length (rs k)).2))
    (hcost : ∀ i, i < N → ∃ k, b_cost.f k l0 mt l2 l3 b4 b5 b6 (rs i) = some (cst (rs i)))
    (hRI : ∀ W W', Below w.heap.size W W' → RI W → RI W')
    (hRow : ∀ W, RI W → Kd.C Kd.string W A0 l0.length l0 ∧ Kd.C k70 W A1 mt.length mt ∧ Kd.C k27 W A2 l2.length l2 ∧ Kd.C k89 W A3 l3.length l3)
    (hright : ∀ i, i < N → ∀ (W : World) (A : Addr), RI W → w.heap.size ≤ W.heap.size → w.heap.size ≤ A.block → Kd.C (Kd.int .i64) W (some A) (rs i).length (rs i) → Calls Tryz.prog R (#[.slice (some A) (rs i).length (rs i).length] ++ lb) W fun e W' => e = .returned (.bool (rt (rs i))) ∧ RI W' ∧ KeepHi w.heap.size W W')
    (h0 : RI w) :
    Calls Tryz.prog 89 #[.agg #[.slice A0 l0.length c0, .slice A1 mt.length c1, .slice A2 l2.length c2, .slice A3 l3.length c3, .int .i64 b4, .int .i64 b5, .int .i64 b6], .func (.func R) #[] lb] w fun e w' =>
      ∃ v, e = .returned (.tuple #[v, .int .i64 (chF rt cst rs N).2.1, .bool (chF rt cst rs N).2.2]) ∧ (Kd.int .i64).R 3 w' w.heap.size (fun g => w.heap.size ≤ g) v (chF rt cst rs N).1 ∧ RI w' ∧ w.heap.size ≤ w'.heap.size := by
  refine callsIn_wide.1 (callsIn_of_wp_marks (n := 3) Tryz.func89 rfl trivial ?_ rfl)
  simp only [Tryz.ntmps89, List.size_toArray, List.length_cons, List.length_nil, Nat.reduceAdd, Nat.reduceSub, Array.replicate_succ, Array.replicate_zero, List.push_toArray, List.append_toArray, List.nil_append, List.cons_append]
  gi_wp2_with (refine ⟨(show Fence.wide.fn 175 from trivial), ?_⟩; gi_at_call 175; (with_reducible refine (recipes_callsI _ _ _ _ _ _ _ _ _).mono ?_); rintro e w' ⟨rfl, rfl⟩)
  obtain ⟨q0, q1, q2, q3, q4, q5, hsz, hbw⟩ := blk_six w (.cells #[.slice A0 l0.length c0, .slice A1 mt.length c1, .slice A2 l2.length c2, .slice A3 l3.length c3, .int .i64 b4, .int .i64 b5, .int .i64 b6] 29) (.cells #[.func (.func R) #[] lb] 133) (.cells #[.slice none 0 0] 30) (.cells #[.int .i64 0] 3) (.cells #[.bool false] 4) (.cells #[.slice A0 l0.length c0, .slice A1 mt.length c1, .slice A2 l2.length c2, .slice A3 l3.length c3, .int .i64 b4, .int .i64 b5, .int .i64 b6] 29)
  generalize (((((w.alloc (.cells #[.slice A0 l0.length c0, .slice A1 mt.length c1, .slice A2 l2.length c2, .slice A3 l3.length c3, .int .i64 b4, .int .i64 b5, .int .i64 b6] 29)).alloc (.cells #[.func (.func R) #[] lb] 133)).alloc (.cells #[.slice none 0 0] 30)).alloc (.cells #[.int .i64 0] 3)).alloc (.cells #[.bool false] 4)).alloc (.cells #[.slice A0 l0.length c0, .slice A1 mt.length c1, .slice A2 l2.length c2, .slice A3 l3.length c3, .int .i64 b4, .int .i64 b5, .int .i64 b6] 29) = W0 at q0 q1 q2 q3 q4 q5 hsz hbw ⊢
  have hI0 : ChI R lb #[.slice A0 l0.length c0, .slice A1 mt.length c1, .slice A2 l2.length c2, .slice A3 l3.length c3, .int .i64 b4, .int .i64 b5, .int .i64 b6] w.heap.size RI (chF rt cst rs 0) W0 := ⟨q0, q1, q3, q4, q5, ⟨_, q2, Kd.R_nil _ _ _ _ _⟩, hRI _ _ hbw h0⟩
  have HI0 := Sd.mk hI0
  have HS := Sd.mk hsz
  clear q0 q1 q2 q3 q4 q5 hbw hI0 h0 hsz
  refine wpIn_rangeFuncS (N := N) (encs := fun _ => #[.slice (some ⟨W0.heap.size + 2, 0, none⟩) mt.length mt.length]) rfl (by omega) (gf := 207) (lb := #[.pointer (some ⟨w.heap.size + 1 + 1 + 1 + 1 + 1, 0, none⟩)]) rfl trivial (enters_of Tryz.func207 (by kernel_rfl) rfl) (fun _ => rfl)
    (fun k W => ChI R lb #[.slice A0 l0.length c0, .slice A1 mt.length c1, .slice A2 l2.length c2, .slice A3 l3.length c3, .int .i64 b4, .int .i64 b5, .int .i64 b6] w.heap.size RI (chF rt cst rs k) W) (fun k W => IntsAt W (W0.heap.size + 2) mt.length (rs k)) (fun k W W' hb hk h => h.keep hRI (by rw [← HS.out]; exact hb) (by have := HS.out; rw [show w.heap.size + 9 = W0.heap.size + 3 by omega]; exact hk)) HI0.out ?seq ?round ?done
  case seq =>
    intro l J W hs hB hJb hJI hY hJ0
    refine recipes1_in 2 (by omega) l (W0.heap.size + 2) (w.heap.size + 5) A0 A1 A2 A3 l0.length l2.length l3.length c0 c1 c2 c3 b4 b5 b6 mt N rs J W hs hm20 (fun k W h => ⟨(hRow _ (hJI _ _ h).ri).2.1, (hJI _ _ h).b5⟩) hJb (by have := HS.out; omega) hr0 hrs0 hlen hnext hY hJ0
  case round =>
    intro l k W hW hk hI hP st hst
    have HI := Sd.mk hI
    have HP := Sd.mk hP
    have HW := Sd.mk hW
    have HK := Sd.mk hk
    clear hI hW hk hP HI0
    simp only [List.zip_toArray, List.zip_cons_cons, List.zip_nil_right, List.foldl_toArray, List.foldl_cons, List.foldl_nil, List.setIfInBounds_toArray, List.set_cons_succ, List.set_cons_zero]
    gi_wp2
    refine hst _ _ (KeepHi.refl _ _) ?_
    clear hst
    intro o
    have CH := Sd.mk (HI.out.keep hRI (below_putObj' (r := W0.heap.size + 1) (o := o) (by have := HS.out; omega)) (keepHi_putObj (by have := HS.out; omega)))
    have IP := Sd.mk (HP.out.below (keepHi_putObj (r := W0.heap.size + 1) (o := o) (by omega)))
    have WS : Sd (W0.heap.size + 1 < (W.putObj (W0.heap.size + 1) o).heap.size) := ⟨by rw [World.putObj_size]; exact HW.out⟩
    generalize W.putObj (W0.heap.size + 1) o = Wb at CH IP WS ⊢
    clear HI HP HW
    obtain ⟨kk, hck⟩ := hcost k HK.out
    have CK := Sd.mk hck
    clear hck
    have g0 : Wb.cell? ⟨w.heap.size, 0, none⟩ = some (.slice A0 l0.length c0) := (blk_cell CH.out.b0 0).trans rfl
    have g1 : Wb.cell? ⟨w.heap.size, 0 + 1, none⟩ = some (.slice A1 mt.length c1) := (blk_cell CH.out.b0 1).trans rfl
    have g2 : Wb.cell? ⟨w.heap.size, 0 + 2, none⟩ = some (.slice A2 l2.length c2) := (blk_cell CH.out.b0 2).trans rfl
    have g3 : Wb.cell? ⟨w.heap.size, 0 + 3, none⟩ = some (.slice A3 l3.length c3) := (blk_cell CH.out.b0 3).trans rfl
    have g4 : Wb.cell? ⟨w.heap.size, 0 + 4, none⟩ = some (.int .i64 b4) := (blk_cell CH.out.b0 4).trans rfl
    have g5 : Wb.cell? ⟨w.heap.size, 0 + 5, none⟩ = some (.int .i64 b5) := (blk_cell CH.out.b0 5).trans rfl
    have g6 : Wb.cell? ⟨w.heap.size, 0 + 6, none⟩ = some (.int .i64 b6) := (blk_cell CH.out.b0 6).trans rfl
    obtain ⟨r0, r1, r2, r3⟩ := hRow _ CH.out.ri
    have HC := b_cost.calls kk A0 c0 l0 A1 c1 mt A2 c2 l2 A3 c3 l3 b4 b5 b6 (some ⟨W0.heap.size + 2, 0, none⟩) mt.length (rs k) (cst (rs k)) Wb r0 h00 r1 h01 r2 h02 r3 h03 IP.out.reads (Nat.le_of_eq (hlen k)) CK.out
    rw [hlen k] at HC
    clear r0 r1 r2 r3
    have hr := hright k HK.out
    rw [hlen k] at hr
    have HR := Sd.mk hr
    clear hr
    have HF := Sd.mk (chF_succ rt cst rs k)
    generalize chF rt cst rs k = st at CH HF
    obtain ⟨best, ls, fd⟩ := st
    have hcloned : ∀ W', IntsAt W' (W0.heap.size + 2) mt.length (rs k) → Calls Tryz.prog 176 #[.slice (some ⟨W0.heap.size + 2, 0, none⟩) mt.length mt.length] W' fun e w' => (∃ v, e = .returned v ∧ (Kd.int .i64).R 3 w' W'.heap.size (fun k => W'.heap.size ≤ k) v (rs k)) ∧ Below W'.heap.size W' w' := fun W' h => by
      have := clone_calls ⟨W0.heap.size + 2, 0, none⟩ mt.length (rs k) W' h.reads (by rw [hlen k]; exact hm20)
      rwa [hlen k] at this
    have HCL := Sd.mk hcloned
    clear hcloned
    gi_upto_region 4 with (refine ⟨(show Fence.wide.fn 58 from trivial), ?_⟩; gi_at_call 58; (with_reducible refine (CallsIn.inRound l (callsIn_wide.2 HC)).mono ?_); rintro e wq ⟨rfl, hwq⟩; replace CH := Sd.mk (CH.out.below hRI hwq); replace IP := Sd.mk (IP.out.below (KeepHi.of_below hwq)); replace WS := Sd.mk (And.intro WS.out hwq); clear hwq)
    clear HC g0 g1 g2 g3 g4 g5 g6
    have f1 : wq.cell? ⟨w.heap.size + 1, 0, none⟩ = some (.func (.func R) #[] lb) := (blk_cell CH.out.b1 0).trans rfl
    have f3 : wq.cell? ⟨w.heap.size + 1 + 1 + 1, 0, none⟩ = some (.int .i64 ls) := (blk_cell CH.out.b3 0).trans rfl
    have f4 : wq.cell? ⟨w.heap.size + 1 + 1 + 1 + 1, 0, none⟩ = some (.bool fd) := (blk_cell CH.out.b4 0).trans rfl
    by_cases hcase : (!fd || decide (cst (rs k) < ls)) = true
    · have hcase' : fd = false ∨ (fd = true ∧ decide (cst (rs k) < ls) = true) := by cases fd <;> simp_all
      cases hrt : rt (rs k) with
      | true =>
        have HR1 := HR.out
        simp only [hrt] at HR1
        have HF1 : Sd (chF rt cst rs (k + 1) = (rs k, cst (rs k), true)) := ⟨by rw [HF.out]; unfold chStep; simp only [hcase, hrt, Bool.and_true, if_true]⟩
        clear HF hcase
        rcases hcase' with rfl | ⟨rfl, hd⟩
        all_goals
          gi_wp2_with (first | (refine ⟨(show Fence.wide.fn R from trivial), ?_⟩; gi_at_fn R; (refine (CallsIn.inRound l (callsIn_wide.2 (HR1 _ ⟨W0.heap.size + 2, 0, none⟩ CH.out.ri (Nat.le_of_lt (blk_lt CH.out.b0)) (by have := HS.out; show w.heap.size ≤ W0.heap.size + 2; omega) (by have := IP.out.reads; rwa [hlen k] at this)))).mono ?_); rintro e w2 ⟨rfl, hri, hkp⟩; have CH2 := Sd.mk (CH.out.kept hkp hri); have IP2 := Sd.mk (IP.out.below (hkp.up (by have := HS.out; omega))); have KP2 := Sd.mk ((KeepHi.of_below (B := w.heap.size) WS.out.2).trans hkp); clear hri hkp) | (refine ⟨(show Fence.wide.fn 176 from trivial), ?_⟩; gi_at_call 176; (refine (CallsIn.inRound l (callsIn_wide.2 (HCL.out _ IP2.out))).mono ?_); rintro e w3 ⟨⟨v, rfl, hv⟩, hb3⟩; obtain ⟨A9, c9, rfl⟩ := Kd.R_slice hv; rw [hlen k] at hv ⊢; have CH3 := Sd.mk (CH2.out.below hRI hb3); have KP3 := Sd.mk (KP2.out.trans (KeepHi.of_below hb3)); have hn3 : W0.heap.size + 3 ≤ w2.heap.size := (Nat.succ_le_of_lt IP2.out.lt); have HV := Sd.mk (Kd.R_mono hv (fun g hg => Nat.le_trans hn3 hg)); clear hv hb3; have z2 : w3.cell? ⟨w.heap.size + 1 + 1, 0, none⟩ = _ := (blk_cell CH3.out.b2.choose_spec.1 0).trans rfl; have z2' : w3.frozen? ⟨w.heap.size + 1 + 1, 0, none⟩ = false := blk_frozen CH3.out.b2.choose_spec.1 0; have z3 : (w3.setCell ⟨w.heap.size + 1 + 1, 0, none⟩ (.slice A9 mt.length c9)).cell? ⟨w.heap.size + 1 + 1 + 1, 0, none⟩ = some (.int .i64 ls) := (blk_cell (blk_far CH3.out.b3 (p := ⟨w.heap.size + 1 + 1, 0, none⟩) (by simp) _) 0).trans rfl; have z3' : (w3.setCell ⟨w.heap.size + 1 + 1, 0, none⟩ (.slice A9 mt.length c9)).frozen? ⟨w.heap.size + 1 + 1 + 1, 0, none⟩ = false := blk_frozen (blk_far CH3.out.b3 (p := ⟨w.heap.size + 1 + 1, 0, none⟩) (by simp) _) 0; have z4 := (blk_cell (blk_far (blk_far CH3.out.b4 (p := ⟨w.heap.size + 1 + 1, 0, none⟩) (by simp) (.slice A9 mt.length c9)) (p := ⟨w.heap.size + 1 + 1 + 1, 0, none⟩) (by simp) (.int .i64 (cst (rs k)))) 0); have z4' := (blk_frozen (blk_far (blk_far CH3.out.b4 (p := ⟨w.heap.size + 1 + 1, 0, none⟩) (by simp) (.slice A9 mt.length c9)) (p := ⟨w.heap.size + 1 + 1 + 1, 0, none⟩) (by simp) (.int .i64 (cst (rs k)))) 0)))
          exact ⟨(((KP3.out.up (by have := HS.out; omega)).setCell (p := ⟨w.heap.size + 2, 0, none⟩) (by have := HS.out; simp; omega) _).setCell (p := ⟨w.heap.size + 3, 0, none⟩) (by have := HS.out; simp; omega) _).setCell (p := ⟨w.heap.size + 4, 0, none⟩) (by have := HS.out; simp; omega) _, (by rw [HF1.out]; exact CH3.out.store hRI (Kd.R_lower (Kd.R_mono HV.out (fun g hg => by have := HS.out; omega)) (by have := blk_lt CH2.out.b0; omega)) _ : ChI _ _ _ _ _ (chF rt cst rs (k + 1)) _)⟩
      | false =>
        have HR1 := HR.out
        simp only [hrt] at HR1
        have HF1 : Sd (chF rt cst rs (k + 1) = (best, ls, fd)) := ⟨by rw [HF.out]; unfold chStep; simp only [hrt, Bool.and_false, Bool.false_eq_true, if_false]⟩
        clear HF hcase
        rcases hcase' with rfl | ⟨rfl, hd⟩
        all_goals
          gi_wp2_with (refine ⟨(show Fence.wide.fn R from trivial), ?_⟩; gi_at_fn R; (refine (CallsIn.inRound l (callsIn_wide.2 (HR1 _ ⟨W0.heap.size + 2, 0, none⟩ CH.out.ri (Nat.le_of_lt (blk_lt CH.out.b0)) (by have := HS.out; show w.heap.size ≤ W0.heap.size + 2; omega) (by have := IP.out.reads; rwa [hlen k] at this)))).mono ?_); rintro e w2 ⟨rfl, hri, hkp⟩)
          exact ⟨((KeepHi.of_below (B := w.heap.size) WS.out.2).trans hkp).up (by have := HS.out; omega), (by rw [HF1.out]; exact CH.out.kept hkp hri : ChI _ _ _ _ _ (chF rt cst rs (k + 1)) _)⟩
    · have hcase' : fd = true ∧ decide (cst (rs k) < ls) = false := by cases fd <;> simp_all
      have HF1 : Sd (chF rt cst rs (k + 1) = (best, ls, fd)) := ⟨by rw [HF.out]; unfold chStep; simp only [hcase, Bool.false_and, Bool.false_eq_true, if_false]⟩
      clear HF hcase
      obtain ⟨rfl, hd⟩ := hcase'
      gi_wp2
      refine ⟨(fun f h => by cases h), ?_⟩
      gi_wp2
      exact ⟨KeepHi.of_below WS.out.2, (by rw [HF1.out]; exact CH.out : ChI _ _ _ _ _ (chF rt cst rs (k + 1)) _)⟩
  case done =>
    intro W hI hD
    have HI := Sd.mk hI
    have HD := Sd.mk hD
    obtain ⟨v, hv1, hv2⟩ := HI.out.b2
    obtain ⟨A9, c9, rfl⟩ := Kd.R_slice hv2
    have s2 : W.setCell ⟨w.heap.size + 1 + 1, 0, none⟩ (.slice A9 (chF rt cst rs N).1.length c9) = W := setCell_id hv1 0 rfl
    have s3 : W.setCell ⟨w.heap.size + 1 + 1 + 1, 0, none⟩ (.int .i64 (chF rt cst rs N).2.1) = W := setCell_id HI.out.b3 0 rfl
    have s4 : W.setCell ⟨w.heap.size + 1 + 1 + 1 + 1, 0, none⟩ (.bool (chF rt cst rs N).2.2) = W := setCell_id HI.out.b4 0 rfl
    have S2 := Sd.mk s2
    have S3 := Sd.mk s3
    have S4 := Sd.mk s4
    clear s2 s3 s4
    have HV := Sd.mk hv2
    clear hv2
    have f2 : W.cell? ⟨w.heap.size + 1 + 1, 0, none⟩ = some (.slice A9 (chF rt cst rs N).1.length c9) := (blk_cell hv1 0).trans rfl
    have f3 : W.cell? ⟨w.heap.size + 1 + 1 + 1, 0, none⟩ = some (.int .i64 (chF rt cst rs N).2.1) := (blk_cell HI.out.b3 0).trans rfl
    have f4 : W.cell? ⟨w.heap.size + 1 + 1 + 1 + 1, 0, none⟩ = some (.bool (chF rt cst rs N).2.2) := (blk_cell HI.out.b4 0).trans rfl
    have z2 := blk_frozen hv1 0
    have z3 := blk_frozen HI.out.b3 0
    have z4 := blk_frozen HI.out.b4 0
    clear HI0 hI hD
    gi_wp2
    refine wpIn_wide.2 ?_
    go_region
    rw [S2.out, S3.out, S4.out]
    have HID := Sd.mk (HI.out.below hRI (below_drew1 (Below.refl _ W)))
    have HDD := Sd.mk (show W.drew.heap[W0.heap.size]? = some (.deferred (some [])) from HD.out)
    have HVD := Sd.mk (Kd.R_below HV.out (below_drew1 (Below.refl _ W)))
    have HID' := Sd.mk (HID.out.keep hRI (below_putObj' (r := W0.heap.size) (o := .deferred none) (by have := HS.out; omega)) (keepHi_putObj (by have := HS.out; omega)))
    have HB2 : Sd ((W.drew.putObj W0.heap.size (.deferred none)).cell? ⟨w.heap.size + 1 + 1, 0, none⟩ = some (.slice A9 (chF rt cst rs N).1.length c9)) := ⟨(blk_cell (show (W.drew.putObj W0.heap.size (.deferred none)).heap[w.heap.size + 1 + 1]? = _ from (World.putObj_heap_other (by have := HS.out; omega)).trans hv1) 0).trans rfl⟩
    have HW' : Sd (w.heap.size ≤ W.drew.heap.size) := ⟨Nat.le_of_lt (Nat.lt_of_lt_of_le (Nat.lt_succ_self _) (Nat.le_of_lt (Nat.lt_of_le_of_lt (Nat.le_succ _) (blk_lt hv1))))⟩
    have HVD' := Sd.mk (Kd.R_step (w1 := W.drew.putObj W0.heap.size (.deferred none)) HVD.out (fun g hg _ => World.putObj_heap_other (by have := HS.out; omega)))
    clear HI HD HV S2 S3 S4 f2 f3 f4 z2 z3 z4 HVD
    clear hv1
    generalize W.drew = WD at HID HDD HID' HVD' HB2 HW' ⊢
    gi_wp2
    refine ⟨by simp, .inl ⟨_, _, rfl, run_takeDeferred HDD.out, ?_⟩⟩
    have e3 : (WD.putObj W0.heap.size (Obj.deferred none)).cell? ⟨w.heap.size + 1 + 1 + 1, 0, none⟩ = some (.int .i64 (chF rt cst rs N).2.1) := (blk_cell HID'.out.b3 0).trans rfl
    have e4 : (WD.putObj W0.heap.size (Obj.deferred none)).cell? ⟨w.heap.size + 1 + 1 + 1 + 1, 0, none⟩ = some (.bool (chF rt cst rs N).2.2) := (blk_cell HID'.out.b4 0).trans rfl
    have e2 : (WD.putObj W0.heap.size (Obj.deferred none)).cell? ⟨w.heap.size + 1 + 1, 0, none⟩ = some (.slice A9 (chF rt cst rs N).1.length c9) := HB2.out
    refine ⟨.tuple #[.slice A9 (chF rt cst rs N).1.length c9, .int .i64 (chF rt cst rs N).2.1, .bool (chF rt cst rs N).2.2], ?_, ⟨_, rfl, Kd.R_mono HVD'.out (fun g hg => by omega), HID'.out.ri, by have := HW'.out; simp; omega⟩⟩
    simp [results, Tryz.results89, e2, e3, e4, go_sem]
end
end
section
theorem getD_lt {α : Type} (l : List α) (k : Nat) (d : α) (h : k < l.length) : l.getD k d = l[k] := by simp [List.getD, h]
theorem getD_ge {α : Type} (l : List α) (k : Nat) (d : α) (h : l.length ≤ k) : l.getD k d = d := by simp [List.getD, h]
structure MatB (m : S70) : Prop where
  lo : 0 ≤ m.f3
  le : m.f3 ≤ m.f4
  hi : m.f4 ≤ 10000
  s1 : 1 ≤ m.f5
  s2 : m.f5 ≤ 10000
def nextL : List S70 → List Int → Option (List Int)
  | m :: ms, k :: ks => match nextL ms ks with
    | some q => some (k :: q)
    | none => if wrap64 (k + m.f5) ≤ m.f4 then some (wrap64 (k + m.f5) :: ms.map (·.f3)) else none
  | _, _ => none
theorem nextL_snoc (m : S70) (k : Int) : ∀ (ms : List S70) (ks : List Int), ms.length = ks.length → nextL (ms ++ [m]) (ks ++ [k]) = if wrap64 (k + m.f5) ≤ m.f4 then some (ks ++ [wrap64 (k + m.f5)]) else (nextL ms ks).map (· ++ [m.f3])
  | [], [], _ => by simp only [List.nil_append, nextL]; split <;> rfl
  | a :: ms, b :: ks, h => by
    have ih := nextL_snoc m k ms ks (by simpa using h)
    simp only [List.cons_append, nextL, ih]
    by_cases hc : wrap64 (k + m.f5) ≤ m.f4
    · simp only [if_pos hc]
    · simp only [if_neg hc]
      cases nextL ms ks with
      | some q => rfl
      | none =>
        simp only [Option.map_none]
        split <;> simp
  | [], _ :: _, h => by simp at h
  | _ :: _, [], h => by simp at h
theorem adv_next (mt : List S70) : ∀ (i : Nat) (r : List Int), r.length = mt.length → i ≤ mt.length →
    (∀ q, nextL (mt.take i) (r.take i) = some q → adv mt i r = (true, q ++ r.drop i)) ∧ (nextL (mt.take i) (r.take i) = none → (adv mt i r).1 = false)
  | 0, r, hr, hi => ⟨fun q h => by simp [nextL] at h, fun _ => rfl⟩
  | i + 1, r, hr, hi => by
    have h1 : i < mt.length := by omega
    have h2 : i < r.length := by omega
    have e1 : mt.take (i + 1) = mt.take i ++ [mt[i]] := by rw [List.take_add_one, List.getElem?_eq_getElem h1]; rfl
    have e2 : r.take (i + 1) = r.take i ++ [r[i]] := by rw [List.take_add_one, List.getElem?_eq_getElem h2]; rfl
    have g1 : rd_T70 mt (i : Int) = mt[i] := by simp [rd_T70, h1]
    have g2 : rd r (i : Int) = r[i] := by simp [rd, h2]
    have hs := nextL_snoc mt[i] r[i] (mt.take i) (r.take i) (by simp; omega)
    rw [e1, e2, hs]
    unfold adv
    rw [g1, g2]
    by_cases hc : wrap64 (r[i] + mt[i].f5) ≤ mt[i].f4
    · rw [if_pos hc, if_pos hc]
      refine ⟨fun q h => ?_, fun h => by cases h⟩
      obtain rfl := Option.some.inj h
      rw [List.set_eq_take_append_cons_drop, if_pos h2]
      simp
    · rw [if_neg hc, if_neg hc]
      have ih := adv_next mt i (r.set i mt[i].f3) (by simpa using hr) (by omega)
      have e3 : (r.set i mt[i].f3).take i = r.take i := List.take_set_of_le (Nat.le_refl i)
      have e4 : (r.set i mt[i].f3).drop i = mt[i].f3 :: r.drop (i + 1) := by
        rw [List.set_eq_take_append_cons_drop, if_pos h2, List.drop_append_of_le_length (by simp; omega)]
        simp
      rw [e3] at ih
      refine ⟨fun q h => ?_, fun h => ih.2 (by simpa using h)⟩
      obtain ⟨q0, hq0, rfl⟩ := Option.map_eq_some_iff.1 h
      rw [ih.1 q0 hq0, e4]
      simp
def kilosF (s : Int) : Nat → Int → List Int
  | 0, _ => []
  | c + 1, k => k :: kilosF s c (k + s)
def cntM (m : S70) : Nat := ((m.f4 - m.f3) / m.f5).toNat + 1
def allR : List S70 → List (List Int)
  | [] => [[]]
  | m :: ms => (kilosF m.f5 (cntM m) m.f3).flatMap fun k => (allR ms).map (k :: ·)
def ChL {α : Type} (nx : α → Option α) (e : Option α) : List α → Prop
  | [] => True
  | [a] => nx a = e
  | a :: b :: l => nx a = some b ∧ ChL nx e (b :: l)
theorem ChL_append {α : Type} {nx : α → Option α} {e : Option α} {b : α} {l2 : List α} : ∀ (l1 : List α), ChL nx (some b) l1 → ChL nx e (b :: l2) → ChL nx e (l1 ++ b :: l2)
  | [], _, h => h
  | [a], h1, h2 => ⟨h1, h2⟩
  | a :: c :: l, h1, h2 => ⟨h1.1, ChL_append (c :: l) h1.2 h2⟩
theorem ChL_get {α : Type} {nx : α → Option α} : ∀ (l : List α), ChL nx none l → ∀ (k : Nat) (h : k < l.length), nx l[k] = l[k + 1]?
  | [a], h, 0, _ => h
  | a :: b :: l, h, 0, _ => by simpa using h.1
  | a :: b :: l, h, k + 1, hk => by
    have := ChL_get (b :: l) h.2 k (by simpa using hk)
    simpa using this
theorem ChL_map (m : S70) (ms : List S70) (k : Int) : ∀ (l : List (List Int)), ChL (nextL ms) none l → ChL (nextL (m :: ms)) (if wrap64 (k + m.f5) ≤ m.f4 then some (wrap64 (k + m.f5) :: ms.map (·.f3)) else none) (l.map (k :: ·))
  | [], _ => trivial
  | [a], h => by
    have h : nextL ms a = none := h
    show nextL (m :: ms) (k :: a) = _
    simp only [nextL, h]
  | a :: b :: l, h => by
    refine ⟨?_, ChL_map m ms k (b :: l) h.2⟩
    simp only [nextL, h.1]
theorem allR_head : ∀ (mt : List S70), ∃ tl, allR mt = mt.map (·.f3) :: tl
  | [] => ⟨[], rfl⟩
  | m :: ms => by
    obtain ⟨tl, h⟩ := allR_head ms
    unfold allR cntM
    simp only [kilosF, List.flatMap_cons, h, List.map_cons, List.cons_append]
    exact ⟨_, rfl⟩
theorem cntM_last {m : S70} (M : MatB m) : m.f3 + ((cntM m : Int) - 1) * m.f5 ≤ m.f4 ∧ m.f4 < m.f3 + (cntM m : Int) * m.f5 := by
  unfold cntM
  have h0 : 0 ≤ (m.f4 - m.f3) / m.f5 := Int.ediv_nonneg (by have := M.le; omega) (by have := M.s1; omega)
  have h1 := Int.mul_ediv_self_le (x := m.f4 - m.f3) (k := m.f5) (by have := M.s1; omega)
  have h2 := Int.lt_mul_ediv_self_add (x := m.f4 - m.f3) (k := m.f5) (by have := M.s1; omega)
  have e : ((((m.f4 - m.f3) / m.f5).toNat + 1 : Nat) : Int) = (m.f4 - m.f3) / m.f5 + 1 := by omega
  rw [e]
  generalize (m.f4 - m.f3) / m.f5 = q at *
  have e2 : (q + 1 - 1) * m.f5 = m.f5 * q := by rw [Int.add_sub_cancel, Int.mul_comm]
  have e3 : (q + 1) * m.f5 = m.f5 * q + m.f5 := by rw [Int.add_mul, Int.one_mul, Int.mul_comm]
  rw [e2, e3]
  omega
theorem ChL_block (m : S70) (ms : List S70) (M : MatB m) (hms : ChL (nextL ms) none (allR ms)) : ∀ (c : Nat) (k : Int), 0 ≤ k → k + (c : Int) * m.f5 ≤ m.f4 → m.f4 < k + ((c : Int) + 1) * m.f5 →
    ChL (nextL (m :: ms)) none ((kilosF m.f5 (c + 1) k).flatMap fun k => (allR ms).map (k :: ·))
  | 0, k, h0, h1, h2 => by
    simp only [kilosF, List.flatMap_cons, List.flatMap_nil, List.append_nil]
    have := ChL_map m ms k (allR ms) hms
    have hw : wrap64 (k + m.f5) = k + m.f5 := wrap_id (by have := M.s1; omega) (by have := M.s2; have := M.hi; omega)
    rw [hw, if_neg (by omega)] at this
    exact this
  | c + 1, k, h0, h1, h2 => by
    have hp : 0 ≤ (c : Int) * m.f5 := Int.mul_nonneg (by omega) (by have := M.s1; omega)
    have e1 : ((c + 1 : Nat) : Int) * m.f5 = (c : Int) * m.f5 + m.f5 := by push_cast; rw [Int.add_mul, Int.one_mul]
    have e2 : (((c + 1 : Nat) : Int) + 1) * m.f5 = ((c : Int) + 1) * m.f5 + m.f5 := by push_cast; rw [Int.add_mul ((c : Int) + 1), Int.one_mul]
    have ih := ChL_block m ms M hms c (k + m.f5) (by have := M.s1; omega) (by omega) (by omega)
    have := ChL_map m ms k (allR ms) hms
    have hw : wrap64 (k + m.f5) = k + m.f5 := wrap_id (by have := M.s1; omega) (by have := M.s2; have := M.hi; omega)
    rw [hw, if_pos (by omega)] at this
    rw [kilosF, List.flatMap_cons]
    obtain ⟨tl, ht⟩ := allR_head ms
    have hh : ∃ tl2, ((kilosF m.f5 (c + 1) (k + m.f5)).flatMap fun k => (allR ms).map (k :: ·)) = ((k + m.f5) :: ms.map (·.f3)) :: tl2 := by
      rw [kilosF, List.flatMap_cons, ht]
      exact ⟨_, rfl⟩
    obtain ⟨tl2, h3⟩ := hh
    rw [h3] at ih ⊢
    exact ChL_append _ this ih
theorem ChL_all : ∀ (mt : List S70), (∀ m ∈ mt, MatB m) → ChL (nextL mt) none (allR mt)
  | [], _ => rfl
  | m :: ms, H => by
    have M := H m (List.mem_cons_self)
    have ih := ChL_all ms (fun x hx => H x (List.mem_cons_of_mem _ hx))
    have hl := cntM_last M
    have e : ((cntM m : Nat) : Int) - 1 = (((m.f4 - m.f3) / m.f5).toNat : Int) := by unfold cntM; push_cast; omega
    rw [e] at hl
    have hl2 := hl.2
    rw [show ((cntM m : Nat) : Int) = (((m.f4 - m.f3) / m.f5).toNat : Int) + 1 from by unfold cntM; push_cast; rfl] at hl2
    exact ChL_block m ms M ih _ _ M.lo hl.1 hl2
theorem allR_len : ∀ (mt : List S70) (r : List Int), r ∈ allR mt → r.length = mt.length
  | [], r, h => by simp [allR] at h; rw [h]; rfl
  | m :: ms, r, h => by
    simp only [allR, List.mem_flatMap, List.mem_map] at h
    obtain ⟨k, _, q, hq, rfl⟩ := h
    simp [allR_len ms q hq]
theorem leasts_map (mt : List S70) : leasts mt mt.length = mt.map (·.f3) := by
  apply List.ext_getElem
  · simp [leasts]
  · intro i h1 h2
    have h3 : i < mt.length := by simpa [leasts] using h1
    simp [leasts, rd_T70, h3]
def rsAt (mt : List S70) (k : Nat) : List Int := (allR mt).getD k (leasts mt mt.length)
theorem rsAt_len (mt : List S70) (k : Nat) : (rsAt mt k).length = mt.length := by
  unfold rsAt
  by_cases h : k < (allR mt).length
  · rw [getD_lt _ _ _ h]; exact allR_len mt _ (List.getElem_mem h)
  · rw [getD_ge _ _ _ (by omega)]; exact leasts_len mt _
theorem rsAt_zero (mt : List S70) : rsAt mt 0 = leasts mt mt.length := by
  obtain ⟨tl, h⟩ := allR_head mt
  unfold rsAt
  rw [h, leasts_map]
  rfl
theorem allR_pos (mt : List S70) : 0 < (allR mt).length := by
  obtain ⟨tl, h⟩ := allR_head mt
  rw [h]; simp
theorem rsAt_next (mt : List S70) (H : ∀ m ∈ mt, MatB m) (k : Nat) (hk : k < (allR mt).length) :
    adv mt mt.length (rsAt mt k) = if k + 1 < (allR mt).length then (true, rsAt mt (k + 1)) else (false, (adv mt mt.length (rsAt mt k)).2) := by
  have h := ChL_get _ (ChL_all mt H) k hk
  have ha := adv_next mt mt.length (rsAt mt k) (rsAt_len mt k) (Nat.le_refl _)
  rw [List.take_length, List.take_of_length_le (Nat.le_of_eq (rsAt_len mt k)), List.drop_of_length_le (Nat.le_of_eq (rsAt_len mt k))] at ha
  have e : rsAt mt k = (allR mt)[k] := by unfold rsAt; rw [getD_lt _ _ _ hk]
  by_cases h2 : k + 1 < (allR mt).length
  · rw [if_pos h2]
    rw [List.getElem?_eq_getElem h2, ← e] at h
    rw [ha.1 _ h, List.append_nil]
    unfold rsAt
    rw [getD_lt _ _ _ h2]
  · rw [if_neg h2]
    rw [List.getElem?_eq_none (by omega), ← e] at h
    exact Prod.ext (ha.2 h) rfl
theorem rs_map (mt : List S70) : (List.range (allR mt).length).map (rsAt mt) = allR mt := by
  apply List.ext_getElem
  · simp
  · intro i h1 h2
    simp [rsAt, h2]
end
section
def b_ends.l0 : Nat → Int → Int → List (S27) → Int → Int → Option (Int × Int)
 | 0, _, _, _, _, _ => none
 | k + 1, x2, x3, x7, x8, x9 => if x9 < x8 then (if 0 ≤ x9 then (if x9 < (x7.length : Int) then (b_ends.l0 k (wrap64 (x2 + ((rd_T27 x7 x9).f0))) (wrap64 (x3 + ((rd_T27 x7 x9).f1))) x7 x8 (wrap64 (x9 + 1))) else (none)) else (none)) else (some (x2, x3))
def b_ends.f (k : Nat) (a0_0 : ByteArray) (a0_1 : Int) (a0_2 : Int) (a0_3 : Int) (a0_4 : Int) (a0_5 : Int) (l0_6 : List (S27)) : Option (Int × Int) := b_ends.l0 k 0 0 l0_6 (l0_6.length : Int) 0
theorem b_ends.calls (k : Nat) (a0_0 : ByteArray) (a0_1 : Int) (a0_2 : Int) (a0_3 : Int) (a0_4 : Int) (a0_5 : Int) (A0_6 : Option Addr) (c0_6 : Nat) (l0_6 : List (S27)) (r1 : Int) (r2 : Int) (w : World) (hr0_6 : Kd.C k27 w A0_6 l0_6.length l0_6) (hc0_6 : l0_6.length ≤ c0_6) (h : b_ends.f k a0_0 a0_1 a0_2 a0_3 a0_4 a0_5 l0_6 = some (r1, r2)) :
  Calls Tryz.prog 140 #[.agg #[.string a0_0, .int .i64 a0_1, .int .i64 a0_2, .int .i64 a0_3, .int .i64 a0_4, .int .i64 a0_5, .slice A0_6 l0_6.length c0_6]] w fun e w' => e = .returned (.tuple #[.int .i64 r1, .int .i64 r2]) ∧ Below w.heap.size w w' := by
 have hu70 := Tryz.underlying70; have hu27 := Tryz.underlying27; have HR0_6 := Sd.mk hr0_6; have HC0_6 := Sd.mk hc0_6; clear hr0_6 hc0_6; have HB := Sd.mk (Below.refl w.heap.size w)
 have H : (b_ends.l0 k 0 0 l0_6 (l0_6.length : Int) 0) = some (r1, r2) := h
 clear h; have H' := Sd.mk H; clear H
 go_enter Tryz.func140, Tryz.ntmps140
 go_wp2_with (first | ((with_reducible refine gate_dst (N := 1) rfl ?_); refine box_event ?hg (N := 1) ?hd (cs := #[.string a0_0, .int .i64 a0_1, .int .i64 a0_2, .int .i64 a0_3, .int .i64 a0_4, .int .i64 a0_5, .slice A0_6 l0_6.length c0_6]) (t := 70) ?hr ?_; (case hd => rfl); (case hg => rfl); (case hr => exact tG); intro gb1006 hg w2 hbox hb; have BK1006 := Sd.mk (hbox); have GW1006 := Sd.mk (bSz hg (bBl HB.out)); have GE1006 := Sd.mk (bSz hg (bBl HB.out)); replace HB := Sd.mk (below_step (bBl HB.out) hb); clear hb hbox hg; obtain ⟨u3_0, u3_1, u3_2, u3_3, u3_4, u3_5, u3_6, o3_0, o3_1, o3_2, o3_3, o3_4, o3_5, o3_6⟩ := bc7 (w := w2) BK1006.out))
 go_loopg [2, 3, 9] k (fun kq v2 v3 v9 w' => ∃ (x2_1 : Int) (x3_1 : Int) (x9_1 : Int), v2 = .int .i64 x2_1 ∧ v3 = .int .i64 x3_1 ∧ v9 = .int .i64 x9_1 ∧ Sd (b_ends.l0 kq x2_1 x3_1 l0_6 (l0_6.length : Int) x9_1 = some (r1, r2)) ∧ Sd (kq ≤ k) ∧ Sd (w'.heap[gb1006]? = some (.cells #[.string a0_0, .int .i64 a0_1, .int .i64 a0_2, .int .i64 a0_3, .int .i64 a0_4, .int .i64 a0_5, (.slice A0_6 l0_6.length c0_6)] 70 (0, 0))) ∧ Sd (Below w.heap.size w w'))
 case atStart => exact ⟨(0), (0), (0), tS, tS, tS, H', ⟨Nat.le_refl _⟩, ⟨bkA BK1006.out⟩, ⟨bBl HB.out⟩⟩
 case round =>
  clear H'; (try clear c1); (try clear p2); (try clear u3_0 u3_1 u3_2 u3_3 u3_4 u3_5 u3_6); (try clear o3_0 o3_1 o3_2 o3_3 o3_4 o3_5 o3_6); obtain ⟨x2_1, x3_1, x9_1, rfl, rfl, rfl, HA, HK1, BK1006, HB⟩ := hrel
  cases gk with
  | zero => exact absurd HA.out (by simp [b_ends.l0])
  | succ k1 =>
   have H := HA.out; clear HA
   simp only [b_ends.l0] at H
   by_cases c4 : x9_1 < (l0_6.length : Int)
   ·rw [if_pos c4] at H
    have c4b0 : decide (x9_1 < (l0_6.length : Int)) = true := decide_eq_true c4
    clear c4
    by_cases c5 : 0 ≤ x9_1
    ·rw [if_pos c5] at H
     have c5b0 : decide (0 ≤ x9_1) = true := decide_eq_true c5
     clear c5
     by_cases c6 : x9_1 < (l0_6.length : Int)
     ·rw [if_pos c6] at H
      have c6b0 : decide (x9_1 < (l0_6.length : Int)) = true := decide_eq_true c6
      clear c6; have H' := Sd.mk H; clear H
      have p1007 : 0 ≤ (x9_1 : Int) := tB
      have q1007 : x9_1 < (l0_6.length : Int) := tB
      obtain ⟨ad1007, e1007, hx1007_0, hx1007_1⟩ := at_T27 HR0_6.out x9_1 p1007 q1007; cases e1007; replace hx1007_0 := cU HB hx1007_0; replace hx1007_1 := cU HB hx1007_1; replace p1007 := eq_true p1007; replace q1007 := eq_true q1007
      go_wp2_with (first | ((with_reducible refine gate_dst (N := 5) rfl ?_); refine box_event ?hg (N := 5) ?hd (cs := #[.int .i64 0, .int .i64 0]) (t := 27) ?hr ?_; (case hd => rfl); (case hg => rfl); (case hr => exact tG); intro gb1008 hg w7 hbox hb; have BK1008 := Sd.mk (hbox); have GW1008 := Sd.mk (bSz hg (bBl HB.out)); have GE1008 := Sd.mk (bSz hg (bBl HB.out)); replace HB := Sd.mk (below_step (bBl HB.out) hb); have NB1006_1008 := Sd.mk (bNl hg (bkA BK1006.out)); have NB1008_1006 := Sd.mk (bNg hg (bkA BK1006.out)); replace BK1006 := Sd.mk (blk_below (bkA BK1006.out) hb); clear hb hbox hg; have hnb8 := NB1008_1006.out; have hnc8 := NB1006_1008.out; obtain ⟨u9_0, u9_1, o9_0, o9_1⟩ := bc2 (w := w7) BK1008.out))
      go_roundg k1
      case measure => have := HK1.out; omega
      case rel => exact ⟨(wrap64 (x2_1 + ((rd_T27 l0_6 x9_1).f0))), (wrap64 (x3_1 + ((rd_T27 l0_6 x9_1).f1))), (wrap64 (x9_1 + 1)), tS, tS, tS, H', ⟨by have := HK1.out; omega⟩, ⟨by refine bkZ ?_; refine blk_far ?_ NB1006_1008.out _; refine bkZ ?_; refine blk_far ?_ NB1006_1008.out _; refine bkZ ?_; exact BK1006.out⟩, ⟨bBl HB.out⟩⟩
     ·rw [if_neg c6] at H
      exact absurd H (by simp)
    ·rw [if_neg c5] at H
     exact absurd H (by simp)
   ·rw [if_neg c4] at H
    have c4b0 : decide (x9_1 < (l0_6.length : Int)) = false := decide_eq_false c4
    clear c4
    simp only [Option.some.injEq, Prod.mk.injEq] at H
    obtain ⟨rfl, rfl⟩ := H
    go_wp2
    go_ret2
    exact ⟨tE, bBl HB.out⟩
end
section
attribute [local go_sem] max2_int min2_int max_two min_two
theorem l122_calls (F g : Nat) (lb : Array Value) (cf : Int → Int) (N t0 t1 : Int) (w W : World) (eg : ∀ args w, (callFunc g args).run Tryz.prog w = .ok (.enter g args) w)
  (hq : CoefQ g lb cf N w) (hb : Below w.heap.size w W) (hF : W.heap[F]? = some (.cells #[.func (.func g) #[] lb, .int .i64 t0, .int .i64 t1] 128 (0, 0))) (x : Int) (hx0 : 0 ≤ x) (hx1 : x < N)
  (hw : wrap64 (cf x - t1) = cf x - t1) :
  Calls Tryz.prog 143 #[.int .i64 x, .pointer (some ⟨F, 0, none⟩)] W fun e w' => e = .returned (.int .i64 (cf x - t1)) ∧ ∃ q, w' = W.drewN q := by
 have h1 : ∀ n, Calls Tryz.prog g (#[.int .i64 x] ++ lb) (W.drewN n) fun e w' => e = .returned (.int .i64 (cf x)) ∧ ∃ q, w' = (W.drewN n).drewN q := fun n => hq _ (pw_below_drewN hb n) x hx0 hx1
 have H1 : Sd _ := ⟨h1⟩
 have HW := Sd.mk hw
 have c0 : W.cell? ⟨F, 0, none⟩ = some (.func (.func g) #[] lb) := (blk_cell hF 0).trans rfl
 have c2 : W.cell? ⟨F, 0 + 1 + 1, none⟩ = some (.int .i64 t1) := (blk_cell hF 2).trans rfl
 clear h1 hq hb hw hF
 generalize cf x = cx at *
 go_enter Tryz.func143, Tryz.ntmps143
 go_wp2_with fail
 go_quiet (first | (go_at_fn g; exact Calls.quiet_of (H1.out _)))
 go_wp2
 go_ret
 exact ⟨by show Ending.returned (.int .i64 (wrap64 (cx - t1))) = _; rw [HW.out], _, rfl⟩
theorem l124_calls (F g : Nat) (lb : Array Value) (cf : Int → Int) (N t0 t1 : Int) (w W : World) (eg : ∀ args w, (callFunc g args).run Tryz.prog w = .ok (.enter g args) w)
  (hq : CoefQ g lb cf N w) (hb : Below w.heap.size w W) (hF : W.heap[F]? = some (.cells #[.func (.func g) #[] lb, .int .i64 t0, .int .i64 t1] 128 (0, 0))) (x : Int) (hx0 : 0 ≤ x) (hx1 : x < N)
  (hw : wrap64 (t0 - cf x) = t0 - cf x) :
  Calls Tryz.prog 145 #[.int .i64 x, .pointer (some ⟨F, 0, none⟩)] W fun e w' => e = .returned (.int .i64 (t0 - cf x)) ∧ ∃ q, w' = W.drewN q := by
 have h1 : ∀ n, Calls Tryz.prog g (#[.int .i64 x] ++ lb) (W.drewN n) fun e w' => e = .returned (.int .i64 (cf x)) ∧ ∃ q, w' = (W.drewN n).drewN q := fun n => hq _ (pw_below_drewN hb n) x hx0 hx1
 have H1 : Sd _ := ⟨h1⟩
 have HW := Sd.mk hw
 have c0 : W.cell? ⟨F, 0, none⟩ = some (.func (.func g) #[] lb) := (blk_cell hF 0).trans rfl
 have c2 : W.cell? ⟨F, 0 + 1, none⟩ = some (.int .i64 t0) := (blk_cell hF 1).trans rfl
 clear h1 hq hb hw hF
 generalize cf x = cx at *
 go_enter Tryz.func145, Tryz.ntmps145
 go_wp2_with fail
 go_quiet (first | (go_at_fn g; exact Calls.quiet_of (H1.out _)))
 go_wp2
 go_ret
 exact ⟨by show Ending.returned (.int .i64 (wrap64 (t0 - cx))) = _; rw [HW.out], _, rfl⟩
def gT (df : Int → Int) (l : List S27) (j : Nat) : Int := max (df (j : Int) * (rd_T27 l (j : Int)).f0) (df (j : Int) * (rd_T27 l (j : Int)).f1)
def gTS (df : Int → Int) (l : List S27) (n : Nat) : Int := sumTo (gT df l) n
structure DfOk (df : Int → Int) (n : Nat) : Prop where
 at_ : ∀ j : Nat, j < n → -20000 ≤ df (j : Int) ∧ df (j : Int) ≤ 20000
theorem gT_bound {df : Int → Int} {l : List S27} (H : GOk l) (C : DfOk df l.length) : ∀ j, j < l.length → -3600000000000 ≤ gT df l j ∧ gT df l j ≤ 3600000000000 := by
 intro j hj
 have a1 := H.at_ j hj
 have a2 := C.at_ j hj
 have b1 := mulb (c := df j) (x := (rd_T27 l (j : Int)).f0) (by omega) (by omega) (by omega) (by omega)
 have b2 := mulb (c := df j) (x := (rd_T27 l (j : Int)).f1) (by omega) (by omega) (by omega) (by omega)
 unfold gT
 omega
theorem gTS_step {df : Int → Int} {l : List S27} (H : GOk l) (C : DfOk df l.length) {k : Nat} (hk : k < l.length) :
  wrap64 (gTS df l k + mx (wrap64 (df (k : Int) * (rd_T27 l (k : Int)).f0)) (wrap64 (df (k : Int) * (rd_T27 l (k : Int)).f1))) = gTS df l (k + 1) := by
 have hn := H.n12
 have a1 := H.at_ k hk
 have a2 := C.at_ k hk
 have b1 := mulb (c := df k) (x := (rd_T27 l (k : Int)).f0) (by omega) (by omega) (by omega) (by omega)
 have b2 := mulb (c := df k) (x := (rd_T27 l (k : Int)).f1) (by omega) (by omega) (by omega) (by omega)
 have b3 := gT_bound H C k hk
 have b4 := sumTo_bound (f := gT df l) (M := 3600000000000) (n := l.length) (gT_bound H C) k (by omega)
 rw [wrap_id (x := df k * (rd_T27 l (k : Int)).f0) (by omega) (by omega), wrap_id (x := df k * (rd_T27 l (k : Int)).f1) (by omega) (by omega), mx_max]
 show wrap64 (gTS df l k + gT df l k) = _
 unfold gTS
 rw [wrap_id (by omega) (by omega)]
 rfl
theorem greatest_calls (x : S70) (A : Option Addr) (c g : Nat) (lb : Array Value) (df : Int → Int) (w : World) (eg : ∀ args w, (callFunc g args).run Tryz.prog w = .ok (.enter g args) w)
  (hq : CoefQ g lb df x.f6.length w) (hC : Kd.C k27 w A x.f6.length x.f6) (hc : x.f6.length ≤ c) (hG : GOk x.f6) (hd : DfOk df x.f6.length) :
  Calls Tryz.prog 142 #[.agg #[.string x.f0, .int .i64 x.f1, .int .i64 x.f2, .int .i64 x.f3, .int .i64 x.f4, .int .i64 x.f5, .slice A x.f6.length c], .func (.func g) #[] lb] w fun e w' => e = .returned (.int .i64 (gTS df x.f6 x.f6.length)) ∧ Below w.heap.size w w' := by
 have hb0 : Below w.heap.size w (w.alloc (.cells #[.string x.f0, .int .i64 x.f1, .int .i64 x.f2, .int .i64 x.f3, .int .i64 x.f4, .int .i64 x.f5, .slice A x.f6.length c] 70)) := below_alloc (Below.refl _ _) _
 have HB := Sd.mk hb0
 have hbk := blk_new w (.cells #[.string x.f0, .int .i64 x.f1, .int .i64 x.f2, .int .i64 x.f3, .int .i64 x.f4, .int .i64 x.f5, .slice A x.f6.length c] 70)
 have HBK := Sd.mk hbk
 have HQ := Sd.mk hq
 have HC := Sd.mk hC
 have HG := Sd.mk hG
 have HD := Sd.mk hd
 clear hq hC hc hG hd hb0
 go_enter Tryz.func142, Tryz.ntmps142
 have hc6 : (w.alloc (.cells #[.string x.f0, .int .i64 x.f1, .int .i64 x.f2, .int .i64 x.f3, .int .i64 x.f4, .int .i64 x.f5, .slice A x.f6.length c] 70)).cell? ⟨w.heap.size, 0 + 6, none⟩ = some (.slice A x.f6.length c) := (blk_cell hbk 6).trans rfl
 go_wp2
 have hl12 : x.f6.length ≤ 12 := HG.out.n12
 have HL12 := Sd.mk hl12
 clear hc6 hbk hl12
 generalize w.alloc (.cells #[.string x.f0, .int .i64 x.f1, .int .i64 x.f2, .int .i64 x.f3, .int .i64 x.f4, .int .i64 x.f5, .slice A x.f6.length c] 70) = w0 at HB HBK ⊢
 go_loopg [11, 5] x.f6.length (fun gq v11 v5 wr => ∃ k : Nat, v11 = .int .i64 k ∧ v5 = .int .i64 (gTS df x.f6 k) ∧ k ≤ x.f6.length ∧ x.f6.length - k ≤ gq ∧ Sd (Below w.heap.size w wr))
 case atStart => exact ⟨0, rfl, rfl, Nat.zero_le _, by omega, HB⟩
 case round =>
  clear HB HBK
  obtain ⟨k, rfl, rfl, hk, hgk, HB⟩ := hrel
  have hl12 := HL12.out
  by_cases hlt : k < x.f6.length
  ·have hltz : (k : Int) < (x.f6.length : Int) := by omega
   obtain ⟨ad, rfl, hx0, hx1⟩ := at_T27 (Kd.C_below HC.out HB.out) (k : Int) (by omega) hltz
   simp only [Int.toNat_natCast] at hx0 hx1
   have HB2 := Sd.mk (below_alloc HB.out (.cells #[.int .i64 (rd_T27 x.f6 (k : Int)).f0, .int .i64 (rd_T27 x.f6 (k : Int)).f1] 27))
   have hbk := blk_new wr (.cells #[.int .i64 (rd_T27 x.f6 (k : Int)).f0, .int .i64 (rd_T27 x.f6 (k : Int)).f1] 27)
   have HSTEP := Sd.mk (gTS_step HG.out HD.out hlt)
   have h0 : (wr.alloc (.cells #[.int .i64 (rd_T27 x.f6 (k : Int)).f0, .int .i64 (rd_T27 x.f6 (k : Int)).f1] 27)).cell? ⟨wr.heap.size, 0, none⟩ = some (.int .i64 (rd_T27 x.f6 (k : Int)).f0) := (blk_cell hbk 0).trans rfl
   have h1 : (wr.alloc (.cells #[.int .i64 (rd_T27 x.f6 (k : Int)).f0, .int .i64 (rd_T27 x.f6 (k : Int)).f1] 27)).cell? ⟨wr.heap.size, 0 + 1, none⟩ = some (.int .i64 (rd_T27 x.f6 (k : Int)).f1) := (blk_cell hbk 1).trans rfl
   have HH0 := Sd.mk h0
   have HH1 := Sd.mk h1
   have hcoef : ∀ W, Below wr.heap.size wr W → Calls Tryz.prog g (#[.int .i64 (k : Int)] ++ lb) W fun e w' => e = .returned (.int .i64 (df k)) ∧ ∃ q, w' = W.drewN q := fun W hW => HQ.out W (below_then HB.out HB.out.size hW) _ (by omega) hltz
   have HCF := Sd.mk hcoef
   clear hbk h0 h1 hcoef
   go_upto_region 5 with (fail)
   generalize gTS df x.f6 k = acc at *
   have H1 : Sd (∀ n, Calls Tryz.prog g (#[.int .i64 (k : Int)] ++ lb) ((wr.alloc (.cells #[.int .i64 (rd_T27 x.f6 (k : Int)).f0, .int .i64 (rd_T27 x.f6 (k : Int)).f1] 27)).drewN n) fun e w' => e = .returned (.int .i64 (df k)) ∧ ∃ q, w' = ((wr.alloc (.cells #[.int .i64 (rd_T27 x.f6 (k : Int)).f0, .int .i64 (rd_T27 x.f6 (k : Int)).f1] 27)).drewN n).drewN q) := ⟨fun n => HCF.out _ (pw_below_drewN (below_alloc (Below.refl _ _) _) n)⟩
   generalize wr.alloc (.cells #[.int .i64 (rd_T27 x.f6 (k : Int)).f0, .int .i64 (rd_T27 x.f6 (k : Int)).f1] 27) = wa at *
   have h0 := HH0.out
   have h1 := HH1.out
   go_quiet (first | (go_at_fn g; exact Calls.quiet_of (H1.out _)))
   clear h0 h1 HH0 HH1 H1
   go_wp2
   all_goals
    go_roundg (x.f6.length - (k + 1))
    case measure => omega
    case rel => exact ⟨k + 1, rfl, by rw [← HSTEP.out]; unfold mx; first | rw [if_pos (by assumption)] | rw [if_neg (Int.not_lt.2 (by assumption))], by omega, by omega, ⟨by repeat (first | (with_reducible first | exact HB2.out | apply pw_below_drewN | apply below_drew1) | exact HB2.out)⟩⟩
  ·have hltz : ¬ (k : Int) < (x.f6.length : Int) := by omega
   obtain rfl : k = x.f6.length := by omega
   go_wp2
   go_ret
   exact ⟨rfl, HB.out⟩
def lowM (x : S70) : Int := wS S27.f0 x.f6 x.f6.length
def highM (x : S70) : Int := wS S27.f1 x.f6 x.f6.length
theorem ends_l0 {l : List S27} (H : GOk l) : ∀ (m i : Nat), i + m = l.length → Ev (fun k => b_ends.l0 k (wS S27.f0 l i) (wS S27.f1 l i) l (l.length : Int) (i : Int)) (wS S27.f0 l l.length, wS S27.f1 l l.length)
 | 0, i, hi => by
  apply Ev.step
  simp only [b_ends.l0, if_neg (show ¬ (i : Int) < (l.length : Int) by omega)]
  rw [show i = l.length by omega]
  exact Ev.const _
 | m + 1, i, hi => by
  have ih := ends_l0 H m (i + 1) (by omega)
  have hn := H.n12
  have hb := wS_bounds H i (by omega)
  have hc := H.at_ i (by omega)
  apply Ev.step
  simp only [b_ends.l0, if_pos (show (i : Int) < (l.length : Int) by omega), if_pos (i_pos i), wrap_succ (i_pos i) (show (i : Int) ≤ 1000000000 by omega)]
  rw [wrap_id (x := wS S27.f0 l i + (rd_T27 l (i : Int)).f0) (by omega) (by omega), wrap_id (x := wS S27.f1 l i + (rd_T27 l (i : Int)).f1) (by omega) (by omega)]
  exact ih
theorem ends_calls (x : S70) (A : Option Addr) (c : Nat) (w : World) (hC : Kd.C k27 w A x.f6.length x.f6) (hc : x.f6.length ≤ c) (hG : GOk x.f6) :
  Calls Tryz.prog 140 #[.agg #[.string x.f0, .int .i64 x.f1, .int .i64 x.f2, .int .i64 x.f3, .int .i64 x.f4, .int .i64 x.f5, .slice A x.f6.length c]] w fun e w' => e = .returned (.tuple #[.int .i64 (lowM x), .int .i64 (highM x)]) ∧ Below w.heap.size w w' := by
 obtain ⟨K, hK⟩ := ends_l0 hG x.f6.length 0 (by omega)
 exact b_ends.calls K x.f0 x.f1 x.f2 x.f3 x.f4 x.f5 A c x.f6 (lowM x) (highM x) w hC hc (hK K (Nat.le_refl _))
theorem lowM_bound {x : S70} (H : GOk x.f6) : 0 ≤ lowM x ∧ lowM x ≤ highM x ∧ highM x ≤ 1440000000 := by
 have h := wS_bounds H x.f6.length (Nat.le_refl _)
 have hn := H.n12
 unfold lowM highM
 omega
theorem l118_calls (x : S70) (A : Option Addr) (c : Nat) (w : World) (hC : Kd.C k27 w A x.f6.length x.f6) (hc : x.f6.length ≤ c) (hG : GOk x.f6) :
  Calls Tryz.prog 139 #[.agg #[.string x.f0, .int .i64 x.f1, .int .i64 x.f2, .int .i64 x.f3, .int .i64 x.f4, .int .i64 x.f5, .slice A x.f6.length c]] w fun e w' => e = .returned (.int .i64 (-lowM x)) ∧ Below w.heap.size w w' := by
 have hb0 : Below w.heap.size w (w.alloc (.cells #[.string x.f0, .int .i64 x.f1, .int .i64 x.f2, .int .i64 x.f3, .int .i64 x.f4, .int .i64 x.f5, .slice A x.f6.length c] 70)) := below_alloc (Below.refl _ _) _
 have hgo := ends_calls x A c (w.alloc (.cells #[.string x.f0, .int .i64 x.f1, .int .i64 x.f2, .int .i64 x.f3, .int .i64 x.f4, .int .i64 x.f5, .slice A x.f6.length c] 70)) (Kd.C_below hC hb0) hc hG
 have HLB := Sd.mk (lowM_bound hG)
 have HB := Sd.mk hb0
 clear hC hc hG hb0
 go_enter Tryz.func139, Tryz.ntmps139
 go_wp2_with fail
 generalize w.alloc (.cells #[.string x.f0, .int .i64 x.f1, .int .i64 x.f2, .int .i64 x.f3, .int .i64 x.f4, .int .i64 x.f5, .slice A x.f6.length c] 70) = w0 at *
 refine hgo.mono ?_
 clear hgo
 rintro e w1 ⟨rfl, hb⟩
 have hlb := HLB.out
 go_wp2
 go_ret
 exact ⟨rfl, below_trans' HB.out hb⟩
theorem l120_calls (x : S70) (A : Option Addr) (c F g : Nat) (lb : Array Value) (cf : Int → Int) (t0 t1 : Int) (w W : World) (eg : ∀ args w, (callFunc g args).run Tryz.prog w = .ok (.enter g args) w)
  (hq : CoefQ g lb cf x.f6.length w) (hb : Below w.heap.size w W) (hF : W.heap[F]? = some (.cells #[.func (.func g) #[] lb, .int .i64 t0, .int .i64 t1] 128 (0, 0)))
  (hC : Kd.C k27 W A x.f6.length x.f6) (hc : x.f6.length ≤ c) (hG : GOk x.f6) (hcf : CfOk cf x.f6.length) (ht : (-10000 ≤ t0 ∧ t0 ≤ 10000) ∧ -10000 ≤ t1 ∧ t1 ≤ 10000) :
  Calls Tryz.prog 141 (#[.agg #[.string x.f0, .int .i64 x.f1, .int .i64 x.f2, .int .i64 x.f3, .int .i64 x.f4, .int .i64 x.f5, .slice A x.f6.length c]] ++ #[.pointer (some ⟨F, 0, none⟩)]) W fun e w' => e = .returned (.int .i64 (gTS (fun k => cf k - t1) x.f6 x.f6.length)) ∧ Below W.heap.size W w' := by
 have hb0 : Below W.heap.size W (W.alloc (.cells #[.string x.f0, .int .i64 x.f1, .int .i64 x.f2, .int .i64 x.f3, .int .i64 x.f4, .int .i64 x.f5, .slice A x.f6.length c] 70)) := below_alloc (Below.refl _ _) _
 have hq2 : CoefQ 143 #[.pointer (some ⟨F, 0, none⟩)] (fun k => cf k - t1) x.f6.length (W.alloc (.cells #[.string x.f0, .int .i64 x.f1, .int .i64 x.f2, .int .i64 x.f3, .int .i64 x.f4, .int .i64 x.f5, .slice A x.f6.length c] 70)) := by
  intro W' hW' y hy0 hy1
  obtain ⟨j, hj, rfl⟩ : ∃ j : Nat, j < x.f6.length ∧ y = j := ⟨y.toNat, by omega, by omega⟩
  have h1 := hcf.at_ j hj
  exact l122_calls F g lb cf x.f6.length t0 t1 w W' eg hq (below_trans' hb (below_trans' hb0 hW')) (blk_below hF (below_trans' hb0 hW')) (j : Int) hy0 hy1 (wrap_id (by omega) (by omega))
 have hgo := greatest_calls x A c 143 #[.pointer (some ⟨F, 0, none⟩)] (fun k => cf k - t1) (W.alloc (.cells #[.string x.f0, .int .i64 x.f1, .int .i64 x.f2, .int .i64 x.f3, .int .i64 x.f4, .int .i64 x.f5, .slice A x.f6.length c] 70)) (enters_of Tryz.func143 (by kernel_rfl) rfl) hq2 (Kd.C_below hC hb0) hc hG ⟨fun j hj => by have h1 := hcf.at_ j hj; omega⟩
 have HB := Sd.mk hb0
 clear hC hc hG hb0 hq2 hq hb hF
 show Calls Tryz.prog 141 #[.agg #[.string x.f0, .int .i64 x.f1, .int .i64 x.f2, .int .i64 x.f3, .int .i64 x.f4, .int .i64 x.f5, .slice A x.f6.length c], .pointer (some ⟨F, 0, none⟩)] W _
 go_enter Tryz.func141, Tryz.ntmps141
 go_wp2_with fail
 generalize W.alloc (.cells #[.string x.f0, .int .i64 x.f1, .int .i64 x.f2, .int .i64 x.f3, .int .i64 x.f4, .int .i64 x.f5, .slice A x.f6.length c] 70) = w0 at *
 refine hgo.mono ?_
 clear hgo
 rintro e w1 ⟨rfl, hb⟩
 go_wp2
 go_ret
 exact ⟨rfl, below_trans' HB.out hb⟩
theorem l123_calls (x : S70) (A : Option Addr) (c F g : Nat) (lb : Array Value) (cf : Int → Int) (t0 t1 : Int) (w W : World) (eg : ∀ args w, (callFunc g args).run Tryz.prog w = .ok (.enter g args) w)
  (hq : CoefQ g lb cf x.f6.length w) (hb : Below w.heap.size w W) (hF : W.heap[F]? = some (.cells #[.func (.func g) #[] lb, .int .i64 t0, .int .i64 t1] 128 (0, 0)))
  (hC : Kd.C k27 W A x.f6.length x.f6) (hc : x.f6.length ≤ c) (hG : GOk x.f6) (hcf : CfOk cf x.f6.length) (ht : (-10000 ≤ t0 ∧ t0 ≤ 10000) ∧ -10000 ≤ t1 ∧ t1 ≤ 10000) :
  Calls Tryz.prog 144 (#[.agg #[.string x.f0, .int .i64 x.f1, .int .i64 x.f2, .int .i64 x.f3, .int .i64 x.f4, .int .i64 x.f5, .slice A x.f6.length c]] ++ #[.pointer (some ⟨F, 0, none⟩)]) W fun e w' => e = .returned (.int .i64 (gTS (fun k => t0 - cf k) x.f6 x.f6.length)) ∧ Below W.heap.size W w' := by
 have hb0 : Below W.heap.size W (W.alloc (.cells #[.string x.f0, .int .i64 x.f1, .int .i64 x.f2, .int .i64 x.f3, .int .i64 x.f4, .int .i64 x.f5, .slice A x.f6.length c] 70)) := below_alloc (Below.refl _ _) _
 have hq2 : CoefQ 145 #[.pointer (some ⟨F, 0, none⟩)] (fun k => t0 - cf k) x.f6.length (W.alloc (.cells #[.string x.f0, .int .i64 x.f1, .int .i64 x.f2, .int .i64 x.f3, .int .i64 x.f4, .int .i64 x.f5, .slice A x.f6.length c] 70)) := by
  intro W' hW' y hy0 hy1
  obtain ⟨j, hj, rfl⟩ : ∃ j : Nat, j < x.f6.length ∧ y = j := ⟨y.toNat, by omega, by omega⟩
  have h1 := hcf.at_ j hj
  exact l124_calls F g lb cf x.f6.length t0 t1 w W' eg hq (below_trans' hb (below_trans' hb0 hW')) (blk_below hF (below_trans' hb0 hW')) (j : Int) hy0 hy1 (wrap_id (by omega) (by omega))
 have hgo := greatest_calls x A c 145 #[.pointer (some ⟨F, 0, none⟩)] (fun k => t0 - cf k) (W.alloc (.cells #[.string x.f0, .int .i64 x.f1, .int .i64 x.f2, .int .i64 x.f3, .int .i64 x.f4, .int .i64 x.f5, .slice A x.f6.length c] 70)) (enters_of Tryz.func145 (by kernel_rfl) rfl) hq2 (Kd.C_below hC hb0) hc hG ⟨fun j hj => by have h1 := hcf.at_ j hj; omega⟩
 have HB := Sd.mk hb0
 clear hC hc hG hb0 hq2 hq hb hF
 show Calls Tryz.prog 144 #[.agg #[.string x.f0, .int .i64 x.f1, .int .i64 x.f2, .int .i64 x.f3, .int .i64 x.f4, .int .i64 x.f5, .slice A x.f6.length c], .pointer (some ⟨F, 0, none⟩)] W _
 go_enter Tryz.func144, Tryz.ntmps144
 go_wp2_with fail
 generalize W.alloc (.cells #[.string x.f0, .int .i64 x.f1, .int .i64 x.f2, .int .i64 x.f3, .int .i64 x.f4, .int .i64 x.f5, .slice A x.f6.length c] 70) = w0 at *
 refine hgo.mono ?_
 clear hgo
 rintro e w1 ⟨rfl, hb⟩
 go_wp2
 go_ret
 exact ⟨rfl, below_trans' HB.out hb⟩
def rUp (u : Int) (x : S70) : Int := 1000000 * x.f2 - mn (u * lowM x) (u * highM x)
def rDn (t : Int) (x : S70) : Int := mx (t * lowM x) (t * highM x) - 1000000 * x.f2
theorem mulr {c x : Int} (h1 : -10000 ≤ c) (h2 : c ≤ 10000) (h3 : 0 ≤ x) (h4 : x ≤ 1440000000) : -14400000000000 ≤ c * x ∧ c * x ≤ 14400000000000 := by
 have e1 := Int.mul_le_mul_of_nonneg_right h1 h3
 have e2 := Int.mul_le_mul_of_nonneg_right h2 h3
 omega
theorem l125_calls (x : S70) (A : Option Addr) (c U : Nat) (u : Int) (W : World) (hU : W.heap[U]? = some (.cells #[.int .i64 u] 3 (0, 0)))
  (hC : Kd.C k27 W A x.f6.length x.f6) (hc : x.f6.length ≤ c) (hG : GOk x.f6) (hu : -10000 ≤ u ∧ u ≤ 10000) (hr : -1000 ≤ x.f2 ∧ x.f2 ≤ 1000) :
  Calls Tryz.prog 146 (#[.agg #[.string x.f0, .int .i64 x.f1, .int .i64 x.f2, .int .i64 x.f3, .int .i64 x.f4, .int .i64 x.f5, .slice A x.f6.length c]] ++ #[.pointer (some ⟨U, 0, none⟩)]) W fun e w' => e = .returned (.int .i64 (rUp u x)) ∧ Below W.heap.size W w' := by
 have hb0 : Below W.heap.size W (W.alloc (.cells #[.string x.f0, .int .i64 x.f1, .int .i64 x.f2, .int .i64 x.f3, .int .i64 x.f4, .int .i64 x.f5, .slice A x.f6.length c] 70)) := below_alloc (Below.refl _ _) _
 have hgo := ends_calls x A c (W.alloc (.cells #[.string x.f0, .int .i64 x.f1, .int .i64 x.f2, .int .i64 x.f3, .int .i64 x.f4, .int .i64 x.f5, .slice A x.f6.length c] 70)) (Kd.C_below hC hb0) hc hG
 have hlb := lowM_bound hG
 have hp1 := mulr hu.1 hu.2 hlb.1 (Int.le_trans hlb.2.1 hlb.2.2)
 have hp2 := mulr hu.1 hu.2 (Int.le_trans hlb.1 hlb.2.1) hlb.2.2
 have HP1 := Sd.mk hp1
 have HP2 := Sd.mk hp2
 have HR := Sd.mk hr
 have HB := Sd.mk hb0
 have BU := Sd.mk (blk_below hU hb0)
 have BM := Sd.mk (blk_new W (.cells #[.string x.f0, .int .i64 x.f1, .int .i64 x.f2, .int .i64 x.f3, .int .i64 x.f4, .int .i64 x.f5, .slice A x.f6.length c] 70))
 clear hC hc hG hb0 hu hr hlb hp1 hp2 hU
 show Calls Tryz.prog 146 #[.agg #[.string x.f0, .int .i64 x.f1, .int .i64 x.f2, .int .i64 x.f3, .int .i64 x.f4, .int .i64 x.f5, .slice A x.f6.length c], .pointer (some ⟨U, 0, none⟩)] W _
 go_enter Tryz.func146, Tryz.ntmps146
 go_wp2_with fail
 generalize W.alloc (.cells #[.string x.f0, .int .i64 x.f1, .int .i64 x.f2, .int .i64 x.f3, .int .i64 x.f4, .int .i64 x.f5, .slice A x.f6.length c] 70) = w0 at *
 refine hgo.mono ?_
 clear hgo
 rintro e w1 ⟨rfl, hb⟩
 have HB1 := Sd.mk hb
 have hm2 : w1.cell? ⟨W.heap.size, 0 + 2, none⟩ = some (.int .i64 x.f2) := (blk_cell (blk_below BM.out hb) 2).trans rfl
 have hu0 : w1.cell? ⟨U, 0, none⟩ = some (.int .i64 u) := (blk_cell (blk_below BU.out hb) 0).trans rfl
 obtain ⟨hp1, hp1'⟩ := HP1.out
 obtain ⟨hp2, hp2'⟩ := HP2.out
 obtain ⟨hr1, hr2⟩ := HR.out
 clear hb
 go_wp2
 all_goals
  go_ret
  refine ⟨?_, below_trans' HB.out HB1.out⟩
  unfold rUp mn
  first | rw [if_pos (by assumption)] | rw [if_neg (Int.not_lt.2 (by assumption))]
  try rfl
theorem l126_calls (x : S70) (A : Option Addr) (c U : Nat) (u : Int) (W : World) (hU : W.heap[U]? = some (.cells #[.int .i64 u] 3 (0, 0)))
  (hC : Kd.C k27 W A x.f6.length x.f6) (hc : x.f6.length ≤ c) (hG : GOk x.f6) (hu : -10000 ≤ u ∧ u ≤ 10000) (hr : -1000 ≤ x.f2 ∧ x.f2 ≤ 1000) :
  Calls Tryz.prog 147 (#[.agg #[.string x.f0, .int .i64 x.f1, .int .i64 x.f2, .int .i64 x.f3, .int .i64 x.f4, .int .i64 x.f5, .slice A x.f6.length c]] ++ #[.pointer (some ⟨U, 0, none⟩)]) W fun e w' => e = .returned (.int .i64 (rDn u x)) ∧ Below W.heap.size W w' := by
 have hb0 : Below W.heap.size W (W.alloc (.cells #[.string x.f0, .int .i64 x.f1, .int .i64 x.f2, .int .i64 x.f3, .int .i64 x.f4, .int .i64 x.f5, .slice A x.f6.length c] 70)) := below_alloc (Below.refl _ _) _
 have hgo := ends_calls x A c (W.alloc (.cells #[.string x.f0, .int .i64 x.f1, .int .i64 x.f2, .int .i64 x.f3, .int .i64 x.f4, .int .i64 x.f5, .slice A x.f6.length c] 70)) (Kd.C_below hC hb0) hc hG
 have hlb := lowM_bound hG
 have hp1 := mulr hu.1 hu.2 hlb.1 (Int.le_trans hlb.2.1 hlb.2.2)
 have hp2 := mulr hu.1 hu.2 (Int.le_trans hlb.1 hlb.2.1) hlb.2.2
 have HP1 := Sd.mk hp1
 have HP2 := Sd.mk hp2
 have HR := Sd.mk hr
 have HB := Sd.mk hb0
 have BU := Sd.mk (blk_below hU hb0)
 have BM := Sd.mk (blk_new W (.cells #[.string x.f0, .int .i64 x.f1, .int .i64 x.f2, .int .i64 x.f3, .int .i64 x.f4, .int .i64 x.f5, .slice A x.f6.length c] 70))
 clear hC hc hG hb0 hu hr hlb hp1 hp2 hU
 show Calls Tryz.prog 147 #[.agg #[.string x.f0, .int .i64 x.f1, .int .i64 x.f2, .int .i64 x.f3, .int .i64 x.f4, .int .i64 x.f5, .slice A x.f6.length c], .pointer (some ⟨U, 0, none⟩)] W _
 go_enter Tryz.func147, Tryz.ntmps147
 go_wp2_with fail
 generalize W.alloc (.cells #[.string x.f0, .int .i64 x.f1, .int .i64 x.f2, .int .i64 x.f3, .int .i64 x.f4, .int .i64 x.f5, .slice A x.f6.length c] 70) = w0 at *
 refine hgo.mono ?_
 clear hgo
 rintro e w1 ⟨rfl, hb⟩
 have HB1 := Sd.mk hb
 have hm2 : w1.cell? ⟨W.heap.size, 0 + 2, none⟩ = some (.int .i64 x.f2) := (blk_cell (blk_below BM.out hb) 2).trans rfl
 have hu0 : w1.cell? ⟨U, 0, none⟩ = some (.int .i64 u) := (blk_cell (blk_below BU.out hb) 0).trans rfl
 obtain ⟨hp1, hp1'⟩ := HP1.out
 obtain ⟨hp2, hp2'⟩ := HP2.out
 obtain ⟨hr1, hr2⟩ := HR.out
 clear hb
 go_wp2
 all_goals
  go_ret
  refine ⟨?_, below_trans' HB.out HB1.out⟩
  unfold rDn mx
  first | rw [if_pos (by assumption)] | rw [if_neg (Int.not_lt.2 (by assumption))]
  try rfl
end
section
attribute [local go_sem] max2_int min2_int max_two min_two
theorem goesV_ {P : Program} {ops : Array Oper} {Q : Exit → Act → World → Prop} {oi : Oper} {N : Option Tmp} {a : Act} {w : World} {K : Act → World → Prop} (f : FuncId) (lb : Array Value) (eg : ∀ args w, (callFunc f args).run P w = .ok (.enter f args) w)
  {t : Tmp} {as_ : Array Operand} {ts : Array TypeId} (args : Array Value) (hw : Region.wanted oi (yielded ops a.tmps) = true) (hN : oi.dst = N) (hop : oi.op = .call { callee := .value (.tmp t), args := as_, argTypes := ts })
  (ht : a.eval (.tmp t) = .func (.func f) #[] lb) (hargs : as_.map a.eval = args) (h : Calls P f (args ++ lb) w fun e w' => ∃ v, e = .returned v ∧ K (a.put N v) w') : if Region.wanted oi (yielded ops a.tmps) = true then Oper.wp P oi a w K Q else K (a.put N undef) w := by
 refine call_ f (args ++ lb) hw hN ?_ h
 have he := eg (args ++ lb) w
 have ht' : a.tmps.getD t undef = .func (.func f) #[] lb := ht
 unfold execOp
 simp [hop, resolve, Deferred.ofValue, invoke, Act.eval, ht', ht, hargs, he]
def FacQ (g : Nat) (lb : Array Value) (fc : S70 → Int) (mt : List S70) (w : World) : Prop :=
 ∀ W, Below w.heap.size w W → ∀ i : Nat, i < mt.length → ∀ A c, Kd.C k27 W A (rd_T70 mt (i : Int)).f6.length (rd_T70 mt (i : Int)).f6 → (rd_T70 mt (i : Int)).f6.length ≤ c →
  Calls Tryz.prog g (#[.agg #[.string (rd_T70 mt (i : Int)).f0, .int .i64 (rd_T70 mt (i : Int)).f1, .int .i64 (rd_T70 mt (i : Int)).f2, .int .i64 (rd_T70 mt (i : Int)).f3, .int .i64 (rd_T70 mt (i : Int)).f4, .int .i64 (rd_T70 mt (i : Int)).f5, .slice A (rd_T70 mt (i : Int)).f6.length c]] ++ lb) W fun e w' => e = .returned (.int .i64 (fc (rd_T70 mt (i : Int)))) ∧ Below W.heap.size W w'
def lineT : Bool × List (List Nat × List Nat) := (true, [([], []), ([0], [0]), ([], []), ([], []), ([2, 3], [2, 3]), ([4], [4]), ([1, 5, 4], [1, 5]), ([0, 1, 2, 3, 4, 5, 6], []), ([7, 6, 6, 0, 1, 2, 3, 4, 5, 6], [6, 7])])
def lineB : List Nat := [0, 1, 0, 0, 12, 28, 63, 127, 255]
theorem line_tab : rtab .any (opsOf Tryz.f138 5) = lineT := by kernel_rfl
theorem line_bits : waitsOk lineT.2 lineB = true := by kernel_rfl
structure LineW (w W : World) (b : Int) (fl : List Int) : Prop where
 below : Below w.heap.size w W
 res : W.heap[w.heap.size + 1]? = some (.cells #[.slice none 0 0, .int .i64 0] 168 (0, 0))
 out : ∃ A c, W.heap[w.heap.size + 2]? = some (.cells #[.slice A fl.length c, .int .i64 b] 168 (0, 0)) ∧ Kd.R (Kd.int .i64) 3 W w.heap.size (fun _ => True) (.slice A fl.length c) fl
theorem line_calls (A0 A1 A2 A3 : Option Addr) (n0 c0 c1 n2 c2 n3 c3 : Nat) (mt : List S70) (a4 a5 a6 b : Int) (g : Nat) (lb : Array Value) (fc : S70 → Int) (w : World)
  (eg : ∀ args w, (callFunc g args).run Tryz.prog w = .ok (.enter g args) w) (hq : FacQ g lb fc mt w) (hC : Kd.C k70 w A1 mt.length mt) (hm : mt.length ≤ 12) :
  Calls Tryz.prog 138 #[.agg #[.slice A0 n0 c0, .slice A1 mt.length c1, .slice A2 n2 c2, .slice A3 n3 c3, .int .i64 a4, .int .i64 a5, .int .i64 a6], .int .i64 b, .func (.func g) #[] lb] w fun e w' =>
   ∃ v, e = .returned (.agg #[v, .int .i64 b]) ∧ Kd.R (Kd.int .i64) 3 w' w.heap.size (fun _ => True) v (mt.map fc) ∧ Below w.heap.size w w' := by
 have hlw : LineW w (((w.alloc (.cells #[.slice A0 n0 c0, .slice A1 mt.length c1, .slice A2 n2 c2, .slice A3 n3 c3, .int .i64 a4, .int .i64 a5, .int .i64 a6] 29)).alloc (.cells #[.slice none 0 0, .int .i64 0] 168)).alloc (.cells #[.slice none 0 0, .int .i64 b] 168)) b (List.map fc (mt.take 0)) := by
  refine ⟨below_alloc (below_alloc (below_alloc (Below.refl _ _) _) _) _, ?_, none, 0, ?_, ?_⟩
  ·have := blk_alloc (blk_new (w.alloc (.cells #[.slice A0 n0 c0, .slice A1 mt.length c1, .slice A2 n2 c2, .slice A3 n3 c3, .int .i64 a4, .int .i64 a5, .int .i64 a6] 29)) (.cells #[.slice none 0 0, .int .i64 0] 168)) (.cells #[.slice none 0 0, .int .i64 b] 168)
   simpa using this
  ·have := blk_new ((w.alloc (.cells #[.slice A0 n0 c0, .slice A1 mt.length c1, .slice A2 n2 c2, .slice A3 n3 c3, .int .i64 a4, .int .i64 a5, .int .i64 a6] 29)).alloc (.cells #[.slice none 0 0, .int .i64 0] 168)) (.cells #[.slice none 0 0, .int .i64 b] 168)
   simpa using this
  ·exact Kd.R_nil _ _ _ _ _
 have HQ := Sd.mk hq
 have HC := Sd.mk hC
 have HM := Sd.mk hm
 have HLW := Sd.mk hlw
 have hc1 : (((w.alloc (.cells #[.slice A0 n0 c0, .slice A1 mt.length c1, .slice A2 n2 c2, .slice A3 n3 c3, .int .i64 a4, .int .i64 a5, .int .i64 a6] 29)).alloc (.cells #[.slice none 0 0, .int .i64 0] 168)).alloc (.cells #[.slice none 0 0, .int .i64 b] 168)).cell? ⟨w.heap.size, 0 + 1, none⟩ = some (.slice A1 mt.length c1) := (blk_cell (blk_alloc (blk_alloc (blk_new w _) _) _) 1).trans rfl
 clear hq hC hlw
 go_enter Tryz.func138, Tryz.ntmps138
 go_wp2
 clear hc1
 generalize ((w.alloc (.cells #[.slice A0 n0 c0, .slice A1 mt.length c1, .slice A2 n2 c2, .slice A3 n3 c3, .int .i64 a4, .int .i64 a5, .int .i64 a6] 29)).alloc (.cells #[.slice none 0 0, .int .i64 0] 168)).alloc (.cells #[.slice none 0 0, .int .i64 b] 168) = w0 at HLW ⊢
 go_loopg [15] mt.length (fun gq v15 wr => ∃ k : Nat, v15 = .int .i64 k ∧ k ≤ mt.length ∧ mt.length - k ≤ gq ∧ Sd (LineW w wr b (List.map fc (mt.take k))))
 case atStart => exact ⟨0, rfl, Nat.zero_le _, by omega, HLW⟩
 case round =>
  clear HLW
  obtain ⟨k, rfl, hk, hgk, HW⟩ := hrel
  have hm12 := HM.out
  by_cases hlt : k < mt.length
  ·have hltz : (k : Int) < (mt.length : Int) := by omega
   obtain ⟨A, c, hO, hR⟩ := HW.out.out
   obtain ⟨ad, A6, c6, rfl, hx0, hx1, hx2, hx3, hx4, hx5, hx6, hl6, hi6⟩ := at_T70 (Kd.C_below HC.out HW.out.below) (k : Int) (by omega) hltz
   simp only [Int.toNat_natCast] at hx0 hx1 hx2 hx3 hx4 hx5 hx6
   have BM := Sd.mk (blk_new wr (.cells #[.string (rd_T70 mt (k : Int)).f0, .int .i64 (rd_T70 mt (k : Int)).f1, .int .i64 (rd_T70 mt (k : Int)).f2, .int .i64 (rd_T70 mt (k : Int)).f3, .int .i64 (rd_T70 mt (k : Int)).f4, .int .i64 (rd_T70 mt (k : Int)).f5, .slice A6 (rd_T70 mt (k : Int)).f6.length c6] 70))
   have BO := Sd.mk (blk_alloc hO (.cells #[.string (rd_T70 mt (k : Int)).f0, .int .i64 (rd_T70 mt (k : Int)).f1, .int .i64 (rd_T70 mt (k : Int)).f2, .int .i64 (rd_T70 mt (k : Int)).f3, .int .i64 (rd_T70 mt (k : Int)).f4, .int .i64 (rd_T70 mt (k : Int)).f5, .slice A6 (rd_T70 mt (k : Int)).f6.length c6] 70))
   have BR := Sd.mk (blk_alloc HW.out.res (.cells #[.string (rd_T70 mt (k : Int)).f0, .int .i64 (rd_T70 mt (k : Int)).f1, .int .i64 (rd_T70 mt (k : Int)).f2, .int .i64 (rd_T70 mt (k : Int)).f3, .int .i64 (rd_T70 mt (k : Int)).f4, .int .i64 (rd_T70 mt (k : Int)).f5, .slice A6 (rd_T70 mt (k : Int)).f6.length c6] 70))
   have HB := Sd.mk (below_alloc HW.out.below (.cells #[.string (rd_T70 mt (k : Int)).f0, .int .i64 (rd_T70 mt (k : Int)).f1, .int .i64 (rd_T70 mt (k : Int)).f2, .int .i64 (rd_T70 mt (k : Int)).f3, .int .i64 (rd_T70 mt (k : Int)).f4, .int .i64 (rd_T70 mt (k : Int)).f5, .slice A6 (rd_T70 mt (k : Int)).f6.length c6] 70))
   have HR := Sd.mk (Kd.R_alloc hR (.cells #[.string (rd_T70 mt (k : Int)).f0, .int .i64 (rd_T70 mt (k : Int)).f1, .int .i64 (rd_T70 mt (k : Int)).f2, .int .i64 (rd_T70 mt (k : Int)).f3, .int .i64 (rd_T70 mt (k : Int)).f4, .int .i64 (rd_T70 mt (k : Int)).f5, .slice A6 (rd_T70 mt (k : Int)).f6.length c6] 70))
   have NXO := Sd.mk (show w.heap.size + 2 ≠ wr.heap.size from Nat.ne_of_lt (blk_lt hO))
   have hfl : (List.map fc (mt.take k)).length = k := by simp; omega
   have HFL := Sd.mk hfl
   have HSTEP : Sd (List.map fc (mt.take k) ++ [fc (rd_T70 mt (k : Int))] = List.map fc (mt.take (k + 1))) := ⟨by rw [List.take_succ_eq_append_getElem hlt, List.map_append]; simp [rd_T70, hlt]⟩
   have HCALL := Sd.mk (fun W hW => HQ.out W hW k hlt A6 c6)
   have HL6 := Sd.mk hl6
   have HI6 := Sd.mk (Kd.C_alloc hi6 (.cells #[.string (rd_T70 mt (k : Int)).f0, .int .i64 (rd_T70 mt (k : Int)).f1, .int .i64 (rd_T70 mt (k : Int)).f2, .int .i64 (rd_T70 mt (k : Int)).f3, .int .i64 (rd_T70 mt (k : Int)).f4, .int .i64 (rd_T70 mt (k : Int)).f5, .slice A6 (rd_T70 mt (k : Int)).f6.length c6] 70))
   clear hO hR HW hfl hl6 hi6
   go_upto_region 5 with (fail)
   clear hx0 hx1 hx2 hx3 hx4 hx5 hx6
   generalize hfv : List.map fc (mt.take k) = fl at *
   clear hfv
   generalize hWX : wr.alloc (.cells #[.string (rd_T70 mt (k : Int)).f0, .int .i64 (rd_T70 mt (k : Int)).f1, .int .i64 (rd_T70 mt (k : Int)).f2, .int .i64 (rd_T70 mt (k : Int)).f3, .int .i64 (rd_T70 mt (k : Int)).f4, .int .i64 (rd_T70 mt (k : Int)).f5, .slice A6 (rd_T70 mt (k : Int)).f6.length c6] 70) = WX at *
   clear hWX
   generalize hXX : wr.heap.size = X at *
   generalize hOO : w.heap.size + 2 = O at *
   refine start_ (n := 9) (S := fun w' => w'.cell? ⟨O, 0, none⟩ = some (.slice A fl.length c) ∧ w'.cell? ⟨X, 0, none⟩ = some (.string (rd_T70 mt (k : Int)).f0) ∧ w'.cell? ⟨X, 1, none⟩ = some (.int .i64 (rd_T70 mt (k : Int)).f1) ∧ w'.cell? ⟨X, 2, none⟩ = some (.int .i64 (rd_T70 mt (k : Int)).f2) ∧ w'.cell? ⟨X, 3, none⟩ = some (.int .i64 (rd_T70 mt (k : Int)).f3) ∧ w'.cell? ⟨X, 4, none⟩ = some (.int .i64 (rd_T70 mt (k : Int)).f4) ∧ w'.cell? ⟨X, 5, none⟩ = some (.int .i64 (rd_T70 mt (k : Int)).f5) ∧ w'.cell? ⟨X, 6, none⟩ = some (.slice A6 (rd_T70 mt (k : Int)).f6.length c6)) (ds := [8]) #[false, false, false, false, false, false, false, false, false] (by kernel_rfl) rfl rfl ⟨(blk_cell BO.out 0).trans rfl, (blk_cell BM.out 0).trans rfl, (blk_cell BM.out 1).trans rfl, (blk_cell BM.out 2).trans rfl, (blk_cell BM.out 3).trans rfl, (blk_cell BM.out 4).trans rfl, (blk_cell BM.out 5).trans rfl, (blk_cell BM.out 6).trans rfl⟩ (fun hHeld => ?_); refine with_tabW line_tab line_bits (fun HT_ HW_ => ?_)
   replace BM := Sd.mk (blk_drew BM.out)
   replace BO := Sd.mk (blk_drew BO.out)
   replace BR := Sd.mk (blk_drew BR.out)
   replace HB := Sd.mk (below_drew1 HB.out)
   replace HI6 := Sd.mk (Kd.C_drew HI6.out)
   replace HR := Sd.mk (Kd.R_drew HR.out)
   generalize WX.drew = W0 at BM BO BR HB HI6 HR hHeld ⊢
   refine pure_ (i := 0) (N := some 19) (v := ?_) (a' := ?_) #[true, false, false, false, false, false, false, false, false] rfl rfl (any_of HT_.out (by kernel_rfl)) (fun _ _ _ h => h) (Or.inl ⟨by rfl, ?_⟩) ?_ ?_
   rotate_left
   ·exact tW
   rotate_left
   ·exact tP
   refine take_ (i := 1) (N := some 20) (v := ?_) (a' := ?_) #[true, true, false, false, false, false, false, false, false] rfl rfl (take_ofW HT_.out HW_.out (by kernel_rfl)) (fun _ _ _ h => h) (Or.inl ⟨by rfl, ?_⟩) hHeld ?_ ?_
   rotate_left
   ·rintro w' ⟨s0, s1, s2, s3, s4, s5, s6, s7⟩
    go_simp
    with_reducible rfl
   rotate_left
   ·exact tP
   refine pure_ (i := 2) (N := some 21) (v := ?_) (a' := ?_) #[true, true, true, false, false, false, false, false, false] rfl rfl (any_of HT_.out (by kernel_rfl)) (fun _ _ _ h => h) (Or.inl ⟨by rfl, ?_⟩) ?_ ?_
   rotate_left
   ·exact tW
   rotate_left
   ·exact tP
   refine take_ (i := 3) (N := some 22) (v := ?_) (a' := ?_) #[true, true, true, true, false, false, false, false, false] rfl rfl (take_ofW HT_.out HW_.out (by kernel_rfl)) (fun _ _ _ h => h) (Or.inl ⟨by rfl, ?_⟩) hHeld ?_ ?_
   rotate_left
   ·rintro w' ⟨s0, s1, s2, s3, s4, s5, s6, s7⟩
    go_simp
    with_reducible rfl
   rotate_left
   ·exact tP
   refine one_ (i := 4) (N := some 23) #[true, true, true, true, true, false, false, false, false] rfl rfl (one_of HT_.out (by kernel_rfl)) (by decide) (fun K hK => ?_)
   refine goesV_ g lb eg #[.agg #[.string (rd_T70 mt (k : Int)).f0, .int .i64 (rd_T70 mt (k : Int)).f1, .int .i64 (rd_T70 mt (k : Int)).f2, .int .i64 (rd_T70 mt (k : Int)).f3, .int .i64 (rd_T70 mt (k : Int)).f4, .int .i64 (rd_T70 mt (k : Int)).f5, .slice A6 (rd_T70 mt (k : Int)).f6.length c6]] (by rfl) rfl rfl (by rfl) (by (try simp only [List.map_toArray, List.map_cons, List.map_nil]); first | done | rfl) ?_
   refine (HCALL.out W0 HB.out HI6.out HL6.out).mono ?_
   rintro e w4 ⟨rfl, hb⟩
   refine ⟨_, rfl, ?_⟩
   replace BM := Sd.mk (blk_below BM.out hb)
   replace BO := Sd.mk (blk_below BO.out hb)
   replace BR := Sd.mk (blk_below BR.out hb)
   replace HB := Sd.mk (below_step HB.out hb)
   replace HR := Sd.mk (Kd.R_below HR.out hb)
   clear hb HI6 HCALL
   refine hK.out _ _ ⟨(blk_cell BO.out 0).trans rfl, (blk_cell BM.out 0).trans rfl, (blk_cell BM.out 1).trans rfl, (blk_cell BM.out 2).trans rfl, (blk_cell BM.out 3).trans rfl, (blk_cell BM.out 4).trans rfl, (blk_cell BM.out 5).trans rfl, (blk_cell BM.out 6).trans rfl⟩ (fun hHeld => ?_)
   clear hK K
   refine norm_ (a' := ?_) ?_ ?_
   rotate_left
   ·show Act.put _ (some 23) _ = _
    exact tP
   refine one_ (i := 5) (N := some 24) #[true, true, true, true, true, true, false, false, false] rfl rfl (one_of HT_.out (by kernel_rfl)) (by decide) (fun K hK => ?_)
   refine value_ (w1 := ?_) (v := ?_) (by rfl) rfl ?_ ?_
   rotate_left 2
   ·go_simp
    constructor
    ·rfl
    ·rfl
   refine hK.out _ _ ⟨(blk_cell (blk_alloc BO.out _) 0).trans rfl, (blk_cell (blk_alloc BM.out _) 0).trans rfl, (blk_cell (blk_alloc BM.out _) 1).trans rfl, (blk_cell (blk_alloc BM.out _) 2).trans rfl, (blk_cell (blk_alloc BM.out _) 3).trans rfl, (blk_cell (blk_alloc BM.out _) 4).trans rfl, (blk_cell (blk_alloc BM.out _) 5).trans rfl, (blk_cell (blk_alloc BM.out _) 6).trans rfl⟩ (fun hHeld => ?_)
   clear hK K
   refine norm_ (a' := ?_) ?_ ?_
   rotate_left
   ·show Act.put _ (some 24) _ = _
    exact tP
   refine one_ (i := 6) (N := some 25) #[true, true, true, true, true, true, true, false, false] rfl rfl (one_of HT_.out (by kernel_rfl)) (by decide) (fun K hK => ?_)
   refine Kd.R_append_step (Kd.int .i64) (w0 := w) w.heap.size (by rfl) (.tmp 20) (.tmp 24) 30 3 (.int .i64 0) 8 rfl Tryz.underlying30 info3 rfl (by decide) (by omega) (.slice A fl.length c) fl (fc (rd_T70 mt (k : Int))) [.int .i64 (fc (rd_T70 mt (k : Int)))] (fun _ => True) (fun _ => False) rfl rfl ?aP (fun _ hk => hk.elim) ?aF ?aO ?aB ?aS ?aL ?_
   (case aP => exact rfl)
   (case aB => exact (by repeat (first | (with_reducible first | exact HB.out | apply below_alloc | apply pw_below_drewN | apply below_drew1) | exact HB.out)))
   (case aF => exact (fun _ _ => trivial))
   (case aO => exact (by (with_reducible repeat (first | apply Kd.R_alloc | apply Kd.R_drewN | apply Kd.R_drew)); exact HR.out))
   (case aS => exact below_size HB.out)
   (case aL => exact (by rw [HFL.out]; exact Nat.le_trans (Nat.mul_le_mul_right 8 (show k + 1 ≤ 13 by omega)) (by decide)))
   intro v1 w5 ho hb hg hat
   have HB2 := Sd.mk hb
   have HO := Sd.mk ho
   have BO2 := Sd.mk (blk_grown BO.out hg (Kd.R_ne HR.out BO.out (by decide)))
   have BM2 := Sd.mk (blk_grown BM.out hg (Kd.R_ne HR.out BM.out (by decide)))
   have BR2 := Sd.mk (blk_grown BR.out hg (Kd.R_ne HR.out BR.out (by decide)))
   clear HB HR BO BM BR hb ho hat hg
   refine hK.out _ _ ⟨(blk_cell BO2.out 0).trans rfl, (blk_cell BM2.out 0).trans rfl, (blk_cell BM2.out 1).trans rfl, (blk_cell BM2.out 2).trans rfl, (blk_cell BM2.out 3).trans rfl, (blk_cell BM2.out 4).trans rfl, (blk_cell BM2.out 5).trans rfl, (blk_cell BM2.out 6).trans rfl⟩ (fun hHeld => ?_)
   clear hK K
   refine norm_ (a' := ?_) ?_ ?_
   rotate_left
   ·show Act.put _ (some 25) _ = _
    exact tP
   refine pure_ (i := 7) (N := some 26) (v := ?_) (a' := ?_) #[true, true, true, true, true, true, true, true, false] rfl rfl (any_of HT_.out (by kernel_rfl)) (fun _ _ _ h => h) (Or.inl ⟨by rfl, ?_⟩) ?_ ?_
   rotate_left
   ·exact tW
   rotate_left
   ·exact tP
   have HO' := Sd.mk (Kd.R_types (t := 168) HO.out BO2.out (by decide))
   clear HO
   obtain ⟨A1', c1', rfl⟩ := Kd.R_slice HO'.out
   have hw0 : w5.cell? ⟨O, 0, none⟩ = some (.slice A fl.length c) := (blk_cell BO2.out 0).trans rfl
   have hwf := blk_frozen BO2.out 0
   refine last_ (i := 8) (N := none) #[true, true, true, true, true, true, true, true, true] rfl rfl (one_of HT_.out (by kernel_rfl)) (by decide) (fun K hK => ?_)
   refine skip_ (w1 := ?_) (by rfl) rfl ?_ ?_
   rotate_left
   ·go_simp
    rfl
   refine hK.out _ _ ?_
   clear hK K
   refine done_ (done_of HT_.out (by kernel_rfl)) ?_
   clear hw0 hwf
   go_wp2
   go_roundg (mt.length - (k + 1))
   case measure => omega
   case rel =>
    subst hOO
    refine ⟨k + 1, rfl, by omega, by omega, ⟨?_⟩⟩
    rw [← HSTEP.out]
    refine ⟨below_set HB2.out (by omega), blk_far BR2.out (p := ⟨w.heap.size + 2, 0, none⟩) (by simp) _, A1', c1', ?_, ?_⟩
    ·have h_ := blk_put (cs := #[.slice A fl.length c, .int .i64 b]) BO2.out 0 (.slice A1' (fl.length + 1) c1') rfl
     simpa using h_
    ·have h_ := Kd.R_mono (ok' := fun _ => True) (Kd.R_far HO'.out (fun _ hk => hk.2) (.slice A1' (fl.length + 1) c1') (p := ⟨w.heap.size + 2, 0, none⟩)) (fun _ _ => trivial)
     simpa using h_
  ·have hltz : ¬ (k : Int) < (mt.length : Int) := by omega
   obtain rfl : k = mt.length := by omega
   obtain ⟨A, c, hO, hR⟩ := HW.out.out
   have hT : List.map fc (mt.take mt.length) = List.map fc mt := by rw [List.take_length]
   rw [hT] at hO hR
   rw [List.length_map] at hO hR
   have HR := Sd.mk (Kd.R_types (t := 168) hR hO (by decide))
   have HR2 := Sd.mk (Kd.R_types (t := 168) hR HW.out.res (by decide))
   have c0 : wr.cell? ⟨w.heap.size + 2, 0, none⟩ = some (.slice A mt.length c) := (blk_cell hO 0).trans rfl
   have c1 : wr.cell? ⟨w.heap.size + 2, 1, none⟩ = some (.int .i64 b) := (blk_cell hO 1).trans rfl
   have r0 : wr.cell? ⟨w.heap.size + 1, 0, none⟩ = some (.slice none 0 0) := (blk_cell HW.out.res 0).trans rfl
   have r1 : wr.cell? ⟨w.heap.size + 1, 1, none⟩ = some (.int .i64 0) := (blk_cell HW.out.res 1).trans rfl
   have f0 := blk_frozen HW.out.res 0
   have f1 := blk_frozen HW.out.res 1
   clear hO hR hT
   go_wp2
   refine bodyPost_ret (results_cell_row rfl _ _ (w.heap.size + 1) 168 #[.slice A mt.length c, .int .i64 b] (0, 0) _ rfl (blk_put (cs := #[.slice A mt.length c, .int .i64 0]) (blk_put (cs := #[.slice none 0 0, .int .i64 0]) HW.out.res 0 _ rfl) 1 _ rfl) Tryz.underlying168 (by decide) (by kernel_rfl)) rfl ?_
   refine ⟨_, rfl, ?_, below_set (below_set HW.out.below (by omega)) (by omega)⟩
   exact Kd.R_mono (Kd.R_far (Kd.R_far HR2.out (fun _ hk => hk.2) _) (fun _ hk => hk.2) _) (fun _ _ => trivial)
end
section
attribute [local go_sem] max2_int min2_int max_two min_two
def tgOf (s : List S27) (p : List S89) (j : Nat) : S27 := if j < s.length then rd_T27 s (j : Int) else (rd_T89 p ((j - s.length : Nat) : Int)).f2
def upF (s : List S27) (p : List S89) (j : Nat) (x : S70) : Int := gTS (fun k => coefOf s p j k - (tgOf s p j).f1) x.f6 x.f6.length
def dnF (s : List S27) (p : List S89) (j : Nat) (x : S70) : Int := gTS (fun k => (tgOf s p j).f0 - coefOf s p j k) x.f6 x.f6.length
def pairL (mt : List S70) (s : List S27) (p : List S89) (j : Nat) : List S168 := [⟨mt.map (upF s p j), 0⟩, ⟨mt.map (dnF s p j), 0⟩]
def headL (mt : List S70) (s : List S27) (p : List S89) (a6 : Int) : Nat → List S168
 | 0 => [⟨mt.map (fun x => -lowM x), -1000 * a6⟩]
 | n + 1 => headL mt s p a6 n ++ pairL mt s p n
def linesV (mt : List S70) (s : List S27) (p : List S89) (a4 a5 a6 : Int) : List S168 := headL mt s p a6 (s.length + p.length) ++ [⟨mt.map (rUp a5), 0⟩, ⟨mt.map (rDn a4), 0⟩]
theorem headL_len (mt : List S70) (s : List S27) (p : List S89) (a6 : Int) : ∀ n, (headL mt s p a6 n).length = 1 + 2 * n
 | 0 => rfl
 | n + 1 => by simp only [headL, List.length_append, headL_len mt s p a6 n, pairL, List.length_cons, List.length_nil]; omega
section
variable {o : List ByteArray} {mt : List S70} {s : List S27} {p : List S89} {a4 a5 a6 : Int}
theorem mat_gok (H : BatchOk o mt s p a4 a5 a6) {i : Nat} (hi : i < mt.length) : GOk (rd_T70 mt (i : Int)).f6 := by
 have M := H.mats i hi
 refine ⟨by rw [M.len]; exact H.o12, fun j hj => ?_⟩
 have := M.con j (by rw [← M.len]; exact hj)
 omega
theorem coef_cfok (H : BatchOk o mt s p a4 a5 a6) {j : Nat} (hj : j < s.length + p.length) : CfOk (coefOf s p j) o.length := by
 refine ⟨fun i hi => ?_⟩
 unfold coefOf
 by_cases h : j < s.length
 ·rw [if_pos h]; split <;> omega
 ·rw [if_neg h]
  exact (H.pros (j - s.length) (by omega)).coef i hi
theorem tg_ok (H : BatchOk o mt s p a4 a5 a6) {j : Nat} (hj : j < s.length + p.length) : (-10000 ≤ (tgOf s p j).f0 ∧ (tgOf s p j).f0 ≤ 10000) ∧ -10000 ≤ (tgOf s p j).f1 ∧ (tgOf s p j).f1 ≤ 10000 := by
 unfold tgOf
 by_cases h : j < s.length
 ·rw [if_pos h]
  have := H.shares j h
  omega
 ·rw [if_neg h]
  have := (H.pros (j - s.length) (by omega)).target
  omega
theorem form_tg {w W : World} {j : Nat} {f : F128} (h : FormAt w W s p j f) : f.tg = tgOf s p j := by
 unfold tgOf
 by_cases hj : j < s.length
 ·obtain ⟨I, e, _⟩ := h.1 hj
  rw [if_pos hj, e]
 ·obtain ⟨P, A, c, e, _⟩ := h.2 (by omega)
  rw [if_neg hj, e]
theorem form_enters {w W : World} {j : Nat} {f : F128} (h : FormAt w W s p j f) : ∀ args w, (callFunc f.fn args).run Tryz.prog w = .ok (.enter f.fn args) w := by
 by_cases hj : j < s.length
 ·obtain ⟨I, e, _⟩ := h.1 hj
  rw [e]
  exact enters_of Tryz.func165 (by kernel_rfl) rfl
 ·obtain ⟨P, A, c, e, _⟩ := h.2 (by omega)
  rw [e]
  exact enters_of Tryz.func166 (by kernel_rfl) rfl
theorem facQ118 (H : BatchOk o mt s p a4 a5 a6) (w : World) : FacQ 139 #[] (fun x => -lowM x) mt w := by
 intro W hW i hi A c hC hc
 have h := l118_calls (rd_T70 mt (i : Int)) A c W hC hc (mat_gok H hi)
 simpa using h
theorem facQ_form (H : BatchOk o mt s p a4 a5 a6) {w W0 W1 : World} {j F : Nat} {f : F128} (hF : FormAt w W0 s p j f) (hj : j < s.length + p.length) (hb : Below w.heap.size w W0)
  (hFc : W1.heap[F]? = some (.cells #[.func (.func f.fn) #[] f.lb, .int .i64 f.tg.f0, .int .i64 f.tg.f1] 128 (0, 0))) (hb1 : Below W0.heap.size W0 W1) :
  FacQ 141 #[.pointer (some ⟨F, 0, none⟩)] (upF s p j) mt W1 ∧ FacQ 144 #[.pointer (some ⟨F, 0, none⟩)] (dnF s p j) mt W1 := by
 have T := tg_ok H hj
 have hco : ∀ i : Nat, i < mt.length → CoefQ f.fn f.lb (coefOf s p j) (rd_T70 mt (i : Int)).f6.length W0 ∧ CfOk (coefOf s p j) (rd_T70 mt (i : Int)).f6.length := by
  intro i hi
  have M := H.mats i hi
  refine ⟨hF.coef hb _ (fun hh => ?_), by rw [M.len]; exact coef_cfok H hj⟩
  have := (H.pros (j - s.length) (by omega)).len
  rw [M.len, this]
  exact Int.le_refl _
 constructor
 ·intro W hW i hi A c hC hc
  have h := l120_calls (rd_T70 mt (i : Int)) A c F f.fn f.lb (coefOf s p j) f.tg.f0 f.tg.f1 W0 W (form_enters hF) (hco i hi).1 (below_trans' hb1 hW) (blk_below hFc hW) hC hc (mat_gok H hi) (hco i hi).2 (by rw [form_tg hF]; exact T)
  rw [form_tg hF] at h
  exact h
 ·intro W hW i hi A c hC hc
  have h := l123_calls (rd_T70 mt (i : Int)) A c F f.fn f.lb (coefOf s p j) f.tg.f0 f.tg.f1 W0 W (form_enters hF) (hco i hi).1 (below_trans' hb1 hW) (blk_below hFc hW) hC hc (mat_gok H hi) (hco i hi).2 (by rw [form_tg hF]; exact T)
  rw [form_tg hF] at h
  exact h
theorem facQ125 (H : BatchOk o mt s p a4 a5 a6) {W1 : World} {U : Nat} {u : Int} (hu : -10000 ≤ u ∧ u ≤ 10000) (hU : W1.heap[U]? = some (.cells #[.int .i64 u] 3 (0, 0))) :
  FacQ 146 #[.pointer (some ⟨U, 0, none⟩)] (rUp u) mt W1 ∧ FacQ 147 #[.pointer (some ⟨U, 0, none⟩)] (rDn u) mt W1 :=
 ⟨fun W hW i hi A c hC hc => l125_calls (rd_T70 mt (i : Int)) A c U u W (blk_below hU hW) hC hc (mat_gok H hi) hu (H.mats i hi).redox,
  fun W hW i hi A c hC hc => l126_calls (rd_T70 mt (i : Int)) A c U u W (blk_below hU hW) hC hc (mat_gok H hi) hu (H.mats i hi).redox⟩
end
theorem R_litW {α : Type} (d : Kd α) (base e : Nat) {W : World} {xs : List α} {inner : List Value} {ok okp : Nat → Prop} (hrep : Reps (d.M W base okp) d.sz xs inner) (hok : ∀ k, okp k → ok k) (hfresh : ok W.heap.size) (hbase : base ≤ W.heap.size) (hm : xs.length ≤ 9223372036854775807) :
  d.R e (W.alloc (.cells inner.toArray e)) base ok (.slice (some ⟨W.heap.size, 0, none⟩) xs.length xs.length) xs := by
 refine ⟨fun k hk => ?_, inner, ?_, ?_⟩
 ·have : W.heap.size = k := by simpa [Value.ownBlock] using hk
  subst this
  exact hfresh
 ·have h2 := World.ownsRow_lit (base := base) (e := e) (size := d.sz) W inner.toArray xs.length hbase (by simpa [maxLen] using hm) (by simpa using hrep.1)
  simpa using h2
 ·refine hrep.imp_ (fun p c hp => d.M_mono (fun k hk => ⟨hok k hk.1, fun he => ?_⟩) (Kd.M_below (d.M_bound hp) (below_alloc (Below.refl _ _) _)))
  have h3 : k = W.heap.size := by simpa [Value.ownBlock] using he
  have := hk.2.2.1
  omega
theorem R_one51 {W : World} {base : Nat} {v : Value} {x : S168} (h : (Kd.int .i64).R 3 W base (fun _ => True) v x.f0) (hbase : base ≤ W.heap.size) :
  k168.R 168 (W.alloc (.cells #[v, .int .i64 x.f1] 168)) base (fun _ => True) (.slice (some ⟨W.heap.size, 0, none⟩) 1 1) [x] := by
 have hr : Reps (k168.M W base (fun _ => True)) k168.sz [x] [v, .int .i64 x.f1] := Reps.snoc (Reps.none _ _) (k168_mkM W base _ x h) rfl
 exact R_litW k168 base 168 hr (fun _ h => h) trivial hbase (by simp)
theorem pair_reads {W : World} {base : Nat} {v3 v1 v2 : Value} {xs : List S168} {x x' : S168} (HL : k168.R 168 W base (fun _ => True) v3 xs) (hx : 0 < xs.length) (h1 : (Kd.int .i64).R 3 W base (fun _ => True) v1 x.f0) (h2 : (Kd.int .i64).R 3 W base (fun _ => True) v2 x'.f0) (hbase : base ≤ W.heap.size) :
  ReadsRow (k168.M (W.alloc (.cells #[v1, .int .i64 x.f1, v2, .int .i64 x'.f1] 168)) base (fun j => some j ≠ v3.ownBlock)) k168.sz (W.alloc (.cells #[v1, .int .i64 x.f1, v2, .int .i64 x'.f1] 168)) (some ⟨W.heap.size, 0, none⟩) 2 [x, x'] := by
 obtain ⟨g, cap, rfl, _, hlt, cells, hg⟩ := Kd.R_form HL hx
 have e : ∀ j, j ≠ g → some j ≠ (Value.slice (some ⟨g, 0, none⟩) xs.length cap).ownBlock := by
  intro j hj he
  have : g = j := by simpa [Value.ownBlock] using he.symm
  exact hj this.symm
 have r1 := Kd.R_mono (Kd.R_types (t := 168) h1 hg (by decide)) (fun j hj => e j hj.2)
 have r2 := Kd.R_mono (Kd.R_types (t := 168) h2 hg (by decide)) (fun j hj => e j hj.2)
 have hr : Reps (k168.M W base (fun j => some j ≠ (Value.slice (some ⟨g, 0, none⟩) xs.length cap).ownBlock)) k168.sz [x, x'] [v1, .int .i64 x.f1, v2, .int .i64 x'.f1] := Reps.snoc (Reps.snoc (Reps.none _ _) (k168_mkM W base _ x r1) rfl) (k168_mkM W base _ x' r2) rfl
 have r := R_litW k168 base 168 hr (fun _ h => h) (e _ (Nat.ne_of_gt hlt)) hbase (by simp)
 obtain ⟨A, c, he, _, hrd⟩ := OwnRow.reads r.2
 cases he
 exact ReadsRow.imp_ hrd (Below.refl _ _) (fun _ _ hp => k168.M_mono (fun _ hk => hk.1) hp)
theorem info168 : (Tryz.prog.info? 168).map (fun i => (i.zero, i.size, i.bytes)) = some (some (.agg #[.slice none 0 0, .int .i64 0]), 2, 32) := by kernel_rfl
structure LinesW (w W : World) (cs : Array Value) (xs : List S168) (v : Value) : Prop where
 below : Below w.heap.size w W
 box : W.heap[w.heap.size]? = some (.cells cs 29 (0, 0))
 list : k168.R 168 W w.heap.size (fun _ => True) v xs
theorem LinesW.later {w W W' : World} {cs : Array Value} {xs : List S168} {v : Value} (h : LinesW w W cs xs v) (hb : Below W.heap.size W W') : LinesW w W' cs xs v :=
 ⟨below_step h.below hb, blk_below h.box hb, Kd.R_below h.list hb⟩
structure FormsOk (w W : World) (s : List S27) (p : List S89) (A : Option Addr) (c : Nat) (fs : List F128) : Prop where
 row : k128.R 128 W w.heap.size (fun _ => True) (.slice A fs.length c) fs
 at_ : ∀ j (hj : j < fs.length), FormAt w W s p j fs[j]
theorem FormsOk.reads {w W : World} {s : List S27} {p : List S89} {A : Option Addr} {c : Nat} {fs : List F128} (h : FormsOk w W s p A c fs) : Kd.C k128 W A fs.length fs := by
 obtain ⟨A', c', he, _, hC⟩ := Kd.R_reads h.row
 cases he
 exact hC
theorem FormsOk.later {w W W' : World} {s : List S27} {p : List S89} {A : Option Addr} {c : Nat} {fs : List F128} (h : FormsOk w W s p A c fs) (hb : Below W.heap.size W W') : FormsOk w W' s p A c fs :=
 ⟨Kd.R_below h.row hb, fun j hj => (h.at_ j hj).below hb⟩
theorem FormsOk.grown {w W W' : World} {s : List S27} {p : List S89} {A : Option Addr} {c : Nat} {fs : List F128} {base : Nat} {v3 : Value} {xs : List S168} (h : FormsOk w W s p A c fs) (HL : k168.R 168 W base (fun _ => True) v3 xs) (hx : 0 < xs.length) (hg : W.grownBy W' v3.ownBlock) : FormsOk w W' s p A c fs := by
 refine ⟨?_, fun j hj => ⟨fun hh => ?_, fun hh => ?_⟩⟩
 ·obtain ⟨g, cap, rfl, _, hlt, cells, hgb⟩ := Kd.R_form HL hx
  refine Kd.R_mono (Kd.R_grown (Kd.R_types (t := 168) h.row hgb (by decide)) hg (fun k hk he => hk.2 ?_)) (fun _ _ => trivial)
  have : g = k := by simpa [Value.ownBlock] using he.symm
  exact this.symm
 ·obtain ⟨I, e, hI⟩ := (h.at_ j hj).1 hh
  exact ⟨I, e, blk_grown hI hg (Kd.R_ne HL hI (by decide))⟩
 ·obtain ⟨P, A1, c1, e, hP, hC⟩ := (h.at_ j hj).2 hh
  exact ⟨P, A1, c1, e, blk_grown hP hg (Kd.R_ne HL hP (by decide)), hC⟩
def linesT : Bool × List (List Nat × List Nat) := (true, [([], []), ([], []), ([], []), ([1, 2], [1, 2]), ([], []), ([], []), ([4, 5, 3], [4, 5]), ([3, 6], [3, 6]), ([0, 7, 6], [0, 7]), ([8, 8, 0, 1, 2, 3, 4, 5, 6, 7, 8], [0, 8])])
def linesB : List Nat := [0, 0, 0, 6, 0, 0, 62, 126, 255, 511]
theorem lines_tab : rtab .any (opsOf Tryz.f52 5) = linesT := by kernel_rfl
theorem lines_bits : waitsOk linesT.2 linesB = true := by kernel_rfl
def lines7T : Bool × List (List Nat × List Nat) := (true, [([], []), ([0], [0]), ([1], [1]), ([], []), ([3], [3]), ([4], [4]), ([], []), ([], []), ([6, 2, 0, 1, 2, 6, 7], [2, 6]), ([7, 5, 8, 0, 1, 2, 3, 4, 5, 6, 7, 8], [5, 7])])
def lines7B : List Nat := [0, 1, 3, 0, 8, 24, 0, 0, 199, 511]
theorem lines7_tab : rtab .any (opsOf Tryz.f52 7) = lines7T := by kernel_rfl
theorem lines7_bits : waitsOk lines7T.2 lines7B = true := by kernel_rfl
def lines8T : Bool × List (List Nat × List Nat) := (true, [([], []), ([], []), ([], []), ([1, 2], [1, 2]), ([], []), ([], []), ([4, 5, 3], [4, 5]), ([3, 6], [3, 6]), ([0, 7, 6], [0, 7]), ([8, 8, 0, 1, 2, 3, 4, 5, 6, 7, 8], [8])])
theorem lines8_tab : rtab .any (opsOf Tryz.f52 8) = lines8T := by kernel_rfl
theorem lines8_bits : waitsOk lines8T.2 linesB = true := by kernel_rfl
theorem lines_calls (A0_0 : Option Addr) (c0_0 : Nat) (l0_0 : List ByteArray) (A0_1 : Option Addr) (c0_1 : Nat) (l0_1 : List (S70)) (A0_2 : Option Addr) (c0_2 : Nat) (l0_2 : List (S27)) (A0_3 : Option Addr) (c0_3 : Nat) (l0_3 : List (S89)) (a0_4 : Int) (a0_5 : Int) (a0_6 : Int) (w : World) (hr0_0 : Kd.C Kd.string w A0_0 l0_0.length l0_0) (hc0_0 : l0_0.length ≤ c0_0) (hr0_1 : Kd.C k70 w A0_1 l0_1.length l0_1) (hc0_1 : l0_1.length ≤ c0_1) (hr0_2 : Kd.C k27 w A0_2 l0_2.length l0_2) (hc0_2 : l0_2.length ≤ c0_2) (hr0_3 : Kd.C k89 w A0_3 l0_3.length l0_3) (hc0_3 : l0_3.length ≤ c0_3)
  (H : BatchOk l0_0 l0_1 l0_2 l0_3 a0_4 a0_5 a0_6) :
  Calls Tryz.prog 52 #[.agg #[.slice A0_0 l0_0.length c0_0, .slice A0_1 l0_1.length c0_1, .slice A0_2 l0_2.length c0_2, .slice A0_3 l0_3.length c0_3, .int .i64 a0_4, .int .i64 a0_5, .int .i64 a0_6]] w fun e w' => ∃ v0_ : Value, e = .returned v0_ ∧ Kd.R k168 168 w' w.heap.size (fun _ => True) v0_ (linesV l0_1 l0_2 l0_3 a0_4 a0_5 a0_6) ∧ Below w.heap.size w w' := by
 have hb0 : Below w.heap.size w (w.alloc (.cells #[.slice A0_0 l0_0.length c0_0, .slice A0_1 l0_1.length c0_1, .slice A0_2 l0_2.length c0_2, .slice A0_3 l0_3.length c0_3, .int .i64 a0_4, .int .i64 a0_5, .int .i64 a0_6] 29)) := below_alloc (Below.refl _ _) _
 have hbk := blk_new w (.cells #[.slice A0_0 l0_0.length c0_0, .slice A0_1 l0_1.length c0_1, .slice A0_2 l0_2.length c0_2, .slice A0_3 l0_3.length c0_3, .int .i64 a0_4, .int .i64 a0_5, .int .i64 a0_6] 29)
 have hgo := line_calls A0_0 A0_1 A0_2 A0_3 l0_0.length c0_0 c0_1 l0_2.length c0_2 l0_3.length c0_3 l0_1 a0_4 a0_5 a0_6 (-1000 * a0_6) 139 #[] (fun x => -lowM x) (w.alloc (.cells #[.slice A0_0 l0_0.length c0_0, .slice A0_1 l0_1.length c0_1, .slice A0_2 l0_2.length c0_2, .slice A0_3 l0_3.length c0_3, .int .i64 a0_4, .int .i64 a0_5, .int .i64 a0_6] 29)) (enters_of Tryz.func139 (by kernel_rfl) rfl) (facQ118 H _) (Kd.C_below hr0_1 hb0) H.m12
 have HR0 := Sd.mk hr0_0
 have HC0 := Sd.mk hc0_0
 have HR1 := Sd.mk hr0_1
 have HC1 := Sd.mk hc0_1
 have HR2 := Sd.mk hr0_2
 have HC2 := Sd.mk hc0_2
 have HR3 := Sd.mk hr0_3
 have HC3 := Sd.mk hc0_3
 have HH := Sd.mk H
 have HB := Sd.mk hb0
 have BK := Sd.mk hbk
 have hw6 := H.wanted
 obtain ⟨hw6a, hw6b⟩ := hw6
 have k0 : (w.alloc (.cells #[.slice A0_0 l0_0.length c0_0, .slice A0_1 l0_1.length c0_1, .slice A0_2 l0_2.length c0_2, .slice A0_3 l0_3.length c0_3, .int .i64 a0_4, .int .i64 a0_5, .int .i64 a0_6] 29)).cell? ⟨w.heap.size, 0, none⟩ = some (.slice A0_0 l0_0.length c0_0) := (blk_cell hbk 0).trans rfl
 have k1 : (w.alloc (.cells #[.slice A0_0 l0_0.length c0_0, .slice A0_1 l0_1.length c0_1, .slice A0_2 l0_2.length c0_2, .slice A0_3 l0_3.length c0_3, .int .i64 a0_4, .int .i64 a0_5, .int .i64 a0_6] 29)).cell? ⟨w.heap.size, 1, none⟩ = some (.slice A0_1 l0_1.length c0_1) := (blk_cell hbk 1).trans rfl
 have k2 : (w.alloc (.cells #[.slice A0_0 l0_0.length c0_0, .slice A0_1 l0_1.length c0_1, .slice A0_2 l0_2.length c0_2, .slice A0_3 l0_3.length c0_3, .int .i64 a0_4, .int .i64 a0_5, .int .i64 a0_6] 29)).cell? ⟨w.heap.size, 2, none⟩ = some (.slice A0_2 l0_2.length c0_2) := (blk_cell hbk 2).trans rfl
 have k3 : (w.alloc (.cells #[.slice A0_0 l0_0.length c0_0, .slice A0_1 l0_1.length c0_1, .slice A0_2 l0_2.length c0_2, .slice A0_3 l0_3.length c0_3, .int .i64 a0_4, .int .i64 a0_5, .int .i64 a0_6] 29)).cell? ⟨w.heap.size, 3, none⟩ = some (.slice A0_3 l0_3.length c0_3) := (blk_cell hbk 3).trans rfl
 have k4 : (w.alloc (.cells #[.slice A0_0 l0_0.length c0_0, .slice A0_1 l0_1.length c0_1, .slice A0_2 l0_2.length c0_2, .slice A0_3 l0_3.length c0_3, .int .i64 a0_4, .int .i64 a0_5, .int .i64 a0_6] 29)).cell? ⟨w.heap.size, 4, none⟩ = some (.int .i64 a0_4) := (blk_cell hbk 4).trans rfl
 have k5 : (w.alloc (.cells #[.slice A0_0 l0_0.length c0_0, .slice A0_1 l0_1.length c0_1, .slice A0_2 l0_2.length c0_2, .slice A0_3 l0_3.length c0_3, .int .i64 a0_4, .int .i64 a0_5, .int .i64 a0_6] 29)).cell? ⟨w.heap.size, 5, none⟩ = some (.int .i64 a0_5) := (blk_cell hbk 5).trans rfl
 have k6 : (w.alloc (.cells #[.slice A0_0 l0_0.length c0_0, .slice A0_1 l0_1.length c0_1, .slice A0_2 l0_2.length c0_2, .slice A0_3 l0_3.length c0_3, .int .i64 a0_4, .int .i64 a0_5, .int .i64 a0_6] 29)).cell? ⟨w.heap.size, 6, none⟩ = some (.int .i64 a0_6) := (blk_cell hbk 6).trans rfl
 have k6' : (w.alloc (.cells #[.slice A0_0 l0_0.length c0_0, .slice A0_1 l0_1.length c0_1, .slice A0_2 l0_2.length c0_2, .slice A0_3 l0_3.length c0_3, .int .i64 a0_4, .int .i64 a0_5, .int .i64 a0_6] 29)).cell? ⟨w.heap.size, 0 + 6, none⟩ = some (.int .i64 a0_6) := (blk_cell hbk 6).trans rfl
 clear hr0_0 hc0_0 hr0_1 hc0_1 hr0_2 hc0_2 hr0_3 hc0_3 H hb0 hbk
 go_enter Tryz.func52, Tryz.ntmps52
 go_wp2_with fail
 clear k0 k1 k2 k3 k4 k5 k6 k6' hw6a hw6b
 generalize w.alloc (.cells #[.slice A0_0 l0_0.length c0_0, .slice A0_1 l0_1.length c0_1, .slice A0_2 l0_2.length c0_2, .slice A0_3 l0_3.length c0_3, .int .i64 a0_4, .int .i64 a0_5, .int .i64 a0_6] 29) = w0 at *
 refine hgo.mono ?_
 clear hgo
 rintro e w1 ⟨v, rfl, hR, hb⟩
 have hlw : LinesW w (w1.alloc (.cells #[v, .int .i64 (-1000 * a0_6)] 168)) #[.slice A0_0 l0_0.length c0_0, .slice A0_1 l0_1.length c0_1, .slice A0_2 l0_2.length c0_2, .slice A0_3 l0_3.length c0_3, .int .i64 a0_4, .int .i64 a0_5, .int .i64 a0_6] (headL l0_1 l0_2 l0_3 a0_6 0) (.slice (some ⟨w1.heap.size, 0, none⟩) 1 1) :=
  ⟨below_alloc (below_step HB.out hb) _, blk_alloc (blk_below BK.out hb) _, R_one51 (x := ⟨List.map (fun x => -lowM x) l0_1, -1000 * a0_6⟩) (Kd.R_lower hR (below_size HB.out)) (below_size (below_step HB.out hb))⟩
 have HLW := Sd.mk hlw
 have hbA : Below w.heap.size w (w1.alloc (.cells #[v, .int .i64 (-1000 * a0_6)] 168)) := hlw.below
 have H := HH.out
 have hsz : (l0_2.length + l0_3.length + 1) * 24 ≤ 140737488355328 := Nat.le_trans (Nat.mul_le_mul_right 24 (show l0_2.length + l0_3.length + 1 ≤ 19 by have := H.slen; have := H.o12; have := H.p6; omega)) (by decide)
 have hgo := forms_calls A0_0 c0_0 l0_0 A0_1 c0_1 l0_1 A0_2 c0_2 l0_2 A0_3 c0_3 l0_3 a0_4 a0_5 a0_6 w (w1.alloc (.cells #[v, .int .i64 (-1000 * a0_6)] 168)) hbA (Kd.C_below HR0.out hbA) HC0.out (Kd.C_below HR1.out hbA) HC1.out (Kd.C_below HR2.out hbA) HC2.out HR3.out HC3.out hsz
 have k0 : (w1.alloc (.cells #[v, .int .i64 (-1000 * a0_6)] 168)).cell? ⟨w.heap.size, 0, none⟩ = some (.slice A0_0 l0_0.length c0_0) := (blk_cell hlw.box 0).trans rfl
 have k1 : (w1.alloc (.cells #[v, .int .i64 (-1000 * a0_6)] 168)).cell? ⟨w.heap.size, 1, none⟩ = some (.slice A0_1 l0_1.length c0_1) := (blk_cell hlw.box 1).trans rfl
 have k2 : (w1.alloc (.cells #[v, .int .i64 (-1000 * a0_6)] 168)).cell? ⟨w.heap.size, 2, none⟩ = some (.slice A0_2 l0_2.length c0_2) := (blk_cell hlw.box 2).trans rfl
 have k3 : (w1.alloc (.cells #[v, .int .i64 (-1000 * a0_6)] 168)).cell? ⟨w.heap.size, 3, none⟩ = some (.slice A0_3 l0_3.length c0_3) := (blk_cell hlw.box 3).trans rfl
 have k4 : (w1.alloc (.cells #[v, .int .i64 (-1000 * a0_6)] 168)).cell? ⟨w.heap.size, 4, none⟩ = some (.int .i64 a0_4) := (blk_cell hlw.box 4).trans rfl
 have k5 : (w1.alloc (.cells #[v, .int .i64 (-1000 * a0_6)] 168)).cell? ⟨w.heap.size, 5, none⟩ = some (.int .i64 a0_5) := (blk_cell hlw.box 5).trans rfl
 have k6 : (w1.alloc (.cells #[v, .int .i64 (-1000 * a0_6)] 168)).cell? ⟨w.heap.size, 6, none⟩ = some (.int .i64 a0_6) := (blk_cell hlw.box 6).trans rfl
 clear hlw hbA H hsz hR hb HB BK
 go_wp2_with fail
 clear k0 k1 k2 k3 k4 k5 k6
 generalize w1.alloc (.cells #[v, .int .i64 (-1000 * a0_6)] 168) = wA at *
 refine hgo.mono ?_
 clear hgo
 rintro e w2 ⟨Af, cf, fs, rfl, hfc, hfC, hfl, hF, hb2, hfR⟩
 have HLW2 := Sd.mk (HLW.out.later hb2)
 have HFO := Sd.mk (FormsOk.mk (Kd.R_lower hfR (below_size HLW.out.below)) hF)
 have HFL := Sd.mk hfl
 have hfz : (fs.length : Int) < 9223372036854775807 := by have H := HH.out; have := H.slen; have := H.o12; have := H.p6; omega
 have HFZ := Sd.mk hfz
 clear HLW hb2 hfC hfl hF hfR
 go_wp2
 clear hfc hfz
 go_loopg [3, 17] fs.length (fun gq v3 v17 wr => ∃ k : Nat, v17 = .int .i64 k ∧ k ≤ fs.length ∧ fs.length - k ≤ gq ∧ Sd (LinesW w wr #[.slice A0_0 l0_0.length c0_0, .slice A0_1 l0_1.length c0_1, .slice A0_2 l0_2.length c0_2, .slice A0_3 l0_3.length c0_3, .int .i64 a0_4, .int .i64 a0_5, .int .i64 a0_6] (headL l0_1 l0_2 l0_3 a0_6 k) v3) ∧ Sd (FormsOk w wr l0_2 l0_3 Af cf fs))
 case atStart => exact ⟨0, rfl, Nat.zero_le _, by omega, HLW2, HFO⟩
 case round =>
  clear HLW2 HFO
  obtain ⟨k, rfl, hk, hgk, HW, HFO⟩ := hrel
  have hfz := HFZ.out
  by_cases hlt : k < fs.length
  ·have hltz : (k : Int) < (fs.length : Int) := by omega
   obtain ⟨ad, rfl, hx0, hx1, hx2⟩ := at_T128 HFO.out.reads k hlt
   have HFK := Sd.mk (HFO.out.at_ k hlt)
   generalize hff : fs[k] = f at *
   clear hff
   have HLX := Sd.mk (HW.out.later (below_alloc (Below.refl _ _) (.cells #[.func (.func f.fn) #[] f.lb, .int .i64 f.tg.f0, .int .i64 f.tg.f1] 128)))
   have BF := Sd.mk (blk_new wr (.cells #[.func (.func f.fn) #[] f.lb, .int .i64 f.tg.f0, .int .i64 f.tg.f1] 128))
   have H := HH.out
   have hkl : k < l0_2.length + l0_3.length := by have := HFL.out; omega
   have hfq := facQ_form H (F := wr.heap.size) (W1 := wr.alloc (.cells #[.func (.func f.fn) #[] f.lb, .int .i64 f.tg.f0, .int .i64 f.tg.f1] 128)) HFK.out hkl HW.out.below (blk_new wr (.cells #[.func (.func f.fn) #[] f.lb, .int .i64 f.tg.f0, .int .i64 f.tg.f1] 128)) (below_alloc (Below.refl _ _) _)
   have HQ := Sd.mk hfq
   have HFY := Sd.mk (HFO.out.later (below_alloc (Below.refl _ _) (.cells #[.func (.func f.fn) #[] f.lb, .int .i64 f.tg.f0, .int .i64 f.tg.f1] 128)))
   have HKL := Sd.mk hkl
   have HK := Sd.mk hgk
   have HLT := Sd.mk hlt
   have HM12 := Sd.mk H.m12
   clear HW HFO H hkl hfq hgk hlt
   go_upto_region 5 with (fail)
   clear hx0 hx1 hx2
   generalize wr.alloc (.cells #[.func (.func f.fn) #[] f.lb, .int .i64 f.tg.f0, .int .i64 f.tg.f1] 128) = WX at *
   generalize hXX : wr.heap.size = X at *
   clear hXX
   have HB := Sd.mk HLX.out.below
   have BK := Sd.mk HLX.out.box
   have HL := Sd.mk HLX.out.list
   have HBZ := Sd.mk (Below.refl WX.heap.size WX)
   clear HLX BF
   refine start_ (n := 10) (S := fun w' => w'.cell? ⟨w.heap.size, 0, none⟩ = some (.slice A0_0 l0_0.length c0_0) ∧ w'.cell? ⟨w.heap.size, 1, none⟩ = some (.slice A0_1 l0_1.length c0_1) ∧ w'.cell? ⟨w.heap.size, 2, none⟩ = some (.slice A0_2 l0_2.length c0_2) ∧ w'.cell? ⟨w.heap.size, 3, none⟩ = some (.slice A0_3 l0_3.length c0_3) ∧ w'.cell? ⟨w.heap.size, 4, none⟩ = some (.int .i64 a0_4) ∧ w'.cell? ⟨w.heap.size, 5, none⟩ = some (.int .i64 a0_5) ∧ w'.cell? ⟨w.heap.size, 6, none⟩ = some (.int .i64 a0_6)) (ds := []) #[false, false, false, false, false, false, false, false, false, false] (by kernel_rfl) rfl rfl ⟨(blk_cell BK.out 0).trans rfl, (blk_cell BK.out 1).trans rfl, (blk_cell BK.out 2).trans rfl, (blk_cell BK.out 3).trans rfl, (blk_cell BK.out 4).trans rfl, (blk_cell BK.out 5).trans rfl, (blk_cell BK.out 6).trans rfl⟩ (fun hHeld => ?_); refine with_tabW lines_tab lines_bits (fun HT_ HW_ => ?_)
   replace BK := Sd.mk (blk_drew BK.out)
   replace HL := Sd.mk (Kd.R_drew HL.out)
   replace HB := Sd.mk (below_drew1 HB.out)
   replace HBZ := Sd.mk (below_drew1 HBZ.out)
   replace HFY := Sd.mk (HFY.out.later (below_drew1 (Below.refl WX.heap.size WX)))
   generalize WX.drew = W0 at BK HL HB HBZ HFY hHeld ⊢
   refine pure_ (i := 0) (N := some 21) (v := ?_) (a' := ?_) #[true, false, false, false, false, false, false, false, false, false] rfl rfl (any_of HT_.out (by kernel_rfl)) (fun _ _ _ h => h) (Or.inl ⟨by rfl, ?_⟩) ?_ ?_
   rotate_left
   ·exact tW
   rotate_left
   ·exact tP
   refine take_ (i := 1) (N := some 22) (v := ?_) (a' := ?_) #[true, true, false, false, false, false, false, false, false, false] rfl rfl (take_ofW HT_.out HW_.out (by kernel_rfl)) (fun _ _ _ h => h) (Or.inl ⟨by rfl, ?_⟩) hHeld ?_ ?_
   rotate_left
   ·rintro w' ⟨s0, s1, s2, s3, s4, s5, s6⟩
    go_simp
    with_reducible rfl
   rotate_left
   ·exact tP
   refine pure_ (i := 2) (N := some 23) (v := ?_) (a' := ?_) #[true, true, true, false, false, false, false, false, false, false] rfl rfl (any_of HT_.out (by kernel_rfl)) (fun _ _ _ h => h) (Or.inl ⟨by rfl, ?_⟩) ?_ ?_
   rotate_left
   ·exact tW
   rotate_left
   ·exact tP
   refine take_ (i := 4) (N := some 25) (v := ?_) (a' := ?_) #[true, true, true, false, true, false, false, false, false, false] rfl rfl (take_ofW HT_.out HW_.out (by kernel_rfl)) (fun _ _ _ h => h) (Or.inl ⟨by rfl, ?_⟩) hHeld ?_ ?_
   rotate_left
   ·rintro w' ⟨s0, s1, s2, s3, s4, s5, s6⟩
    go_simp
    with_reducible rfl
   rotate_left
   ·exact tP
   refine pure_ (i := 5) (N := some 26) (v := ?_) (a' := ?_) #[true, true, true, false, true, true, false, false, false, false] rfl rfl (any_of HT_.out (by kernel_rfl)) (fun _ _ _ h => h) (Or.inl ⟨by rfl, ?_⟩) ?_ ?_
   rotate_left
   ·exact tW
   rotate_left
   ·exact tP
   refine one_ (i := 3) (N := some 24) #[true, true, true, true, true, true, false, false, false, false] rfl rfl (one_of HT_.out (by kernel_rfl)) (by decide) (fun K hK => ?_)
   refine goes_ Tryz.func138 (by kernel_rfl) rfl #[.agg #[.slice A0_0 l0_0.length c0_0, .slice A0_1 l0_1.length c0_1, .slice A0_2 l0_2.length c0_2, .slice A0_3 l0_3.length c0_3, .int .i64 a0_4, .int .i64 a0_5, .int .i64 a0_6], .int .i64 0, .func (.func 141) #[] #[.pointer (some ⟨X, 0, none⟩)]] (by rfl) rfl rfl (by (try simp only [List.map_toArray, List.map_cons, List.map_nil]); first | done | rfl) ?_
   refine (line_calls A0_0 A0_1 A0_2 A0_3 l0_0.length c0_0 c0_1 l0_2.length c0_2 l0_3.length c0_3 l0_1 a0_4 a0_5 a0_6 0 141 #[.pointer (some ⟨X, 0, none⟩)] (upF l0_2 l0_3 k) _ (enters_of Tryz.func141 (by kernel_rfl) rfl) (fun W hW => HQ.out.1 W (below_trans' HBZ.out hW)) (Kd.C_below HR1.out HB.out) HM12.out).mono ?_
   rintro e w4 ⟨v1, rfl, hR, hb⟩
   refine ⟨_, rfl, ?_⟩
   have Hv1 := Sd.mk (Kd.R_lower hR (below_size HB.out))
   replace BK := Sd.mk (blk_below BK.out hb)
   replace HL := Sd.mk (Kd.R_below HL.out hb)
   replace HBZ := Sd.mk (below_step HBZ.out hb)
   replace HFY := Sd.mk (HFY.out.later hb)
   replace HB := Sd.mk (below_step HB.out hb)
   clear hb hR
   refine hK.out _ _ ⟨(blk_cell BK.out 0).trans rfl, (blk_cell BK.out 1).trans rfl, (blk_cell BK.out 2).trans rfl, (blk_cell BK.out 3).trans rfl, (blk_cell BK.out 4).trans rfl, (blk_cell BK.out 5).trans rfl, (blk_cell BK.out 6).trans rfl⟩ (fun hHeld => ?_)
   clear hK K
   refine norm_ (a' := ?_) ?_ ?_
   rotate_left
   ·show Act.put _ (some 24) _ = _
    exact tP
   refine one_ (i := 6) (N := some 27) #[true, true, true, true, true, true, true, false, false, false] rfl rfl (one_of HT_.out (by kernel_rfl)) (by decide) (fun K hK => ?_)
   refine goes_ Tryz.func138 (by kernel_rfl) rfl #[.agg #[.slice A0_0 l0_0.length c0_0, .slice A0_1 l0_1.length c0_1, .slice A0_2 l0_2.length c0_2, .slice A0_3 l0_3.length c0_3, .int .i64 a0_4, .int .i64 a0_5, .int .i64 a0_6], .int .i64 0, .func (.func 144) #[] #[.pointer (some ⟨X, 0, none⟩)]] (by rfl) rfl rfl (by (try simp only [List.map_toArray, List.map_cons, List.map_nil]); first | done | rfl) ?_
   refine (line_calls A0_0 A0_1 A0_2 A0_3 l0_0.length c0_0 c0_1 l0_2.length c0_2 l0_3.length c0_3 l0_1 a0_4 a0_5 a0_6 0 144 #[.pointer (some ⟨X, 0, none⟩)] (dnF l0_2 l0_3 k) _ (enters_of Tryz.func144 (by kernel_rfl) rfl) (fun W hW => HQ.out.2 W (below_trans' HBZ.out hW)) (Kd.C_below HR1.out HB.out) HM12.out).mono ?_
   rintro e w4 ⟨v2, rfl, hR, hb⟩
   refine ⟨_, rfl, ?_⟩
   have Hv2 := Sd.mk (Kd.R_lower hR (below_size HB.out))
   replace Hv1 := Sd.mk (Kd.R_below Hv1.out hb)
   replace BK := Sd.mk (blk_below BK.out hb)
   replace HL := Sd.mk (Kd.R_below HL.out hb)
   replace HBZ := Sd.mk (below_step HBZ.out hb)
   replace HFY := Sd.mk (HFY.out.later hb)
   replace HB := Sd.mk (below_step HB.out hb)
   clear hb hR
   refine hK.out _ _ ⟨(blk_cell BK.out 0).trans rfl, (blk_cell BK.out 1).trans rfl, (blk_cell BK.out 2).trans rfl, (blk_cell BK.out 3).trans rfl, (blk_cell BK.out 4).trans rfl, (blk_cell BK.out 5).trans rfl, (blk_cell BK.out 6).trans rfl⟩ (fun hHeld => ?_)
   clear hK K
   refine norm_ (a' := ?_) ?_ ?_
   rotate_left
   ·show Act.put _ (some 27) _ = _
    exact tP
   refine one_ (i := 7) (N := some 28) #[true, true, true, true, true, true, true, true, false, false] rfl rfl (one_of HT_.out (by kernel_rfl)) (by decide) (fun K hK => ?_)
   refine value_ (w1 := ?_) (v := ?_) (by rfl) rfl ?_ ?_
   rotate_left 2
   ·go_simp
    constructor
    ·rfl
    ·rfl
   refine hK.out _ _ ⟨(blk_cell (blk_alloc BK.out _) 0).trans rfl, (blk_cell (blk_alloc BK.out _) 1).trans rfl, (blk_cell (blk_alloc BK.out _) 2).trans rfl, (blk_cell (blk_alloc BK.out _) 3).trans rfl, (blk_cell (blk_alloc BK.out _) 4).trans rfl, (blk_cell (blk_alloc BK.out _) 5).trans rfl, (blk_cell (blk_alloc BK.out _) 6).trans rfl⟩ (fun hHeld => ?_)
   clear hK K
   refine norm_ (a' := ?_) ?_ ?_
   rotate_left
   ·show Act.put _ (some 28) _ = _
    exact tP
   refine one_ (i := 8) (N := some 29) #[true, true, true, true, true, true, true, true, true, false] rfl rfl (one_of HT_.out (by kernel_rfl)) (by decide) (fun K hK => ?_)
   refine Kd.R_append_rows_step k168 (w0 := w) w.heap.size (by rfl) (.tmp 21) (.tmp 28) 100 168 (.agg #[.slice none 0 0, .int .i64 0]) 32 rfl Tryz.underlying100 info168 rfl (by decide) (by omega) u3 (headL l0_1 l0_2 l0_3 a0_6 k) (pairL l0_1 l0_2 l0_3 k) (some ⟨_, 0, none⟩) 2 2 (fun _ => True) (fun j => some j ≠ u3.ownBlock) rfl rfl (Kd.R_alloc HL.out _) (pair_reads HL.out (by rw [headL_len]; omega) Hv1.out Hv2.out (below_size HB.out)) (fun _ _ hp => hp) (fun _ hk => ⟨trivial, hk⟩) (fun _ _ => trivial) (below_alloc HB.out _) ?aS ?aL ?_
   (case aS => exact below_size (below_alloc HB.out _))
   (case aL => exact (by rw [headL_len]; exact Nat.le_trans (Nat.mul_le_mul_right 32 (show 1 + 2 * k + 2 ≤ 100 by have := HKL.out; have H := HH.out; have := H.slen; have := H.o12; have := H.p6; omega)) (by decide)))
   intro v5 w5 ho hb hg hat
   have BK2 := Sd.mk (blk_grown (blk_alloc BK.out _) hg (Kd.R_ne HL.out BK.out (by decide)))
   have HLW := Sd.mk (LinesW.mk hb BK2.out ho)
   have HFX := Sd.mk ((HFY.out.later (below_alloc (Below.refl _ _) _)).grown (Kd.R_alloc HL.out _) (by rw [headL_len]; omega) hg)
   clear BK HL HB Hv1 Hv2 HFY hb ho hat hg
   refine hK.out _ _ ⟨(blk_cell BK2.out 0).trans rfl, (blk_cell BK2.out 1).trans rfl, (blk_cell BK2.out 2).trans rfl, (blk_cell BK2.out 3).trans rfl, (blk_cell BK2.out 4).trans rfl, (blk_cell BK2.out 5).trans rfl, (blk_cell BK2.out 6).trans rfl⟩ (fun hHeld => ?_)
   clear hK K
   refine norm_ (a' := ?_) ?_ ?_
   rotate_left
   ·show Act.put _ (some 29) _ = _
    exact tP
   refine pure_ (i := 9) (N := some 3) (v := ?_) (a' := ?_) #[true, true, true, true, true, true, true, true, true, true] rfl rfl (any_of HT_.out (by kernel_rfl)) (fun _ _ _ h => h) (Or.inl ⟨by rfl, ?_⟩) ?_ ?_
   rotate_left
   ·exact tW
   rotate_left
   ·exact tP
   refine done_ (done_of HT_.out (by kernel_rfl)) ?_
   have hfz := HFZ.out
   have hlt := HLT.out
   have hgk := HK.out
   go_wp2
   go_roundg (fs.length - (k + 1))
   case measure => omega
   case rel => exact ⟨k + 1, by first | rfl | (rw [wrap_id (by omega) (by omega)]; rfl), by omega, by omega, HLW, HFX⟩
  ·have H := HH.out
   have hkn : k = l0_2.length + l0_3.length := by have := HFL.out; omega
   have hltz : ¬ (k : Int) < (fs.length : Int) := by omega
   have HB := Sd.mk HW.out.below
   have BK := Sd.mk HW.out.box
   have HL := Sd.mk HW.out.list
   have HM12 := Sd.mk H.m12
   have HRX := Sd.mk H.redox
   have HKN := Sd.mk hkn
   have HSZ := Sd.mk (show 1 + 2 * k + 2 ≤ 100 by have := H.slen; have := H.o12; have := H.p6; omega)
   clear HW HFO H hkn hgk
   go_upto_region 7 with (fail)
   refine start_ (n := 10) (S := fun w' => w'.cell? ⟨w.heap.size, 0, none⟩ = some (.slice A0_0 l0_0.length c0_0) ∧ w'.cell? ⟨w.heap.size, 1, none⟩ = some (.slice A0_1 l0_1.length c0_1) ∧ w'.cell? ⟨w.heap.size, 2, none⟩ = some (.slice A0_2 l0_2.length c0_2) ∧ w'.cell? ⟨w.heap.size, 3, none⟩ = some (.slice A0_3 l0_3.length c0_3) ∧ w'.cell? ⟨w.heap.size, 4, none⟩ = some (.int .i64 a0_4) ∧ w'.cell? ⟨w.heap.size, 5, none⟩ = some (.int .i64 a0_5) ∧ w'.cell? ⟨w.heap.size, 6, none⟩ = some (.int .i64 a0_6)) (ds := []) #[false, false, false, false, false, false, false, false, false, false] (by kernel_rfl) rfl rfl ⟨(blk_cell BK.out 0).trans rfl, (blk_cell BK.out 1).trans rfl, (blk_cell BK.out 2).trans rfl, (blk_cell BK.out 3).trans rfl, (blk_cell BK.out 4).trans rfl, (blk_cell BK.out 5).trans rfl, (blk_cell BK.out 6).trans rfl⟩ (fun hHeld => ?_); refine with_tabW lines7_tab lines7_bits (fun HT_ HW_ => ?_)
   replace BK := Sd.mk (blk_drew BK.out)
   replace HL := Sd.mk (Kd.R_drew HL.out)
   replace HB := Sd.mk (below_drew1 HB.out)
   generalize wr.drew = W0 at BK HL HB hHeld ⊢
   refine pure_ (i := 0) (N := some 31) (v := ?_) (a' := ?_) #[true, false, false, false, false, false, false, false, false, false] rfl rfl (any_of HT_.out (by kernel_rfl)) (fun _ _ _ h => h) (Or.inl ⟨by rfl, ?_⟩) ?_ ?_
   rotate_left
   ·exact tW
   rotate_left
   ·exact tP
   refine pure_ (i := 1) (N := some 32) (v := ?_) (a' := ?_) #[true, true, false, false, false, false, false, false, false, false] rfl rfl (any_of HT_.out (by kernel_rfl)) (fun _ _ _ h => h) (Or.inl ⟨by rfl, ?_⟩) ?_ ?_
   rotate_left
   ·exact tW
   rotate_left
   ·exact tP
   refine take_ (i := 2) (N := some 33) (v := ?_) (a' := ?_) #[true, true, true, false, false, false, false, false, false, false] rfl rfl (take_ofW HT_.out HW_.out (by kernel_rfl)) (fun _ _ _ h => h) (Or.inl ⟨by rfl, ?_⟩) hHeld ?_ ?_
   rotate_left
   ·rintro w' ⟨s0, s1, s2, s3, s4, s5, s6⟩
    go_simp
    with_reducible rfl
   rotate_left
   ·exact tP
   refine pure_ (i := 3) (N := some 34) (v := ?_) (a' := ?_) #[true, true, true, true, false, false, false, false, false, false] rfl rfl (any_of HT_.out (by kernel_rfl)) (fun _ _ _ h => h) (Or.inl ⟨by rfl, ?_⟩) ?_ ?_
   rotate_left
   ·exact tW
   rotate_left
   ·exact tP
   refine pure_ (i := 4) (N := some 35) (v := ?_) (a' := ?_) #[true, true, true, true, true, false, false, false, false, false] rfl rfl (any_of HT_.out (by kernel_rfl)) (fun _ _ _ h => h) (Or.inl ⟨by rfl, ?_⟩) ?_ ?_
   rotate_left
   ·exact tW
   rotate_left
   ·exact tP
   refine take_ (i := 5) (N := some 36) (v := ?_) (a' := ?_) #[true, true, true, true, true, true, false, false, false, false] rfl rfl (take_ofW HT_.out HW_.out (by kernel_rfl)) (fun _ _ _ h => h) (Or.inl ⟨by rfl, ?_⟩) hHeld ?_ ?_
   rotate_left
   ·rintro w' ⟨s0, s1, s2, s3, s4, s5, s6⟩
    go_simp
    with_reducible rfl
   rotate_left
   ·exact tP
   refine join_ (σ := Nat × Nat) 2 #[true, true, true, true, true, true, true, true, false, false] (fun s_ => [(6, .pointer (some ⟨s_.1, 0, none⟩)), (7, .pointer (some ⟨s_.2, 0, none⟩))]) (fun s_ w' => (w'.cell? ⟨w.heap.size, 0, none⟩ = some (.slice A0_0 l0_0.length c0_0) ∧ w'.cell? ⟨w.heap.size, 1, none⟩ = some (.slice A0_1 l0_1.length c0_1) ∧ w'.cell? ⟨w.heap.size, 2, none⟩ = some (.slice A0_2 l0_2.length c0_2) ∧ w'.cell? ⟨w.heap.size, 3, none⟩ = some (.slice A0_3 l0_3.length c0_3) ∧ w'.cell? ⟨w.heap.size, 4, none⟩ = some (.int .i64 a0_4) ∧ w'.cell? ⟨w.heap.size, 5, none⟩ = some (.int .i64 a0_5) ∧ w'.cell? ⟨w.heap.size, 6, none⟩ = some (.int .i64 a0_6)) ∧ Below w.heap.size w w' ∧ w'.heap[w.heap.size]? = some (.cells #[.slice A0_0 l0_0.length c0_0, .slice A0_1 l0_1.length c0_1, .slice A0_2 l0_2.length c0_2, .slice A0_3 l0_3.length c0_3, .int .i64 a0_4, .int .i64 a0_5, .int .i64 a0_6] 29 (0, 0)) ∧ k168.R 168 w' w.heap.size (fun j => j ≠ s_.1 ∧ j ≠ s_.2) u3 (headL l0_1 l0_2 l0_3 a0_6 k) ∧ w'.heap[s_.1]? = some (.cells #[.int .i64 0] 3 (0, 0)) ∧ w'.heap[s_.2]? = some (.cells #[.int .i64 0] 3 (0, 0)) ∧ s_.1 ≠ s_.2 ∧ w.heap.size < s_.1 ∧ w.heap.size < s_.2) ?_ ?_
   rotate_left
   ·skip
    intro hCont
    refine two_ (i := 6) (j := 7) (Ni := some 6) (Nj := some 7) #[true, true, true, true, true, true, true, false, false, false] #[true, true, true, true, true, true, false, true, false, false] rfl rfl rfl rfl (two_of HT_.out (by kernel_rfl)) (by decide) (by decide) (fun K hK => ?_) (fun K hK => ?_)
    ·skip
     refine box_step ?hg (N := 6) ?hd (cs := #[.int .i64 0]) (t := 3) ?hr ?_; (case hd => rfl); (case hg => rfl); (case hr => first | (go_simp; done) | (go_simp; rfl))
     intro U6 hg6 w6 hbox6 hb6
     have BK6 := Sd.mk (blk_below BK.out hb6)
     refine hK.out _ _ ⟨(blk_cell BK6.out 0).trans rfl, (blk_cell BK6.out 1).trans rfl, (blk_cell BK6.out 2).trans rfl, (blk_cell BK6.out 3).trans rfl, (blk_cell BK6.out 4).trans rfl, (blk_cell BK6.out 5).trans rfl, (blk_cell BK6.out 6).trans rfl⟩ (fun hHeld => ?_)
     clear hK K
     refine norm_ (a' := ?_) ?_ ?_
     rotate_left
     ·show Act.put _ (some 6) _ = _
      exact tP
     refine one_ (i := 7) (N := some 7) #[true, true, true, true, true, true, true, true, false, false] rfl rfl (one_of HT_.out (by kernel_rfl)) (by decide) (fun K hK => ?_)
     refine box_step ?hg (N := 7) ?hd (cs := #[.int .i64 0]) (t := 3) ?hr ?_; (case hd => rfl); (case hg => rfl); (case hr => first | (go_simp; done) | (go_simp; rfl))
     intro U7 hg7 w7 hbox7 hb7
     have BK7 := Sd.mk (blk_below BK6.out hb7)
     refine hK.out _ _ ⟨(blk_cell BK7.out 0).trans rfl, (blk_cell BK7.out 1).trans rfl, (blk_cell BK7.out 2).trans rfl, (blk_cell BK7.out 3).trans rfl, (blk_cell BK7.out 4).trans rfl, (blk_cell BK7.out 5).trans rfl, (blk_cell BK7.out 6).trans rfl⟩ (fun hHeld => ?_)
     clear hK K
     refine norm_ (a' := ?_) ?_ ?_
     rotate_left
     ·show Act.put _ (some 7) _ = _
      exact tP
     have hl1 := blk_lt BK.out
     have hl2 := blk_lt hbox6
     have hokk : ∀ j, (True ∧ w.heap.size ≤ j ∧ j < W0.heap.size ∧ ∃ q, q ∈ 168 :: k168.E ∧ ∃ cells, W0.heap[j]? = some (.cells cells q (0, 0))) → j ≠ U6 ∧ j ≠ U7 := fun j hj => ⟨by have := hj.2.2.1; omega, by have := hj.2.2.1; omega⟩
     exact norm_ (by simp only [putAll, Act.put, List.setIfInBounds_toArray, List.set_cons_zero, List.set_cons_succ]) (hCont (U6, U7) _ ⟨⟨(blk_cell BK7.out 0).trans rfl, (blk_cell BK7.out 1).trans rfl, (blk_cell BK7.out 2).trans rfl, (blk_cell BK7.out 3).trans rfl, (blk_cell BK7.out 4).trans rfl, (blk_cell BK7.out 5).trans rfl, (blk_cell BK7.out 6).trans rfl⟩, below_step (below_step HB.out hb6) hb7, BK7.out, Kd.R_below (Kd.R_below (Kd.R_mono (Kd.R_bound HL.out) hokk) hb6) hb7, blk_below hbox6 hb7, hbox7, by omega, by have := hb6.size; omega, by have := hb6.size; omega⟩)
    ·skip
     refine box_step ?hg (N := 7) ?hd (cs := #[.int .i64 0]) (t := 3) ?hr ?_; (case hd => rfl); (case hg => rfl); (case hr => first | (go_simp; done) | (go_simp; rfl))
     intro U7 hg7 w7 hbox7 hb7
     have BK7 := Sd.mk (blk_below BK.out hb7)
     refine hK.out _ _ ⟨(blk_cell BK7.out 0).trans rfl, (blk_cell BK7.out 1).trans rfl, (blk_cell BK7.out 2).trans rfl, (blk_cell BK7.out 3).trans rfl, (blk_cell BK7.out 4).trans rfl, (blk_cell BK7.out 5).trans rfl, (blk_cell BK7.out 6).trans rfl⟩ (fun hHeld => ?_)
     clear hK K
     refine norm_ (a' := ?_) ?_ ?_
     rotate_left
     ·show Act.put _ (some 7) _ = _
      exact tP
     refine one_ (i := 6) (N := some 6) #[true, true, true, true, true, true, true, true, false, false] rfl rfl (one_of HT_.out (by kernel_rfl)) (by decide) (fun K hK => ?_)
     refine box_step ?hg (N := 6) ?hd (cs := #[.int .i64 0]) (t := 3) ?hr ?_; (case hd => rfl); (case hg => rfl); (case hr => first | (go_simp; done) | (go_simp; rfl))
     intro U6 hg6 w6 hbox6 hb6
     have BK6 := Sd.mk (blk_below BK7.out hb6)
     refine hK.out _ _ ⟨(blk_cell BK6.out 0).trans rfl, (blk_cell BK6.out 1).trans rfl, (blk_cell BK6.out 2).trans rfl, (blk_cell BK6.out 3).trans rfl, (blk_cell BK6.out 4).trans rfl, (blk_cell BK6.out 5).trans rfl, (blk_cell BK6.out 6).trans rfl⟩ (fun hHeld => ?_)
     clear hK K
     refine norm_ (a' := ?_) ?_ ?_
     rotate_left
     ·show Act.put _ (some 6) _ = _
      exact tP
     have hl1 := blk_lt BK.out
     have hl2 := blk_lt hbox7
     have hokk : ∀ j, (True ∧ w.heap.size ≤ j ∧ j < W0.heap.size ∧ ∃ q, q ∈ 168 :: k168.E ∧ ∃ cells, W0.heap[j]? = some (.cells cells q (0, 0))) → j ≠ U6 ∧ j ≠ U7 := fun j hj => ⟨by have := hj.2.2.1; omega, by have := hj.2.2.1; omega⟩
     exact norm_ (by simp only [putAll, Act.put, List.setIfInBounds_toArray, List.set_cons_zero, List.set_cons_succ]) (hCont (U6, U7) _ ⟨⟨(blk_cell BK6.out 0).trans rfl, (blk_cell BK6.out 1).trans rfl, (blk_cell BK6.out 2).trans rfl, (blk_cell BK6.out 3).trans rfl, (blk_cell BK6.out 4).trans rfl, (blk_cell BK6.out 5).trans rfl, (blk_cell BK6.out 6).trans rfl⟩, below_step (below_step HB.out hb7) hb6, BK6.out, Kd.R_below (Kd.R_below (Kd.R_mono (Kd.R_bound HL.out) hokk) hb7) hb6, hbox6, blk_below hbox7 hb6, by omega, by have := hb7.size; omega, by have := hb7.size; omega⟩)
   rintro ⟨U6, U7⟩ w7 ⟨hS_, hB, hBK, hL, h6, h7, hne, hg6, hg7⟩
   dsimp only at hB hBK hL h6 h7 hne hg6 hg7
   clear HB BK HL
   refine norm_ (a' := ?_) ?_ ?_
   rotate_left
   ·simp only [putAll, Act.put, List.setIfInBounds_toArray, List.set_cons_zero, List.set_cons_succ]
    rfl
   have h60 : w7.cell? ⟨U6, 0, none⟩ = some (.int .i64 0) := (blk_cell h6 0).trans rfl
   have f60 := blk_frozen h6 0
   refine one_ (i := 8) (N := none) #[true, true, true, true, true, true, true, true, true, false] rfl rfl (one_of HT_.out (by kernel_rfl)) (by decide) (fun K hK => ?_)
   refine skip_ (w1 := ?_) (by rfl) rfl ?_ ?_
   rotate_left
   ·go_simp
    rfl
   have hBK8 := blk_far hBK (p := ⟨U6, 0, none⟩) (show w.heap.size ≠ U6 by omega) (.int .i64 a0_4)
   have hL8 := Kd.R_far hL (p := ⟨U6, 0, none⟩) (fun j hj => hj.1) (.int .i64 a0_4)
   have hB8 := below_set (j := 0) (v := .int .i64 a0_4) hB (show w.heap.size ≤ U6 by omega)
   have h68 := blk_put (cs := #[.int .i64 0]) h6 0 (.int .i64 a0_4) rfl
   have h78 := blk_far h7 (p := ⟨U6, 0, none⟩) (Ne.symm hne) (.int .i64 a0_4)
   refine hK.out _ _ ⟨(blk_cell hBK8 0).trans rfl, (blk_cell hBK8 1).trans rfl, (blk_cell hBK8 2).trans rfl, (blk_cell hBK8 3).trans rfl, (blk_cell hBK8 4).trans rfl, (blk_cell hBK8 5).trans rfl, (blk_cell hBK8 6).trans rfl⟩ (fun hHeld => ?_)
   clear hK K h60 f60
   have h70 : (w7.setCell ⟨U6, 0, none⟩ (.int .i64 a0_4)).cell? ⟨U7, 0, none⟩ = some (.int .i64 0) := (blk_cell h78 0).trans rfl
   have f70 := blk_frozen h78 0
   refine one_ (i := 9) (N := none) #[true, true, true, true, true, true, true, true, true, true] rfl rfl (one_of HT_.out (by kernel_rfl)) (by decide) (fun K hK => ?_)
   refine skip_ (w1 := ?_) (by rfl) rfl ?_ ?_
   rotate_left
   ·go_simp
    rfl
   have BK := Sd.mk (blk_far hBK8 (p := ⟨U7, 0, none⟩) (show w.heap.size ≠ U7 by omega) (.int .i64 a0_5))
   have HL := Sd.mk (Kd.R_mono (ok' := fun _ => True) (Kd.R_far hL8 (p := ⟨U7, 0, none⟩) (fun j hj => hj.2) (.int .i64 a0_5)) (fun _ _ => trivial))
   have HB := Sd.mk (below_set (j := 0) (v := .int .i64 a0_5) hB8 (show w.heap.size ≤ U7 by omega))
   have B6 := Sd.mk (blk_far h68 (p := ⟨U7, 0, none⟩) hne (.int .i64 a0_5))
   have B7 := Sd.mk (blk_put (cs := #[.int .i64 0]) h78 0 (.int .i64 a0_5) rfl)
   refine hK.out _ _ ⟨(blk_cell BK.out 0).trans rfl, (blk_cell BK.out 1).trans rfl, (blk_cell BK.out 2).trans rfl, (blk_cell BK.out 3).trans rfl, (blk_cell BK.out 4).trans rfl, (blk_cell BK.out 5).trans rfl, (blk_cell BK.out 6).trans rfl⟩ (fun hHeld => ?_)
   clear hK K h70 f70 hBK8 hL8 hB8 h68 h78 hB hBK hL h6 h7 hne hg6 hg7 hS_
   refine done_ (done_of HT_.out (by kernel_rfl)) ?_
   go_upto_region 8 with (fail)
   generalize ((w7.setCell ⟨U6, 0, none⟩ (.int .i64 a0_4)).setCell ⟨U7, 0, none⟩ (.int .i64 a0_5)) = WX at *
   have H := HH.out
   have hr := HRX.out
   have HQ5 := Sd.mk (facQ125 H (u := a0_5) (by omega) B7.out).1
   have HQ6 := Sd.mk (facQ125 H (u := a0_4) (by omega) B6.out).2
   have HBZ := Sd.mk (Below.refl WX.heap.size WX)
   clear B6 B7 H hr
   refine start_ (n := 10) (S := fun w' => w'.cell? ⟨w.heap.size, 0, none⟩ = some (.slice A0_0 l0_0.length c0_0) ∧ w'.cell? ⟨w.heap.size, 1, none⟩ = some (.slice A0_1 l0_1.length c0_1) ∧ w'.cell? ⟨w.heap.size, 2, none⟩ = some (.slice A0_2 l0_2.length c0_2) ∧ w'.cell? ⟨w.heap.size, 3, none⟩ = some (.slice A0_3 l0_3.length c0_3) ∧ w'.cell? ⟨w.heap.size, 4, none⟩ = some (.int .i64 a0_4) ∧ w'.cell? ⟨w.heap.size, 5, none⟩ = some (.int .i64 a0_5) ∧ w'.cell? ⟨w.heap.size, 6, none⟩ = some (.int .i64 a0_6)) (ds := []) #[false, false, false, false, false, false, false, false, false, false] (by kernel_rfl) rfl rfl ⟨(blk_cell BK.out 0).trans rfl, (blk_cell BK.out 1).trans rfl, (blk_cell BK.out 2).trans rfl, (blk_cell BK.out 3).trans rfl, (blk_cell BK.out 4).trans rfl, (blk_cell BK.out 5).trans rfl, (blk_cell BK.out 6).trans rfl⟩ (fun hHeld => ?_); refine with_tabW lines8_tab lines8_bits (fun HT_ HW_ => ?_)
   replace BK := Sd.mk (blk_drew BK.out)
   replace HL := Sd.mk (Kd.R_drew HL.out)
   replace HB := Sd.mk (below_drew1 HB.out)
   replace HBZ := Sd.mk (below_drew1 HBZ.out)
   generalize WX.drew = W9 at BK HL HB HBZ hHeld ⊢
   refine pure_ (i := 0) (N := some 37) (v := ?_) (a' := ?_) #[true, false, false, false, false, false, false, false, false, false] rfl rfl (any_of HT_.out (by kernel_rfl)) (fun _ _ _ h => h) (Or.inl ⟨by rfl, ?_⟩) ?_ ?_
   rotate_left
   ·exact tW
   rotate_left
   ·exact tP
   refine take_ (i := 1) (N := some 38) (v := ?_) (a' := ?_) #[true, true, false, false, false, false, false, false, false, false] rfl rfl (take_ofW HT_.out HW_.out (by kernel_rfl)) (fun _ _ _ h => h) (Or.inl ⟨by rfl, ?_⟩) hHeld ?_ ?_
   rotate_left
   ·rintro w' ⟨s0, s1, s2, s3, s4, s5, s6⟩
    go_simp
    with_reducible rfl
   rotate_left
   ·exact tP
   refine pure_ (i := 2) (N := some 39) (v := ?_) (a' := ?_) #[true, true, true, false, false, false, false, false, false, false] rfl rfl (any_of HT_.out (by kernel_rfl)) (fun _ _ _ h => h) (Or.inl ⟨by rfl, ?_⟩) ?_ ?_
   rotate_left
   ·exact tW
   rotate_left
   ·exact tP
   refine take_ (i := 4) (N := some 41) (v := ?_) (a' := ?_) #[true, true, true, false, true, false, false, false, false, false] rfl rfl (take_ofW HT_.out HW_.out (by kernel_rfl)) (fun _ _ _ h => h) (Or.inl ⟨by rfl, ?_⟩) hHeld ?_ ?_
   rotate_left
   ·rintro w' ⟨s0, s1, s2, s3, s4, s5, s6⟩
    go_simp
    with_reducible rfl
   rotate_left
   ·exact tP
   refine pure_ (i := 5) (N := some 42) (v := ?_) (a' := ?_) #[true, true, true, false, true, true, false, false, false, false] rfl rfl (any_of HT_.out (by kernel_rfl)) (fun _ _ _ h => h) (Or.inl ⟨by rfl, ?_⟩) ?_ ?_
   rotate_left
   ·exact tW
   rotate_left
   ·exact tP
   refine one_ (i := 3) (N := some 40) #[true, true, true, true, true, true, false, false, false, false] rfl rfl (one_of HT_.out (by kernel_rfl)) (by decide) (fun K hK => ?_)
   refine goes_ Tryz.func138 (by kernel_rfl) rfl #[.agg #[.slice A0_0 l0_0.length c0_0, .slice A0_1 l0_1.length c0_1, .slice A0_2 l0_2.length c0_2, .slice A0_3 l0_3.length c0_3, .int .i64 a0_4, .int .i64 a0_5, .int .i64 a0_6], .int .i64 0, .func (.func 146) #[] #[.pointer (some ⟨U7, 0, none⟩)]] (by rfl) rfl rfl (by (try simp only [List.map_toArray, List.map_cons, List.map_nil]); first | done | rfl) ?_
   refine (line_calls A0_0 A0_1 A0_2 A0_3 l0_0.length c0_0 c0_1 l0_2.length c0_2 l0_3.length c0_3 l0_1 a0_4 a0_5 a0_6 0 146 #[.pointer (some ⟨U7, 0, none⟩)] (rUp a0_5) _ (enters_of Tryz.func146 (by kernel_rfl) rfl) (fun W hW => HQ5.out W (below_trans' HBZ.out hW)) (Kd.C_below HR1.out HB.out) HM12.out).mono ?_
   rintro e w4 ⟨v1, rfl, hR, hb⟩
   refine ⟨_, rfl, ?_⟩
   have Hv1 := Sd.mk (Kd.R_lower hR (below_size HB.out))
   replace BK := Sd.mk (blk_below BK.out hb)
   replace HL := Sd.mk (Kd.R_below HL.out hb)
   replace HBZ := Sd.mk (below_step HBZ.out hb)
   replace HB := Sd.mk (below_step HB.out hb)
   clear hb hR
   refine hK.out _ _ ⟨(blk_cell BK.out 0).trans rfl, (blk_cell BK.out 1).trans rfl, (blk_cell BK.out 2).trans rfl, (blk_cell BK.out 3).trans rfl, (blk_cell BK.out 4).trans rfl, (blk_cell BK.out 5).trans rfl, (blk_cell BK.out 6).trans rfl⟩ (fun hHeld => ?_)
   clear hK K
   refine norm_ (a' := ?_) ?_ ?_
   rotate_left
   ·show Act.put _ (some 40) _ = _
    exact tP
   refine one_ (i := 6) (N := some 43) #[true, true, true, true, true, true, true, false, false, false] rfl rfl (one_of HT_.out (by kernel_rfl)) (by decide) (fun K hK => ?_)
   refine goes_ Tryz.func138 (by kernel_rfl) rfl #[.agg #[.slice A0_0 l0_0.length c0_0, .slice A0_1 l0_1.length c0_1, .slice A0_2 l0_2.length c0_2, .slice A0_3 l0_3.length c0_3, .int .i64 a0_4, .int .i64 a0_5, .int .i64 a0_6], .int .i64 0, .func (.func 147) #[] #[.pointer (some ⟨U6, 0, none⟩)]] (by rfl) rfl rfl (by (try simp only [List.map_toArray, List.map_cons, List.map_nil]); first | done | rfl) ?_
   refine (line_calls A0_0 A0_1 A0_2 A0_3 l0_0.length c0_0 c0_1 l0_2.length c0_2 l0_3.length c0_3 l0_1 a0_4 a0_5 a0_6 0 147 #[.pointer (some ⟨U6, 0, none⟩)] (rDn a0_4) _ (enters_of Tryz.func147 (by kernel_rfl) rfl) (fun W hW => HQ6.out W (below_trans' HBZ.out hW)) (Kd.C_below HR1.out HB.out) HM12.out).mono ?_
   rintro e w4 ⟨v2, rfl, hR, hb⟩
   refine ⟨_, rfl, ?_⟩
   have Hv2 := Sd.mk (Kd.R_lower hR (below_size HB.out))
   replace Hv1 := Sd.mk (Kd.R_below Hv1.out hb)
   replace BK := Sd.mk (blk_below BK.out hb)
   replace HL := Sd.mk (Kd.R_below HL.out hb)
   replace HBZ := Sd.mk (below_step HBZ.out hb)
   replace HB := Sd.mk (below_step HB.out hb)
   clear hb hR
   refine hK.out _ _ ⟨(blk_cell BK.out 0).trans rfl, (blk_cell BK.out 1).trans rfl, (blk_cell BK.out 2).trans rfl, (blk_cell BK.out 3).trans rfl, (blk_cell BK.out 4).trans rfl, (blk_cell BK.out 5).trans rfl, (blk_cell BK.out 6).trans rfl⟩ (fun hHeld => ?_)
   clear hK K
   refine norm_ (a' := ?_) ?_ ?_
   rotate_left
   ·show Act.put _ (some 43) _ = _
    exact tP
   refine one_ (i := 7) (N := some 44) #[true, true, true, true, true, true, true, true, false, false] rfl rfl (one_of HT_.out (by kernel_rfl)) (by decide) (fun K hK => ?_)
   refine value_ (w1 := ?_) (v := ?_) (by rfl) rfl ?_ ?_
   rotate_left 2
   ·go_simp
    constructor
    ·rfl
    ·rfl
   refine hK.out _ _ ⟨(blk_cell (blk_alloc BK.out _) 0).trans rfl, (blk_cell (blk_alloc BK.out _) 1).trans rfl, (blk_cell (blk_alloc BK.out _) 2).trans rfl, (blk_cell (blk_alloc BK.out _) 3).trans rfl, (blk_cell (blk_alloc BK.out _) 4).trans rfl, (blk_cell (blk_alloc BK.out _) 5).trans rfl, (blk_cell (blk_alloc BK.out _) 6).trans rfl⟩ (fun hHeld => ?_)
   clear hK K
   refine norm_ (a' := ?_) ?_ ?_
   rotate_left
   ·show Act.put _ (some 44) _ = _
    exact tP
   refine one_ (i := 8) (N := some 45) #[true, true, true, true, true, true, true, true, true, false] rfl rfl (one_of HT_.out (by kernel_rfl)) (by decide) (fun K hK => ?_)
   refine Kd.R_append_rows_step k168 (w0 := w) w.heap.size (by rfl) (.tmp 37) (.tmp 44) 100 168 (.agg #[.slice none 0 0, .int .i64 0]) 32 rfl Tryz.underlying100 info168 rfl (by decide) (by omega) u3 (headL l0_1 l0_2 l0_3 a0_6 k) [⟨l0_1.map (rUp a0_5), 0⟩, ⟨l0_1.map (rDn a0_4), 0⟩] (some ⟨_, 0, none⟩) 2 2 (fun _ => True) (fun j => some j ≠ u3.ownBlock) rfl rfl (Kd.R_alloc HL.out _) (pair_reads (x := ⟨l0_1.map (rUp a0_5), 0⟩) (x' := ⟨l0_1.map (rDn a0_4), 0⟩) HL.out (by rw [headL_len]; omega) Hv1.out Hv2.out (below_size HB.out)) (fun _ _ hp => hp) (fun _ hk => ⟨trivial, hk⟩) (fun _ _ => trivial) (below_alloc HB.out _) ?aS ?aL ?_
   (case aS => exact below_size (below_alloc HB.out _))
   (case aL => exact (by rw [headL_len]; exact Nat.le_trans (Nat.mul_le_mul_right 32 HSZ.out) (by decide)))
   intro v5 w5 ho hb hg hat
   have BK2 := Sd.mk (blk_grown (blk_alloc BK.out _) hg (Kd.R_ne HL.out BK.out (by decide)))
   have HO := Sd.mk ho
   have HB2 := Sd.mk hb
   clear BK HL HB Hv1 Hv2 hb ho hat hg
   refine hK.out _ _ ⟨(blk_cell BK2.out 0).trans rfl, (blk_cell BK2.out 1).trans rfl, (blk_cell BK2.out 2).trans rfl, (blk_cell BK2.out 3).trans rfl, (blk_cell BK2.out 4).trans rfl, (blk_cell BK2.out 5).trans rfl, (blk_cell BK2.out 6).trans rfl⟩ (fun hHeld => ?_)
   clear hK K
   refine norm_ (a' := ?_) ?_ ?_
   rotate_left
   ·show Act.put _ (some 45) _ = _
    exact tP
   refine pure_ (i := 9) (N := some 2) (v := ?_) (a' := ?_) #[true, true, true, true, true, true, true, true, true, true] rfl rfl (any_of HT_.out (by kernel_rfl)) (fun _ _ _ h => h) (Or.inl ⟨by rfl, ?_⟩) ?_ ?_
   rotate_left
   ·exact tW
   rotate_left
   ·exact tP
   refine done_ (done_of HT_.out (by kernel_rfl)) ?_
   go_wp2
   go_ret
   have hkn := HKN.out
   subst hkn
   exact ⟨v5, rfl, HO.out, HB2.out⟩
end
section
def x_lines.f (l0_0 : List ByteArray) (l0_1 : List (S70)) (l0_2 : List (S27)) (l0_3 : List (S89)) (a0_4 : Int) (a0_5 : Int) (a0_6 : Int) : Option (List S168) :=
  if checkV l0_0 l0_1 l0_2 l0_3 a0_4 a0_5 a0_6 = 0 then some (linesV l0_1 l0_2 l0_3 a0_4 a0_5 a0_6) else none
theorem x_lines.calls (A0_0 : Option Addr) (c0_0 : Nat) (l0_0 : List ByteArray) (A0_1 : Option Addr) (c0_1 : Nat) (l0_1 : List (S70)) (A0_2 : Option Addr) (c0_2 : Nat) (l0_2 : List (S27)) (A0_3 : Option Addr) (c0_3 : Nat) (l0_3 : List (S89)) (a0_4 : Int) (a0_5 : Int) (a0_6 : Int) (r : List S168) (w : World) (hr0_0 : Kd.C Kd.string w A0_0 l0_0.length l0_0) (hc0_0 : l0_0.length ≤ c0_0) (hr0_1 : Kd.C k70 w A0_1 l0_1.length l0_1) (hc0_1 : l0_1.length ≤ c0_1) (hr0_2 : Kd.C k27 w A0_2 l0_2.length l0_2) (hc0_2 : l0_2.length ≤ c0_2) (hr0_3 : Kd.C k89 w A0_3 l0_3.length l0_3) (hc0_3 : l0_3.length ≤ c0_3) (h : x_lines.f l0_0 l0_1 l0_2 l0_3 a0_4 a0_5 a0_6 = some r) :
    Calls Tryz.prog 52 #[.agg #[.slice A0_0 l0_0.length c0_0, .slice A0_1 l0_1.length c0_1, .slice A0_2 l0_2.length c0_2, .slice A0_3 l0_3.length c0_3, .int .i64 a0_4, .int .i64 a0_5, .int .i64 a0_6]] w fun e w' => ∃ v0_ : Value, e = .returned v0_ ∧ Kd.R k168 168 w' w.heap.size (fun _ => True) v0_ r ∧ Below w.heap.size w w' := by
  unfold x_lines.f at h
  by_cases hc : checkV l0_0 l0_1 l0_2 l0_3 a0_4 a0_5 a0_6 = 0
  · rw [if_pos hc] at h
    obtain rfl := Option.some.inj h
    exact lines_calls A0_0 c0_0 l0_0 A0_1 c0_1 l0_1 A0_2 c0_2 l0_2 A0_3 c0_3 l0_3 a0_4 a0_5 a0_6 w hr0_0 hc0_0 hr0_1 hc0_1 hr0_2 hc0_2 hr0_3 hc0_3 (check_ok hc)
  · rw [if_neg hc] at h; cases h
end
section
def b_value.l0 : Nat → List Int → Int → List Int → Int → Int → Option (Int)
 | 0, _, _, _, _, _ => none
 | k + 1, x1, x5, x9, x10, x11 => if x11 < x10 then (if 0 ≤ x11 then (if x11 < (x9.length : Int) then (if x11 < (x1.length : Int) then (b_value.l0 k x1 (wrap64 (x5 + (wrap64 ((rd x1 x11) * (rd x9 x11))))) x9 x10 (wrap64 (x11 + 1))) else (none)) else (none)) else (none)) else (some x5)
def b_value.f (k : Nat) (l0_0 : List Int) (a0_1 : Int) (l1 : List Int) : Option (Int) := b_value.l0 k l1 0 l0_0 (l0_0.length : Int) 0
theorem b_value.calls (k : Nat) (A0_0 : Option Addr) (c0_0 : Nat) (l0_0 : List Int) (a0_1 : Int) (A1 : Option Addr) (c1 : Nat) (l1 : List Int) (r : Int) (w : World) (hr0_0 : Kd.C (Kd.int .i64) w A0_0 l0_0.length l0_0) (hc0_0 : l0_0.length ≤ c0_0) (hr1 : Kd.C (Kd.int .i64) w A1 l1.length l1) (hc1 : l1.length ≤ c1) (h : b_value.f k l0_0 a0_1 l1 = some r) :
  Calls Tryz.prog 137 #[.agg #[.slice A0_0 l0_0.length c0_0, .int .i64 a0_1], .slice A1 l1.length c1] w fun e w' => e = .returned (.int .i64 r) ∧ Below w.heap.size w w' := by
 have hu168 := Tryz.underlying168; have HR0_0 := Sd.mk hr0_0; have HC0_0 := Sd.mk hc0_0; clear hr0_0 hc0_0; have HR1 := Sd.mk hr1; have HC1 := Sd.mk hc1; clear hr1 hc1; have HB := Sd.mk (Below.refl w.heap.size w)
 have H : (b_value.l0 k l1 0 l0_0 (l0_0.length : Int) 0) = some r := h
 clear h; have H' := Sd.mk H; clear H
 go_enter Tryz.func137, Tryz.ntmps137
 go_wp2_with (first | ((with_reducible refine gate_dst (N := 2) rfl ?_); refine box_event ?hg (N := 2) ?hd (cs := #[.slice A0_0 l0_0.length c0_0, .int .i64 a0_1]) (t := 168) ?hr ?_; (case hd => rfl); (case hg => rfl); (case hr => exact tG); intro gb1009 hg w3 hbox hb; have BK1009 := Sd.mk (hbox); have GW1009 := Sd.mk (bSz hg (bBl HB.out)); have GE1009 := Sd.mk (bSz hg (bBl HB.out)); replace HB := Sd.mk (below_step (bBl HB.out) hb); clear hb hbox hg; obtain ⟨u4_0, u4_1, o4_0, o4_1⟩ := bc2 (w := w3) BK1009.out))
 go_loopg [5, 11] k (fun kq v5 v11 w' => ∃ (x5_1 : Int) (x11_1 : Int), v5 = .int .i64 x5_1 ∧ v11 = .int .i64 x11_1 ∧ Sd (b_value.l0 kq l1 x5_1 l0_0 (l0_0.length : Int) x11_1 = some r) ∧ Sd (kq ≤ k) ∧ Sd (w'.heap[gb1009]? = some (.cells #[(.slice A0_0 l0_0.length c0_0), .int .i64 a0_1] 168 (0, 0))) ∧ Sd (Below w.heap.size w w'))
 case atStart => exact ⟨(0), (0), tS, tS, H', ⟨Nat.le_refl _⟩, ⟨bkA BK1009.out⟩, ⟨bBl HB.out⟩⟩
 case round =>
  clear H'; (try clear c1); (try clear p2); (try clear u4_0 u4_1); (try clear o4_0 o4_1); obtain ⟨x5_1, x11_1, rfl, rfl, HA, HK1, BK1009, HB⟩ := hrel
  cases gk with
  | zero => exact absurd HA.out (by simp [b_value.l0])
  | succ k1 =>
   have H := HA.out; clear HA
   simp only [b_value.l0] at H
   by_cases c5 : x11_1 < (l0_0.length : Int)
   ·rw [if_pos c5] at H
    have c5b0 : decide (x11_1 < (l0_0.length : Int)) = true := decide_eq_true c5
    clear c5
    by_cases c6 : 0 ≤ x11_1
    ·rw [if_pos c6] at H
     have c6b0 : decide (0 ≤ x11_1) = true := decide_eq_true c6
     clear c6
     by_cases c7 : x11_1 < (l0_0.length : Int)
     ·rw [if_pos c7] at H
      have c7b0 : decide (x11_1 < (l0_0.length : Int)) = true := decide_eq_true c7
      clear c7
      by_cases c8 : x11_1 < (l1.length : Int)
      ·rw [if_pos c8] at H
       have c8b0 : decide (x11_1 < (l1.length : Int)) = true := decide_eq_true c8
       clear c8; have H' := Sd.mk H; clear H
       have p1010 : 0 ≤ (x11_1 : Int) := tB
       have q1010 : x11_1 < (l0_0.length : Int) := tB
       obtain ⟨ad1010, e1010, hx1010_0⟩ := Kd.at_int HR0_0.out x11_1 p1010 q1010; cases e1010; replace hx1010_0 := cU HB hx1010_0; replace p1010 := eq_true p1010; replace q1010 := eq_true q1010
       have p1011 : 0 ≤ (x11_1 : Int) := tB
       have q1011 : x11_1 < (l1.length : Int) := tB
       obtain ⟨ad1011, e1011, hx1011_0⟩ := Kd.at_int HR1.out x11_1 p1011 q1011; cases e1011; replace hx1011_0 := cU HB hx1011_0; replace p1011 := eq_true p1011; replace q1011 := eq_true q1011
       go_wp2
       go_roundg k1
       case measure => have := HK1.out; omega
       case rel => exact ⟨(wrap64 (x5_1 + (wrap64 ((rd l1 x11_1) * (rd l0_0 x11_1))))), (wrap64 (x11_1 + 1)), tS, tS, H', ⟨by have := HK1.out; omega⟩, ⟨bkA BK1009.out⟩, ⟨bBl HB.out⟩⟩
      ·rw [if_neg c8] at H
       exact absurd H (by simp)
     ·rw [if_neg c7] at H
      exact absurd H (by simp)
    ·rw [if_neg c6] at H
     exact absurd H (by simp)
   ·rw [if_neg c5] at H
    have c5b0 : decide (x11_1 < (l0_0.length : Int)) = false := decide_eq_false c5
    clear c5; obtain rfl := Option.some.inj H
    go_wp2
    go_ret
    exact ⟨tE, bBl HB.out⟩
end
section
def vW (r fs : List Int) : Nat → Int
 | 0 => 0
 | i + 1 => wrap64 (vW r fs i + wrap64 (rd r (i : Int) * rd fs (i : Int)))
theorem value_l0 (r fs : List Int) (h1 : fs.length ≤ r.length) (h2 : fs.length ≤ 1000000) : ∀ (m i : Nat), i + m = fs.length → Ev (fun k => b_value.l0 k r (vW r fs i) fs (fs.length : Int) (i : Int)) (vW r fs fs.length)
 | 0, i, hi => by
  apply Ev.step
  simp only [b_value.l0, if_neg (show ¬ (i : Int) < (fs.length : Int) by omega)]
  rw [show i = fs.length by omega]
  exact Ev.const _
 | m + 1, i, hi => by
  have ih := value_l0 r fs h1 h2 m (i + 1) (by omega)
  apply Ev.step
  simp only [b_value.l0, if_pos (show (i : Int) < (fs.length : Int) by omega), if_pos (i_pos i), if_pos (show (i : Int) < (r.length : Int) by omega), wrap_succ (i_pos i) (show (i : Int) ≤ 1000000000 by omega)]
  exact ih
theorem value_calls (x : S168) (r : List Int) (Ax A1 : Option Addr) (cx c1 : Nat) (w : World) (hx : Kd.C (Kd.int .i64) w Ax x.f0.length x.f0) (hcx : x.f0.length ≤ cx) (hr : Kd.C (Kd.int .i64) w A1 r.length r) (hc1 : r.length ≤ c1) (h1 : x.f0.length ≤ r.length) (h2 : x.f0.length ≤ 1000000) :
  Calls Tryz.prog 137 (#[.agg #[.slice Ax x.f0.length cx, .int .i64 x.f1]] ++ #[.slice A1 r.length c1]) w fun e w' => e = .returned (.int .i64 (vW r x.f0 x.f0.length)) ∧ Below w.heap.size w w' := by
 obtain ⟨K, hK⟩ := value_l0 r x.f0 h1 h2 x.f0.length 0 (by omega)
 exact b_value.calls K Ax cx x.f0 x.f1 A1 c1 r _ w hx hcx hr hc1 (hK K (Nat.le_refl _))
def keepT : Bool × List (List Nat × List Nat) := (true, [([], []), ([], []), ([0, 1], [0, 1]), ([], []), ([], []), ([4], [4]), ([3, 5], [3, 5]), ([2, 6], [2, 6]), ([7, 2, 0, 1, 2, 3, 4, 5, 6, 7], [7])])
def keepB : List Nat := [0, 0, 3, 0, 0, 16, 56, 127, 255]
theorem keep_tab : rtab .any (opsOf Tryz.f136 1) = keepT := by kernel_rfl
theorem keep_bits : waitsOk keepT.2 keepB = true := by kernel_rfl
theorem k110_calls (x : S168) (r : List Int) (Ax A1 : Option Addr) (cx c1 R T_ : Nat) (t : Int) (w : World) (hx : Kd.C (Kd.int .i64) w Ax x.f0.length x.f0) (hcx : x.f0.length ≤ cx) (hr : Kd.C (Kd.int .i64) w A1 r.length r) (hc1 : r.length ≤ c1) (h1 : x.f0.length ≤ r.length) (h2 : x.f0.length ≤ 1000000)
  (hR : w.heap[R]? = some (.cells #[.slice A1 r.length c1] 30 (0, 0))) (hT : w.heap[T_]? = some (.cells #[.int .i64 t] 3 (0, 0))) :
  Calls Tryz.prog 136 #[.agg #[.slice Ax x.f0.length cx, .int .i64 x.f1], .pointer (some ⟨R, 0, none⟩), .pointer (some ⟨T_, 0, none⟩)] w fun e w' => e = .returned (.bool (decide (wrap64 (t * x.f1) < vW r x.f0 x.f0.length))) ∧ Below w.heap.size w w' := by
 have hb0 : Below w.heap.size w (w.alloc (.cells #[.slice Ax x.f0.length cx, .int .i64 x.f1] 168)) := below_alloc (Below.refl _ _) _
 have HB := Sd.mk hb0
 have BX := Sd.mk (blk_new w (.cells #[.slice Ax x.f0.length cx, .int .i64 x.f1] 168))
 have BR := Sd.mk (blk_below hR hb0)
 have BT := Sd.mk (blk_below hT hb0)
 have HX := Sd.mk (Kd.C_below hx hb0)
 have HR := Sd.mk (Kd.C_below hr hb0)
 have HCX := Sd.mk hcx
 have HC1 := Sd.mk hc1
 have H1 := Sd.mk h1
 have H2 := Sd.mk h2
 clear hx hcx hr hc1 h1 h2 hR hT hb0
 go_enter Tryz.func136, Tryz.ntmps136
 go_upto_region 1 with (fail)
 generalize w.alloc (.cells #[.slice Ax x.f0.length cx, .int .i64 x.f1] 168) = WX at *
 generalize hXX : w.heap.size = X at BX ⊢
 generalize hv : vW r x.f0 x.f0.length = v at *
 refine start_ (n := 9) (S := fun w' => w'.cell? ⟨X, 0, none⟩ = some (.slice Ax x.f0.length cx) ∧ w'.cell? ⟨X, 1, none⟩ = some (.int .i64 x.f1) ∧ w'.cell? ⟨R, 0, none⟩ = some (.slice A1 r.length c1) ∧ w'.cell? ⟨T_, 0, none⟩ = some (.int .i64 t)) (ds := []) #[false, false, false, false, false, false, false, false, false] (by kernel_rfl) rfl rfl ⟨(blk_cell BX.out 0).trans rfl, (blk_cell BX.out 1).trans rfl, (blk_cell BR.out 0).trans rfl, (blk_cell BT.out 0).trans rfl⟩ (fun hHeld => ?_); refine with_tabW keep_tab keep_bits (fun HT_ HW_ => ?_)
 replace BX := Sd.mk (blk_drew BX.out)
 replace BR := Sd.mk (blk_drew BR.out)
 replace BT := Sd.mk (blk_drew BT.out)
 replace HX := Sd.mk (Kd.C_drew HX.out)
 replace HR := Sd.mk (Kd.C_drew HR.out)
 replace HB := Sd.mk (below_drew1 HB.out)
 generalize WX.drew = W0 at BX BR BT HX HR HB hHeld ⊢
 refine take_ (i := 0) (N := some 5) (v := ?_) (a' := ?_) #[true, false, false, false, false, false, false, false, false] rfl rfl (take_ofW HT_.out HW_.out (by kernel_rfl)) (fun _ _ _ h => h) (Or.inl ⟨by rfl, ?_⟩) hHeld ?_ ?_
 rotate_left
 ·rintro w' ⟨s0, s1, s2, s3⟩
  go_simp
  with_reducible rfl
 rotate_left
 ·exact tP
 refine take_ (i := 1) (N := some 6) (v := ?_) (a' := ?_) #[true, true, false, false, false, false, false, false, false] rfl rfl (take_ofW HT_.out HW_.out (by kernel_rfl)) (fun _ _ _ h => h) (Or.inl ⟨by rfl, ?_⟩) hHeld ?_ ?_
 rotate_left
 ·rintro w' ⟨s0, s1, s2, s3⟩
  go_simp
  with_reducible rfl
 rotate_left
 ·exact tP
 refine take_ (i := 3) (N := some 8) (v := ?_) (a' := ?_) #[true, true, false, true, false, false, false, false, false] rfl rfl (take_ofW HT_.out HW_.out (by kernel_rfl)) (fun _ _ _ h => h) (Or.inl ⟨by rfl, ?_⟩) hHeld ?_ ?_
 rotate_left
 ·rintro w' ⟨s0, s1, s2, s3⟩
  go_simp
  with_reducible rfl
 rotate_left
 ·exact tP
 refine pure_ (i := 4) (N := some 9) (v := ?_) (a' := ?_) #[true, true, false, true, true, false, false, false, false] rfl rfl (any_of HT_.out (by kernel_rfl)) (fun _ _ _ h => h) (Or.inl ⟨by rfl, ?_⟩) ?_ ?_
 rotate_left
 ·exact tW
 rotate_left
 ·exact tP
 refine take_ (i := 5) (N := some 10) (v := ?_) (a' := ?_) #[true, true, false, true, true, true, false, false, false] rfl rfl (take_ofW HT_.out HW_.out (by kernel_rfl)) (fun _ _ _ h => h) (Or.inl ⟨by rfl, ?_⟩) hHeld ?_ ?_
 rotate_left
 ·rintro w' ⟨s0, s1, s2, s3⟩
  go_simp
  with_reducible rfl
 rotate_left
 ·exact tP
 refine pure_ (i := 6) (N := some 11) (v := ?_) (a' := ?_) #[true, true, false, true, true, true, true, false, false] rfl rfl (any_of HT_.out (by kernel_rfl)) (fun _ _ _ h => h) (Or.inl ⟨by rfl, ?_⟩) ?_ ?_
 rotate_left
 ·exact tW
 rotate_left
 ·exact tP
 refine one_ (i := 2) (N := some 7) #[true, true, true, true, true, true, true, false, false] rfl rfl (one_of HT_.out (by kernel_rfl)) (by decide) (fun K hK => ?_)
 refine goes_ Tryz.func137 (by kernel_rfl) rfl (#[.agg #[.slice Ax x.f0.length cx, .int .i64 x.f1]] ++ #[.slice A1 r.length c1]) (by rfl) rfl rfl (by (try simp only [List.map_toArray, List.map_cons, List.map_nil]); first | done | rfl) ?_
 refine (value_calls x r Ax A1 cx c1 W0 HX.out HCX.out HR.out HC1.out H1.out H2.out).mono ?_
 rintro e w4 ⟨rfl, hb⟩
 refine ⟨_, rfl, ?_⟩
 replace BX := Sd.mk (blk_below BX.out hb)
 replace BR := Sd.mk (blk_below BR.out hb)
 replace BT := Sd.mk (blk_below BT.out hb)
 replace HB := Sd.mk (below_step HB.out hb)
 clear hb HX HR
 refine hK.out _ _ ⟨(blk_cell BX.out 0).trans rfl, (blk_cell BX.out 1).trans rfl, (blk_cell BR.out 0).trans rfl, (blk_cell BT.out 0).trans rfl⟩ (fun hHeld => ?_)
 clear hK K
 refine norm_ (a' := ?_) ?_ ?_
 rotate_left
 ·show Act.put _ (some 7) _ = _
  exact tP
 refine pure_ (i := 7) (N := some 12) (v := ?_) (a' := ?_) #[true, true, true, true, true, true, true, true, false] rfl rfl (any_of HT_.out (by kernel_rfl)) (fun _ _ _ h => h) (Or.inl ⟨by rfl, ?_⟩) ?_ ?_
 rotate_left
 ·exact tW
 rotate_left
 ·exact tP
 refine pure_ (i := 8) (N := some 4) (v := ?_) (a' := ?_) #[true, true, true, true, true, true, true, true, true] rfl rfl (any_of HT_.out (by kernel_rfl)) (fun _ _ _ h => h) (Or.inl ⟨by rfl, ?_⟩) ?_ ?_
 rotate_left
 ·exact tW
 rotate_left
 ·exact tP
 refine done_ (done_of HT_.out (by kernel_rfl)) ?_
 go_wp2
 go_ret
 subst hv
 exact ⟨by first | rfl | simp, HB.out⟩
def TellsL (g : Nat) (lb : Array Value) (x : S168) (b : Bool) (w : World) : Prop :=
 ∀ W, Below w.heap.size w W → ∀ (Ax : Option Addr) (cx : Nat), Kd.C (Kd.int .i64) W Ax x.f0.length x.f0 → x.f0.length ≤ cx →
  Calls Tryz.prog g (#[.agg #[.slice Ax x.f0.length cx, .int .i64 x.f1]] ++ lb) W fun e W' => e = .returned (.bool b) ∧ Below W.heap.size W W'
theorem indexFunc_line (p : S168 → Bool) (g : Nat) (lb : Array Value) (eg : ∀ args w, (callFunc g args).run Tryz.prog w = .ok (.enter g args) w)
  (A : Option Addr) (c : Nat) (l : List S168) (w : World) (hr : Kd.C k168 w A l.length l) (hg : ∀ x ∈ l, TellsL g lb x (p x) w) :
  Calls Tryz.prog 197 #[.slice A l.length c, .func (.func g) #[] lb] w fun e w' => e = .returned (.int .i64 (idxFrom p l 0)) ∧ Below w.heap.size w w' := by
 have HR := Sd.mk hr
 have HG := Sd.mk hg
 have hmax := Kd.C_max hr
 clear hr hg
 go_enter Tryz.func197, Tryz.ntmps197
 go_wp2
 go_loopg [5, 8] l.length (fun kq _ v8 w' => ∃ k : Nat, v8 = .int .i64 k ∧ k ≤ l.length ∧ Sd (l.length - k ≤ kq) ∧ Sd (idxFrom p l 0 = idxFrom p (l.drop k) k) ∧ Sd (Below w.heap.size w w'))
 case atStart => exact ⟨0, rfl, Nat.zero_le _, ⟨by omega⟩, ⟨rfl⟩, ⟨Below.refl _ _⟩⟩
 case round =>
  obtain ⟨k, rfl, hk, HM, HI, HB⟩ := hrel
  by_cases hlt : k < l.length
  ·have hltz : (k : Int) < (l.length : Int) := by omega
   obtain ⟨ad, Ax, cx, e, hc0, hc1, hlx, hix⟩ := at_T168 (Kd.C_below HR.out HB.out) (k : Int) (by omega) hltz
   cases e
   have HD := idxFrom_drop p z168 l k hlt k
   have hx : rd_T168 l (k : Int) = l.getD k z168 := by simp [rd_T168]
   have hmem : l.getD k z168 ∈ l := by
    rw [List.getD_eq_getElem?_getD, List.getElem?_eq_getElem hlt]; exact List.getElem_mem hlt
   rw [hx] at hc0 hc1 hlx hix
   have hcall := HG.out _ hmem _ HB.out Ax cx hix hlx
   generalize hxx : l.getD k z168 = x at hc0 hc1 hcall HD
   have HX := Sd.mk hxx
   have HD' := Sd.mk HD
   clear hxx HD hx hmem hlx hix
   simp only [Int.toNat_natCast] at hc0 hc1
   cases hp : p x with
   | true =>
    rw [hp] at hcall
    have HP := Sd.mk hp
    clear hp
    go_wp2_with (go_at_fn g; refine (hcall).mono ?_; rintro e w1 ⟨rfl, hb1⟩)
    go_ret
    exact ⟨by rw [HI.out, HD'.out, if_pos HP.out]; rfl, below_trans' HB.out hb1⟩
   | false =>
    rw [hp] at hcall
    have HP := Sd.mk hp
    clear hp
    go_wp2_with (go_at_fn g; refine (hcall).mono ?_; rintro e w1 ⟨rfl, hb1⟩)
    go_roundg (l.length - (k + 1))
    case measure => have := HM.out; omega
    case rel =>
     exact ⟨k + 1, by go_num, by omega, ⟨by omega⟩, ⟨by rw [HI.out, HD'.out, if_neg (by rw [HP.out]; simp)]; simp⟩, ⟨below_trans' HB.out hb1⟩⟩
  ·have hltz : ¬ (k : Int) < (l.length : Int) := by omega
   go_wp2
   go_ret
   exact ⟨by rw [HI.out, List.drop_eq_nil_of_le (by omega)]; rfl, HB.out⟩
theorem containsFunc_line (p : S168 → Bool) (g : Nat) (lb : Array Value) (eg : ∀ args w, (callFunc g args).run Tryz.prog w = .ok (.enter g args) w)
  (A : Option Addr) (c : Nat) (l : List S168) (w : World) (hr : Kd.C k168 w A l.length l) (hg : ∀ x ∈ l, TellsL g lb x (p x) w) :
  Calls Tryz.prog 135 #[.slice A l.length c, .func (.func g) #[] lb] w fun e w' => e = .returned (.bool (l.any p)) ∧ Below w.heap.size w w' := by
 have H := indexFunc_line p g lb eg A c l w hr hg
 have HA := Sd.mk (idxFrom_any p l 0 (Int.le_refl 0))
 clear hr hg eg
 go_enter Tryz.func135, Tryz.ntmps135
 go_wp2_with (go_at_call 197; refine H.mono ?_; rintro e w1 ⟨rfl, hb1⟩)
 go_ret
 exact ⟨by rw [← HA.out]; rfl, hb1⟩
def x_keeps.f (l : List S168) (r : List Int) (t : Int) : Option Bool :=
 if (l.all fun x => decide (x.f0.length ≤ r.length) && decide (x.f0.length ≤ 1000000)) = true then some (!(l.any fun x => decide (wrap64 (t * x.f1) < vW r x.f0 x.f0.length))) else none
theorem x_keeps.calls (A0 : Option Addr) (c0 : Nat) (l0 : List S168) (A1 : Option Addr) (c1 : Nat) (l1 : List Int) (a2 : Int) (r : Bool) (w : World) (hr0 : Kd.C k168 w A0 l0.length l0) (hc0 : l0.length ≤ c0) (hr1 : Kd.C (Kd.int .i64) w A1 l1.length l1) (hc1 : l1.length ≤ c1) (h : x_keeps.f l0 l1 a2 = some r) :
  Calls Tryz.prog 51 #[.slice A0 l0.length c0, .slice A1 l1.length c1, .int .i64 a2] w fun e w' => e = .returned (.bool r) ∧ Below w.heap.size w w' := by
 unfold x_keeps.f at h
 by_cases hall : (l0.all fun x => decide (x.f0.length ≤ l1.length) && decide (x.f0.length ≤ 1000000)) = true
 ·rw [if_pos hall] at h
  obtain rfl := Option.some.inj h
  have hb0 : Below w.heap.size w ((w.alloc (.cells #[.slice A1 l1.length c1] 30)).alloc (.cells #[.int .i64 a2] 3)) := below_alloc (below_alloc (Below.refl _ _) _) _
  have hR : ((w.alloc (.cells #[.slice A1 l1.length c1] 30)).alloc (.cells #[.int .i64 a2] 3)).heap[w.heap.size]? = some (.cells #[.slice A1 l1.length c1] 30 (0, 0)) := blk_alloc (blk_new w _) _
  have hT : ((w.alloc (.cells #[.slice A1 l1.length c1] 30)).alloc (.cells #[.int .i64 a2] 3)).heap[w.heap.size + 1]? = some (.cells #[.int .i64 a2] 3 (0, 0)) := by
   have := blk_new (w.alloc (.cells #[.slice A1 l1.length c1] 30)) (.cells #[.int .i64 a2] 3)
   simpa using this
  have hgo := containsFunc_line (fun x => decide (wrap64 (a2 * x.f1) < vW l1 x.f0 x.f0.length)) 136 #[.pointer (some ⟨w.heap.size, 0, none⟩), .pointer (some ⟨w.heap.size + 1, 0, none⟩)] (enters_of Tryz.func136 (by kernel_rfl) rfl) A0 c0 l0 _ (Kd.C_below hr0 hb0) (fun x hx W hW Ax cx hix hlx => by
   have hh := List.all_eq_true.1 hall x hx
   simp only [Bool.and_eq_true, decide_eq_true_eq] at hh
   exact k110_calls x l1 Ax A1 cx c1 w.heap.size (w.heap.size + 1) a2 W hix hlx (Kd.C_below (Kd.C_below hr1 hb0) hW) hc1 hh.1 hh.2 (blk_below hR hW) (blk_below hT hW))
  have HB := Sd.mk hb0
  clear hb0 hR hT hr0 hr1 hc0 hc1 h hall
  go_enter Tryz.func51, Tryz.ntmps51
  go_wp2_with (go_at_call 135; refine hgo.mono ?_; rintro e w1 ⟨rfl, hb1⟩)
  go_ret
  exact ⟨by first | rfl | simp, below_trans' HB.out hb1⟩
 ·rw [if_neg hall] at h; cases h
end
section
def b_Passes.f (k : Nat) (l0_0 : List ByteArray) (l0_1 : List (S70)) (l0_2 : List (S27)) (l0_3 : List (S89)) (a0_4 : Int) (a0_5 : Int) (a0_6 : Int) (l1 : List Int) : Option (Bool × Int) := (b_asked.f k l0_0 l0_1 l0_2 l0_3 a0_4 a0_5 a0_6 l1).bind fun t221 => (if t221 = 0 then ((x_lines.f l0_0 l0_1 l0_2 l0_3 a0_4 a0_5 a0_6).bind fun t222 => ((x_keeps.f t222 l1 1).bind fun t225 => (some (t225, 0)))) else (some (false, t221)))
theorem b_Passes.calls (k : Nat) (A0_0 : Option Addr) (c0_0 : Nat) (l0_0 : List ByteArray) (A0_1 : Option Addr) (c0_1 : Nat) (l0_1 : List (S70)) (A0_2 : Option Addr) (c0_2 : Nat) (l0_2 : List (S27)) (A0_3 : Option Addr) (c0_3 : Nat) (l0_3 : List (S89)) (a0_4 : Int) (a0_5 : Int) (a0_6 : Int) (A1 : Option Addr) (c1 : Nat) (l1 : List Int) (r1 : Bool) (r2 : Int) (w : World) (hr0_0 : Kd.C Kd.string w A0_0 l0_0.length l0_0) (hc0_0 : l0_0.length ≤ c0_0) (hr0_1 : Kd.C k70 w A0_1 l0_1.length l0_1) (hc0_1 : l0_1.length ≤ c0_1) (hr0_2 : Kd.C k27 w A0_2 l0_2.length l0_2) (hc0_2 : l0_2.length ≤ c0_2) (hr0_3 : Kd.C k89 w A0_3 l0_3.length l0_3) (hc0_3 : l0_3.length ≤ c0_3) (hr1 : Kd.C (Kd.int .i64) w A1 l1.length l1) (hc1 : l1.length ≤ c1) (h : b_Passes.f k l0_0 l0_1 l0_2 l0_3 a0_4 a0_5 a0_6 l1 = some (r1, r2)) :
  Calls Tryz.prog 13 #[.agg #[.slice A0_0 l0_0.length c0_0, .slice A0_1 l0_1.length c0_1, .slice A0_2 l0_2.length c0_2, .slice A0_3 l0_3.length c0_3, .int .i64 a0_4, .int .i64 a0_5, .int .i64 a0_6], .slice A1 l1.length c1] w fun e w' => e = .returned (.tuple #[.bool r1, .int .i64 r2]) ∧ Below w.heap.size w w' := by
 have hu29 := Tryz.underlying29; have HR0_0 := Sd.mk hr0_0; have HC0_0 := Sd.mk hc0_0; clear hr0_0 hc0_0; have HR0_1 := Sd.mk hr0_1; have HC0_1 := Sd.mk hc0_1; clear hr0_1 hc0_1; have HR0_2 := Sd.mk hr0_2; have HC0_2 := Sd.mk hc0_2; clear hr0_2 hc0_2; have HR0_3 := Sd.mk hr0_3; have HC0_3 := Sd.mk hc0_3; clear hr0_3 hc0_3; have HR1 := Sd.mk hr1; have HC1 := Sd.mk hc1; clear hr1 hc1; have HB := Sd.mk (Below.refl w.heap.size w)
 have H : ((b_asked.f k l0_0 l0_1 l0_2 l0_3 a0_4 a0_5 a0_6 l1).bind fun t221 => (if t221 = 0 then ((x_lines.f l0_0 l0_1 l0_2 l0_3 a0_4 a0_5 a0_6).bind fun t222 => ((x_keeps.f t222 l1 1).bind fun t225 => (some (t225, 0)))) else (some (false, t221)))) = some (r1, r2) := h
 clear h; replace H := Option.bind_eq_some_iff.mp H; obtain ⟨t221, A30, H⟩ := H
 try dsimp only at H
 have A3 := Sd.mk A30; clear A30
 by_cases c4 : t221 = 0
 ·rw [if_pos c4] at H
  have c4b0 : (t221 == 0) = true := beq_iff_eq.mpr c4
  have c4b1 : (t221 != 0) = false := bne_eq_false_iff_eq.mpr c4
  clear c4; replace H := Option.bind_eq_some_iff.mp H; obtain ⟨t222, A50, H⟩ := H
  try dsimp only at H
  have A5 := Sd.mk A50; clear A50; replace H := Option.bind_eq_some_iff.mp H; obtain ⟨t225, A60, H⟩ := H
  try dsimp only at H
  have A6 := Sd.mk A60; clear A60
  simp only [Option.some.injEq, Prod.mk.injEq] at H
  obtain ⟨rfl, rfl⟩ := H
  go_enter Tryz.func13, Tryz.ntmps13
  go_wp2_with (first | ((with_reducible refine gate_dst (N := 2) rfl ?_); refine box_event ?hg (N := 2) ?hd (cs := #[.slice A0_0 l0_0.length c0_0, .slice A0_1 l0_1.length c0_1, .slice A0_2 l0_2.length c0_2, .slice A0_3 l0_3.length c0_3, .int .i64 a0_4, .int .i64 a0_5, .int .i64 a0_6]) (t := 29) ?hr ?_; (case hd => rfl); (case hg => rfl); (case hr => exact tG); intro gb220 hg w7 hbox hb; have BK220 := Sd.mk (hbox); have GW220 := Sd.mk (bSz hg (bBl HB.out)); have GE220 := Sd.mk (bSz hg (bBl HB.out)); replace HB := Sd.mk (below_step (bBl HB.out) hb); clear hb hbox hg; obtain ⟨u8_0, u8_1, u8_2, u8_3, u8_4, u8_5, u8_6, o8_0, o8_1, o8_2, o8_3, o8_4, o8_5, o8_6⟩ := bc7 (w := w7) BK220.out) | ((with_reducible refine gate_callee (f := 50) rfl ?_); refine goesL_ (some 9) rfl rfl Tryz.func50 (by kernel_rfl) rfl #[.agg #[.slice A0_0 l0_0.length c0_0, .slice A0_1 l0_1.length c0_1, .slice A0_2 l0_2.length c0_2, .slice A0_3 l0_3.length c0_3, .int .i64 a0_4, .int .i64 a0_5, .int .i64 a0_6], .slice A1 l1.length c1] rfl tM ?_; (with_reducible refine (b_asked.calls k _ _ l0_0 _ _ l0_1 _ _ l0_2 _ _ l0_3 a0_4 a0_5 a0_6 _ _ l1 t221 _ (cS (Kd.C_below HR0_0.out HB.out)) HC0_0.out (cS (Kd.C_below HR0_1.out HB.out)) HC0_1.out (cS (Kd.C_below HR0_2.out HB.out)) HC0_2.out (cS (Kd.C_below HR0_3.out HB.out)) HC0_3.out (cS (Kd.C_below HR1.out HB.out)) HC1.out A3.out).mono ?_); rintro e w9 ⟨rfl, hb⟩; refine ⟨_, rfl, ?_⟩; replace BK220 := Sd.mk (blk_below (bkA BK220.out) hb); replace HB := Sd.mk (below_step (bBl HB.out) hb); (try clear hb); (try clear hb2); (try clear hk); (try clear hi); obtain ⟨u10_0, u10_1, u10_2, u10_3, u10_4, u10_5, u10_6, o10_0, o10_1, o10_2, o10_3, o10_4, o10_5, o10_6⟩ := bc7 (w := w9) BK220.out) | ((with_reducible refine gate_callee (f := 52) rfl ?_); refine goesL_ (some 14) rfl rfl Tryz.func52 (by kernel_rfl) rfl #[.agg #[.slice A0_0 l0_0.length c0_0, .slice A0_1 l0_1.length c0_1, .slice A0_2 l0_2.length c0_2, .slice A0_3 l0_3.length c0_3, .int .i64 a0_4, .int .i64 a0_5, .int .i64 a0_6]] rfl tM ?_; (with_reducible refine (x_lines.calls _ _ l0_0 _ _ l0_1 _ _ l0_2 _ _ l0_3 a0_4 a0_5 a0_6 t222 _ (cS (Kd.C_below HR0_0.out HB.out)) HC0_0.out (cS (Kd.C_below HR0_1.out HB.out)) HC0_1.out (cS (Kd.C_below HR0_2.out HB.out)) HC0_2.out (cS (Kd.C_below HR0_3.out HB.out)) HC0_3.out A5.out).mono ?_); rintro e w11 ⟨v223, rfl, ho0, hb⟩; refine ⟨_, rfl, ?_⟩; have HO224 := Sd.mk (Kd.R_lower ho0 (below_size (bBl HB.out))); replace BK220 := Sd.mk (blk_below (bkA BK220.out) hb); replace HB := Sd.mk (below_step (bBl HB.out) hb); (try clear hb); (try clear hb2); (try clear hk); (try clear hi); (try clear ho0); obtain ⟨Ao12, co12, eo12⟩ := Kd.R_slice HO224.out; subst eo12) | ((with_reducible refine gate_callee (f := 51) rfl ?_); refine goesL_ (some 16) rfl rfl Tryz.func51 (by kernel_rfl) rfl #[.slice Ao12 t222.length co12, .slice A1 l1.length c1, .int .i64 1] rfl tM ?_; (with_reducible refine (x_keeps.calls _ _ t222 _ _ l1 1 t225 _ (cS ((Kd.R_reads' HO224.out).2.2)) ((Kd.R_reads' HO224.out).2.1) (cS (Kd.C_below HR1.out HB.out)) HC1.out A6.out).mono ?_); rintro e w13 ⟨rfl, hb⟩; refine ⟨_, rfl, ?_⟩; replace HO224 := Sd.mk (Kd.R_below (by (with_reducible repeat (first | apply Kd.R_alloc | apply Kd.R_drewN | apply Kd.R_drew)); exact HO224.out) hb); replace BK220 := Sd.mk (blk_below (bkA BK220.out) hb); replace HB := Sd.mk (below_step (bBl HB.out) hb); (try clear hb); (try clear hb2); (try clear hk); (try clear hi)))
  go_ret2
  exact ⟨tE, bBl HB.out⟩
 ·rw [if_neg c4] at H
  have c4b0 : (t221 == 0) = false := beq_eq_false_iff_ne.mpr c4
  have c4b1 : (t221 != 0) = true := bne_iff_ne.mpr c4
  simp only [Option.some.injEq, Prod.mk.injEq] at H
  obtain ⟨rfl, rfl⟩ := H
  go_enter Tryz.func13, Tryz.ntmps13
  go_wp2_with (first | ((with_reducible refine gate_dst (N := 2) rfl ?_); refine box_event ?hg (N := 2) ?hd (cs := #[.slice A0_0 l0_0.length c0_0, .slice A0_1 l0_1.length c0_1, .slice A0_2 l0_2.length c0_2, .slice A0_3 l0_3.length c0_3, .int .i64 a0_4, .int .i64 a0_5, .int .i64 a0_6]) (t := 29) ?hr ?_; (case hd => rfl); (case hg => rfl); (case hr => exact tG); intro gb220 hg w14 hbox hb; have BK220 := Sd.mk (hbox); have GW220 := Sd.mk (bSz hg (bBl HB.out)); have GE220 := Sd.mk (bSz hg (bBl HB.out)); replace HB := Sd.mk (below_step (bBl HB.out) hb); clear hb hbox hg; obtain ⟨u15_0, u15_1, u15_2, u15_3, u15_4, u15_5, u15_6, o15_0, o15_1, o15_2, o15_3, o15_4, o15_5, o15_6⟩ := bc7 (w := w14) BK220.out) | ((with_reducible refine gate_callee (f := 50) rfl ?_); refine goesL_ (some 9) rfl rfl Tryz.func50 (by kernel_rfl) rfl #[.agg #[.slice A0_0 l0_0.length c0_0, .slice A0_1 l0_1.length c0_1, .slice A0_2 l0_2.length c0_2, .slice A0_3 l0_3.length c0_3, .int .i64 a0_4, .int .i64 a0_5, .int .i64 a0_6], .slice A1 l1.length c1] rfl tM ?_; (with_reducible refine (b_asked.calls k _ _ l0_0 _ _ l0_1 _ _ l0_2 _ _ l0_3 a0_4 a0_5 a0_6 _ _ l1 t221 _ (cS (Kd.C_below HR0_0.out HB.out)) HC0_0.out (cS (Kd.C_below HR0_1.out HB.out)) HC0_1.out (cS (Kd.C_below HR0_2.out HB.out)) HC0_2.out (cS (Kd.C_below HR0_3.out HB.out)) HC0_3.out (cS (Kd.C_below HR1.out HB.out)) HC1.out A3.out).mono ?_); rintro e w16 ⟨rfl, hb⟩; refine ⟨_, rfl, ?_⟩; replace BK220 := Sd.mk (blk_below (bkA BK220.out) hb); replace HB := Sd.mk (below_step (bBl HB.out) hb); (try clear hb); (try clear hb2); (try clear hk); (try clear hi)))
  go_ret2
  exact ⟨tE, bBl HB.out⟩
end
section
theorem rd_map (mt : List S70) (fc : S70 → Int) (j : Nat) (h : j < mt.length) : rd (mt.map fc) (j : Int) = fc (rd_T70 mt (j : Int)) := by
  simp [rd, rd_T70, List.getD, h]
structure LineOk (n : Nat) (x : S168) : Prop where
  len : x.f0.length = n
  at_ : ∀ j : Nat, j < n → -50000000000000 ≤ rd x.f0 (j : Int) ∧ rd x.f0 (j : Int) ≤ 50000000000000
  b0 : x.f1 ≤ 0
  b1 : -10000000 ≤ x.f1
theorem line_ok {mt : List S70} {fc : S70 → Int} {b : Int} (h : ∀ i : Nat, i < mt.length → -50000000000000 ≤ fc (rd_T70 mt (i : Int)) ∧ fc (rd_T70 mt (i : Int)) ≤ 50000000000000) (h0 : b ≤ 0) (h1 : -10000000 ≤ b) : LineOk mt.length ⟨mt.map fc, b⟩ := by
  refine ⟨List.length_map _, fun j hj => ?_, h0, h1⟩
  show -50000000000000 ≤ rd (mt.map fc) (j : Int) ∧ rd (mt.map fc) (j : Int) ≤ 50000000000000
  rw [rd_map mt fc j hj]
  exact h j hj
theorem gTS_bound {df : Int → Int} {l : List S27} (H : GOk l) (C : DfOk df l.length) : -50000000000000 ≤ gTS df l l.length ∧ gTS df l l.length ≤ 50000000000000 := by
  have h := sumTo_bound (f := gT df l) (M := 3600000000000) (n := l.length) (gT_bound H C) l.length (Nat.le_refl _)
  have hn := H.n12
  unfold gTS
  omega
section
variable {o : List ByteArray} {mt : List S70} {s : List S27} {p : List S89} {a4 a5 a6 : Int}
theorem pair_ok (H : BatchOk o mt s p a4 a5 a6) {j : Nat} (hj : j < s.length + p.length) : ∀ x ∈ pairL mt s p j, LineOk mt.length x := by
  have T := tg_ok H hj
  have C := coef_cfok H hj
  intro x hx
  simp only [pairL, List.mem_cons, List.not_mem_nil, or_false] at hx
  rcases hx with rfl | rfl
  · refine line_ok (fun i hi => ?_) (by omega) (by omega)
    refine gTS_bound (mat_gok H hi) ⟨fun j' hj' => ?_⟩
    rw [(H.mats i hi).len] at hj'
    have := C.at_ j' hj'
    omega
  · refine line_ok (fun i hi => ?_) (by omega) (by omega)
    refine gTS_bound (mat_gok H hi) ⟨fun j' hj' => ?_⟩
    rw [(H.mats i hi).len] at hj'
    have := C.at_ j' hj'
    omega
theorem head_ok (H : BatchOk o mt s p a4 a5 a6) : ∀ n, n ≤ s.length + p.length → ∀ x ∈ headL mt s p a6 n, LineOk mt.length x := by
  intro n
  induction n with
  | zero =>
    intro _ x hx
    simp only [headL, List.mem_cons, List.not_mem_nil, or_false] at hx
    subst hx
    have hw := H.wanted
    refine line_ok (fun i hi => ?_) (by omega) (by omega)
    have := lowM_bound (mat_gok H hi)
    omega
  | succ n ih =>
    intro hn x hx
    simp only [headL, List.mem_append] at hx
    rcases hx with hx | hx
    · exact ih (by omega) x hx
    · exact pair_ok H (by omega) x hx
theorem red_ok (H : BatchOk o mt s p a4 a5 a6) {u : Int} (hu : -10000 ≤ u ∧ u ≤ 10000) {i : Nat} (hi : i < mt.length) :
    (-50000000000000 ≤ rUp u (rd_T70 mt (i : Int)) ∧ rUp u (rd_T70 mt (i : Int)) ≤ 50000000000000) ∧ -50000000000000 ≤ rDn u (rd_T70 mt (i : Int)) ∧ rDn u (rd_T70 mt (i : Int)) ≤ 50000000000000 := by
  have hl := lowM_bound (mat_gok H hi)
  have hr := (H.mats i hi).redox
  have h1 := mulr hu.1 hu.2 hl.1 (Int.le_trans hl.2.1 hl.2.2)
  have h2 := mulr hu.1 hu.2 (Int.le_trans hl.1 hl.2.1) hl.2.2
  unfold rUp rDn mn mx
  constructor <;> split <;> omega
theorem lines_ok (H : BatchOk o mt s p a4 a5 a6) : ∀ x ∈ linesV mt s p a4 a5 a6, LineOk mt.length x := by
  have hr := H.redox
  intro x hx
  simp only [linesV, List.mem_append, List.mem_cons, List.not_mem_nil, or_false] at hx
  rcases hx with hx | rfl | rfl
  · exact head_ok H _ (Nat.le_refl _) x hx
  · exact line_ok (fun i hi => (red_ok H (by omega) hi).1) (by omega) (by omega)
  · exact line_ok (fun i hi => (red_ok H (by omega) hi).2) (by omega) (by omega)
end
def tot (r fs : List Int) (i : Nat) : Int := sumTo (fun j => rd r (j : Int) * rd fs (j : Int)) i
theorem prod_bound {a b : Int} (h0 : 0 ≤ a) (h1 : a ≤ 10000) (h2 : -50000000000000 ≤ b) (h3 : b ≤ 50000000000000) : -500000000000000000 ≤ a * b ∧ a * b ≤ 500000000000000000 := by
  have e1 := Int.mul_le_mul_of_nonneg_left h2 h0
  have e2 := Int.mul_le_mul_of_nonneg_left h3 h0
  omega
theorem vW_tot {mt : List S70} {r : List Int} {x : S168} (hm : mt.length ≤ 12) (hr : RecOk mt r) (hx : LineOk mt.length x) : ∀ i, i ≤ mt.length → vW r x.f0 i = tot r x.f0 i := by
  have hb : ∀ j, j < mt.length → -500000000000000000 ≤ rd r (j : Int) * rd x.f0 (j : Int) ∧ rd r (j : Int) * rd x.f0 (j : Int) ≤ 500000000000000000 := fun j hj => prod_bound (hr.kilos j hj).1 (hr.kilos j hj).2 (hx.at_ j hj).1 (hx.at_ j hj).2
  intro i
  induction i with
  | zero => intro _; rfl
  | succ i ih =>
    intro hi
    have h1 := hb i (by omega)
    have h2 := sumTo_bound (f := fun j => rd r (j : Int) * rd x.f0 (j : Int)) (M := 500000000000000000) (n := mt.length) hb i (by omega)
    have h3 := ih (by omega)
    unfold tot at *
    simp only [vW, sumTo, h3]
    rw [wrap_id (x := rd r (i : Int) * rd x.f0 (i : Int)) (by omega) (by omega), wrap_id (by omega) (by omega)]
theorem not_any_all {α : Type} {l : List α} {f g : α → Bool} (h : ∀ x ∈ l, f x = !(g x)) : (!(l.any f)) = l.all g := by
  induction l with
  | nil => rfl
  | cons x l ih =>
    rw [List.any_cons, List.all_cons, ← ih fun y hy => h y (List.mem_cons_of_mem _ hy), h x List.mem_cons_self]
    cases g x <;> simp
section
variable (o : List ByteArray) (mt : List S70) (s : List S27) (p : List S89) (a4 a5 a6 : Int) (r : List Int)
def passB : Bool := (linesV mt s p a4 a5 a6).all fun x => decide (tot r x.f0 mt.length ≤ x.f1)
theorem keeps_f (H : BatchOk o mt s p a4 a5 a6) (hr : RecOk mt r) : x_keeps.f (linesV mt s p a4 a5 a6) r 1 = some (passB mt s p a4 a5 a6 r) := by
  have L := lines_ok H
  have hm := H.m12
  have hrl := hr.len
  unfold x_keeps.f passB
  rw [if_pos (List.all_eq_true.2 fun x hx => by have h := (L x hx).len; simp only [Bool.and_eq_true, decide_eq_true_eq]; omega)]
  congr 1
  refine not_any_all fun x hx => ?_
  have h := L x hx
  rw [h.len, vW_tot hm hr h mt.length (Nat.le_refl _), wrap_id (x := 1 * x.f1) (by have := h.b0; have := h.b1; omega) (by have := h.b0; omega), Int.one_mul]
  by_cases hc : tot r x.f0 mt.length ≤ x.f1
  · rw [decide_eq_true hc, decide_eq_false (by omega)]; rfl
  · rw [decide_eq_false hc, decide_eq_true (by omega)]; rfl
def PassV : Bool × Int := if askV o mt s p a4 a5 a6 r = 0 then (passB mt s p a4 a5 a6 r, 0) else (false, askV o mt s p a4 a5 a6 r)
theorem ask_check (h : askV o mt s p a4 a5 a6 r = 0) : checkV o mt s p a4 a5 a6 = 0 := by
  unfold askV at h
  by_cases hc : checkV o mt s p a4 a5 a6 = 0
  · exact hc
  · rw [if_neg hc] at h; exact absurd h hc
theorem bPasses : Ev (fun k => b_Passes.f k o mt s p a4 a5 a6 r) (PassV o mt s p a4 a5 a6 r) := by
  unfold b_Passes.f PassV
  refine Ev.bind (basked o mt s p a4 a5 a6 r) ?_
  by_cases h : askV o mt s p a4 a5 a6 r = 0
  · obtain ⟨H, hr⟩ := ask_ok h
    simp only [if_pos h, x_lines.f, if_pos (ask_check o mt s p a4 a5 a6 r h), Option.bind_some, keeps_f o mt s p a4 a5 a6 r H hr]
    exact Ev.const _
  · simp only [if_neg h]; exact Ev.const _
end
end
section
section
variable {o : List ByteArray} {mt : List S70} {s : List S27} {p : List S89} {a4 a5 a6 : Int}
end
structure RowAt (w W : World) (g : Nat) (b : Int) (fl : List Int) : Prop where
 ge : w.heap.size ≤ g
 row : ∃ A c, W.heap[g]? = some (.cells #[.slice A fl.length c, .int .i64 b] 168 (0, 0)) ∧ (Kd.int .i64).R 3 W w.heap.size (fun _ => True) (.slice A fl.length c) fl
theorem RowAt.below {w W W' : World} {g : Nat} {b : Int} {fl : List Int} (h : RowAt w W g b fl) (hb : Below W.heap.size W W') : RowAt w W' g b fl := by
 obtain ⟨A, c, h1, h2⟩ := h.row
 exact ⟨h.ge, A, c, blk_below h1 hb, Kd.R_below h2 hb⟩
structure AllW (w Wc Wf W : World) (cs : Array Value) (okN okL : Nat → Prop) (vF : Value) (forms : List S89) (v7 : Value) (xs : List S168) : Prop where
 below : Below w.heap.size w W
 size : Wf.heap.size ≤ W.heap.size
 box : W.heap[w.heap.size]? = some (.cells cs 29 (0, 0))
 forms : k89.N 89 W Wc.heap.size okN vF forms
 list : k168.R 168 W w.heap.size okL v7 xs
theorem AllW.later {w Wc Wf W W' : World} {cs : Array Value} {okN okL : Nat → Prop} {vF v7 : Value} {forms : List S89} {xs : List S168} (h : AllW w Wc Wf W cs okN okL vF forms v7 xs) (hb : Below W.heap.size W W') : AllW w Wc Wf W' cs okN okL vF forms v7 xs :=
 ⟨below_step h.below hb, Nat.le_trans h.size hb.size, blk_below h.box hb, Kd.N_below h.forms hb, Kd.R_below h.list hb⟩
theorem AllW.set {w Wc Wf W : World} {cs : Array Value} {okN okL : Nat → Prop} {vF v7 : Value} {forms : List S89} {xs : List S168} (h : AllW w Wc Wf W cs okN okL vF forms v7 xs) {g : Nat} (u : Value) (h1 : w.heap.size < g) (h2 : ∀ k, okN k → k ≠ g) (h3 : ∀ k, okL k → k ≠ g) : AllW w Wc Wf (W.setCell ⟨g, 0, none⟩ u) cs okN okL vF forms v7 xs :=
 ⟨below_set h.below (Nat.le_of_lt h1), Nat.le_trans h.size (by simp only [World.size_setCell]; exact Nat.le_refl _), blk_far (p := ⟨g, 0, none⟩) h.box (Nat.ne_of_lt h1) u, Kd.N_far (p := ⟨g, 0, none⟩) h.forms h2 u, Kd.R_far (p := ⟨g, 0, none⟩) h.list h3 u⟩
theorem AllW.grown {w Wc Wf W W' : World} {cs : Array Value} {okN okL : Nat → Prop} {vF v7 : Value} {forms : List S89} {xs : List S168} (h : AllW w Wc Wf W cs okN okL vF forms v7 xs) {row : Option Nat} (hb : Below w.heap.size w W') (hg : W.grownBy W' row) (h1 : some w.heap.size ≠ row) (h2 : ∀ k, okN k → some k ≠ row) (h3 : ∀ k, okL k → some k ≠ row) : AllW w Wc Wf W' cs okN okL vF forms v7 xs :=
 ⟨hb, Nat.le_trans h.size hg.size, blk_grown h.box hg h1, Kd.N_grown h.forms hg h2, Kd.R_grown h.list hg h3⟩
structure RowAt3 (w WB W : World) (g : Nat) (v : Value) (fl : List Int) : Prop where
 ge : WB.heap.size ≤ g
 cell : W.heap[g]? = some (.cells #[v, .int .i64 0] 168 (0, 0))
 row : (Kd.int .i64).R 3 W w.heap.size (fun k => v.ownBlock = some k) v fl
 own : ∀ k, v.ownBlock = some k → WB.heap.size ≤ k
theorem RowAt3.later {w WB W W' : World} {g : Nat} {v : Value} {fl : List Int} (h : RowAt3 w WB W g v fl) (hb : Below W.heap.size W W') : RowAt3 w WB W' g v fl :=
 ⟨h.ge, blk_below h.cell hb, Kd.R_below h.row hb, h.own⟩
theorem RowAt3.grown {w WB W W' : World} {g : Nat} {v : Value} {fl : List Int} (h : RowAt3 w WB W g v fl) {row : Option Nat} (hg : W.grownBy W' row) (h1 : some g ≠ row) (h2 : ∀ k, v.ownBlock = some k → some k ≠ row) : RowAt3 w WB W' g v fl :=
 ⟨h.ge, blk_grown h.cell hg h1, Kd.R_grown h.row hg h2, h.own⟩
theorem RowAt3.set {w WB W : World} {g : Nat} {v : Value} {fl : List Int} (h : RowAt3 w WB W g v fl) {g' : Nat} {cs : Array Value} (u : Value) (h1 : g ≠ g') (h2 : W.heap[g']? = some (.cells cs 168 (0, 0))) : RowAt3 w WB (W.setCell ⟨g', 0, none⟩ u) g v fl :=
 ⟨h.ge, blk_far (p := ⟨g', 0, none⟩) h.cell h1 u, Kd.R_mono (Kd.R_far (p := ⟨g', 0, none⟩) (Kd.R_types (t := 168) h.row h2 (by decide)) (fun _ hk => hk.2) u) (fun _ hk => hk.1), h.own⟩
end
section
theorem max2_mx (k k' : IntKind) (x y : Int) : Builtin.max2 (.int k x) (.int k' y) = pure (.int k (mx x y)) := max2_int k k' x y
theorem min2_mn (k k' : IntKind) (x y : Int) : Builtin.min2 (.int k x) (.int k' y) = pure (.int k (mn x y)) := min2_int k k' x y
attribute [local go_sem] max2_mx min2_mn max_two min_two
end
section
end
section
end
section
end
section
end
section
end
section
end
section
end
section
end
section
end
section
end
section
section
variable (o : List ByteArray) (mt : List S70) (s : List S27) (p : List S89) (a4 a5 a6 : Int) (r : List Int)
def cW (mt : List S70) (r : List Int) : Nat → Int
  | 0 => 0
  | i + 1 => wrap64 (cW mt r i + wrap64 (rd r (i : Int) * (rd_T70 mt (i : Int)).f1))
theorem bcost_l0 (hm : mt.length ≤ 12) (hrl : r.length = mt.length) : ∀ (m i : Nat), i + m = mt.length → Ev (fun k => b_cost.l0 k r (cW mt r i) mt (mt.length : Int) (i : Int)) (cW mt r mt.length)
  | 0, i, hi => by
    apply Ev.step
    simp only [b_cost.l0, if_neg (show ¬ (i : Int) < (mt.length : Int) by omega)]
    rw [show i = mt.length by omega]
    exact Ev.const _
  | m + 1, i, hi => by
    have ih := bcost_l0 hm hrl m (i + 1) (by omega)
    apply Ev.step
    simp only [b_cost.l0, if_pos (show (i : Int) < (mt.length : Int) by omega), if_pos (i_pos i), if_pos (show (i : Int) < (r.length : Int) by omega), wrap_succ (i_pos i) (show (i : Int) ≤ 1000000000 by omega)]
    exact ih
end
section
variable (o : List ByteArray) (mt : List S70) (s : List S27) (p : List S89) (a4 a5 a6 : Int) (r q : List Int) (n b3 b4 : Int) (l5 : List Int)
end
end
section
def b_few.l0 : Nat → Int → List (S70) → Int → Int → Option (Bool)
 | 0, _, _, _, _ => none
 | k + 1, x3, x7, x8, x9 => if x9 < x8 then (if 0 ≤ x9 then (if x9 < (x7.length : Int) then (if ((rd_T70 x7 x9).f5) = 0 then (none) else (if (wrap64 (x3 * (wrap64 ((wrap64 (Int.tdiv (wrap64 (((rd_T70 x7 x9).f4) - ((rd_T70 x7 x9).f3))) ((rd_T70 x7 x9).f5))) + 1)))) > 100000 then (some false) else (b_few.l0 k (wrap64 (x3 * (wrap64 ((wrap64 (Int.tdiv (wrap64 (((rd_T70 x7 x9).f4) - ((rd_T70 x7 x9).f3))) ((rd_T70 x7 x9).f5))) + 1)))) x7 x8 (wrap64 (x9 + 1))))) else (none)) else (none)) else (some true)
def b_few.f (k : Nat) (l0_0 : List ByteArray) (l0_1 : List (S70)) (l0_2 : List (S27)) (l0_3 : List (S89)) (a0_4 : Int) (a0_5 : Int) (a0_6 : Int) : Option (Bool) := b_few.l0 k 1 l0_1 (l0_1.length : Int) 0
theorem b_few.calls (k : Nat) (A0_0 : Option Addr) (c0_0 : Nat) (l0_0 : List ByteArray) (A0_1 : Option Addr) (c0_1 : Nat) (l0_1 : List (S70)) (A0_2 : Option Addr) (c0_2 : Nat) (l0_2 : List (S27)) (A0_3 : Option Addr) (c0_3 : Nat) (l0_3 : List (S89)) (a0_4 : Int) (a0_5 : Int) (a0_6 : Int) (r : Bool) (w : World) (hr0_0 : Kd.C Kd.string w A0_0 l0_0.length l0_0) (hc0_0 : l0_0.length ≤ c0_0) (hr0_1 : Kd.C k70 w A0_1 l0_1.length l0_1) (hc0_1 : l0_1.length ≤ c0_1) (hr0_2 : Kd.C k27 w A0_2 l0_2.length l0_2) (hc0_2 : l0_2.length ≤ c0_2) (hr0_3 : Kd.C k89 w A0_3 l0_3.length l0_3) (hc0_3 : l0_3.length ≤ c0_3) (h : b_few.f k l0_0 l0_1 l0_2 l0_3 a0_4 a0_5 a0_6 = some r) :
  Calls Tryz.prog 88 #[.agg #[.slice A0_0 l0_0.length c0_0, .slice A0_1 l0_1.length c0_1, .slice A0_2 l0_2.length c0_2, .slice A0_3 l0_3.length c0_3, .int .i64 a0_4, .int .i64 a0_5, .int .i64 a0_6]] w fun e w' => e = .returned (.bool r) ∧ Below w.heap.size w w' := by
 have hu29 := Tryz.underlying29; have hu70 := Tryz.underlying70; have HR0_0 := Sd.mk hr0_0; have HC0_0 := Sd.mk hc0_0; clear hr0_0 hc0_0; have HR0_1 := Sd.mk hr0_1; have HC0_1 := Sd.mk hc0_1; clear hr0_1 hc0_1; have HR0_2 := Sd.mk hr0_2; have HC0_2 := Sd.mk hc0_2; clear hr0_2 hc0_2; have HR0_3 := Sd.mk hr0_3; have HC0_3 := Sd.mk hc0_3; clear hr0_3 hc0_3; have HB := Sd.mk (Below.refl w.heap.size w)
 have H : (b_few.l0 k 1 l0_1 (l0_1.length : Int) 0) = some r := h
 clear h; have H' := Sd.mk H; clear H
 go_enter Tryz.func88, Tryz.ntmps88
 go_wp2_with (first | ((with_reducible refine gate_dst (N := 1) rfl ?_); refine box_event ?hg (N := 1) ?hd (cs := #[.slice A0_0 l0_0.length c0_0, .slice A0_1 l0_1.length c0_1, .slice A0_2 l0_2.length c0_2, .slice A0_3 l0_3.length c0_3, .int .i64 a0_4, .int .i64 a0_5, .int .i64 a0_6]) (t := 29) ?hr ?_; (case hd => rfl); (case hg => rfl); (case hr => exact tG); intro gb484 hg w2 hbox hb; have BK484 := Sd.mk (hbox); have GW484 := Sd.mk (bSz hg (bBl HB.out)); have GE484 := Sd.mk (bSz hg (bBl HB.out)); replace HB := Sd.mk (below_step (bBl HB.out) hb); clear hb hbox hg; obtain ⟨u3_0, u3_1, u3_2, u3_3, u3_4, u3_5, u3_6, o3_0, o3_1, o3_2, o3_3, o3_4, o3_5, o3_6⟩ := bc7 (w := w2) BK484.out))
 go_loopg [3, 9] k (fun kq v3 v9 w' => ∃ (x3_1 : Int) (x9_1 : Int), v3 = .int .i64 x3_1 ∧ v9 = .int .i64 x9_1 ∧ Sd (b_few.l0 kq x3_1 l0_1 (l0_1.length : Int) x9_1 = some r) ∧ Sd (kq ≤ k) ∧ Sd (w'.heap[gb484]? = some (.cells #[(.slice A0_0 l0_0.length c0_0), (.slice A0_1 l0_1.length c0_1), (.slice A0_2 l0_2.length c0_2), (.slice A0_3 l0_3.length c0_3), .int .i64 a0_4, .int .i64 a0_5, .int .i64 a0_6] 29 (0, 0))) ∧ Sd (Below w.heap.size w w'))
 case atStart => exact ⟨(1), (0), tS, tS, H', ⟨Nat.le_refl _⟩, ⟨bkA BK484.out⟩, ⟨bBl HB.out⟩⟩
 case round =>
  clear H'; (try clear p2); (try clear u3_0 u3_1 u3_2 u3_3 u3_4 u3_5 u3_6); (try clear o3_0 o3_1 o3_2 o3_3 o3_4 o3_5 o3_6); obtain ⟨x3_1, x9_1, rfl, rfl, HA, HK1, BK484, HB⟩ := hrel
  cases gk with
  | zero => exact absurd HA.out (by simp [b_few.l0])
  | succ k1 =>
   have H := HA.out; clear HA
   simp only [b_few.l0] at H
   by_cases c4 : x9_1 < (l0_1.length : Int)
   ·rw [if_pos c4] at H
    have c4b0 : decide (x9_1 < (l0_1.length : Int)) = true := decide_eq_true c4
    clear c4
    by_cases c5 : 0 ≤ x9_1
    ·rw [if_pos c5] at H
     have c5b0 : decide (0 ≤ x9_1) = true := decide_eq_true c5
     clear c5
     by_cases c6 : x9_1 < (l0_1.length : Int)
     ·rw [if_pos c6] at H
      have c6b0 : decide (x9_1 < (l0_1.length : Int)) = true := decide_eq_true c6
      clear c6
      by_cases c7 : ((rd_T70 l0_1 x9_1).f5) = 0
      ·rw [if_pos c7] at H
       exact absurd H (by simp)
      ·rw [if_neg c7] at H
       have c7b0 : (((rd_T70 l0_1 x9_1).f5) == 0) = false := beq_eq_false_iff_ne.mpr c7
       have c7b1 : (((rd_T70 l0_1 x9_1).f5) != 0) = true := bne_iff_ne.mpr c7
       by_cases c8 : (wrap64 (x3_1 * (wrap64 ((wrap64 (Int.tdiv (wrap64 (((rd_T70 l0_1 x9_1).f4) - ((rd_T70 l0_1 x9_1).f3))) ((rd_T70 l0_1 x9_1).f5))) + 1)))) > 100000
       ·rw [if_pos c8] at H
        have c8b0 : decide (100000 < (wrap64 (x3_1 * (wrap64 ((wrap64 (Int.tdiv (wrap64 (((rd_T70 l0_1 x9_1).f4) - ((rd_T70 l0_1 x9_1).f3))) ((rd_T70 l0_1 x9_1).f5))) + 1))))) = true := decide_eq_true c8
        clear c8; obtain rfl := Option.some.inj H
        have p485 : 0 ≤ (x9_1 : Int) := tB
        have q485 : x9_1 < (l0_1.length : Int) := tB
        obtain ⟨ad485, A485_6, c485_6, e485, hx485_0, hx485_1, hx485_2, hx485_3, hx485_4, hx485_5, hx485_6, hl485_6, hi485_6⟩ := at_T70 HR0_1.out x9_1 p485 q485; cases e485; replace hx485_0 := cU HB hx485_0; replace hx485_1 := cU HB hx485_1; replace hx485_2 := cU HB hx485_2; replace hx485_3 := cU HB hx485_3; replace hx485_4 := cU HB hx485_4; replace hx485_5 := cU HB hx485_5; replace hx485_6 := cU HB hx485_6; have HR485_6 := Sd.mk hi485_6; have HC485_6 := Sd.mk hl485_6; clear hi485_6 hl485_6; replace p485 := eq_true p485; replace q485 := eq_true q485
        go_wp2_with (first | ((with_reducible refine gate_dst (N := 5) rfl ?_); refine box_event ?hg (N := 5) ?hd (cs := #[.string (⟨#[]⟩ : ByteArray), .int .i64 0, .int .i64 0, .int .i64 0, .int .i64 0, .int .i64 0, .slice none 0 0]) (t := 70) ?hr ?_; (case hd => rfl); (case hg => rfl); (case hr => exact tG); intro gb486 hg w9 hbox hb; have BK486 := Sd.mk (hbox); have GW486 := Sd.mk (bSz hg (bBl HB.out)); have GE486 := Sd.mk (bSz hg (bBl HB.out)); replace HB := Sd.mk (below_step (bBl HB.out) hb); have NB484_486 := Sd.mk (bNl hg (bkA BK484.out)); have NB486_484 := Sd.mk (bNg hg (bkA BK484.out)); replace BK484 := Sd.mk (blk_below (bkA BK484.out) hb); clear hb hbox hg; have hnb10 := NB486_484.out; have hnc10 := NB484_486.out; obtain ⟨u11_0, u11_1, u11_2, u11_3, u11_4, u11_5, u11_6, o11_0, o11_1, o11_2, o11_3, o11_4, o11_5, o11_6⟩ := bc7 (w := w9) BK486.out))
        go_ret
        exact ⟨tE, bBl HB.out⟩
       ·rw [if_neg c8] at H
        have c8b0 : decide (100000 < (wrap64 (x3_1 * (wrap64 ((wrap64 (Int.tdiv (wrap64 (((rd_T70 l0_1 x9_1).f4) - ((rd_T70 l0_1 x9_1).f3))) ((rd_T70 l0_1 x9_1).f5))) + 1))))) = false := decide_eq_false c8
        clear c8; have H' := Sd.mk H; clear H
        have p485 : 0 ≤ (x9_1 : Int) := tB
        have q485 : x9_1 < (l0_1.length : Int) := tB
        obtain ⟨ad485, A485_6, c485_6, e485, hx485_0, hx485_1, hx485_2, hx485_3, hx485_4, hx485_5, hx485_6, hl485_6, hi485_6⟩ := at_T70 HR0_1.out x9_1 p485 q485; cases e485; replace hx485_0 := cU HB hx485_0; replace hx485_1 := cU HB hx485_1; replace hx485_2 := cU HB hx485_2; replace hx485_3 := cU HB hx485_3; replace hx485_4 := cU HB hx485_4; replace hx485_5 := cU HB hx485_5; replace hx485_6 := cU HB hx485_6; have HR485_6 := Sd.mk hi485_6; have HC485_6 := Sd.mk hl485_6; clear hi485_6 hl485_6; replace p485 := eq_true p485; replace q485 := eq_true q485
        go_wp2_with (first | ((with_reducible refine gate_dst (N := 5) rfl ?_); refine box_event ?hg (N := 5) ?hd (cs := #[.string (⟨#[]⟩ : ByteArray), .int .i64 0, .int .i64 0, .int .i64 0, .int .i64 0, .int .i64 0, .slice none 0 0]) (t := 70) ?hr ?_; (case hd => rfl); (case hg => rfl); (case hr => exact tG); intro gb486 hg w12 hbox hb; have BK486 := Sd.mk (hbox); have GW486 := Sd.mk (bSz hg (bBl HB.out)); have GE486 := Sd.mk (bSz hg (bBl HB.out)); replace HB := Sd.mk (below_step (bBl HB.out) hb); have NB484_486 := Sd.mk (bNl hg (bkA BK484.out)); have NB486_484 := Sd.mk (bNg hg (bkA BK484.out)); replace BK484 := Sd.mk (blk_below (bkA BK484.out) hb); clear hb hbox hg; have hnb13 := NB486_484.out; have hnc13 := NB484_486.out; obtain ⟨u14_0, u14_1, u14_2, u14_3, u14_4, u14_5, u14_6, o14_0, o14_1, o14_2, o14_3, o14_4, o14_5, o14_6⟩ := bc7 (w := w12) BK486.out))
        go_roundg k1
        case measure => have := HK1.out; omega
        case rel => exact ⟨(wrap64 (x3_1 * (wrap64 ((wrap64 (Int.tdiv (wrap64 (((rd_T70 l0_1 x9_1).f4) - ((rd_T70 l0_1 x9_1).f3))) ((rd_T70 l0_1 x9_1).f5))) + 1)))), (wrap64 (x9_1 + 1)), tS, tS, H', ⟨by have := HK1.out; omega⟩, ⟨by refine bkZ ?_; refine blk_far ?_ NB484_486.out _; refine bkZ ?_; refine blk_far ?_ NB484_486.out _; refine bkZ ?_; refine blk_far ?_ NB484_486.out _; refine bkZ ?_; refine blk_far ?_ NB484_486.out _; refine bkZ ?_; refine blk_far ?_ NB484_486.out _; refine bkZ ?_; refine blk_far ?_ NB484_486.out _; refine bkZ ?_; refine blk_far ?_ NB484_486.out _; refine bkZ ?_; exact BK484.out⟩, ⟨bBl HB.out⟩⟩
     ·rw [if_neg c6] at H
      exact absurd H (by simp)
    ·rw [if_neg c5] at H
     exact absurd H (by simp)
   ·rw [if_neg c4] at H
    have c4b0 : decide (x9_1 < (l0_1.length : Int)) = false := decide_eq_false c4
    clear c4; obtain rfl := Option.some.inj H
    go_wp2
    go_ret
    exact ⟨tE, bBl HB.out⟩
end
section
theorem MatOk.b {n : Nat} {x : S70} (h : MatOk n x) : MatB x := ⟨h.least.1, h.most.1, h.most.2, h.step.1, h.step.2⟩
theorem mats_b {o : List ByteArray} {mt : List S70} {s : List S27} {p : List S89} {a4 a5 a6 : Int} (H : BatchOk o mt s p a4 a5 a6) : ∀ m ∈ mt, MatB m := by
  intro m hm
  obtain ⟨i, hi, rfl⟩ := List.getElem_of_mem hm
  have := (H.mats i hi).b
  simpa [rd_T70, hi] using this
theorem kilosF_mem (s : Int) (hs : 0 ≤ s) : ∀ (c : Nat) (k x : Int), x ∈ kilosF s c k → ∃ j : Nat, j < c ∧ x = k + (j : Int) * s
  | 0, _, _, h => by simp [kilosF] at h
  | c + 1, k, x, h => by
    rw [kilosF, List.mem_cons] at h
    rcases h with rfl | h
    · exact ⟨0, by omega, by simp⟩
    · obtain ⟨j, hj, rfl⟩ := kilosF_mem s hs c (k + s) x h
      exact ⟨j + 1, by omega, by push_cast; rw [Int.add_mul, Int.one_mul]; omega⟩
theorem kilosF_bd {m : S70} (M : MatB m) {x : Int} (h : x ∈ kilosF m.f5 (cntM m) m.f3) : m.f3 ≤ x ∧ x ≤ m.f4 ∧ Int.tmod (x - m.f3) m.f5 = 0 := by
  obtain ⟨j, hj, rfl⟩ := kilosF_mem m.f5 (by have := M.s1; omega) _ _ _ h
  have h1 := (cntM_last M).1
  have h2 : (j : Int) * m.f5 ≤ ((cntM m : Int) - 1) * m.f5 := Int.mul_le_mul_of_nonneg_right (by omega) (by have := M.s1; omega)
  have h3 : 0 ≤ (j : Int) * m.f5 := Int.mul_nonneg (by omega) (by have := M.s1; omega)
  refine ⟨by omega, by omega, ?_⟩
  rw [show m.f3 + (j : Int) * m.f5 - m.f3 = (j : Int) * m.f5 by omega]
  exact Int.mul_tmod_left _ _
theorem allR_rec : ∀ (mt : List S70), (∀ m ∈ mt, MatB m) → ∀ r ∈ allR mt, RecOk mt r
  | [], _, r, h => ⟨allR_len _ _ h, fun j hj => by simp at hj⟩
  | m :: ms, H, r, h => by
    have h' := h
    simp only [allR, List.mem_flatMap, List.mem_map] at h
    obtain ⟨k, hk, q, hq, rfl⟩ := h
    have ih := allR_rec ms (fun x hx => H x (List.mem_cons_of_mem _ hx)) q hq
    have M := H m List.mem_cons_self
    have hb := kilosF_bd M hk
    refine ⟨allR_len _ _ h', fun j hj => ?_⟩
    cases j with
    | zero => exact ⟨by have := M.lo; simp [rd]; omega, by have := M.hi; simp [rd]; omega⟩
    | succ j =>
      have := ih.kilos j (by simpa using hj)
      simpa [rd] using this
theorem rsAt_rec {mt : List S70} (H : ∀ m ∈ mt, MatB m) (k : Nat) (hk : k < (allR mt).length) : RecOk mt (rsAt mt k) := by
  unfold rsAt
  rw [getD_lt _ _ _ hk]
  exact allR_rec mt H _ (List.getElem_mem hk)
def bestV (mt : List S70) (s : List S27) (p : List S89) (a4 a5 a6 : Int) : List Int × Int × Bool :=
  (allR mt).foldl (chStep (passB mt s p a4 a5 a6) (fun r => cW mt r mt.length)) ([], 0, false)
theorem chF_best (mt : List S70) (s : List S27) (p : List S89) (a4 a5 a6 : Int) : chF (passB mt s p a4 a5 a6) (fun r => cW mt r mt.length) (rsAt mt) (allR mt).length = bestV mt s p a4 a5 a6 := by
  unfold chF bestV
  rw [rs_map]
def b_Best.f (k : Nat) (o : List ByteArray) (mt : List S70) (s : List S27) (p : List S89) (a4 a5 a6 : Int) : Option (List Int × Int × Bool × Int) :=
  (b_Check.f k o mt s p a4 a5 a6).bind fun e => if e = 0 then (b_few.f k o mt s p a4 a5 a6).bind fun b => if b = true then (if checkV o mt s p a4 a5 a6 = 0 then some ((bestV mt s p a4 a5 a6).1, (bestV mt s p a4 a5 a6).2.1, (bestV mt s p a4 a5 a6).2.2, 0) else none) else some ([], 0, false, 9) else some ([], 0, false, e)
theorem best1_calls (Bl : Nat) (Al : Option Addr) (cl : Nat) (ls : List S168) (A : Addr) (r : List Int) (b : Bool) (W : World) (hl : W.heap[Bl]? = some (.cells #[.slice Al ls.length cl] 100 (0, 0))) (hr : Kd.C k168 W Al ls.length ls) (hc : ls.length ≤ cl)
    (hri : Kd.C (Kd.int .i64) W (some A) r.length r) (h : x_keeps.f ls r 1 = some b) :
    Calls Tryz.prog 90 #[.slice (some A) r.length r.length, .pointer (some ⟨Bl, 0, none⟩)] W fun e W' => e = .returned (.bool b) ∧ Below W.heap.size W W' := by
  have hx : W.cell? ⟨Bl, 0, none⟩ = some (.slice Al ls.length cl) := (blk_cell hl 0).trans rfl
  have HC := x_keeps.calls Al cl ls (some A) r.length r 1 b W hr hc hri (Nat.le_refl _) h
  go_enter Tryz.func90, Tryz.ntmps90
  go_wp2_with (go_at_call 51; (with_reducible refine HC.mono ?_); rintro e w' ⟨rfl, hb⟩)
  go_ret
  exact ⟨rfl, hb⟩
theorem b_Best.calls (k : Nat) (A0_0 : Option Addr) (c0_0 : Nat) (l0_0 : List ByteArray) (A0_1 : Option Addr) (c0_1 : Nat) (l0_1 : List (S70)) (A0_2 : Option Addr) (c0_2 : Nat) (l0_2 : List (S27)) (A0_3 : Option Addr) (c0_3 : Nat) (l0_3 : List (S89)) (a0_4 : Int) (a0_5 : Int) (a0_6 : Int) (r1 : List Int) (r2 : Int) (r3 : Bool) (r4 : Int) (w : World) (hr0_0 : Kd.C Kd.string w A0_0 l0_0.length l0_0) (hc0_0 : l0_0.length ≤ c0_0) (hr0_1 : Kd.C k70 w A0_1 l0_1.length l0_1) (hc0_1 : l0_1.length ≤ c0_1) (hr0_2 : Kd.C k27 w A0_2 l0_2.length l0_2) (hc0_2 : l0_2.length ≤ c0_2) (hr0_3 : Kd.C k89 w A0_3 l0_3.length l0_3) (hc0_3 : l0_3.length ≤ c0_3) (h : b_Best.f k l0_0 l0_1 l0_2 l0_3 a0_4 a0_5 a0_6 = some (r1, r2, r3, r4)) :
    Calls Tryz.prog 28 #[.agg #[.slice A0_0 l0_0.length c0_0, .slice A0_1 l0_1.length c0_1, .slice A0_2 l0_2.length c0_2, .slice A0_3 l0_3.length c0_3, .int .i64 a0_4, .int .i64 a0_5, .int .i64 a0_6]] w fun e w' => ∃ v0_ : Value, e = .returned (.tuple #[v0_, .int .i64 r2, .bool r3, .int .i64 r4]) ∧ Kd.R (Kd.int .i64) 3 w' w.heap.size (fun _ => True) v0_ r1 ∧ Below w.heap.size w w' := by
  unfold b_Best.f at h
  obtain ⟨e0, he0, H⟩ := Option.bind_eq_some_iff.mp h
  clear h
  have BX := Sd.mk (blk_new w (.cells #[.slice A0_0 l0_0.length c0_0, .slice A0_1 l0_1.length c0_1, .slice A0_2 l0_2.length c0_2, .slice A0_3 l0_3.length c0_3, .int .i64 a0_4, .int .i64 a0_5, .int .i64 a0_6] 29))
  have HB := Sd.mk (below_alloc (Below.refl w.heap.size w) (.cells #[.slice A0_0 l0_0.length c0_0, .slice A0_1 l0_1.length c0_1, .slice A0_2 l0_2.length c0_2, .slice A0_3 l0_3.length c0_3, .int .i64 a0_4, .int .i64 a0_5, .int .i64 a0_6] 29))
  have HR := Sd.mk (And.intro hr0_0 (And.intro hr0_1 (And.intro hr0_2 hr0_3)))
  clear hr0_0 hr0_1 hr0_2 hr0_3
  have HE := Sd.mk he0
  have HH := Sd.mk H
  clear he0 H
  go_enter Tryz.func28, Tryz.ntmps28
  go_upto_region 1 with (fail)
  generalize w.alloc (.cells #[.slice A0_0 l0_0.length c0_0, .slice A0_1 l0_1.length c0_1, .slice A0_2 l0_2.length c0_2, .slice A0_3 l0_3.length c0_3, .int .i64 a0_4, .int .i64 a0_5, .int .i64 a0_6] 29) = W0 at BX HB ⊢
  obtain ⟨g0, g1, g2, g3, g4, g5, g6, _⟩ := bc7 BX.out
  go_upto_region 2 with (go_at_call 34; (refine (b_Check.calls k A0_0 c0_0 l0_0 A0_1 c0_1 l0_1 A0_2 c0_2 l0_2 A0_3 c0_3 l0_3 a0_4 a0_5 a0_6 e0 _ (Kd.C_below HR.out.1 HB.out) hc0_0 (Kd.C_below HR.out.2.1 HB.out) hc0_1 (Kd.C_below HR.out.2.2.1 HB.out) hc0_2 (Kd.C_below HR.out.2.2.2 HB.out) hc0_3 HE.out).mono ?_); rintro e W1 ⟨rfl, hb⟩; clear g0 g1 g2 g3 g4 g5 g6; replace BX := Sd.mk (blk_below BX.out hb); replace HB := Sd.mk (below_then HB.out HB.out.size hb); clear hb; obtain ⟨g0, g1, g2, g3, g4, g5, g6, _⟩ := bc7 BX.out)
  by_cases hz : e0 = 0
  · have H := HH.out
    rw [if_pos hz] at H
    obtain ⟨b0, hb0, H⟩ := Option.bind_eq_some_iff.mp H
    have HF := Sd.mk hb0
    replace HH := Sd.mk H
    clear H hb0
    cases b0 with
    | false =>
      have H := HH.out
      simp only [Bool.false_eq_true, if_false, Option.some.injEq, Prod.mk.injEq] at H
      obtain ⟨rfl, rfl, rfl, rfl⟩ := H
      clear HH
      go_wp2_with (first | (go_at_call 88; (refine (b_few.calls k A0_0 c0_0 l0_0 A0_1 c0_1 l0_1 A0_2 c0_2 l0_2 A0_3 c0_3 l0_3 a0_4 a0_5 a0_6 _ _ (Kd.C_below HR.out.1 HB.out) hc0_0 (Kd.C_below HR.out.2.1 HB.out) hc0_1 (Kd.C_below HR.out.2.2.1 HB.out) hc0_2 (Kd.C_below HR.out.2.2.2 HB.out) hc0_3 HF.out).mono ?_); rintro e W2 ⟨rfl, hb⟩; clear g0 g1 g2 g3 g4 g5 g6; replace BX := Sd.mk (blk_below BX.out hb); replace HB := Sd.mk (below_then HB.out HB.out.size hb); clear hb; obtain ⟨g0, g1, g2, g3, g4, g5, g6, _⟩ := bc7 BX.out))
      refine bodyPost_ret (v := .tuple #[.slice none 0 0, .int .i64 0, .bool false, .int .i64 9]) (by simp [results, Tryz.results28]) rfl ?_
      exact ⟨_, rfl, Kd.R_nil _ _ _ _ _, HB.out⟩
    | true =>
      have H := HH.out
      rw [if_pos rfl] at H
      by_cases hck : checkV l0_0 l0_1 l0_2 l0_3 a0_4 a0_5 a0_6 = 0
      rotate_left
      · rw [if_neg hck] at H; cases H
      rw [if_pos hck] at H
      simp only [Option.some.injEq, Prod.mk.injEq] at H
      obtain ⟨rfl, rfl, rfl, rfl⟩ := H
      have CKV := Sd.mk hck
      clear HH hck
      go_upto_region 7 with (first | (go_at_call 88; (refine (b_few.calls k A0_0 c0_0 l0_0 A0_1 c0_1 l0_1 A0_2 c0_2 l0_2 A0_3 c0_3 l0_3 a0_4 a0_5 a0_6 _ _ (Kd.C_below HR.out.1 HB.out) hc0_0 (Kd.C_below HR.out.2.1 HB.out) hc0_1 (Kd.C_below HR.out.2.2.1 HB.out) hc0_2 (Kd.C_below HR.out.2.2.2 HB.out) hc0_3 HF.out).mono ?_); rintro e W2 ⟨rfl, hb⟩; clear g0 g1 g2 g3 g4 g5 g6; replace BX := Sd.mk (blk_below BX.out hb); replace HB := Sd.mk (below_then HB.out HB.out.size hb); clear hb; obtain ⟨g0, g1, g2, g3, g4, g5, g6, _⟩ := bc7 BX.out) | (go_at_call 52; (refine (x_lines.calls A0_0 c0_0 l0_0 A0_1 c0_1 l0_1 A0_2 c0_2 l0_2 A0_3 c0_3 l0_3 a0_4 a0_5 a0_6 (linesV l0_1 l0_2 l0_3 a0_4 a0_5 a0_6) _ (Kd.C_below HR.out.1 HB.out) hc0_0 (Kd.C_below HR.out.2.1 HB.out) hc0_1 (Kd.C_below HR.out.2.2.1 HB.out) hc0_2 (Kd.C_below HR.out.2.2.2 HB.out) hc0_3 (by unfold x_lines.f; rw [if_pos CKV.out])).mono ?_); rintro e W3 ⟨v3, rfl, hl3, hb⟩; obtain ⟨A9, c9, rfl, hlc, hl9⟩ := Kd.R_reads hl3; have LN := Sd.mk (And.intro hlc hl9); clear hlc hl9 hl3; clear g0 g1 g2 g3 g4 g5 g6; replace BX := Sd.mk (blk_below BX.out hb); replace HB := Sd.mk (below_then HB.out HB.out.size hb); clear hb; obtain ⟨g0, g1, g2, g3, g4, g5, g6, _⟩ := bc7 BX.out))
      have BL := Sd.mk (blk_new W3 (.cells #[.slice A9 (linesV l0_1 l0_2 l0_3 a0_4 a0_5 a0_6).length c9] 100))
      have hb := below_alloc (Below.refl W3.heap.size W3) (.cells #[.slice A9 (linesV l0_1 l0_2 l0_3 a0_4 a0_5 a0_6).length c9] 100)
      replace LN := Sd.mk (And.intro LN.out.1 (Kd.C_below LN.out.2 hb))
      clear g0 g1 g2 g3 g4 g5 g6; replace BX := Sd.mk (blk_below BX.out hb); replace HB := Sd.mk (below_then HB.out HB.out.size hb); clear hb
      generalize W3.alloc (.cells #[.slice A9 (linesV l0_1 l0_2 l0_3 a0_4 a0_5 a0_6).length c9] 100) = W4 at BX HB BL LN ⊢
      generalize W3.heap.size = Bl at BL ⊢
      obtain ⟨g0, g1, g2, g3, g4, g5, g6, _⟩ := bc7 BX.out
      have HK := check_ok CKV.out
      have hBl := blk_lt BL.out
      have HC := cheapest_calls 90 #[.pointer (some ⟨Bl, 0, none⟩)] A0_0 A0_1 A0_2 A0_3 c0_0 c0_1 c0_2 c0_3 l0_0 l0_1 l0_2 l0_3 a0_4 a0_5 a0_6 (enters_of Tryz.func90 (by kernel_rfl) rfl) (passB l0_1 l0_2 l0_3 a0_4 a0_5 a0_6) (fun r => cW l0_1 r l0_1.length) (allR l0_1).length (rsAt l0_1) (fun W => Below W4.heap.size W4 W) W4 (by have := HK.m1; omega) HK.m12 hc0_0 hc0_1 hc0_2 hc0_3 (allR_pos l0_1) (rsAt_zero l0_1) (rsAt_len l0_1) (rsAt_next l0_1 (mats_b HK))
        (fun i hi => by
          obtain ⟨K, hK⟩ := bcost_l0 l0_1 (rsAt l0_1 i) HK.m12 (rsAt_len l0_1 i) l0_1.length 0 (by omega)
          exact ⟨K, hK K (Nat.le_refl _)⟩)
        (fun W W' hb h => h.trans hb)
        (fun W h => ⟨Kd.C_below (Kd.C_below HR.out.1 HB.out) h, Kd.C_below (Kd.C_below HR.out.2.1 HB.out) h, Kd.C_below (Kd.C_below HR.out.2.2.1 HB.out) h, Kd.C_below (Kd.C_below HR.out.2.2.2 HB.out) h⟩)
        (fun i hi W A h hs _ hri => by
          have hq := best1_calls Bl A9 c9 (linesV l0_1 l0_2 l0_3 a0_4 a0_5 a0_6) A (rsAt l0_1 i) (passB l0_1 l0_2 l0_3 a0_4 a0_5 a0_6 (rsAt l0_1 i)) W (blk_below BL.out h) (Kd.C_below LN.out.2 h) LN.out.1 hri (keeps_f l0_0 l0_1 l0_2 l0_3 a0_4 a0_5 a0_6 (rsAt l0_1 i) HK (rsAt_rec (mats_b HK) i hi))
          exact Calls.mono hq (fun e W' he => ⟨he.1, h.trans (he.2.mono hs), KeepHi.of_below he.2⟩))
        (Below.refl _ _)
      rw [chF_best] at HC
      go_wp2_with (go_at_call 89; (refine HC.mono ?_); rintro e W5 ⟨v5, rfl, hv5, hb5, hs5⟩)
      refine bodyPost_ret (v := .tuple #[v5, .int .i64 (bestV l0_1 l0_2 l0_3 a0_4 a0_5 a0_6).2.1, .bool (bestV l0_1 l0_2 l0_3 a0_4 a0_5 a0_6).2.2, .int .i64 0]) (by simp [results, Tryz.results28]) rfl ?_
      exact ⟨_, rfl, Kd.R_lower (Kd.R_mono hv5 (fun _ _ => trivial)) HB.out.size, below_then HB.out HB.out.size hb5⟩
  · have H := HH.out
    rw [if_neg hz] at H
    simp only [Option.some.injEq, Prod.mk.injEq] at H
    obtain ⟨rfl, rfl, rfl, rfl⟩ := H
    clear HH
    go_wp2
    refine bodyPost_ret (v := .tuple #[.slice none 0 0, .int .i64 0, .bool false, .int .i64 e0]) (by simp [results, Tryz.results28]) rfl ?_
    exact ⟨_, rfl, Kd.R_nil _ _ _ _ _, HB.out⟩
end
section
end
section
end
section
section
variable (o : List ByteArray) (mt : List S70) (s : List S27) (p : List S89) (a4 a5 a6 : Int) (r : List Int)
end
structure ChQ (rt : List Int → Bool) (cst : List Int → Int) (L : List (List Int)) (st : List Int × Int × Bool) : Prop where
  no : st.2.2 = false → st = ([], 0, false) ∧ ∀ r ∈ L, rt r = false
  yes : st.2.2 = true → rt st.1 = true ∧ st.2.1 = cst st.1 ∧ ∃ L1 L2, L = L1 ++ st.1 :: L2 ∧ (∀ r ∈ L1, rt r = true → cst st.1 < cst r) ∧ (∀ r ∈ L2, rt r = true → cst st.1 ≤ cst r)
theorem ChQ.step {rt : List Int → Bool} {cst : List Int → Int} {L : List (List Int)} {st : List Int × Int × Bool} (h : ChQ rt cst L st) (r : List Int) : ChQ rt cst (L ++ [r]) (chStep rt cst st r) := by
  obtain ⟨b, n, f⟩ := st
  unfold chStep
  cases hr : rt r with
  | false =>
    simp only [Bool.and_false, Bool.false_eq_true, if_false]
    refine ⟨fun hf => ⟨(h.no hf).1, fun x hx => ?_⟩, fun hf => ?_⟩
    · rcases List.mem_append.1 hx with hx | hx
      · exact (h.no hf).2 x hx
      · rw [List.mem_singleton.1 hx]; exact hr
    · obtain ⟨h1, h2, L1, L2, h3, h4, h5⟩ := h.yes hf
      refine ⟨h1, h2, L1, L2 ++ [r], by rw [h3]; simp, h4, fun x hx hx2 => ?_⟩
      rcases List.mem_append.1 hx with hx | hx
      · exact h5 x hx hx2
      · rw [List.mem_singleton.1 hx, hr] at hx2; cases hx2
  | true =>
    simp only [Bool.and_true]
    by_cases hc : (!f || decide (cst r < n)) = true
    · rw [if_pos hc]
      refine ⟨fun hf => (by cases hf), fun _ => ⟨hr, rfl, L, [], rfl, fun x hx hx2 => ?_, fun x hx => by cases hx⟩⟩
      cases f with
      | false => rw [(h.no rfl).2 x hx] at hx2; cases hx2
      | true =>
        simp at hc
        obtain ⟨h1, h2, L1, L2, h3, h4, h5⟩ := h.yes rfl
        simp only at h1 h2 h3 h4 h5
        rw [h3] at hx
        rcases List.mem_append.1 hx with hx | hx
        · have := h4 x hx hx2; show cst r < cst x; omega
        · rcases List.mem_cons.1 hx with rfl | hx
          · show cst r < cst x; omega
          · have := h5 x hx hx2; show cst r < cst x; omega
    · rw [if_neg hc]
      cases f with
      | false => simp at hc
      | true =>
        simp at hc
        refine ⟨fun hf => (by cases hf), fun hf => ?_⟩
        obtain ⟨h1, h2, L1, L2, h3, h4, h5⟩ := h.yes hf
        simp only at h1 h2 h3 h4 h5
        refine ⟨h1, h2, L1, L2 ++ [r], by rw [h3]; simp, h4, fun x hx hx2 => ?_⟩
        rcases List.mem_append.1 hx with hx | hx
        · exact h5 x hx hx2
        · rw [List.mem_singleton.1 hx]; show cst b ≤ cst r; omega
end
section
end
section
end
section
structure LnOk (n : Nat) (x : S168) : Prop where
  len : x.f0.length = n
  at_ : ∀ j : Nat, j < n → -1200000000 ≤ rd x.f0 (j : Int) ∧ rd x.f0 (j : Int) ≤ 1200000000
  b0 : x.f1 ≤ 0
  b1 : -10000000 ≤ x.f1
section
variable {o : List ByteArray} {mt : List S70} {s : List S27} {p : List S89} {a4 a5 a6 : Int}
end
end
section
structure BdOk (m : Nat) (L : List S168) (D : Int) (y : List Int) : Prop where
  n : L.length ≤ 39
  line : ∀ j : Nat, j < L.length → LnOk m (rd_T168 L (j : Int))
  d : 0 ≤ D ∧ D ≤ 1000000
  len : y.length = L.length
  y : ∀ j : Nat, j < L.length → 0 ≤ rd y (j : Int) ∧ rd y (j : Int) ≤ 1000
section
variable (o : List ByteArray) (mt : List S70) (s : List S27) (p : List S89) (a4 a5 a6 : Int) (L : List S168) (D : Int) (y : List Int)
variable (H : BatchOk o mt s p a4 a5 a6) (B : BdOk mt.length L D y)
include B in
include B in
include B in
include H B in
include H B in
include H B in
include H B in
include H B in
include H B in
include H B in
include H B in
include H B in
include H in
include H B in
include H B in
include H B in
end
end
section
theorem sumTo_add9 (f g : Nat → Int) : ∀ n, sumTo (fun j => f j + g j) n = sumTo f n + sumTo g n
  | 0 => by simp [sumTo]
  | n + 1 => by simp only [sumTo, sumTo_add9 f g n]; omega
theorem sumTo_leq {f g : Nat → Int} : ∀ n, (∀ j, j < n → f j ≤ g j) → sumTo f n ≤ sumTo g n
  | 0, _ => by simp [sumTo]
  | n + 1, h => by
    have := sumTo_leq n (fun j hj => h j (by omega))
    have := h n (by omega)
    simp only [sumTo]
    omega
theorem sumTo_eq {f g : Nat → Int} : ∀ n, (∀ j, j < n → f j = g j) → sumTo f n = sumTo g n
  | 0, _ => rfl
  | n + 1, h => by simp only [sumTo]; rw [sumTo_eq n (fun j hj => h j (by omega)), h n (by omega)]
section
variable (o : List ByteArray) (mt : List S70) (s : List S27) (p : List S89) (a4 a5 a6 : Int) (r : List Int)
end
end
section
def mixR (l0 l1 : List Int) (n : Nat) : List Int := (List.range n).map fun k : Nat => wrap64 (rd l0 (k : Int) + rd l1 (k : Int))
theorem mixR_len (l0 l1 : List Int) (n : Nat) : (mixR l0 l1 n).length = n := by simp [mixR]
theorem mixR_succ (l0 l1 : List Int) (n : Nat) : mixR l0 l1 (n + 1) = mixR l0 l1 n ++ [wrap64 (rd l0 (n : Int) + rd l1 (n : Int))] := by simp [mixR, List.range_succ]
theorem mixR_rd {l0 l1 : List Int} {n k : Nat} (h : k < n) : rd (mixR l0 l1 n) (k : Int) = wrap64 (rd l0 (k : Int) + rd l1 (k : Int)) := by simp [rd, mixR, h]
section
variable {o : List ByteArray} {mt : List S70} {s : List S27} {p : List S89} {a4 a5 a6 : Int} {l0 l1 : List Int}
theorem mix_rd (h0 : RecOk mt l0) (h1 : RecOk mt l1) {k : Nat} (hk : k < mt.length) : rd (mixR l0 l1 l0.length) (k : Int) = rd l0 (k : Int) + rd l1 (k : Int) := by
  have e := h0.len
  rw [mixR_rd (by omega)]
  have a := h0.kilos k hk
  have b := h1.kilos k hk
  exact wrap_id (by omega) (by omega)
theorem gS_mix (h0 : RecOk mt l0) (h1 : RecOk mt l1) (F : S27 → Int) (j : Nat) : ∀ n, n ≤ mt.length → gS F mt (mixR l0 l1 l0.length) j n = gS F mt l0 j n + gS F mt l1 j n
  | 0, _ => by simp [gS]
  | n + 1, hn => by
    simp only [gS, gS_mix h0 h1 F j n (by omega), mix_rd h0 h1 (show n < mt.length by omega), Int.add_mul]
    omega
theorem max_sub (x a b c d : Int) : max (x * (a + b)) (x * (c + d)) ≤ max (x * a) (x * c) + max (x * b) (x * d) := by
  rw [Int.mul_add, Int.mul_add]
  omega
section
variable {n : Nat} (h0 : RecOk mt l0) (h1 : RecOk mt l1) (cf : Int → Int) (m : Int)
include h0 h1
theorem below_mix : belowS cf (gramL n mt (mixR l0 l1 l0.length)) m ≤ belowS cf (gramL n mt l0) m + belowS cf (gramL n mt l1) m := by
  rw [belowS_sum, belowS_sum, belowS_sum, gramL_len, gramL_len, gramL_len, ← sumTo_add9]
  refine sumTo_leq _ fun j hj => ?_
  unfold bT
  rw [gramL_get _ _ _ _ hj, gramL_get _ _ _ _ hj, gramL_get _ _ _ _ hj, gS_mix h0 h1 _ _ _ (Nat.le_refl _), gS_mix h0 h1 _ _ _ (Nat.le_refl _)]
  exact max_sub _ _ _ _ _
theorem above_mix : aboveS cf (gramL n mt (mixR l0 l1 l0.length)) m ≤ aboveS cf (gramL n mt l0) m + aboveS cf (gramL n mt l1) m := by
  rw [aboveS_sum, aboveS_sum, aboveS_sum, gramL_len, gramL_len, gramL_len, ← sumTo_add9]
  refine sumTo_leq _ fun j hj => ?_
  unfold aT
  rw [gramL_get _ _ _ _ hj, gramL_get _ _ _ _ hj, gramL_get _ _ _ _ hj, gS_mix h0 h1 _ _ _ (Nat.le_refl _), gS_mix h0 h1 _ _ _ (Nat.le_refl _)]
  exact max_sub _ _ _ _ _
end
theorem mean_of {r : List Int} (H : BatchOk o mt s p a4 a5 a6) (hr : RecOk mt r) (h : ¬ lowW o.length mt r = 0) {cf : Int → Int} (C : CfOk cf o.length) : MeanOk cf (gramL o.length mt r) :=
  meanOk_of (gramL_ok H hr) (by rw [gramL_len]; exact C) (lowW_pos H hr h)
theorem means_mix (H : BatchOk o mt s p a4 a5 a6) (h0 : RecOk mt l0) (h1 : RecOk mt l1) (hm : RecOk mt (mixR l0 l1 l0.length)) (w0 : ¬ lowW o.length mt l0 = 0) (w1 : ¬ lowW o.length mt l1 = 0) (wm : ¬ lowW o.length mt (mixR l0 l1 l0.length) = 0) {cf : Int → Int} (C : CfOk cf o.length) :
    min (meanLo cf (gramL o.length mt l0)) (meanLo cf (gramL o.length mt l1)) ≤ meanLo cf (gramL o.length mt (mixR l0 l1 l0.length)) ∧ meanHi cf (gramL o.length mt (mixR l0 l1 l0.length)) ≤ max (meanHi cf (gramL o.length mt l0)) (meanHi cf (gramL o.length mt l1)) := by
  have M0 := mean_of H h0 w0 C
  have M1 := mean_of H h1 w1 C
  have Mm := mean_of H hm wm C
  refine ⟨(meanLo_iff Mm _).1 (Int.le_trans (below_mix h0 h1 cf _) ?_), (meanHi_iff Mm _).1 (Int.le_trans (above_mix h0 h1 cf _) ?_)⟩
  · have a := (meanLo_iff M0 (min (meanLo cf (gramL o.length mt l0)) (meanLo cf (gramL o.length mt l1)))).2 (by omega)
    have b := (meanLo_iff M1 (min (meanLo cf (gramL o.length mt l0)) (meanLo cf (gramL o.length mt l1)))).2 (by omega)
    omega
  · have a := (meanHi_iff M0 (max (meanHi cf (gramL o.length mt l0)) (meanHi cf (gramL o.length mt l1)))).2 (by omega)
    have b := (meanHi_iff M1 (max (meanHi cf (gramL o.length mt l0)) (meanHi cf (gramL o.length mt l1)))).2 (by omega)
    omega
theorem tot_mix (h0 : RecOk mt l0) (h1 : RecOk mt l1) (fs : List Int) : tot (mixR l0 l1 l0.length) fs mt.length = tot l0 fs mt.length + tot l1 fs mt.length := by
  unfold tot
  rw [← sumTo_add9]
  refine sumTo_eq _ fun j hj => ?_
  rw [mix_rd h0 h1 hj, Int.add_mul]
theorem pass_mix (H : BatchOk o mt s p a4 a5 a6) (h0 : RecOk mt l0) (h1 : RecOk mt l1) (p0 : passB mt s p a4 a5 a6 l0 = true) (p1 : passB mt s p a4 a5 a6 l1 = true) : passB mt s p a4 a5 a6 (mixR l0 l1 l0.length) = true := by
  unfold passB at *
  rw [List.all_eq_true] at *
  intro x hx
  have a := p0 x hx
  have b := p1 x hx
  have c := lines_ok H x hx
  simp only [decide_eq_true_eq] at *
  rw [tot_mix h0 h1]
  have := c.b0
  omega
end
structure MixOk (o : List ByteArray) (mt : List S70) (s : List S27) (p : List S89) (a4 a5 a6 : Int) (l0 l1 : List Int) : Prop where
  g0 : (GlassV o mt s p a4 a5 a6 l0).2 = 0
  g1 : (GlassV o mt s p a4 a5 a6 l1).2 = 0
  gm : (GlassV o mt s p a4 a5 a6 (mixR l0 l1 l0.length)).2 = 0
section
variable {o : List ByteArray} {mt : List S70} {s : List S27} {p : List S89} {a4 a5 a6 : Int} {l0 l1 : List Int}
theorem glass_ok {r : List Int} (h : (GlassV o mt s p a4 a5 a6 r).2 = 0) : askV o mt s p a4 a5 a6 r = 0 ∧ ¬ lowW o.length mt r = 0 ∧ GlassV o mt s p a4 a5 a6 r = (meansOf (gramL o.length mt r) o.length, 0) := by
  unfold GlassV at *
  by_cases ha : askV o mt s p a4 a5 a6 r = 0
  · rw [if_pos ha] at *
    by_cases hw : lowW o.length mt r = 0
    · rw [if_pos hw] at h; exact absurd h (by decide)
    · exact ⟨ha, hw, by rw [if_neg hw]⟩
  · rw [if_neg ha] at h; exact absurd h ha
theorem meansOf_at {l : List S27} {n i : Nat} (h : i < n) : rd_T27 (meansOf l n) (i : Int) = ⟨meanLo (unitC i) l, meanHi (unitC i) l⟩ := by
  simp [rd_T27, meansOf, List.getD, h]
theorem mix_len (M : MixOk o mt s p a4 a5 a6 l0 l1) : (GlassV o mt s p a4 a5 a6 l0).1.length = o.length ∧ (GlassV o mt s p a4 a5 a6 l1).1.length = o.length ∧ (GlassV o mt s p a4 a5 a6 (mixR l0 l1 l0.length)).1.length = o.length := by
  rw [(glass_ok M.g0).2.2, (glass_ok M.g1).2.2, (glass_ok M.gm).2.2]
  simp [meansOf_len]
theorem mix_share (M : MixOk o mt s p a4 a5 a6 l0 l1) {i : Nat} (hi : i < o.length) :
    min (rd_T27 (GlassV o mt s p a4 a5 a6 l0).1 (i : Int)).f0 (rd_T27 (GlassV o mt s p a4 a5 a6 l1).1 (i : Int)).f0 ≤ (rd_T27 (GlassV o mt s p a4 a5 a6 (mixR l0 l1 l0.length)).1 (i : Int)).f0 ∧
    (rd_T27 (GlassV o mt s p a4 a5 a6 (mixR l0 l1 l0.length)).1 (i : Int)).f1 ≤ max (rd_T27 (GlassV o mt s p a4 a5 a6 l0).1 (i : Int)).f1 (rd_T27 (GlassV o mt s p a4 a5 a6 l1).1 (i : Int)).f1 := by
  obtain ⟨a0, w0, e0⟩ := glass_ok M.g0
  obtain ⟨a1, w1, e1⟩ := glass_ok M.g1
  obtain ⟨am, wm, em⟩ := glass_ok M.gm
  rw [e0, e1, em]
  simp only [meansOf_at hi]
  exact means_mix (ask_ok a0).1 (ask_ok a0).2 (ask_ok a1).2 (ask_ok am).2 w0 w1 wm (unit_ok i _)
theorem mix_pass (M : MixOk o mt s p a4 a5 a6 l0 l1) : (PassV o mt s p a4 a5 a6 l0).2 = 0 ∧ (PassV o mt s p a4 a5 a6 l1).2 = 0 ∧ (PassV o mt s p a4 a5 a6 (mixR l0 l1 l0.length)).2 = 0 ∧ ((PassV o mt s p a4 a5 a6 l0).1 = true → (PassV o mt s p a4 a5 a6 l1).1 = true → (PassV o mt s p a4 a5 a6 (mixR l0 l1 l0.length)).1 = true) := by
  have a0 := (glass_ok M.g0).1
  have a1 := (glass_ok M.g1).1
  have am := (glass_ok M.gm).1
  unfold PassV
  rw [if_pos a0, if_pos a1, if_pos am]
  exact ⟨rfl, rfl, rfl, fun h0 h1 => pass_mix (ask_ok a0).1 (ask_ok a0).2 (ask_ok a1).2 h0 h1⟩
theorem shock_lo {a b c d : Int} (hd : 0 ≤ d) (h : min a b ≤ c) : min (35 * max a 0 * d / 78) (35 * max b 0 * d / 78) ≤ 35 * max c 0 * d / 78 := by
  have key : ∀ x y : Int, x ≤ y → 35 * max x 0 * d / 78 ≤ 35 * max y 0 * d / 78 := fun x y hxy =>
    Int.ediv_le_ediv (by decide) (Int.mul_le_mul_of_nonneg_right (by omega) hd)
  rcases Int.le_total a b with hab | hab
  · exact Int.le_trans (Int.min_le_left _ _) (key a c (by omega))
  · exact Int.le_trans (Int.min_le_right _ _) (key b c (by omega))
theorem shock_hi {a b c d : Int} (hd : 0 ≤ d) (h : c ≤ max a b) : (35 * max c 0 * d + 77) / 78 ≤ max ((35 * max a 0 * d + 77) / 78) ((35 * max b 0 * d + 77) / 78) := by
  have key : ∀ x y : Int, x ≤ y → (35 * max x 0 * d + 77) / 78 ≤ (35 * max y 0 * d + 77) / 78 := fun x y hxy =>
    Int.ediv_le_ediv (by decide) (by have := Int.mul_le_mul_of_nonneg_right (show 35 * max x 0 ≤ 35 * max y 0 by omega) hd; omega)
  rcases Int.le_total a b with hab | hab
  · exact Int.le_trans (key c b (by omega)) (Int.le_max_right _ _)
  · exact Int.le_trans (key c a (by omega)) (Int.le_max_left _ _)
theorem mix_shock (M : MixOk o mt s p a4 a5 a6 l0 l1) (n d : Int) :
    ((shockV (ValV o mt s p a4 a5 a6 l0 n) d).2.2 = (shockV (ValV o mt s p a4 a5 a6 l1 n) d).2.2 ∧ (shockV (ValV o mt s p a4 a5 a6 l0 n) d).2.2 = (shockV (ValV o mt s p a4 a5 a6 (mixR l0 l1 l0.length) n) d).2.2) ∧
    min (shockV (ValV o mt s p a4 a5 a6 l0 n) d).1 (shockV (ValV o mt s p a4 a5 a6 l1 n) d).1 ≤ (shockV (ValV o mt s p a4 a5 a6 (mixR l0 l1 l0.length) n) d).1 ∧
    (shockV (ValV o mt s p a4 a5 a6 (mixR l0 l1 l0.length) n) d).2.1 ≤ max (shockV (ValV o mt s p a4 a5 a6 l0 n) d).2.1 (shockV (ValV o mt s p a4 a5 a6 l1 n) d).2.1 := by
  obtain ⟨a0, w0, e0⟩ := glass_ok M.g0
  obtain ⟨a1, w1, e1⟩ := glass_ok M.g1
  obtain ⟨am, wm, em⟩ := glass_ok M.gm
  have H := (ask_ok a0).1
  unfold ValV
  rw [if_pos a0, if_pos a1, if_pos am, if_neg w0, if_neg w1, if_neg wm]
  by_cases hn : 0 ≤ n ∧ n < (p.length : Int)
  · rw [if_pos hn, if_pos hn, if_pos hn]
    have hm := means_mix H (ask_ok a0).2 (ask_ok a1).2 (ask_ok am).2 w0 w1 wm (pro_cf H hn).1
    unfold shockV
    simp only [if_true]
    by_cases hd : inB d 0 1000 = true
    · simp only [if_pos hd]
      have hd0 : 0 ≤ d := by simp only [inB, Bool.and_eq_true, decide_eq_true_eq] at hd; omega
      exact ⟨⟨trivial, trivial⟩, shock_lo hd0 hm.1, shock_hi hd0 hm.2⟩
    · simp only [if_neg hd]
      exact ⟨⟨trivial, trivial⟩, by decide, by decide⟩
  · rw [if_neg hn, if_neg hn, if_neg hn]
    refine ⟨⟨rfl, rfl⟩, ?_, ?_⟩ <;> simp [shockV]
end
end
section
def st_down.f (a0 : Int) (a1 : Int) : Option (Int) := if a1 = 0 then (none) else (some (wrap64 (Int.tdiv a0 a1)))
theorem st_down.calls (a0 : Int) (a1 : Int) (r : Int) (w : World) (h : st_down.f a0 a1 = some r) :
  Calls Tryz.prog 198 #[.int .i64 a0, .int .i64 a1] w fun e w' => e = .returned (.int .i64 r) ∧ Drawn0 w w' := by
 have H : (if a1 = 0 then (none) else (some (wrap64 (Int.tdiv a0 a1)))) = some r := h
 clear h
 by_cases c3 : a1 = 0
 ·rw [if_pos c3] at H
  exact absurd H (by simp)
 ·rw [if_neg c3] at H
  have c3b0 : (a1 == 0) = false := beq_eq_false_iff_ne.mpr c3
  have c3b1 : (a1 != 0) = true := bne_iff_ne.mpr c3
  obtain rfl := Option.some.inj H
  go_enter Tryz.func198, Tryz.ntmps198
  go_wp2
  go_ret
  exact ⟨by first | rfl | (simp; done) | (simp [*]; done), by repeat (first | exact Drawn0.refl _ | apply Drawn0.step)⟩
end
section
def st_thickness.f (a0_0 : Int) (a0_1 : Int) (a0_2 : Int) (a0_3 : Int) (a0_4 : Int) (a0_5 : Int) (a0_6 : Int) (a0_7 : Int) (a0_8 : Int) (a0_9 : Int) (a1_0 : Int) (a1_1 : Int) : Option (Int × Int) := (st_down.f (wrap64 ((wrap64 ((wrap64 (200 * a1_0)) * a0_4)) * 113)) (wrap64 ((wrap64 (355 * a0_1)) * a0_3))).bind fun t363 => ((st_up.f (wrap64 ((wrap64 ((wrap64 (200 * a1_1)) * a0_5)) * 106)) (wrap64 ((wrap64 (333 * a0_0)) * a0_2))).bind fun t364 => (some (t363, t364)))
def st_thickness.T1 : Bool × List (List Nat × List Nat) := (true, [([], []), ([0], [0]), ([1], [1]), ([], []), ([3], [3]), ([4], [4]), ([2, 5], [2, 5]), ([6], [6]), ([], []), ([8], [8]), ([9], [9]), ([10], [10]), ([], []), ([12], [12]), ([13], [13]), ([11, 14], [11, 14]), ([7, 15], [7, 15]), ([], []), ([17], [17]), ([18], [18]), ([], []), ([20], [20]), ([21], [21]), ([19, 22], [19, 22]), ([23], [23]), ([], []), ([25], [25]), ([26], [26]), ([27], [27]), ([], []), ([29], [29]), ([30], [30]), ([28, 31], [28, 31]), ([24, 32, 16], [24, 32]), ([16, 33], [16, 33]), ([34, 33, 0, 1, 2, 3, 4, 5, 6, 7, 8, 9, 10, 11, 12, 13, 14, 15, 16, 17, 18, 19, 20, 21, 22, 23, 24, 25, 26, 27, 28, 29, 30, 31, 32, 33, 34], [34])])
def st_thickness.B1 : List Nat := [0, 1, 3, 0, 8, 24, 63, 127, 0, 256, 768, 1792, 0, 4096, 12288, 32512, 65535, 0, 131072, 393216, 0, 1048576, 3145728, 8257536, 16646144, 0, 33554432, 100663296, 234881024, 0, 536870912, 1610612736, 4261412864, 8589934591, 17179869183, 34359738367]
theorem st_thickness.tab1 : rtab .any (opsOf Tryz.f156 1) = st_thickness.T1 := by kernel_rfl
theorem st_thickness.bits1 : waitsOk st_thickness.T1.2 st_thickness.B1 = true := by kernel_rfl
theorem st_thickness.calls (a0_0 : Int) (a0_1 : Int) (a0_2 : Int) (a0_3 : Int) (a0_4 : Int) (a0_5 : Int) (a0_6 : Int) (a0_7 : Int) (a0_8 : Int) (a0_9 : Int) (a1_0 : Int) (a1_1 : Int) (r1 : Int) (r2 : Int) (w : World) (h : st_thickness.f a0_0 a0_1 a0_2 a0_3 a0_4 a0_5 a0_6 a0_7 a0_8 a0_9 a1_0 a1_1 = some (r1, r2)) :
  Calls Tryz.prog 156 #[.agg #[.int .i64 a0_0, .int .i64 a0_1, .int .i64 a0_2, .int .i64 a0_3, .int .i64 a0_4, .int .i64 a0_5, .int .i64 a0_6, .int .i64 a0_7, .int .i64 a0_8, .int .i64 a0_9], .agg #[.int .i64 a1_0, .int .i64 a1_1]] w fun e w' => e = .returned (.agg #[.int .i64 r1, .int .i64 r2]) ∧ Below w.heap.size w w' := by
 have hu92 := Tryz.underlying92; have hu27 := Tryz.underlying27; have HB := Sd.mk (Below.refl w.heap.size w)
 have H : ((st_down.f (wrap64 ((wrap64 ((wrap64 (200 * a1_0)) * a0_4)) * 113)) (wrap64 ((wrap64 (355 * a0_1)) * a0_3))).bind fun t363 => ((st_up.f (wrap64 ((wrap64 ((wrap64 (200 * a1_1)) * a0_5)) * 106)) (wrap64 ((wrap64 (333 * a0_0)) * a0_2))).bind fun t364 => (some (t363, t364)))) = some (r1, r2) := h
 clear h; replace H := Option.bind_eq_some_iff.mp H; obtain ⟨t363, A30, H⟩ := H
 try dsimp only at H
 have A3 := Sd.mk A30; clear A30; replace H := Option.bind_eq_some_iff.mp H; obtain ⟨t364, A40, H⟩ := H
 try dsimp only at H
 have A4 := Sd.mk A40; clear A40
 simp only [Option.some.injEq, Prod.mk.injEq] at H
 obtain ⟨rfl, rfl⟩ := H
 go_enter Tryz.func156, Tryz.ntmps156
 try go_wp2_with (first | ((with_reducible refine gate_dst (N := 2) rfl ?_); refine box_event ?hg (N := 2) ?hd (cs := #[.int .i64 a0_0, .int .i64 a0_1, .int .i64 a0_2, .int .i64 a0_3, .int .i64 a0_4, .int .i64 a0_5, .int .i64 a0_6, .int .i64 a0_7, .int .i64 a0_8, .int .i64 a0_9]) (t := 92) ?hr ?_; (case hd => rfl); (case hg => rfl); (case hr => exact tG); intro gb360 hg w5 hbox hb; have BK360 := Sd.mk (hbox); have GW360 := Sd.mk (bSz hg (bBl HB.out)); have GE360 := Sd.mk (bSz hg (bBl HB.out)); replace HB := Sd.mk (below_step (bBl HB.out) hb); clear hb hbox hg) | ((with_reducible refine gate_dst (N := 3) rfl ?_); refine box_event ?hg (N := 3) ?hd (cs := #[.int .i64 a1_0, .int .i64 a1_1]) (t := 27) ?hr ?_; (case hd => rfl); (case hg => rfl); (case hr => exact tG); intro gb361 hg w6 hbox hb; have BK361 := Sd.mk (hbox); have GW361 := Sd.mk (bSz hg (bBl HB.out)); have GE361 := Sd.mk (bSz hg (bBl HB.out)); replace HB := Sd.mk (below_step (bBl HB.out) hb); have NB360_361 := Sd.mk (bNl hg (bkA BK360.out)); have NB361_360 := Sd.mk (bNg hg (bkA BK360.out)); replace BK360 := Sd.mk (blk_below (bkA BK360.out) hb); clear hb hbox hg) | ((with_reducible refine gate_dst (N := 4) rfl ?_); refine box_event ?hg (N := 4) ?hd (cs := #[.int .i64 0, .int .i64 0]) (t := 27) ?hr ?_; (case hd => rfl); (case hg => rfl); (case hr => exact tG); intro gb362 hg w7 hbox hb; have BK362 := Sd.mk (hbox); have GW362 := Sd.mk (bSz hg (bBl HB.out)); have GE362 := Sd.mk (bSz hg (bBl HB.out)); replace HB := Sd.mk (below_step (bBl HB.out) hb); have NB360_362 := Sd.mk (bNl hg (bkA BK360.out)); have NB362_360 := Sd.mk (bNg hg (bkA BK360.out)); replace BK360 := Sd.mk (blk_below (bkA BK360.out) hb); have NB361_362 := Sd.mk (bNl hg (bkA BK361.out)); have NB362_361 := Sd.mk (bNg hg (bkA BK361.out)); replace BK361 := Sd.mk (blk_below (bkA BK361.out) hb); clear hb hbox hg))
 replace BK360 := Sd.mk (blk_drew BK360.out); replace BK361 := Sd.mk (blk_drew BK361.out); replace BK362 := Sd.mk (blk_drew BK362.out); replace HB := Sd.mk (below_drew1 HB.out)
 refine start_ (n := 36) (S := fun w' => w'.cell? ⟨gb361, 0, none⟩ = some (.int .i64 a1_0) ∧ w'.cell? ⟨gb361, 1, none⟩ = some (.int .i64 a1_1) ∧ w'.cell? ⟨gb360, 0, none⟩ = some (.int .i64 a0_0) ∧ w'.cell? ⟨gb360, 1, none⟩ = some (.int .i64 a0_1) ∧ w'.cell? ⟨gb360, 2, none⟩ = some (.int .i64 a0_2) ∧ w'.cell? ⟨gb360, 3, none⟩ = some (.int .i64 a0_3) ∧ w'.cell? ⟨gb360, 4, none⟩ = some (.int .i64 a0_4) ∧ w'.cell? ⟨gb360, 5, none⟩ = some (.int .i64 a0_5) ∧ w'.cell? ⟨gb360, 6, none⟩ = some (.int .i64 a0_6) ∧ w'.cell? ⟨gb360, 7, none⟩ = some (.int .i64 a0_7) ∧ w'.cell? ⟨gb360, 8, none⟩ = some (.int .i64 a0_8) ∧ w'.cell? ⟨gb360, 9, none⟩ = some (.int .i64 a0_9)) (ds := []) (bA 36 0) (by kernel_rfl) rfl rfl ⟨(blk_cell BK361.out 0).trans rfl, (blk_cell BK361.out 1).trans rfl, (blk_cell BK360.out 0).trans rfl, (blk_cell BK360.out 1).trans rfl, (blk_cell BK360.out 2).trans rfl, (blk_cell BK360.out 3).trans rfl, (blk_cell BK360.out 4).trans rfl, (blk_cell BK360.out 5).trans rfl, (blk_cell BK360.out 6).trans rfl, (blk_cell BK360.out 7).trans rfl, (blk_cell BK360.out 8).trans rfl, (blk_cell BK360.out 9).trans rfl⟩ (fun hHeld => ?_); refine with_tabW st_thickness.tab1 st_thickness.bits1 (fun HT_ HW_ => ?_)
 generalize w7.drew = w8 at BK360 BK361 BK362 HB hHeld ⊢
 refine pQ 0 (some 5) (bA 36 1) ?_
 refine pQ 3 (some 8) (bA 36 9) ?_
 refine pQ 4 (some 9) (bA 36 25) ?_
 refine pQ 8 (some 13) (bA 36 281) ?_
 refine pQ 9 (some 14) (bA 36 793) ?_
 refine pQ 12 (some 17) (bA 36 4889) ?_
 refine pQ 13 (some 18) (bA 36 13081) ?_
 refine pQ 17 (some 22) (bA 36 144153) ?_
 refine pQ 20 (some 25) (bA 36 1192729) ?_
 refine pQ 21 (some 26) (bA 36 3289881) ?_
 refine pQ 25 (some 30) (bA 36 36844313) ?_
 refine pQ 26 (some 31) (bA 36 103953177) ?_
 refine pQ 29 (some 34) (bA 36 640824089) ?_
 refine pQ 30 (some 35) (bA 36 1714565913) ?_
 refine tQ 1 (some 6) (bA 36 1714565915) ?_
 refine pQ 2 (some 7) (bA 36 1714565919) ?_
 refine tQ 5 (some 10) (bA 36 1714565951) ?_
 refine pQ 6 (some 11) (bA 36 1714566015) ?_
 refine pQ 7 (some 12) (bA 36 1714566143) ?_
 refine tQ 10 (some 15) (bA 36 1714567167) ?_
 refine pQ 11 (some 16) (bA 36 1714569215) ?_
 refine tQ 14 (some 19) (bA 36 1714585599) ?_
 refine pQ 15 (some 20) (bA 36 1714618367) ?_
 refine tQ 18 (some 23) (bA 36 1714880511) ?_
 refine pQ 19 (some 24) (bA 36 1715404799) ?_
 refine tQ 22 (some 27) (bA 36 1719599103) ?_
 refine pQ 23 (some 28) (bA 36 1727987711) ?_
 refine pQ 24 (some 29) (bA 36 1744764927) ?_
 refine tQ 27 (some 32) (bA 36 1878982655) ?_
 refine pQ 28 (some 33) (bA 36 2147418111) ?_
 refine tQ 31 (some 36) (bA 36 4294901759) ?_
 refine pQ 32 (some 37) (bA 36 8589869055) ?_
 refine one_ (i := 16) (N := some 21) (bA 36 8589934591) rfl rfl (one_of HT_.out (by kernel_rfl)) (by decide) (fun K hK => ?_)
 refine goes_ Tryz.func198 (by kernel_rfl) rfl #[.int .i64 (wrap64 ((wrap64 ((wrap64 (200 * a1_0)) * a0_4)) * 113)), .int .i64 (wrap64 ((wrap64 (355 * a0_1)) * a0_3))] (by rfl) rfl rfl tM ?_
 with_reducible refine (st_down.calls (wrap64 ((wrap64 ((wrap64 (200 * a1_0)) * a0_4)) * 113)) (wrap64 ((wrap64 (355 * a0_1)) * a0_3)) t363 _ A3.out).mono ?_
 rintro e w' ⟨rfl, ⟨nd, rfl⟩⟩
 refine ⟨_, rfl, ?_⟩
 refine hK.out _ _ ⟨(blk_cell BK361.out 0).trans rfl, (blk_cell BK361.out 1).trans rfl, (blk_cell BK360.out 0).trans rfl, (blk_cell BK360.out 1).trans rfl, (blk_cell BK360.out 2).trans rfl, (blk_cell BK360.out 3).trans rfl, (blk_cell BK360.out 4).trans rfl, (blk_cell BK360.out 5).trans rfl, (blk_cell BK360.out 6).trans rfl, (blk_cell BK360.out 7).trans rfl, (blk_cell BK360.out 8).trans rfl, (blk_cell BK360.out 9).trans rfl⟩ (fun hHeld => ?_)
 clear hK K
 refine norm_ (a' := ?_) ?_ ?_
 rotate_left
 ·show Act.put _ (some 21) _ = _
  exact tP
 refine one_ (i := 33) (N := some 38) (bA 36 17179869183) rfl rfl (one_of HT_.out (by kernel_rfl)) (by decide) (fun K hK => ?_)
 refine goes_ Tryz.func159 (by kernel_rfl) rfl #[.int .i64 (wrap64 ((wrap64 ((wrap64 (200 * a1_1)) * a0_5)) * 106)), .int .i64 (wrap64 ((wrap64 (333 * a0_0)) * a0_2))] (by rfl) rfl rfl tM ?_
 with_reducible refine (st_up.calls (wrap64 ((wrap64 ((wrap64 (200 * a1_1)) * a0_5)) * 106)) (wrap64 ((wrap64 (333 * a0_0)) * a0_2)) t364 _ A4.out).mono ?_
 rintro e w' ⟨rfl, ⟨nd, rfl⟩⟩
 refine ⟨_, rfl, ?_⟩
 refine hK.out _ _ ⟨(blk_cell BK361.out 0).trans rfl, (blk_cell BK361.out 1).trans rfl, (blk_cell BK360.out 0).trans rfl, (blk_cell BK360.out 1).trans rfl, (blk_cell BK360.out 2).trans rfl, (blk_cell BK360.out 3).trans rfl, (blk_cell BK360.out 4).trans rfl, (blk_cell BK360.out 5).trans rfl, (blk_cell BK360.out 6).trans rfl, (blk_cell BK360.out 7).trans rfl, (blk_cell BK360.out 8).trans rfl, (blk_cell BK360.out 9).trans rfl⟩ (fun hHeld => ?_)
 clear hK K
 refine norm_ (a' := ?_) ?_ ?_
 rotate_left
 ·show Act.put _ (some 38) _ = _
  exact tP
 refine pQ 34 (some 39) (bA 36 34359738367) ?_
 refine one_ (i := 35) (N := none) (bA 36 68719476735) rfl rfl (one_of HT_.out (by kernel_rfl)) (by decide) (fun K hK => ?_)
 have hs9 : w8.cell? ⟨gb362, 0, none⟩ = some (.int .i64 0) := (blk_cell BK362.out 0).trans rfl
 have hfs9 := blk_frozen BK362.out 0; have hns9_0 := NB360_362.out; have hns9_1 := NB361_362.out; have hms9_0 := NB362_360.out; have hms9_1 := NB362_361.out
 have hs10 : w8.cell? ⟨gb362, 1, none⟩ = some (.int .i64 0) := (blk_cell BK362.out 1).trans rfl
 have hfs10 := blk_frozen BK362.out 1; have hns10_0 := NB360_362.out; have hns10_1 := NB361_362.out; have hms10_0 := NB362_360.out; have hms10_1 := NB362_361.out
 refine skip_ (w1 := ?_) (by rfl) rfl ?_ ?_
 rotate_left
 ·go_simp
  rfl
 refine hK.out _ _ ⟨((cell_far (p := ⟨gb362, _, none⟩) NB361_362.out _).trans (((cell_far (p := ⟨gb362, _, none⟩) NB361_362.out _).trans (hHeld.1)))), ((cell_far (p := ⟨gb362, _, none⟩) NB361_362.out _).trans (((cell_far (p := ⟨gb362, _, none⟩) NB361_362.out _).trans (hHeld.2.1)))), ((cell_far (p := ⟨gb362, _, none⟩) NB360_362.out _).trans (((cell_far (p := ⟨gb362, _, none⟩) NB360_362.out _).trans (hHeld.2.2.1)))), ((cell_far (p := ⟨gb362, _, none⟩) NB360_362.out _).trans (((cell_far (p := ⟨gb362, _, none⟩) NB360_362.out _).trans (hHeld.2.2.2.1)))), ((cell_far (p := ⟨gb362, _, none⟩) NB360_362.out _).trans (((cell_far (p := ⟨gb362, _, none⟩) NB360_362.out _).trans (hHeld.2.2.2.2.1)))), ((cell_far (p := ⟨gb362, _, none⟩) NB360_362.out _).trans (((cell_far (p := ⟨gb362, _, none⟩) NB360_362.out _).trans (hHeld.2.2.2.2.2.1)))), ((cell_far (p := ⟨gb362, _, none⟩) NB360_362.out _).trans (((cell_far (p := ⟨gb362, _, none⟩) NB360_362.out _).trans (hHeld.2.2.2.2.2.2.1)))), ((cell_far (p := ⟨gb362, _, none⟩) NB360_362.out _).trans (((cell_far (p := ⟨gb362, _, none⟩) NB360_362.out _).trans (hHeld.2.2.2.2.2.2.2.1)))), ((cell_far (p := ⟨gb362, _, none⟩) NB360_362.out _).trans (((cell_far (p := ⟨gb362, _, none⟩) NB360_362.out _).trans (hHeld.2.2.2.2.2.2.2.2.1)))), ((cell_far (p := ⟨gb362, _, none⟩) NB360_362.out _).trans (((cell_far (p := ⟨gb362, _, none⟩) NB360_362.out _).trans (hHeld.2.2.2.2.2.2.2.2.2.1)))), ((cell_far (p := ⟨gb362, _, none⟩) NB360_362.out _).trans (((cell_far (p := ⟨gb362, _, none⟩) NB360_362.out _).trans (hHeld.2.2.2.2.2.2.2.2.2.2.1)))), ((cell_far (p := ⟨gb362, _, none⟩) NB360_362.out _).trans (((cell_far (p := ⟨gb362, _, none⟩) NB360_362.out _).trans (hHeld.2.2.2.2.2.2.2.2.2.2.2))))⟩ (fun hHeld => ?_)
 clear hK K
 refine done_ (done_of HT_.out (by kernel_rfl)) ?_
 try go_wp2
 refine bodyPost_ret (results_cell_row rfl _ _ gb362 27 #[.int .i64 t363, .int .i64 t364] (0, 0) _ rfl (by refine bkZ ?_; refine blk_put (cs := #[.int .i64 t363, .int .i64 0]) ?_ 1 _ rfl; refine bkZ ?_; refine blk_put (cs := #[.int .i64 0, .int .i64 0]) ?_ 0 _ rfl; refine bkZ ?_; exact BK362.out) Tryz.underlying27 rfl (by kernel_rfl)) rfl ?_
 exact ⟨tE, bBl HB.out⟩
end
section
open Go.RowKit Go.Shelf Go.Proofs.YtljfljekcpdpiaaGreatW.PrintWords Go.Proofs.YtljfljekcpdpiaaGreatW.PrintLast Go.Proofs.YtljfljekcpdpiaaGreatW.PrintMore
attribute [local go_sem] Oper.semAt_some
def thick1 (x : S92) (lo hi : Int) : Option (Int × Int) := st_thickness.f x.f0.f0 x.f0.f1 x.f1.f0 x.f1.f1 x.f2.f0 x.f2.f1 x.f3.f0 x.f3.f1 x.f4.f0 x.f4.f1 lo hi
def thickL (zs : List S92) (lo hi : Int) : Nat → Option (List S27)
  | 0 => some []
  | k + 1 => (thickL zs lo hi k).bind fun l => (thick1 (rd_T92 zs (k : Int)) lo hi).bind fun p => some (l ++ [⟨p.1, p.2⟩])
structure ThI (A : Option Addr) (c : Nat) (zs : List S92) (f1 f2 lo hi : Int) (w : World) (g B : Nat) (k : Nat) (W : World) (v : Value) (l : List S27) : Prop where
  li : thickL zs lo hi k = some l
  bx : W.heap[w.heap.size]? = some (.cells #[.slice A zs.length c, .int .i64 f1, .int .i64 f2] 73 (0, 0))
  sp : W.heap[w.heap.size + 1]? = some (.cells #[.int .i64 lo, .int .i64 hi] 27 (0, 0))
  sl : W.heap[w.heap.size + 1 + 1]? = some (.cells #[v] 24 (0, 0))
  er : W.heap[w.heap.size + 1 + 1 + 1]? = some (.cells #[.int .i64 0] 38 (0, 0))
  rb : W.heap[g]? = some (.cells #[.slice A zs.length c, .int .i64 f1, .int .i64 f2] 73 (0, 0))
  be : Below w.heap.size w W
  ro : Kd.R k27 27 W (B + 2) (fun _ => True) v l
theorem R_put {W : World} {v : Value} {l : List S27} {B r : Nat} (h : Kd.R k27 27 W B (fun _ => True) v l) (hr : r < B) (o' : Obj) : Kd.R k27 27 (W.putObj r o') B (fun _ => True) v l := by
  refine Kd.R_mono (Kd.R_step (Kd.R_bound h) (fun k hk hlt => ?_)) (fun _ _ => trivial)
  exact World.putObj_heap_other (by have := hk.2.1; omega)
section
variable {A : Option Addr} {c : Nat} {zs : List S92} {f1 f2 lo hi : Int} {w : World} {g B k : Nat} {W : World} {v : Value} {l : List S27}
theorem ThI.alloc (h : ThI A c zs f1 f2 lo hi w g B k W v l) (o : Obj) : ThI A c zs f1 f2 lo hi w g B k (W.alloc o) v l :=
  ⟨h.li, blk_alloc h.bx o, blk_alloc h.sp o, blk_alloc h.sl o, blk_alloc h.er o, blk_alloc h.rb o, below_alloc h.be o, Kd.R_alloc h.ro o⟩
theorem ThI.put (h : ThI A c zs f1 f2 lo hi w g B k W v l) (o : Obj) (h1 : w.heap.size + 4 ≤ g) (h2 : g < B) (h3 : B + 1 < W.heap.size) : ThI A c zs f1 f2 lo hi w g B k (W.putObj (B + 1) o) v l :=
  ⟨h.li, putObj_heap_keep (by omega) h.bx, putObj_heap_keep (by omega) h.sp, putObj_heap_keep (by omega) h.sl, putObj_heap_keep (by omega) h.er, putObj_heap_keep (by omega) h.rb, below_putObj h.be (by omega) h3, R_put h.ro (by omega) o⟩
end
theorem rings_b (v1 v2 v3 : Value) (w : World) :
    Calls Tryz.prog 111 #[.agg #[v1, v2, v3]] w fun e w' => ∃ g, e = .returned (.func (.func 187) #[] #[.pointer (some ⟨g, 0, none⟩)]) ∧ w.heap.size ≤ g ∧ w'.heap[g]? = some (.cells #[v1, v2, v3] 73 (0, 0)) ∧ Below w.heap.size w w' :=
  (callsIn_wide (n := 9)).1 ((rings_callsI Fence.wide 9 trivial rfl v1 v2 v3 w).mono fun e w' he => ⟨w.heap.size, he.1, Nat.le_refl _, by rw [he.2]; exact blk_new _ _, by rw [he.2]; exact below_alloc (Below.refl _ _) _⟩)
theorem Below5 {B : Nat} {w w1 : World} {g : Nat} {o : Obj} (hb : Below B w w1) (h : w.heap[g]? = some o) (hg : g < B) : w1.heap[g]? = some o := (hb.block g hg).trans h
theorem bottle_len {zs : List S92} {f1 f2 : Int} (h : bottleV zs f1 f2 = 0) : zs.length ≤ 24 := by
  unfold bottleV at h
  split at h
  · cases h
  · omega
theorem bottle_ok (A : Option Addr) (c : Nat) (zs : List S92) (f1 f2 : Int) (w : World) (hr : Kd.C k92 w A zs.length zs) (h : bottleV zs f1 f2 = 0) :
    Calls Tryz.prog 120 #[.agg #[.slice A zs.length c, .int .i64 f1, .int .i64 f2]] w fun en w' => en = .returned (.tuple #[]) ∧ Below w.heap.size w w' :=
  (bottle_calls A c zs f1 f2 w hr).mono fun e w' he => ⟨by rw [he.1, h]; rfl, he.2⟩
end
section
structure TurnsAt (p : Nat → Bool) (n c : Nat) : Prop where
  le : c ≤ n
  lo : ∀ t, t < c → p t = false
  hi : ∀ t, c ≤ t → t < n → p t = true
theorem turnsAt_ex (p : Nat → Bool) (hm : ∀ a b, a ≤ b → p a = true → p b = true) : ∀ n, ∃ c, TurnsAt p n c
  | 0 => ⟨0, ⟨Nat.le_refl 0, fun t h => by omega, fun t _ h => by omega⟩⟩
  | n + 1 => by
    obtain ⟨c, h⟩ := turnsAt_ex p hm n
    cases hp : p n with
    | false =>
      refine ⟨n + 1, ⟨Nat.le_refl _, fun t ht => ?_, fun t h1 h2 => by omega⟩⟩
      cases hq : p t with
      | false => rfl
      | true => rw [hm t n (by omega) hq] at hp; cases hp
    | true =>
      by_cases hc : c = n
      · exact ⟨c, ⟨by omega, h.lo, fun t h1 h2 => by rw [show t = n by omega]; exact hp⟩⟩
      · refine ⟨c, ⟨by have := h.le; omega, h.lo, fun t h1 h2 => ?_⟩⟩
        by_cases ht : t = n
        · rw [ht]; exact hp
        · exact h.hi t h1 (by omega)
theorem search_calls (g : Nat) (cb : Array Value) (n : Nat) (p : Nat → Bool) (c : Nat) (w : World) (eg : ∀ args w, (callFunc g args).run Tryz.prog w = .ok (.enter g args) w) (hn : n < 4611686018427387904) (ht : TurnsAt p n c)
    (hf : ∀ (W : World) (i : Nat), Below w.heap.size w W → i < n → Calls Tryz.prog g (#[.int .i64 i] ++ cb) W fun e w' => e = .returned (.bool (p i)) ∧ Below W.heap.size W w') :
    Calls Tryz.prog 189 #[.int .i64 n, .func (.func g) #[] cb] w fun e w' => e = .returned (.int .i64 (c : Nat)) ∧ Below w.heap.size w w' := by
  have HF := Sd.mk hf
  have HT := Sd.mk ht
  clear hf ht
  go_enter Tryz.func189, Tryz.ntmps189
  go_wp2
  go_loopg [5, 6] n (fun kx s5 s6 wr => ∃ lo hi : Nat, s5 = .int .i64 lo ∧ s6 = .int .i64 hi ∧ lo ≤ hi ∧ hi ≤ n ∧ hi - lo ≤ kx ∧ Sd (lo ≤ c ∧ c ≤ hi) ∧ Sd (Below w.heap.size w wr))
  case atStart => exact ⟨0, n, rfl, rfl, Nat.zero_le _, Nat.le_refl _, by omega, ⟨⟨Nat.zero_le _, HT.out.le⟩⟩, ⟨Below.refl _ _⟩⟩
  case round =>
    obtain ⟨lo, hi, rfl, rfl, hlh, hin, hg, I, HB⟩ := hrel
    by_cases hlt : lo < hi
    · have hc := HF.out wr ((lo + hi) / 2) HB.out (by omega)
      rw [show (((lo + hi) / 2 : Nat) : Int) = ((lo : Int) + (hi : Int)) / 2 by omega] at hc
      cases hp : p ((lo + hi) / 2) <;> rw [hp] at hc
      · have HP := Sd.mk hp
        clear hp
        go_wp2_with (go_at_fn g; refine hc.mono ?_; rintro e w1 ⟨rfl, hb1⟩)
        go_roundg (hi - ((lo + hi) / 2 + 1))
        case measure => omega
        case rel =>
          have I2 : Sd ((lo + hi) / 2 + 1 ≤ c ∧ c ≤ hi) := ⟨by
            have h1 := HT.out.hi ((lo + hi) / 2)
            rw [HP.out] at h1
            have := I.out
            refine ⟨?_, this.2⟩
            by_cases h2 : c ≤ (lo + hi) / 2
            · exact absurd (h1 h2 (by omega)) (by simp)
            · omega⟩
          exact ⟨(lo + hi) / 2 + 1, hi, by rw [show ((lo : Int) + (hi : Int)) / 2 + 1 = (((lo + hi) / 2 + 1 : Nat) : Int) by omega], rfl, by omega, hin, Nat.le_refl _, I2, ⟨below_trans' HB.out hb1⟩⟩
      · have HP := Sd.mk hp
        clear hp
        go_wp2_with (go_at_fn g; refine hc.mono ?_; rintro e w1 ⟨rfl, hb1⟩)
        go_roundg ((lo + hi) / 2 - lo)
        case measure => omega
        case rel =>
          have I2 : Sd (lo ≤ c ∧ c ≤ (lo + hi) / 2) := ⟨by
            have h1 := HT.out.lo ((lo + hi) / 2)
            rw [HP.out] at h1
            have := I.out
            refine ⟨this.1, ?_⟩
            by_cases h2 : (lo + hi) / 2 < c
            · exact absurd (h1 h2) (by simp)
            · omega⟩
          exact ⟨lo, (lo + hi) / 2, rfl, by rw [show ((lo : Int) + (hi : Int)) / 2 = (((lo + hi) / 2 : Nat) : Int) by omega], by omega, by omega, Nat.le_refl _, I2, ⟨below_trans' HB.out hb1⟩⟩
    · obtain rfl : hi = lo := by omega
      obtain rfl : c = hi := by have := I.out; omega
      go_wp2
      go_ret
      exact ⟨rfl, HB.out⟩
end
section
def st_parts_1.f (a0_0 : Int) (a0_1 : Int) (a0_2 : Int) (a0_3 : Int) (a0_4 : Int) (a0_5 : Int) (a0_6 : Int) (a0_7 : Int) (a0_8 : Int) (a0_9 : Int) (a1_0 : Int) (a1_1 : Int) (a2_0 : Int) (a2_1 : Int) (a2_2 : Int) (a2_3 : Int) : Option (Int × Int) := (st_down.f (wrap64 ((wrap64 (a2_0 * a0_0)) * a0_6)) (wrap64 (100 * a1_1))).bind fun t1015 => ((st_up.f (wrap64 ((wrap64 (a2_0 * a0_1)) * a0_7)) (wrap64 (100 * a1_0))).bind fun t1016 => (some (t1015, t1016)))
theorem st_parts_1.calls (a0_0 : Int) (a0_1 : Int) (a0_2 : Int) (a0_3 : Int) (a0_4 : Int) (a0_5 : Int) (a0_6 : Int) (a0_7 : Int) (a0_8 : Int) (a0_9 : Int) (a1_0 : Int) (a1_1 : Int) (a2_0 : Int) (a2_1 : Int) (a2_2 : Int) (a2_3 : Int) (r1 : Int) (r2 : Int) (w : World) (h : st_parts_1.f a0_0 a0_1 a0_2 a0_3 a0_4 a0_5 a0_6 a0_7 a0_8 a0_9 a1_0 a1_1 a2_0 a2_1 a2_2 a2_3 = some (r1, r2)) :
  Calls Tryz.prog 212 #[.agg #[.int .i64 a0_0, .int .i64 a0_1, .int .i64 a0_2, .int .i64 a0_3, .int .i64 a0_4, .int .i64 a0_5, .int .i64 a0_6, .int .i64 a0_7, .int .i64 a0_8, .int .i64 a0_9], .agg #[.int .i64 a1_0, .int .i64 a1_1], .agg #[.int .i64 a2_0, .int .i64 a2_1, .int .i64 a2_2, .int .i64 a2_3]] w fun e w' => e = .returned (.tuple #[.int .i64 r1, .int .i64 r2]) ∧ Below w.heap.size w w' := by
 have hu92 := Tryz.underlying92; have hu27 := Tryz.underlying27; have hu48 := Tryz.underlying48; have HB := Sd.mk (Below.refl w.heap.size w)
 have H : ((st_down.f (wrap64 ((wrap64 (a2_0 * a0_0)) * a0_6)) (wrap64 (100 * a1_1))).bind fun t1015 => ((st_up.f (wrap64 ((wrap64 (a2_0 * a0_1)) * a0_7)) (wrap64 (100 * a1_0))).bind fun t1016 => (some (t1015, t1016)))) = some (r1, r2) := h
 clear h; replace H := Option.bind_eq_some_iff.mp H; obtain ⟨t1015, A40, H⟩ := H
 try dsimp only at H
 have A4 := Sd.mk A40; clear A40; replace H := Option.bind_eq_some_iff.mp H; obtain ⟨t1016, A50, H⟩ := H
 try dsimp only at H
 have A5 := Sd.mk A50; clear A50
 simp only [Option.some.injEq, Prod.mk.injEq] at H
 obtain ⟨rfl, rfl⟩ := H
 go_enter Tryz.func212, Tryz.ntmps212
 go_wp2_with (first | ((with_reducible refine gate_dst (N := 3) rfl ?_); refine box_event ?hg (N := 3) ?hd (cs := #[.int .i64 a0_0, .int .i64 a0_1, .int .i64 a0_2, .int .i64 a0_3, .int .i64 a0_4, .int .i64 a0_5, .int .i64 a0_6, .int .i64 a0_7, .int .i64 a0_8, .int .i64 a0_9]) (t := 92) ?hr ?_; (case hd => rfl); (case hg => rfl); (case hr => exact tG); intro gb1012 hg w6 hbox hb; have BK1012 := Sd.mk (hbox); have GW1012 := Sd.mk (bSz hg (bBl HB.out)); have GE1012 := Sd.mk (bSz hg (bBl HB.out)); replace HB := Sd.mk (below_step (bBl HB.out) hb); clear hb hbox hg) | ((with_reducible refine gate_dst (N := 4) rfl ?_); refine box_event ?hg (N := 4) ?hd (cs := #[.int .i64 a1_0, .int .i64 a1_1]) (t := 27) ?hr ?_; (case hd => rfl); (case hg => rfl); (case hr => exact tG); intro gb1013 hg w7 hbox hb; have BK1013 := Sd.mk (hbox); have GW1013 := Sd.mk (bSz hg (bBl HB.out)); have GE1013 := Sd.mk (bSz hg (bBl HB.out)); replace HB := Sd.mk (below_step (bBl HB.out) hb); have NB1012_1013 := Sd.mk (bNl hg (bkA BK1012.out)); have NB1013_1012 := Sd.mk (bNg hg (bkA BK1012.out)); replace BK1012 := Sd.mk (blk_below (bkA BK1012.out) hb); clear hb hbox hg) | ((with_reducible refine gate_dst (N := 5) rfl ?_); refine box_event ?hg (N := 5) ?hd (cs := #[.int .i64 a2_0, .int .i64 a2_1, .int .i64 a2_2, .int .i64 a2_3]) (t := 48) ?hr ?_; (case hd => rfl); (case hg => rfl); (case hr => exact tG); intro gb1014 hg w8 hbox hb; have BK1014 := Sd.mk (hbox); have GW1014 := Sd.mk (bSz hg (bBl HB.out)); have GE1014 := Sd.mk (bSz hg (bBl HB.out)); replace HB := Sd.mk (below_step (bBl HB.out) hb); have NB1012_1014 := Sd.mk (bNl hg (bkA BK1012.out)); have NB1014_1012 := Sd.mk (bNg hg (bkA BK1012.out)); replace BK1012 := Sd.mk (blk_below (bkA BK1012.out) hb); have NB1013_1014 := Sd.mk (bNl hg (bkA BK1013.out)); have NB1014_1013 := Sd.mk (bNg hg (bkA BK1013.out)); replace BK1013 := Sd.mk (blk_below (bkA BK1013.out) hb); clear hb hbox hg; have hnb9 := NB1014_1012.out; have hnc9 := NB1012_1014.out; have hnb10 := NB1014_1013.out; have hnc10 := NB1013_1014.out; obtain ⟨u11_0, u11_1, u11_2, u11_3, o11_0, o11_1, o11_2, o11_3⟩ := bc4 (w := w8) BK1014.out; have hnb12 := NB1012_1013.out; have hnc12 := NB1013_1012.out; obtain ⟨u13_0, u13_1, u13_2, u13_3, u13_4, u13_5, u13_6, u13_7, u13_8, u13_9, o13_0, o13_1, o13_2, o13_3, o13_4, o13_5, o13_6, o13_7, o13_8, o13_9⟩ := bc10 (w := w8) BK1012.out; obtain ⟨u14_0, u14_1, o14_0, o14_1⟩ := bc2 (w := w8) BK1013.out) | ((with_reducible refine gate_callee (f := 198) rfl ?_); refine goesL_ (some 21) rfl rfl Tryz.func198 (by kernel_rfl) rfl #[.int .i64 (wrap64 ((wrap64 (a2_0 * a0_0)) * a0_6)), .int .i64 (wrap64 (100 * a1_1))] rfl tM ?_; (with_reducible refine (st_down.calls (wrap64 ((wrap64 (a2_0 * a0_0)) * a0_6)) (wrap64 (100 * a1_1)) t1015 _ A4.out).mono ?_); rintro e w' ⟨rfl, ⟨nd, rfl⟩⟩; refine ⟨_, rfl, ?_⟩) | ((with_reducible refine gate_callee (f := 159) rfl ?_); refine goesL_ (some 35) rfl rfl Tryz.func159 (by kernel_rfl) rfl #[.int .i64 (wrap64 ((wrap64 (a2_0 * a0_1)) * a0_7)), .int .i64 (wrap64 (100 * a1_0))] rfl tM ?_; (with_reducible refine (st_up.calls (wrap64 ((wrap64 (a2_0 * a0_1)) * a0_7)) (wrap64 (100 * a1_0)) t1016 _ A5.out).mono ?_); rintro e w' ⟨rfl, ⟨nd, rfl⟩⟩; refine ⟨_, rfl, ?_⟩))
 go_ret2
 exact ⟨tE, bBl HB.out⟩
end
section
def st_parts_2.f (a0_0 : Int) (a0_1 : Int) (a0_2 : Int) (a0_3 : Int) (a0_4 : Int) (a0_5 : Int) (a0_6 : Int) (a0_7 : Int) (a0_8 : Int) (a0_9 : Int) (a1_0 : Int) (a1_1 : Int) (a2_0 : Int) (a2_1 : Int) (a2_2 : Int) (a2_3 : Int) : Option (Int × Int) := (st_down.f (wrap64 ((wrap64 (500000 * a2_1)) * 113)) (wrap64 ((wrap64 (355 * a0_1)) * a1_1))).bind fun t1020 => ((st_up.f (wrap64 ((wrap64 (500000 * a2_1)) * 106)) (wrap64 ((wrap64 (333 * a0_0)) * a1_0))).bind fun t1021 => (some (t1020, t1021)))
theorem st_parts_2.calls (a0_0 : Int) (a0_1 : Int) (a0_2 : Int) (a0_3 : Int) (a0_4 : Int) (a0_5 : Int) (a0_6 : Int) (a0_7 : Int) (a0_8 : Int) (a0_9 : Int) (a1_0 : Int) (a1_1 : Int) (a2_0 : Int) (a2_1 : Int) (a2_2 : Int) (a2_3 : Int) (r1 : Int) (r2 : Int) (w : World) (h : st_parts_2.f a0_0 a0_1 a0_2 a0_3 a0_4 a0_5 a0_6 a0_7 a0_8 a0_9 a1_0 a1_1 a2_0 a2_1 a2_2 a2_3 = some (r1, r2)) :
  Calls Tryz.prog 213 #[.agg #[.int .i64 a0_0, .int .i64 a0_1, .int .i64 a0_2, .int .i64 a0_3, .int .i64 a0_4, .int .i64 a0_5, .int .i64 a0_6, .int .i64 a0_7, .int .i64 a0_8, .int .i64 a0_9], .agg #[.int .i64 a1_0, .int .i64 a1_1], .agg #[.int .i64 a2_0, .int .i64 a2_1, .int .i64 a2_2, .int .i64 a2_3]] w fun e w' => e = .returned (.tuple #[.int .i64 r1, .int .i64 r2]) ∧ Below w.heap.size w w' := by
 have hu92 := Tryz.underlying92; have hu27 := Tryz.underlying27; have hu48 := Tryz.underlying48; have HB := Sd.mk (Below.refl w.heap.size w)
 have H : ((st_down.f (wrap64 ((wrap64 (500000 * a2_1)) * 113)) (wrap64 ((wrap64 (355 * a0_1)) * a1_1))).bind fun t1020 => ((st_up.f (wrap64 ((wrap64 (500000 * a2_1)) * 106)) (wrap64 ((wrap64 (333 * a0_0)) * a1_0))).bind fun t1021 => (some (t1020, t1021)))) = some (r1, r2) := h
 clear h; replace H := Option.bind_eq_some_iff.mp H; obtain ⟨t1020, A40, H⟩ := H
 try dsimp only at H
 have A4 := Sd.mk A40; clear A40; replace H := Option.bind_eq_some_iff.mp H; obtain ⟨t1021, A50, H⟩ := H
 try dsimp only at H
 have A5 := Sd.mk A50; clear A50
 simp only [Option.some.injEq, Prod.mk.injEq] at H
 obtain ⟨rfl, rfl⟩ := H
 go_enter Tryz.func213, Tryz.ntmps213
 go_wp2_with (first | ((with_reducible refine gate_dst (N := 3) rfl ?_); refine box_event ?hg (N := 3) ?hd (cs := #[.int .i64 a0_0, .int .i64 a0_1, .int .i64 a0_2, .int .i64 a0_3, .int .i64 a0_4, .int .i64 a0_5, .int .i64 a0_6, .int .i64 a0_7, .int .i64 a0_8, .int .i64 a0_9]) (t := 92) ?hr ?_; (case hd => rfl); (case hg => rfl); (case hr => exact tG); intro gb1017 hg w6 hbox hb; have BK1017 := Sd.mk (hbox); have GW1017 := Sd.mk (bSz hg (bBl HB.out)); have GE1017 := Sd.mk (bSz hg (bBl HB.out)); replace HB := Sd.mk (below_step (bBl HB.out) hb); clear hb hbox hg) | ((with_reducible refine gate_dst (N := 4) rfl ?_); refine box_event ?hg (N := 4) ?hd (cs := #[.int .i64 a1_0, .int .i64 a1_1]) (t := 27) ?hr ?_; (case hd => rfl); (case hg => rfl); (case hr => exact tG); intro gb1018 hg w7 hbox hb; have BK1018 := Sd.mk (hbox); have GW1018 := Sd.mk (bSz hg (bBl HB.out)); have GE1018 := Sd.mk (bSz hg (bBl HB.out)); replace HB := Sd.mk (below_step (bBl HB.out) hb); have NB1017_1018 := Sd.mk (bNl hg (bkA BK1017.out)); have NB1018_1017 := Sd.mk (bNg hg (bkA BK1017.out)); replace BK1017 := Sd.mk (blk_below (bkA BK1017.out) hb); clear hb hbox hg) | ((with_reducible refine gate_dst (N := 5) rfl ?_); refine box_event ?hg (N := 5) ?hd (cs := #[.int .i64 a2_0, .int .i64 a2_1, .int .i64 a2_2, .int .i64 a2_3]) (t := 48) ?hr ?_; (case hd => rfl); (case hg => rfl); (case hr => exact tG); intro gb1019 hg w8 hbox hb; have BK1019 := Sd.mk (hbox); have GW1019 := Sd.mk (bSz hg (bBl HB.out)); have GE1019 := Sd.mk (bSz hg (bBl HB.out)); replace HB := Sd.mk (below_step (bBl HB.out) hb); have NB1017_1019 := Sd.mk (bNl hg (bkA BK1017.out)); have NB1019_1017 := Sd.mk (bNg hg (bkA BK1017.out)); replace BK1017 := Sd.mk (blk_below (bkA BK1017.out) hb); have NB1018_1019 := Sd.mk (bNl hg (bkA BK1018.out)); have NB1019_1018 := Sd.mk (bNg hg (bkA BK1018.out)); replace BK1018 := Sd.mk (blk_below (bkA BK1018.out) hb); clear hb hbox hg; have hnb9 := NB1019_1017.out; have hnc9 := NB1017_1019.out; have hnb10 := NB1019_1018.out; have hnc10 := NB1018_1019.out; obtain ⟨u11_0, u11_1, u11_2, u11_3, o11_0, o11_1, o11_2, o11_3⟩ := bc4 (w := w8) BK1019.out; have hnb12 := NB1017_1018.out; have hnc12 := NB1018_1017.out; obtain ⟨u13_0, u13_1, u13_2, u13_3, u13_4, u13_5, u13_6, u13_7, u13_8, u13_9, o13_0, o13_1, o13_2, o13_3, o13_4, o13_5, o13_6, o13_7, o13_8, o13_9⟩ := bc10 (w := w8) BK1017.out; obtain ⟨u14_0, u14_1, o14_0, o14_1⟩ := bc2 (w := w8) BK1018.out) | ((with_reducible refine gate_callee (f := 198) rfl ?_); refine goesL_ (some 19) rfl rfl Tryz.func198 (by kernel_rfl) rfl #[.int .i64 (wrap64 ((wrap64 (500000 * a2_1)) * 113)), .int .i64 (wrap64 ((wrap64 (355 * a0_1)) * a1_1))] rfl tM ?_; (with_reducible refine (st_down.calls (wrap64 ((wrap64 (500000 * a2_1)) * 113)) (wrap64 ((wrap64 (355 * a0_1)) * a1_1)) t1020 _ A4.out).mono ?_); rintro e w' ⟨rfl, ⟨nd, rfl⟩⟩; refine ⟨_, rfl, ?_⟩) | ((with_reducible refine gate_callee (f := 159) rfl ?_); refine goesL_ (some 31) rfl rfl Tryz.func159 (by kernel_rfl) rfl #[.int .i64 (wrap64 ((wrap64 (500000 * a2_1)) * 106)), .int .i64 (wrap64 ((wrap64 (333 * a0_0)) * a1_0))] rfl tM ?_; (with_reducible refine (st_up.calls (wrap64 ((wrap64 (500000 * a2_1)) * 106)) (wrap64 ((wrap64 (333 * a0_0)) * a1_0)) t1021 _ A5.out).mono ?_); rintro e w' ⟨rfl, ⟨nd, rfl⟩⟩; refine ⟨_, rfl, ?_⟩))
 go_ret2
 exact ⟨tE, bBl HB.out⟩
end
section
def st_parts_3.f (a0_0 : Int) (a0_1 : Int) (a0_2 : Int) (a0_3 : Int) (a0_4 : Int) (a0_5 : Int) (a0_6 : Int) (a0_7 : Int) (a0_8 : Int) (a0_9 : Int) (a1_0 : Int) (a1_1 : Int) (a2_0 : Int) (a2_1 : Int) (a2_2 : Int) (a2_3 : Int) : Option (Int × Int) := (st_down.f (wrap64 (a0_8 * a2_2)) a1_1).bind fun t1025 => ((st_up.f (wrap64 (a0_9 * a2_2)) a1_0).bind fun t1026 => (some (t1025, t1026)))
theorem st_parts_3.calls (a0_0 : Int) (a0_1 : Int) (a0_2 : Int) (a0_3 : Int) (a0_4 : Int) (a0_5 : Int) (a0_6 : Int) (a0_7 : Int) (a0_8 : Int) (a0_9 : Int) (a1_0 : Int) (a1_1 : Int) (a2_0 : Int) (a2_1 : Int) (a2_2 : Int) (a2_3 : Int) (r1 : Int) (r2 : Int) (w : World) (h : st_parts_3.f a0_0 a0_1 a0_2 a0_3 a0_4 a0_5 a0_6 a0_7 a0_8 a0_9 a1_0 a1_1 a2_0 a2_1 a2_2 a2_3 = some (r1, r2)) :
  Calls Tryz.prog 214 #[.agg #[.int .i64 a0_0, .int .i64 a0_1, .int .i64 a0_2, .int .i64 a0_3, .int .i64 a0_4, .int .i64 a0_5, .int .i64 a0_6, .int .i64 a0_7, .int .i64 a0_8, .int .i64 a0_9], .agg #[.int .i64 a1_0, .int .i64 a1_1], .agg #[.int .i64 a2_0, .int .i64 a2_1, .int .i64 a2_2, .int .i64 a2_3]] w fun e w' => e = .returned (.tuple #[.int .i64 r1, .int .i64 r2]) ∧ Below w.heap.size w w' := by
 have hu92 := Tryz.underlying92; have hu27 := Tryz.underlying27; have hu48 := Tryz.underlying48; have HB := Sd.mk (Below.refl w.heap.size w)
 have H : ((st_down.f (wrap64 (a0_8 * a2_2)) a1_1).bind fun t1025 => ((st_up.f (wrap64 (a0_9 * a2_2)) a1_0).bind fun t1026 => (some (t1025, t1026)))) = some (r1, r2) := h
 clear h; replace H := Option.bind_eq_some_iff.mp H; obtain ⟨t1025, A40, H⟩ := H
 try dsimp only at H
 have A4 := Sd.mk A40; clear A40; replace H := Option.bind_eq_some_iff.mp H; obtain ⟨t1026, A50, H⟩ := H
 try dsimp only at H
 have A5 := Sd.mk A50; clear A50
 simp only [Option.some.injEq, Prod.mk.injEq] at H
 obtain ⟨rfl, rfl⟩ := H
 go_enter Tryz.func214, Tryz.ntmps214
 go_wp2_with (first | ((with_reducible refine gate_dst (N := 3) rfl ?_); refine box_event ?hg (N := 3) ?hd (cs := #[.int .i64 a0_0, .int .i64 a0_1, .int .i64 a0_2, .int .i64 a0_3, .int .i64 a0_4, .int .i64 a0_5, .int .i64 a0_6, .int .i64 a0_7, .int .i64 a0_8, .int .i64 a0_9]) (t := 92) ?hr ?_; (case hd => rfl); (case hg => rfl); (case hr => exact tG); intro gb1022 hg w6 hbox hb; have BK1022 := Sd.mk (hbox); have GW1022 := Sd.mk (bSz hg (bBl HB.out)); have GE1022 := Sd.mk (bSz hg (bBl HB.out)); replace HB := Sd.mk (below_step (bBl HB.out) hb); clear hb hbox hg) | ((with_reducible refine gate_dst (N := 4) rfl ?_); refine box_event ?hg (N := 4) ?hd (cs := #[.int .i64 a1_0, .int .i64 a1_1]) (t := 27) ?hr ?_; (case hd => rfl); (case hg => rfl); (case hr => exact tG); intro gb1023 hg w7 hbox hb; have BK1023 := Sd.mk (hbox); have GW1023 := Sd.mk (bSz hg (bBl HB.out)); have GE1023 := Sd.mk (bSz hg (bBl HB.out)); replace HB := Sd.mk (below_step (bBl HB.out) hb); have NB1022_1023 := Sd.mk (bNl hg (bkA BK1022.out)); have NB1023_1022 := Sd.mk (bNg hg (bkA BK1022.out)); replace BK1022 := Sd.mk (blk_below (bkA BK1022.out) hb); clear hb hbox hg) | ((with_reducible refine gate_dst (N := 5) rfl ?_); refine box_event ?hg (N := 5) ?hd (cs := #[.int .i64 a2_0, .int .i64 a2_1, .int .i64 a2_2, .int .i64 a2_3]) (t := 48) ?hr ?_; (case hd => rfl); (case hg => rfl); (case hr => exact tG); intro gb1024 hg w8 hbox hb; have BK1024 := Sd.mk (hbox); have GW1024 := Sd.mk (bSz hg (bBl HB.out)); have GE1024 := Sd.mk (bSz hg (bBl HB.out)); replace HB := Sd.mk (below_step (bBl HB.out) hb); have NB1022_1024 := Sd.mk (bNl hg (bkA BK1022.out)); have NB1024_1022 := Sd.mk (bNg hg (bkA BK1022.out)); replace BK1022 := Sd.mk (blk_below (bkA BK1022.out) hb); have NB1023_1024 := Sd.mk (bNl hg (bkA BK1023.out)); have NB1024_1023 := Sd.mk (bNg hg (bkA BK1023.out)); replace BK1023 := Sd.mk (blk_below (bkA BK1023.out) hb); clear hb hbox hg; have hnb9 := NB1022_1023.out; have hnc9 := NB1023_1022.out; have hnb10 := NB1022_1024.out; have hnc10 := NB1024_1022.out; obtain ⟨u11_0, u11_1, u11_2, u11_3, u11_4, u11_5, u11_6, u11_7, u11_8, u11_9, o11_0, o11_1, o11_2, o11_3, o11_4, o11_5, o11_6, o11_7, o11_8, o11_9⟩ := bc10 (w := w8) BK1022.out; have hnb12 := NB1024_1023.out; have hnc12 := NB1023_1024.out; obtain ⟨u13_0, u13_1, u13_2, u13_3, o13_0, o13_1, o13_2, o13_3⟩ := bc4 (w := w8) BK1024.out; obtain ⟨u14_0, u14_1, o14_0, o14_1⟩ := bc2 (w := w8) BK1023.out) | (go_at_call 198; (with_reducible refine (st_down.calls (wrap64 (a0_8 * a2_2)) a1_1 t1025 _ A4.out).mono ?_); rintro e w' ⟨rfl, ⟨nd, rfl⟩⟩; (try exact tD)) | (go_at_call 159; (with_reducible refine (st_up.calls (wrap64 (a0_9 * a2_2)) a1_0 t1026 _ A5.out).mono ?_); rintro e w' ⟨rfl, ⟨nd, rfl⟩⟩; (try exact tD)))
 repeat (go_quiet (first | ((with_reducible refine gate_dst (N := 3) rfl ?_); refine box_event ?hg (N := 3) ?hd (cs := #[.int .i64 a0_0, .int .i64 a0_1, .int .i64 a0_2, .int .i64 a0_3, .int .i64 a0_4, .int .i64 a0_5, .int .i64 a0_6, .int .i64 a0_7, .int .i64 a0_8, .int .i64 a0_9]) (t := 92) ?hr ?_; (case hd => rfl); (case hg => rfl); (case hr => exact tG); intro gb1022 hg w6 hbox hb; have BK1022 := Sd.mk (hbox); have GW1022 := Sd.mk (bSz hg (bBl HB.out)); have GE1022 := Sd.mk (bSz hg (bBl HB.out)); replace HB := Sd.mk (below_step (bBl HB.out) hb); clear hb hbox hg) | ((with_reducible refine gate_dst (N := 4) rfl ?_); refine box_event ?hg (N := 4) ?hd (cs := #[.int .i64 a1_0, .int .i64 a1_1]) (t := 27) ?hr ?_; (case hd => rfl); (case hg => rfl); (case hr => exact tG); intro gb1023 hg w7 hbox hb; have BK1023 := Sd.mk (hbox); have GW1023 := Sd.mk (bSz hg (bBl HB.out)); have GE1023 := Sd.mk (bSz hg (bBl HB.out)); replace HB := Sd.mk (below_step (bBl HB.out) hb); have NB1022_1023 := Sd.mk (bNl hg (bkA BK1022.out)); have NB1023_1022 := Sd.mk (bNg hg (bkA BK1022.out)); replace BK1022 := Sd.mk (blk_below (bkA BK1022.out) hb); clear hb hbox hg) | ((with_reducible refine gate_dst (N := 5) rfl ?_); refine box_event ?hg (N := 5) ?hd (cs := #[.int .i64 a2_0, .int .i64 a2_1, .int .i64 a2_2, .int .i64 a2_3]) (t := 48) ?hr ?_; (case hd => rfl); (case hg => rfl); (case hr => exact tG); intro gb1024 hg w8 hbox hb; have BK1024 := Sd.mk (hbox); have GW1024 := Sd.mk (bSz hg (bBl HB.out)); have GE1024 := Sd.mk (bSz hg (bBl HB.out)); replace HB := Sd.mk (below_step (bBl HB.out) hb); have NB1022_1024 := Sd.mk (bNl hg (bkA BK1022.out)); have NB1024_1022 := Sd.mk (bNg hg (bkA BK1022.out)); replace BK1022 := Sd.mk (blk_below (bkA BK1022.out) hb); have NB1023_1024 := Sd.mk (bNl hg (bkA BK1023.out)); have NB1024_1023 := Sd.mk (bNg hg (bkA BK1023.out)); replace BK1023 := Sd.mk (blk_below (bkA BK1023.out) hb); clear hb hbox hg; have hnb9 := NB1022_1023.out; have hnc9 := NB1023_1022.out; have hnb10 := NB1022_1024.out; have hnc10 := NB1024_1022.out; obtain ⟨u11_0, u11_1, u11_2, u11_3, u11_4, u11_5, u11_6, u11_7, u11_8, u11_9, o11_0, o11_1, o11_2, o11_3, o11_4, o11_5, o11_6, o11_7, o11_8, o11_9⟩ := bc10 (w := w8) BK1022.out; have hnb12 := NB1024_1023.out; have hnc12 := NB1023_1024.out; obtain ⟨u13_0, u13_1, u13_2, u13_3, o13_0, o13_1, o13_2, o13_3⟩ := bc4 (w := w8) BK1024.out; obtain ⟨u14_0, u14_1, o14_0, o14_1⟩ := bc2 (w := w8) BK1023.out) | (go_at_call 198; (with_reducible refine (st_down.calls (wrap64 (a0_8 * a2_2)) a1_1 t1025 _ A4.out).mono ?_); rintro e w' ⟨rfl, ⟨nd, rfl⟩⟩; (try exact tD)) | (go_at_call 159; (with_reducible refine (st_up.calls (wrap64 (a0_9 * a2_2)) a1_0 t1026 _ A5.out).mono ?_); rintro e w' ⟨rfl, ⟨nd, rfl⟩⟩; (try exact tD))); try go_wp2_with (first | ((with_reducible refine gate_dst (N := 3) rfl ?_); refine box_event ?hg (N := 3) ?hd (cs := #[.int .i64 a0_0, .int .i64 a0_1, .int .i64 a0_2, .int .i64 a0_3, .int .i64 a0_4, .int .i64 a0_5, .int .i64 a0_6, .int .i64 a0_7, .int .i64 a0_8, .int .i64 a0_9]) (t := 92) ?hr ?_; (case hd => rfl); (case hg => rfl); (case hr => exact tG); intro gb1022 hg w6 hbox hb; have BK1022 := Sd.mk (hbox); have GW1022 := Sd.mk (bSz hg (bBl HB.out)); have GE1022 := Sd.mk (bSz hg (bBl HB.out)); replace HB := Sd.mk (below_step (bBl HB.out) hb); clear hb hbox hg) | ((with_reducible refine gate_dst (N := 4) rfl ?_); refine box_event ?hg (N := 4) ?hd (cs := #[.int .i64 a1_0, .int .i64 a1_1]) (t := 27) ?hr ?_; (case hd => rfl); (case hg => rfl); (case hr => exact tG); intro gb1023 hg w7 hbox hb; have BK1023 := Sd.mk (hbox); have GW1023 := Sd.mk (bSz hg (bBl HB.out)); have GE1023 := Sd.mk (bSz hg (bBl HB.out)); replace HB := Sd.mk (below_step (bBl HB.out) hb); have NB1022_1023 := Sd.mk (bNl hg (bkA BK1022.out)); have NB1023_1022 := Sd.mk (bNg hg (bkA BK1022.out)); replace BK1022 := Sd.mk (blk_below (bkA BK1022.out) hb); clear hb hbox hg) | ((with_reducible refine gate_dst (N := 5) rfl ?_); refine box_event ?hg (N := 5) ?hd (cs := #[.int .i64 a2_0, .int .i64 a2_1, .int .i64 a2_2, .int .i64 a2_3]) (t := 48) ?hr ?_; (case hd => rfl); (case hg => rfl); (case hr => exact tG); intro gb1024 hg w8 hbox hb; have BK1024 := Sd.mk (hbox); have GW1024 := Sd.mk (bSz hg (bBl HB.out)); have GE1024 := Sd.mk (bSz hg (bBl HB.out)); replace HB := Sd.mk (below_step (bBl HB.out) hb); have NB1022_1024 := Sd.mk (bNl hg (bkA BK1022.out)); have NB1024_1022 := Sd.mk (bNg hg (bkA BK1022.out)); replace BK1022 := Sd.mk (blk_below (bkA BK1022.out) hb); have NB1023_1024 := Sd.mk (bNl hg (bkA BK1023.out)); have NB1024_1023 := Sd.mk (bNg hg (bkA BK1023.out)); replace BK1023 := Sd.mk (blk_below (bkA BK1023.out) hb); clear hb hbox hg; have hnb9 := NB1022_1023.out; have hnc9 := NB1023_1022.out; have hnb10 := NB1022_1024.out; have hnc10 := NB1024_1022.out; obtain ⟨u11_0, u11_1, u11_2, u11_3, u11_4, u11_5, u11_6, u11_7, u11_8, u11_9, o11_0, o11_1, o11_2, o11_3, o11_4, o11_5, o11_6, o11_7, o11_8, o11_9⟩ := bc10 (w := w8) BK1022.out; have hnb12 := NB1024_1023.out; have hnc12 := NB1023_1024.out; obtain ⟨u13_0, u13_1, u13_2, u13_3, o13_0, o13_1, o13_2, o13_3⟩ := bc4 (w := w8) BK1024.out; obtain ⟨u14_0, u14_1, o14_0, o14_1⟩ := bc2 (w := w8) BK1023.out) | (go_at_call 198; (with_reducible refine (st_down.calls (wrap64 (a0_8 * a2_2)) a1_1 t1025 _ A4.out).mono ?_); rintro e w' ⟨rfl, ⟨nd, rfl⟩⟩; (try exact tD)) | (go_at_call 159; (with_reducible refine (st_up.calls (wrap64 (a0_9 * a2_2)) a1_0 t1026 _ A5.out).mono ?_); rintro e w' ⟨rfl, ⟨nd, rfl⟩⟩; (try exact tD))))
 go_ret2
 exact ⟨tE, bBl HB.out⟩
end
section
def st_parts_4.f (a0_0 : Int) (a0_1 : Int) (a0_2 : Int) (a0_3 : Int) (a0_4 : Int) (a0_5 : Int) (a0_6 : Int) (a0_7 : Int) (a0_8 : Int) (a0_9 : Int) (a1_0 : Int) (a1_1 : Int) (a2_0 : Int) (a2_1 : Int) (a2_2 : Int) (a2_3 : Int) : Option (Int × Int) := some (a2_3, a2_3)
theorem st_parts_4.calls (a0_0 : Int) (a0_1 : Int) (a0_2 : Int) (a0_3 : Int) (a0_4 : Int) (a0_5 : Int) (a0_6 : Int) (a0_7 : Int) (a0_8 : Int) (a0_9 : Int) (a1_0 : Int) (a1_1 : Int) (a2_0 : Int) (a2_1 : Int) (a2_2 : Int) (a2_3 : Int) (r1 : Int) (r2 : Int) (w : World) (h : st_parts_4.f a0_0 a0_1 a0_2 a0_3 a0_4 a0_5 a0_6 a0_7 a0_8 a0_9 a1_0 a1_1 a2_0 a2_1 a2_2 a2_3 = some (r1, r2)) :
  Calls Tryz.prog 215 #[.agg #[.int .i64 a0_0, .int .i64 a0_1, .int .i64 a0_2, .int .i64 a0_3, .int .i64 a0_4, .int .i64 a0_5, .int .i64 a0_6, .int .i64 a0_7, .int .i64 a0_8, .int .i64 a0_9], .agg #[.int .i64 a1_0, .int .i64 a1_1], .agg #[.int .i64 a2_0, .int .i64 a2_1, .int .i64 a2_2, .int .i64 a2_3]] w fun e w' => e = .returned (.tuple #[.int .i64 r1, .int .i64 r2]) ∧ Below w.heap.size w w' := by
 have hu92 := Tryz.underlying92; have hu27 := Tryz.underlying27; have hu48 := Tryz.underlying48; have HB := Sd.mk (Below.refl w.heap.size w)
 have H : (some (a2_3, a2_3)) = some (r1, r2) := h
 clear h
 simp only [Option.some.injEq, Prod.mk.injEq] at H
 obtain ⟨rfl, rfl⟩ := H
 go_enter Tryz.func215, Tryz.ntmps215
 go_wp2_with (first | ((with_reducible refine gate_dst (N := 3) rfl ?_); refine box_event ?hg (N := 3) ?hd (cs := #[.int .i64 a0_0, .int .i64 a0_1, .int .i64 a0_2, .int .i64 a0_3, .int .i64 a0_4, .int .i64 a0_5, .int .i64 a0_6, .int .i64 a0_7, .int .i64 a0_8, .int .i64 a0_9]) (t := 92) ?hr ?_; (case hd => rfl); (case hg => rfl); (case hr => exact tG); intro gb1027 hg w4 hbox hb; have BK1027 := Sd.mk (hbox); have GW1027 := Sd.mk (bSz hg (bBl HB.out)); have GE1027 := Sd.mk (bSz hg (bBl HB.out)); replace HB := Sd.mk (below_step (bBl HB.out) hb); clear hb hbox hg) | ((with_reducible refine gate_dst (N := 4) rfl ?_); refine box_event ?hg (N := 4) ?hd (cs := #[.int .i64 a1_0, .int .i64 a1_1]) (t := 27) ?hr ?_; (case hd => rfl); (case hg => rfl); (case hr => exact tG); intro gb1028 hg w5 hbox hb; have BK1028 := Sd.mk (hbox); have GW1028 := Sd.mk (bSz hg (bBl HB.out)); have GE1028 := Sd.mk (bSz hg (bBl HB.out)); replace HB := Sd.mk (below_step (bBl HB.out) hb); have NB1027_1028 := Sd.mk (bNl hg (bkA BK1027.out)); have NB1028_1027 := Sd.mk (bNg hg (bkA BK1027.out)); replace BK1027 := Sd.mk (blk_below (bkA BK1027.out) hb); clear hb hbox hg) | ((with_reducible refine gate_dst (N := 5) rfl ?_); refine box_event ?hg (N := 5) ?hd (cs := #[.int .i64 a2_0, .int .i64 a2_1, .int .i64 a2_2, .int .i64 a2_3]) (t := 48) ?hr ?_; (case hd => rfl); (case hg => rfl); (case hr => exact tG); intro gb1029 hg w6 hbox hb; have BK1029 := Sd.mk (hbox); have GW1029 := Sd.mk (bSz hg (bBl HB.out)); have GE1029 := Sd.mk (bSz hg (bBl HB.out)); replace HB := Sd.mk (below_step (bBl HB.out) hb); have NB1027_1029 := Sd.mk (bNl hg (bkA BK1027.out)); have NB1029_1027 := Sd.mk (bNg hg (bkA BK1027.out)); replace BK1027 := Sd.mk (blk_below (bkA BK1027.out) hb); have NB1028_1029 := Sd.mk (bNl hg (bkA BK1028.out)); have NB1029_1028 := Sd.mk (bNg hg (bkA BK1028.out)); replace BK1028 := Sd.mk (blk_below (bkA BK1028.out) hb); clear hb hbox hg; have hnb7 := NB1029_1027.out; have hnc7 := NB1027_1029.out; have hnb8 := NB1029_1028.out; have hnc8 := NB1028_1029.out; obtain ⟨u9_0, u9_1, u9_2, u9_3, o9_0, o9_1, o9_2, o9_3⟩ := bc4 (w := w6) BK1029.out))
 repeat (go_quiet (first | ((with_reducible refine gate_dst (N := 3) rfl ?_); refine box_event ?hg (N := 3) ?hd (cs := #[.int .i64 a0_0, .int .i64 a0_1, .int .i64 a0_2, .int .i64 a0_3, .int .i64 a0_4, .int .i64 a0_5, .int .i64 a0_6, .int .i64 a0_7, .int .i64 a0_8, .int .i64 a0_9]) (t := 92) ?hr ?_; (case hd => rfl); (case hg => rfl); (case hr => exact tG); intro gb1027 hg w4 hbox hb; have BK1027 := Sd.mk (hbox); have GW1027 := Sd.mk (bSz hg (bBl HB.out)); have GE1027 := Sd.mk (bSz hg (bBl HB.out)); replace HB := Sd.mk (below_step (bBl HB.out) hb); clear hb hbox hg) | ((with_reducible refine gate_dst (N := 4) rfl ?_); refine box_event ?hg (N := 4) ?hd (cs := #[.int .i64 a1_0, .int .i64 a1_1]) (t := 27) ?hr ?_; (case hd => rfl); (case hg => rfl); (case hr => exact tG); intro gb1028 hg w5 hbox hb; have BK1028 := Sd.mk (hbox); have GW1028 := Sd.mk (bSz hg (bBl HB.out)); have GE1028 := Sd.mk (bSz hg (bBl HB.out)); replace HB := Sd.mk (below_step (bBl HB.out) hb); have NB1027_1028 := Sd.mk (bNl hg (bkA BK1027.out)); have NB1028_1027 := Sd.mk (bNg hg (bkA BK1027.out)); replace BK1027 := Sd.mk (blk_below (bkA BK1027.out) hb); clear hb hbox hg) | ((with_reducible refine gate_dst (N := 5) rfl ?_); refine box_event ?hg (N := 5) ?hd (cs := #[.int .i64 a2_0, .int .i64 a2_1, .int .i64 a2_2, .int .i64 a2_3]) (t := 48) ?hr ?_; (case hd => rfl); (case hg => rfl); (case hr => exact tG); intro gb1029 hg w6 hbox hb; have BK1029 := Sd.mk (hbox); have GW1029 := Sd.mk (bSz hg (bBl HB.out)); have GE1029 := Sd.mk (bSz hg (bBl HB.out)); replace HB := Sd.mk (below_step (bBl HB.out) hb); have NB1027_1029 := Sd.mk (bNl hg (bkA BK1027.out)); have NB1029_1027 := Sd.mk (bNg hg (bkA BK1027.out)); replace BK1027 := Sd.mk (blk_below (bkA BK1027.out) hb); have NB1028_1029 := Sd.mk (bNl hg (bkA BK1028.out)); have NB1029_1028 := Sd.mk (bNg hg (bkA BK1028.out)); replace BK1028 := Sd.mk (blk_below (bkA BK1028.out) hb); clear hb hbox hg; have hnb7 := NB1029_1027.out; have hnc7 := NB1027_1029.out; have hnb8 := NB1029_1028.out; have hnc8 := NB1028_1029.out; obtain ⟨u9_0, u9_1, u9_2, u9_3, o9_0, o9_1, o9_2, o9_3⟩ := bc4 (w := w6) BK1029.out)); try go_wp2_with (first | ((with_reducible refine gate_dst (N := 3) rfl ?_); refine box_event ?hg (N := 3) ?hd (cs := #[.int .i64 a0_0, .int .i64 a0_1, .int .i64 a0_2, .int .i64 a0_3, .int .i64 a0_4, .int .i64 a0_5, .int .i64 a0_6, .int .i64 a0_7, .int .i64 a0_8, .int .i64 a0_9]) (t := 92) ?hr ?_; (case hd => rfl); (case hg => rfl); (case hr => exact tG); intro gb1027 hg w4 hbox hb; have BK1027 := Sd.mk (hbox); have GW1027 := Sd.mk (bSz hg (bBl HB.out)); have GE1027 := Sd.mk (bSz hg (bBl HB.out)); replace HB := Sd.mk (below_step (bBl HB.out) hb); clear hb hbox hg) | ((with_reducible refine gate_dst (N := 4) rfl ?_); refine box_event ?hg (N := 4) ?hd (cs := #[.int .i64 a1_0, .int .i64 a1_1]) (t := 27) ?hr ?_; (case hd => rfl); (case hg => rfl); (case hr => exact tG); intro gb1028 hg w5 hbox hb; have BK1028 := Sd.mk (hbox); have GW1028 := Sd.mk (bSz hg (bBl HB.out)); have GE1028 := Sd.mk (bSz hg (bBl HB.out)); replace HB := Sd.mk (below_step (bBl HB.out) hb); have NB1027_1028 := Sd.mk (bNl hg (bkA BK1027.out)); have NB1028_1027 := Sd.mk (bNg hg (bkA BK1027.out)); replace BK1027 := Sd.mk (blk_below (bkA BK1027.out) hb); clear hb hbox hg) | ((with_reducible refine gate_dst (N := 5) rfl ?_); refine box_event ?hg (N := 5) ?hd (cs := #[.int .i64 a2_0, .int .i64 a2_1, .int .i64 a2_2, .int .i64 a2_3]) (t := 48) ?hr ?_; (case hd => rfl); (case hg => rfl); (case hr => exact tG); intro gb1029 hg w6 hbox hb; have BK1029 := Sd.mk (hbox); have GW1029 := Sd.mk (bSz hg (bBl HB.out)); have GE1029 := Sd.mk (bSz hg (bBl HB.out)); replace HB := Sd.mk (below_step (bBl HB.out) hb); have NB1027_1029 := Sd.mk (bNl hg (bkA BK1027.out)); have NB1029_1027 := Sd.mk (bNg hg (bkA BK1027.out)); replace BK1027 := Sd.mk (blk_below (bkA BK1027.out) hb); have NB1028_1029 := Sd.mk (bNl hg (bkA BK1028.out)); have NB1029_1028 := Sd.mk (bNg hg (bkA BK1028.out)); replace BK1028 := Sd.mk (blk_below (bkA BK1028.out) hb); clear hb hbox hg; have hnb7 := NB1029_1027.out; have hnc7 := NB1027_1029.out; have hnb8 := NB1029_1028.out; have hnc8 := NB1028_1029.out; obtain ⟨u9_0, u9_1, u9_2, u9_3, o9_0, o9_1, o9_2, o9_3⟩ := bc4 (w := w6) BK1029.out)))
 go_ret2
 exact ⟨tE, bBl HB.out⟩
end
end Go.Proofs.YtljfljekcpdpiaaGreat.PB
