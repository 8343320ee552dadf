import Derived.Test.YtljfljekcpdpiaaGreatX4
import Derived.Shelf.Abstract
import Derived.Sort.CutIn
import Derived.KernelRfl
import Derived.Lib.LazyBuf
import Derived.Maps.RangeRun
set_option linter.unusedVariables false
set_option linter.unusedSimpArgs false
set_option maxHeartbeats 8000000
set_option maxRecDepth 1000000
namespace Go.Proofs.YtljfljekcpdpiaaGreat.PB
open Go.RowKit Go.Proofs.YtljfljekcpdpiaaGreatW.PrintWords Go.Proofs.YtljfljekcpdpiaaGreatW.PrintLast Go.Proofs.YtljfljekcpdpiaaGreatW.PrintMore
section
section
variable {P : Program} {ops : Array Oper} {rest : List Oper} {o : Oper} {a : Act} {Q : Exit → Act → World → Prop} {w : World}
theorem wp_loadrow_s (t : TypeId) (x : Operand) (ad : Addr) (v : Value) (hw : Region.wanted o (yielded ops a.tmps) = true) (ho : o.op = .load t x) (hx : a.eval x = .pointer (some ad)) (hr : (loadVar t ad).run P w = .ok v w) (h : wpList P ops Q rest (a.put o.dst v) w) : wpList P ops Q (o :: rest) a w := by
  refine wpList_step fun K hK => ?_
  rw [if_pos hw]
  unfold Oper.wp execOp
  simp only [ho, hx]
  simp only [Instr.loadAt, Instr.sureAddr, asAddr, Sem.run_bind, Sem.run_pure, hr, Result.andThen]
  exact hK _ _ h
end
def spanV (t : S27) : Value := .agg #[.int .i64 t.f0, .int .i64 t.f1]
def loadVv (pr fo sp ot : Int) : Value := .agg #[.int .i64 pr, .int .i64 fo, .int .i64 sp, .int .i64 ot]
def partF (x : S92) (t : S27) (pr fo sp ot : Int) : Nat → Option (Int × Int)
  | 0 => st_parts_1.f x.f0.f0 x.f0.f1 x.f1.f0 x.f1.f1 x.f2.f0 x.f2.f1 x.f3.f0 x.f3.f1 x.f4.f0 x.f4.f1 t.f0 t.f1 pr fo sp ot
  | 1 => st_parts_2.f x.f0.f0 x.f0.f1 x.f1.f0 x.f1.f1 x.f2.f0 x.f2.f1 x.f3.f0 x.f3.f1 x.f4.f0 x.f4.f1 t.f0 t.f1 pr fo sp ot
  | 2 => st_parts_3.f x.f0.f0 x.f0.f1 x.f1.f0 x.f1.f1 x.f2.f0 x.f2.f1 x.f3.f0 x.f3.f1 x.f4.f0 x.f4.f1 t.f0 t.f1 pr fo sp ot
  | _ => st_parts_4.f x.f0.f0 x.f0.f1 x.f1.f0 x.f1.f1 x.f2.f0 x.f2.f1 x.f3.f0 x.f3.f1 x.f4.f0 x.f4.f1 t.f0 t.f1 pr fo sp ot
def accP (lo : Nat → Int) : Nat → Int
  | 0 => 0
  | k + 1 => wrap64 (accP lo k + lo k)
theorem part_calls (k : Nat) (hk : k < 4) (x : S92) (t : S27) (pr fo sp ot lo hi : Int) (w : World) (h : partF x t pr fo sp ot k = some (lo, hi)) :
    Calls Tryz.prog (212 + k) #[ringV x, spanV t, loadVv pr fo sp ot] w fun e w' => e = .returned (.tuple #[.int .i64 lo, .int .i64 hi]) ∧ Below w.heap.size w w' :=
  match k, hk, h with
  | 0, _, h => st_parts_1.calls x.f0.f0 x.f0.f1 x.f1.f0 x.f1.f1 x.f2.f0 x.f2.f1 x.f3.f0 x.f3.f1 x.f4.f0 x.f4.f1 t.f0 t.f1 pr fo sp ot lo hi w h
  | 1, _, h => st_parts_2.calls x.f0.f0 x.f0.f1 x.f1.f0 x.f1.f1 x.f2.f0 x.f2.f1 x.f3.f0 x.f3.f1 x.f4.f0 x.f4.f1 t.f0 t.f1 pr fo sp ot lo hi w h
  | 2, _, h => st_parts_3.calls x.f0.f0 x.f0.f1 x.f1.f0 x.f1.f1 x.f2.f0 x.f2.f1 x.f3.f0 x.f3.f1 x.f4.f0 x.f4.f1 t.f0 t.f1 pr fo sp ot lo hi w h
  | 3, _, h => st_parts_4.calls x.f0.f0 x.f0.f1 x.f1.f0 x.f1.f1 x.f2.f0 x.f2.f1 x.f3.f0 x.f3.f1 x.f4.f0 x.f4.f1 t.f0 t.f1 pr fo sp ot lo hi w h
def partsC : Obj := .cells #[.func (.func 212) #[] #[], .func (.func 213) #[] #[], .func (.func 214) #[] #[], .func (.func 215) #[] #[]] 207
theorem parts_calls (w : World) : Calls Tryz.prog 188 #[] w fun e w' => e = .returned (.slice (some ⟨w.heap.size, 0, none⟩) 4 4) ∧ w' = w.alloc partsC := by
  go_enter Tryz.func188, Tryz.ntmps188
  go_wp2
  go_ret
  exact ⟨rfl, rfl⟩
structure StI (x : S92) (t : S27) (pr fo sp ot lo hi : Int) (w W : World) : Prop where
  bx : W.heap[w.heap.size]? = some (.cells #[.int .i64 x.f0.f0, .int .i64 x.f0.f1, .int .i64 x.f1.f0, .int .i64 x.f1.f1, .int .i64 x.f2.f0, .int .i64 x.f2.f1, .int .i64 x.f3.f0, .int .i64 x.f3.f1, .int .i64 x.f4.f0, .int .i64 x.f4.f1] 92 (0, 0))
  bt : W.heap[w.heap.size + 1]? = some (.cells #[.int .i64 t.f0, .int .i64 t.f1] 27 (0, 0))
  bl : W.heap[w.heap.size + 1 + 1]? = some (.cells #[.int .i64 pr, .int .i64 fo, .int .i64 sp, .int .i64 ot] 48 (0, 0))
  b6 : W.heap[w.heap.size + 1 + 1 + 1]? = some (.cells #[.int .i64 0, .int .i64 0] 27 (0, 0))
  b7 : W.heap[w.heap.size + 1 + 1 + 1 + 1]? = some (.cells #[.int .i64 lo, .int .i64 hi] 27 (0, 0))
  bp : W.heap[w.heap.size + 1 + 1 + 1 + 1 + 1]? = some (.cells #[.func (.func 212) #[] #[], .func (.func 213) #[] #[], .func (.func 214) #[] #[], .func (.func 215) #[] #[]] 207 (0, 0))
  be : Below w.heap.size w W
theorem StI.step {x : S92} {t : S27} {pr fo sp ot lo hi : Int} {w W W' : World} (h : StI x t pr fo sp ot lo hi w W) (hb : Below W.heap.size W W') : StI x t pr fo sp ot lo hi w W' :=
  ⟨blk_below h.bx hb, blk_below h.bt hb, blk_below h.bl hb, blk_below h.b6 hb, blk_below h.b7 hb, blk_below h.bp hb, below_then h.be h.be.size hb⟩
theorem StI.start (x : S92) (t : S27) (pr fo sp ot : Int) (w : World) : StI x t pr fo sp ot 0 0 w ((((((w.alloc (.cells #[.int .i64 x.f0.f0, .int .i64 x.f0.f1, .int .i64 x.f1.f0, .int .i64 x.f1.f1, .int .i64 x.f2.f0, .int .i64 x.f2.f1, .int .i64 x.f3.f0, .int .i64 x.f3.f1, .int .i64 x.f4.f0, .int .i64 x.f4.f1] 92)).alloc (.cells #[.int .i64 t.f0, .int .i64 t.f1] 27)).alloc (.cells #[.int .i64 pr, .int .i64 fo, .int .i64 sp, .int .i64 ot] 48)).alloc (.cells #[.int .i64 0, .int .i64 0] 27)).alloc (.cells #[.int .i64 0, .int .i64 0] 27)).alloc partsC) := by
  obtain ⟨b1, b2, b3, b4, hb, hs⟩ := blk_four w (.cells #[.int .i64 x.f0.f0, .int .i64 x.f0.f1, .int .i64 x.f1.f0, .int .i64 x.f1.f1, .int .i64 x.f2.f0, .int .i64 x.f2.f1, .int .i64 x.f3.f0, .int .i64 x.f3.f1, .int .i64 x.f4.f0, .int .i64 x.f4.f1] 92) (.cells #[.int .i64 t.f0, .int .i64 t.f1] 27) (.cells #[.int .i64 pr, .int .i64 fo, .int .i64 sp, .int .i64 ot] 48) (.cells #[.int .i64 0, .int .i64 0] 27)
  generalize (((w.alloc (.cells #[.int .i64 x.f0.f0, .int .i64 x.f0.f1, .int .i64 x.f1.f0, .int .i64 x.f1.f1, .int .i64 x.f2.f0, .int .i64 x.f2.f1, .int .i64 x.f3.f0, .int .i64 x.f3.f1, .int .i64 x.f4.f0, .int .i64 x.f4.f1] 92)).alloc (.cells #[.int .i64 t.f0, .int .i64 t.f1] 27)).alloc (.cells #[.int .i64 pr, .int .i64 fo, .int .i64 sp, .int .i64 ot] 48)).alloc (.cells #[.int .i64 0, .int .i64 0] 27) = W at *
  obtain ⟨c1, c2, hc, hs2⟩ := blk_two W (.cells #[.int .i64 0, .int .i64 0] 27) partsC
  rw [hs] at c1 c2
  exact ⟨blk_alloc (blk_alloc b1 _) _, blk_alloc (blk_alloc b2 _) _, blk_alloc (blk_alloc b3 _) _, blk_alloc (blk_alloc b4 _) _, c1, c2, below_alloc (below_alloc hb _) _⟩
theorem StI.set7 {x : S92} {t : S27} {pr fo sp ot lo hi : Int} {w W : World} (h : StI x t pr fo sp ot lo hi w W) (a b : Int) : StI x t pr fo sp ot a b w ((W.setCell ⟨w.heap.size + 1 + 1 + 1 + 1, 0, none⟩ (.int .i64 a)).setCell ⟨w.heap.size + 1 + 1 + 1 + 1, 1, none⟩ (.int .i64 b)) :=
  ⟨blk_far (blk_far h.bx (p := ⟨w.heap.size + 1 + 1 + 1 + 1, 0, none⟩) (by dsimp only; omega) _) (p := ⟨w.heap.size + 1 + 1 + 1 + 1, 1, none⟩) (by dsimp only; omega) _, blk_far (blk_far h.bt (p := ⟨w.heap.size + 1 + 1 + 1 + 1, 0, none⟩) (by dsimp only; omega) _) (p := ⟨w.heap.size + 1 + 1 + 1 + 1, 1, none⟩) (by dsimp only; omega) _, blk_far (blk_far h.bl (p := ⟨w.heap.size + 1 + 1 + 1 + 1, 0, none⟩) (by dsimp only; omega) _) (p := ⟨w.heap.size + 1 + 1 + 1 + 1, 1, none⟩) (by dsimp only; omega) _, blk_far (blk_far h.b6 (p := ⟨w.heap.size + 1 + 1 + 1 + 1, 0, none⟩) (by dsimp only; omega) _) (p := ⟨w.heap.size + 1 + 1 + 1 + 1, 1, none⟩) (by dsimp only; omega) _, blk_put (blk_put h.b7 0 _ rfl) 1 _ rfl, blk_far (blk_far h.bp (p := ⟨w.heap.size + 1 + 1 + 1 + 1, 0, none⟩) (by dsimp only; omega) _) (p := ⟨w.heap.size + 1 + 1 + 1 + 1, 1, none⟩) (by dsimp only; omega) _, below_set (below_set h.be (by omega)) (by omega)⟩
theorem stress_calls (x : S92) (t : S27) (pr fo sp ot : Int) (lo hi : Nat → Int) (w : World) (h : ∀ k, k < 4 → partF x t pr fo sp ot k = some (lo k, hi k)) :
    Calls Tryz.prog 112 #[ringV x, spanV t, loadVv pr fo sp ot] w fun e w' => e = .returned (.agg #[.int .i64 (accP lo 4), .int .i64 (accP hi 4)]) ∧ Below w.heap.size w w' := by
  have HP := Sd.mk h
  have S0 := Sd.mk (StI.start x t pr fo sp ot w)
  clear h
  unfold ringV spanV loadVv
  go_enter Tryz.func112, Tryz.ntmps112
  go_wp2_with (go_at_call 188; refine (parts_calls _).mono ?_; rintro e w1 ⟨rfl, rfl⟩)
  generalize (((((w.alloc (.cells #[.int .i64 x.f0.f0, .int .i64 x.f0.f1, .int .i64 x.f1.f0, .int .i64 x.f1.f1, .int .i64 x.f2.f0, .int .i64 x.f2.f1, .int .i64 x.f3.f0, .int .i64 x.f3.f1, .int .i64 x.f4.f0, .int .i64 x.f4.f1] 92)).alloc (.cells #[.int .i64 t.f0, .int .i64 t.f1] 27)).alloc (.cells #[.int .i64 pr, .int .i64 fo, .int .i64 sp, .int .i64 ot] 48)).alloc (.cells #[.int .i64 0, .int .i64 0] 27)).alloc (.cells #[.int .i64 0, .int .i64 0] 27)).alloc partsC = W0 at S0 ⊢
  go_loopg [14] 4 (fun gq v14 wr => ∃ k : Nat, v14 = .int .i64 k ∧ k ≤ 4 ∧ 4 - k ≤ gq ∧ Sd (StI x t pr fo sp ot (accP lo k) (accP hi k) w wr))
  case atStart => exact ⟨0, rfl, by omega, by omega, S0⟩
  case round =>
    as_aux_lemma =>
      clear S0
      obtain ⟨k, rfl, hk, hgk, S1⟩ := hrel
      by_cases hlt : k < 4
      · have hp := HP.out k hlt
        have HC := Sd.mk (fun W => part_calls k hlt x t pr fo sp ot (lo k) (hi k) W hp)
        have hy : wr.cell? ⟨w.heap.size + 1 + 1 + 1 + 1 + 1, k, none⟩ = some (.func (.func (212 + k)) #[] #[]) := by
          refine (blk_cell S1.out.bp k).trans ?_
          match k, hlt with
          | 0, _ => rfl
          | 1, _ => rfl
          | 2, _ => rfl
          | 3, _ => rfl
        have eg : ∀ args w, (callFunc (212 + k) args).run Tryz.prog w = .ok (.enter (212 + k) args) w :=
          match k, hlt with
          | 0, _ => enters_of Tryz.func212 (by kernel_rfl) rfl
          | 1, _ => enters_of Tryz.func213 (by kernel_rfl) rfl
          | 2, _ => enters_of Tryz.func214 (by kernel_rfl) rfl
          | 3, _ => enters_of Tryz.func215 (by kernel_rfl) rfl
        generalize hg : 212 + k = g at HC hy eg
        have HG := Sd.mk hg
        clear hg hp
        have HLX := Sd.mk (run_loadVar_row (P := Tryz.prog) _ _ 92 92 _ (0, 0) _ S1.out.bx Tryz.underlying92 rfl (by kernel_rfl))
        have HLT := Sd.mk (run_loadVar_row (P := Tryz.prog) _ _ 27 27 _ (0, 0) _ S1.out.bt Tryz.underlying27 rfl (by kernel_rfl))
        have HLL := Sd.mk (run_loadVar_row (P := Tryz.prog) _ _ 48 48 _ (0, 0) _ S1.out.bl Tryz.underlying48 rfl (by kernel_rfl))
        have hltz : (k : Int) < 4 := by omega
        unfold ringV spanV loadVv at HC
        go_wp2_with (first | (refine wp_loadrow_s 92 _ _ _ (by go_simp) rfl rfl HLX.out ?_) | (refine wp_loadrow_s 27 _ _ _ (by go_simp) rfl rfl HLT.out ?_) | (refine wp_loadrow_s 48 _ _ _ (by go_simp) rfl rfl HLL.out ?_) | (go_at_fn g; refine (HC.out _).mono ?_; rintro e w2 ⟨rfl, hb⟩; have S2 := Sd.mk (S1.out.step hb); clear hb HLX HLT HLL; have h70 : w2.cell? ⟨w.heap.size + 1 + 1 + 1 + 1, 0, none⟩ = some (.int .i64 (accP lo k)) := (blk_cell S2.out.b7 0).trans rfl; have h71 : w2.cell? ⟨w.heap.size + 1 + 1 + 1 + 1, 0 + 1, none⟩ = some (.int .i64 (accP hi k)) := (blk_cell S2.out.b7 1).trans rfl; have h7f := blk_frozen S2.out.b7 0; have h7g := blk_frozen S2.out.b7 1))
        go_roundg (4 - (k + 1))
        case measure => omega
        case rel => exact ⟨k + 1, by go_num, by omega, by omega, ⟨S2.out.set7 _ _⟩⟩
      · obtain rfl : k = 4 := by omega
        have HLO := Sd.mk (run_loadVar_row (P := Tryz.prog) _ _ 27 27 _ (0, 0) _ S1.out.b7 Tryz.underlying27 rfl (by kernel_rfl))
        have h60 : wr.cell? ⟨w.heap.size + 1 + 1 + 1, 0, none⟩ = some (.int .i64 0) := (blk_cell S1.out.b6 0).trans rfl
        have h61 : wr.cell? ⟨w.heap.size + 1 + 1 + 1, 0 + 1, none⟩ = some (.int .i64 0) := (blk_cell S1.out.b6 1).trans rfl
        have h6f := blk_frozen S1.out.b6 0
        have h6g := blk_frozen S1.out.b6 1
        go_wp2_with (refine wp_loadrow_s 27 _ _ _ (by go_simp) rfl rfl HLO.out ?_)
        refine bodyPost_ret (results_cell_row rfl _ _ (w.heap.size + 1 + 1 + 1) 27 #[.int .i64 (accP lo 4), .int .i64 (accP hi 4)] (0, 0) _ rfl (blk_put (cs := #[.int .i64 (accP lo 4), .int .i64 0]) (blk_put S1.out.b6 0 _ rfl) 1 _ rfl) Tryz.underlying27 rfl (by kernel_rfl)) rfl ?_
        exact ⟨rfl, below_set (below_set S1.out.be (by omega)) (by omega)⟩
end
section
theorem first1_calls (g : Nat) (cb : Array Value) (eg : ∀ args w, (callFunc g args).run Tryz.prog w = .ok (.enter g args) w) (low i : Int) (b : Bool) (X Y : Nat) (w : World) (hX : w.heap[X]? = some (.cells #[.func (.func g) #[] cb] 147 (0, 0))) (hY : w.heap[Y]? = some (.cells #[.int .i64 low] 3 (0, 0)))
    (hf : Calls Tryz.prog g (#[.int .i64 (wrap64 (low + i))] ++ cb) w fun e w' => e = .returned (.bool b) ∧ Below w.heap.size w w') :
    Calls Tryz.prog 190 #[.int .i64 i, .pointer (some ⟨X, 0, none⟩), .pointer (some ⟨Y, 0, none⟩)] w fun e w' => e = .returned (.bool b) ∧ Below w.heap.size w w' := by
  have hx : w.cell? ⟨X, 0, none⟩ = some (.func (.func g) #[] cb) := (blk_cell hX 0).trans rfl
  have hy : w.cell? ⟨Y, 0, none⟩ = some (.int .i64 low) := (blk_cell hY 0).trans rfl
  clear hX hY
  go_enter Tryz.func190, Tryz.ntmps190
  go_wp2_with (go_at_fn g; refine hf.mono ?_; rintro e w1 ⟨rfl, hb1⟩)
  go_ret
  exact ⟨rfl, hb1⟩
def firstT : Bool × List (List Nat × List Nat) := (true, [([], []), ([], []), ([], []), ([1, 2], [1, 2]), ([3], [3]), ([], []), ([4, 5], [4, 5]), ([0, 6], [0, 6]), ([7, 6, 0, 1, 2, 3, 4, 5, 6, 7], [7])])
def firstB : List Nat := [0, 0, 0, 6, 14, 0, 62, 127, 255]
theorem first_tab : rtab .any (opsOf Tryz.f115 1) = firstT := by kernel_rfl
theorem first_bits : waitsOk firstT.2 firstB = true := by kernel_rfl
theorem first_calls (g : Nat) (cb : Array Value) (eg : ∀ args w, (callFunc g args).run Tryz.prog w = .ok (.enter g args) w) (low high : Int) (n : Nat) (hn : wrap64 (wrap64 (high - low) + 1) = (n : Int)) (hn2 : n < 4611686018427387904) (p : Nat → Bool) (c : Nat) (ht : TurnsAt p n c) (w : World)
    (hf : ∀ (W : World) (i : Nat), Below w.heap.size w W → i < n → Calls Tryz.prog g (#[.int .i64 (wrap64 (low + (i : Int)))] ++ cb) W fun e w' => e = .returned (.bool (p i)) ∧ Below W.heap.size W w') :
    Calls Tryz.prog 115 #[.int .i64 low, .int .i64 high, .func (.func g) #[] cb] w fun e w' => e = .returned (.int .i64 (wrap64 (low + (c : Int)))) ∧ Below w.heap.size w w' := by
  obtain ⟨b1, b2, hb0, hsz⟩ := blk_two w (.cells #[.int .i64 low] 3) (.cells #[.func (.func g) #[] cb] 147)
  have BX := Sd.mk b1
  have BY := Sd.mk b2
  have HB := Sd.mk hb0
  have HF := Sd.mk hf
  have HTT := Sd.mk ht
  have HN := Sd.mk hn
  clear b1 b2 hb0 hf ht hsz hn
  go_enter Tryz.func115, Tryz.ntmps115
  go_upto_region 1 with (fail)
  generalize (w.alloc (.cells #[.int .i64 low] 3)).alloc (.cells #[.func (.func g) #[] cb] 147) = WX at *
  refine start_ (n := 9) (S := fun w' => w'.cell? ⟨w.heap.size, 0, none⟩ = some (.int .i64 low) ∧ w'.cell? ⟨w.heap.size + 1, 0, none⟩ = some (.func (.func g) #[] cb)) (ds := []) #[false, false, false, false, false, false, false, false, false] (by kernel_rfl) rfl rfl ⟨(blk_cell BX.out 0).trans rfl, (blk_cell BY.out 0).trans rfl⟩ (fun hHeld => ?_); refine with_tabW first_tab first_bits (fun HT_ HW_ => ?_)
  replace BX := Sd.mk (blk_drew BX.out)
  replace BY := Sd.mk (blk_drew BY.out)
  replace HB := Sd.mk (below_drew1 HB.out)
  generalize WX.drew = W0 at BX BY HB hHeld ⊢
  refine take_ (i := 0) (N := some 7) (v := ?_) (a' := ?_) #[true, false, false, false, false, false, false, false, false] rfl rfl (take_ofW HT_.out HW_.out (by kernel_rfl)) (fun _ _ _ h => h) (Or.inl ⟨by rfl, ?_⟩) hHeld ?_ ?_
  rotate_left
  · rintro w' ⟨s0, s1⟩
    go_simp
    with_reducible rfl
  rotate_left
  · simp only [Act.put, List.setIfInBounds_toArray, List.set_cons_zero, List.set_cons_succ, i64_w, i32_w]
    rfl
  refine pure_ (i := 1) (N := some 8) (v := ?_) (a' := ?_) #[true, true, false, false, false, false, false, false, false] rfl rfl (any_of HT_.out (by kernel_rfl)) (fun _ _ _ h => h) (Or.inl ⟨by rfl, ?_⟩) ?_ ?_
  rotate_left
  · intro w'
    go_simp
    with_reducible rfl
  rotate_left
  · simp only [Act.put, List.setIfInBounds_toArray, List.set_cons_zero, List.set_cons_succ, i64_w, i32_w]
    rfl
  refine take_ (i := 2) (N := some 9) (v := ?_) (a' := ?_) #[true, true, true, false, false, false, false, false, false] rfl rfl (take_ofW HT_.out HW_.out (by kernel_rfl)) (fun _ _ _ h => h) (Or.inl ⟨by rfl, ?_⟩) hHeld ?_ ?_
  rotate_left
  · rintro w' ⟨s0, s1⟩
    go_simp
    with_reducible rfl
  rotate_left
  · simp only [Act.put, List.setIfInBounds_toArray, List.set_cons_zero, List.set_cons_succ, i64_w, i32_w]
    rfl
  refine pure_ (i := 3) (N := some 10) (v := ?_) (a' := ?_) #[true, true, true, true, false, false, false, false, false] rfl rfl (any_of HT_.out (by kernel_rfl)) (fun _ _ _ h => h) (Or.inl ⟨by rfl, ?_⟩) ?_ ?_
  rotate_left
  · intro w'
    go_simp
    with_reducible rfl
  rotate_left
  · simp only [Act.put, List.setIfInBounds_toArray, List.set_cons_zero, List.set_cons_succ, i64_w, i32_w]
    rfl
  refine pure_ (i := 4) (N := some 11) (v := ?_) (a' := ?_) #[true, true, true, true, true, false, false, false, false] rfl rfl (any_of HT_.out (by kernel_rfl)) (fun _ _ _ h => h) (Or.inl ⟨by rfl, ?_⟩) ?_ ?_
  rotate_left
  · intro w'
    go_simp
    with_reducible rfl
  rotate_left
  · simp only [Act.put, List.setIfInBounds_toArray, List.set_cons_zero, List.set_cons_succ, i64_w, i32_w]
    rfl
  refine pure_ (i := 5) (N := some 12) (v := ?_) (a' := ?_) #[true, true, true, true, true, true, false, false, false] rfl rfl (any_of HT_.out (by kernel_rfl)) (fun _ _ _ h => h) (Or.inl ⟨by rfl, ?_⟩) ?_ ?_
  rotate_left
  · intro w'
    go_simp
    with_reducible rfl
  rotate_left
  · simp only [Act.put, List.setIfInBounds_toArray, List.set_cons_zero, List.set_cons_succ, i64_w, i32_w]
    rfl
  refine one_ (i := 6) (N := some 13) #[true, true, true, true, true, true, true, false, false] rfl rfl (one_of HT_.out (by kernel_rfl)) (by decide) (fun K hK => ?_)
  refine goes_ Tryz.func189 (by kernel_rfl) rfl #[.int .i64 (wrap64 (wrap64 (high - low) + 1)), .func (.func 190) #[] #[.pointer (some ⟨w.heap.size + 1, 0, none⟩), .pointer (some ⟨w.heap.size, 0, none⟩)]] (by (try simp only [Array.map_toArray, List.map_toArray, List.map_cons, List.map_nil]); rfl) rfl rfl (by (try simp only [List.map_toArray, List.map_cons, List.map_nil]); first | done | rfl) ?_
  rw [HN.out]
  refine (search_calls 190 #[.pointer (some ⟨w.heap.size + 1, 0, none⟩), .pointer (some ⟨w.heap.size, 0, none⟩)] n p c W0 (enters_of Tryz.func190 (by kernel_rfl) rfl) hn2 HTT.out (fun W i hW hi => first1_calls g cb eg low (i : Int) (p i) _ _ W (blk_below BY.out hW) (blk_below BX.out hW) (HF.out W i (below_then HB.out HB.out.size hW) hi))).mono ?_
  rintro e w4 ⟨rfl, hb⟩
  refine ⟨_, rfl, ?_⟩
  replace BX := Sd.mk (blk_below BX.out hb)
  replace BY := Sd.mk (blk_below BY.out hb)
  replace HB := Sd.mk (below_then HB.out HB.out.size hb)
  clear hb
  refine hK.out _ _ ⟨(blk_cell BX.out 0).trans rfl, (blk_cell BY.out 0).trans rfl⟩ (fun hHeld => ?_)
  clear hK K
  refine norm_ (a' := ?_) ?_ ?_
  rotate_left
  · show Act.put _ (some 13) _ = _
    simp only [Act.put, List.setIfInBounds_toArray, List.set_cons_zero, List.set_cons_succ, i64_w, i32_w]
    rfl
  refine pure_ (i := 7) (N := some 14) (v := ?_) (a' := ?_) #[true, true, true, true, true, true, true, true, false] rfl rfl (any_of HT_.out (by kernel_rfl)) (fun _ _ _ h => h) (Or.inl ⟨by rfl, ?_⟩) ?_ ?_
  rotate_left
  · intro w'
    go_simp
    with_reducible rfl
  rotate_left
  · simp only [Act.put, List.setIfInBounds_toArray, List.set_cons_zero, List.set_cons_succ, i64_w, i32_w]
    rfl
  refine pure_ (i := 8) (N := some 6) (v := ?_) (a' := ?_) #[true, true, true, true, true, true, true, true, true] rfl rfl (any_of HT_.out (by kernel_rfl)) (fun _ _ _ h => h) (Or.inl ⟨by rfl, ?_⟩) ?_ ?_
  rotate_left
  · intro w'
    go_simp
    with_reducible rfl
  rotate_left
  · simp only [Act.put, List.setIfInBounds_toArray, List.set_cons_zero, List.set_cons_succ, i64_w, i32_w]
    rfl
  refine done_ (done_of HT_.out (by kernel_rfl)) ?_
  go_wp2
  go_ret
  exact ⟨rfl, HB.out⟩
end
section
theorem swithin_e (x lo hi : Int) (w : World) : Calls Tryz.prog 66 #[.int .i64 x, .int .i64 lo, .int .i64 hi] w fun e w' => e = .returned (.bool (inB x lo hi)) ∧ w' = w :=
  (callsIn_wide (n := 9)).1 (withinI Fence.wide 9 trivial rfl x lo hi w)
theorem load_calls (pr fo sp ot : Int) (w : World) :
    Calls Tryz.prog 121 #[loadVv pr fo sp ot] w fun en w' => en = endF (if loadB pr fo sp ot = true then 0 else 1) ∧ Below w.heap.size w w' := by
  unfold loadVv loadB
  cases s1 : inB pr 0 10000 with
  | false =>
    go_enter Tryz.func121, Tryz.ntmps121
    go_wp2_with (first | (go_at_call 66; (with_reducible refine (swithin_e _ _ _ _).mono ?_); (first | rw [s1] | rw [s2] | rw [s3] | rw [s4]); rintro e w' ⟨rfl, rfl⟩) | (go_at_call 65; (with_reducible refine (demand_no _ _).mono ?_); rintro e w' ⟨rfl, rfl⟩))
    exact ⟨rfl, rfl, below_alloc (Below.refl _ _) _⟩
  | true =>
    cases s2 : inB fo 0 20000 with
    | false =>
      go_enter Tryz.func121, Tryz.ntmps121
      go_wp2_with (first | (go_at_call 66; (with_reducible refine (swithin_e _ _ _ _).mono ?_); (first | rw [s1] | rw [s2] | rw [s3] | rw [s4]); rintro e w' ⟨rfl, rfl⟩) | (go_at_call 65; (with_reducible refine (demand_no _ _).mono ?_); rintro e w' ⟨rfl, rfl⟩))
      exact ⟨rfl, rfl, below_alloc (Below.refl _ _) _⟩
    | true =>
      cases s3 : inB sp 0 2000 with
      | false =>
        go_enter Tryz.func121, Tryz.ntmps121
        go_wp2_with (first | (go_at_call 66; (with_reducible refine (swithin_e _ _ _ _).mono ?_); (first | rw [s1] | rw [s2] | rw [s3] | rw [s4]); rintro e w' ⟨rfl, rfl⟩) | (go_at_call 65; (with_reducible refine (demand_no _ _).mono ?_); rintro e w' ⟨rfl, rfl⟩))
        exact ⟨rfl, rfl, below_alloc (Below.refl _ _) _⟩
      | true =>
        cases s4 : inB ot 0 10000000 with
        | false =>
          go_enter Tryz.func121, Tryz.ntmps121
          go_wp2_with (first | (go_at_call 66; (with_reducible refine (swithin_e _ _ _ _).mono ?_); (first | rw [s1] | rw [s2] | rw [s3] | rw [s4]); rintro e w' ⟨rfl, rfl⟩) | (go_at_call 65; (with_reducible refine (demand_no _ _).mono ?_); rintro e w' ⟨rfl, rfl⟩))
          exact ⟨rfl, rfl, below_alloc (Below.refl _ _) _⟩
        | true =>
          go_enter Tryz.func121, Tryz.ntmps121
          go_wp2_with (first | (go_at_call 66; (with_reducible refine (swithin_e _ _ _ _).mono ?_); (first | rw [s1] | rw [s2] | rw [s3] | rw [s4]); rintro e w' ⟨rfl, rfl⟩) | (go_at_call 65; (with_reducible refine (demand_ok _ _).mono ?_); rintro e w' ⟨rfl, rfl⟩))
          go_end0
          exact ⟨rfl, below_alloc (Below.refl _ _) _⟩
theorem load_ok (pr fo sp ot : Int) (w : World) (h : loadB pr fo sp ot = true) :
    Calls Tryz.prog 121 #[.agg #[.int .i64 pr, .int .i64 fo, .int .i64 sp, .int .i64 ot]] w fun en w' => en = .returned (.tuple #[]) ∧ Below w.heap.size w w' :=
  (load_calls pr fo sp ot w).mono fun e w' he => ⟨by rw [he.1, if_pos h]; rfl, he.2⟩
end
section
open Go.RowKit Go.Shelf Go.Proofs.YtljfljekcpdpiaaGreatW.PrintWords Go.Proofs.YtljfljekcpdpiaaGreatW.PrintLast Go.Proofs.YtljfljekcpdpiaaGreatW.PrintMore
attribute [local go_sem] Oper.semAt_some
section
variable {P : Program} {ops : Array Oper} {Q : Exit → Act → World → Prop} {md : Region.Mode} {S : World → Prop} {ds : List Nat}
theorem wpOpIn_of_wpOp {l n : Nat} {i : Nat} (hp : ∀ (i : Nat) (o : Oper), ops[i]? = some o → ∀ c, o.op ≠ .defer c) (hl : ¬ LetsOut Q) {K K' : Act → World → Prop} (hK : ∀ a w, K a w → K' a w) {a : Act} {w : World} (h : wpOp P ops Q i K a w) : wpOpIn (Fence.wide.inRound l) n P ops Q i K' a w := by
  unfold wpOp at h
  unfold wpOpIn
  cases ho : ops[i]? with
  | none => rw [ho] at h; exact hK _ _ h
  | some o =>
    rw [ho] at h
    simp only at h ⊢
    split
    · rename_i hw
      rw [if_pos hw] at h
      rcases h with h | h
      · refine ⟨fun f _ => trivial, ?_⟩
        rw [Oper.semAt_plain (Fence.wide.inRound l) _ _ (hp i o ho)]
        unfold Oper.wp at h
        generalize (execOp a.eval o).run P w = r at *
        cases r with
        | ok x w' =>
          cases x <;> simp only [Oper.upon, Oper.uponIn] at h ⊢
          case value => exact hK _ _ h
          case skip => exact hK _ _ h
          case defer => exact hK _ _ h
          case enter f args =>
            exact ⟨(fun h => by cases h), CallsIn.inRound l (callsIn_wide.2 (Calls.mono h (fun e w'' he => by cases e <;> first | exact hK _ _ he | exact he)))⟩
          case row f args =>
            refine ⟨(fun h => by cases h), fun c cs _ => ?_⟩
            obtain ⟨v, w2, h1, h2⟩ := h c cs
            exact ⟨v, w2, hK _ _ h1, stepsIn_wide.2 h2⟩
        | halt x w' => cases x <;> simp only [Oper.upon, Oper.uponIn] at h ⊢ <;> exact h
      · exact absurd h.2 hl
    · rename_i hw
      rw [if_neg hw] at h
      exact ⟨fun f _ => trivial, hK _ _ h⟩
theorem wpAnyIn_of_wpAny {l n : Nat} (hp : ∀ (i : Nat) (o : Oper), ops[i]? = some o → ∀ c, o.op ≠ .defer c) (hl : ¬ LetsOut Q) : ∀ (fuel : Nat) (listed : Array Bool) (a : Act) (w : World), wpAny P md ops Q fuel listed a w → wpAnyIn (Fence.wide.inRound l) n P md ops Q fuel listed a w
  | 0, _, _, _, h => h
  | fuel + 1, listed, a, w, h => ⟨h.1, fun i hi => wpOpIn_of_wpOp hp hl (fun a w => wpAnyIn_of_wpAny hp hl fuel _ a w) (h.2 i hi)⟩
def noDefer (ops : Array Oper) : Bool := ops.all fun o => match o.op with | .defer _ => false | _ => true
theorem noDefer_spec (h : noDefer ops = true) (i : Nat) (o : Oper) (ho : ops[i]? = some o) (c) : o.op ≠ .defer c := by
  unfold noDefer at h
  rw [Array.all_eq_true] at h
  obtain ⟨hi, he⟩ := Array.getElem?_eq_some_iff.1 ho
  have := h i hi
  rw [he] at this
  intro hc
  rw [hc] at this
  cases this
theorem start_In {id n m l : Nat} {a : Act} {w : World} (lst : Array Bool) (hm : P.follows .mixedOrders = true) (hd : noDefer ops = true) (hl : ¬ LetsOut Q) (hn : ops.size = n) (hls : Array.replicate n false = lst) (hS : S w.drew)
    (h : S w.drew → wpAnyLast P .any ops Q S ds n lst a w.drew) : (Code.region id ops true).wpIn (Fence.wide.inRound l) m P Q a w := by
  subst hn
  subst hls
  exact wpIn_region_any hm (wpAnyIn_of_wpAny (noDefer_spec hd) hl _ _ _ _ (wpAny_of_last _ _ _ _ (h hS)))
end
structure HoI (A : Option Addr) (c : Nat) (zs : List S92) (f1 f2 : Int) (At : Option Addr) (ct : Nat) (ts : List S27) (pr fo sp ot m : Int) (b6 b7 : Bool) (w : World) (M g : Nat) (W : World) : Prop where
  bx : W.heap[w.heap.size]? = some (.cells #[.slice A zs.length c, .int .i64 f1, .int .i64 f2] 73 (0, 0))
  bt : W.heap[w.heap.size + 1]? = some (.cells #[.slice At ts.length ct] 24 (0, 0))
  bl : W.heap[w.heap.size + 1 + 1]? = some (.cells #[.int .i64 pr, .int .i64 fo, .int .i64 sp, .int .i64 ot] 48 (0, 0))
  b6 : W.heap[w.heap.size + 1 + 1 + 1]? = some (.cells #[.bool b6] 4 (0, 0))
  b7 : W.heap[w.heap.size + 1 + 1 + 1 + 1]? = some (.cells #[.bool b7] 4 (0, 0))
  b8 : W.heap[M]? = some (.cells #[.int .i64 m] 3 (0, 0))
  rb : W.heap[g]? = some (.cells #[.slice A zs.length c, .int .i64 f1, .int .i64 f2] 73 (0, 0))
  be : Below w.heap.size w W
section
variable {A : Option Addr} {c : Nat} {zs : List S92} {f1 f2 : Int} {At : Option Addr} {ct : Nat} {ts : List S27} {pr fo sp ot m : Int} {b6 b7 : Bool} {w : World} {M g : Nat} {W : World}
theorem HoI.alloc (h : HoI A c zs f1 f2 At ct ts pr fo sp ot m b6 b7 w M g W) (o : Obj) : HoI A c zs f1 f2 At ct ts pr fo sp ot m b6 b7 w M g (W.alloc o) :=
  ⟨blk_alloc h.bx o, blk_alloc h.bt o, blk_alloc h.bl o, blk_alloc h.b6 o, blk_alloc h.b7 o, blk_alloc h.b8 o, blk_alloc h.rb o, below_alloc h.be o⟩
theorem HoI.put (h : HoI A c zs f1 f2 At ct ts pr fo sp ot m b6 b7 w M g W) (o : Obj) {B : Nat} (h1 : w.heap.size + 5 ≤ M) (h2 : M < B) (h3 : w.heap.size + 5 ≤ g) (h4 : g < B) (h5 : B + 1 < W.heap.size) : HoI A c zs f1 f2 At ct ts pr fo sp ot m b6 b7 w M g (W.putObj (B + 1) o) :=
  ⟨putObj_heap_keep (by omega) h.bx, putObj_heap_keep (by omega) h.bt, putObj_heap_keep (by omega) h.bl, putObj_heap_keep (by omega) h.b6, putObj_heap_keep (by omega) h.b7, putObj_heap_keep (by omega) h.b8, putObj_heap_keep (by omega) h.rb, below_putObj h.be (by omega) h5⟩
theorem HoI.step (h : HoI A c zs f1 f2 At ct ts pr fo sp ot m b6 b7 w M g W) {W' : World} (hb : Below W.heap.size W W') : HoI A c zs f1 f2 At ct ts pr fo sp ot m b6 b7 w M g W' :=
  ⟨blk_below h.bx hb, blk_below h.bt hb, blk_below h.bl hb, blk_below h.b6 hb, blk_below h.b7 hb, blk_below h.b8 hb, blk_below h.rb hb, below_then h.be h.be.size hb⟩
theorem HoI.drew (h : HoI A c zs f1 f2 At ct ts pr fo sp ot m b6 b7 w M g W) : HoI A c zs f1 f2 At ct ts pr fo sp ot m b6 b7 w M g W.drew :=
  ⟨h.bx, h.bt, h.bl, h.b6, h.b7, h.b8, h.rb, below_drew1 h.be⟩
theorem HoI.set7 (h : HoI A c zs f1 f2 At ct ts pr fo sp ot m b6 b7 w M g W) (h1 : w.heap.size + 5 ≤ M) (h3 : g ≠ w.heap.size + 1 + 1 + 1 + 1) (b : Bool) : HoI A c zs f1 f2 At ct ts pr fo sp ot m b6 b w M g (W.setCell ⟨w.heap.size + 1 + 1 + 1 + 1, 0, none⟩ (.bool b)) :=
  ⟨blk_far h.bx (p := ⟨w.heap.size + 1 + 1 + 1 + 1, 0, none⟩) (by dsimp only; omega) _, blk_far h.bt (p := ⟨w.heap.size + 1 + 1 + 1 + 1, 0, none⟩) (by dsimp only; omega) _, blk_far h.bl (p := ⟨w.heap.size + 1 + 1 + 1 + 1, 0, none⟩) (by dsimp only; omega) _, blk_far h.b6 (p := ⟨w.heap.size + 1 + 1 + 1 + 1, 0, none⟩) (by dsimp only; omega) _, blk_put h.b7 0 _ rfl, blk_far h.b8 (p := ⟨w.heap.size + 1 + 1 + 1 + 1, 0, none⟩) (by dsimp only; omega) _, blk_far h.rb (p := ⟨w.heap.size + 1 + 1 + 1 + 1, 0, none⟩) (by dsimp only; omega) _, below_set h.be (by omega)⟩
theorem run_var4 (w : World) (g : Nat) (b : Bool) (h : w.heap[g]? = some (.cells #[.bool b] 4 (0, 0))) : (loadVar 4 ⟨g, 0, none⟩).run Tryz.prog w = .ok (.bool b) w := by
  have hc : w.cell? ⟨g, 0, none⟩ = some (.bool b) := (blk_cell h 0).trans rfl
  simp [loadVar, go_sem, hc]
end
end
section
theorem limit1_calls (s n : Int) (X : Nat) (w : World) (hX : w.heap[X]? = some (.cells #[.int .i64 n] 3 (0, 0))) :
    Calls Tryz.prog 216 #[.int .i64 s, .pointer (some ⟨X, 0, none⟩)] w fun e w' => e = .returned (.bool (decide (wrap64 (s * s) > n))) ∧ Below w.heap.size w w' := by
  have hx : w.cell? ⟨X, 0, none⟩ = some (.int .i64 n) := (blk_cell hX 0).trans rfl
  clear hX
  go_enter Tryz.func216, Tryz.ntmps216
  go_wp2
  go_ret
  exact ⟨rfl, Below.refl _ _⟩
def limP (n : Int) (i : Nat) : Bool := decide ((i : Int) * (i : Int) > n)
theorem limP_mono (n : Int) (a b : Nat) (h : a ≤ b) (ha : limP n a = true) : limP n b = true := by
  simp only [limP, decide_eq_true_eq] at ha ⊢
  have h1 : (a : Int) ≤ (b : Int) := by omega
  have h2 := Int.mul_le_mul h1 h1 (by omega) (by omega)
  omega
theorem limP_w (n : Int) (i : Nat) (h : i < 40000001) : decide (wrap64 (wrap64 (0 + (i : Int)) * wrap64 (0 + (i : Int))) > n) = limP n i := by
  have h1 : (i : Int) ≤ 40000000 := by omega
  have h2 := Int.mul_le_mul h1 h1 (by omega) (by omega)
  have h3 : 0 ≤ (i : Int) * (i : Int) := Int.mul_nonneg (by omega) (by omega)
  rw [Int.zero_add, wsmall (x := (i : Int)) (by omega) (by omega), wsmall (x := (i : Int) * (i : Int)) (by omega) (by omega)]
  rfl
theorem lim_n : wrap64 (wrap64 (40000000 - 0) + 1) = ((40000001 : Nat) : Int) := by
  rw [wsmall (x := 40000000 - 0) (by omega) (by omega), wsmall (by omega) (by omega)]; omega
noncomputable def limC (n : Int) : Nat := Classical.choose (turnsAt_ex (limP n) (limP_mono n) 40000001)
theorem limC_spec (n : Int) : TurnsAt (limP n) 40000001 (limC n) := Classical.choose_spec (turnsAt_ex (limP n) (limP_mono n) 40000001)
noncomputable def limM (f1 f2 : Int) : Int := wrap64 (wrap64 (0 + (limC (wrap64 (Int.tdiv f2 f1)) : Int)) - 1)
theorem limit_calls (A : Option Addr) (c : Nat) (zs : List S92) (f1 f2 : Int) (hf : ¬ f1 = 0) (w : World) :
    Calls Tryz.prog 191 #[.agg #[.slice A zs.length c, .int .i64 f1, .int .i64 f2]] w fun e w' => e = .returned (.int .i64 (limM f1 f2)) ∧ Below w.heap.size w w' := by
  have hmf := run_makeFunc_
  have HM : Sd (limM f1 f2 = wrap64 (wrap64 (0 + (limC (wrap64 (Int.tdiv f2 f1)) : Int)) - 1)) := ⟨rfl⟩
  have hsp := limC_spec (wrap64 (Int.tdiv f2 f1))
  generalize limC (wrap64 (Int.tdiv f2 f1)) = cc at HM hsp
  have HSP := Sd.mk hsp
  clear hsp
  have hf' : (f1 == 0) = false := beq_eq_false_iff_ne.mpr hf
  obtain ⟨b1, b2, hb0, hsz⟩ := blk_two w (.cells #[.slice A zs.length c, .int .i64 f1, .int .i64 f2] 73) (.cells #[.int .i64 (wrap64 (Int.tdiv f2 f1))] 3)
  have BN := Sd.mk b2
  have HB := Sd.mk hb0
  have HSZ := Sd.mk hsz
  clear b1 b2 hb0 hsz
  go_enter Tryz.func191, Tryz.ntmps191
  go_wp2_with (go_at_call 115; go_loud (refine (first_calls 216 #[.pointer (some ⟨w.heap.size + 1, 0, none⟩)] (enters_of Tryz.func216 (by kernel_rfl) rfl) 0 40000000 40000001 lim_n (by decide) _ cc HSP.out _ (fun W i hW hi => (limit1_calls _ _ _ W (blk_below BN.out hW)).mono fun e w' he => ⟨by rw [he.1, limP_w _ i hi], he.2⟩)).mono ?_; rintro e w1 ⟨rfl, hb⟩))
  go_ret
  exact ⟨by rw [HM.out, Int.zero_add]; rfl, below_then HB.out HB.out.size hb⟩
end
section
open Go.RowKit Go.Shelf Go.Proofs.YtljfljekcpdpiaaGreatW.PrintWords Go.Proofs.YtljfljekcpdpiaaGreatW.PrintLast Go.Proofs.YtljfljekcpdpiaaGreatW.PrintMore
theorem door123_ok (B : Nat) (w : World) :
    CallsD Tryz.prog 123 #[.pointer (some ⟨B, 0, none⟩)] .returning w fun en u' w' => en = .returned (.tuple #[]) ∧ u' = .returning ∧ w' = w := by
  refine callsD_of_wpS Tryz.func123 rfl fun c₀ cs hu => ?_
  apply wpS_region
  simp [wpOpsS, go_sem, recoverD, hu, Tryz.ntmps123, Exit.thenS]
  refine (caught_nil ⟨B, 0, none⟩ w).mono ?_
  rintro e1 w1 ⟨rfl, rfl⟩
  cases c₀
  simp_all [Go.bodyPostS, results, Tryz.results123]
end
section
open Go.RowKit Go.Shelf Go.Proofs.YtljfljekcpdpiaaGreatW.PrintWords Go.Proofs.YtljfljekcpdpiaaGreatW.PrintLast Go.Proofs.YtljfljekcpdpiaaGreatW.PrintMore
attribute [local go_sem] Oper.semAt_some
structure SrI (A : Option Addr) (c : Nat) (zs : List S92) (f1 f2 : Int) (At : Option Addr) (ct : Nat) (ts : List S27) (pr fo sp ot : Int) (w : World) (g B : Nat) (W : World) (v : Value) (l : List S27) : Prop where
  bx : W.heap[w.heap.size]? = some (.cells #[.slice A zs.length c, .int .i64 f1, .int .i64 f2] 73 (0, 0))
  bt : W.heap[w.heap.size + 1]? = some (.cells #[.slice At ts.length ct] 24 (0, 0))
  bl : W.heap[w.heap.size + 1 + 1]? = some (.cells #[.int .i64 pr, .int .i64 fo, .int .i64 sp, .int .i64 ot] 48 (0, 0))
  sl : W.heap[w.heap.size + 1 + 1 + 1]? = some (.cells #[v] 24 (0, 0))
  er : W.heap[w.heap.size + 1 + 1 + 1 + 1]? = some (.cells #[.int .i64 0] 38 (0, 0))
  rb : W.heap[g]? = some (.cells #[.slice A zs.length c, .int .i64 f1, .int .i64 f2] 73 (0, 0))
  be : Below w.heap.size w W
  ro : Kd.R k27 27 W (B + 2) (fun _ => True) v l
section
variable {A : Option Addr} {c : Nat} {zs : List S92} {f1 f2 : Int} {At : Option Addr} {ct : Nat} {ts : List S27} {pr fo sp ot : Int} {w : World} {g B : Nat} {W : World} {v : Value} {l : List S27}
theorem SrI.alloc (h : SrI A c zs f1 f2 At ct ts pr fo sp ot w g B W v l) (o : Obj) : SrI A c zs f1 f2 At ct ts pr fo sp ot w g B (W.alloc o) v l :=
  ⟨blk_alloc h.bx o, blk_alloc h.bt o, blk_alloc h.bl o, blk_alloc h.sl o, blk_alloc h.er o, blk_alloc h.rb o, below_alloc h.be o, Kd.R_alloc h.ro o⟩
theorem SrI.put (h : SrI A c zs f1 f2 At ct ts pr fo sp ot w g B W v l) (o : Obj) (h1 : w.heap.size + 5 ≤ g) (h2 : g < B) (h3 : B + 1 < W.heap.size) : SrI A c zs f1 f2 At ct ts pr fo sp ot w g B (W.putObj (B + 1) o) v l :=
  ⟨putObj_heap_keep (by omega) h.bx, putObj_heap_keep (by omega) h.bt, putObj_heap_keep (by omega) h.bl, putObj_heap_keep (by omega) h.sl, putObj_heap_keep (by omega) h.er, putObj_heap_keep (by omega) h.rb, below_putObj h.be (by omega) h3, R_put h.ro (by omega) o⟩
theorem SrI.drew (h : SrI A c zs f1 f2 At ct ts pr fo sp ot w g B W v l) : SrI A c zs f1 f2 At ct ts pr fo sp ot w g B W.drew v l :=
  ⟨h.bx, h.bt, h.bl, h.sl, h.er, h.rb, below_drew1 h.be, Kd.R_drew h.ro⟩
theorem SrI.step (h : SrI A c zs f1 f2 At ct ts pr fo sp ot w g B W v l) {W' : World} (hb : Below W.heap.size W W') : SrI A c zs f1 f2 At ct ts pr fo sp ot w g B W' v l :=
  ⟨blk_below h.bx hb, blk_below h.bt hb, blk_below h.bl hb, blk_below h.sl hb, blk_below h.er hb, blk_below h.rb hb, below_then h.be h.be.size hb, Kd.R_below h.ro hb⟩
end
structure SrS (At : Option Addr) (ct : Nat) (ts : List S27) (pr fo sp ot : Int) (w : World) (v : Value) (x : S92) (r : Nat) (W : World) : Prop where
  bt : W.heap[w.heap.size + 1]? = some (.cells #[.slice At ts.length ct] 24 (0, 0))
  bl : W.heap[w.heap.size + 1 + 1]? = some (.cells #[.int .i64 pr, .int .i64 fo, .int .i64 sp, .int .i64 ot] 48 (0, 0))
  sl : W.heap[w.heap.size + 1 + 1 + 1]? = some (.cells #[v] 24 (0, 0))
  rr : W.heap[r]? = some (.cells #[.int .i64 x.f0.f0, .int .i64 x.f0.f1, .int .i64 x.f1.f0, .int .i64 x.f1.f1, .int .i64 x.f2.f0, .int .i64 x.f2.f1, .int .i64 x.f3.f0, .int .i64 x.f3.f1, .int .i64 x.f4.f0, .int .i64 x.f4.f1] 92 (0, 0))
  be : Below w.heap.size w W
section
variable {At : Option Addr} {ct : Nat} {ts : List S27} {pr fo sp ot : Int} {w : World} {v : Value} {x : S92} {r : Nat} {W : World}
theorem SrS.alloc (h : SrS At ct ts pr fo sp ot w v x r W) (o : Obj) : SrS At ct ts pr fo sp ot w v x r (W.alloc o) :=
  ⟨blk_alloc h.bt o, blk_alloc h.bl o, blk_alloc h.sl o, blk_alloc h.rr o, below_alloc h.be o⟩
theorem SrS.step (h : SrS At ct ts pr fo sp ot w v x r W) {W' : World} (hb : Below W.heap.size W W') : SrS At ct ts pr fo sp ot w v x r W' :=
  ⟨blk_below h.bt hb, blk_below h.bl hb, blk_below h.sl hb, blk_below h.rr hb, below_then h.be h.be.size hb⟩
theorem SrS.grown (h : SrS At ct ts pr fo sp ot w v x r W) {W' : World} {B : Nat} {ok : Nat → Prop} {l : List S27} (hr : Kd.R k27 27 W B ok v l) (hg : W.grownBy W' v.ownBlock) (hb : Below w.heap.size w W') : SrS At ct ts pr fo sp ot w v x r W' :=
  ⟨blk_grown h.bt hg (Kd.R_ne hr h.bt (by decide)), blk_grown h.bl hg (Kd.R_ne hr h.bl (by decide)), blk_grown h.sl hg (Kd.R_ne hr h.sl (by decide)), blk_grown h.rr hg (Kd.R_ne hr h.rr (by decide)), hb⟩
end
end
section
open Go.RowKit Go.Shelf Go.Proofs.YtljfljekcpdpiaaGreatW.PrintWords Go.Proofs.YtljfljekcpdpiaaGreatW.PrintLast Go.Proofs.YtljfljekcpdpiaaGreatW.PrintMore
attribute [local go_sem] Oper.semAt_some
end
section
open Go.RowKit Go.Shelf Go.Proofs.YtljfljekcpdpiaaGreatW.PrintWords Go.Proofs.YtljfljekcpdpiaaGreatW.PrintLast Go.Proofs.YtljfljekcpdpiaaGreatW.PrintMore
attribute [local go_sem] Oper.semAt_some
section
variable {P : Program} {ops : Array Oper} {Q : Exit → Act → World → Prop}
theorem operIn_of_oper {l n : Nat} {o : Oper} (hp : ∀ c, o.op ≠ .defer c) {K K' : Act → World → Prop} (hK : ∀ a w, K a w → K' a w) {a : Act} {w : World} (h : o.wp P a w K Q) : o.wpIn (Fence.wide.inRound l) n P a w K' Q := by
  refine ⟨fun f _ => trivial, ?_⟩
  rw [Oper.semAt_plain (Fence.wide.inRound l) _ _ hp]
  unfold Oper.wp at h
  generalize (execOp a.eval o).run P w = r at *
  cases r with
  | ok x w' =>
    cases x <;> simp only [Oper.upon, Oper.uponIn] at h ⊢
    case value => exact hK _ _ h
    case skip => exact hK _ _ h
    case defer => exact hK _ _ h
    case enter f args =>
      exact ⟨(fun h => by cases h), CallsIn.inRound l (callsIn_wide.2 (Calls.mono h (fun e w'' he => by cases e <;> first | exact hK _ _ he | exact he)))⟩
    case row f args =>
      refine ⟨(fun h => by cases h), fun c cs _ => ?_⟩
      obtain ⟨v, w2, h1, h2⟩ := h c cs
      exact ⟨v, w2, hK _ _ h1, stepsIn_wide.2 h2⟩
  | halt x w' => cases x <;> simp only [Oper.upon, Oper.uponIn] at h ⊢ <;> exact h
theorem wpListIn_of_wpList {l n : Nat} (hl : ¬ LetsOut Q) : ∀ (rest : List Oper) (hp : ∀ o ∈ rest, ∀ c, o.op ≠ .defer c) (a : Act) (w : World), wpList P ops Q rest a w → wpListIn (Fence.wide.inRound l) n P ops Q rest a w
  | [], _, _, _, h => h
  | o :: rest, hp, a, w, h => by
    unfold wpList at h
    unfold wpListIn
    split
    · rename_i hw
      rw [if_pos hw] at h
      rcases h with h | h
      · exact operIn_of_oper (hp o (by simp)) (fun a w => wpListIn_of_wpList hl rest (fun o ho => hp o (by simp [ho])) a w) h
      · exact absurd h.2 hl
    · rename_i hw
      rw [if_neg hw] at h
      exact ⟨fun f _ => trivial, wpListIn_of_wpList hl rest (fun o ho => hp o (by simp [ho])) _ _ h⟩
def noDeferL (l : List Oper) : Bool := l.all fun o => match o.op with | .defer _ => false | _ => true
theorem noDeferL_spec {l : List Oper} (h : noDeferL l = true) : ∀ o ∈ l, ∀ c, o.op ≠ .defer c := by
  unfold noDeferL at h
  rw [List.all_eq_true] at h
  intro o ho c hc
  have := h o ho
  rw [hc] at this
  cases this
theorem regionF_In {id n l : Nat} {os : List Oper} {a : Act} {w : World} (hd : noDeferL os = true) (hl : ¬ LetsOut Q) (h : wpList P os.toArray Q os a w) : (Code.region id os.toArray false).wpIn (Fence.wide.inRound l) n P Q a w :=
  wpIn_region_lit (wpListIn_of_wpList hl os (noDeferL_spec hd) a w h)
end
theorem R_putI {W : World} {v : Value} {l : List Int} {B r : Nat} (h : (Kd.int .i64).R 3 W B (fun _ => True) v l) (hr : r < B) (o' : Obj) : (Kd.int .i64).R 3 (W.putObj r o') B (fun _ => True) v l := by
  refine Kd.R_mono (Kd.R_step (Kd.R_bound h) (fun k hk hlt => ?_)) (fun _ _ => trivial)
  exact World.putObj_heap_other (by have := hk.2.1; omega)
def needT : Bool × List (List Nat × List Nat) := (true, [([], []), ([], []), ([], []), ([1, 2], [1, 2]), ([], []), ([0, 3, 4], [0, 3, 4]), ([5], [5]), ([], []), ([6, 7], [6, 7]), ([8, 5, 0, 1, 2, 3, 4, 5, 6, 7, 8], [8])])
def needB : List Nat := [0, 0, 0, 6, 0, 31, 63, 0, 255, 511]
theorem need_tab : rtab .any (opsOf Tryz.f192 1) = needT := by kernel_rfl
theorem need_bits : waitsOk needT.2 needB = true := by kernel_rfl
theorem need1_calls (x : S92) (t pr fo sp ot m lo hi : Int) (X L M : Nat) (w : World) (hX : w.heap[X]? = some (.cells #[.int .i64 x.f0.f0, .int .i64 x.f0.f1, .int .i64 x.f1.f0, .int .i64 x.f1.f1, .int .i64 x.f2.f0, .int .i64 x.f2.f1, .int .i64 x.f3.f0, .int .i64 x.f3.f1, .int .i64 x.f4.f0, .int .i64 x.f4.f1] 92 (0, 0))) (hL : w.heap[L]? = some (.cells #[.int .i64 pr, .int .i64 fo, .int .i64 sp, .int .i64 ot] 48 (0, 0))) (hM : w.heap[M]? = some (.cells #[.int .i64 m] 3 (0, 0)))
    (hs : ∀ W, Calls Tryz.prog 112 #[.agg #[.int .i64 x.f0.f0, .int .i64 x.f0.f1, .int .i64 x.f1.f0, .int .i64 x.f1.f1, .int .i64 x.f2.f0, .int .i64 x.f2.f1, .int .i64 x.f3.f0, .int .i64 x.f3.f1, .int .i64 x.f4.f0, .int .i64 x.f4.f1], .agg #[.int .i64 t, .int .i64 t], .agg #[.int .i64 pr, .int .i64 fo, .int .i64 sp, .int .i64 ot]] W fun e w' => e = .returned (.agg #[.int .i64 lo, .int .i64 hi]) ∧ Below W.heap.size W w') :
    Calls Tryz.prog 192 #[.int .i64 t, .pointer (some ⟨X, 0, none⟩), .pointer (some ⟨L, 0, none⟩), .pointer (some ⟨M, 0, none⟩)] w fun e w' => e = .returned (.bool (decide (hi ≤ m))) ∧ Below w.heap.size w w' := by
  have BX := Sd.mk hX
  have BL := Sd.mk hL
  have BM := Sd.mk hM
  have HS := Sd.mk hs
  clear hX hL hM hs
  go_enter Tryz.func192, Tryz.ntmps192
  go_upto_region 1 with (fail)
  refine start_ (n := 10) (S := fun w' => w'.heap[X]? = some (.cells #[.int .i64 x.f0.f0, .int .i64 x.f0.f1, .int .i64 x.f1.f0, .int .i64 x.f1.f1, .int .i64 x.f2.f0, .int .i64 x.f2.f1, .int .i64 x.f3.f0, .int .i64 x.f3.f1, .int .i64 x.f4.f0, .int .i64 x.f4.f1] 92 (0, 0)) ∧ w'.heap[L]? = some (.cells #[.int .i64 pr, .int .i64 fo, .int .i64 sp, .int .i64 ot] 48 (0, 0)) ∧ w'.heap[M]? = some (.cells #[.int .i64 m] 3 (0, 0))) (ds := []) #[false, false, false, false, false, false, false, false, false, false] (by kernel_rfl) rfl rfl ⟨BX.out, BL.out, BM.out⟩ (fun hHeld => ?_); refine with_tabW need_tab need_bits (fun HT_ HW_ => ?_)
  have HB := Sd.mk (below_drew1 (Below.refl w.heap.size w))
  have hfd : ∀ (W : World), (Instr.field 27 (.agg #[.int .i64 lo, .int .i64 hi]) 1).run Tryz.prog W = .ok (.int .i64 hi) W := fun W => by kernel_rfl
  generalize w.drew = W0 at HB hHeld ⊢
  refine take_ (i := 0) (N := some 6) (v := ?_) (a' := ?_) #[true, false, false, false, false, false, false, false, false, false] rfl rfl (take_ofW HT_.out HW_.out (by kernel_rfl)) (fun _ _ _ h => h) (Or.inl ⟨by rfl, ?_⟩) hHeld ?_ ?_
  rotate_left
  · rintro w' ⟨hx, hl, hm⟩
    have s0 : w'.cell? ⟨X, 0, none⟩ = some (.int .i64 x.f0.f0) := (blk_cell hx 0).trans rfl
    have s1 : w'.cell? ⟨X, 0 + 1, none⟩ = some (.int .i64 x.f0.f1) := (blk_cell hx 1).trans rfl
    have s2 : w'.cell? ⟨X, 0 + 2, none⟩ = some (.int .i64 x.f1.f0) := (blk_cell hx 2).trans rfl
    have s3 : w'.cell? ⟨X, 0 + 3, none⟩ = some (.int .i64 x.f1.f1) := (blk_cell hx 3).trans rfl
    have s4 : w'.cell? ⟨X, 0 + 4, none⟩ = some (.int .i64 x.f2.f0) := (blk_cell hx 4).trans rfl
    have s5 : w'.cell? ⟨X, 0 + 5, none⟩ = some (.int .i64 x.f2.f1) := (blk_cell hx 5).trans rfl
    have s6 : w'.cell? ⟨X, 0 + 6, none⟩ = some (.int .i64 x.f3.f0) := (blk_cell hx 6).trans rfl
    have s7 : w'.cell? ⟨X, 0 + 7, none⟩ = some (.int .i64 x.f3.f1) := (blk_cell hx 7).trans rfl
    have s8 : w'.cell? ⟨X, 0 + 8, none⟩ = some (.int .i64 x.f4.f0) := (blk_cell hx 8).trans rfl
    have s9 : w'.cell? ⟨X, 0 + 9, none⟩ = some (.int .i64 x.f4.f1) := (blk_cell hx 9).trans rfl
    go_simp
    with_reducible rfl
  rotate_left
  · simp only [Act.put, List.setIfInBounds_toArray, List.set_cons_zero, List.set_cons_succ, i64_w, i32_w]
    rfl
  refine pure_ (i := 1) (N := some 7) (v := ?_) (a' := ?_) #[true, true, false, false, false, false, false, false, false, false] rfl rfl (any_of HT_.out (by kernel_rfl)) (fun _ _ _ h => h) (Or.inl ⟨by rfl, ?_⟩) ?_ ?_
  rotate_left
  · intro w'
    go_simp
    with_reducible rfl
  rotate_left
  · simp only [Act.put, List.setIfInBounds_toArray, List.set_cons_zero, List.set_cons_succ, i64_w, i32_w]
    rfl
  refine pure_ (i := 2) (N := some 8) (v := ?_) (a' := ?_) #[true, true, true, false, false, false, false, false, false, false] rfl rfl (any_of HT_.out (by kernel_rfl)) (fun _ _ _ h => h) (Or.inl ⟨by rfl, ?_⟩) ?_ ?_
  rotate_left
  · intro w'
    go_simp
    with_reducible rfl
  rotate_left
  · simp only [Act.put, List.setIfInBounds_toArray, List.set_cons_zero, List.set_cons_succ, i64_w, i32_w]
    rfl
  refine pure_ (i := 3) (N := some 9) (v := ?_) (a' := ?_) #[true, true, true, true, false, false, false, false, false, false] rfl rfl (any_of HT_.out (by kernel_rfl)) (fun _ _ _ h => h) (Or.inl ⟨by rfl, ?_⟩) ?_ ?_
  rotate_left
  · intro w'
    go_simp
    with_reducible rfl
  rotate_left
  · simp only [Act.put, List.setIfInBounds_toArray, List.set_cons_zero, List.set_cons_succ, i64_w, i32_w]
    rfl
  refine take_ (i := 4) (N := some 10) (v := ?_) (a' := ?_) #[true, true, true, true, true, false, false, false, false, false] rfl rfl (take_ofW HT_.out HW_.out (by kernel_rfl)) (fun _ _ _ h => h) (Or.inl ⟨by rfl, ?_⟩) hHeld ?_ ?_
  rotate_left
  · rintro w' ⟨hx, hl, hm⟩
    have s0 : w'.cell? ⟨L, 0, none⟩ = some (.int .i64 pr) := (blk_cell hl 0).trans rfl
    have s1 : w'.cell? ⟨L, 0 + 1, none⟩ = some (.int .i64 fo) := (blk_cell hl 1).trans rfl
    have s2 : w'.cell? ⟨L, 0 + 2, none⟩ = some (.int .i64 sp) := (blk_cell hl 2).trans rfl
    have s3 : w'.cell? ⟨L, 0 + 3, none⟩ = some (.int .i64 ot) := (blk_cell hl 3).trans rfl
    go_simp
    with_reducible rfl
  rotate_left
  · simp only [Act.put, List.setIfInBounds_toArray, List.set_cons_zero, List.set_cons_succ, i64_w, i32_w]
    rfl
  refine take_ (i := 7) (N := some 13) (v := ?_) (a' := ?_) #[true, true, true, true, true, false, false, true, false, false] rfl rfl (take_ofW HT_.out HW_.out (by kernel_rfl)) (fun _ _ _ h => h) (Or.inl ⟨by rfl, ?_⟩) hHeld ?_ ?_
  rotate_left
  · rintro w' ⟨hx, hl, hm⟩
    have s0 : w'.cell? ⟨M, 0, none⟩ = some (.int .i64 m) := (blk_cell hm 0).trans rfl
    go_simp
    with_reducible rfl
  rotate_left
  · simp only [Act.put, List.setIfInBounds_toArray, List.set_cons_zero, List.set_cons_succ, i64_w, i32_w]
    rfl
  refine one_ (i := 5) (N := some 11) #[true, true, true, true, true, true, false, true, false, false] rfl rfl (one_of HT_.out (by kernel_rfl)) (by decide) (fun K hK => ?_)
  refine goes_ Tryz.func112 (by kernel_rfl) rfl #[.agg #[.int .i64 x.f0.f0, .int .i64 x.f0.f1, .int .i64 x.f1.f0, .int .i64 x.f1.f1, .int .i64 x.f2.f0, .int .i64 x.f2.f1, .int .i64 x.f3.f0, .int .i64 x.f3.f1, .int .i64 x.f4.f0, .int .i64 x.f4.f1], .agg #[.int .i64 t, .int .i64 t], .agg #[.int .i64 pr, .int .i64 fo, .int .i64 sp, .int .i64 ot]] (by (try simp only [Array.map_toArray, List.map_toArray, List.map_cons, List.map_nil]); rfl) rfl rfl (by (try simp only [List.map_toArray, List.map_cons, List.map_nil]); first | done | rfl) ?_
  refine (HS.out _).mono ?_
  rintro e w4 ⟨rfl, hb⟩
  refine ⟨_, rfl, ?_⟩
  obtain ⟨hx, hl, hm⟩ := hHeld
  have HB4 := Sd.mk (below_then HB.out HB.out.size hb)
  have S4 := Sd.mk (And.intro (blk_below hx hb) (And.intro (blk_below hl hb) (blk_below hm hb)))
  clear hb hx hl hm
  refine hK.out _ _ S4.out (fun hHeld => ?_)
  clear hK K
  refine norm_ (a' := ?_) ?_ ?_
  rotate_left
  · show Act.put _ (some 11) _ = _
    simp only [Act.put, List.setIfInBounds_toArray, List.set_cons_zero, List.set_cons_succ, i64_w, i32_w]
    rfl
  refine pure_ (i := 6) (N := some 12) (v := ?_) (a' := ?_) #[true, true, true, true, true, true, true, true, false, false] rfl rfl (any_of HT_.out (by kernel_rfl)) (fun _ _ _ h => h) (Or.inl ⟨by rfl, ?_⟩) ?_ ?_
  rotate_left
  · intro w'
    go_simp
    with_reducible rfl
  rotate_left
  · simp only [Act.put, List.setIfInBounds_toArray, List.set_cons_zero, List.set_cons_succ, i64_w, i32_w]
    rfl
  refine pure_ (i := 8) (N := some 14) (v := ?_) (a' := ?_) #[true, true, true, true, true, true, true, true, true, false] rfl rfl (any_of HT_.out (by kernel_rfl)) (fun _ _ _ h => h) (Or.inl ⟨by rfl, ?_⟩) ?_ ?_
  rotate_left
  · intro w'
    go_simp
    with_reducible rfl
  rotate_left
  · simp only [Act.put, List.setIfInBounds_toArray, List.set_cons_zero, List.set_cons_succ, i64_w, i32_w]
    rfl
  refine pure_ (i := 9) (N := some 5) (v := ?_) (a' := ?_) #[true, true, true, true, true, true, true, true, true, true] rfl rfl (any_of HT_.out (by kernel_rfl)) (fun _ _ _ h => h) (Or.inl ⟨by rfl, ?_⟩) ?_ ?_
  rotate_left
  · intro w'
    go_simp
    with_reducible rfl
  rotate_left
  · simp only [Act.put, List.setIfInBounds_toArray, List.set_cons_zero, List.set_cons_succ, i64_w, i32_w]
    rfl
  refine done_ (done_of HT_.out (by kernel_rfl)) ?_
  go_wp2
  go_ret
  exact ⟨rfl, HB4.out⟩
def needV (n : Int) : Int := if n > 2000 then 0 else n
def needL (nn : Nat → Int) : Nat → List Int
  | 0 => []
  | k + 1 => needL nn k ++ [needV (nn k)]
theorem needL_len (nn : Nat → Int) : ∀ k, (needL nn k).length = k
  | 0 => rfl
  | k + 1 => by simp [needL, needL_len nn k]
structure NdI (A : Option Addr) (c : Nat) (zs : List S92) (f1 f2 pr fo sp ot m : Int) (w : World) (M g B : Nat) (W : World) (v : Value) (l : List Int) : Prop where
  bx : W.heap[w.heap.size]? = some (.cells #[.slice A zs.length c, .int .i64 f1, .int .i64 f2] 73 (0, 0))
  bl : W.heap[w.heap.size + 1]? = some (.cells #[.int .i64 pr, .int .i64 fo, .int .i64 sp, .int .i64 ot] 48 (0, 0))
  bm : W.heap[M]? = some (.cells #[.int .i64 m] 3 (0, 0))
  so : W.heap[M + 1]? = some (.cells #[v] 30 (0, 0))
  rb : W.heap[g]? = some (.cells #[.slice A zs.length c, .int .i64 f1, .int .i64 f2] 73 (0, 0))
  be : Below w.heap.size w W
  ro : (Kd.int .i64).R 3 W (B + 2) (fun _ => True) v l
section
variable {A : Option Addr} {c : Nat} {zs : List S92} {f1 f2 pr fo sp ot m : Int} {w : World} {M g B : Nat} {W : World} {v : Value} {l : List Int}
theorem NdI.alloc (h : NdI A c zs f1 f2 pr fo sp ot m w M g B W v l) (o : Obj) : NdI A c zs f1 f2 pr fo sp ot m w M g B (W.alloc o) v l :=
  ⟨blk_alloc h.bx o, blk_alloc h.bl o, blk_alloc h.bm o, blk_alloc h.so o, blk_alloc h.rb o, below_alloc h.be o, Kd.R_alloc h.ro o⟩
theorem NdI.put (h : NdI A c zs f1 f2 pr fo sp ot m w M g B W v l) (o : Obj) (h0 : w.heap.size + 2 ≤ M) (h1 : M + 1 < g) (h2 : g < B) (h3 : B + 1 < W.heap.size) : NdI A c zs f1 f2 pr fo sp ot m w M g B (W.putObj (B + 1) o) v l :=
  ⟨putObj_heap_keep (by omega) h.bx, putObj_heap_keep (by omega) h.bl, putObj_heap_keep (by omega) h.bm, putObj_heap_keep (by omega) h.so, putObj_heap_keep (by omega) h.rb, below_putObj h.be (by omega) h3, R_putI h.ro (by omega) o⟩
theorem NdI.step (h : NdI A c zs f1 f2 pr fo sp ot m w M g B W v l) {W' : World} (hb : Below W.heap.size W W') : NdI A c zs f1 f2 pr fo sp ot m w M g B W' v l :=
  ⟨blk_below h.bx hb, blk_below h.bl hb, blk_below h.bm hb, blk_below h.so hb, blk_below h.rb hb, below_then h.be h.be.size hb, Kd.R_below h.ro hb⟩
end
theorem nd_n : wrap64 (wrap64 (2000 - 1) + 1) = ((2000 : Nat) : Int) := by
  rw [wsmall (x := 2000 - 1) (by omega) (by omega), wsmall (by omega) (by omega)]; omega
theorem needed_calls (A : Option Addr) (c : Nat) (zs : List S92) (f1 f2 pr fo sp ot m : Int) (lo hi : Nat → Nat → Int) (cs : Nat → Nat) (w : World) (hr : Kd.C k92 w A zs.length zs) (hlen : zs.length ≤ 24)
    (hlim : ∀ W, Calls Tryz.prog 191 #[.agg #[.slice A zs.length c, .int .i64 f1, .int .i64 f2]] W fun e w' => e = .returned (.int .i64 m) ∧ Below W.heap.size W w')
    (hst : ∀ k : Nat, k < zs.length → ∀ i : Nat, i < 2000 → ∀ W, Calls Tryz.prog 112 #[ringV (rd_T92 zs (k : Int)), .agg #[.int .i64 ((i : Int) + 1), .int .i64 ((i : Int) + 1)], loadVv pr fo sp ot] W fun e w' => e = .returned (.agg #[.int .i64 (lo k i), .int .i64 (hi k i)]) ∧ Below W.heap.size W w')
    (hts : ∀ k : Nat, k < zs.length → TurnsAt (fun i => decide (hi k i ≤ m)) 2000 (cs k)) :
    Calls Tryz.prog 122 #[.agg #[.slice A zs.length c, .int .i64 f1, .int .i64 f2], .agg #[.int .i64 pr, .int .i64 fo, .int .i64 sp, .int .i64 ot]] w fun e w' => ∃ v, e = .returned v ∧ (Kd.int .i64).R 3 w' w.heap.size (fun _ => True) v (needL (fun k => (cs k : Int) + 1) zs.length) ∧ Below w.heap.size w w' := by
  have hmf := run_makeFunc_
  obtain ⟨b1, b2, hb0, hsz⟩ := blk_two w (.cells #[.slice A zs.length c, .int .i64 f1, .int .i64 f2] 73) (.cells #[.int .i64 pr, .int .i64 fo, .int .i64 sp, .int .i64 ot] 48)
  have BX := Sd.mk b1
  have BL := Sd.mk b2
  have HB := Sd.mk hb0
  have HSZ := Sd.mk hsz
  have HR := Sd.mk hr
  have HLIM := Sd.mk hlim
  have HST := Sd.mk hst
  have HTS := Sd.mk hts
  have HN := Sd.mk hlen
  clear b1 b2 hb0 hsz hr hlim hst hts hlen
  refine (callsIn_wide (n := 9)).1 (callsIn_of_wp_marks Tryz.func122 rfl trivial ?_ rfl)
  simp only [Tryz.ntmps122, List.size_toArray, List.length_cons, List.length_nil, Nat.reduceAdd, Nat.reduceSub, Array.replicate_succ, Array.replicate_zero, List.push_toArray, List.append_toArray, List.nil_append, List.cons_append]
  gi_wp2_with (first | (refine ⟨trivial, ?_⟩; gi_at_call 191; refine (callsIn_wide.2 (HLIM.out _)).mono ?_; rintro e w1 ⟨rfl, hw1⟩; have HM := Sd.mk (show w.heap.size + 2 ≤ w1.heap.size from Nat.le_trans (by have := HSZ.out; omega) hw1.size); have BX1 := Sd.mk (blk_alloc (blk_alloc (blk_below BX.out hw1) (.cells #[.int .i64 m] 3)) (.cells #[.slice none 0 0] 30)); have BL1 := Sd.mk (blk_alloc (blk_alloc (blk_below BL.out hw1) (.cells #[.int .i64 m] 3)) (.cells #[.slice none 0 0] 30)); have BM1 := Sd.mk (blk_alloc (blk_new w1 (.cells #[.int .i64 m] 3)) (.cells #[.slice none 0 0] 30)); have BO1 : Sd (((w1.alloc (.cells #[.int .i64 m] 3)).alloc (.cells #[.slice none 0 0] 30)).heap[w1.heap.size + 1]? = some (.cells #[.slice none 0 0] 30 (0, 0))) := ⟨by simpa using blk_new (w1.alloc (.cells #[.int .i64 m] 3)) (.cells #[.slice none 0 0] 30)⟩; have HB1 := Sd.mk (below_alloc (below_alloc (below_then HB.out HB.out.size hw1) (.cells #[.int .i64 m] 3)) (.cells #[.slice none 0 0] 30)); clear hw1; have hx0 : ((w1.alloc (.cells #[.int .i64 m] 3)).alloc (.cells #[.slice none 0 0] 30)).cell? ⟨w.heap.size, 0, none⟩ = some (.slice A zs.length c) := (blk_cell BX1.out 0).trans rfl; have hx1 : ((w1.alloc (.cells #[.int .i64 m] 3)).alloc (.cells #[.slice none 0 0] 30)).cell? ⟨w.heap.size, 0 + 1, none⟩ = some (.int .i64 f1) := (blk_cell BX1.out 1).trans rfl; have hx2 : ((w1.alloc (.cells #[.int .i64 m] 3)).alloc (.cells #[.slice none 0 0] 30)).cell? ⟨w.heap.size, 0 + 2, none⟩ = some (.int .i64 f2) := (blk_cell BX1.out 2).trans rfl) | (refine ⟨trivial, ?_⟩; gi_at_call 111; (with_reducible refine (callsIn_wide.2 (rings_b _ _ _ _)).mono ?_); rintro e w3 ⟨g, rfl, hg, hbk, hw3⟩; have I0 : Sd (NdI A c zs f1 f2 pr fo sp ot m w w1.heap.size g w3.heap.size w3 (.slice none 0 0) []) := ⟨⟨blk_below BX1.out hw3, blk_below BL1.out hw3, blk_below BM1.out hw3, blk_below BO1.out hw3, hbk, below_then HB1.out HB1.out.size hw3, Kd.R_nil _ _ _ _ _⟩⟩; have HG := Sd.mk (show w1.heap.size + 1 < g from Nat.lt_of_lt_of_le (by simp) hg); have HG3 := Sd.mk (show g < w3.heap.size from blk_lt hbk); clear hbk hw3 hg))
  clear hx0 hx1 hx2 BX BL HB BX1 BL1 BM1 BO1 HB1
  refine wpIn_rangeFuncP (N := zs.length) (encs := fun k => #[.int .i64 (k : Int), ringV (rd_T92 zs k)]) rfl (by omega) (gf := 187) (lb := #[.pointer (some ⟨g, 0, none⟩)]) rfl trivial (enters_of Tryz.func187 (by kernel_rfl) rfl) (fun _ => rfl)
    (fun k W => ∃ v, NdI A c zs f1 f2 pr fo sp ot m w w1.heap.size g w3.heap.size W v (needL (fun k => (cs k : Int) + 1) k)) (fun _ _ => False) (fun k W o ⟨v, h⟩ => ⟨v, h.alloc o⟩) (fun k W o r hl ⟨v, h⟩ => ⟨v, h.put o HM.out HG.out HG3.out (Array.getElem?_eq_some_iff.1 hl).1⟩) ⟨_, I0.out⟩ ?seq ?round ?fn ?done ?panic
  case seq =>
    intro l1 J Jp W hJa hJI hY h0
    obtain ⟨v, hi0⟩ := hJI _ _ h0
    exact rings1_in Fence.wide (9 - 1) trivial rfl (by omega) l1 g A c _ _ zs J Jp W hi0.rb hJa (fun k W' h => by obtain ⟨v, h⟩ := hJI _ _ h; exact Kd.C_below HR.out h.be) hY h0
  case round =>
    clear I0
    intro l k W hW _ hk hI st hst
    obtain ⟨v, hI⟩ := hI
    have HI1 := Sd.mk hI
    have HW := Sd.mk hW
    have HK := Sd.mk hk
    have HSK := Sd.mk (HST.out k hk)
    have HTK := Sd.mk (HTS.out k hk)
    clear hI hW hk
    generalize hx : rd_T92 zs (k : Int) = x at HSK ⊢
    clear hx
    unfold ringV
    unfold ringV loadVv at HSK
    simp only [List.zip_cons_cons, List.zip_nil_right, List.foldl_cons, List.foldl_nil]
    gi_wp2
    refine hst _ _ (by simp) (fun j h1 h2 => Below.heap_alloc W _ j (by have := HW.out; omega)) ?_
    clear hst
    intro o
    have CK : Sd (NdI A c zs f1 f2 pr fo sp ot m w w1.heap.size g w3.heap.size ((W.alloc (.cells #[.int .i64 x.f0.f0, .int .i64 x.f0.f1, .int .i64 x.f1.f0, .int .i64 x.f1.f1, .int .i64 x.f2.f0, .int .i64 x.f2.f1, .int .i64 x.f3.f0, .int .i64 x.f3.f1, .int .i64 x.f4.f0, .int .i64 x.f4.f1] 92)).putObj (w3.heap.size + 1) o) v (needL (fun k => (cs k : Int) + 1) k)) := ⟨(HI1.out.alloc _).put o HM.out HG.out HG3.out (by have := HW.out; simp; omega)⟩
    have RB : Sd (((W.alloc (.cells #[.int .i64 x.f0.f0, .int .i64 x.f0.f1, .int .i64 x.f1.f0, .int .i64 x.f1.f1, .int .i64 x.f2.f0, .int .i64 x.f2.f1, .int .i64 x.f3.f0, .int .i64 x.f3.f1, .int .i64 x.f4.f0, .int .i64 x.f4.f1] 92)).putObj (w3.heap.size + 1) o).heap[W.heap.size]? = some (.cells #[.int .i64 x.f0.f0, .int .i64 x.f0.f1, .int .i64 x.f1.f0, .int .i64 x.f1.f1, .int .i64 x.f2.f0, .int .i64 x.f2.f1, .int .i64 x.f3.f0, .int .i64 x.f3.f1, .int .i64 x.f4.f0, .int .i64 x.f4.f1] 92 (0, 0))) := ⟨putObj_heap_keep (by have := HW.out; omega) (blk_new _ _)⟩
    have WS : Sd (((W.alloc (.cells #[.int .i64 x.f0.f0, .int .i64 x.f0.f1, .int .i64 x.f1.f0, .int .i64 x.f1.f1, .int .i64 x.f2.f0, .int .i64 x.f2.f1, .int .i64 x.f3.f0, .int .i64 x.f3.f1, .int .i64 x.f4.f0, .int .i64 x.f4.f1] 92)).putObj (w3.heap.size + 1) o).heap.size = W.heap.size + 1) := ⟨by simp⟩
    generalize ((W.alloc (.cells #[.int .i64 x.f0.f0, .int .i64 x.f0.f1, .int .i64 x.f1.f0, .int .i64 x.f1.f1, .int .i64 x.f2.f0, .int .i64 x.f2.f1, .int .i64 x.f3.f0, .int .i64 x.f3.f1, .int .i64 x.f4.f0, .int .i64 x.f4.f1] 92)).putObj (w3.heap.size + 1) o) = Wb at CK RB WS ⊢
    have SZ : Sd (w3.heap.size + 2 ≤ Wb.heap.size) := ⟨by have := HW.out; have := WS.out; omega⟩
    have fin : ∀ (a' : Act) (w5 : World) (v1 : Value), (Kd.int .i64).R 3 w5 (w3.heap.size + 2) (fun _ => True) v1 (needL (fun k => (cs k : Int) + 1) k ++ [needV ((cs k : Int) + 1)]) → Below (w3.heap.size + 2) Wb w5 → bodyPostP w3.heap.size (fun k W => ∃ v, NdI A c zs f1 f2 pr fo sp ot m w w1.heap.size g w3.heap.size W v (needL (fun k => (cs k : Int) + 1) k)) (fun _ _ => False) (k + 1) Wb .normal a' (w5.setCell ⟨w1.heap.size + 1, 0, none⟩ v1) := by
      intro a' w5 v1 hr5 hb5
      have hm := HM.out
      have hg1 := HG.out
      have hg2 := HG3.out
      refine ⟨by simpa using hb5.size, fun j h1 h2 => (Below.heap_setCell _ _ _ j (by simp; omega)).trans (hb5.block j (by omega)), v1, ?_⟩
      exact ⟨blk_far (Below5 hb5 CK.out.bx (by omega)) (p := ⟨w1.heap.size + 1, 0, none⟩) (by simp; omega) _, blk_far (Below5 hb5 CK.out.bl (by omega)) (p := ⟨w1.heap.size + 1, 0, none⟩) (by simp; omega) _, blk_far (Below5 hb5 CK.out.bm (by omega)) (p := ⟨w1.heap.size + 1, 0, none⟩) (by simp) _, blk_put (Below5 hb5 CK.out.so (by omega)) 0 _ rfl, blk_far (Below5 hb5 CK.out.rb (by omega)) (p := ⟨w1.heap.size + 1, 0, none⟩) (by simp; omega) _, below_set (CK.out.be.trans (hb5.mono (by omega))) (by omega), Kd.R_set hr5 (Below5 hb5 CK.out.so (by omega)) (by simp [Kd.int, Kd.scalar]) 0 _⟩
    have FIN := Sd.mk fin
    clear fin
    have HC := Sd.mk ((first_calls 192 #[.pointer (some ⟨W.heap.size, 0, none⟩), .pointer (some ⟨w.heap.size + 1, 0, none⟩), .pointer (some ⟨w1.heap.size, 0, none⟩)] (enters_of Tryz.func192 (by kernel_rfl) rfl) 1 2000 2000 nd_n (by decide) _ (cs k) HTK.out Wb (fun W' i hW' hi' =>
      (show Calls Tryz.prog 192 #[.int .i64 (wrap64 (1 + (i : Int))), .pointer (some ⟨W.heap.size, 0, none⟩), .pointer (some ⟨w.heap.size + 1, 0, none⟩), .pointer (some ⟨w1.heap.size, 0, none⟩)] W' (fun e w' => e = .returned (.bool ((fun i => decide (hi k i ≤ m)) i)) ∧ Below W'.heap.size W' w') from by
        rw [show wrap64 (1 + (i : Int)) = (i : Int) + 1 from by rw [wsmall (by omega) (by omega)]; omega]
        exact need1_calls x ((i : Int) + 1) pr fo sp ot m (lo k i) (hi k i) _ _ _ W' (blk_below RB.out hW') (blk_below CK.out.bl hW') (blk_below CK.out.bm hW') (fun W'' => HSK.out i hi' W'')))).mono (fun e w' he => (show e = .returned (.int .i64 ((cs k : Int) + 1)) ∧ Below Wb.heap.size Wb w' from ⟨by rw [he.1, show wrap64 (1 + (cs k : Int)) = (cs k : Int) + 1 from by have := HTK.out.le; rw [wsmall (by omega) (by omega)]; omega], he.2⟩)))
    generalize (cs k : Int) + 1 = nk at HC FIN
    clear HTK HSK
    by_cases hgt : 2000 < nk
    · have hv : needV nk = 0 := if_pos hgt
      rw [hv] at FIN
      clear hv
      gi_upto_region 8 with (refine ⟨trivial, ?_⟩; gi_at_call 115; refine (CallsIn.inRound l (callsIn_wide.2 HC.out)).mono ?_; rintro e w4 ⟨rfl, hb4⟩; have I4 := Sd.mk (CK.out.step hb4); have BD4 := Sd.mk (show Below (w3.heap.size + 2) Wb w4 from hb4.mono SZ.out); have SZ4 := Sd.mk (show w3.heap.size + 2 ≤ w4.heap.size from Nat.le_trans SZ.out hb4.size); clear hb4)
      clear hgt HC
      refine regionF_In (by rfl) (fun ⟨_, _, h⟩ => h) ?_
      have so4 : w4.cell? ⟨w1.heap.size + 1, 0, none⟩ = some v := (blk_cell I4.out.so 0).trans rfl
      go_wp2_with ((with_reducible refine gate_builtin (b := .append) (xs := #[.tmp 20, .tmp 22]) rfl ?_); at_builtin; refine Kd.R_append (Kd.int .i64) (w0 := Wb) (w3.heap.size + 2) rfl (.tmp 20) (.tmp 22) 30 3 (.int .i64 0) 8 rfl Tryz.underlying30 info3 rfl (by decide) (by omega) v (needL (fun k => (cs k : Int) + 1) k) (0) [.int .i64 (0)] (fun _ => True) (fun _ => False) rfl rfl rfl (fun _ hk => hk.elim) (fun _ _ => trivial) I4.out.ro BD4.out SZ4.out (by rw [needL_len]; have := HN.out; have := HK.out; omega) ?_; intro v1 w5 ho hb hg hat; obtain ⟨As, cs5, rfl⟩ := Kd.R_slice ho; have HO := Sd.mk ho; have HB5 := Sd.mk hb; have so5 : w5.cell? ⟨w1.heap.size + 1, 0, none⟩ = some v := (blk_cell (Below5 hb CK.out.so (by have := HG.out; have := HG3.out; omega)) 0).trans rfl; have so6 := blk_frozen (Below5 hb CK.out.so (by have := HG.out; have := HG3.out; omega)) 0; clear ho hb hg hat)
      refine FIN.out { tmps := #[], defers := [] } _ _ ?_ HB5.out
      have ho := HO.out
      rw [List.length_append] at ho
      exact ho
    · have hv : needV nk = nk := if_neg hgt
      rw [hv] at FIN
      clear hv
      gi_upto_region 8 with (refine ⟨trivial, ?_⟩; gi_at_call 115; refine (CallsIn.inRound l (callsIn_wide.2 HC.out)).mono ?_; rintro e w4 ⟨rfl, hb4⟩; have I4 := Sd.mk (CK.out.step hb4); have BD4 := Sd.mk (show Below (w3.heap.size + 2) Wb w4 from hb4.mono SZ.out); have SZ4 := Sd.mk (show w3.heap.size + 2 ≤ w4.heap.size from Nat.le_trans SZ.out hb4.size); clear hb4)
      clear hgt HC
      refine regionF_In (by rfl) (fun ⟨_, _, h⟩ => h) ?_
      have so4 : w4.cell? ⟨w1.heap.size + 1, 0, none⟩ = some v := (blk_cell I4.out.so 0).trans rfl
      go_wp2_with ((with_reducible refine gate_builtin (b := .append) (xs := #[.tmp 20, .tmp 22]) rfl ?_); at_builtin; refine Kd.R_append (Kd.int .i64) (w0 := Wb) (w3.heap.size + 2) rfl (.tmp 20) (.tmp 22) 30 3 (.int .i64 0) 8 rfl Tryz.underlying30 info3 rfl (by decide) (by omega) v (needL (fun k => (cs k : Int) + 1) k) (nk) [.int .i64 (nk)] (fun _ => True) (fun _ => False) rfl rfl rfl (fun _ hk => hk.elim) (fun _ _ => trivial) I4.out.ro BD4.out SZ4.out (by rw [needL_len]; have := HN.out; have := HK.out; omega) ?_; intro v1 w5 ho hb hg hat; obtain ⟨As, cs5, rfl⟩ := Kd.R_slice ho; have HO := Sd.mk ho; have HB5 := Sd.mk hb; have so5 : w5.cell? ⟨w1.heap.size + 1, 0, none⟩ = some v := (blk_cell (Below5 hb CK.out.so (by have := HG.out; have := HG3.out; omega)) 0).trans rfl; have so6 := blk_frozen (Below5 hb CK.out.so (by have := HG.out; have := HG3.out; omega)) 0; clear ho hb hg hat)
      refine FIN.out { tmps := #[], defers := [] } _ _ ?_ HB5.out
      have ho := HO.out
      rw [List.length_append] at ho
      exact ho
  case fn => intro ⟨_, _, h⟩; exact h.elim
  case panic => intro _ _ h; exact h.elim
  case done =>
    intro W hI hD
    obtain ⟨v, hI⟩ := hI
    have HI2 := Sd.mk hI
    have HD := Sd.mk hD
    have gv : W.cell? ⟨w1.heap.size + 1, 0, none⟩ = some v := (blk_cell hI.so 0).trans rfl
    clear hI hD I0
    gi_wp2
    have hm := HM.out
    have hg1 := HG.out
    have hg2 := HG3.out
    have hi2 := HI2.out
    have hlt : w3.heap.size < W.heap.size := (Array.getElem?_eq_some_iff.1 HD.out).1
    refine ⟨by simp, .inl ⟨_, _, rfl, run_takeDeferred HD.out, ?_⟩⟩
    exact ⟨_, results_tmp rfl _ _ _, _, rfl, Kd.R_lower (R_putI hi2.ro (by omega) _) (by omega), below_putObj hi2.be (by omega) hlt⟩
end
section
open Go.RowKit Go.Shelf Go.Proofs.YtljfljekcpdpiaaGreatW.PrintWords Go.Proofs.YtljfljekcpdpiaaGreatW.PrintLast Go.Proofs.YtljfljekcpdpiaaGreatW.PrintMore
attribute [local go_sem] Oper.semAt_some
section
variable {F : Fence} {n : Nat} {P : Program}
def bodyPostR (B : Nat) (I : Nat → World → Prop) (Ix : World → Prop) (k : Nat) (W : World) : Exit → Act → World → Prop
  | .normal, _, W' => W.heap.size ≤ W'.heap.size ∧ (∀ j, B ≤ j → j < B + 2 → W'.heap[j]? = W.heap[j]?) ∧ I k W'
  | .ret, _, W' => W.heap.size ≤ W'.heap.size ∧ (∀ j, B ≤ j → j < B + 2 → W'.heap[j]? = W.heap[j]?) ∧ Ix W'
  | _, _, _ => False
theorem wpIn_rangeFuncR {g : Operand} {ps : Array Tmp} {assign body : Code} {Q : Exit → Act → World → Prop} {a : Act} {w : World} {N : Nat} {encs : Nat → Array Value}
    (hro : F.round = none) (h1 : 1 ≤ n) {gf : Nat} {lb : Array Value} (hg : a.eval g = .func (.func gf) #[] lb) (hFg : F.fn gf) (eg : ∀ args w, (callFunc gf args).run P w = .ok (.enter gf args) w)
    (hps : ∀ k, (encs k).size = ps.size) (I : Nat → World → Prop) (Ix : World → Prop)
    (hIa : ∀ k W o, I k W → I k (W.alloc o)) (hIp : ∀ k W o (r : Loop), W.heap[w.heap.size + 1]? = some (.loop r) → I k W → I k (W.putObj (w.heap.size + 1) o))
    (hXp : ∀ W o (r : Loop), W.heap[w.heap.size + 1]? = some (.loop r) → Ix W → Ix (W.putObj (w.heap.size + 1) o)) (h0 : I 0 w)
    (hseq : ∀ (l : Nat) (J : Nat → World → Prop) (Jx : World → Prop) (W : World), (∀ k W o, J k W → J k (W.alloc o)) → (∀ k W, J k W → I k W) →
      (∀ k W1, k < N → J k W1 → YieldAt F (n - 1 - 1) P l (encs k) W1 fun e W' => (e = .returned (.bool true) ∧ J (k + 1) W') ∨ (e = .returned (.bool false) ∧ Jx W')) → J 0 W →
      CallsIn F (n - 1) P gf (#[.func (.yield l) #[] #[]] ++ lb) W fun e W' => (∃ v, e = .returned v ∧ J N W') ∨ (∃ v, e = .returned v ∧ Jx W'))
    (hround : ∀ (l : Nat) (k : Nat) (W : World), w.heap.size + 1 < W.heap.size → (∃ r : Loop, W.heap[w.heap.size + 1]? = some (.loop r)) → k < N → I k W → ∀ (st : Act → World → Prop),
      (∀ a' W', W.heap.size ≤ W'.heap.size → (∀ j, w.heap.size ≤ j → j < w.heap.size + 2 → W'.heap[j]? = W.heap[j]?) →
        (∀ o, body.wpIn (F.inRound l) (n - 1 - 1) P (bodyPostR w.heap.size I Ix (k + 1) (W'.putObj (w.heap.size + 1) o)) a' (W'.putObj (w.heap.size + 1) o)) → st a' W') →
      assign.wpIn (F.inRound l) (n - 1 - 1) P (Exit.then st (fun _ _ _ => False)) { tmps := (ps.zip (encs k)).foldl (fun t (p, v) => t.setIfInBounds p v) a.tmps, defers := [] } W)
    (hdone : ∀ W, I N W → W.heap[w.heap.size]? = some (.deferred (some [])) → Q .normal { a with defers := { target := .collected w.heap.size, args := #[] } :: a.defers } W)
    (hstop : ∀ W, Ix W → W.heap[w.heap.size]? = some (.deferred (some [])) → Code.ret.wpIn F n P Q { a with defers := { target := .collected w.heap.size, args := #[] } :: a.defers } W) :
    (Code.rangeFunc g ps assign body).wpIn F n P Q a w := by
  refine wpIn_rangeFunc ?_
  intro fn hfn'
  rw [hro]
  obtain ⟨rec, hrec⟩ : ∃ rec : LoopState → Option Code → Loop, rec = fun st pe => { state := st, pending := pe, fn, tmps := a.tmps, params := ps, assign, body, defers := w.heap.size } := ⟨_, rfl⟩
  obtain ⟨W1, hW1⟩ : ∃ W1, (w.alloc (.deferred (some []))).alloc (.loop (rec .ready none)) = W1 := ⟨_, rfl⟩
  have hL1 : W1.heap[w.heap.size + 1]? = some (.loop (rec .ready none)) := by
    rw [← hW1]; have := World.alloc_heap_new (w.alloc (.deferred (some []))) (.loop (rec .ready none)); rwa [World.size_alloc] at this
  have hK1 : W1.heap[w.heap.size]? = some (.deferred (some [])) := by
    rw [← hW1]; exact (Below.heap_alloc _ _ _ (by simp)).trans (World.alloc_heap_new w _)
  have hI1 : I 0 W1 := by rw [← hW1]; exact hIa _ _ _ (hIa _ _ _ h0)
  refine ⟨w.heap.size + 1, [{ target := .collected w.heap.size, args := #[] }], W1, { target := .fn (.func gf) lb, args := #[.func (.yield (w.heap.size + 1)) #[] #[]] }, W1, gf,
    #[.func (.yield (w.heap.size + 1)) #[] #[]] ++ lb, W1, ?_, ?_, ?_, ?_, fun _ => h1, ?_⟩
  · rw [← hW1, hrec]; exact run_enterLoop_outer _ _ _ _ _
  · simp only [resolve, hg]
    simp [go_sem]
  · intro f' hf'; simp [Target.leads] at hf'; subst hf'; exact hFg
  · simp [invoke, go_sem, eg]
  · have hal : ∀ (W : World) (j : Nat) (x : Obj) (o : Obj), W.heap[j]? = some x → (W.alloc o).heap[j]? = some x := fun W j x o h =>
      (Below.heap_alloc W o j (Array.getElem?_eq_some_iff.1 h).1).trans h
    refine (hseq (w.heap.size + 1)
      (fun k W => I k W ∧ W.heap[w.heap.size + 1]? = some (.loop (rec .ready none)) ∧ W.heap[w.heap.size]? = some (.deferred (some [])))
      (fun W => Ix W ∧ W.heap[w.heap.size + 1]? = some (.loop (rec .done (some .ret))) ∧ W.heap[w.heap.size]? = some (.deferred (some [])))
      W1 (fun k W o h => ⟨hIa _ _ _ h.1, hal _ _ _ _ h.2.1, hal _ _ _ _ h.2.2⟩) (fun k W h => h.1) ?_ ⟨hI1, hL1, hK1⟩).mono ?_
    · rintro k W hk ⟨hi, hl, hd⟩
      have hlt : w.heap.size + 1 < W.heap.size := (Array.getElem?_eq_some_iff.1 hl).1
      have hy := run_yield (P := P) (args := encs k) hl (by rw [hrec]; exact hps k)
      rw [hrec] at hy
      refine ⟨fn, _, assign, body, hy, roundIn_of_wpIn hfn' (hround _ k W hlt ⟨_, hl⟩ hk hi _ ?_)⟩
      clear hy
      intro a' Wa hsz hsame hb
      have hla : Wa.heap[w.heap.size + 1]? = some (.loop (rec .ready none)) := (hsame _ (by omega) (by omega)).trans hl
      have hda : Wa.heap[w.heap.size]? = some (.deferred (some [])) := (hsame _ (by omega) (by omega)).trans hd
      have hlta : w.heap.size + 1 < Wa.heap.size := by omega
      refine ⟨_, run_beginRound hla (by rw [hrec]), ?_⟩
      refine wpIn_mono (hb _) ?_
      have hl2 : (Wa.putObj (w.heap.size + 1) (.loop { rec .ready none with state := .busy })).heap[w.heap.size + 1]? = some (.loop { rec .ready none with state := .busy }) := World.putObj_heap_same hlta
      have hk2 : (Wa.putObj (w.heap.size + 1) (.loop { rec .ready none with state := .busy })).heap[w.heap.size]? = some (.deferred (some [])) := (World.putObj_heap_other (by omega)).trans hda
      rintro e a3 W3 hp
      cases e with
      | normal =>
        obtain ⟨hs3, hsame3, hi3⟩ := hp
        have hl3 := (hsame3 _ (by omega) (by omega)).trans hl2
        have hk3 := (hsame3 _ (by omega) (by omega)).trans hk2
        have hr := run_endRound (P := P) none hl3
        have hlt3 := (Array.getElem?_eq_some_iff.1 hl3).1
        rw [hrec] at hr ⊢
        exact ⟨_, _, hr, .inl ⟨rfl, hIp _ _ _ _ hl3 hi3, World.putObj_heap_same hlt3, (World.putObj_heap_other (by omega)).trans hk3⟩⟩
      | ret =>
        obtain ⟨hs3, hsame3, hi3⟩ := hp
        have hl3 := (hsame3 _ (by omega) (by omega)).trans hl2
        have hk3 := (hsame3 _ (by omega) (by omega)).trans hk2
        have hr := run_endRound (P := P) (some .ret) hl3
        have hlt3 := (Array.getElem?_eq_some_iff.1 hl3).1
        rw [hrec] at hr ⊢
        exact ⟨_, _, hr, .inr ⟨rfl, hXp _ _ _ hl3 hi3, World.putObj_heap_same hlt3, (World.putObj_heap_other (by omega)).trans hk3⟩⟩
      | panic ch => exact hp.elim
      | exit id => exact hp.elim
      | goto t => exact hp.elim
      | outgrown => exact hp.elim
    · rintro e W2 (⟨v, rfl, hi, hl, hk⟩ | ⟨v, rfl, hi, hl, hk⟩)
      · have hlt := (Array.getElem?_eq_some_iff.1 hl).1
        exact ⟨none, _, by have := run_endLoop (P := P) hl (by rw [hrec]; simp); rw [hrec] at this; exact this, hdone _ (hIp _ _ _ _ hl hi) ((World.putObj_heap_other (by omega)).trans hk)⟩
      · have hlt := (Array.getElem?_eq_some_iff.1 hl).1
        exact ⟨some .ret, _, by have := run_endLoop (P := P) hl (by rw [hrec]; simp); rw [hrec] at this; exact this, hstop _ (hXp _ _ _ hl hi) ((World.putObj_heap_other (by omega)).trans hk)⟩
end
theorem rings1_inR (F : Fence) (n : Nat) (hF : F.fn 187) (hro : F.round = none) (hn : 1 ≤ n) (l Bs : Nat) (A : Option Addr) (cap : Nat) (v2 v3 : Value) (zs : List S92) (J : Nat → World → Prop) (Jx : World → Prop) (W : World)
    (hBs : W.heap[Bs]? = some (.cells #[.slice A zs.length cap, v2, v3] 73 (0, 0)))
    (hJa : ∀ k W o, J k W → J k (W.alloc o)) (hJC : ∀ k W, J k W → Kd.C k92 W A zs.length zs)
    (hY : ∀ k W1, k < zs.length → J k W1 → YieldAt F (n - 1) Tryz.prog l #[.int .i64 k, ringV (rd_T92 zs k)] W1 fun e W' => (e = .returned (.bool true) ∧ J (k + 1) W') ∨ (e = .returned (.bool false) ∧ Jx W'))
    (h0 : J 0 W) :
    CallsIn F n Tryz.prog 187 #[.func (.yield l) #[] #[], .pointer (some ⟨Bs, 0, none⟩)] W fun e W' => (∃ v, e = .returned v ∧ J zs.length W') ∨ (∃ v, e = .returned v ∧ Jx W') := by
  have hc0 : W.cell? ⟨Bs, 0, none⟩ = some (.slice A zs.length cap) := (blk_cell hBs 0).trans rfl
  refine callsIn_of_wp Tryz.func187 rfl hF ?_ hro
  simp only [Tryz.ntmps187, List.size_toArray, List.length_cons, List.length_nil, Nat.reduceAdd, Nat.reduceSub, Array.replicate_succ, Array.replicate_zero, List.push_toArray, List.append_toArray, List.nil_append, List.cons_append]
  gi_wp2
  gi_loopw [8] (fun i wr => ∃ k : Nat, k ≤ zs.length ∧ i = .int .i64 k ∧ J k wr) (fun i _ => zs.length - (intOf i).toNat)
  case atStart => exact ⟨0, Nat.zero_le _, rfl, h0⟩
  case round =>
    obtain ⟨k, hk, rfl, hJs⟩ := hrel
    by_cases hlt : k < zs.length
    · obtain ⟨ad, rfl, g0, g1, g2, g3, g4, g5, g6, g7, g8, g9⟩ := at_T92 (hJC k wr hJs) k (by omega) (by omega)
      have hmax := Kd.C_max (hJC k wr hJs)
      have hwr : wrap64 ((k : Int) + 1) = (k : Int) + 1 := by unfold wrap64; omega
      simp only [Int.toNat_natCast] at g0 g1 g2 g3 g4 g5 g6 g7 g8 g9
      obtain ⟨fn, tmps, assign, body, hy, hR⟩ := hY _ (wr.alloc (ringC (rd_T92 zs k))) hlt (hJa _ _ _ hJs)
      unfold ringC ringV at hy
      gi_wp2
      refine hR.mono ?_
      rintro e W3 (⟨rfl, hJ3⟩ | ⟨rfl, hJx⟩)
      · gi_wp2
        go_roundw
        case rel => exact ⟨k + 1, by omega, by simp, hJ3⟩
        case measure => simp [intOf]; omega
      · gi_wp2
        (try simp only [Exit.inBlock, Exit.then])
        refine bodyPost_ret (results_none rfl _ _ _) rfl ?_
        exact .inr ⟨_, rfl, hJx⟩
    · obtain rfl : k = zs.length := by omega
      gi_wp2
      go_end0
      exact .inl ⟨_, rfl, hJs⟩
def enoughB (lo : Nat → Int) (ns : List Int) : Nat → Bool
  | 0 => true
  | k + 1 => enoughB lo ns k && !decide (lo k < rd ns (k : Int))
theorem enoughB_mono (lo : Nat → Int) (ns : List Int) (k : Nat) (h : enoughB lo ns k = false) : ∀ j, k ≤ j → enoughB lo ns j = false
  | 0, hj => by obtain rfl : k = 0 := by omega
                exact h
  | j + 1, hj => by
    by_cases e : k = j + 1
    · rw [← e]; exact h
    · simp [enoughB, enoughB_mono lo ns k h j (by omega)]
def ligT : Bool × List (List Nat × List Nat) := (true, [([], []), ([], []), ([], []), ([1, 2], [1, 2]), ([0, 3], [0, 3]), ([4], [4]), ([], []), ([], []), ([6, 7], [6, 7]), ([8], [8]), ([5, 9], [5, 9])])
def ligB : List Nat := [0, 0, 0, 6, 15, 31, 0, 0, 192, 448, 1023]
theorem lig_tab : rtab .any (opsOf Tryz.f194 4) = ligT := by kernel_rfl
theorem lig_bits : waitsOk ligT.2 ligB = true := by kernel_rfl
theorem results_b {fn : Func} {p : Tmp} (h : fn.results = #[.cell p 4]) (tmps : Array Value) (w : World) (g : Nat) (b : Bool) (hp : tmps.getD p undef = .pointer (some ⟨g, 0, none⟩)) (hg : w.heap[g]? = some (.cells #[.bool b] 4 (0, 0))) :
    (results fn tmps).run Tryz.prog w = .ok (.bool b) w := by
  have h1 : tmps[p]?.getD undef = .pointer (some ⟨g, 0, none⟩) := by simpa using hp
  simp [results, h, h1, asAddr, run_var4 w g b hg]
structure LtI (A : Option Addr) (c : Nat) (zs : List S92) (f1 f2 : Int) (An : Option Addr) (cn : Nat) (ns : List Int) (wt : Int) (X Y : Nat) (w : World) (g : Nat) (b : Bool) (W : World) : Prop where
  bx : W.heap[X]? = some (.cells #[.slice A zs.length c, .int .i64 f1, .int .i64 f2] 73 (0, 0))
  by' : W.heap[Y]? = some (.cells #[.slice An ns.length cn] 30 (0, 0))
  b3 : W.heap[w.heap.size]? = some (.cells #[.int .i64 wt] 3 (0, 0))
  b4 : W.heap[w.heap.size + 1]? = some (.cells #[.bool b] 4 (0, 0))
  rb : W.heap[g]? = some (.cells #[.slice A zs.length c, .int .i64 f1, .int .i64 f2] 73 (0, 0))
  be : Below w.heap.size w W
section
variable {A : Option Addr} {c : Nat} {zs : List S92} {f1 f2 : Int} {An : Option Addr} {cn : Nat} {ns : List Int} {wt : Int} {X Y : Nat} {w : World} {g : Nat} {b : Bool} {W : World}
theorem LtI.alloc (h : LtI A c zs f1 f2 An cn ns wt X Y w g b W) (o : Obj) : LtI A c zs f1 f2 An cn ns wt X Y w g b (W.alloc o) :=
  ⟨blk_alloc h.bx o, blk_alloc h.by' o, blk_alloc h.b3 o, blk_alloc h.b4 o, blk_alloc h.rb o, below_alloc h.be o⟩
theorem LtI.put (h : LtI A c zs f1 f2 An cn ns wt X Y w g b W) (o : Obj) {r : Nat} (h0 : X < w.heap.size) (h1 : Y < w.heap.size) (h2 : w.heap.size + 1 < r) (h3 : g < r) (h4 : r < W.heap.size) : LtI A c zs f1 f2 An cn ns wt X Y w g b (W.putObj r o) :=
  ⟨putObj_heap_keep (by omega) h.bx, putObj_heap_keep (by omega) h.by', putObj_heap_keep (by omega) h.b3, putObj_heap_keep (by omega) h.b4, putObj_heap_keep (by omega) h.rb, below_putObj h.be (by omega) h4⟩
theorem LtI.drew (h : LtI A c zs f1 f2 An cn ns wt X Y w g b W) : LtI A c zs f1 f2 An cn ns wt X Y w g b W.drew := ⟨h.bx, h.by', h.b3, h.b4, h.rb, below_drew1 h.be⟩
theorem LtI.step (h : LtI A c zs f1 f2 An cn ns wt X Y w g b W) {W' : World} (hb : Below W.heap.size W W') : LtI A c zs f1 f2 An cn ns wt X Y w g b W' :=
  ⟨blk_below h.bx hb, blk_below h.by' hb, blk_below h.b3 hb, blk_below h.b4 hb, blk_below h.rb hb, below_then h.be h.be.size hb⟩
theorem LtI.set (h : LtI A c zs f1 f2 An cn ns wt X Y w g b W) (h0 : X < w.heap.size) (h1 : Y < w.heap.size) (h3 : w.heap.size + 1 < g) (b' : Bool) : LtI A c zs f1 f2 An cn ns wt X Y w g b' (W.setCell ⟨w.heap.size + 1, 0, none⟩ (.bool b')) :=
  ⟨blk_far h.bx (p := ⟨w.heap.size + 1, 0, none⟩) (by simp; omega) _, blk_far h.by' (p := ⟨w.heap.size + 1, 0, none⟩) (by simp; omega) _, blk_far h.b3 (p := ⟨w.heap.size + 1, 0, none⟩) (by simp) _, blk_put h.b4 0 _ rfl, blk_far h.rb (p := ⟨w.heap.size + 1, 0, none⟩) (by simp; omega) _, below_set h.be (by omega)⟩
end
theorem light1_calls (A : Option Addr) (c : Nat) (zs : List S92) (f1 f2 : Int) (An : Option Addr) (cn : Nat) (ns : List Int) (wt : Int) (lo hi : Nat → Int) (X Y : Nat) (w : World) (hX : w.heap[X]? = some (.cells #[.slice A zs.length c, .int .i64 f1, .int .i64 f2] 73 (0, 0))) (hY : w.heap[Y]? = some (.cells #[.slice An ns.length cn] 30 (0, 0))) (hr : Kd.C k92 w A zs.length zs) (hn : Kd.C (Kd.int .i64) w An ns.length ns) (hlen : ns.length = zs.length)
    (hth : ∀ k : Nat, k < zs.length → ∀ W, Calls Tryz.prog 156 #[ringV (rd_T92 zs (k : Int)), .agg #[.int .i64 wt, .int .i64 wt]] W fun e w' => e = .returned (.agg #[.int .i64 (lo k), .int .i64 (hi k)]) ∧ Below W.heap.size W w') :
    Calls Tryz.prog 194 #[.int .i64 wt, .pointer (some ⟨X, 0, none⟩), .pointer (some ⟨Y, 0, none⟩)] w fun e w' => e = .returned (.bool (enoughB lo ns zs.length)) ∧ Below w.heap.size w w' := by
  obtain ⟨b1, b2, hb0, hsz⟩ := blk_two w (.cells #[.int .i64 wt] 3) (.cells #[.bool false] 4)
  have LX := Sd.mk (blk_lt hX)
  have LY := Sd.mk (blk_lt hY)
  have BX := Sd.mk (blk_alloc (blk_alloc hX (.cells #[.int .i64 wt] 3)) (.cells #[.bool false] 4))
  have BY := Sd.mk (blk_alloc (blk_alloc hY (.cells #[.int .i64 wt] 3)) (.cells #[.bool false] 4))
  have B3 := Sd.mk b1
  have B4 := Sd.mk b2
  have HB := Sd.mk hb0
  have HSZ := Sd.mk hsz
  have HR := Sd.mk hr
  have HN := Sd.mk hn
  have HLEN := Sd.mk hlen
  have HTH := Sd.mk hth
  clear b1 b2 hb0 hsz hr hn hlen hth hX hY
  refine (callsIn_wide (n := 9)).1 (callsIn_of_wp_marks Tryz.func194 rfl trivial ?_ rfl)
  simp only [Tryz.ntmps194, List.size_toArray, List.length_cons, List.length_nil, Nat.reduceAdd, Nat.reduceSub, Array.replicate_succ, Array.replicate_zero, List.push_toArray, List.append_toArray, List.nil_append, List.cons_append]
  have hx0 : ((w.alloc (.cells #[.int .i64 wt] 3)).alloc (.cells #[.bool false] 4)).cell? ⟨X, 0, none⟩ = some (.slice A zs.length c) := (blk_cell BX.out 0).trans rfl
  have hx1 : ((w.alloc (.cells #[.int .i64 wt] 3)).alloc (.cells #[.bool false] 4)).cell? ⟨X, 0 + 1, none⟩ = some (.int .i64 f1) := (blk_cell BX.out 1).trans rfl
  have hx2 : ((w.alloc (.cells #[.int .i64 wt] 3)).alloc (.cells #[.bool false] 4)).cell? ⟨X, 0 + 2, none⟩ = some (.int .i64 f2) := (blk_cell BX.out 2).trans rfl
  gi_wp2_with (first | (refine ⟨trivial, ?_⟩; gi_at_call 111; (with_reducible refine (callsIn_wide.2 (rings_b _ _ _ _)).mono ?_); rintro e w3 ⟨g, rfl, hg, hbk, hw3⟩; have I0 : Sd (LtI A c zs f1 f2 An cn ns wt X Y w g false w3) := ⟨⟨blk_below BX.out hw3, blk_below BY.out hw3, blk_below B3.out hw3, blk_below B4.out hw3, hbk, below_then HB.out HB.out.size hw3⟩⟩; have HG := Sd.mk (show w.heap.size + 1 < g from Nat.lt_of_lt_of_le (by rw [HSZ.out]; omega) hg); have HG3 := Sd.mk (show g < w3.heap.size from blk_lt hbk); clear hbk hw3 hg))
  clear hx0 hx1 hx2 BX BY B3 B4 HB
  refine wpIn_rangeFuncR (N := zs.length) (encs := fun k => #[.int .i64 (k : Int), ringV (rd_T92 zs k)]) rfl (by omega) (gf := 187) (lb := #[.pointer (some ⟨g, 0, none⟩)]) rfl trivial (enters_of Tryz.func187 (by kernel_rfl) rfl) (fun _ => rfl)
    (fun k W => LtI A c zs f1 f2 An cn ns wt X Y w g false W ∧ enoughB lo ns k = true) (fun W => LtI A c zs f1 f2 An cn ns wt X Y w g false W ∧ enoughB lo ns zs.length = false) (fun k W o h => ⟨h.1.alloc o, h.2⟩) (fun k W o r hl h => ⟨h.1.put o LX.out LY.out (by have := HG.out; have := HG3.out; omega) (by have := HG3.out; omega) (Array.getElem?_eq_some_iff.1 hl).1, h.2⟩) (fun W o r hl h => ⟨h.1.put o LX.out LY.out (by have := HG.out; have := HG3.out; omega) (by have := HG3.out; omega) (Array.getElem?_eq_some_iff.1 hl).1, h.2⟩) ⟨I0.out, rfl⟩ ?seq ?round ?done ?stop
  case seq =>
    intro l1 J Jx W hJa hJI hY h0
    exact rings1_inR Fence.wide (9 - 1) trivial rfl (by omega) l1 g A c _ _ zs J Jx W (hJI _ _ h0).1.rb hJa (fun k W' h => Kd.C_below HR.out (hJI _ _ h).1.be) hY h0
  case round =>
    clear I0
    intro l k W hW _ hk hI st hst
    have HI1 := Sd.mk hI.1
    have HE := Sd.mk hI.2
    have HW := Sd.mk hW
    have HK := Sd.mk hk
    have HSK := Sd.mk (HTH.out k hk)
    have HEX := Sd.mk (enoughB_mono lo ns (k + 1) · zs.length hk)
    have HES := Sd.mk (show enoughB lo ns (k + 1) = (enoughB lo ns k && !decide (lo k < rd ns (k : Int))) from rfl)
    obtain ⟨ad, eAn, hw0⟩ := Kd.at_int HN.out (k : Int) (by omega) (by have := HLEN.out; omega)
    cases eAn
    simp only [Int.toNat_natCast] at hw0
    have HW0 := Sd.mk hw0
    clear hI hW hk hw0
    generalize hx : rd_T92 zs (k : Int) = x at HSK ⊢
    generalize hy : rd ns (k : Int) = y at HW0 HES
    clear hx hy
    unfold ringV
    unfold ringV at HSK
    simp only [List.zip_cons_cons, List.zip_nil_right, List.foldl_cons, List.foldl_nil]
    gi_wp2
    refine hst _ _ (by simp) (fun j h1 h2 => Below.heap_alloc W _ j (by have := HW.out; omega)) ?_
    clear hst
    intro o
    have CK : Sd (LtI A c zs f1 f2 (some ad) cn ns wt X Y w g false ((W.alloc (.cells #[.int .i64 x.f0.f0, .int .i64 x.f0.f1, .int .i64 x.f1.f0, .int .i64 x.f1.f1, .int .i64 x.f2.f0, .int .i64 x.f2.f1, .int .i64 x.f3.f0, .int .i64 x.f3.f1, .int .i64 x.f4.f0, .int .i64 x.f4.f1] 92)).putObj (w3.heap.size + 1) o)) := ⟨(HI1.out.alloc _).put o LX.out LY.out (by have := HG.out; have := HG3.out; omega) (by have := HG3.out; omega) (by have := HW.out; simp; omega)⟩
    have RB : Sd (((W.alloc (.cells #[.int .i64 x.f0.f0, .int .i64 x.f0.f1, .int .i64 x.f1.f0, .int .i64 x.f1.f1, .int .i64 x.f2.f0, .int .i64 x.f2.f1, .int .i64 x.f3.f0, .int .i64 x.f3.f1, .int .i64 x.f4.f0, .int .i64 x.f4.f1] 92)).putObj (w3.heap.size + 1) o).heap[W.heap.size]? = some (.cells #[.int .i64 x.f0.f0, .int .i64 x.f0.f1, .int .i64 x.f1.f0, .int .i64 x.f1.f1, .int .i64 x.f2.f0, .int .i64 x.f2.f1, .int .i64 x.f3.f0, .int .i64 x.f3.f1, .int .i64 x.f4.f0, .int .i64 x.f4.f1] 92 (0, 0))) := ⟨putObj_heap_keep (by have := HW.out; omega) (blk_new _ _)⟩
    have WS : Sd (((W.alloc (.cells #[.int .i64 x.f0.f0, .int .i64 x.f0.f1, .int .i64 x.f1.f0, .int .i64 x.f1.f1, .int .i64 x.f2.f0, .int .i64 x.f2.f1, .int .i64 x.f3.f0, .int .i64 x.f3.f1, .int .i64 x.f4.f0, .int .i64 x.f4.f1] 92)).putObj (w3.heap.size + 1) o).heap.size = W.heap.size + 1) := ⟨by simp⟩
    generalize ((W.alloc (.cells #[.int .i64 x.f0.f0, .int .i64 x.f0.f1, .int .i64 x.f1.f0, .int .i64 x.f1.f1, .int .i64 x.f2.f0, .int .i64 x.f2.f1, .int .i64 x.f3.f0, .int .i64 x.f3.f1, .int .i64 x.f4.f0, .int .i64 x.f4.f1] 92)).putObj (w3.heap.size + 1) o) = Wb at CK RB WS ⊢
    have hmx : Tryz.prog.follows .mixedOrders = true := by kernel_rfl
    have hk1 : (k : Int) < (ns.length : Int) := by have := HK.out; have := HLEN.out; omega
    gi_wp2
    refine start_In (n := 11) (S := fun w' => LtI A c zs f1 f2 (some ad) cn ns wt X Y w g false w' ∧ w'.heap[W.heap.size]? = some (.cells #[.int .i64 x.f0.f0, .int .i64 x.f0.f1, .int .i64 x.f1.f0, .int .i64 x.f1.f1, .int .i64 x.f2.f0, .int .i64 x.f2.f1, .int .i64 x.f3.f0, .int .i64 x.f3.f1, .int .i64 x.f4.f0, .int .i64 x.f4.f1] 92 (0, 0))) (ds := []) #[false, false, false, false, false, false, false, false, false, false, false] hmx (by kernel_rfl) (fun ⟨_, _, h⟩ => h) rfl rfl ⟨CK.out.drew, RB.out⟩ (fun hHeld => ?_)
    refine with_tabW lig_tab lig_bits (fun HT_ HW_ => ?_)
    have CKd := Sd.mk CK.out.drew
    have BD : Sd (Below Wb.heap.size Wb Wb.drew) := ⟨below_drew (Below.refl _ _)⟩
    have hfd : ∀ (W : World), (Instr.field 27 (.agg #[.int .i64 (lo k), .int .i64 (hi k)]) 0).run Tryz.prog W = .ok (.int .i64 (lo k)) W := fun W => by kernel_rfl
    clear CK RB
    generalize Wb.drew = Wd at CKd BD hHeld ⊢
    refine take_ (i := 0) (N := some 11) (v := ?_) (a' := ?_) #[true, false, false, false, false, false, false, false, false, false, false] rfl rfl (take_ofW HT_.out HW_.out (by kernel_rfl)) (fun _ _ _ h => h) (Or.inl ⟨by rfl, ?_⟩) hHeld ?_ ?_
    rotate_left
    · rintro w' ⟨hI, hR⟩
      have s0 : w'.cell? ⟨W.heap.size, 0, none⟩ = some (.int .i64 x.f0.f0) := (blk_cell hR 0).trans rfl
      have s1 : w'.cell? ⟨W.heap.size, 0 + 1, none⟩ = some (.int .i64 x.f0.f1) := (blk_cell hR 1).trans rfl
      have s2 : w'.cell? ⟨W.heap.size, 0 + 2, none⟩ = some (.int .i64 x.f1.f0) := (blk_cell hR 2).trans rfl
      have s3 : w'.cell? ⟨W.heap.size, 0 + 3, none⟩ = some (.int .i64 x.f1.f1) := (blk_cell hR 3).trans rfl
      have s4 : w'.cell? ⟨W.heap.size, 0 + 4, none⟩ = some (.int .i64 x.f2.f0) := (blk_cell hR 4).trans rfl
      have s5 : w'.cell? ⟨W.heap.size, 0 + 5, none⟩ = some (.int .i64 x.f2.f1) := (blk_cell hR 5).trans rfl
      have s6 : w'.cell? ⟨W.heap.size, 0 + 6, none⟩ = some (.int .i64 x.f3.f0) := (blk_cell hR 6).trans rfl
      have s7 : w'.cell? ⟨W.heap.size, 0 + 7, none⟩ = some (.int .i64 x.f3.f1) := (blk_cell hR 7).trans rfl
      have s8 : w'.cell? ⟨W.heap.size, 0 + 8, none⟩ = some (.int .i64 x.f4.f0) := (blk_cell hR 8).trans rfl
      have s9 : w'.cell? ⟨W.heap.size, 0 + 9, none⟩ = some (.int .i64 x.f4.f1) := (blk_cell hR 9).trans rfl
      go_simp
      with_reducible rfl
    rotate_left
    · simp only [Act.put, List.setIfInBounds_toArray, List.set_cons_zero, List.set_cons_succ, i64_w, i32_w]
      rfl
    refine take_ (i := 1) (N := some 12) (v := ?_) (a' := ?_) #[true, true, false, false, false, false, false, false, false, false, false] rfl rfl (take_ofW HT_.out HW_.out (by kernel_rfl)) (fun _ _ _ h => h) (Or.inl ⟨by rfl, ?_⟩) hHeld ?_ ?_
    rotate_left
    · rintro w' ⟨hI, hR⟩
      have s0 : w'.cell? ⟨w.heap.size, 0, none⟩ = some (.int .i64 wt) := (blk_cell hI.b3 0).trans rfl
      go_simp
      with_reducible rfl
    rotate_left
    · simp only [Act.put, List.setIfInBounds_toArray, List.set_cons_zero, List.set_cons_succ, i64_w, i32_w]
      rfl
    refine take_ (i := 2) (N := some 13) (v := ?_) (a' := ?_) #[true, true, true, false, false, false, false, false, false, false, false] rfl rfl (take_ofW HT_.out HW_.out (by kernel_rfl)) (fun _ _ _ h => h) (Or.inl ⟨by rfl, ?_⟩) hHeld ?_ ?_
    rotate_left
    · rintro w' ⟨hI, hR⟩
      have s0 : w'.cell? ⟨w.heap.size, 0, none⟩ = some (.int .i64 wt) := (blk_cell hI.b3 0).trans rfl
      go_simp
      with_reducible rfl
    rotate_left
    · simp only [Act.put, List.setIfInBounds_toArray, List.set_cons_zero, List.set_cons_succ, i64_w, i32_w]
      rfl
    refine pure_ (i := 3) (N := some 14) (v := ?_) (a' := ?_) #[true, true, true, true, false, false, false, false, false, false, false] rfl rfl (any_of HT_.out (by kernel_rfl)) (fun _ _ _ h => h) (Or.inl ⟨by rfl, ?_⟩) ?_ ?_
    rotate_left
    · intro w'
      go_simp
      with_reducible rfl
    rotate_left
    · simp only [Act.put, List.setIfInBounds_toArray, List.set_cons_zero, List.set_cons_succ, i64_w, i32_w]
      rfl
    refine take_ (i := 6) (N := some 17) (v := ?_) (a' := ?_) #[true, true, true, true, false, false, true, false, false, false, false] rfl rfl (take_ofW HT_.out HW_.out (by kernel_rfl)) (fun _ _ _ h => h) (Or.inl ⟨by rfl, ?_⟩) hHeld ?_ ?_
    rotate_left
    · rintro w' ⟨hI, hR⟩
      have s0 : w'.cell? ⟨Y, 0, none⟩ = some (.slice (some ad) ns.length cn) := (blk_cell hI.by' 0).trans rfl
      go_simp
      with_reducible rfl
    rotate_left
    · simp only [Act.put, List.setIfInBounds_toArray, List.set_cons_zero, List.set_cons_succ, i64_w, i32_w]
      rfl
    refine pure_ (i := 7) (N := some 18) (v := ?_) (a' := ?_) #[true, true, true, true, false, false, true, true, false, false, false] rfl rfl (any_of HT_.out (by kernel_rfl)) (fun _ _ _ h => h) (Or.inl ⟨by rfl, ?_⟩) ?_ ?_
    rotate_left
    · intro w'
      go_simp
      with_reducible rfl
    rotate_left
    · simp only [Act.put, List.setIfInBounds_toArray, List.set_cons_zero, List.set_cons_succ, i64_w, i32_w]
      rfl
    refine pure_ (i := 8) (N := some 19) (v := ?_) (a' := ?_) #[true, true, true, true, false, false, true, true, true, false, false] rfl rfl (any_of HT_.out (by kernel_rfl)) (fun _ _ _ h => h) (Or.inl ⟨by rfl, ?_⟩) ?_ ?_
    rotate_left
    · intro w'
      go_simp
      with_reducible rfl
    rotate_left
    · simp only [Act.put, List.setIfInBounds_toArray, List.set_cons_zero, List.set_cons_succ, i64_w, i32_w]
      rfl
    refine take_ (i := 9) (N := some 20) (v := ?_) (a' := ?_) #[true, true, true, true, false, false, true, true, true, true, false] rfl rfl (take_ofW HT_.out HW_.out (by kernel_rfl)) (fun _ _ _ h => h) (Or.inl ⟨by rfl, ?_⟩) hHeld ?_ ?_
    rotate_left
    · rintro w' ⟨hI, hR⟩
      have s0 : w'.cell? (ad.add k) = some (.int .i64 y) := (hI.be.cell (World.block_lt_of_cell? w _ HW0.out)).trans HW0.out
      go_simp
      with_reducible rfl
    rotate_left
    · simp only [Act.put, List.setIfInBounds_toArray, List.set_cons_zero, List.set_cons_succ, i64_w, i32_w]
      rfl
    refine one_ (i := 4) (N := some 15) #[true, true, true, true, true, false, true, true, true, true, false] rfl rfl (one_of HT_.out (by kernel_rfl)) (by decide) (fun K hK => ?_)
    refine goes_ Tryz.func156 (by kernel_rfl) rfl #[.agg #[.int .i64 x.f0.f0, .int .i64 x.f0.f1, .int .i64 x.f1.f0, .int .i64 x.f1.f1, .int .i64 x.f2.f0, .int .i64 x.f2.f1, .int .i64 x.f3.f0, .int .i64 x.f3.f1, .int .i64 x.f4.f0, .int .i64 x.f4.f1], .agg #[.int .i64 wt, .int .i64 wt]] (by (try simp only [Array.map_toArray, List.map_toArray, List.map_cons, List.map_nil]); rfl) rfl rfl (by (try simp only [List.map_toArray, List.map_cons, List.map_nil]); first | done | rfl) ?_
    refine (HSK.out _).mono ?_
    rintro e w4 ⟨rfl, hb⟩
    refine ⟨_, rfl, ?_⟩
    obtain ⟨hI, hR⟩ := hHeld
    have I4 := Sd.mk (hI.step hb)
    have BD4 := Sd.mk (below_then BD.out BD.out.size hb)
    have R4 := Sd.mk (blk_below hR hb)
    clear hb hI hR
    refine hK.out _ _ ⟨I4.out, R4.out⟩ (fun hHeld => ?_)
    clear hK K
    refine norm_ (a' := ?_) ?_ ?_
    rotate_left
    · show Act.put _ (some 15) _ = _
      simp only [Act.put, List.setIfInBounds_toArray, List.set_cons_zero, List.set_cons_succ, i64_w, i32_w]
      rfl
    refine pure_ (i := 5) (N := some 16) (v := ?_) (a' := ?_) #[true, true, true, true, true, true, true, true, true, true, false] rfl rfl (any_of HT_.out (by kernel_rfl)) (fun _ _ _ h => h) (Or.inl ⟨by rfl, ?_⟩) ?_ ?_
    rotate_left
    · intro w'
      go_simp
      with_reducible rfl
    rotate_left
    · simp only [Act.put, List.setIfInBounds_toArray, List.set_cons_zero, List.set_cons_succ, i64_w, i32_w]
      rfl
    refine pure_ (i := 10) (N := some 21) (v := ?_) (a' := ?_) #[true, true, true, true, true, true, true, true, true, true, true] rfl rfl (any_of HT_.out (by kernel_rfl)) (fun _ _ _ h => h) (Or.inl ⟨by rfl, ?_⟩) ?_ ?_
    rotate_left
    · intro w'
      go_simp
      with_reducible rfl
    rotate_left
    · simp only [Act.put, List.setIfInBounds_toArray, List.set_cons_zero, List.set_cons_succ, i64_w, i32_w]
      rfl
    refine done_ (done_of HT_.out (by kernel_rfl)) ?_
    have hm := HG.out
    have hg3 := HG3.out
    have same : ∀ j, w3.heap.size ≤ j → j < w3.heap.size + 2 → w4.heap[j]? = Wb.heap[j]? := fun j h1 h2 => BD4.out.block j (by have := WS.out; have := HW.out; omega)
    have SAME := Sd.mk same
    clear same hHeld HT_ HW_
    by_cases hlt : lo k < y
    · have hd : decide (lo k < y) = true := decide_eq_true hlt
      have c4 : w4.cell? ⟨w.heap.size + 1, 0, none⟩ = some (.bool false) := (blk_cell I4.out.b4 0).trans rfl
      have f4 := blk_frozen I4.out.b4 0
      gi_wp2
      refine ⟨by simpa using BD4.out.size, fun j h1 h2 => (Below.heap_setCell _ _ _ j (by dsimp only; omega)).trans (SAME.out j h1 h2), I4.out.set LX.out LY.out hm false, HEX.out (by rw [HES.out, hd]; simp)⟩
    · have hd : decide (lo k < y) = false := decide_eq_false hlt
      gi_wp2
      exact ⟨BD4.out.size, SAME.out, I4.out, by rw [HES.out, HE.out, hd]; rfl⟩
  case done =>
    rintro W ⟨hI, hE⟩ hD
    have HI2 := Sd.mk hI
    have HD := Sd.mk hD
    have c4 : W.cell? ⟨w.heap.size + 1, 0, none⟩ = some (.bool false) := (blk_cell hI.b4 0).trans rfl
    have f4 := blk_frozen hI.b4 0
    have HE := Sd.mk hE
    clear hI hD I0 hE
    gi_wp2
    have hm := HG.out
    have hg3 := HG3.out
    have hi2 := HI2.out.set LX.out LY.out hm true
    have hD2 := (Below.heap_setCell W ⟨w.heap.size + 1, 0, none⟩ (.bool true) w3.heap.size (by dsimp only; omega)).trans HD.out
    have hlt : w3.heap.size < (W.setCell ⟨w.heap.size + 1, 0, none⟩ (.bool true)).heap.size := (Array.getElem?_eq_some_iff.1 hD2).1
    refine ⟨by simp, .inl ⟨_, _, rfl, run_takeDeferred hD2, ?_⟩⟩
    exact ⟨_, results_b rfl _ _ (w.heap.size + 1) true rfl (putObj_heap_keep (by omega) hi2.b4), by rw [HE.out], below_putObj hi2.be (by omega) hlt⟩
  case stop =>
    rintro W ⟨hI, hE⟩ hD
    have HI2 := Sd.mk hI
    have HD := Sd.mk hD
    have HE := Sd.mk hE
    clear hI hD I0 hE
    gi_wp2
    have hm := HG.out
    have hg3 := HG3.out
    have hi2 := HI2.out
    have hlt : w3.heap.size < W.heap.size := (Array.getElem?_eq_some_iff.1 HD.out).1
    refine ⟨by simp, .inl ⟨_, _, rfl, run_takeDeferred HD.out, ?_⟩⟩
    exact ⟨_, results_b rfl _ _ (w.heap.size + 1) false rfl (putObj_heap_keep (by omega) hi2.b4), by rw [HE.out], below_putObj hi2.be (by omega) hlt⟩
end
section
def slices_Index_int_int.l0 : Nat → List Int → Int → Int → Int → Option (Int)
 | 0, _, _, _, _ => none
 | k + 1, x0, x1, x7, x8 => if x8 < x7 then (if 0 ≤ x8 then (if x8 < (x0.length : Int) then (if x1 = (rd x0 x8) then (some x8) else (slices_Index_int_int.l0 k x0 x1 x7 (wrap64 (x8 + 1)))) else (none)) else (none)) else (some (-1))
def slices_Index_int_int.f (k : Nat) (l0 : List Int) (a1 : Int) : Option (Int) := slices_Index_int_int.l0 k l0 a1 (l0.length : Int) 0
theorem slices_Index_int_int.calls (k : Nat) (A0 : Option Addr) (c0 : Nat) (l0 : List Int) (a1 : Int) (r : Int) (w : World) (hr0 : Kd.C (Kd.int .i64) w A0 l0.length l0) (hc0 : l0.length ≤ c0) (h : slices_Index_int_int.f k l0 a1 = some r) :
  Calls Tryz.prog 217 #[.slice A0 l0.length c0, .int .i64 a1] w fun e w' => e = .returned (.int .i64 r) ∧ Drawn0 w w' := by
 have HR0 := Sd.mk hr0; have HC0 := Sd.mk hc0; clear hr0 hc0
 have H : (slices_Index_int_int.l0 k l0 a1 (l0.length : Int) 0) = some r := h
 clear h; have H' := Sd.mk H; clear H
 go_enter Tryz.func217, Tryz.ntmps217
 go_wp2
 go_loopg [8] k (fun kq v8 w' => ∃ (x8_1 : Int), v8 = .int .i64 x8_1 ∧ Sd (slices_Index_int_int.l0 kq l0 a1 (l0.length : Int) x8_1 = some r) ∧ Sd (kq ≤ k) ∧ Drawn0 w w')
 case atStart => exact ⟨(0), tS, H', ⟨Nat.le_refl _⟩, by repeat (first | exact Drawn0.refl _ | apply Drawn0.step)⟩
 case round =>
  clear H'; (try clear c2); (try clear p2)
  obtain ⟨x8_1, rfl, HA, HK1, ⟨m1, rfl⟩⟩ := hrel
  cases gk with
  | zero => exact absurd HA.out (by simp [slices_Index_int_int.l0])
  | succ k1 =>
   have H := HA.out; clear HA
   simp only [slices_Index_int_int.l0] at H
   by_cases c3 : x8_1 < (l0.length : Int)
   ·rw [if_pos c3] at H
    have c3b0 : decide (x8_1 < (l0.length : Int)) = true := decide_eq_true c3
    clear c3
    by_cases c4 : 0 ≤ x8_1
    ·rw [if_pos c4] at H
     have c4b0 : decide (0 ≤ x8_1) = true := decide_eq_true c4
     clear c4
     by_cases c5 : x8_1 < (l0.length : Int)
     ·rw [if_pos c5] at H
      have c5b0 : decide (x8_1 < (l0.length : Int)) = true := decide_eq_true c5
      clear c5
      by_cases c6 : a1 = (rd l0 x8_1)
      ·rw [if_pos c6] at H
       have c6b0 : (a1 == (rd l0 x8_1)) = true := beq_iff_eq.mpr c6
       have c6b1 : (a1 != (rd l0 x8_1)) = false := bne_eq_false_iff_eq.mpr c6
       clear c6; obtain rfl := Option.some.inj H
       have p501 : 0 ≤ (x8_1 : Int) := tB
       have q501 : x8_1 < (l0.length : Int) := tB
       obtain ⟨ad501, e501, hx501_0⟩ := Kd.at_int HR0.out x8_1 p501 q501; cases e501; replace p501 := eq_true p501; replace q501 := eq_true q501
       go_wp2
       go_ret
       exact ⟨by first | rfl | (simp; done) | (simp [*]; done), by repeat (first | exact Drawn0.refl _ | apply Drawn0.step)⟩
      ·rw [if_neg c6] at H
       have c6b0 : (a1 == (rd l0 x8_1)) = false := beq_eq_false_iff_ne.mpr c6
       have c6b1 : (a1 != (rd l0 x8_1)) = true := bne_iff_ne.mpr c6
       have H' := Sd.mk H; clear H
       have p501 : 0 ≤ (x8_1 : Int) := tB
       have q501 : x8_1 < (l0.length : Int) := tB
       obtain ⟨ad501, e501, hx501_0⟩ := Kd.at_int HR0.out x8_1 p501 q501; cases e501; replace p501 := eq_true p501; replace q501 := eq_true q501
       go_wp2
       go_roundg k1
       case measure => have := HK1.out; omega
       case rel => exact ⟨(wrap64 (x8_1 + 1)), tS, H', ⟨by have := HK1.out; omega⟩, by repeat (first | exact Drawn0.refl _ | apply Drawn0.step)⟩
     ·rw [if_neg c5] at H
      exact absurd H (by simp)
    ·rw [if_neg c4] at H
     exact absurd H (by simp)
   ·rw [if_neg c3] at H
    have c3b0 : decide (x8_1 < (l0.length : Int)) = false := decide_eq_false c3
    clear c3; obtain rfl := Option.some.inj H
    go_wp2
    go_ret
    exact ⟨by first | rfl | (simp; done) | (simp [*]; done), by repeat (first | exact Drawn0.refl _ | apply Drawn0.step)⟩
end
section
def slices_Contains_int_int.f (k : Nat) (l0 : List Int) (a1 : Int) : Option (Bool) := (slices_Index_int_int.f k l0 a1).bind fun t502 => (some (decide (t502 ≥ 0)))
theorem slices_Contains_int_int.calls (k : Nat) (A0 : Option Addr) (c0 : Nat) (l0 : List Int) (a1 : Int) (r : Bool) (w : World) (hr0 : Kd.C (Kd.int .i64) w A0 l0.length l0) (hc0 : l0.length ≤ c0) (h : slices_Contains_int_int.f k l0 a1 = some r) :
  Calls Tryz.prog 193 #[.slice A0 l0.length c0, .int .i64 a1] w fun e w' => e = .returned (.bool r) ∧ Drawn0 w w' := by
 have HR0 := Sd.mk hr0; have HC0 := Sd.mk hc0; clear hr0 hc0
 have H : ((slices_Index_int_int.f k l0 a1).bind fun t502 => (some (decide (t502 ≥ 0)))) = some r := h
 clear h; replace H := Option.bind_eq_some_iff.mp H; obtain ⟨t502, A30, H⟩ := H
 try dsimp only at H
 have A3 := Sd.mk A30; clear A30; obtain rfl := Option.some.inj H
 go_enter Tryz.func193, Tryz.ntmps193
 go_wp2_with (first | ((with_reducible refine gate_callee (f := 217) rfl ?_); refine goesL_ (some 7) rfl rfl Tryz.func217 (by kernel_rfl) rfl #[.slice A0 l0.length c0, .int .i64 a1] rfl tM ?_; (with_reducible refine (slices_Index_int_int.calls k _ _ l0 a1 t502 _ ?side1 ?side2 A3.out).mono ?_); (case side1 => repeat (first | exact HR0.out | (with_reducible refine Kd.C_alloc ?_ _) | (with_reducible refine Kd.C_drewN ?_ _) | (with_reducible refine Kd.C_drew ?_))); (case side2 => exact HC0.out); rintro e w' ⟨rfl, ⟨nd, rfl⟩⟩; refine ⟨_, rfl, ?_⟩))
 go_ret
 exact ⟨by first | rfl | (simp; done) | (simp [*]; done), by repeat (first | exact Drawn0.refl _ | apply Drawn0.step)⟩
end
section
open Go.RowKit Go.Shelf Go.Proofs.YtljfljekcpdpiaaGreatW.PrintWords Go.Proofs.YtljfljekcpdpiaaGreatW.PrintLast Go.Proofs.YtljfljekcpdpiaaGreatW.PrintMore
attribute [local go_sem] Oper.semAt_some
def lightV (n : Int) : Int := if n > 100000 then 0 else n
theorem lt_n : wrap64 (wrap64 (100000 - 1) + 1) = ((100000 : Nat) : Int) := by
  rw [wsmall (x := 100000 - 1) (by omega) (by omega), wsmall (by omega) (by omega)]; omega
theorem lightest_calls (A : Option Addr) (c : Nat) (zs : List S92) (f1 f2 pr fo sp ot m : Int) (lo hi : Nat → Nat → Int) (cs : Nat → Nat) (tl th : Nat → Nat → Int) (c2 kc : Nat) (w : World) (hr : Kd.C k92 w A zs.length zs) (hlen : zs.length ≤ 24)
    (hlim : ∀ W, Calls Tryz.prog 191 #[.agg #[.slice A zs.length c, .int .i64 f1, .int .i64 f2]] W fun e w' => e = .returned (.int .i64 m) ∧ Below W.heap.size W w')
    (hst : ∀ k : Nat, k < zs.length → ∀ i : Nat, i < 2000 → ∀ W, Calls Tryz.prog 112 #[ringV (rd_T92 zs (k : Int)), .agg #[.int .i64 ((i : Int) + 1), .int .i64 ((i : Int) + 1)], loadVv pr fo sp ot] W fun e w' => e = .returned (.agg #[.int .i64 (lo k i), .int .i64 (hi k i)]) ∧ Below W.heap.size W w')
    (hts : ∀ k : Nat, k < zs.length → TurnsAt (fun i => decide (hi k i ≤ m)) 2000 (cs k))
    (hct : slices_Contains_int_int.f kc (needL (fun k => (cs k : Int) + 1) zs.length) 0 = some false)
    (hth : ∀ i : Nat, i < 100000 → ∀ k : Nat, k < zs.length → ∀ W, Calls Tryz.prog 156 #[ringV (rd_T92 zs (k : Int)), .agg #[.int .i64 ((i : Int) + 1), .int .i64 ((i : Int) + 1)]] W fun e w' => e = .returned (.agg #[.int .i64 (tl i k), .int .i64 (th i k)]) ∧ Below W.heap.size W w')
    (ht2 : TurnsAt (fun i => enoughB (tl i) (needL (fun k => (cs k : Int) + 1) zs.length) zs.length) 100000 c2) :
    Calls Tryz.prog 124 #[.agg #[.slice A zs.length c, .int .i64 f1, .int .i64 f2], .agg #[.int .i64 pr, .int .i64 fo, .int .i64 sp, .int .i64 ot]] w fun e w' => e = .returned (.int .i64 (lightV ((c2 : Int) + 1))) ∧ Below w.heap.size w w' := by
  have hmf := run_makeFunc_
  obtain ⟨b1, b2, hb0, hsz⟩ := blk_two w (.cells #[.slice A zs.length c, .int .i64 f1, .int .i64 f2] 73) (.cells #[.int .i64 pr, .int .i64 fo, .int .i64 sp, .int .i64 ot] 48)
  have BX := Sd.mk b1
  have BL := Sd.mk b2
  have HB := Sd.mk hb0
  have HR := Sd.mk hr
  have HCT := Sd.mk hct
  have HTH := Sd.mk hth
  have HT2 := Sd.mk ht2
  have HNL := Sd.mk (needL_len (fun k => (cs k : Int) + 1) zs.length)
  have HH := Sd.mk (fun W hr' => needed_calls A c zs f1 f2 pr fo sp ot m lo hi cs W hr' hlen hlim hst hts)
  clear b1 b2 hb0 hsz hr hlen hlim hst hts hct hth ht2
  generalize (needL (fun k => (cs k : Int) + 1) zs.length) = ns at HCT HT2 HNL HH
  generalize hnk : (c2 : Int) + 1 = nk
  have HNK := Sd.mk hnk
  clear hnk
  go_enter Tryz.func124, Tryz.ntmps124
  go_upto_region 2 with (first | (go_at_call 122; refine (HH.out _ (Kd.C_below HR.out HB.out)).mono ?_; rintro e w3 ⟨v3, rfl, hv3, hb3⟩; obtain ⟨An, cn, rfl, hcn, hCn⟩ := Kd.R_reads hv3; clear hv3; have HCN := Sd.mk (And.intro hcn hCn); have BX3 := Sd.mk (blk_below BX.out hb3); have HB3 := Sd.mk (below_then HB.out HB.out.size hb3); have HSZ3 := Sd.mk (show w.heap.size + 1 + 1 ≤ w3.heap.size from Nat.le_trans (by simp) hb3.size); clear hb3 hcn hCn))
  have BN := Sd.mk (blk_new w3 (.cells #[.slice An ns.length cn] 30))
  have BX4 := Sd.mk (blk_alloc BX3.out (.cells #[.slice An ns.length cn] 30))
  have HB4 := Sd.mk (below_alloc HB3.out (.cells #[.slice An ns.length cn] 30))
  have HC4 := Sd.mk (Kd.C_below HCN.out.2 (below_alloc (Below.refl w3.heap.size w3) (.cells #[.slice An ns.length cn] 30)))
  have HCN4 := Sd.mk HCN.out.1
  clear BX3 HB3 HCN
  generalize w3.alloc (.cells #[.slice An ns.length cn] 30) = W4 at BN BX4 HB4 HC4 ⊢
  have hn0 : W4.cell? ⟨w3.heap.size, 0, none⟩ = some (.slice An ns.length cn) := (blk_cell BN.out 0).trans rfl
  go_upto_region 4 with (first | (go_at_call 193; refine (slices_Contains_int_int.calls kc An cn ns 0 false _ HC4.out HCN4.out HCT.out).mono ?_; rintro e w5 ⟨rfl, hd5⟩; have hb5 := hd5.below; clear hd5; have BN5 := Sd.mk (blk_below BN.out hb5); have BX5 := Sd.mk (blk_below BX4.out hb5); have HB5 := Sd.mk (below_then HB4.out HB4.out.size hb5); have HC5 := Sd.mk (Kd.C_below HC4.out hb5); clear hb5))
  clear hn0 BN BX4 HB4 HC4
  have HC := Sd.mk ((first_calls 194 #[.pointer (some ⟨w.heap.size, 0, none⟩), .pointer (some ⟨w3.heap.size, 0, none⟩)] (enters_of Tryz.func194 (by kernel_rfl) rfl) 1 100000 100000 lt_n (by decide) _ c2 HT2.out w5 (fun W' i hW' hi' =>
      (show Calls Tryz.prog 194 #[.int .i64 (wrap64 (1 + (i : Int))), .pointer (some ⟨w.heap.size, 0, none⟩), .pointer (some ⟨w3.heap.size, 0, none⟩)] W' (fun e w' => e = .returned (.bool ((fun i => enoughB (tl i) ns zs.length) i)) ∧ Below W'.heap.size W' w') from by
        rw [show wrap64 (1 + (i : Int)) = (i : Int) + 1 from by rw [wsmall (by omega) (by omega)]; omega]
        exact light1_calls A c zs f1 f2 An cn ns ((i : Int) + 1) (tl i) (th i) _ _ W' (blk_below BX5.out hW') (blk_below BN5.out hW') (Kd.C_below HR.out (below_then HB5.out HB5.out.size hW')) (Kd.C_below HC5.out hW') HNL.out (HTH.out i hi')))).mono (fun e w' he => (show e = .returned (.int .i64 nk) ∧ Below w5.heap.size w5 w' from ⟨by rw [he.1, ← HNK.out, show wrap64 (1 + (c2 : Int)) = (c2 : Int) + 1 from by have := HT2.out.le; rw [wsmall (by omega) (by omega)]; omega], he.2⟩)))
  clear HTH HT2
  by_cases hgt : 100000 < nk
  · have hv : lightV nk = 0 := if_pos hgt
    have HV := Sd.mk hv
    clear hv
    go_wp2_with (first | (go_at_call 115; refine HC.out.mono ?_; rintro e w6 ⟨rfl, hb6⟩; have HB6 := Sd.mk (below_then HB5.out HB5.out.size hb6); clear hb6))
    go_ret
    exact ⟨congrArg (fun z => Ending.returned (.int .i64 z)) HV.out.symm, HB6.out⟩
  · have hv : lightV nk = nk := if_neg hgt
    have HV := Sd.mk hv
    clear hv
    go_wp2_with (first | (go_at_call 115; refine HC.out.mono ?_; rintro e w6 ⟨rfl, hb6⟩; have HB6 := Sd.mk (below_then HB5.out HB5.out.size hb6); clear hb6))
    go_ret
    exact ⟨congrArg (fun z => Ending.returned (.int .i64 z)) HV.out.symm, HB6.out⟩
theorem Lightest_ok (A : Option Addr) (c : Nat) (zs : List S92) (f1 f2 pr fo sp ot m : Int) (lo hi : Nat → Nat → Int) (cs : Nat → Nat) (tl th : Nat → Nat → Int) (c2 kc : Nat) (w : World) (hr : Kd.C k92 w A zs.length zs) (h0 : bottleV zs f1 f2 = 0) (h1 : loadB pr fo sp ot = true)
    (hlim : ∀ W, Calls Tryz.prog 191 #[.agg #[.slice A zs.length c, .int .i64 f1, .int .i64 f2]] W fun e w' => e = .returned (.int .i64 m) ∧ Below W.heap.size W w')
    (hst : ∀ k : Nat, k < zs.length → ∀ i : Nat, i < 2000 → ∀ W, Calls Tryz.prog 112 #[ringV (rd_T92 zs (k : Int)), .agg #[.int .i64 ((i : Int) + 1), .int .i64 ((i : Int) + 1)], loadVv pr fo sp ot] W fun e w' => e = .returned (.agg #[.int .i64 (lo k i), .int .i64 (hi k i)]) ∧ Below W.heap.size W w')
    (hts : ∀ k : Nat, k < zs.length → TurnsAt (fun i => decide (hi k i ≤ m)) 2000 (cs k))
    (hct : slices_Contains_int_int.f kc (needL (fun k => (cs k : Int) + 1) zs.length) 0 = some false)
    (hth : ∀ i : Nat, i < 100000 → ∀ k : Nat, k < zs.length → ∀ W, Calls Tryz.prog 156 #[ringV (rd_T92 zs (k : Int)), .agg #[.int .i64 ((i : Int) + 1), .int .i64 ((i : Int) + 1)]] W fun e w' => e = .returned (.agg #[.int .i64 (tl i k), .int .i64 (th i k)]) ∧ Below W.heap.size W w')
    (ht2 : TurnsAt (fun i => enoughB (tl i) (needL (fun k => (cs k : Int) + 1) zs.length) zs.length) 100000 c2) :
    Calls Tryz.prog 40 #[.agg #[.slice A zs.length c, .int .i64 f1, .int .i64 f2], .agg #[.int .i64 pr, .int .i64 fo, .int .i64 sp, .int .i64 ot]] w fun e w' => e = .returned (.tuple #[.int .i64 (lightV ((c2 : Int) + 1)), .int .i64 0]) ∧ Below w.heap.size w w' := by
  have hmf := run_makeFunc_
  obtain ⟨b1, b2, b3, hb0, hsz⟩ := blk_three w (.cells #[.slice A zs.length c, .int .i64 f1, .int .i64 f2] 73) (.cells #[.int .i64 pr, .int .i64 fo, .int .i64 sp, .int .i64 ot] 48) (.cells #[.int .i64 0] 38)
  have BX := Sd.mk b1
  have BL := Sd.mk b2
  have BE := Sd.mk b3
  have HB := Sd.mk hb0
  have HR := Sd.mk hr
  have H0 := Sd.mk h0
  have H1 := Sd.mk h1
  have HH := Sd.mk (fun W hr' => lightest_calls A c zs f1 f2 pr fo sp ot m lo hi cs tl th c2 kc W hr' (bottle_len h0) hlim hst hts hct hth ht2)
  clear b1 b2 b3 hb0 hsz hr h0 h1 hlim hst hts hct hth ht2
  generalize lightV ((c2 : Int) + 1) = nv at HH ⊢
  go_enter_defers Tryz.func40, Tryz.ntmps40
  go_wp2_with (first | (go_at_call 120; refine (bottle_ok A c zs f1 f2 _ (Kd.C_below HR.out HB.out) H0.out).mono ?_; rintro e w1 ⟨rfl, hb1⟩; have BX1 := Sd.mk (blk_below BX.out hb1); have BL1 := Sd.mk (blk_below BL.out hb1); have BE1 := Sd.mk (blk_below BE.out hb1); have HB1 := Sd.mk (below_then HB.out HB.out.size hb1); clear hb1; have hq0 : w1.cell? ⟨w.heap.size + 1, 0, none⟩ = some (.int .i64 pr) := (blk_cell BL1.out 0).trans rfl; have hq1 : w1.cell? ⟨w.heap.size + 1, 0 + 1, none⟩ = some (.int .i64 fo) := (blk_cell BL1.out 1).trans rfl; have hq2 : w1.cell? ⟨w.heap.size + 1, 0 + 2, none⟩ = some (.int .i64 sp) := (blk_cell BL1.out 2).trans rfl; have hq3 : w1.cell? ⟨w.heap.size + 1, 0 + 3, none⟩ = some (.int .i64 ot) := (blk_cell BL1.out 3).trans rfl) | (go_at_call 121; refine (load_ok pr fo sp ot _ H1.out).mono ?_; rintro e w2 ⟨rfl, hb1⟩; have BX2 := Sd.mk (blk_below BX1.out hb1); have BL2 := Sd.mk (blk_below BL1.out hb1); have BE2 := Sd.mk (blk_below BE1.out hb1); have HB2 := Sd.mk (below_then HB1.out HB1.out.size hb1); clear hb1; have hx0 : w2.cell? ⟨w.heap.size, 0, none⟩ = some (.slice A zs.length c) := (blk_cell BX2.out 0).trans rfl; have hx1 : w2.cell? ⟨w.heap.size, 0 + 1, none⟩ = some (.int .i64 f1) := (blk_cell BX2.out 1).trans rfl; have hx2 : w2.cell? ⟨w.heap.size, 0 + 2, none⟩ = some (.int .i64 f2) := (blk_cell BX2.out 2).trans rfl; have hq0 : w2.cell? ⟨w.heap.size + 1, 0, none⟩ = some (.int .i64 pr) := (blk_cell BL2.out 0).trans rfl; have hq1 : w2.cell? ⟨w.heap.size + 1, 0 + 1, none⟩ = some (.int .i64 fo) := (blk_cell BL2.out 1).trans rfl; have hq2 : w2.cell? ⟨w.heap.size + 1, 0 + 2, none⟩ = some (.int .i64 sp) := (blk_cell BL2.out 2).trans rfl; have hq3 : w2.cell? ⟨w.heap.size + 1, 0 + 3, none⟩ = some (.int .i64 ot) := (blk_cell BL2.out 3).trans rfl) | (go_at_call 124; refine (HH.out _ (Kd.C_below HR.out HB2.out)).mono ?_; rintro e w3 ⟨rfl, hb3⟩; have BE3 := Sd.mk (blk_below BE2.out hb3); have HB3 := Sd.mk (below_then HB2.out HB2.out.size hb3); clear hb3; have he0 : w3.cell? ⟨w.heap.size + 1 + 1, 0, none⟩ = some (.int .i64 0) := (blk_cell BE3.out 0).trans rfl; have he1 := blk_frozen BE3.out 0))
  refine leaves_cons (f := 123) (args := #[.pointer (some ⟨w.heap.size + 1 + 1, 0, none⟩)]) (by simp) (by simp [go_sem]) ?_
  refine (door123_ok _ _).mono ?_
  rintro e u' w'' ⟨rfl, rfl, rfl⟩
  exact ⟨_, results_te rfl _ _ (w.heap.size + 1 + 1) 0 rfl (blk_put BE3.out 0 _ rfl), rfl, below_set HB3.out (by omega)⟩
end
section
open Go.RowKit Go.Shelf Go.Proofs.YtljfljekcpdpiaaGreatW.PrintWords Go.Proofs.YtljfljekcpdpiaaGreatW.PrintLast Go.Proofs.YtljfljekcpdpiaaGreatW.PrintMore
attribute [local go_sem] Oper.semAt_some
def ring0 : S92 := ⟨⟨300, 300⟩, ⟨1000, 1000⟩, ⟨1000, 1000⟩, ⟨1000, 1000⟩, ⟨500, 500⟩⟩
theorem limM_ex : limM 10 40000000000 = 63245 := by
  have e : wrap64 (Int.tdiv 40000000000 10) = 4000000000 := by kernel_rfl
  have H := limC_spec 4000000000
  have key : limC 4000000000 = 63246 := by
    rcases Nat.lt_trichotomy (limC 4000000000) 63246 with h | h | h
    · have h1 := H.hi 63245 (by omega) (by omega)
      simp [limP] at h1
    · exact h
    · have h1 := H.lo 63246 h
      simp [limP] at h1
  unfold limM
  rw [e, key]
  exact (show wrap64 (wrap64 (0 + ((63246 : Nat) : Int)) - 1) = 63245 by kernel_rfl)
theorem limit_ex (A : Option Addr) (c : Nat) (W : World) : Calls Tryz.prog 191 #[.agg #[.slice A [ring0].length c, .int .i64 10, .int .i64 40000000000]] W fun e w' => e = .returned (.int .i64 63245) ∧ Below W.heap.size W w' := by
  have h := limit_calls A c [ring0] 10 40000000000 (by decide) W
  rw [limM_ex] at h
  exact h
def fn3 (a b c : Int) : Nat → Int
  | 0 => a
  | 1 => b
  | 2 => c
  | _ => 0
theorem forall4 {p : Nat → Prop} (h0 : p 0) (h1 : p 1) (h2 : p 2) (h3 : p 3) : ∀ k, k < 4 → p k
  | 0, _ => h0
  | 1, _ => h1
  | 2, _ => h2
  | 3, _ => h3
theorem accP0 (a : Int) (h0 : 0 ≤ a) (h1 : a ≤ 1000000000000) : accP (fn3 a 0 0) 4 = a := by
  have e : wrap64 a = a := wsmall (by omega) (by omega)
  simp [accP, fn3, e]
def needHi (i : Nat) : Int := (300000000 + (100 * ((i : Int) + 1)) - 1) / (100 * ((i : Int) + 1))
def needLo (i : Nat) : Int := 300000000 / (100 * ((i : Int) + 1))
theorem needHi_turn : ∀ k : Nat, k < [ring0].length → TurnsAt (fun i => decide (needHi i ≤ 63245)) 2000 47 := fun _ _ =>
  ⟨by omega, fun t ht => by
    refine decide_eq_false ?_
    have : 63246 ≤ needHi t := (Int.le_ediv_iff_mul_le (by omega)).2 (by omega)
    omega, fun t h1 h2 => by
    refine decide_eq_true ?_
    have : needHi t < 63246 := Int.ediv_lt_of_lt_mul (by omega) (by omega)
    omega⟩
theorem stress_need (i : Nat) (hi : i < 2000) (W : World) : Calls Tryz.prog 112 #[ringV ring0, .agg #[.int .i64 ((i : Int) + 1), .int .i64 ((i : Int) + 1)], loadVv 1000 0 0 0] W fun e w' => e = .returned (.agg #[.int .i64 (needLo i), .int .i64 (needHi i)]) ∧ Below W.heap.size W w' := by
  have a0 : 0 ≤ needLo i := Int.ediv_nonneg (by decide) (by omega)
  have a1 : needLo i ≤ 300000000 := Int.ediv_le_self _ (by decide)
  have b0 : 0 ≤ needHi i := Int.ediv_nonneg (by omega) (by omega)
  have b1 : needHi i ≤ 300000000 + (100 * ((i : Int) + 1)) - 1 := Int.ediv_le_self _ (by omega)
  have h := stress_calls ring0 ⟨(i : Int) + 1, (i : Int) + 1⟩ 1000 0 0 0 (fn3 (needLo i) 0 0) (fn3 (needHi i) 0 0) W (forall4 (by
    show st_parts_1.f 300 300 1000 1000 1000 1000 1000 1000 500 500 ((i : Int) + 1) ((i : Int) + 1) 1000 0 0 0 = _
    unfold st_parts_1.f st_down.f st_up.f
    rw [show wrap64 (wrap64 (1000 * 300) * 1000) = 300000000 from by kernel_rfl, wsmall (x := 100 * ((i : Int) + 1)) (by omega) (by omega), if_neg (by omega), if_neg (by omega), Int.tdiv_eq_ediv_of_nonneg (by omega), wsmall (x := 300000000 + 100 * ((i : Int) + 1)) (by omega) (by omega), wsmall (x := 300000000 + 100 * ((i : Int) + 1) - 1) (by omega) (by omega), Int.tdiv_eq_ediv_of_nonneg (by omega)]
    show (some (wrap64 (needLo i))).bind _ = _
    rw [wsmall (x := needLo i) (by omega) (by omega)]
    have q : wrap64 ((300000000 + 100 * ((i : Int) + 1) - 1) / (100 * ((i : Int) + 1))) = needHi i := wsmall (x := needHi i) (by omega) (by omega)
    rw [q]
    rfl) (by
    show st_parts_2.f 300 300 1000 1000 1000 1000 1000 1000 500 500 ((i : Int) + 1) ((i : Int) + 1) 1000 0 0 0 = _
    unfold st_parts_2.f st_down.f st_up.f
    rw [show wrap64 (wrap64 (500000 * 0) * 113) = 0 from by kernel_rfl, show wrap64 (wrap64 (500000 * 0) * 106) = 0 from by kernel_rfl, show wrap64 (355 * 300) = 106500 from by kernel_rfl, show wrap64 (333 * 300) = 99900 from by kernel_rfl, wsmall (x := 106500 * ((i : Int) + 1)) (by omega) (by omega), wsmall (x := 99900 * ((i : Int) + 1)) (by omega) (by omega), if_neg (by omega), if_neg (by omega), Int.zero_tdiv, wsmall (x := 0 + 99900 * ((i : Int) + 1)) (by omega) (by omega), wsmall (x := 0 + 99900 * ((i : Int) + 1) - 1) (by omega) (by omega), Int.tdiv_eq_ediv_of_nonneg (by omega), Int.ediv_eq_zero_of_lt (by omega) (by omega), show wrap64 0 = 0 from by kernel_rfl]
    rfl) (by
    show st_parts_3.f 300 300 1000 1000 1000 1000 1000 1000 500 500 ((i : Int) + 1) ((i : Int) + 1) 1000 0 0 0 = _
    unfold st_parts_3.f st_down.f st_up.f
    rw [show wrap64 (500 * 0) = 0 from by kernel_rfl, if_neg (by omega), if_neg (by omega), Int.zero_tdiv, wsmall (x := 0 + ((i : Int) + 1)) (by omega) (by omega), wsmall (x := 0 + ((i : Int) + 1) - 1) (by omega) (by omega), Int.tdiv_eq_ediv_of_nonneg (by omega), Int.ediv_eq_zero_of_lt (by omega) (by omega), show wrap64 0 = 0 from by kernel_rfl]
    rfl) (by
    show st_parts_4.f 300 300 1000 1000 1000 1000 1000 1000 500 500 ((i : Int) + 1) ((i : Int) + 1) 1000 0 0 0 = _
    unfold st_parts_4.f
    rfl))
  rw [accP0 _ a0 (by omega), accP0 _ b0 (by omega)] at h
  exact h
def ligLo (i : Nat) : Int := 22600000 * ((i : Int) + 1) / 106500000
def ligHi (i : Nat) : Int := (21200000 * ((i : Int) + 1) + 99900000 - 1) / 99900000
theorem thick_ex (i : Nat) (hi : i < 100000) (W : World) : Calls Tryz.prog 156 #[ringV ring0, .agg #[.int .i64 ((i : Int) + 1), .int .i64 ((i : Int) + 1)]] W fun e w' => e = .returned (.agg #[.int .i64 (ligLo i), .int .i64 (ligHi i)]) ∧ Below W.heap.size W w' := by
  refine st_thickness.calls 300 300 1000 1000 1000 1000 1000 1000 500 500 ((i : Int) + 1) ((i : Int) + 1) (ligLo i) (ligHi i) W ?_
  unfold st_thickness.f st_down.f st_up.f ligLo ligHi
  rw [show wrap64 (wrap64 (355 * 300) * 1000) = 106500000 from by kernel_rfl, show wrap64 (wrap64 (333 * 300) * 1000) = 99900000 from by kernel_rfl, wsmall (x := 200 * ((i : Int) + 1)) (by omega) (by omega), wsmall (x := 200 * ((i : Int) + 1) * 1000) (by omega) (by omega), wsmall (x := 200 * ((i : Int) + 1) * 1000 * 113) (by omega) (by omega), wsmall (x := 200 * ((i : Int) + 1) * 1000 * 106) (by omega) (by omega), if_neg (by decide), if_neg (by decide), Int.tdiv_eq_ediv_of_nonneg (by omega), wsmall (x := 200 * ((i : Int) + 1) * 1000 * 106 + 99900000) (by omega) (by omega), wsmall (x := 200 * ((i : Int) + 1) * 1000 * 106 + 99900000 - 1) (by omega) (by omega), Int.tdiv_eq_ediv_of_nonneg (by omega), wsmall (x := 200 * ((i : Int) + 1) * 1000 * 113 / 106500000) (by omega) (by omega), wsmall (x := (200 * ((i : Int) + 1) * 1000 * 106 + 99900000 - 1) / 99900000) (by omega) (by omega)]
  have e1 : 200 * ((i : Int) + 1) * 1000 * 113 / 106500000 = 22600000 * ((i : Int) + 1) / 106500000 := by omega
  have e2 : (200 * ((i : Int) + 1) * 1000 * 106 + 99900000 - 1) / 99900000 = (21200000 * ((i : Int) + 1) + 99900000 - 1) / 99900000 := by omega
  rw [e1, e2]
  generalize 22600000 * ((i : Int) + 1) / 106500000 = q1
  generalize (21200000 * ((i : Int) + 1) + 99900000 - 1) / 99900000 = q2
  rfl
theorem lig_turn : TurnsAt (fun i => enoughB (fun _ => ligLo i) [48] 1) 100000 226 :=
  ⟨by omega, fun t ht => by
    have : ligLo t < 48 := by unfold ligLo; omega
    show (true && !decide (ligLo t < rd [48] ((0 : Nat) : Int))) = false
    rw [show rd [48] ((0 : Nat) : Int) = 48 from rfl, decide_eq_true this]; rfl, fun t h1 h2 => by
    have : ¬ ligLo t < 48 := by unfold ligLo; omega
    show (true && !decide (ligLo t < rd [48] ((0 : Nat) : Int))) = true
    rw [show rd [48] ((0 : Nat) : Int) = 48 from rfl, decide_eq_false this]; rfl⟩
theorem Lightest_x (A : Option Addr) (c : Nat) (w : World) (hr : Kd.C k92 w A [ring0].length [ring0]) :
    Calls Tryz.prog 40 #[.agg #[.slice A 1 c, .int .i64 10, .int .i64 40000000000], .agg #[.int .i64 1000, .int .i64 0, .int .i64 0, .int .i64 0]] w fun e w' => e = .returned (.tuple #[.int .i64 227, .int .i64 0]) ∧ Below w.heap.size w w' :=
  Lightest_ok A c [ring0] 10 40000000000 1000 0 0 0 63245 (fun _ i => needLo i) (fun _ i => needHi i) (fun _ => 47) (fun i _ => ligLo i) (fun i _ => ligHi i) 226 5 w hr (by kernel_rfl) (by kernel_rfl) (limit_ex A c) (fun k hk i hi W => by
    obtain rfl : k = 0 := by simpa using hk
    exact stress_need i hi W) needHi_turn (by kernel_rfl) (fun i hi k hk W => by
    obtain rfl : k = 0 := by simpa using hk
    exact thick_ex i hi W) lig_turn
end
section
def l5_exact.f (a0 : Int) : Option (Int × Int) := some (a0, a0)
theorem l5_exact.calls (a0 : Int) (r1 : Int) (r2 : Int) (w : World) (h : l5_exact.f a0 = some (r1, r2)) :
  Calls Tryz.prog 108 #[.int .i64 a0] w fun e w' => e = .returned (.agg #[.int .i64 r1, .int .i64 r2]) ∧ Below w.heap.size w w' := by
 have hu27 := Tryz.underlying27; have HB := Sd.mk (Below.refl w.heap.size w)
 have H : (some (a0, a0)) = some (r1, r2) := h
 clear h
 simp only [Option.some.injEq, Prod.mk.injEq] at H
 obtain ⟨rfl, rfl⟩ := H
 go_enter Tryz.func108, Tryz.ntmps108
 go_wp2_with (first | ((with_reducible refine gate_dst (N := 2) rfl ?_); refine box_event ?hg (N := 2) ?hd (cs := #[.int .i64 0, .int .i64 0]) (t := 27) ?hr ?_; (case hd => rfl); (case hg => rfl); (case hr => exact tG); intro gb343 hg w2 hbox hb; have BK343 := Sd.mk (hbox); have GW343 := Sd.mk (bSz hg (bBl HB.out)); have GE343 := Sd.mk (bSz hg (bBl HB.out)); replace HB := Sd.mk (below_step (bBl HB.out) hb); clear hb hbox hg; obtain ⟨u3_0, u3_1, o3_0, o3_1⟩ := bc2 (w := w2) BK343.out))
 refine bodyPost_ret (results_cell_row rfl _ _ gb343 27 #[.int .i64 a0, .int .i64 a0] (0, 0) _ rfl (by refine bkZ ?_; refine blk_put (cs := #[.int .i64 a0, .int .i64 0]) ?_ 1 _ rfl; refine bkZ ?_; refine blk_put (cs := #[.int .i64 0, .int .i64 0]) ?_ 0 _ rfl; refine bkZ ?_; exact BK343.out) Tryz.underlying27 rfl (by kernel_rfl)) rfl ?_
 exact ⟨tE, bBl HB.out⟩
end
section
def l5_Example.f  : Option ((List (S92)) × Int × Int) := (l5_exact.f 300).bind fun bt345 => ((l5_exact.f 1000).bind fun bt347 => ((l5_exact.f 1000).bind fun bt349 => ((l5_exact.f 1000).bind fun bt351 => ((l5_exact.f 500).bind fun bt353 => (some ((([(⟨(⟨bt345.1, bt345.2⟩ : S27), (⟨bt347.1, bt347.2⟩ : S27), (⟨bt349.1, bt349.2⟩ : S27), (⟨bt351.1, bt351.2⟩ : S27), (⟨bt353.1, bt353.2⟩ : S27)⟩ : S92)] : List (S92))), 10, 40000000000))))))
theorem l5_Example.calls  (r1 : List (S92)) (r2 : Int) (r3 : Int) (w : World) (h : l5_Example.f  = some (r1, r2, r3)) :
  Calls Tryz.prog 36 #[] w fun e w' => ∃ v0_ : Value, e = .returned (.agg #[v0_, .int .i64 r2, .int .i64 r3]) ∧ Kd.R k92 92 w' w.heap.size (fun _ => True) v0_ r1 ∧ Below w.heap.size w w' := by
 have hu73 := Tryz.underlying73; have hu92 := Tryz.underlying92; have HB := Sd.mk (Below.refl w.heap.size w)
 have H : ((l5_exact.f 300).bind fun bt345 => ((l5_exact.f 1000).bind fun bt347 => ((l5_exact.f 1000).bind fun bt349 => ((l5_exact.f 1000).bind fun bt351 => ((l5_exact.f 500).bind fun bt353 => (some ((([(⟨(⟨bt345.1, bt345.2⟩ : S27), (⟨bt347.1, bt347.2⟩ : S27), (⟨bt349.1, bt349.2⟩ : S27), (⟨bt351.1, bt351.2⟩ : S27), (⟨bt353.1, bt353.2⟩ : S27)⟩ : S92)] : List (S92))), 10, 40000000000))))))) = some (r1, r2, r3) := h
 clear h; replace H := Option.bind_eq_some_iff.mp H
 obtain ⟨⟨t345, t346⟩, A10, H⟩ := H
 try dsimp only at H
 have A1 := Sd.mk A10; clear A10; replace H := Option.bind_eq_some_iff.mp H
 obtain ⟨⟨t347, t348⟩, A20, H⟩ := H
 try dsimp only at H
 have A2 := Sd.mk A20; clear A20; replace H := Option.bind_eq_some_iff.mp H
 obtain ⟨⟨t349, t350⟩, A30, H⟩ := H
 try dsimp only at H
 have A3 := Sd.mk A30; clear A30; replace H := Option.bind_eq_some_iff.mp H
 obtain ⟨⟨t351, t352⟩, A40, H⟩ := H
 try dsimp only at H
 have A4 := Sd.mk A40; clear A40; replace H := Option.bind_eq_some_iff.mp H
 obtain ⟨⟨t353, t354⟩, A50, H⟩ := H
 try dsimp only at H
 have A5 := Sd.mk A50; clear A50
 obtain ⟨y355, hy355⟩ : ∃ y_ : List (S92), y_ = (([(⟨(⟨t345, t346⟩ : S27), (⟨t347, t348⟩ : S27), (⟨t349, t350⟩ : S27), (⟨t351, t352⟩ : S27), (⟨t353, t354⟩ : S27)⟩ : S92)] : List (S92))) := ⟨_, rfl⟩
 replace H : (some (y355, 10, 40000000000)) = some (r1, r2, r3) := by first | (rw [hy355]; with_reducible exact H) | (have H2_ := (Option.bind_some _ _).symm.trans H; rw [hy355]; with_reducible exact H2_) | (have H2_ := (Option.bind_some _ _).symm.trans H; with_reducible exact H2_) | with_reducible exact H | (rw [hy355]; exact H) | exact H
 have Ny355 := Sd.mk hy355; clear hy355
 simp only [Option.some.injEq, Prod.mk.injEq] at H
 obtain ⟨rfl, rfl, rfl⟩ := H
 go_enter Tryz.func36, Tryz.ntmps36
 go_wp2_with (first | ((with_reducible refine gate_dst (N := 0) rfl ?_); refine box_event ?hg (N := 0) ?hd (cs := #[.slice none 0 0, .int .i64 0, .int .i64 0]) (t := 73) ?hr ?_; (case hd => rfl); (case hg => rfl); (case hr => exact tG); intro gb344 hg w6 hbox hb; have BK344 := Sd.mk (hbox); have GW344 := Sd.mk (bSz hg (bBl HB.out)); have GE344 := Sd.mk (bSz hg (bBl HB.out)); replace HB := Sd.mk (below_step (bBl HB.out) hb); clear hb hbox hg) | ((with_reducible refine gate_callee (f := 108) rfl ?_); refine goesL_ (some 1) rfl rfl Tryz.func108 (by kernel_rfl) rfl #[.int .i64 300] rfl tM ?_; (with_reducible refine (l5_exact.calls 300 t345 t346 _ A1.out).mono ?_); rintro e w7 ⟨rfl, hb⟩; refine ⟨_, rfl, ?_⟩; replace BK344 := Sd.mk (blk_below (bkA BK344.out) hb); replace HB := Sd.mk (below_step (bBl HB.out) hb); (try clear hb); (try clear hb2); (try clear hk); (try clear hi)) | ((with_reducible refine gate_callee (f := 108) rfl ?_); refine goesL_ (some 2) rfl rfl Tryz.func108 (by kernel_rfl) rfl #[.int .i64 1000] rfl tM ?_; (with_reducible refine (l5_exact.calls 1000 t347 t348 _ A2.out).mono ?_); rintro e w8 ⟨rfl, hb⟩; refine ⟨_, rfl, ?_⟩; replace BK344 := Sd.mk (blk_below (bkA BK344.out) hb); replace HB := Sd.mk (below_step (bBl HB.out) hb); (try clear hb); (try clear hb2); (try clear hk); (try clear hi)) | ((with_reducible refine gate_callee (f := 108) rfl ?_); refine goesL_ (some 3) rfl rfl Tryz.func108 (by kernel_rfl) rfl #[.int .i64 1000] rfl tM ?_; (with_reducible refine (l5_exact.calls 1000 t349 t350 _ A3.out).mono ?_); rintro e w9 ⟨rfl, hb⟩; refine ⟨_, rfl, ?_⟩; replace BK344 := Sd.mk (blk_below (bkA BK344.out) hb); replace HB := Sd.mk (below_step (bBl HB.out) hb); (try clear hb); (try clear hb2); (try clear hk); (try clear hi)) | ((with_reducible refine gate_callee (f := 108) rfl ?_); refine goesL_ (some 4) rfl rfl Tryz.func108 (by kernel_rfl) rfl #[.int .i64 1000] rfl tM ?_; (with_reducible refine (l5_exact.calls 1000 t351 t352 _ A4.out).mono ?_); rintro e w10 ⟨rfl, hb⟩; refine ⟨_, rfl, ?_⟩; replace BK344 := Sd.mk (blk_below (bkA BK344.out) hb); replace HB := Sd.mk (below_step (bBl HB.out) hb); (try clear hb); (try clear hb2); (try clear hk); (try clear hi)) | ((with_reducible refine gate_callee (f := 108) rfl ?_); refine goesL_ (some 5) rfl rfl Tryz.func108 (by kernel_rfl) rfl #[.int .i64 500] rfl tM ?_; (with_reducible refine (l5_exact.calls 500 t353 t354 _ A5.out).mono ?_); rintro e w11 ⟨rfl, hb⟩; refine ⟨_, rfl, ?_⟩; replace BK344 := Sd.mk (blk_below (bkA BK344.out) hb); replace HB := Sd.mk (below_step (bBl HB.out) hb); (try clear hb); (try clear hb2); (try clear hk); (try clear hi)) | ((with_reducible refine gate_dst (N := 7) rfl ?_); refine Kd.R_lit k92 _ 92 ?hg (N := 7) ?hd (xs := ([(⟨(⟨t345, t346⟩ : S27), (⟨t347, t348⟩ : S27), (⟨t349, t350⟩ : S27), (⟨t351, t352⟩ : S27), (⟨t353, t354⟩ : S27)⟩ : S92)] : List (S92))) (inner := [.int .i64 t345, .int .i64 t346, .int .i64 t347, .int .i64 t348, .int .i64 t349, .int .i64 t350, .int .i64 t351, .int .i64 t352, .int .i64 t353, .int .i64 t354]) (ok := fun _ => True) (okp := fun _ => True) ?hr ?hp (fun _ hk => hk) trivial (Below.refl _ _) (Nat.le_refl _) (by simp) ?_; (case hd => rfl); (case hg => rfl); (case hr => exact tG); (case hp => exact (Reps.c10 (show Kd.M k92 _ _ _ (⟨(⟨t345, t346⟩ : S27), (⟨t347, t348⟩ : S27), (⟨t349, t350⟩ : S27), (⟨t351, t352⟩ : S27), (⟨t353, t354⟩ : S27)⟩ : S92) [.int .i64 t345, .int .i64 t346, .int .i64 t347, .int .i64 t348, .int .i64 t349, .int .i64 t350, .int .i64 t351, .int .i64 t352, .int .i64 t353, .int .i64 t354] from (k92_mkM _ _ _ (⟨(⟨t345, t346⟩ : S27), (⟨t347, t348⟩ : S27), (⟨t349, t350⟩ : S27), (⟨t351, t352⟩ : S27), (⟨t353, t354⟩ : S27)⟩ : S92) )) (Reps.none _ _))); intro v356 w12 ho13 hb hg_ hnew_; clear hg_ hnew_; (first | rw [← Ny355.out] at ho13 | (simp only [Int.reduceToNat] at ho13; rw [← Ny355.out] at ho13)); have HO357 := Sd.mk (Kd.R_lower ho13 (below_size (bBl HB.out))); replace BK344 := Sd.mk (blk_below (bkA BK344.out) hb); replace HB := Sd.mk (below_step (bBl HB.out) hb); clear hb ho13; obtain ⟨Ao14, co14, eo14⟩ := Kd.R_slice HO357.out; subst eo14; obtain ⟨u15_0, u15_1, u15_2, o15_0, o15_1, o15_2⟩ := bc3 (w := w12) BK344.out))
 refine bodyPost_ret (results_cell_row rfl _ _ gb344 73 #[.slice Ao14 y355.length co14, .int .i64 10, .int .i64 40000000000] (0, 0) _ rfl (by refine bkZ ?_; refine blk_put (cs := #[.slice Ao14 y355.length co14, .int .i64 10, .int .i64 0]) ?_ 2 _ rfl; refine bkZ ?_; refine blk_put (cs := #[.slice Ao14 y355.length co14, .int .i64 0, .int .i64 0]) ?_ 1 _ rfl; refine bkZ ?_; refine blk_put (cs := #[.slice none 0 0, .int .i64 0, .int .i64 0]) ?_ 0 _ rfl; refine bkZ ?_; exact BK344.out) Tryz.underlying73 rfl (by kernel_rfl)) rfl ?_
 exact ⟨_, tE, by (with_reducible repeat (first | apply Kd.R_alloc | apply Kd.R_drewN | apply Kd.R_drew)); exact Kd.R_mono (Kd.R_far (p := ⟨gb344, 2, none⟩) (Kd.R_far (p := ⟨gb344, 1, none⟩) (Kd.R_far (p := ⟨gb344, 0, none⟩) (Kd.R_types HO357.out BK344.out (by decide)) (fun _ hk => hk.2) (.slice Ao14 y355.length co14)) (fun _ hk => hk.2) (.int .i64 10)) (fun _ hk => hk.2) (.int .i64 40000000000)) (fun _ hk => trivial), bBl HB.out⟩
end
section
end
section
open Go.RowKit Go.Shelf Go.Proofs.YtljfljekcpdpiaaGreatW.PrintWords Go.Proofs.YtljfljekcpdpiaaGreatW.PrintLast Go.Proofs.YtljfljekcpdpiaaGreatW.PrintMore
attribute [local go_sem] Oper.semAt_some
theorem C_blk {α : Type} (d : Kd α) {w : World} {g e : Nat} {cs : Array Value} {xs : List α} (hb : w.heap[g]? = some (.cells cs e (0, 0))) (hr : Reps (d.K w) d.sz xs cs.toList) (hm : xs.length ≤ 9223372036854775807) : Kd.C d w (some ⟨g, 0, none⟩) xs.length xs := by
  refine ⟨rfl, hm, fun _ => ⟨_, rfl, fun j p hj => ⟨_, ?_, hr.2 j p hj, fun i u hu => ?_⟩⟩⟩
  · have hl := (List.getElem?_eq_some_iff.1 hj).1
    rw [List.length_take, List.length_drop, hr.1]
    have h2 : j * d.sz + d.sz ≤ xs.length * d.sz := by rw [← Nat.succ_mul]; exact Nat.mul_le_mul_right _ hl
    omega
  · rw [List.getElem?_take, List.getElem?_drop] at hu
    split at hu
    · have := blk_cell hb (j * d.sz + i)
      have e : (⟨g, 0, none⟩ : Addr).add (j * d.sz + i) = ⟨g, j * d.sz + i, none⟩ := by simp [Addr.add]; intro h1 h2; rw [h1, h2]
      rw [e, this, ← Array.getElem?_toList]
      exact hu
    · cases hu
theorem C_span {w : World} {g : Nat} {a b : Int} (hb : w.heap[g]? = some (.cells #[.int .i64 a, .int .i64 b] 27 (0, 0))) : Kd.C k27 w (some ⟨g, 0, none⟩) 1 [⟨a, b⟩] :=
  C_blk k27 (xs := [⟨a, b⟩]) hb (Reps.c2 (k27_mk w ⟨a, b⟩) (Reps.none _ _)) (by simp)
theorem span_cells {w : World} {g : Nat} {a b : Int} (h : Kd.C k27 w (some ⟨g, 0, none⟩) 1 [⟨a, b⟩]) : w.cell? ⟨g, 0, none⟩ = some (.int .i64 a) ∧ w.cell? ⟨g, 0 + 1, none⟩ = some (.int .i64 b) := by
  obtain ⟨ad, e, h0, h1⟩ := at_T27 h 0 (by decide) (by decide)
  cases e
  exact ⟨h0, h1⟩
theorem Example_x (w : World) : Calls Tryz.prog 36 #[] w fun e w' => ∃ g cp, e = .returned (.agg #[.slice (some ⟨g, 0, none⟩) 1 cp, .int .i64 10, .int .i64 40000000000]) ∧ 1 ≤ cp ∧ Kd.R k92 92 w' w.heap.size (fun _ => True) (.slice (some ⟨g, 0, none⟩) 1 cp) [ring0] ∧ Below w.heap.size w w' := by
  refine (l5_Example.calls [ring0] 10 40000000000 w (by kernel_rfl)).mono ?_
  rintro e w' ⟨v, rfl, hv, hb⟩
  obtain ⟨g, cp, rfl, h1, h2, _⟩ := Kd.R_form hv (by decide)
  exact ⟨g, cp, rfl, (Kd.R_reads' hv).2.1, hv, hb⟩
def oxs : List ByteArray := [⟨#[115, 105]⟩, ⟨#[110, 97]⟩]
def mts : List S70 := [⟨⟨#[115, 97, 110, 100]⟩, 1, 0, 0, 200, 20, [⟨980, 1000⟩, ⟨0, 0⟩]⟩, ⟨⟨#[115, 111, 100, 97]⟩, 4, 0, 0, 100, 20, [⟨0, 0⟩, ⟨570, 580⟩]⟩]
def shs : List S27 := [⟨700, 800⟩, ⟨200, 300⟩]
theorem Batch_x (w : World) : Calls Tryz.prog 45 #[] w fun e w' => ∃ Ao co Am cm As cs Ap ca, e = .returned (.agg #[.slice Ao 2 co, .slice Am 2 cm, .slice As 2 cs, .slice Ap 0 ca, .int .i64 (-9999), .int .i64 9999, .int .i64 100]) ∧ 2 ≤ co ∧ 2 ≤ cm ∧ 2 ≤ cs ∧ Kd.C Kd.string w' Ao 2 oxs ∧ Kd.C k70 w' Am 2 mts ∧ Kd.C k27 w' As 2 shs ∧ Below w.heap.size w w' := by
  refine (lw_Example.calls oxs mts shs [] (-9999) 9999 100 w (by kernel_rfl)).mono ?_
  rintro e w' ⟨v0, v1, v2, v3, rfl, h0, h1, h2, h3, hb⟩
  obtain ⟨Ao, co, rfl, hco, hCo⟩ := Kd.R_reads h0
  obtain ⟨Am, cm, rfl, hcm, hCm⟩ := Kd.N_reads h1
  obtain ⟨As, cs, rfl, hcs, hCs⟩ := Kd.R_reads h2
  obtain ⟨Ap, ca, rfl⟩ := Kd.N_slice h3
  exact ⟨Ao, co, Am, cm, As, cs, Ap, ca, rfl, hco, hcm, hcs, hCo, hCm, hCs, hb⟩
end
section
open Go.RowKit Go.Shelf Go.Proofs.YtljfljekcpdpiaaGreatW.PrintWords Go.Proofs.YtljfljekcpdpiaaGreatW.PrintLast Go.Proofs.YtljfljekcpdpiaaGreatW.PrintMore
attribute [local go_sem] Oper.semAt_some
theorem ins1_span (g cap : Nat) (f : Value) (w : World) : Calls Tryz.prog 278 #[.slice (some ⟨g, 0, none⟩) 1 cap, .int .i64 0, .int .i64 1, f] w fun e w' => e = .returned (.tuple #[]) ∧ w = w' := by
 go_enter Tryz.func278, Tryz.ntmps278
 go_wp2
 refine wp_loop_rounds 1 ?_
 rw [rounds_succ]
 go_wp2
 go_end0
 exact ⟨rfl, rfl⟩
theorem pdq1_span (g cap : Nat) (lim : Int) (f : Value) (w : World) : Calls Tryz.prog 274 #[.slice (some ⟨g, 0, none⟩) 1 cap, .int .i64 0, .int .i64 1, .int .i64 lim, f] w fun e w' => e = .returned (.tuple #[]) ∧ w = w' := by
 go_enter Tryz.func274, Tryz.ntmps274
 go_wp2
 refine wp_loop_rounds 1 ?_
 rw [rounds_succ]
 go_wp2_with (go_at_call 278; refine (ins1_span _ _ _ _).mono ?_; rintro e w' ⟨rfl, rfl⟩)
 (try simp only [Exit.inBlock, Exit.then]); refine bodyPost_ret (results_none rfl _ _ _) rfl ?_
 exact ⟨rfl, rfl⟩
theorem sort1_span (g cap : Nat) (f : Value) (w : World) : Calls Tryz.prog 258 #[.slice (some ⟨g, 0, none⟩) 1 cap, f] w fun e w' => e = .returned (.tuple #[]) ∧ w = w' := by
 have hl := lib_bits_Len 1 w (by omega) (by omega)
 generalize Lib.bitLen (1 : Int).toNat = bl at hl
 go_enter Tryz.func258, Tryz.ntmps258
 go_wp2_with (first | (go_at_call 206; refine hl.mono ?_; rintro e w' ⟨rfl, rfl⟩) | (go_at_call 274; refine (pdq1_span _ _ _ _ _).mono ?_; rintro e w' ⟨rfl, rfl⟩))
 go_end0
 exact ⟨rfl, rfl⟩
theorem ins1_cell (g cap : Nat) (f : Value) (w : World) : Calls Tryz.prog 259 #[.slice (some ⟨g, 0, none⟩) 1 cap, .int .i64 0, .int .i64 1, f] w fun e w' => e = .returned (.tuple #[]) ∧ w = w' := by
 go_enter Tryz.func259, Tryz.ntmps259
 go_wp2
 refine wp_loop_rounds 1 ?_
 rw [rounds_succ]
 go_wp2
 go_end0
 exact ⟨rfl, rfl⟩
theorem pdq1_cell (g cap : Nat) (lim : Int) (f : Value) (w : World) : Calls Tryz.prog 254 #[.slice (some ⟨g, 0, none⟩) 1 cap, .int .i64 0, .int .i64 1, .int .i64 lim, f] w fun e w' => e = .returned (.tuple #[]) ∧ w = w' := by
 go_enter Tryz.func254, Tryz.ntmps254
 go_wp2
 refine wp_loop_rounds 1 ?_
 rw [rounds_succ]
 go_wp2_with (go_at_call 259; refine (ins1_cell _ _ _ _).mono ?_; rintro e w' ⟨rfl, rfl⟩)
 (try simp only [Exit.inBlock, Exit.then]); refine bodyPost_ret (results_none rfl _ _ _) rfl ?_
 exact ⟨rfl, rfl⟩
theorem sort1_cell (g cap : Nat) (f : Value) (w : World) : Calls Tryz.prog 242 #[.slice (some ⟨g, 0, none⟩) 1 cap, f] w fun e w' => e = .returned (.tuple #[]) ∧ w = w' := by
 have hl := lib_bits_Len 1 w (by omega) (by omega)
 generalize Lib.bitLen (1 : Int).toNat = bl at hl
 go_enter Tryz.func242, Tryz.ntmps242
 go_wp2_with (first | (go_at_call 206; refine hl.mono ?_; rintro e w' ⟨rfl, rfl⟩) | (go_at_call 254; refine (pdq1_cell _ _ _ _ _).mono ?_; rintro e w' ⟨rfl, rfl⟩))
 go_end0
 exact ⟨rfl, rfl⟩
theorem clone_span (ad : Addr) (c : Nat) (a b : Int) (w : World) (hr : Kd.C k27 w (some ad) 1 [⟨a, b⟩]) :
  Calls Tryz.prog 240 #[.slice (some ad) 1 c] w fun e w' => ∃ g' c', e = .returned (.slice (some ⟨g', 0, none⟩) 1 c') ∧ 1 ≤ c' ∧ Kd.R k27 27 w' w.heap.size (fun k => w.heap.size ≤ k) (.slice (some ⟨g', 0, none⟩) 1 c') [⟨a, b⟩] ∧ Below w.heap.size w w' := by
 have heq := fun W => run_eql_slice_nil (P := Tryz.prog) W 24 27 (some ad) 1 c (by rfl)
 go_enter Tryz.func240, Tryz.ntmps240
 go_wp2_with (first | ((with_reducible refine gate_dst (N := 5) rfl ?_); refine Kd.R_lit k27 (w0 := w) w.heap.size 27 rfl (N := 5) rfl (xs := []) (inner := []) (okp := fun k => w.heap.size ≤ k) (ok := fun k => w.heap.size ≤ k) ?hr ?hrep (fun _ h => h) ?hfresh (Below.refl _ _) (Nat.le_refl _) (by simp) ?_; (case hr => first | (go_simp; done) | (go_simp; rfl)); (case hfresh => exact Nat.le_refl _); (case hrep => exact ⟨rfl, fun j q hq => by simp at hq⟩); intro v1 w1 HO HB1 HG1 HE1; replace HO := Sd.mk HO; replace HB1 := Sd.mk HB1; clear HG1 HE1) | ((with_reducible refine gate_dst (N := 7) rfl ?_); refine Kd.R_append_rows k27 (Rr := k27.K w1) (okp := fun _ => False) (w0 := w) w.heap.size rfl (.tmp 5) (.tmp 6) 24 27 (.agg #[.int .i64 0, .int .i64 0]) 16 rfl Tryz.underlying24 (by kernel_rfl) rfl (by decide) (by omega) v1 [] [⟨a, b⟩] (some ad) 1 c (fun k => w.heap.size ≤ k) rfl rfl HO.out (Kd.C_below hr HB1.out) (fun x cs hk => by obtain rfl := k27_open hk; exact k27_mkM _ _ _ x) (fun k hk => hk.elim) (fun _ h => Nat.le_trans HB1.out.size h) HB1.out HB1.out.size (by simp) ?_; intro v2 w2 HO2 HB2 HG2 HE2; simp only [List.nil_append] at HO2; replace HO2 := Sd.mk HO2; replace HB2 := Sd.mk HB2; clear HG2 HE2))
 obtain ⟨g', c', rfl, h1, h2, _⟩ := Kd.R_form HO2.out (by simp)
 go_ret
 exact ⟨g', c', rfl, (Kd.R_reads' HO2.out).2.1, HO2.out, HB2.out⟩
def keyV : Value := .agg #[.int .i64 0, .int .i64 5]
def mapO (v : Value) : Obj := .map #[{ key := keyV, val := v, born := 0 }] 1
theorem und227 : Tryz.prog.underlying 227 = some (.map 253 24) := by kernel_rfl
theorem run_makeMap (w : World) : (Instr.makeMap 227 none).run Tryz.prog w = .ok (.map (some w.heap.size)) (w.alloc (.map #[] 0)) := by
 simp [Instr.makeMap, Sem.run_bind, run_newObj_alloc, Result.andThen]
theorem run_checkKey (w : World) (e : Bool) : (Instr.checkKey e 10000 253 keyV).run Tryz.prog w = .ok () w := by
 cases e <;> kernel_rfl
theorem run_getObj_map {w : World} {r : Nat} {es : Array MapEntry} {k : Nat} (h : w.heap[r]? = some (.map es k)) : (getObj r).run Tryz.prog w = .ok (.map es k) w := by simp [getObj, Sem.run, h]
theorem run_setObj_map {w : World} {r : Nat} {es : Array MapEntry} {k : Nat} (o : Obj) (h : w.heap[r]? = some (.map es k)) : (setObj r o).run Tryz.prog w = .ok () (w.putObj r o) := by simp [setObj, Sem.run, h, World.putObj]
theorem run_mapUpdate_new {w : World} {M : Nat} (v : Value) (h : w.heap[M]? = some (.map #[] 0)) : (Instr.mapUpdate 227 (.map (some M)) keyV v).run Tryz.prog w = .ok () (w.putObj M (mapO v)) := by
 have hk := run_checkKey w false
 simp [Instr.mapUpdate, Sem.run_bind, underlying, typeInfo, run_getObj_map h, Result.andThen, hk, Instr.findKey, Instr.findNow, run_setObj_map _ h, mapO]
end
section
open Go.RowKit Go.Shelf Go.Proofs.YtljfljekcpdpiaaGreatW.PrintWords Go.Proofs.YtljfljekcpdpiaaGreatW.PrintLast Go.Proofs.YtljfljekcpdpiaaGreatW.PrintMore
attribute [local go_sem] Oper.semAt_some
structure CellR (W : World) (A : Nat) (g : Addr) (c : Nat) (a b : Int) : Prop where
 c0 : W.cell? ⟨A, 0, none⟩ = some (.int .i64 0)
 c1 : W.cell? ⟨A, 0 + 1, none⟩ = some (.int .i64 5)
 c2 : W.cell? ⟨A, 0 + 2, none⟩ = some (.slice (some g) 1 c)
 hc : 1 ≤ c
 sp : Kd.C k27 W (some g) 1 [⟨a, b⟩]
theorem cell_below {W W' : World} {p : Addr} {v : Value} (h : W.cell? p = some v) (hb : Below W.heap.size W W') : W'.cell? p = some v := (hb.cell (World.block_lt_of_cell? W _ h)).trans h
theorem CellR.below {W W' : World} {A : Nat} {g : Addr} {c : Nat} {a b : Int} (h : CellR W A g c a b) (hb : Below W.heap.size W W') : CellR W' A g c a b :=
 ⟨cell_below h.c0 hb, cell_below h.c1 hb, cell_below h.c2 hb, h.hc, Kd.C_below h.sp hb⟩
theorem CellR.of {W : World} {a b : Int} {A cap base : Nat} {ok : Nat → Prop} (h : Kd.N k180 180 W base ok (.slice (some ⟨A, 0, none⟩) 1 cap) [⟨0, 5, [⟨a, b⟩]⟩]) : ∃ g c, CellR W A g c a b := by
 obtain ⟨ad, A2, c2, e, h0, h1, h2, h3, h4⟩ := at_T180 (Kd.N_reads' h).2.2 0 (by decide) (by simp)
 cases e
 have h5 : Kd.C k27 W A2 1 [⟨a, b⟩] := h4
 have h6 : W.cell? ⟨A, 0 + 2, none⟩ = some (.slice A2 1 c2) := h2
 obtain ⟨g, rfl, _⟩ := at_T27 h5 0 (by decide) (by decide)
 exact ⟨g, c2, h0, h1, h6, h3, h5⟩
structure MapAt (W : World) (M : Nat) (g : Addr) (c : Nat) (a b : Int) : Prop where
 m : W.heap[M]? = some (mapO (.slice (some g) 1 c))
 hc : 1 ≤ c
 sp : Kd.C k27 W (some g) 1 [⟨a, b⟩]
theorem MapAt.below {W W' : World} {M : Nat} {g : Addr} {c : Nat} {a b : Int} (h : MapAt W M g c a b) (hb : Below W.heap.size W W') : MapAt W' M g c a b :=
 ⟨blk_below h.m hb, h.hc, Kd.C_below h.sp hb⟩
def takT : Bool × List (List Nat × List Nat) := (true, [([], []), ([], []), ([1], [1]), ([], []), ([3], [3]), ([2, 4], [2, 4]), ([], []), ([6], [6]), ([7], [7]), ([0, 5, 8, 8, 0, 1, 2, 3, 4, 5, 6, 7, 8], [0, 5, 8])])
def takB : List Nat := [0, 0, 2, 0, 8, 30, 0, 64, 192, 511]
theorem tak_tab : rtab .any (opsOf Tryz.f222 5) = takT := by kernel_rfl
theorem tak_bits : waitsOk takT.2 takB = true := by kernel_rfl
theorem taken_calls (A cap : Nat) (g : Addr) (c : Nat) (a b : Int) (w : World) (h : CellR w A g c a b) :
  Calls Tryz.prog 222 #[.slice (some ⟨A, 0, none⟩) 1 cap] w fun e w' => ∃ M g' c', e = .returned (.map (some M)) ∧ MapAt w' M ⟨g', 0, none⟩ c' a b ∧ Below w.heap.size w w' := by
 have hmk := run_makeMap w
 have HH := Sd.mk h
 obtain ⟨h0, h1, h2, hc, hs⟩ := h
 have HS := Sd.mk hs
 clear hs
 go_enter Tryz.func222, Tryz.ntmps222
 go_wp2
 clear hmk
 have HM := Sd.mk (blk_new w (.map #[] 0))
 have HB := Sd.mk (below_alloc (Below.refl w.heap.size w) (.map #[] 0))
 have h0' := cell_below h0 HB.out
 have h1' := cell_below h1 HB.out
 have h2' := cell_below h2 HB.out
 have HSZ : Sd ((w.alloc (.map #[] 0)).heap.size = w.heap.size + 1) := ⟨by simp⟩
 clear h0 h1 h2
 generalize w.alloc (.map #[] 0) = W1 at HM HB h0' h1' h2' HSZ ⊢
 refine wp_loop_rounds 2 ?_
 rw [rounds_succ]
 go_upto_region 5 with (fail)
 have BK := Sd.mk (blk_new W1 (.cells #[.int .i64 0, .int .i64 5, .slice (some g) 1 c] 180))
 have HM2 := Sd.mk (blk_alloc HM.out (.cells #[.int .i64 0, .int .i64 5, .slice (some g) 1 c] 180))
 have HB2 := Sd.mk (below_alloc HB.out (.cells #[.int .i64 0, .int .i64 5, .slice (some g) 1 c] 180))
 have HS2 := Sd.mk (Kd.C_below HS.out HB2.out)
 clear HM HB HS h0' h1' h2'
 generalize W1.alloc (.cells #[.int .i64 0, .int .i64 5, .slice (some g) 1 c] 180) = W2 at BK HM2 HB2 HS2 ⊢
 generalize W1.heap.size = B at BK HSZ ⊢
 refine start_ (n := 10) (S := fun w' => w'.heap[B]? = some (.cells #[.int .i64 0, .int .i64 5, .slice (some g) 1 c] 180 (0, 0))) (ds := []) (bA 10 0) (by kernel_rfl) rfl rfl BK.out (fun hHeld => ?_); refine with_tabW tak_tab tak_bits (fun HT_ HW_ => ?_)
 have HB3 := Sd.mk (below_drew1 HB2.out)
 have HM3 := Sd.mk (blk_drew HM2.out)
 have HS3 := Sd.mk (Kd.C_below HS2.out (below_drew (Below.refl _ _)))
 clear HB2 HM2 BK HS2
 generalize W2.drew = W3 at HB3 HM3 HS3 hHeld ⊢
 refine pQ 0 (some 13) (bA 10 1) ?_
 refine pQ 1 (some 14) (bA 10 3) ?_
 refine take_ (i := 2) (N := some 15) (v := ?_) (a' := ?_) (bA 10 7) rfl rfl (take_ofW HT_.out HW_.out (by kernel_rfl)) (fun _ _ _ h => h) (Or.inl ⟨by rfl, ?_⟩) hHeld ?_ ?_
 rotate_left
 ·rintro w' hx
  have s0 : w'.cell? ⟨B, 0, none⟩ = some (.int .i64 0) := (blk_cell hx 0).trans rfl
  go_simp
  with_reducible rfl
 rotate_left
 ·exact tP
 refine pQ 3 (some 16) (bA 10 15) ?_
 refine take_ (i := 4) (N := some 17) (v := ?_) (a' := ?_) (bA 10 31) rfl rfl (take_ofW HT_.out HW_.out (by kernel_rfl)) (fun _ _ _ h => h) (Or.inl ⟨by rfl, ?_⟩) hHeld ?_ ?_
 rotate_left
 ·rintro w' hx
  have s1 : w'.cell? ⟨B, 0 + 1, none⟩ = some (.int .i64 5) := (blk_cell hx 1).trans rfl
  go_simp
  with_reducible rfl
 rotate_left
 ·exact tP
 refine pQ 5 (some 18) (bA 10 63) ?_
 refine pQ 6 (some 19) (bA 10 127) ?_
 refine take_ (i := 7) (N := some 20) (v := ?_) (a' := ?_) (bA 10 255) rfl rfl (take_ofW HT_.out HW_.out (by kernel_rfl)) (fun _ _ _ h => h) (Or.inl ⟨by rfl, ?_⟩) hHeld ?_ ?_
 rotate_left
 ·rintro w' hx
  have s2 : w'.cell? ⟨B, 0 + 2, none⟩ = some (.slice (some g) 1 c) := (blk_cell hx 2).trans rfl
  go_simp
  with_reducible rfl
 rotate_left
 ·exact tP
 refine one_ (i := 8) (N := some 21) (bA 10 511) rfl rfl (one_of HT_.out (by kernel_rfl)) (by decide) (fun K hK => ?_)
 refine goes_ Tryz.func240 (by kernel_rfl) rfl #[.slice (some g) 1 c] (by (try simp only [Array.map_toArray, List.map_toArray, List.map_cons, List.map_nil]); rfl) rfl rfl (by (try simp only [List.map_toArray, List.map_cons, List.map_nil]); first | done | rfl) ?_
 refine (clone_span g c a b _ HS3.out).mono ?_
 rintro e w4 ⟨g4, c4, rfl, hc4, hr4, hb⟩
 refine ⟨_, rfl, ?_⟩
 have HB4 := Sd.mk (below_then HB3.out HB3.out.size hb)
 have HM4 := Sd.mk (blk_below HM3.out hb)
 have HX4 := Sd.mk (blk_below hHeld hb)
 have HR4 := Sd.mk (Kd.R_mono hr4 (fun _ _ => trivial) : Kd.R k27 27 w4 W3.heap.size (fun _ => True) _ _)
 have HLT := Sd.mk (show w.heap.size < W3.heap.size from blk_lt HM3.out)
 clear hb hr4 hHeld
 refine hK.out _ _ HX4.out (fun hHeld => ?_)
 clear hK K
 refine norm_ (a' := ?_) ?_ ?_
 rotate_left
 ·show Act.put _ (some 21) _ = _
  exact tP
 refine one_ (i := 9) (N := none) (bA 10 1023) rfl rfl (one_of HT_.out (by kernel_rfl)) (by decide) (fun K hK => ?_)
 have hup := run_mapUpdate_new (.slice (some ⟨g4, 0, none⟩) 1 c4) HM4.out
 unfold keyV at hup
 go_simp
 clear hup
 refine hK.out _ _ (putObj_heap_keep (by have := HSZ.out; omega) HX4.out) (fun hHeld => ?_)
 clear hK K
 refine done_ (done_of HT_.out (by kernel_rfl)) ?_
 have HMP := Sd.mk (show (w4.putObj w.heap.size (mapO (.slice (some ⟨g4, 0, none⟩) 1 c4))).heap[w.heap.size]? = some (mapO (.slice (some ⟨g4, 0, none⟩) 1 c4)) from World.putObj_heap_same (blk_lt HM4.out))
 have HBP := Sd.mk (below_putObj (o := mapO (.slice (some ⟨g4, 0, none⟩) 1 c4)) HB4.out (Nat.le_refl _) (blk_lt HM4.out))
 have HRP := Sd.mk (Kd.R_reads' (R_put HR4.out HLT.out (mapO (.slice (some ⟨g4, 0, none⟩) 1 c4)))).2.2
 clear hHeld HT_ HW_ HM4 HB4 HR4 HX4
 generalize w4.putObj w.heap.size (mapO (.slice (some ⟨g4, 0, none⟩) 1 c4)) = W5 at HMP HBP HRP ⊢
 go_wp2
 rw [rounds_succ]
 go_wp2
 go_ret
 exact ⟨_, _, _, rfl, ⟨HMP.out, hc4, HRP.out⟩, HBP.out⟩
end
section
open Go.RowKit Go.Shelf Go.Proofs.YtljfljekcpdpiaaGreatW.PrintWords Go.Proofs.YtljfljekcpdpiaaGreatW.PrintLast Go.Proofs.YtljfljekcpdpiaaGreatW.PrintMore
attribute [local go_sem] Oper.semAt_some
theorem joined_calls (g c : Nat) (a b : Int) (f1 f2 : Value) (w : World) (hr : Kd.C k27 w (some ⟨g, 0, none⟩) 1 [⟨a, b⟩]) :
  Calls Tryz.prog 251 #[.slice (some ⟨g, 0, none⟩) 1 c, f1, f2] w fun e w' => ∃ g' c', e = .returned (.slice (some ⟨g', 0, none⟩) 1 c') ∧ 1 ≤ c' ∧ Kd.R k27 27 w' w.heap.size (fun _ => True) (.slice (some ⟨g', 0, none⟩) 1 c') [⟨a, b⟩] ∧ Below w.heap.size w w' := by
 obtain ⟨h0, h1⟩ := span_cells hr
 have HR := Sd.mk hr
 clear hr
 go_enter Tryz.func251, Tryz.ntmps251
 go_wp2_with (go_at_call 258; refine (sort1_span _ _ _ _).mono ?_; rintro e w' ⟨rfl, rfl⟩)
 refine wp_loop_rounds 2 ?_
 rw [rounds_succ]
 have BK := blk_new w (.cells #[.int .i64 a, .int .i64 b] 27)
 have hb0 : (w.alloc (.cells #[.int .i64 a, .int .i64 b] 27)).cell? ⟨w.heap.size, 0, none⟩ = some (.int .i64 a) := (blk_cell BK 0).trans rfl
 have hb1 : (w.alloc (.cells #[.int .i64 a, .int .i64 b] 27)).cell? ⟨w.heap.size, 0 + 1, none⟩ = some (.int .i64 b) := (blk_cell BK 1).trans rfl
 clear BK
 go_upto_region 11 with (fail)
 have HB := Sd.mk (below_alloc (Below.refl w.heap.size w) (.cells #[.int .i64 a, .int .i64 b] 27))
 have hsz : w.heap.size ≤ (w.alloc (.cells #[.int .i64 a, .int .i64 b] 27)).heap.size := by simp
 generalize w.alloc (.cells #[.int .i64 a, .int .i64 b] 27) = W1 at HB hb0 hb1 hsz ⊢
 have HSZ := Sd.mk hsz
 clear hsz
 go_wp2_with ((with_reducible refine gate_builtin (b := .append) (xs := #[.tmp 42, .tmp 44]) rfl ?_); at_builtin; refine Kd.R_append k27 (w0 := w) w.heap.size rfl (.tmp 42) (.tmp 44) 24 27 (.agg #[(.int .i64 0), (.int .i64 0)]) 16 rfl Tryz.underlying24 info27 rfl (by decide) (by omega) (.slice none 0 0) [] ⟨a, b⟩ [.int .i64 a, .int .i64 b] (fun _ => True) (fun _ => False) rfl rfl (k27_mkM _ _ _ ⟨a, b⟩) (fun _ hk => hk.elim) (fun _ _ => trivial) (Kd.R_nil _ _ _ _ _) HB.out HSZ.out (by simp) ?_; intro v1 w5 ho hb hg hat; have HO := Sd.mk ho; have HB5 := Sd.mk hb; clear ho hb hg hat)
 obtain ⟨g', c', rfl, h1, h2, _⟩ := Kd.R_form HO.out (by simp)
 rw [rounds_succ]
 go_wp2
 go_ret
 exact ⟨g', c', rfl, (Kd.R_reads' HO.out).2.1, HO.out, HB5.out⟩
theorem union_calls (ad : Addr) (c : Nat) (a b : Int) (w : World) (hr : Kd.C k27 w (some ad) 1 [⟨a, b⟩]) :
  Calls Tryz.prog 241 #[.slice (some ad) 1 c] w fun e w' => ∃ g' c', e = .returned (.slice (some ⟨g', 0, none⟩) 1 c') ∧ 1 ≤ c' ∧ Kd.R k27 27 w' w.heap.size (fun _ => True) (.slice (some ⟨g', 0, none⟩) 1 c') [⟨a, b⟩] ∧ Below w.heap.size w w' := by
 go_enter Tryz.func241, Tryz.ntmps241
 go_wp2_with (first | (go_at_call 240; refine (clone_span ad c a b _ hr).mono ?_; rintro e w4 ⟨g4, c4, rfl, hc4, hr4, hb⟩; have HC4 := Sd.mk (Kd.R_reads' hr4).2.2; have HB4 := Sd.mk hb; clear hr4 hb) | (go_at_call 251; refine (joined_calls g4 c4 a b _ _ _ HC4.out).mono ?_; rintro e w5 ⟨g5, c5, rfl, hc5, hr5, hb⟩; have HR5 := Sd.mk (Kd.R_lower hr5 HB4.out.size); have HB5 := Sd.mk (below_then HB4.out HB4.out.size hb); clear hr5 hb))
 go_ret
 exact ⟨g5, c5, rfl, hc5, HR5.out, HB5.out⟩
theorem run_range_one {w : World} {M : Nat} {v : Value} (h : w.heap[M]? = some (mapO v)) : (Instr.range 227 (.map (some M))).run Tryz.prog w = .ok (.pointer (some ⟨w.heap.size, 0, none⟩)) (w.alloc (.mapIter (some M) 1 #[] 1)) :=
 run_range_map w 227 253 24 M _ 1 und227 h
theorem run_next_one {w : World} {I M : Nat} {v : Value} (ty : TypeId) (hI : w.heap[I]? = some (.mapIter (some M) 1 #[] 1)) (hM : w.heap[M]? = some (mapO v)) : (Instr.next (.pointer (some ⟨I, 0, none⟩)) false ty).run Tryz.prog w = .ok (.tuple #[.bool true, keyV, v]) (w.putObj I (.mapIter (some M) 1 #[0] 1)) := by
 unfold mapO at hM
 simp [Instr.next, getObj, setObj, Sem.run_bind, Sem.run, hI, hM, Result.andThen, choose, Question.forced, World.putObj]
theorem run_next_none {w : World} {I M : Nat} {v : Value} (ty : TypeId) (hI : w.heap[I]? = some (.mapIter (some M) 1 #[0] 1)) (hM : w.heap[M]? = some (mapO v)) : (Instr.next (.pointer (some ⟨I, 0, none⟩)) false ty).run Tryz.prog w = .ok (.tuple #[.bool false]) w := by
 unfold mapO at hM
 simp [Instr.next, getObj, setObj, Sem.run_bind, Sem.run, hI, hM, Result.andThen, choose, Question.forced, World.putObj]
theorem run_entry_one {w : World} {I M : Nat} {v : Value} (hI : w.heap[I]? = some (.mapIter (some M) 1 #[0] 1)) (hM : w.heap[M]? = some (mapO v)) : (Instr.entry (.pointer (some ⟨I, 0, none⟩))).run Tryz.prog w = .ok (.tuple #[keyV, v]) w := by
 unfold mapO at hM
 simp [Instr.entry, getObj, Sem.run_bind, Sem.run, hI, hM, Result.andThen]
end
section
open Go.RowKit Go.Shelf Go.Proofs.YtljfljekcpdpiaaGreatW.PrintWords Go.Proofs.YtljfljekcpdpiaaGreatW.PrintLast Go.Proofs.YtljfljekcpdpiaaGreatW.PrintMore
attribute [local go_sem] Oper.semAt_some
def celT : Bool × List (List Nat × List Nat) := (true, [([], []), ([], []), ([1], [1]), ([], []), ([3], [3]), ([], []), ([5], [5]), ([2, 4, 6], [2, 4, 6]), ([7], [7]), ([0, 8, 6], [0, 8]), ([9, 9, 0, 1, 2, 3, 4, 5, 6, 7, 8, 9], [0, 9])])
def celB : List Nat := [0, 0, 2, 0, 8, 0, 32, 126, 254, 511, 1023]
theorem cel_tab : rtab .any (opsOf Tryz.f223 6) = celT := by kernel_rfl
theorem cel_bits : waitsOk celT.2 celB = true := by kernel_rfl
theorem cells_calls (M : Nat) (g : Addr) (c : Nat) (a b : Int) (w : World) (h : MapAt w M g c a b) :
  Calls Tryz.prog 223 #[.map (some M)] w fun e w' => ∃ A cap, e = .returned (.slice (some ⟨A, 0, none⟩) 1 cap) ∧ 1 ≤ cap ∧ Kd.R k180 180 w' w.heap.size (fun _ => True) (.slice (some ⟨A, 0, none⟩) 1 cap) [⟨0, 5, [⟨a, b⟩]⟩] ∧ Below w.heap.size w w' := by
 obtain ⟨hm, hc, hs⟩ := h
 have hrg := run_range_one hm
 have hI1 := blk_new w (.mapIter (some M) 1 #[] 1)
 have hM1 := blk_alloc hm (.mapIter (some M) 1 #[] 1)
 have HB1 := Sd.mk (below_alloc (Below.refl w.heap.size w) (.mapIter (some M) 1 #[] 1))
 have HS0 := Sd.mk hs
 have HSZ1 : Sd ((w.alloc (.mapIter (some M) 1 #[] 1)).heap.size = w.heap.size + 1) := ⟨by simp⟩
 have HML := Sd.mk (blk_lt hm)
 have HI1 := Sd.mk hI1
 have HM1 := Sd.mk hM1
 clear hm hs hI1 hM1
 go_enter Tryz.func223, Tryz.ntmps223
 go_wp2
 clear hrg
 generalize w.alloc (.mapIter (some M) 1 #[] 1) = W1 at HI1 HM1 HB1 HSZ1 ⊢
 refine wp_loop_rounds 2 ?_
 rw [rounds_succ]
 have hnx := fun ty => run_next_one ty HI1.out HM1.out
 have hM2 : (W1.putObj w.heap.size (.mapIter (some M) 1 #[0] 1)).heap[M]? = some (mapO (.slice (some g) 1 c)) := putObj_heap_keep (by have := HML.out; omega) HM1.out
 have hI2 : (W1.putObj w.heap.size (.mapIter (some M) 1 #[0] 1)).heap[w.heap.size]? = some (.mapIter (some M) 1 #[0] 1) := World.putObj_heap_same (blk_lt HI1.out)
 have hen := run_entry_one hI2 hM2
 have HI2 := Sd.mk hI2
 have HM2 := Sd.mk hM2
 have HB2 := Sd.mk (below_putObj (o := .mapIter (some M) 1 #[0] 1) HB1.out (Nat.le_refl _) (blk_lt HI1.out))
 clear hI2 hM2
 unfold keyV at hnx hen
 go_upto_region 6 with (fail)
 clear hnx hen
 clear HI1 HM1 HB1
 have BK : Sd (((W1.putObj w.heap.size (.mapIter (some M) 1 #[0] 1)).alloc (.cells #[.int .i64 0, .int .i64 5] 253)).heap[W1.heap.size]? = some (.cells #[.int .i64 0, .int .i64 5] 253 (0, 0))) := ⟨by simpa using blk_new (W1.putObj w.heap.size (.mapIter (some M) 1 #[0] 1)) (.cells #[.int .i64 0, .int .i64 5] 253)⟩
 generalize W1.putObj w.heap.size (.mapIter (some M) 1 #[0] 1) = W2 at HI2 HM2 HB2 BK ⊢
 have HI3 := Sd.mk (blk_alloc HI2.out (.cells #[.int .i64 0, .int .i64 5] 253))
 have HM3 := Sd.mk (blk_alloc HM2.out (.cells #[.int .i64 0, .int .i64 5] 253))
 have HB3 := Sd.mk (below_alloc HB2.out (.cells #[.int .i64 0, .int .i64 5] 253))
 clear HI2 HM2 HB2
 generalize W2.alloc (.cells #[.int .i64 0, .int .i64 5] 253) = W3 at BK HI3 HM3 HB3 ⊢
 generalize W1.heap.size = B at BK HSZ1 ⊢
 refine start_ (n := 11) (S := fun w' => w'.heap[B]? = some (.cells #[.int .i64 0, .int .i64 5] 253 (0, 0))) (ds := []) (bA 11 0) (by kernel_rfl) rfl rfl BK.out (fun hHeld => ?_); refine with_tabW cel_tab cel_bits (fun HT_ HW_ => ?_)
 have HB4 := Sd.mk (below_drew1 HB3.out)
 have HI4 := Sd.mk (blk_drew HI3.out)
 have HM4 := Sd.mk (blk_drew HM3.out)
 clear HB3 HM3 HI3 BK
 generalize W3.drew = W4 at HB4 HM4 HI4 hHeld ⊢
 refine pQ 0 (some 16) (bA 11 1) ?_
 refine pQ 1 (some 17) (bA 11 3) ?_
 refine take_ (i := 2) (N := some 18) (v := ?_) (a' := ?_) (bA 11 7) rfl rfl (take_ofW HT_.out HW_.out (by kernel_rfl)) (fun _ _ _ h => h) (Or.inl ⟨by rfl, ?_⟩) hHeld ?_ ?_
 rotate_left
 ·rintro w' hx
  have s0 : w'.cell? ⟨B, 0, none⟩ = some (.int .i64 0) := (blk_cell hx 0).trans rfl
  go_simp
  with_reducible rfl
 rotate_left
 ·exact tP
 refine pQ 3 (some 19) (bA 11 15) ?_
 refine take_ (i := 4) (N := some 20) (v := ?_) (a' := ?_) (bA 11 31) rfl rfl (take_ofW HT_.out HW_.out (by kernel_rfl)) (fun _ _ _ h => h) (Or.inl ⟨by rfl, ?_⟩) hHeld ?_ ?_
 rotate_left
 ·rintro w' hx
  have s1 : w'.cell? ⟨B, 0 + 1, none⟩ = some (.int .i64 5) := (blk_cell hx 1).trans rfl
  go_simp
  with_reducible rfl
 rotate_left
 ·exact tP
 refine pQ 5 (some 21) (bA 11 63) ?_
 refine one_ (i := 6) (N := some 22) (bA 11 127) rfl rfl (one_of HT_.out (by kernel_rfl)) (by decide) (fun K hK => ?_)
 refine goes_ Tryz.func241 (by kernel_rfl) rfl #[.slice (some g) 1 c] (by (try simp only [Array.map_toArray, List.map_toArray, List.map_cons, List.map_nil]); rfl) rfl rfl (by (try simp only [List.map_toArray, List.map_cons, List.map_nil]); first | done | rfl) ?_
 refine (union_calls g c a b _ (Kd.C_below HS0.out HB4.out)).mono ?_
 rintro e w5 ⟨g5, c5, rfl, hc5, hr5, hb⟩
 refine ⟨_, rfl, ?_⟩
 have HB5 := Sd.mk (below_then HB4.out HB4.out.size hb)
 have HM5 := Sd.mk (blk_below HM4.out hb)
 have HI5 := Sd.mk (blk_below HI4.out hb)
 have HX5 := Sd.mk (blk_below hHeld hb)
 have HR5 := Sd.mk hr5
 have HZ5 := Sd.mk (show w.heap.size + 1 ≤ W4.heap.size from blk_lt HI4.out)
 have HZ6 := Sd.mk hb.size
 clear hb hr5 hHeld HB4 HM4 HI4
 refine hK.out _ _ HX5.out (fun hHeld => ?_)
 clear hK K
 refine norm_ (a' := ?_) ?_ ?_
 rotate_left
 ·show Act.put _ (some 22) _ = _
  exact tP
 refine pQ 7 (some 23) (bA 11 255) ?_
 refine one_ (i := 8) (N := some 24) (bA 11 511) rfl rfl (one_of HT_.out (by kernel_rfl)) (by decide) (fun K hK => ?_)
 go_simp
 refine hK.out _ _ (blk_alloc HX5.out _) (fun hHeld => ?_)
 clear hK K
 refine one_ (i := 9) (N := some 25) (bA 11 1023) rfl rfl (one_of HT_.out (by kernel_rfl)) (by decide) (fun K hK => ?_)
 refine Kd.R_append_step k180 (w0 := w) (W := w5) w.heap.size (by rfl) (.tmp 16) (.tmp 24) 49 180 (.agg #[.int .i64 0, .int .i64 0, .slice none 0 0]) 40 rfl Tryz.underlying49 info180 rfl (by decide) (by omega) (.slice none 0 0) [] ⟨0, 5, [⟨a, b⟩]⟩ [.int .i64 0, .int .i64 5, .slice (some ⟨g5, 0, none⟩) 1 c5] (fun _ => True) (fun _ => True) rfl rfl (k180_mkM _ _ _ ⟨0, 5, [⟨a, b⟩]⟩ (Kd.R_lower HR5.out (Nat.le_trans (Nat.le_succ _) HZ5.out))) (fun k hk => ⟨trivial, by simp [Value.ownBlock]⟩) (fun _ _ => trivial) (Kd.R_nil _ _ _ _ _) HB5.out HB5.out.size (by simp) ?_
 intro v1 w6 ho hb hg _
 have HO := Sd.mk ho
 have HB6 := Sd.mk hb
 have HM6 := Sd.mk (blk_grown HM5.out hg (by simp [Value.ownBlock]))
 have HI6 := Sd.mk (blk_grown HI5.out hg (by simp [Value.ownBlock]))
 have HX6 := Sd.mk (blk_grown HX5.out hg (by simp [Value.ownBlock]))
 clear ho hb hg hHeld
 refine hK.out _ _ HX6.out (fun hHeld => ?_)
 clear hK K
 refine norm_ (a' := ?_) ?_ ?_
 rotate_left
 ·show Act.put _ (some 25) _ = _
  exact tP
 refine pQ 10 (some 3) (bA 11 2047) ?_
 refine done_ (done_of HT_.out (by kernel_rfl)) ?_
 clear hHeld HT_ HW_
 obtain ⟨A, cap, rfl, h1, h2, _⟩ := Kd.R_form HO.out (by simp)
 have hnx := fun ty => run_next_none ty HI6.out HM6.out
 go_wp2
 rw [rounds_succ]
 go_wp2_with (go_at_call 242; refine (sort1_cell _ _ _ _).mono ?_; rintro e w' ⟨rfl, rfl⟩)
 go_ret
 exact ⟨A, cap, rfl, (Kd.R_reads' HO.out).2.1, HO.out, HB6.out⟩
end
section
open Go.RowKit Go.Shelf Go.Proofs.YtljfljekcpdpiaaGreatW.PrintWords Go.Proofs.YtljfljekcpdpiaaGreatW.PrintLast Go.Proofs.YtljfljekcpdpiaaGreatW.PrintMore
attribute [local go_sem] Oper.semAt_some
theorem results_ct {fn : Func} {p u : Tmp} {ty : TypeId} (h : fn.results = #[.cell p ty, .tmp u]) (tmps : Array Value) (w : World) (g : Nat) (v : Value) (hp : tmps.getD p undef = .pointer (some ⟨g, 0, none⟩)) (hl : (loadVar ty ⟨g, 0, none⟩).run Tryz.prog w = .ok v w) :
  (results fn tmps).run Tryz.prog w = .ok (.tuple #[v, tmps.getD u undef]) w := by
 have hp' : tmps[p]?.getD undef = .pointer (some ⟨g, 0, none⟩) := by simpa using hp
 simp [results, h, hp', asAddr, hl]
def dwnT : Bool × List (List Nat × List Nat) := (true, [([], []), ([], []), ([1], [1]), ([], []), ([3], [3]), ([2, 4], [2, 4]), ([0, 0], [0]), ([5, 6, 0, 1, 2, 3, 4, 5, 6], [5])])
def dwnB : List Nat := [0, 0, 2, 0, 8, 30, 1, 127]
theorem dwn_tab : rtab .any (opsOf Tryz.f269 2) = dwnT := by kernel_rfl
theorem dwn_bits : waitsOk dwnT.2 dwnB = true := by kernel_rfl
def uppT : Bool × List (List Nat × List Nat) := (true, [([], []), ([], []), ([1], [1]), ([], []), ([3], [3]), ([2, 4], [2, 4]), ([0, 0], [0]), ([5, 6, 0, 1, 2, 3, 4, 5, 6], [5])])
def uppB : List Nat := [0, 0, 2, 0, 8, 30, 1, 127]
theorem upp_tab : rtab .any (opsOf Tryz.f271 2) = uppT := by kernel_rfl
theorem upp_bits : waitsOk uppT.2 uppB = true := by kernel_rfl
def inAT : Bool × List (List Nat × List Nat) := (true, [([], []), ([0], [0]), ([], []), ([2], [2]), ([3], [3]), ([4], [4]), ([], []), ([6], [6]), ([7], [7]), ([5, 8], [5, 8]), ([1, 9], [1, 9]), ([], []), ([11], [11]), ([], []), ([13], [13]), ([14], [14]), ([15], [15]), ([], []), ([17], [17]), ([18], [18]), ([16, 19], [16, 19]), ([12, 20], [12, 20]), ([0, 1, 2, 3, 4, 5, 6, 7, 8, 9, 10, 11, 12], []), ([22, 10, 0, 1, 2, 3, 4, 5, 6, 7, 8, 9, 10, 11, 12], [10, 22]), ([0, 1, 2, 3, 4, 5, 6, 7, 8, 9, 10, 11, 12, 13, 14, 15, 16, 17, 18, 19, 20, 21, 22, 23], []), ([24, 21, 23, 0, 1, 2, 3, 4, 5, 6, 7, 8, 9, 10, 11, 12, 13, 14, 15, 16, 17, 18, 19, 20, 21, 22, 23], [21, 24])])
def inAB : List Nat := [0, 1, 0, 4, 12, 28, 0, 64, 192, 508, 1023, 0, 2048, 0, 8192, 24576, 57344, 0, 131072, 393216, 1040384, 2095104, 8191, 4202495, 16777215, 33554431]
theorem inA_tab : rtab .any (opsOf Tryz.f273 1) = inAT := by kernel_rfl
theorem inA_bits : waitsOk inAT.2 inAB = true := by kernel_rfl
def inBT : Bool × List (List Nat × List Nat) := (true, [([], []), ([], []), ([1], [1]), ([], []), ([3], [3]), ([2, 4], [2, 4]), ([0, 0], [0]), ([5, 6, 0, 1, 2, 3, 4, 5, 6], [5])])
def inBB : List Nat := [0, 0, 2, 0, 8, 30, 1, 127]
theorem inB_tab : rtab .any (opsOf Tryz.f273 2) = inBT := by kernel_rfl
theorem inB_bits : waitsOk inBT.2 inBB = true := by kernel_rfl
theorem none_calls (w : World) : Calls Tryz.prog 268 #[.agg #[.int .i64 995, .int .i64 1005, .int .i64 3, .int .i64 4, .int .i64 0, .int .i64 10, .int .i64 1, .int .i64 2, .int .i64 1]] w fun e w' => e = .returned (.agg #[.int .i64 0, .int .i64 0]) ∧ Below w.heap.size w w' := by
 obtain ⟨b1, b2, hb0, hsz⟩ := blk_two w (.cells #[.int .i64 995, .int .i64 1005, .int .i64 3, .int .i64 4, .int .i64 0, .int .i64 10, .int .i64 1, .int .i64 2, .int .i64 1] 232) (.cells #[.int .i64 0, .int .i64 0] 27)
 go_enter Tryz.func268, Tryz.ntmps268
 go_wp2
 refine bodyPost_ret (results_cell_row rfl _ _ (w.heap.size + 1) 27 #[.int .i64 0, .int .i64 0] (0, 0) _ rfl b2 Tryz.underlying27 rfl (by kernel_rfl)) rfl ?_
 exact ⟨rfl, hb0⟩
theorem down_calls (w : World) : Calls Tryz.prog 269 #[.agg #[.int .i64 995, .int .i64 1005, .int .i64 3, .int .i64 4, .int .i64 0, .int .i64 10, .int .i64 1, .int .i64 2, .int .i64 1], .agg #[.int .i64 1000, .int .i64 1000]] w fun e w' => e = .returned (.tuple #[.agg #[.int .i64 1004, .int .i64 1000], .bool false]) ∧ Below w.heap.size w w' := by
 obtain ⟨b1, b2, b3, hb0, hsz⟩ := blk_three w (.cells #[.int .i64 995, .int .i64 1005, .int .i64 3, .int .i64 4, .int .i64 0, .int .i64 10, .int .i64 1, .int .i64 2, .int .i64 1] 232) (.cells #[.int .i64 1004, .int .i64 1000] 27) (.cells #[.int .i64 0, .int .i64 0] 27)
 go_enter Tryz.func269, Tryz.ntmps269
 go_upto_region 2 with (fail)
 rw [show max (1000 : Int) 1004 = 1004 from by decide]
 have HB := Sd.mk hb0
 have BS := Sd.mk b2
 have BR := Sd.mk b3
 clear hb0 b1 b2 b3 hsz
 generalize ((w.alloc (.cells #[.int .i64 995, .int .i64 1005, .int .i64 3, .int .i64 4, .int .i64 0, .int .i64 10, .int .i64 1, .int .i64 2, .int .i64 1] 232)).alloc (.cells #[.int .i64 1004, .int .i64 1000] 27)).alloc (.cells #[.int .i64 0, .int .i64 0] 27) = W0 at HB BS BR ⊢
 refine start_ (n := 8) (S := fun w' => w'.heap[w.heap.size + 1]? = some (.cells #[.int .i64 1004, .int .i64 1000] 27 (0, 0))) (ds := []) (bA 8 0) (by kernel_rfl) rfl rfl BS.out (fun hHeld => ?_); refine with_tabW dwn_tab dwn_bits (fun HT_ HW_ => ?_)
 have HBd := Sd.mk (below_drew1 HB.out)
 have BSd := Sd.mk (blk_drew BS.out)
 have BRd := Sd.mk (blk_drew BR.out)
 clear HB BS BR
 generalize W0.drew = W1 at HBd BSd BRd hHeld ⊢
 refine take_ (i := 0) (N := some 19) (v := ?_) (a' := ?_) (bA 8 1) rfl rfl (take_ofW HT_.out HW_.out (by kernel_rfl)) (fun _ _ _ h => h) (Or.inl ⟨by rfl, ?_⟩) hHeld ?_ ?_
 rotate_left
 ·rintro w' hx
  have s0 : w'.cell? ⟨w.heap.size + 1, 0, none⟩ = some (.int .i64 1004) := (blk_cell hx 0).trans rfl
  have s1 : w'.cell? ⟨w.heap.size + 1, 0 + 1, none⟩ = some (.int .i64 1000) := (blk_cell hx 1).trans rfl
  go_simp
  with_reducible rfl
 rotate_left
 ·exact tP
 refine pQ 1 (some 20) (bA 8 3) ?_
 refine take_ (i := 2) (N := some 21) (v := ?_) (a' := ?_) (bA 8 7) rfl rfl (take_ofW HT_.out HW_.out (by kernel_rfl)) (fun _ _ _ h => h) (Or.inl ⟨by rfl, ?_⟩) hHeld ?_ ?_
 rotate_left
 ·rintro w' hx
  have s0 : w'.cell? ⟨w.heap.size + 1, 0, none⟩ = some (.int .i64 1004) := (blk_cell hx 0).trans rfl
  go_simp
  with_reducible rfl
 rotate_left
 ·exact tP
 refine pQ 3 (some 22) (bA 8 15) ?_
 refine take_ (i := 4) (N := some 23) (v := ?_) (a' := ?_) (bA 8 31) rfl rfl (take_ofW HT_.out HW_.out (by kernel_rfl)) (fun _ _ _ h => h) (Or.inl ⟨by rfl, ?_⟩) hHeld ?_ ?_
 rotate_left
 ·rintro w' hx
  have s1 : w'.cell? ⟨w.heap.size + 1, 0 + 1, none⟩ = some (.int .i64 1000) := (blk_cell hx 1).trans rfl
  go_simp
  with_reducible rfl
 rotate_left
 ·exact tP
 refine pQ 5 (some 24) (bA 8 63) ?_
 refine one_ (i := 6) (N := none) (bA 8 127) rfl rfl (one_of HT_.out (by kernel_rfl)) (by decide) (fun K hK => ?_)
 have hr0 : W1.cell? ⟨w.heap.size + 1 + 1, 0, none⟩ = some (.int .i64 0) := (blk_cell BRd.out 0).trans rfl
 have hr1 : W1.cell? ⟨w.heap.size + 1 + 1, 0 + 1, none⟩ = some (.int .i64 0) := (blk_cell BRd.out 1).trans rfl
 have hf0 := blk_frozen BRd.out 0
 have hf1 := blk_frozen BRd.out (0 + 1)
 go_simp
 clear hr0 hr1 hf0 hf1
 refine hK.out _ _ (blk_far (blk_far BSd.out (p := ⟨w.heap.size + 1 + 1, 0, none⟩) (by dsimp only; omega) _) (p := ⟨w.heap.size + 1 + 1, 1, none⟩) (by dsimp only; omega) _) (fun hHeld => ?_)
 clear hK K
 refine pQ 7 (some 5) (bA 8 255) ?_
 refine done_ (done_of HT_.out (by kernel_rfl)) ?_
 clear HT_ HW_ hHeld
 go_wp2
 have BF := blk_put (blk_put BRd.out 0 (.int .i64 1004) rfl) 1 (.int .i64 1000) rfl
 refine bodyPost_ret (results_ct rfl _ _ (w.heap.size + 1 + 1) (.agg #[.int .i64 1004, .int .i64 1000]) rfl (run_loadVar_row _ _ 27 27 _ (0, 0) _ BF Tryz.underlying27 rfl (by kernel_rfl))) rfl ?_
 exact ⟨rfl, below_set (below_set HBd.out (by omega)) (by omega)⟩
theorem up_calls (w : World) : Calls Tryz.prog 271 #[.agg #[.int .i64 995, .int .i64 1005, .int .i64 3, .int .i64 4, .int .i64 0, .int .i64 10, .int .i64 1, .int .i64 2, .int .i64 1], .agg #[.int .i64 1000, .int .i64 1000]] w fun e w' => e = .returned (.tuple #[.agg #[.int .i64 1000, .int .i64 996], .bool false]) ∧ Below w.heap.size w w' := by
 obtain ⟨b1, b2, b3, hb0, hsz⟩ := blk_three w (.cells #[.int .i64 995, .int .i64 1005, .int .i64 3, .int .i64 4, .int .i64 0, .int .i64 10, .int .i64 1, .int .i64 2, .int .i64 1] 232) (.cells #[.int .i64 1000, .int .i64 996] 27) (.cells #[.int .i64 0, .int .i64 0] 27)
 go_enter Tryz.func271, Tryz.ntmps271
 go_upto_region 2 with (fail)
 rw [show min (1000 : Int) 996 = 996 from by decide]
 have HB := Sd.mk hb0
 have BS := Sd.mk b2
 have BR := Sd.mk b3
 clear hb0 b1 b2 b3 hsz
 generalize ((w.alloc (.cells #[.int .i64 995, .int .i64 1005, .int .i64 3, .int .i64 4, .int .i64 0, .int .i64 10, .int .i64 1, .int .i64 2, .int .i64 1] 232)).alloc (.cells #[.int .i64 1000, .int .i64 996] 27)).alloc (.cells #[.int .i64 0, .int .i64 0] 27) = W0 at HB BS BR ⊢
 refine start_ (n := 8) (S := fun w' => w'.heap[w.heap.size + 1]? = some (.cells #[.int .i64 1000, .int .i64 996] 27 (0, 0))) (ds := []) (bA 8 0) (by kernel_rfl) rfl rfl BS.out (fun hHeld => ?_); refine with_tabW upp_tab upp_bits (fun HT_ HW_ => ?_)
 have HBd := Sd.mk (below_drew1 HB.out)
 have BSd := Sd.mk (blk_drew BS.out)
 have BRd := Sd.mk (blk_drew BR.out)
 clear HB BS BR
 generalize W0.drew = W1 at HBd BSd BRd hHeld ⊢
 refine take_ (i := 0) (N := some 19) (v := ?_) (a' := ?_) (bA 8 1) rfl rfl (take_ofW HT_.out HW_.out (by kernel_rfl)) (fun _ _ _ h => h) (Or.inl ⟨by rfl, ?_⟩) hHeld ?_ ?_
 rotate_left
 ·rintro w' hx
  have s0 : w'.cell? ⟨w.heap.size + 1, 0, none⟩ = some (.int .i64 1000) := (blk_cell hx 0).trans rfl
  have s1 : w'.cell? ⟨w.heap.size + 1, 0 + 1, none⟩ = some (.int .i64 996) := (blk_cell hx 1).trans rfl
  go_simp
  with_reducible rfl
 rotate_left
 ·exact tP
 refine pQ 1 (some 20) (bA 8 3) ?_
 refine take_ (i := 2) (N := some 21) (v := ?_) (a' := ?_) (bA 8 7) rfl rfl (take_ofW HT_.out HW_.out (by kernel_rfl)) (fun _ _ _ h => h) (Or.inl ⟨by rfl, ?_⟩) hHeld ?_ ?_
 rotate_left
 ·rintro w' hx
  have s0 : w'.cell? ⟨w.heap.size + 1, 0, none⟩ = some (.int .i64 1000) := (blk_cell hx 0).trans rfl
  go_simp
  with_reducible rfl
 rotate_left
 ·exact tP
 refine pQ 3 (some 22) (bA 8 15) ?_
 refine take_ (i := 4) (N := some 23) (v := ?_) (a' := ?_) (bA 8 31) rfl rfl (take_ofW HT_.out HW_.out (by kernel_rfl)) (fun _ _ _ h => h) (Or.inl ⟨by rfl, ?_⟩) hHeld ?_ ?_
 rotate_left
 ·rintro w' hx
  have s1 : w'.cell? ⟨w.heap.size + 1, 0 + 1, none⟩ = some (.int .i64 996) := (blk_cell hx 1).trans rfl
  go_simp
  with_reducible rfl
 rotate_left
 ·exact tP
 refine pQ 5 (some 24) (bA 8 63) ?_
 refine one_ (i := 6) (N := none) (bA 8 127) rfl rfl (one_of HT_.out (by kernel_rfl)) (by decide) (fun K hK => ?_)
 have hr0 : W1.cell? ⟨w.heap.size + 1 + 1, 0, none⟩ = some (.int .i64 0) := (blk_cell BRd.out 0).trans rfl
 have hr1 : W1.cell? ⟨w.heap.size + 1 + 1, 0 + 1, none⟩ = some (.int .i64 0) := (blk_cell BRd.out 1).trans rfl
 have hf0 := blk_frozen BRd.out 0
 have hf1 := blk_frozen BRd.out (0 + 1)
 go_simp
 clear hr0 hr1 hf0 hf1
 refine hK.out _ _ (blk_far (blk_far BSd.out (p := ⟨w.heap.size + 1 + 1, 0, none⟩) (by dsimp only; omega) _) (p := ⟨w.heap.size + 1 + 1, 1, none⟩) (by dsimp only; omega) _) (fun hHeld => ?_)
 clear hK K
 refine pQ 7 (some 5) (bA 8 255) ?_
 refine done_ (done_of HT_.out (by kernel_rfl)) ?_
 clear HT_ HW_ hHeld
 go_wp2
 have BF := blk_put (blk_put BRd.out 0 (.int .i64 1000) rfl) 1 (.int .i64 996) rfl
 refine bodyPost_ret (results_ct rfl _ _ (w.heap.size + 1 + 1) (.agg #[.int .i64 1000, .int .i64 996]) rfl (run_loadVar_row _ _ 27 27 _ (0, 0) _ BF Tryz.underlying27 rfl (by kernel_rfl))) rfl ?_
 exact ⟨rfl, below_set (below_set HBd.out (by omega)) (by omega)⟩
theorem in_calls (w : World) : Calls Tryz.prog 273 #[.agg #[.int .i64 995, .int .i64 1005, .int .i64 3, .int .i64 4, .int .i64 0, .int .i64 10, .int .i64 1, .int .i64 2, .int .i64 1], .agg #[.int .i64 1000, .int .i64 1000]] w fun e w' => e = .returned (.tuple #[.agg #[.int .i64 1000, .int .i64 1000], .bool true]) ∧ Below w.heap.size w w' := by
 obtain ⟨b1, b2, b3, hb0, hsz⟩ := blk_three w (.cells #[.int .i64 995, .int .i64 1005, .int .i64 3, .int .i64 4, .int .i64 0, .int .i64 10, .int .i64 1, .int .i64 2, .int .i64 1] 232) (.cells #[.int .i64 1000, .int .i64 1000] 27) (.cells #[.int .i64 0, .int .i64 0] 27)
 go_enter Tryz.func273, Tryz.ntmps273
 go_upto_region 1 with (fail)
 have HB := Sd.mk hb0
 have BL := Sd.mk b1
 have BS := Sd.mk b2
 have BR := Sd.mk b3
 clear hb0 b1 b2 b3 hsz
 generalize ((w.alloc (.cells #[.int .i64 995, .int .i64 1005, .int .i64 3, .int .i64 4, .int .i64 0, .int .i64 10, .int .i64 1, .int .i64 2, .int .i64 1] 232)).alloc (.cells #[.int .i64 1000, .int .i64 1000] 27)).alloc (.cells #[.int .i64 0, .int .i64 0] 27) = W0 at HB BL BS BR ⊢
 refine start_ (n := 26) (S := fun w' => w'.heap[w.heap.size]? = some (.cells #[.int .i64 995, .int .i64 1005, .int .i64 3, .int .i64 4, .int .i64 0, .int .i64 10, .int .i64 1, .int .i64 2, .int .i64 1] 232 (0, 0)) ∧ w'.heap[w.heap.size + 1]? = some (.cells #[.int .i64 1000, .int .i64 1000] 27 (0, 0))) (ds := []) (bA 26 0) (by kernel_rfl) rfl rfl ⟨BL.out, BS.out⟩ (fun hHeld => ?_); refine with_tabW inA_tab inA_bits (fun HT_ HW_ => ?_)
 have HBd := Sd.mk (below_drew1 HB.out)
 have BSd := Sd.mk (blk_drew BS.out)
 have BLd := Sd.mk (blk_drew BL.out)
 have BRd := Sd.mk (blk_drew BR.out)
 clear HB BS BR BL
 generalize W0.drew = W1 at HBd BSd BRd BLd hHeld ⊢
 refine pQ 0 (some 6) (bA 26 1) ?_
 refine take_ (i := 1) (N := some 7) (v := ?_) (a' := ?_) (bA 26 3) rfl rfl (take_ofW HT_.out HW_.out (by kernel_rfl)) (fun _ _ _ h => h) (Or.inl ⟨by rfl, ?_⟩) hHeld ?_ ?_
 rotate_left
 ·rintro w' ⟨hL, hS⟩
  have s0 : w'.cell? ⟨w.heap.size + 1, 0, none⟩ = some (.int .i64 1000) := (blk_cell hS 0).trans rfl
  go_simp
  with_reducible rfl
 rotate_left
 ·exact tP
 refine pQ 2 (some 8) (bA 26 7) ?_
 refine pQ 3 (some 9) (bA 26 15) ?_
 refine pQ 4 (some 10) (bA 26 31) ?_
 refine take_ (i := 5) (N := some 11) (v := ?_) (a' := ?_) (bA 26 63) rfl rfl (take_ofW HT_.out HW_.out (by kernel_rfl)) (fun _ _ _ h => h) (Or.inl ⟨by rfl, ?_⟩) hHeld ?_ ?_
 rotate_left
 ·rintro w' ⟨hL, hS⟩
  have s0 : w'.cell? ⟨w.heap.size, 0, none⟩ = some (.int .i64 995) := (blk_cell hL 0).trans rfl
  go_simp
  with_reducible rfl
 rotate_left
 ·exact tP
 refine pQ 6 (some 12) (bA 26 127) ?_
 refine pQ 7 (some 13) (bA 26 255) ?_
 refine take_ (i := 8) (N := some 14) (v := ?_) (a' := ?_) (bA 26 511) rfl rfl (take_ofW HT_.out HW_.out (by kernel_rfl)) (fun _ _ _ h => h) (Or.inl ⟨by rfl, ?_⟩) hHeld ?_ ?_
 rotate_left
 ·rintro w' ⟨hL, hS⟩
  have s0 : w'.cell? ⟨w.heap.size, 7, none⟩ = some (.int .i64 2) := (blk_cell hL 7).trans rfl
  go_simp
  with_reducible rfl
 rotate_left
 ·exact tP
 refine pQ 9 (some 15) (bA 26 1023) ?_
 rw [show wrap64 993 = 993 from by kernel_rfl]
 refine pQ 10 (some 16) (bA 26 2047) ?_
 rw [show max (1000 : Int) 993 = 1000 from by decide]
 refine pQ 11 (some 17) (bA 26 4095) ?_
 refine take_ (i := 12) (N := some 18) (v := ?_) (a' := ?_) (bA 26 8191) rfl rfl (take_ofW HT_.out HW_.out (by kernel_rfl)) (fun _ _ _ h => h) (Or.inl ⟨by rfl, ?_⟩) hHeld ?_ ?_
 rotate_left
 ·rintro w' ⟨hL, hS⟩
  have s0 : w'.cell? ⟨w.heap.size + 1, 0 + 1, none⟩ = some (.int .i64 1000) := (blk_cell hS 1).trans rfl
  go_simp
  with_reducible rfl
 rotate_left
 ·exact tP
 refine pQ 13 (some 19) (bA 26 16383) ?_
 refine pQ 14 (some 20) (bA 26 32767) ?_
 refine pQ 15 (some 21) (bA 26 65535) ?_
 refine take_ (i := 16) (N := some 22) (v := ?_) (a' := ?_) (bA 26 131071) rfl rfl (take_ofW HT_.out HW_.out (by kernel_rfl)) (fun _ _ _ h => h) (Or.inl ⟨by rfl, ?_⟩) hHeld ?_ ?_
 rotate_left
 ·rintro w' ⟨hL, hS⟩
  have s0 : w'.cell? ⟨w.heap.size, 1, none⟩ = some (.int .i64 1005) := (blk_cell hL 1).trans rfl
  go_simp
  with_reducible rfl
 rotate_left
 ·exact tP
 refine pQ 17 (some 23) (bA 26 262143) ?_
 refine pQ 18 (some 24) (bA 26 524287) ?_
 refine take_ (i := 19) (N := some 25) (v := ?_) (a' := ?_) (bA 26 1048575) rfl rfl (take_ofW HT_.out HW_.out (by kernel_rfl)) (fun _ _ _ h => h) (Or.inl ⟨by rfl, ?_⟩) hHeld ?_ ?_
 rotate_left
 ·rintro w' ⟨hL, hS⟩
  have s0 : w'.cell? ⟨w.heap.size, 7, none⟩ = some (.int .i64 2) := (blk_cell hL 7).trans rfl
  go_simp
  with_reducible rfl
 rotate_left
 ·exact tP
 refine pQ 20 (some 26) (bA 26 2097151) ?_
 rw [show wrap64 1007 = 1007 from by kernel_rfl]
 refine pQ 21 (some 27) (bA 26 4194303) ?_
 rw [show min (1000 : Int) 1007 = 1000 from by decide]
 refine pQ 22 (some 28) (bA 26 8388607) ?_
 refine one_ (i := 23) (N := none) (bA 26 16777215) rfl rfl (one_of HT_.out (by kernel_rfl)) (by decide) (fun K hK => ?_)
 have hr0 : W1.cell? ⟨w.heap.size + 1, 0, none⟩ = some (.int .i64 1000) := (blk_cell BSd.out 0).trans rfl
 have hf0 := blk_frozen BSd.out 0
 go_simp
 clear hr0 hf0
 have HB2 := Sd.mk (below_set (j := 0) (v := .int .i64 1000) HBd.out (show w.heap.size ≤ w.heap.size + 1 by omega))
 have BS2 := Sd.mk (blk_put BSd.out 0 (.int .i64 1000) rfl)
 have BL2 := Sd.mk (blk_far BLd.out (p := ⟨w.heap.size + 1, 0, none⟩) (by dsimp only; omega) (.int .i64 1000))
 have BR2 := Sd.mk (blk_far BRd.out (p := ⟨w.heap.size + 1, 0, none⟩) (by dsimp only; omega) (.int .i64 1000))
 clear HBd BSd BLd BRd
 generalize W1.setCell ⟨w.heap.size + 1, 0, none⟩ (.int .i64 1000) = W2 at HB2 BS2 BL2 BR2 ⊢
 refine hK.out _ _ ⟨BL2.out, BS2.out⟩ (fun hHeld => ?_)
 clear hK K
 refine pQ 24 (some 29) (bA 26 33554431) ?_
 refine one_ (i := 25) (N := none) (bA 26 67108863) rfl rfl (one_of HT_.out (by kernel_rfl)) (by decide) (fun K hK => ?_)
 have hr0 : W2.cell? ⟨w.heap.size + 1, 1, none⟩ = some (.int .i64 1000) := (blk_cell BS2.out 1).trans rfl
 have hf0 : W2.frozen? ⟨w.heap.size + 1, 1, none⟩ = false := blk_frozen BS2.out 1
 go_simp
 clear hr0 hf0
 have HB := Sd.mk (below_set (j := 1) (v := .int .i64 1000) HB2.out (show w.heap.size ≤ w.heap.size + 1 by omega))
 have BS := Sd.mk (blk_put BS2.out 1 (.int .i64 1000) rfl)
 have BL := Sd.mk (blk_far BL2.out (p := ⟨w.heap.size + 1, 1, none⟩) (by dsimp only; omega) (.int .i64 1000))
 have BR := Sd.mk (blk_far BR2.out (p := ⟨w.heap.size + 1, 1, none⟩) (by dsimp only; omega) (.int .i64 1000))
 clear HB2 BS2 BL2 BR2
 generalize W2.setCell ⟨w.heap.size + 1, 1, none⟩ (.int .i64 1000) = W0 at HB BS BL BR ⊢
 refine hK.out _ _ ⟨BL.out, BS.out⟩ (fun hHeld => ?_)
 clear hK K
 refine done_ (done_of HT_.out (by kernel_rfl)) ?_
 clear HT_ HW_ hHeld BL
 go_upto_region 2 with (fail)
 refine start_ (n := 8) (S := fun w' => w'.heap[w.heap.size + 1]? = some (.cells #[.int .i64 1000, .int .i64 1000] 27 (0, 0))) (ds := []) (bA 8 0) (by kernel_rfl) rfl rfl BS.out (fun hHeld => ?_); refine with_tabW inB_tab inB_bits (fun HT_ HW_ => ?_)
 have HBd := Sd.mk (below_drew1 HB.out)
 have BSd := Sd.mk (blk_drew BS.out)
 have BRd := Sd.mk (blk_drew BR.out)
 clear HB BS BR
 generalize W0.drew = W1 at HBd BSd BRd hHeld ⊢
 refine take_ (i := 0) (N := some 30) (v := ?_) (a' := ?_) (bA 8 1) rfl rfl (take_ofW HT_.out HW_.out (by kernel_rfl)) (fun _ _ _ h => h) (Or.inl ⟨by rfl, ?_⟩) hHeld ?_ ?_
 rotate_left
 ·rintro w' hx
  have s0 : w'.cell? ⟨w.heap.size + 1, 0, none⟩ = some (.int .i64 1000) := (blk_cell hx 0).trans rfl
  have s1 : w'.cell? ⟨w.heap.size + 1, 0 + 1, none⟩ = some (.int .i64 1000) := (blk_cell hx 1).trans rfl
  go_simp
  with_reducible rfl
 rotate_left
 ·exact tP
 refine pQ 1 (some 31) (bA 8 3) ?_
 refine take_ (i := 2) (N := some 32) (v := ?_) (a' := ?_) (bA 8 7) rfl rfl (take_ofW HT_.out HW_.out (by kernel_rfl)) (fun _ _ _ h => h) (Or.inl ⟨by rfl, ?_⟩) hHeld ?_ ?_
 rotate_left
 ·rintro w' hx
  have s0 : w'.cell? ⟨w.heap.size + 1, 0, none⟩ = some (.int .i64 1000) := (blk_cell hx 0).trans rfl
  go_simp
  with_reducible rfl
 rotate_left
 ·exact tP
 refine pQ 3 (some 33) (bA 8 15) ?_
 refine take_ (i := 4) (N := some 34) (v := ?_) (a' := ?_) (bA 8 31) rfl rfl (take_ofW HT_.out HW_.out (by kernel_rfl)) (fun _ _ _ h => h) (Or.inl ⟨by rfl, ?_⟩) hHeld ?_ ?_
 rotate_left
 ·rintro w' hx
  have s1 : w'.cell? ⟨w.heap.size + 1, 0 + 1, none⟩ = some (.int .i64 1000) := (blk_cell hx 1).trans rfl
  go_simp
  with_reducible rfl
 rotate_left
 ·exact tP
 refine pQ 5 (some 35) (bA 8 63) ?_
 refine one_ (i := 6) (N := none) (bA 8 127) rfl rfl (one_of HT_.out (by kernel_rfl)) (by decide) (fun K hK => ?_)
 have hr0 : W1.cell? ⟨w.heap.size + 1 + 1, 0, none⟩ = some (.int .i64 0) := (blk_cell BRd.out 0).trans rfl
 have hr1 : W1.cell? ⟨w.heap.size + 1 + 1, 0 + 1, none⟩ = some (.int .i64 0) := (blk_cell BRd.out 1).trans rfl
 have hf0 := blk_frozen BRd.out 0
 have hf1 := blk_frozen BRd.out (0 + 1)
 go_simp
 clear hr0 hr1 hf0 hf1
 refine hK.out _ _ (blk_far (blk_far BSd.out (p := ⟨w.heap.size + 1 + 1, 0, none⟩) (by dsimp only; omega) _) (p := ⟨w.heap.size + 1 + 1, 1, none⟩) (by dsimp only; omega) _) (fun hHeld => ?_)
 clear hK K
 refine pQ 7 (some 5) (bA 8 255) ?_
 refine done_ (done_of HT_.out (by kernel_rfl)) ?_
 clear HT_ HW_ hHeld
 go_wp2
 have BF := blk_put (blk_put BRd.out 0 (.int .i64 1000) rfl) 1 (.int .i64 1000) rfl
 refine bodyPost_ret (results_ct rfl _ _ (w.heap.size + 1 + 1) (.agg #[.int .i64 1000, .int .i64 1000]) rfl (run_loadVar_row _ _ 27 27 _ (0, 0) _ BF Tryz.underlying27 rfl (by kernel_rfl))) rfl ?_
 exact ⟨rfl, below_set (below_set HBd.out (by omega)) (by omega)⟩
def movesO : Obj := .cells #[.int .i64 (-1), .func (.func 269) #[.agg #[.int .i64 995, .int .i64 1005, .int .i64 3, .int .i64 4, .int .i64 0, .int .i64 10, .int .i64 1, .int .i64 2, .int .i64 1]] #[], .func (.func 270) #[.agg #[.int .i64 995, .int .i64 1005, .int .i64 3, .int .i64 4, .int .i64 0, .int .i64 10, .int .i64 1, .int .i64 2, .int .i64 1]] #[], .int .i64 1, .func (.func 271) #[.agg #[.int .i64 995, .int .i64 1005, .int .i64 3, .int .i64 4, .int .i64 0, .int .i64 10, .int .i64 1, .int .i64 2, .int .i64 1]] #[], .func (.func 272) #[.agg #[.int .i64 995, .int .i64 1005, .int .i64 3, .int .i64 4, .int .i64 0, .int .i64 10, .int .i64 1, .int .i64 2, .int .i64 1]] #[], .int .i64 0, .func (.func 273) #[.agg #[.int .i64 995, .int .i64 1005, .int .i64 3, .int .i64 4, .int .i64 0, .int .i64 10, .int .i64 1, .int .i64 2, .int .i64 1]] #[], .func (.func 268) #[.agg #[.int .i64 995, .int .i64 1005, .int .i64 3, .int .i64 4, .int .i64 0, .int .i64 10, .int .i64 1, .int .i64 2, .int .i64 1]] #[]] 284
theorem moves_calls (w : World) : Calls Tryz.prog 256 #[.agg #[.int .i64 995, .int .i64 1005, .int .i64 3, .int .i64 4, .int .i64 0, .int .i64 10, .int .i64 1, .int .i64 2, .int .i64 1], .agg #[.int .i64 0, .int .i64 5]] w fun e w' => ∃ B, e = .returned (.slice (some ⟨B, 0, none⟩) 3 3) ∧ w'.heap[B]? = some movesO ∧ Below w.heap.size w w' := by
 have hmf := run_makeFunc_
 obtain ⟨b1, b2, b3, hb0, hsz⟩ := blk_three w (.cells #[.int .i64 995, .int .i64 1005, .int .i64 3, .int .i64 4, .int .i64 0, .int .i64 10, .int .i64 1, .int .i64 2, .int .i64 1] 232) (.cells #[.int .i64 0, .int .i64 5] 253) movesO
 unfold movesO at b1 b2 b3 hb0 hsz
 go_enter Tryz.func256, Tryz.ntmps256
 go_wp2
 go_ret
 exact ⟨w.heap.size + 1 + 1, rfl, b3, hb0⟩
end
section
open Go.RowKit Go.Shelf Go.Proofs.YtljfljekcpdpiaaGreatW.PrintWords Go.Proofs.YtljfljekcpdpiaaGreatW.PrintLast Go.Proofs.YtljfljekcpdpiaaGreatW.PrintMore
attribute [local go_sem] Oper.semAt_some
section
variable {F : Fence} {n : Nat} {P : Program} {ops : Array Oper} {Q : Exit → Act → World → Prop} {md : Region.Mode} {S : World → Prop} {ds : List Nat}
def YieldsIfF (P : Program) (ops : Array Oper) (S : World → Prop) (o : Oper) (v : Value) (a : Act) : Prop := YieldsIf P ops S o v a ∧ ∀ w, o.about P w a.eval = none
theorem YieldsIfF.wpOpIn {i : Nat} {o : Oper} {v : Value} {a : Act} (hro : F.round = none) (hi : ops[i]? = some o) (hy : YieldsIfF P ops S o v a) {K : Act → World → Prop} {w : World} (hS : S w) (h : K (a.put o.dst v) w) : wpOpIn F n P ops Q i K a w := by
 unfold Go.wpOpIn
 simp only [hi]
 have hab : ∀ f, o.about P w a.eval = some f → F.fn f := fun f hf => by rw [hy.2 w] at hf; cases hf
 rcases hy.1 with ⟨hw, hv⟩ | ⟨hw, rfl⟩
 ·simp only [hw, if_true, Oper.wpIn, hro, Oper.semAt_none, hv w hS, Oper.uponIn]; exact ⟨hab, h⟩
 ·simp only [hw, Bool.false_eq_true, if_false]; exact ⟨hab, h⟩
theorem YieldsIfF.of_same {o : Oper} {v : Value} {a a' : Act} (hy : YieldsIfF P ops S o v a) (he : execOp a'.eval o = execOp a.eval o)
  (hw : Region.wanted o (yielded ops a'.tmps) = Region.wanted o (yielded ops a.tmps)) (hb : ∀ w, o.about P w a'.eval = o.about P w a.eval) : YieldsIfF P ops S o v a' :=
 ⟨hy.1.of_same he hw, fun w => by rw [hb w]; exact hy.2 w⟩
theorem wpOpIn_putIf {j : Nat} {oi oj : Oper} {v : Value} (hro : F.round = none) (hj : ops[j]? = some oj) (hap : oi.apart ops oj = true)
  (hsi : ∀ cs b, oi.op ≠ .select cs b) (hsj : ∀ cs b, oj.op ≠ .select cs b)
  (hQ : ∀ c a w, Q (.panic c) (a.put oi.dst v) w → Q (.panic c) a w) {K : Act → World → Prop} {a : Act} {w : World}
  (hy : YieldsIfF P ops S oi v a) (h : wpOpIn F n P ops Q j K (a.put oi.dst v) w) :
  wpOpIn F n P ops Q j (fun a' w' => YieldsIfF P ops S oi v a' ∧ K (a'.put oi.dst v) w') a w := by
 obtain ⟨h1, h2, h3⟩ := Oper.apart_spec hap
 have keep : ∀ (a : Act), YieldsIfF P ops S oi v a → ∀ u, YieldsIfF P ops S oi v (a.put oj.dst u) := fun a hy u =>
  hy.of_same (execOp_put oi hsi a oj.dst u h3) (wanted_put oi a oj.dst u h3) (fun w => about_put oi w a oj.dst u h3)
 have keepD : ∀ d, YieldsIfF P ops S oi v { a with defers := d :: a.defers } := fun d => hy.of_same rfl rfl (fun _ => rfl)
 unfold wpOpIn at *
 simp only [hj] at *
 rw [wanted_put oj a oi.dst v h1, about_put oj w a oi.dst v h1] at h
 split
 ·rename_i hw
  simp only [hw, if_true] at h
  unfold Oper.wpIn at *
  rw [about_put oj w a oi.dst v h1] at h
  refine ⟨h.1, ?_⟩
  have h := h.2
  rw [hro, Oper.semAt_none, execOp_put oj hsj a oi.dst v h1] at h
  rw [hro, Oper.semAt_none]
  generalize (execOp a.eval oj).run P w = r at *
  cases r with
  | ok x w' =>
   cases x <;> simp only [Oper.uponIn] at h ⊢
   case value u => exact ⟨keep a hy u, by rw [← Act.put_comm a v u h2]; exact h⟩
   case skip => exact ⟨keep a hy _, by rw [← Act.put_comm a v undef h2]; exact h⟩
   case defer d =>
    refine ⟨keep _ (keepD d) _, ?_⟩
    rw [← Act.put_comm _ v undef h2, ← Act.put_defers]
    exact h
   case enter f args =>
    refine ⟨h.1, CallsIn.mono h.2 fun e w'' he => ?_⟩
    cases e with
    | returned u => exact ⟨keep a hy u, by rw [← Act.put_comm a v u h2]; exact he⟩
    | panicked c => exact hQ _ _ _ he
    | outgrown => exact he
   case row row args => exact ⟨h.1, RowsIn.mono h.2 fun u w'' he => ⟨keep a hy u, by rw [← Act.put_comm a v u h2]; exact he⟩⟩
   case round l f tmps assign body =>
    refine ⟨h.1, RoundIn.mono h.2 fun e w'' he => ?_⟩
    cases e with
    | returned u => exact ⟨keep a hy u, by rw [← Act.put_comm a v u h2]; exact he⟩
    | panicked c => exact hQ _ _ _ he
    | outgrown => exact he
  | halt x w' =>
   cases x <;> simp only [Oper.uponIn] at h ⊢
   case panic u => exact hQ _ _ _ h
 ·rename_i hw
  simp only [hw] at h
  exact ⟨h.1, keep a hy _, by rw [← Act.put_comm a v undef h2]; exact h.2⟩
def wpAnyLastIn (F : Fence) (n : Nat) (P : Program) (md : Region.Mode) (ops : Array Oper) (Q : Exit → Act → World → Prop) (S : World → Prop) (ds : List Nat) : Nat → Array Bool → Act → World → Prop
 | 0, listed, a, w => Region.ready md ops listed = [] ∧ Q .normal a w
 | fuel + 1, listed, a, w =>
  (Region.ready md ops listed = [] → Q .normal a w) ∧
  ∀ i ∈ Region.ready md ops listed, wpOpIn F n P ops Q i (fun a' w' => (i ∉ ds → S w → S w') ∧ wpAnyLastIn F n P md ops Q S ds fuel (listed.setIfInBounds i true) a' w') a w
theorem wpAnyIn_of_last : ∀ (fuel : Nat) (listed : Array Bool) (a : Act) (w : World), wpAnyLastIn F n P md ops Q S ds fuel listed a w → wpAnyIn F n P md ops Q fuel listed a w
 | 0, _, _, _, h => h
 | fuel + 1, _, _, _, h => ⟨h.1, fun i hi => wpOpIn_mono (fun a' w' h' => wpAnyIn_of_last fuel _ a' w' h'.2) (h.2 i hi)⟩
theorem wpAnyLastIn_first {i : Nat} {oi : Oper} {v : Value} (hro : F.round = none) (hi : ops[i]? = some oi) (hsel : ∀ (j : Nat) (o : Oper) cs b, ops[j]? = some o → o.op ≠ .select cs b)
  (hQ : ∀ c a w, Q (.panic c) (a.put oi.dst v) w → Q (.panic c) a w) (m : Nat) :
  ∀ (fuel : Nat) (listed : Array Bool) (a : Act) (w : World),
   (∀ j oj, ops[j]? = some oj → j ≠ i → listed.getD j true = false → (∀ e ∈ oj.after, Region.binds md e = true → e.on ≠ i) → oi.apart ops oj = true) →
   ListedClosed md ops listed → (∀ d ∈ ds, listed.getD d true = false → Region.reachB md ops i m d = true) →
   i ∈ Region.ready md ops listed → YieldsIfF P ops S oi v a → S w →
   wpAnyLastIn F n P md ops Q S ds fuel (listed.setIfInBounds i true) (a.put oi.dst v) w → wpAnyLastIn F n P md ops Q S ds (fuel + 1) listed a w := by
 intro fuel
 induction fuel with
 | zero =>
  intro listed a w _ _ _ hr hy hS H
  refine ⟨fun h => (by rw [h] at hr; cases hr), fun j hj => ?_⟩
  by_cases hji : j = i
  ·subst hji; exact hy.wpOpIn hro hi hS ⟨fun _ h => h, H⟩
  ·have := ready_mono hj hji
   rw [H.1] at this
   cases this
 | succ fuel ih =>
  intro listed a w hfree hc hd hr hy hS H
  refine ⟨fun h => (by rw [h] at hr; cases hr), fun j hj => ?_⟩
  by_cases hji : j = i
  ·subst hji; exact hy.wpOpIn hro hi hS ⟨fun _ h => h, H⟩
  ·have h1 := H.2 j (ready_mono hj hji)
   obtain ⟨hjun, oj, hoj, hall⟩ := mem_ready.1 hj
   have hiun := (mem_ready.1 hr).1
   have hnot : ∀ e ∈ oj.after, Region.binds md e = true → e.on ≠ i := fun e he hb heq => by
    have h1 := hall e he hb
    rw [heq] at h1
    rcases Nat.lt_or_ge i listed.size with h' | h'
    ·simp [h'] at hiun h1; rw [hiun] at h1; cases h1
    ·simp [Array.getElem?_eq_none h'] at h1
   have hjd : j ∉ ds := fun hm => Region.reach_not_ready hc (hd j hm hjun) hiun hj
   have h2 := wpOpIn_putIf hro hoj (hfree j oj hoj hji hjun hnot) (fun cs b => hsel i oi cs b hi) (fun cs b => hsel j oj cs b hoj) hQ hy h1
   have hfree' : ∀ k ok, ops[k]? = some ok → k ≠ i → (listed.setIfInBounds j true).getD k true = false →
     (∀ e ∈ ok.after, Region.binds md e = true → e.on ≠ i) → oi.apart ops ok = true := fun k ok hk hki hun hno => by
    refine hfree k ok hk hki ?_ hno
    by_cases hjk : j = k
    ·subst hjk; exact hjun
    ·rw [getD_set_ne true hjk] at hun; exact hun
   have hd' : ∀ d ∈ ds, (listed.setIfInBounds j true).getD d true = false → Region.reachB md ops i m d = true := fun d hm hun => by
    refine hd d hm ?_
    by_cases hjk : j = d
    ·subst hjk; exact hjun
    ·rw [getD_set_ne true hjk] at hun; exact hun
   refine wpOpIn_mono (fun a' w' h3 => ⟨h3.2.1, ih (listed.setIfInBounds j true) a' w' hfree' (hc.set hj) hd' (ready_mono hr (Ne.symm hji)) h3.1 (h3.2.1 hjd hS) ?_⟩) h2
   rw [Array.setIfInBounds_comm _ _ hji]
   exact h3.2.2
theorem startF_ {id m : Nat} {a : Act} {w : World} (l : Array Bool) (hm : P.follows .mixedOrders = true) (hn : ops.size = m) (hl : Array.replicate m false = l) (hS : S w.drew)
  (h : S w.drew → wpAnyLastIn F n P .any ops Q S ds m l a w.drew) : (Code.region id ops true).wpIn F n P Q a w := by
 subst hn
 subst hl
 exact wpIn_region_any hm (wpAnyIn_of_last _ _ _ _ (h hS))
theorem takeF_ {i : Nat} {N : Option Tmp} {oi : Oper} {v : Value} {fuel : Nat} {l : Array Bool} {a : Act} {w : World} (l' : Array Bool) (hro : F.round = none) (hi : ops[i]? = some oi) (hN : oi.dst = N) (hc : takeB md ops ds l l' i = true)
  (hQ : ∀ c a w, Q (.panic c) (a.put oi.dst v) w → Q (.panic c) a w) (hb : ∀ w, oi.about P w a.eval = none) (hy : YieldsIf P ops S oi v a) (hS : S w) {a' : Act} (ha : a.put N v = a')
  (h : wpAnyLastIn F n P md ops Q S ds fuel l' a' w) : wpAnyLastIn F n P md ops Q S ds (fuel + 1) l a w := by
 subst ha
 subst hN
 simp only [takeB, Bool.and_eq_true, beq_iff_eq] at hc
 obtain ⟨⟨⟨⟨⟨h1, h2⟩, h3⟩, h4⟩, h5⟩, h6⟩ := hc
 subst h6
 exact wpAnyLastIn_first hro hi (Region.noSelect_spec h1) hQ ops.size fuel l a w (Region.free_spec hi h2) (Region.closedB_spec h4)
  (fun d hm hun => by have := List.all_eq_true.1 h5 d hm; rw [hun] at this; simpa using this) (by simpa using h3) ⟨hy, hb⟩ hS h
theorem lastF_ {i : Nat} {N : Option Tmp} {oi : Oper} {fuel : Nat} {l : Array Bool} {a : Act} {w : World} (l' : Array Bool) (hi : ops[i]? = some oi) (hN : oi.dst = N) (hc : readyB md ops l l' i = true) (hd : i ∈ ds)
  (h : ∀ K : Act → World → Prop, Shut (∀ a' w', wpAnyLastIn F n P md ops Q S ds fuel l' a' w' → K a' w') → if Region.wanted oi (yielded ops a.tmps) = true then Oper.wpIn F n P oi a w K Q else (∀ f, oi.about P w a.eval = some f → F.fn f) ∧ K (a.put N undef) w) :
  wpAnyLastIn F n P md ops Q S ds (fuel + 1) l a w := by
 subst hN
 simp only [readyB, Bool.and_eq_true, beq_iff_eq] at hc
 obtain ⟨h1, h2⟩ := hc
 subst h2
 refine ⟨fun h0 => (by rw [h1] at h0; cases h0), fun j hj => ?_⟩
 rw [h1] at hj
 obtain rfl : j = i := by simpa using hj
 exact wpOpIn_step hi (fun K' hK => h K' (fun a' w' hW => hK a' w' ⟨fun hn => absurd hd hn, hW⟩))
theorem doneF_ {l : Array Bool} {a : Act} {w : World} {m : Nat} (hr : (Region.ready md ops l == []) = true) (h : Q .normal a w) : wpAnyLastIn F n P md ops Q S ds m l a w := by
 have hr' : Region.ready md ops l = [] := by simpa using hr
 cases m with
 | zero => exact ⟨hr', h⟩
 | succ m => exact ⟨fun _ => h, by rw [hr']; simp⟩
end
end
section
open Go.RowKit Go.Shelf Go.Proofs.YtljfljekcpdpiaaGreatW.PrintWords Go.Proofs.YtljfljekcpdpiaaGreatW.PrintLast Go.Proofs.YtljfljekcpdpiaaGreatW.PrintMore
attribute [local go_sem] Oper.semAt_some
theorem run_zero24 (w : World) : (zeroValue 24).run Tryz.prog w = .ok (.slice none 0 0) w := by kernel_rfl
theorem run_mapEntry_new {w : World} {M : Nat} (h : w.heap[M]? = some (.map #[] 0)) : (Instr.mapEntry 227 (.map (some M)) keyV).run Tryz.prog w = .ok (.tuple #[.slice none 0 0, .int .i64 0]) (w.putObj M (mapO (.slice none 0 0))) := by
 have hk := run_checkKey w false
 simp [Instr.mapEntry, Sem.run_bind, underlying, typeInfo, run_getObj_map h, Result.andThen, hk, Instr.findKey, Instr.findNow, run_setObj_map _ h, mapO, run_zero24, goInt]
theorem run_entryStore_one {w : World} {M : Nat} {v : Value} (v' : Value) (h : w.heap[M]? = some (mapO v)) : (Instr.entryStore 227 (.map (some M)) (.int .i64 0) v').run Tryz.prog w = .ok () (w.putObj M (mapO v')) := by
 unfold mapO at h
 simp [Instr.entryStore, Sem.run_bind, run_getObj_map h, Result.andThen, run_setObj_map _ h, mapO, asInt, asIntOf]
structure CmI (W0 : World) (Sx Fx M : Nat) (g : Nat) (c B X Y : Nat) (W : World) : Prop where
 hs : W.heap[Sx]? = some (.cells #[.map (some M)] 227 (0, 0))
 hf : W.heap[Fx]? = some (.cells #[.int .i64 995, .int .i64 1005, .int .i64 3, .int .i64 4, .int .i64 0, .int .i64 10, .int .i64 1, .int .i64 2, .int .i64 1] 232 (0, 0))
 hm : W.heap[M]? = some (mapO (.slice (some ⟨g, 0, none⟩) 1 c))
 sp : Kd.C k27 W (some ⟨g, 0, none⟩) 1 [⟨1000, 1000⟩]
 hi : W.heap[B]? = some (.mapIter (some M) 1 #[0] 1)
 hx : W.heap[X]? = some (.cells #[.int .i64 0, .int .i64 5] 253 (0, 0))
 hy : W.heap[Y]? = some movesO
 be : Below B W0 W
theorem CmI.step {W0 : World} {Sx Fx M : Nat} {g : Nat} {c B X Y : Nat} {W W' : World} (h : CmI W0 Sx Fx M g c B X Y W) (hb : Below W.heap.size W W') : CmI W0 Sx Fx M g c B X Y W' :=
 ⟨blk_below h.hs hb, blk_below h.hf hb, blk_below h.hm hb, Kd.C_below h.sp hb, blk_below h.hi hb, blk_below h.hx hb, blk_below h.hy hb, h.be.trans (hb.mono (Nat.le_of_lt (blk_lt h.hi)))⟩
theorem CmI.alloc {W0 : World} {Sx Fx M : Nat} {g : Nat} {c B X Y : Nat} {W : World} (h : CmI W0 Sx Fx M g c B X Y W) (o : Obj) : CmI W0 Sx Fx M g c B X Y (W.alloc o) := h.step (below_alloc (Below.refl _ _) o)
section
variable {F : Fence} {n : Nat} {P : Program} {ops : Array Oper} {Q : Exit → Act → World → Prop} {md : Region.Mode} {S : World → Prop} {ds : List Nat} {T : Bool × List (List Nat × List Nat)}
theorem with_tabF {m : Nat} {l : Array Bool} {a : Act} {w : World} {B : List Nat} (hT : rtab md ops = T) (hB : waitsOk T.2 B = true) (h : Sd (rtab md ops = T) → Sd (waitsOk T.2 B = true) → wpAnyLastIn F n P md ops Q S ds m l a w) : wpAnyLastIn F n P md ops Q S ds m l a w := h ⟨hT⟩ ⟨hB⟩
theorem normF_ {fuel : Nat} {l : Array Bool} {a a' : Act} {w : World} (ha : a = a') (h : wpAnyLastIn F n P md ops Q S ds fuel l a' w) : wpAnyLastIn F n P md ops Q S ds fuel l a w := by
 subst ha
 exact h
theorem valF_ {oi : Oper} {N : Option Tmp} {a : Act} {w : World} {K : Act → World → Prop} (v : Value) (hw : Region.wanted oi (yielded ops a.tmps) = true) (hN : oi.dst = N) (hro : F.round = none) (hab : ∀ w, oi.about P w a.eval = none)
  (hrun : (execOp a.eval oi).run P w = .ok (.value v) w)
  (h : K (a.put N v) w) : if Region.wanted oi (yielded ops a.tmps) = true then Oper.wpIn F n P oi a w K Q else (∀ f, oi.about P w a.eval = some f → F.fn f) ∧ K (a.put N undef) w := by
 rw [if_pos hw]
 subst hN
 unfold Oper.wpIn
 refine ⟨fun f hf => (by rw [hab w] at hf; cases hf), ?_⟩
 rw [hro, Oper.semAt_none, hrun, Oper.uponIn_value]
 exact h
theorem roundF_ {oi : Oper} {N : Option Tmp} {a : Act} {w : World} {K : Act → World → Prop} {l : Nat} {fn : FuncId} {tmps : Array Value} {assign body : Code} (hw : Region.wanted oi (yielded ops a.tmps) = true) (hN : oi.dst = N) (hro : F.round = none) (hab : ∀ w, oi.about P w a.eval = none) (hn : 1 ≤ n)
  (hrun : (execOp a.eval oi).run P w = .ok (.round l fn tmps assign body) w)
  (h : RoundIn F (n - 1) P l fn tmps assign body w fun e w' => ∃ v, e = .returned v ∧ K (a.put N v) w') : if Region.wanted oi (yielded ops a.tmps) = true then Oper.wpIn F n P oi a w K Q else (∀ f, oi.about P w a.eval = some f → F.fn f) ∧ K (a.put N undef) w := by
 rw [if_pos hw]
 subst hN
 unfold Oper.wpIn
 refine ⟨fun f hf => (by rw [hab w] at hf; cases hf), ?_⟩
 rw [hro, Oper.semAt_none, hrun, Oper.uponIn_round]
 refine ⟨fun _ => hn, h.mono fun e w'' hh => ?_⟩
 obtain ⟨v, rfl, hk⟩ := hh
 exact hk
end
def cmgT : Bool × List (List Nat × List Nat) := (true, [([], []), ([], []), ([1], [1]), ([2], [2]), ([], []), ([4], [4]), ([5], [5]), ([3, 6], [3, 6]), ([], []), ([8], [8]), ([], []), ([10], [10]), ([9, 11], [9, 11]), ([7, 12], [7, 12]), ([], []), ([0, 13, 14], [0, 13, 14]), ([15], [15])])
def cmgB : List Nat := [0, 0, 2, 6, 0, 16, 48, 126, 0, 256, 0, 1024, 3840, 8190, 0, 32767, 65535]
theorem cmg_tab : rtab .any (opsOf Tryz.f255 14) = cmgT := by kernel_rfl
theorem cmg_bits : waitsOk cmgT.2 cmgB = true := by kernel_rfl
theorem coming1_in (B l Sx Fx M : Nat) (g : Nat) (c : Nat) (J : Nat → World → Prop) (W : World) (hsz : W.heap.size = B)
  (hJs : ∀ k W W', Below B W W' → KeepHi (B + 1) W W' → J k W → J k W')
  (hJ : ∀ k W, J k W → W.heap[Sx]? = some (.cells #[.map (some M)] 227 (0, 0)) ∧ W.heap[Fx]? = some (.cells #[.int .i64 995, .int .i64 1005, .int .i64 3, .int .i64 4, .int .i64 0, .int .i64 10, .int .i64 1, .int .i64 2, .int .i64 1] 232 (0, 0)) ∧ W.heap[M]? = some (mapO (.slice (some ⟨g, 0, none⟩) 1 c)) ∧ Kd.C k27 W (some ⟨g, 0, none⟩) 1 [⟨1000, 1000⟩] ∧ Sx < B ∧ Fx < B ∧ M < B)
  (hY : ∀ W1, J 0 W1 → YieldAt Fence.wide 7 Tryz.prog l #[.agg #[.int .i64 0, .int .i64 5], .agg #[.int .i64 999, .int .i64 1001]] W1 fun e W' => e = .returned (.bool true) ∧ J 1 W' ∧ KeepHi B W1 W')
  (h0 : J 0 W) :
  CallsIn Fence.wide 8 Tryz.prog 255 #[.func (.yield l) #[] #[], .pointer (some ⟨Sx, 0, none⟩), .pointer (some ⟨Fx, 0, none⟩)] W fun e W' => (∃ v, e = .returned v) ∧ J 1 W' := by
 obtain ⟨ps, pf, pm, psp, ls, lf, lm⟩ := hJ _ _ h0
 have hc0 : W.cell? ⟨Sx, 0, none⟩ = some (.map (some M)) := (blk_cell ps 0).trans rfl
 have hrg := run_range_one pm
 refine callsIn_of_wp Tryz.func255 rfl trivial ?_ rfl
 simp only [Tryz.ntmps255, List.size_toArray, List.length_cons, List.length_nil, Nat.reduceAdd, Nat.reduceSub, Array.replicate_succ, Array.replicate_zero, List.push_toArray, List.append_toArray, List.nil_append, List.cons_append]
 gi_upto_region 1 with (fail)
 subst hsz
 have hI1 := blk_new W (.mapIter (some M) 1 #[] 1)
 have hM1 := blk_alloc pm (.mapIter (some M) 1 #[] 1)
 have HI1 := Sd.mk hI1
 have HM1 := Sd.mk hM1
 have HB1 := Sd.mk (below_alloc (Below.refl W.heap.size W) (.mapIter (some M) 1 #[] 1))
 have HK1 := Sd.mk (keepHi_alloc (B := W.heap.size + 1) (W := W) (.mapIter (some M) 1 #[] 1))
 have HLM := Sd.mk lm
 have HLS := Sd.mk ls
 have HLF := Sd.mk lf
 have HP := Sd.mk (And.intro ps (And.intro pf (And.intro pm psp)))
 have HJS := Sd.mk hJs
 have HJ := Sd.mk hJ
 have HY := Sd.mk hY
 have HJ0 := Sd.mk h0
 have HSZ1 : Sd ((W.alloc (.mapIter (some M) 1 #[] 1)).heap.size = W.heap.size + 1) := ⟨by simp⟩
 clear hc0 hrg hI1 hM1 lm ls lf ps pf pm psp hJs hJ hY h0
 generalize W.alloc (.mapIter (some M) 1 #[] 1) = W1 at HI1 HM1 HB1 HK1 HSZ1 ⊢
 refine wpIn_loop_rounds 2 ?_
 rw [roundsIn_succ]
 have hnx := fun ty => run_next_one ty HI1.out HM1.out
 have hM2 : (W1.putObj W.heap.size (.mapIter (some M) 1 #[0] 1)).heap[M]? = some (mapO (.slice (some ⟨g, 0, none⟩) 1 c)) := putObj_heap_keep (by have := HLM.out; omega) HM1.out
 have hI2 : (W1.putObj W.heap.size (.mapIter (some M) 1 #[0] 1)).heap[W.heap.size]? = some (.mapIter (some M) 1 #[0] 1) := World.putObj_heap_same (blk_lt HI1.out)
 have hen := run_entry_one hI2 hM2
 have HI2 := Sd.mk hI2
 have HM2 := Sd.mk hM2
 have HB2 := Sd.mk (below_putObj (o := .mapIter (some M) 1 #[0] 1) HB1.out (Nat.le_refl _) (blk_lt HI1.out))
 have HK2 := Sd.mk (HK1.out.trans (keepHi_putObj (o := .mapIter (some M) 1 #[0] 1) (W := W1) (show W.heap.size < W.heap.size + 1 by omega)))
 clear hI2 hM2
 unfold keyV at hnx hen
 gi_upto_region 3 with (fail)
 clear hnx hen
 have BX : Sd (((W1.putObj W.heap.size (.mapIter (some M) 1 #[0] 1)).alloc (.cells #[.int .i64 0, .int .i64 5] 253)).heap[W1.heap.size]? = some (.cells #[.int .i64 0, .int .i64 5] 253 (0, 0))) := ⟨by simpa using blk_new (W1.putObj W.heap.size (.mapIter (some M) 1 #[0] 1)) (.cells #[.int .i64 0, .int .i64 5] 253)⟩
 clear HI1 HM1 HB1 HK1 HK2
 generalize W1.putObj W.heap.size (.mapIter (some M) 1 #[0] 1) = W2 at HI2 HM2 HB2 BX ⊢
 have HI3 := Sd.mk (blk_alloc HI2.out (.cells #[.int .i64 0, .int .i64 5] 253))
 have HB3 := Sd.mk (below_alloc HB2.out (.cells #[.int .i64 0, .int .i64 5] 253))
 clear HI2 HM2 HB2
 generalize W2.alloc (.cells #[.int .i64 0, .int .i64 5] 253) = W3 at HI3 HB3 BX ⊢
 generalize W1.heap.size = X at BX HSZ1 ⊢
 obtain ⟨ps, pf, pm, psp⟩ := HP.out
 have PF3 := Sd.mk (blk_below pf HB3.out)
 have HF3 := Sd.mk (And.intro (blk_below ps HB3.out) (And.intro (blk_below pm HB3.out) (Kd.C_below psp HB3.out)))
 clear ps pf pm psp HP
 have hl0 : W3.cell? ⟨Fx, 0, none⟩ = some (.int .i64 995) := (blk_cell PF3.out 0).trans rfl
 have hl1 : W3.cell? ⟨Fx, 0 + 1, none⟩ = some (.int .i64 1005) := (blk_cell PF3.out 1).trans rfl
 have hl2 : W3.cell? ⟨Fx, 0 + 2, none⟩ = some (.int .i64 3) := (blk_cell PF3.out 2).trans rfl
 have hl3 : W3.cell? ⟨Fx, 0 + 3, none⟩ = some (.int .i64 4) := (blk_cell PF3.out 3).trans rfl
 have hl4 : W3.cell? ⟨Fx, 0 + 4, none⟩ = some (.int .i64 0) := (blk_cell PF3.out 4).trans rfl
 have hl5 : W3.cell? ⟨Fx, 0 + 5, none⟩ = some (.int .i64 10) := (blk_cell PF3.out 5).trans rfl
 have hl6 : W3.cell? ⟨Fx, 0 + 6, none⟩ = some (.int .i64 1) := (blk_cell PF3.out 6).trans rfl
 have hl7 : W3.cell? ⟨Fx, 0 + 7, none⟩ = some (.int .i64 2) := (blk_cell PF3.out 7).trans rfl
 have hl8 : W3.cell? ⟨Fx, 0 + 8, none⟩ = some (.int .i64 1) := (blk_cell PF3.out 8).trans rfl
 have hx0 : W3.cell? ⟨X, 0, none⟩ = some (.int .i64 0) := (blk_cell BX.out 0).trans rfl
 have hx1 : W3.cell? ⟨X, 0 + 1, none⟩ = some (.int .i64 5) := (blk_cell BX.out 1).trans rfl
 gi_upto_region 4 with (first | (refine ⟨trivial, ?_⟩; gi_at_call 256; refine (callsIn_wide.2 (moves_calls _)).mono ?_; rintro e w4 ⟨Y, rfl, hy, hb⟩; have CI : Sd (CmI W Sx Fx M g c W.heap.size X Y w4) := ⟨⟨blk_below HF3.out.1 hb, blk_below PF3.out hb, blk_below HF3.out.2.1 hb, Kd.C_below HF3.out.2.2 hb, blk_below HI3.out hb, blk_below BX.out hb, hy, HB3.out.trans (hb.mono HB3.out.size)⟩⟩; clear hy hb))
 clear hl0 hl1 hl2 hl3 hl4 hl5 hl6 hl7 hl8 hx0 hx1 PF3 HF3 HI3 HB3 BX
 refine wpIn_loop_rounds 4 ?_
 rw [roundsIn_succ]
 have hy0 : w4.cell? ⟨Y, 0, none⟩ = some (.int .i64 (-1)) := (blk_cell CI.out.hy 0).trans rfl
 have hy1 : w4.cell? ⟨Y, 0 + 1, none⟩ = some (.func (.func 269) #[.agg #[.int .i64 995, .int .i64 1005, .int .i64 3, .int .i64 4, .int .i64 0, .int .i64 10, .int .i64 1, .int .i64 2, .int .i64 1]] #[]) := (blk_cell CI.out.hy 1).trans rfl
 have hy2 : w4.cell? ⟨Y, 0 + 2, none⟩ = some (.func (.func 270) #[.agg #[.int .i64 995, .int .i64 1005, .int .i64 3, .int .i64 4, .int .i64 0, .int .i64 10, .int .i64 1, .int .i64 2, .int .i64 1]] #[]) := (blk_cell CI.out.hy 2).trans rfl
 gi_upto_region 8 with (fail)
 clear hy0 hy1 hy2
 have C7 := Sd.mk (CI.out.alloc (.cells #[.int .i64 (-1), .func (.func 269) #[.agg #[.int .i64 995, .int .i64 1005, .int .i64 3, .int .i64 4, .int .i64 0, .int .i64 10, .int .i64 1, .int .i64 2, .int .i64 1]] #[], .func (.func 270) #[.agg #[.int .i64 995, .int .i64 1005, .int .i64 3, .int .i64 4, .int .i64 0, .int .i64 10, .int .i64 1, .int .i64 2, .int .i64 1]] #[]] 274))
 have B7 := Sd.mk (blk_new w4 (.cells #[.int .i64 (-1), .func (.func 269) #[.agg #[.int .i64 995, .int .i64 1005, .int .i64 3, .int .i64 4, .int .i64 0, .int .i64 10, .int .i64 1, .int .i64 2, .int .i64 1]] #[], .func (.func 270) #[.agg #[.int .i64 995, .int .i64 1005, .int .i64 3, .int .i64 4, .int .i64 0, .int .i64 10, .int .i64 1, .int .i64 2, .int .i64 1]] #[]] 274))
 clear CI
 generalize w4.alloc (.cells #[.int .i64 (-1), .func (.func 269) #[.agg #[.int .i64 995, .int .i64 1005, .int .i64 3, .int .i64 4, .int .i64 0, .int .i64 10, .int .i64 1, .int .i64 2, .int .i64 1]] #[], .func (.func 270) #[.agg #[.int .i64 995, .int .i64 1005, .int .i64 3, .int .i64 4, .int .i64 0, .int .i64 10, .int .i64 1, .int .i64 2, .int .i64 1]] #[]] 274) = U at C7 B7 ⊢
 generalize w4.heap.size = T7 at B7 ⊢
 refine wpIn_loop_rounds 2 ?_
 rw [roundsIn_succ]
 obtain ⟨hq0, hq1⟩ := span_cells C7.out.sp
 gi_upto_region 9 with (fail)
 clear hq0 hq1
 have C9 := Sd.mk (C7.out.alloc (.cells #[.int .i64 1000, .int .i64 1000] 27))
 have B79 := Sd.mk (blk_alloc B7.out (.cells #[.int .i64 1000, .int .i64 1000] 27))
 have B9 := Sd.mk (blk_new U (.cells #[.int .i64 1000, .int .i64 1000] 27))
 clear C7 B7
 generalize U.alloc (.cells #[.int .i64 1000, .int .i64 1000] 27) = V at C9 B79 B9 ⊢
 generalize U.heap.size = T9 at B9 ⊢
 have hz0 : V.cell? ⟨T7, 1, none⟩ = some (.func (.func 269) #[.agg #[.int .i64 995, .int .i64 1005, .int .i64 3, .int .i64 4, .int .i64 0, .int .i64 10, .int .i64 1, .int .i64 2, .int .i64 1]] #[]) := (blk_cell B79.out 1).trans rfl
 have hz1 : V.cell? ⟨T9, 0, none⟩ = some (.int .i64 1000) := (blk_cell B9.out 0).trans rfl
 have hz2 : V.cell? ⟨T9, 0 + 1, none⟩ = some (.int .i64 1000) := (blk_cell B9.out 1).trans rfl
 gi_upto_region 8 with (first | (refine ⟨trivial, ?_⟩; gi_at_call 269; refine (callsIn_wide.2 (down_calls _)).mono ?_; rintro e v5 ⟨rfl, hb⟩; have CI1 := Sd.mk ((C9.out.step hb).alloc (.cells #[.int .i64 1004, .int .i64 1000] 27)); clear hb))
 clear hz0 hz1 hz2 C9 B79 B9
 rw [roundsIn_succ]
 gi_upto_region 5 with (fail)
 generalize v5.alloc (.cells #[.int .i64 1004, .int .i64 1000] 27) = w5 at CI1 ⊢
 generalize v5.heap.size = T10a
 rw [roundsIn_succ]
 have hy0 : w5.cell? ⟨Y, 3, none⟩ = some (.int .i64 1) := (blk_cell CI1.out.hy 3).trans rfl
 have hy1 : w5.cell? ⟨Y, 3 + 1, none⟩ = some (.func (.func 271) #[.agg #[.int .i64 995, .int .i64 1005, .int .i64 3, .int .i64 4, .int .i64 0, .int .i64 10, .int .i64 1, .int .i64 2, .int .i64 1]] #[]) := (blk_cell CI1.out.hy 4).trans rfl
 have hy2 : w5.cell? ⟨Y, 3 + 2, none⟩ = some (.func (.func 272) #[.agg #[.int .i64 995, .int .i64 1005, .int .i64 3, .int .i64 4, .int .i64 0, .int .i64 10, .int .i64 1, .int .i64 2, .int .i64 1]] #[]) := (blk_cell CI1.out.hy 5).trans rfl
 gi_upto_region 8 with (fail)
 clear hy0 hy1 hy2
 have C7 := Sd.mk (CI1.out.alloc (.cells #[.int .i64 1, .func (.func 271) #[.agg #[.int .i64 995, .int .i64 1005, .int .i64 3, .int .i64 4, .int .i64 0, .int .i64 10, .int .i64 1, .int .i64 2, .int .i64 1]] #[], .func (.func 272) #[.agg #[.int .i64 995, .int .i64 1005, .int .i64 3, .int .i64 4, .int .i64 0, .int .i64 10, .int .i64 1, .int .i64 2, .int .i64 1]] #[]] 274))
 have B7 := Sd.mk (blk_new w5 (.cells #[.int .i64 1, .func (.func 271) #[.agg #[.int .i64 995, .int .i64 1005, .int .i64 3, .int .i64 4, .int .i64 0, .int .i64 10, .int .i64 1, .int .i64 2, .int .i64 1]] #[], .func (.func 272) #[.agg #[.int .i64 995, .int .i64 1005, .int .i64 3, .int .i64 4, .int .i64 0, .int .i64 10, .int .i64 1, .int .i64 2, .int .i64 1]] #[]] 274))
 clear CI1
 generalize w5.alloc (.cells #[.int .i64 1, .func (.func 271) #[.agg #[.int .i64 995, .int .i64 1005, .int .i64 3, .int .i64 4, .int .i64 0, .int .i64 10, .int .i64 1, .int .i64 2, .int .i64 1]] #[], .func (.func 272) #[.agg #[.int .i64 995, .int .i64 1005, .int .i64 3, .int .i64 4, .int .i64 0, .int .i64 10, .int .i64 1, .int .i64 2, .int .i64 1]] #[]] 274) = U at C7 B7 ⊢
 generalize w5.heap.size = T7 at B7 ⊢
 refine wpIn_loop_rounds 2 ?_
 rw [roundsIn_succ]
 obtain ⟨hq0, hq1⟩ := span_cells C7.out.sp
 gi_upto_region 9 with (fail)
 clear hq0 hq1
 have C9 := Sd.mk (C7.out.alloc (.cells #[.int .i64 1000, .int .i64 1000] 27))
 have B79 := Sd.mk (blk_alloc B7.out (.cells #[.int .i64 1000, .int .i64 1000] 27))
 have B9 := Sd.mk (blk_new U (.cells #[.int .i64 1000, .int .i64 1000] 27))
 clear C7 B7
 generalize U.alloc (.cells #[.int .i64 1000, .int .i64 1000] 27) = V at C9 B79 B9 ⊢
 generalize U.heap.size = T9 at B9 ⊢
 have hz0 : V.cell? ⟨T7, 1, none⟩ = some (.func (.func 271) #[.agg #[.int .i64 995, .int .i64 1005, .int .i64 3, .int .i64 4, .int .i64 0, .int .i64 10, .int .i64 1, .int .i64 2, .int .i64 1]] #[]) := (blk_cell B79.out 1).trans rfl
 have hz1 : V.cell? ⟨T9, 0, none⟩ = some (.int .i64 1000) := (blk_cell B9.out 0).trans rfl
 have hz2 : V.cell? ⟨T9, 0 + 1, none⟩ = some (.int .i64 1000) := (blk_cell B9.out 1).trans rfl
 gi_upto_region 8 with (first | (refine ⟨trivial, ?_⟩; gi_at_call 271; refine (callsIn_wide.2 (up_calls _)).mono ?_; rintro e v5 ⟨rfl, hb⟩; have CI2 := Sd.mk ((C9.out.step hb).alloc (.cells #[.int .i64 1000, .int .i64 996] 27)); clear hb))
 clear hz0 hz1 hz2 C9 B79 B9
 rw [roundsIn_succ]
 gi_upto_region 5 with (fail)
 generalize v5.alloc (.cells #[.int .i64 1000, .int .i64 996] 27) = w6 at CI2 ⊢
 generalize v5.heap.size = T10b
 rw [roundsIn_succ]
 have hy0 : w6.cell? ⟨Y, 6, none⟩ = some (.int .i64 0) := (blk_cell CI2.out.hy 6).trans rfl
 have hy1 : w6.cell? ⟨Y, 6 + 1, none⟩ = some (.func (.func 273) #[.agg #[.int .i64 995, .int .i64 1005, .int .i64 3, .int .i64 4, .int .i64 0, .int .i64 10, .int .i64 1, .int .i64 2, .int .i64 1]] #[]) := (blk_cell CI2.out.hy 7).trans rfl
 have hy2 : w6.cell? ⟨Y, 6 + 2, none⟩ = some (.func (.func 268) #[.agg #[.int .i64 995, .int .i64 1005, .int .i64 3, .int .i64 4, .int .i64 0, .int .i64 10, .int .i64 1, .int .i64 2, .int .i64 1]] #[]) := (blk_cell CI2.out.hy 8).trans rfl
 gi_upto_region 8 with (fail)
 clear hy0 hy1 hy2
 have C7 := Sd.mk (CI2.out.alloc (.cells #[.int .i64 0, .func (.func 273) #[.agg #[.int .i64 995, .int .i64 1005, .int .i64 3, .int .i64 4, .int .i64 0, .int .i64 10, .int .i64 1, .int .i64 2, .int .i64 1]] #[], .func (.func 268) #[.agg #[.int .i64 995, .int .i64 1005, .int .i64 3, .int .i64 4, .int .i64 0, .int .i64 10, .int .i64 1, .int .i64 2, .int .i64 1]] #[]] 274))
 have B7 := Sd.mk (blk_new w6 (.cells #[.int .i64 0, .func (.func 273) #[.agg #[.int .i64 995, .int .i64 1005, .int .i64 3, .int .i64 4, .int .i64 0, .int .i64 10, .int .i64 1, .int .i64 2, .int .i64 1]] #[], .func (.func 268) #[.agg #[.int .i64 995, .int .i64 1005, .int .i64 3, .int .i64 4, .int .i64 0, .int .i64 10, .int .i64 1, .int .i64 2, .int .i64 1]] #[]] 274))
 clear CI2
 generalize w6.alloc (.cells #[.int .i64 0, .func (.func 273) #[.agg #[.int .i64 995, .int .i64 1005, .int .i64 3, .int .i64 4, .int .i64 0, .int .i64 10, .int .i64 1, .int .i64 2, .int .i64 1]] #[], .func (.func 268) #[.agg #[.int .i64 995, .int .i64 1005, .int .i64 3, .int .i64 4, .int .i64 0, .int .i64 10, .int .i64 1, .int .i64 2, .int .i64 1]] #[]] 274) = U at C7 B7 ⊢
 generalize w6.heap.size = T7 at B7 ⊢
 refine wpIn_loop_rounds 2 ?_
 rw [roundsIn_succ]
 obtain ⟨hq0, hq1⟩ := span_cells C7.out.sp
 gi_upto_region 9 with (fail)
 clear hq0 hq1
 have C9 := Sd.mk (C7.out.alloc (.cells #[.int .i64 1000, .int .i64 1000] 27))
 have B79 := Sd.mk (blk_alloc B7.out (.cells #[.int .i64 1000, .int .i64 1000] 27))
 have B9 := Sd.mk (blk_new U (.cells #[.int .i64 1000, .int .i64 1000] 27))
 clear C7 B7
 generalize U.alloc (.cells #[.int .i64 1000, .int .i64 1000] 27) = V at C9 B79 B9 ⊢
 generalize U.heap.size = T9 at B9 ⊢
 have hz0 : V.cell? ⟨T7, 1, none⟩ = some (.func (.func 273) #[.agg #[.int .i64 995, .int .i64 1005, .int .i64 3, .int .i64 4, .int .i64 0, .int .i64 10, .int .i64 1, .int .i64 2, .int .i64 1]] #[]) := (blk_cell B79.out 1).trans rfl
 have hz1 : V.cell? ⟨T9, 0, none⟩ = some (.int .i64 1000) := (blk_cell B9.out 0).trans rfl
 have hz2 : V.cell? ⟨T9, 0 + 1, none⟩ = some (.int .i64 1000) := (blk_cell B9.out 1).trans rfl
 gi_upto_region 12 with (first | (refine ⟨trivial, ?_⟩; gi_at_call 273; refine (callsIn_wide.2 (in_calls _)).mono ?_; rintro e v5 ⟨rfl, hb⟩; have CV := Sd.mk (C9.out.step hb); have BV7 := Sd.mk (blk_below B79.out hb); have HBV := Sd.mk (below_alloc (Below.refl v5.heap.size v5) (.cells #[.int .i64 1000, .int .i64 1000] 27)); have CA := Sd.mk ((C9.out.step hb).alloc (.cells #[.int .i64 1000, .int .i64 1000] 27)); have BA := Sd.mk (blk_alloc (blk_below B79.out hb) (.cells #[.int .i64 1000, .int .i64 1000] 27)); have BN := Sd.mk (blk_new v5 (.cells #[.int .i64 1000, .int .i64 1000] 27)); clear hb hz0 hz1 hz2 C9 B79 B9; have hz0 : (v5.alloc (.cells #[.int .i64 1000, .int .i64 1000] 27)).cell? ⟨T7, 2, none⟩ = some (.func (.func 268) #[.agg #[.int .i64 995, .int .i64 1005, .int .i64 3, .int .i64 4, .int .i64 0, .int .i64 10, .int .i64 1, .int .i64 2, .int .i64 1]] #[]) := (blk_cell BA.out 2).trans rfl) | (refine ⟨trivial, ?_⟩; gi_at_call 268; refine (callsIn_wide.2 (none_calls _)).mono ?_; rintro e v6 ⟨rfl, hb⟩; clear hz0; have HBV2 := Sd.mk (below_alloc (below_then HBV.out HBV.out.size hb) (.cells #[.int .i64 0, .int .i64 0] 27)); have CB := Sd.mk ((CA.out.step hb).alloc (.cells #[.int .i64 0, .int .i64 0] 27)); have BB := Sd.mk (blk_alloc (blk_below BA.out hb) (.cells #[.int .i64 0, .int .i64 0] 27)); have BP := Sd.mk (blk_alloc (blk_below BN.out hb) (.cells #[.int .i64 0, .int .i64 0] 27)); have BZ := Sd.mk (blk_new v6 (.cells #[.int .i64 0, .int .i64 0] 27)); clear hb CA BA BN HBV))
 generalize v6.alloc (.cells #[.int .i64 0, .int .i64 0] 27) = w7 at CB BB BP BZ HBV2 ⊢
 obtain ⟨P, hPe⟩ : ∃ P, v5.heap.size = P := ⟨_, rfl⟩
 rw [hPe] at BP ⊢
 have HPE := Sd.mk hPe
 clear hPe BB
 generalize v6.heap.size = Z at BZ ⊢
 have hl0 : w7.cell? ⟨Fx, 0, none⟩ = some (.int .i64 995) := (blk_cell CB.out.hf 0).trans rfl
 have hl1 : w7.cell? ⟨Fx, 0 + 1, none⟩ = some (.int .i64 1005) := (blk_cell CB.out.hf 1).trans rfl
 have hl2 : w7.cell? ⟨Fx, 0 + 2, none⟩ = some (.int .i64 3) := (blk_cell CB.out.hf 2).trans rfl
 have hl3 : w7.cell? ⟨Fx, 0 + 3, none⟩ = some (.int .i64 4) := (blk_cell CB.out.hf 3).trans rfl
 have hl4 : w7.cell? ⟨Fx, 0 + 4, none⟩ = some (.int .i64 0) := (blk_cell CB.out.hf 4).trans rfl
 have hl5 : w7.cell? ⟨Fx, 0 + 5, none⟩ = some (.int .i64 10) := (blk_cell CB.out.hf 5).trans rfl
 have hl6 : w7.cell? ⟨Fx, 0 + 6, none⟩ = some (.int .i64 1) := (blk_cell CB.out.hf 6).trans rfl
 have hl7 : w7.cell? ⟨Fx, 0 + 7, none⟩ = some (.int .i64 2) := (blk_cell CB.out.hf 7).trans rfl
 have hl8 : w7.cell? ⟨Fx, 0 + 8, none⟩ = some (.int .i64 1) := (blk_cell CB.out.hf 8).trans rfl
 have hm1 : w7.cell? ⟨Fx, 1, none⟩ = some (.int .i64 1005) := (blk_cell CB.out.hf 1).trans rfl
 have hm2 : w7.cell? ⟨Fx, 2, none⟩ = some (.int .i64 3) := (blk_cell CB.out.hf 2).trans rfl
 have hm3 : w7.cell? ⟨Fx, 3, none⟩ = some (.int .i64 4) := (blk_cell CB.out.hf 3).trans rfl
 have hm4 : w7.cell? ⟨Fx, 4, none⟩ = some (.int .i64 0) := (blk_cell CB.out.hf 4).trans rfl
 have hm5 : w7.cell? ⟨Fx, 5, none⟩ = some (.int .i64 10) := (blk_cell CB.out.hf 5).trans rfl
 have hm6 : w7.cell? ⟨Fx, 6, none⟩ = some (.int .i64 1) := (blk_cell CB.out.hf 6).trans rfl
 have hm7 : w7.cell? ⟨Fx, 7, none⟩ = some (.int .i64 2) := (blk_cell CB.out.hf 7).trans rfl
 have hm8 : w7.cell? ⟨Fx, 8, none⟩ = some (.int .i64 1) := (blk_cell CB.out.hf 8).trans rfl
 have hp0 : w7.cell? ⟨P, 0, none⟩ = some (.int .i64 1000) := (blk_cell BP.out 0).trans rfl
 have hq0 : w7.cell? ⟨Z, 0, none⟩ = some (.int .i64 0) := (blk_cell BZ.out 0).trans rfl
 have hp1 : w7.cell? ⟨P, 1, none⟩ = some (.int .i64 1000) := (blk_cell BP.out 1).trans rfl
 have hq1 : w7.cell? ⟨Z, 1, none⟩ = some (.int .i64 0) := (blk_cell BZ.out 1).trans rfl
 have hf0 := blk_frozen BP.out 0
 gi_upto_region 13 with (fail)
 have hp1' : (w7.setCell ⟨P, 0, none⟩ (.int .i64 999)).cell? ⟨P, 1, none⟩ = some (.int .i64 1000) := (blk_cell (blk_put BP.out 0 (.int .i64 999) rfl) 1).trans rfl
 have hf1 := blk_frozen (blk_put BP.out 0 (.int .i64 999) rfl) 1
 gi_upto_region 14 with (fail)
 clear hp0 hp1 hq0 hq1 hf0 hf1 hp1' hl0 hl1 hl2 hl3 hl4 hl5 hl6 hl7 hl8 hm1 hm2 hm3 hm4 hm5 hm6 hm7 hm8
 have H8 := Sd.mk (below_set (j := 1) (v := .int .i64 1001) (below_set (j := 0) (v := .int .i64 999) HBV2.out (show v5.heap.size ≤ P by have := HPE.out; omega)) (show v5.heap.size ≤ P by have := HPE.out; omega))
 have C8 := Sd.mk (CV.out.step H8.out)
 have B8 := Sd.mk (blk_below BV7.out H8.out)
 have P8 := Sd.mk (blk_put (blk_put BP.out 0 (.int .i64 999) rfl) 1 (.int .i64 1001) rfl)
 clear CV BV7 HBV2 CB BP BZ H8
 generalize (w7.setCell ⟨P, 0, none⟩ (.int .i64 999)).setCell ⟨P, 1, none⟩ (.int .i64 1001) = w8 at C8 B8 P8 ⊢
 refine startF_ (n := 8) (m := 17) (S := fun w' => w'.heap[X]? = some (.cells #[.int .i64 0, .int .i64 5] 253 (0, 0)) ∧ w'.heap[Fx]? = some (.cells #[.int .i64 995, .int .i64 1005, .int .i64 3, .int .i64 4, .int .i64 0, .int .i64 10, .int .i64 1, .int .i64 2, .int .i64 1] 232 (0, 0)) ∧ w'.heap[T7]? = some (.cells #[.int .i64 0, .func (.func 273) #[.agg #[.int .i64 995, .int .i64 1005, .int .i64 3, .int .i64 4, .int .i64 0, .int .i64 10, .int .i64 1, .int .i64 2, .int .i64 1]] #[], .func (.func 268) #[.agg #[.int .i64 995, .int .i64 1005, .int .i64 3, .int .i64 4, .int .i64 0, .int .i64 10, .int .i64 1, .int .i64 2, .int .i64 1]] #[]] 274 (0, 0)) ∧ w'.heap[P]? = some (.cells #[.int .i64 999, .int .i64 1001] 27 (0, 0))) (ds := [15, 16]) (bA 17 0) (by kernel_rfl) rfl rfl ⟨C8.out.hx, C8.out.hf, B8.out, P8.out⟩ (fun hHeld => ?_); refine with_tabF cmg_tab cmg_bits (fun HT_ HW_ => ?_)
 have C9 := Sd.mk (C8.out.step (below_drew1 (Below.refl _ _)))
 clear C8 B8 P8
 generalize w8.drew = w9 at C9 hHeld ⊢
 refine takeF_ (i := 0) (N := some 66) (v := ?_) (a' := ?_) (bA 17 1) rfl rfl rfl (take_ofW HT_.out HW_.out (by kernel_rfl)) (fun _ _ _ h => h) (fun _ => rfl) (Or.inl ⟨by rfl, ?_⟩) hHeld ?_ ?_
 rotate_left
 ·rintro w' ⟨hX, hL, hM, hP⟩
  go_simp
  with_reducible rfl
 rotate_left
 ·exact tP
 refine takeF_ (i := 1) (N := some 67) (v := ?_) (a' := ?_) (bA 17 3) rfl rfl rfl (take_ofW HT_.out HW_.out (by kernel_rfl)) (fun _ _ _ h => h) (fun _ => rfl) (Or.inl ⟨by rfl, ?_⟩) hHeld ?_ ?_
 rotate_left
 ·rintro w' ⟨hX, hL, hM, hP⟩
  go_simp
  with_reducible rfl
 rotate_left
 ·exact tP
 refine takeF_ (i := 2) (N := some 68) (v := ?_) (a' := ?_) (bA 17 7) rfl rfl rfl (take_ofW HT_.out HW_.out (by kernel_rfl)) (fun _ _ _ h => h) (fun _ => rfl) (Or.inl ⟨by rfl, ?_⟩) hHeld ?_ ?_
 rotate_left
 ·rintro w' ⟨hX, hL, hM, hP⟩
  have s0 : w'.cell? ⟨X, 0, none⟩ = some (.int .i64 0) := (blk_cell hX 0).trans rfl
  go_simp
  with_reducible rfl
 rotate_left
 ·exact tP
 refine takeF_ (i := 3) (N := some 69) (v := ?_) (a' := ?_) (bA 17 15) rfl rfl rfl (take_ofW HT_.out HW_.out (by kernel_rfl)) (fun _ _ _ h => h) (fun _ => rfl) (Or.inl ⟨by rfl, ?_⟩) hHeld ?_ ?_
 rotate_left
 ·rintro w' ⟨hX, hL, hM, hP⟩
  go_simp
  with_reducible rfl
 rotate_left
 ·exact tP
 refine takeF_ (i := 4) (N := some 70) (v := ?_) (a' := ?_) (bA 17 31) rfl rfl rfl (take_ofW HT_.out HW_.out (by kernel_rfl)) (fun _ _ _ h => h) (fun _ => rfl) (Or.inl ⟨by rfl, ?_⟩) hHeld ?_ ?_
 rotate_left
 ·rintro w' ⟨hX, hL, hM, hP⟩
  go_simp
  with_reducible rfl
 rotate_left
 ·exact tP
 refine takeF_ (i := 5) (N := some 71) (v := ?_) (a' := ?_) (bA 17 63) rfl rfl rfl (take_ofW HT_.out HW_.out (by kernel_rfl)) (fun _ _ _ h => h) (fun _ => rfl) (Or.inl ⟨by rfl, ?_⟩) hHeld ?_ ?_
 rotate_left
 ·rintro w' ⟨hX, hL, hM, hP⟩
  go_simp
  with_reducible rfl
 rotate_left
 ·exact tP
 refine takeF_ (i := 6) (N := some 72) (v := ?_) (a' := ?_) (bA 17 127) rfl rfl rfl (take_ofW HT_.out HW_.out (by kernel_rfl)) (fun _ _ _ h => h) (fun _ => rfl) (Or.inl ⟨by rfl, ?_⟩) hHeld ?_ ?_
 rotate_left
 ·rintro w' ⟨hX, hL, hM, hP⟩
  have s0 : w'.cell? ⟨Fx, 8, none⟩ = some (.int .i64 1) := (blk_cell hL 8).trans rfl
  go_simp
  with_reducible rfl
 rotate_left
 ·exact tP
 refine takeF_ (i := 7) (N := some 73) (v := ?_) (a' := ?_) (bA 17 255) rfl rfl rfl (take_ofW HT_.out HW_.out (by kernel_rfl)) (fun _ _ _ h => h) (fun _ => rfl) (Or.inl ⟨by rfl, ?_⟩) hHeld ?_ ?_
 rotate_left
 ·rintro w' ⟨hX, hL, hM, hP⟩
  go_simp
  with_reducible rfl
 rotate_left
 ·exact tP
 refine takeF_ (i := 8) (N := some 74) (v := ?_) (a' := ?_) (bA 17 511) rfl rfl rfl (take_ofW HT_.out HW_.out (by kernel_rfl)) (fun _ _ _ h => h) (fun _ => rfl) (Or.inl ⟨by rfl, ?_⟩) hHeld ?_ ?_
 rotate_left
 ·rintro w' ⟨hX, hL, hM, hP⟩
  go_simp
  with_reducible rfl
 rotate_left
 ·exact tP
 refine takeF_ (i := 9) (N := some 75) (v := ?_) (a' := ?_) (bA 17 1023) rfl rfl rfl (take_ofW HT_.out HW_.out (by kernel_rfl)) (fun _ _ _ h => h) (fun _ => rfl) (Or.inl ⟨by rfl, ?_⟩) hHeld ?_ ?_
 rotate_left
 ·rintro w' ⟨hX, hL, hM, hP⟩
  have s0 : w'.cell? ⟨X, 1, none⟩ = some (.int .i64 5) := (blk_cell hX 1).trans rfl
  go_simp
  with_reducible rfl
 rotate_left
 ·exact tP
 refine takeF_ (i := 10) (N := some 76) (v := ?_) (a' := ?_) (bA 17 2047) rfl rfl rfl (take_ofW HT_.out HW_.out (by kernel_rfl)) (fun _ _ _ h => h) (fun _ => rfl) (Or.inl ⟨by rfl, ?_⟩) hHeld ?_ ?_
 rotate_left
 ·rintro w' ⟨hX, hL, hM, hP⟩
  go_simp
  with_reducible rfl
 rotate_left
 ·exact tP
 refine takeF_ (i := 11) (N := some 77) (v := ?_) (a' := ?_) (bA 17 4095) rfl rfl rfl (take_ofW HT_.out HW_.out (by kernel_rfl)) (fun _ _ _ h => h) (fun _ => rfl) (Or.inl ⟨by rfl, ?_⟩) hHeld ?_ ?_
 rotate_left
 ·rintro w' ⟨hX, hL, hM, hP⟩
  have s0 : w'.cell? ⟨T7, 0, none⟩ = some (.int .i64 0) := (blk_cell hM 0).trans rfl
  go_simp
  with_reducible rfl
 rotate_left
 ·exact tP
 refine takeF_ (i := 12) (N := some 78) (v := ?_) (a' := ?_) (bA 17 8191) rfl rfl rfl (take_ofW HT_.out HW_.out (by kernel_rfl)) (fun _ _ _ h => h) (fun _ => rfl) (Or.inl ⟨by rfl, ?_⟩) hHeld ?_ ?_
 rotate_left
 ·rintro w' ⟨hX, hL, hM, hP⟩
  go_simp
  with_reducible rfl
 rotate_left
 ·exact tP
 rw [show wrap64 5 = 5 from by kernel_rfl]
 refine takeF_ (i := 13) (N := some 79) (v := ?_) (a' := ?_) (bA 17 16383) rfl rfl rfl (take_ofW HT_.out HW_.out (by kernel_rfl)) (fun _ _ _ h => h) (fun _ => rfl) (Or.inl ⟨by rfl, ?_⟩) hHeld ?_ ?_
 rotate_left
 ·rintro w' ⟨hX, hL, hM, hP⟩
  go_simp
  with_reducible rfl
 rotate_left
 ·exact tP
 refine takeF_ (i := 14) (N := some 80) (v := ?_) (a' := ?_) (bA 17 32767) rfl rfl rfl (take_ofW HT_.out HW_.out (by kernel_rfl)) (fun _ _ _ h => h) (fun _ => rfl) (Or.inl ⟨by rfl, ?_⟩) hHeld ?_ ?_
 rotate_left
 ·rintro w' ⟨hX, hL, hM, hP⟩
  have s0 : w'.cell? ⟨P, 0, none⟩ = some (.int .i64 999) := (blk_cell hP 0).trans rfl
  have s1 : w'.cell? ⟨P, 0 + 1, none⟩ = some (.int .i64 1001) := (blk_cell hP 1).trans rfl
  go_simp
  with_reducible rfl
 rotate_left
 ·exact tP
 refine lastF_ (i := 15) (N := some 81) (bA 17 65535) rfl rfl (one_of HT_.out (by kernel_rfl)) (by decide) (fun K hK => ?_)
 obtain ⟨fn, tmps, assign, body, hy, hR⟩ := HY.out w9 (HJS.out 0 W w9 C9.out.be ⟨C9.out.be.size, fun j h1 h2 => absurd h2 (by omega)⟩ HJ0.out)
 refine roundF_ (l := l) (fn := fn) (tmps := tmps) (assign := assign) (body := body) (N := some 81) (by rfl) rfl rfl (fun _ => rfl) (by decide) (by go_simp) ?_
 refine hR.mono ?_
 rintro e w10 ⟨rfl, hj1, hk1⟩
 refine ⟨_, rfl, hK.out _ _ ?_⟩
 clear hK K hy hR hHeld
 have HI10 := Sd.mk ((hk1.block _ (Nat.le_refl _) (blk_lt C9.out.hi)).trans C9.out.hi)
 have HJ1 := Sd.mk hj1
 clear hj1 hk1 C9
 refine normF_ (a' := ?_) ?_ ?_
 rotate_left
 ·show Act.put _ (some 81) _ = _
  exact tP
 refine lastF_ (i := 16) (N := some 82) (bA 17 131071) rfl rfl (one_of HT_.out (by kernel_rfl)) (by decide) (fun K hK => ?_)
 refine valF_ (.bool false) (by rfl) rfl rfl (fun _ => rfl) (by go_simp) ?_
 refine hK.out _ _ ?_
 clear hK K
 refine normF_ (a' := ?_) ?_ ?_
 rotate_left
 ·show Act.put _ (some 82) _ = _
  exact tP
 refine doneF_ (done_of HT_.out (by kernel_rfl)) ?_
 clear HT_ HW_
 gi_upto_region 7 with (fail)
 rw [roundsIn_succ]
 gi_upto_region 4 with (fail)
 rw [roundsIn_succ]
 gi_upto_region 1 with (fail)
 rw [roundsIn_succ]
 obtain ⟨_, _, hm10, _⟩ := HJ.out _ _ HJ1.out
 have hnn := fun ty => run_next_none ty HI10.out hm10
 clear hm10 HI10
 gi_wp2
 refine bodyPost_end (results_none rfl _ _ _) rfl ?_
 exact ⟨⟨_, rfl⟩, HJ1.out⟩
end
section
open Go.RowKit Go.Shelf Go.Proofs.YtljfljekcpdpiaaGreatW.PrintWords Go.Proofs.YtljfljekcpdpiaaGreatW.PrintLast Go.Proofs.YtljfljekcpdpiaaGreatW.PrintMore
attribute [local go_sem] Oper.semAt_some
structure NxI (M g c b s : Nat) (k : Nat) (W : World) : Prop where
 b2 : W.heap[b + 2]? = some (.cells #[.map (some (b + 1))] 227 (0, 0))
 b3 : W.heap[b + 3]? = some (.cells #[.int .i64 995, .int .i64 1005, .int .i64 3, .int .i64 4, .int .i64 0, .int .i64 10, .int .i64 1, .int .i64 2, .int .i64 1] 232 (0, 0))
 b4 : W.heap[b + 4]? = some (.cells #[.map (some M)] 227 (0, 0))
 m : W.heap[M]? = some (mapO (.slice (some ⟨g, 0, none⟩) 1 c))
 sp : Kd.C k27 W (some ⟨g, 0, none⟩) 1 [⟨1000, 1000⟩]
 out : (k = 0 ∧ W.heap[b + 1]? = some (.map #[] 0)) ∨ (k = 1 ∧ ∃ v, W.heap[b + 1]? = some (mapO v) ∧ Kd.R k27 27 W (s + 3) (fun k => s + 3 ≤ k) v [⟨999, 1001⟩])
theorem blk_five (w : World) (o1 o2 o3 o4 o5 : Obj) : (((((w.alloc o1).alloc o2).alloc o3).alloc o4).alloc o5).heap[w.heap.size]? = some o1 ∧ (((((w.alloc o1).alloc o2).alloc o3).alloc o4).alloc o5).heap[w.heap.size + 1]? = some o2 ∧ (((((w.alloc o1).alloc o2).alloc o3).alloc o4).alloc o5).heap[w.heap.size + 2]? = some o3 ∧ (((((w.alloc o1).alloc o2).alloc o3).alloc o4).alloc o5).heap[w.heap.size + 3]? = some o4 ∧ (((((w.alloc o1).alloc o2).alloc o3).alloc o4).alloc o5).heap[w.heap.size + 4]? = some o5 ∧ (((((w.alloc o1).alloc o2).alloc o3).alloc o4).alloc o5).heap.size = w.heap.size + 5 ∧ Below w.heap.size w (((((w.alloc o1).alloc o2).alloc o3).alloc o4).alloc o5) := by
 have a1 := blk_new w o1
 have a2 := blk_new (w.alloc o1) o2
 have a3 := blk_new ((w.alloc o1).alloc o2) o3
 have a4 := blk_new (((w.alloc o1).alloc o2).alloc o3) o4
 have a5 := blk_new ((((w.alloc o1).alloc o2).alloc o3).alloc o4) o5
 simp only [World.size_alloc] at a2 a3 a4 a5
 exact ⟨blk_alloc (blk_alloc (blk_alloc (blk_alloc a1 _) _) _) _, blk_alloc (blk_alloc (blk_alloc a2 _) _) _, blk_alloc (blk_alloc a3 _) _, blk_alloc a4 _, a5, by simp only [World.size_alloc], below_alloc (below_alloc (below_alloc (below_alloc (below_alloc (Below.refl _ _) _) _) _) _) _⟩
theorem cell_of_heap {W W' : World} {p : Addr} (hb : W'.heap[p.block]? = W.heap[p.block]?) : W'.cell? p = W.cell? p := by
 unfold World.cell?
 rw [hb]
theorem C27_keep {W W' : World} {g n : Nat} {l : List S27} (h : Kd.C k27 W (some ⟨g, 0, none⟩) n l) (hb : W'.heap[g]? = W.heap[g]?) : Kd.C k27 W' (some ⟨g, 0, none⟩) n l := by
 refine ⟨h.1, h.2.1, fun hn => ?_⟩
 obtain ⟨ad, e, hc⟩ := h.2.2 hn
 refine ⟨ad, e, fun j p hj => ?_⟩
 obtain ⟨c, hs, hr, hcell⟩ := hc j p hj
 refine ⟨c, hs, (by rw [k27_open hr]; exact k27_mk _ _), fun i u hu => ?_⟩
 have h1 := hcell i u hu
 cases e
 refine Eq.trans (cell_of_heap ?_) h1
 have hbl : ((⟨g, 0, none⟩ : Addr).add (j * k27.sz + i)).block = g := by
  simp only [Addr.add]
  split <;> rfl
 rw [hbl]
 exact hb
theorem C27_lt {W : World} {g : Nat} {a b : Int} (h : Kd.C k27 W (some ⟨g, 0, none⟩) 1 [⟨a, b⟩]) : g < W.heap.size := World.block_lt_of_cell? W ⟨g, 0, none⟩ (span_cells h).1
theorem blk_at {W : World} {g : Nat} (h : g < W.heap.size) : ∃ o, W.heap[g]? = some o := ⟨_, Array.getElem?_eq_getElem h⟩
theorem NxI.keep {M g c b s k : Nat} {W W' : World} (h : NxI M g c b s k W) (hs : b + 5 ≤ s) (hM : M < s) (hg : g < s) (hb : Below s W W') (hk : KeepHi (s + 3) W W') : NxI M g c b s k W' := by
 refine ⟨(hb.block _ (by omega)).trans h.b2, (hb.block _ (by omega)).trans h.b3, (hb.block _ (by omega)).trans h.b4, (hb.block _ hM).trans h.m, C27_keep h.sp (hb.block _ hg), ?_⟩
 rcases h.out with ⟨h1, h2⟩ | ⟨h1, v, h2, h3⟩
 ·exact .inl ⟨h1, (hb.block _ (by omega)).trans h2⟩
 ·exact .inr ⟨h1, v, (hb.block _ (by omega)).trans h2, Kd.R_step h3 (fun g hg hl => hk.block g hg hl)⟩
theorem coming_calls (M : Nat) (w : World) : Calls Tryz.prog 244 #[.agg #[.int .i64 995, .int .i64 1005, .int .i64 3, .int .i64 4, .int .i64 0, .int .i64 10, .int .i64 1, .int .i64 2, .int .i64 1], .map (some M)] w fun e w' => e = .returned (.func (.func 255) #[] #[.pointer (some ⟨w.heap.size + 1, 0, none⟩), .pointer (some ⟨w.heap.size, 0, none⟩)]) ∧ (w.alloc (.cells #[.int .i64 995, .int .i64 1005, .int .i64 3, .int .i64 4, .int .i64 0, .int .i64 10, .int .i64 1, .int .i64 2, .int .i64 1] 232)).alloc (.cells #[.map (some M)] 227) = w' := by
 have hmf := run_makeFunc_
 go_enter Tryz.func244, Tryz.ntmps244
 go_wp2
 go_ret
 exact ⟨rfl, rfl⟩
theorem next_calls (M g c : Nat) (w : World) (hc : 1 ≤ c) (hm : w.heap[M]? = some (mapO (.slice (some ⟨g, 0, none⟩) 1 c))) (hsp : Kd.C k27 w (some ⟨g, 0, none⟩) 1 [⟨1000, 1000⟩]) :
  Calls Tryz.prog 225 #[.agg #[.int .i64 995, .int .i64 1005, .int .i64 3, .int .i64 4, .int .i64 0, .int .i64 10, .int .i64 1, .int .i64 2, .int .i64 1], .map (some M)] w fun e w' => ∃ M' g' c', e = .returned (.map (some M')) ∧ MapAt w' M' ⟨g', 0, none⟩ c' 999 1001 ∧ Below w.heap.size w w' := by
 have hmk := fun W => run_makeMap W
 refine callsIn_wide.1 (callsIn_of_wp_marks (n := 9) Tryz.func225 rfl trivial ?_ rfl)
 simp only [Tryz.ntmps225, List.size_toArray, List.length_cons, List.length_nil, Nat.reduceAdd, Nat.reduceSub, Array.replicate_succ, Array.replicate_zero, List.push_toArray, List.append_toArray, List.nil_append, List.cons_append]
 gi_wp2_with (refine ⟨(show Fence.wide.fn 244 from trivial), ?_⟩; gi_at_call 244; refine (callsIn_wide.2 (coming_calls _ _)).mono ?_; rintro e w' ⟨rfl, rfl⟩)
 obtain ⟨q0, q1, q2, q3, q4, hsz, hbw⟩ := blk_five w (.cells #[.int .i64 995, .int .i64 1005, .int .i64 3, .int .i64 4, .int .i64 0, .int .i64 10, .int .i64 1, .int .i64 2, .int .i64 1] 232) (.map #[] 0) (.cells #[.map (some (w.heap.size + 1))] 227) (.cells #[.int .i64 995, .int .i64 1005, .int .i64 3, .int .i64 4, .int .i64 0, .int .i64 10, .int .i64 1, .int .i64 2, .int .i64 1] 232) (.cells #[.map (some M)] 227)
 clear q0
 have HM0 := Sd.mk (blk_below hm hbw)
 have HC0 := Sd.mk (Kd.C_below hsp hbw)
 have HG := Sd.mk (C27_lt hsp)
 have HMM := Sd.mk (blk_lt hm)
 have HCC := Sd.mk hc
 clear hm hsp hc
 generalize ((((w.alloc (.cells #[.int .i64 995, .int .i64 1005, .int .i64 3, .int .i64 4, .int .i64 0, .int .i64 10, .int .i64 1, .int .i64 2, .int .i64 1] 232)).alloc (.map #[] 0)).alloc (.cells #[.map (some (w.heap.size + 1))] 227)).alloc (.cells #[.int .i64 995, .int .i64 1005, .int .i64 3, .int .i64 4, .int .i64 0, .int .i64 10, .int .i64 1, .int .i64 2, .int .i64 1] 232)).alloc (.cells #[.map (some M)] 227) = W0 at q1 q2 q3 q4 hsz hbw HM0 HC0 ⊢
 have HI0 : Sd (NxI M g c w.heap.size W0.heap.size 0 W0) := ⟨⟨q2, q3, q4, HM0.out, HC0.out, .inl ⟨rfl, q1⟩⟩⟩
 have HS := Sd.mk hsz
 have HBW := Sd.mk hbw
 clear q1 q2 q3 q4 hbw hsz HM0 HC0
 refine wpIn_rangeFuncS (N := 1) (encs := fun _ => #[.agg #[.int .i64 0, .int .i64 5], .agg #[.int .i64 999, .int .i64 1001]]) rfl (by omega) (gf := 255) (lb := #[.pointer (some ⟨w.heap.size + 1 + 1 + 1 + 1, 0, none⟩), .pointer (some ⟨w.heap.size + 1 + 1 + 1, 0, none⟩)]) rfl trivial (enters_of Tryz.func255 (by kernel_rfl) rfl) (fun _ => rfl)
  (fun k W => Below w.heap.size w W ∧ NxI M g c w.heap.size W0.heap.size k W) (fun _ _ => True) (fun k W W' hb hk h => ⟨h.1.trans (hb.mono (by have := HS.out; omega)), h.2.keep (by have := HS.out; omega) (by have := HS.out; have := HMM.out; omega) (by have := HS.out; have := HG.out; omega) hb hk⟩) ⟨HBW.out, HI0.out⟩ ?seq ?round ?done
 case seq =>
  intro l J W hs hB hJb hJI hY hJ0
  refine coming1_in (W0.heap.size + 2) l (w.heap.size + 4) (w.heap.size + 3) M g c J W hs hJb (fun k W h => ⟨(hJI _ _ h).2.b4, (hJI _ _ h).2.b3, (hJI _ _ h).2.m, (hJI _ _ h).2.sp, by have := HS.out; omega, by have := HS.out; omega, by have := HS.out; have := HMM.out; omega⟩) (fun W1 h => hY 0 W1 (by omega) h trivial) hJ0
 case round =>
  intro l k W hW hk hI hP st hst
  obtain rfl : k = 0 := by omega
  obtain ⟨hIb, hI⟩ := hI
  have HI := Sd.mk hI
  have HIB := Sd.mk hIb
  have HW := Sd.mk hW
  clear hI hW hk hP HI0 hIb
  simp only [List.zip_toArray, List.zip_cons_cons, List.zip_nil_right, List.foldl_toArray, List.foldl_cons, List.foldl_nil, List.setIfInBounds_toArray, List.set_cons_succ, List.set_cons_zero]
  gi_wp2
  refine hst _ _ (KeepHi.of_below (below_alloc (below_alloc (Below.refl W.heap.size W) _) _)) ?_
  clear hst
  intro o
  have hble : Below W0.heap.size W (((W.alloc (.cells #[.int .i64 0, .int .i64 5] 253)).alloc (.cells #[.int .i64 999, .int .i64 1001] 27)).putObj (W0.heap.size + 1) o) := ((below_alloc (below_alloc (Below.refl W.heap.size W) _) _).mono (by have := HW.out; omega)).trans (below_putObj' (by omega))
  have NB : Sd (NxI M g c w.heap.size W0.heap.size 0 (((W.alloc (.cells #[.int .i64 0, .int .i64 5] 253)).alloc (.cells #[.int .i64 999, .int .i64 1001] 27)).putObj (W0.heap.size + 1) o)) := ⟨HI.out.keep (by have := HS.out; omega) (by have := HS.out; have := HMM.out; omega) (by have := HS.out; have := HG.out; omega) hble ((KeepHi.of_below (below_alloc (below_alloc (Below.refl W.heap.size W) _) _)).trans (keepHi_putObj (by omega)))⟩
  have BB := Sd.mk (HIB.out.trans (hble.mono (show w.heap.size ≤ W0.heap.size by have := HS.out; omega)))
  have BP : Sd ((((W.alloc (.cells #[.int .i64 0, .int .i64 5] 253)).alloc (.cells #[.int .i64 999, .int .i64 1001] 27)).putObj (W0.heap.size + 1) o).heap[W.heap.size]? = some (.cells #[.int .i64 0, .int .i64 5] 253 (0, 0))) := ⟨putObj_heap_keep (by have := HW.out; omega) (blk_alloc (blk_new W _) _)⟩
  have BX : Sd ((((W.alloc (.cells #[.int .i64 0, .int .i64 5] 253)).alloc (.cells #[.int .i64 999, .int .i64 1001] 27)).putObj (W0.heap.size + 1) o).heap[W.heap.size + 1]? = some (.cells #[.int .i64 999, .int .i64 1001] 27 (0, 0))) := ⟨putObj_heap_keep (by have := HW.out; omega) (by simpa using blk_new (W.alloc (.cells #[.int .i64 0, .int .i64 5] 253)) (.cells #[.int .i64 999, .int .i64 1001] 27))⟩
  have WS : Sd ((((W.alloc (.cells #[.int .i64 0, .int .i64 5] 253)).alloc (.cells #[.int .i64 999, .int .i64 1001] 27)).putObj (W0.heap.size + 1) o).heap.size = W.heap.size + 2) := ⟨by simp⟩
  have WW : Sd (W0.heap.size + 1 < W.heap.size) := HW
  clear hble HI HIB HW
  generalize (((W.alloc (.cells #[.int .i64 0, .int .i64 5] 253)).alloc (.cells #[.int .i64 999, .int .i64 1001] 27)).putObj (W0.heap.size + 1) o) = Wb at NB BB BP BX WS ⊢
  have g2 : Wb.cell? ⟨w.heap.size + 1 + 1, 0, none⟩ = some (.map (some (w.heap.size + 1))) := (blk_cell NB.out.b2 0).trans rfl
  have p0 : Wb.cell? ⟨W.heap.size, 0, none⟩ = some (.int .i64 0) := (blk_cell BP.out 0).trans rfl
  have p1 : Wb.cell? ⟨W.heap.size, 0 + 1, none⟩ = some (.int .i64 5) := (blk_cell BP.out 1).trans rfl
  have x0 : Wb.cell? ⟨W.heap.size + 1, 0, none⟩ = some (.int .i64 999) := (blk_cell BX.out 0).trans rfl
  have x1 : Wb.cell? ⟨W.heap.size + 1, 0 + 1, none⟩ = some (.int .i64 1001) := (blk_cell BX.out 1).trans rfl
  have hnil : Wb.heap[w.heap.size + 1]? = some (.map #[] 0) := by
   rcases NB.out.out with ⟨_, h⟩ | ⟨h, _⟩
   ·exact h
   ·cases h
  have hme := run_mapEntry_new (blk_alloc hnil (.cells #[.int .i64 999, .int .i64 1001] 27))
  unfold keyV at hme
  have HSB := Sd.mk (C_span (putObj_heap_keep (r := w.heap.size + 1) (o := mapO (.slice none 0 0)) (by have := WS.out; have := WW.out; have := HS.out; omega) (blk_new Wb (.cells #[.int .i64 999, .int .i64 1001] 27))))
  have HMC : Sd (((Wb.alloc (.cells #[.int .i64 999, .int .i64 1001] 27)).putObj (w.heap.size + 1) (mapO (.slice none 0 0))).heap[w.heap.size + 1]? = some (mapO (.slice none 0 0))) := ⟨World.putObj_heap_same (blk_lt (blk_alloc hnil _))⟩
  have HWC : Sd (W0.heap.size + 3 ≤ ((Wb.alloc (.cells #[.int .i64 999, .int .i64 1001] 27)).putObj (w.heap.size + 1) (mapO (.slice none 0 0))).heap.size) := ⟨by have := WS.out; have := WW.out; simp; omega⟩
  gi_upto_region 5 with (fail)
  refine regionF_In (by rfl) (fun ⟨_, _, h⟩ => h) ?_
  clear hnil
  go_wp2_with ((with_reducible refine gate_dst (N := 20) rfl ?_); refine Kd.R_append_rows k27 (Rr := k27.K ((Wb.alloc (.cells #[.int .i64 999, .int .i64 1001] 27)).putObj (w.heap.size + 1) (mapO (.slice none 0 0)))) (okp := fun _ => False) (w0 := ((Wb.alloc (.cells #[.int .i64 999, .int .i64 1001] 27)).putObj (w.heap.size + 1) (mapO (.slice none 0 0)))) (W0.heap.size + 3) rfl (.tmp 16) (.tmp 18) 24 27 (.agg #[.int .i64 0, .int .i64 0]) 16 rfl Tryz.underlying24 (by kernel_rfl) rfl (by decide) (by omega) (.slice none 0 0) [] [⟨999, 1001⟩] (some ⟨Wb.heap.size, 0, none⟩) 1 1 (fun k => W0.heap.size + 3 ≤ k) rfl rfl (Kd.R_nil _ _ _ _ _) HSB.out (fun x cs hk => by obtain rfl := k27_open hk; exact k27_mkM _ _ _ x) (fun k hk => hk.elim) (fun _ h => Nat.le_trans HWC.out h) (Below.refl _ _) HWC.out (by simp) ?_; intro v2 w2 HR2 HB2 HG2 HE2; simp only [List.nil_append] at HR2; have hes := run_entryStore_one v2 ((HB2.block _ (by have := HS.out; omega)).trans HMC.out); replace HR2 := Sd.mk HR2; replace HB2 := Sd.mk HB2; replace HE2 := Sd.mk (fun j (hj : j < ((Wb.alloc (.cells #[.int .i64 999, .int .i64 1001] 27)).putObj (w.heap.size + 1) (mapO (.slice none 0 0))).heap.size) => HG2.block j hj (by simp [Value.ownBlock])); clear HG2)
  clear hes hme g2 p0 p1 x0 x1
  have hkw : KeepHi W0.heap.size Wb (w2.putObj (w.heap.size + 1) (mapO v2)) := by
   have hk0 : KeepHi W0.heap.size Wb ((Wb.alloc (.cells #[.int .i64 999, .int .i64 1001] 27)).putObj (w.heap.size + 1) (mapO (.slice none 0 0))) := (keepHi_alloc _).trans (keepHi_putObj (by have := HS.out; omega))
   exact hk0.trans ((KeepHi.trans ⟨HB2.out.size, fun j h1 h2 => HE2.out j h2⟩ (keepHi_putObj (by have := HS.out; omega))))
  have hM2 : (w2.putObj (w.heap.size + 1) (mapO v2)).heap[w.heap.size + 1]? = some (mapO v2) := World.putObj_heap_same (by have := HB2.out.size; have := HWC.out; have := HS.out; omega)
  have hB3 : Below (w.heap.size + 1) Wb (w2.putObj (w.heap.size + 1) (mapO v2)) := ((((below_alloc (Below.refl Wb.heap.size Wb) _).mono (by have := WS.out; have := WW.out; have := HS.out; omega)).trans (below_putObj' (Nat.le_refl _))).trans (HB2.out.mono (by have := HS.out; omega))).trans (below_putObj' (Nat.le_refl _))
  refine ⟨hkw, BB.out.trans (hB3.mono (by omega)), ?_⟩
  have h3 : ∀ {x : Nat} {ob : Obj}, x ≠ w.heap.size + 1 → x < W0.heap.size + 3 → Wb.heap[x]? = some ob → (w2.putObj (w.heap.size + 1) (mapO v2)).heap[x]? = some ob := fun hx hl h => putObj_heap_keep hx ((HB2.out.block _ hl).trans (putObj_heap_keep hx (blk_alloc h _)))
  have hG := HG.out
  have hMM := HMM.out
  have hS := HS.out
  refine ⟨h3 (by omega) (by omega) NB.out.b2, h3 (by omega) (by omega) NB.out.b3, h3 (by omega) (by omega) NB.out.b4, h3 (by omega) (by omega) NB.out.m, C27_keep NB.out.sp ?_, .inr ⟨rfl, v2, hM2, ?_⟩⟩
  ·have h4 := blk_at (W := Wb) (g := g) (by have := NB.out.sp; exact C27_lt this)
   obtain ⟨ob, h4⟩ := h4
   rw [h3 (by omega) (by omega) h4, h4]
  ·exact Kd.R_step HR2.out (fun k hk hl => World.putObj_heap_other (by omega))
 case done =>
  intro W hI hD
  obtain ⟨hIb, hI⟩ := hI
  rcases hI.out with ⟨h, _⟩ | ⟨_, v, hv, hr⟩
  ·cases h
  obtain ⟨g', c', rfl, h1, h2, _⟩ := Kd.R_form hr (by simp)
  have HD := Sd.mk hD
  have f2 : W.cell? ⟨w.heap.size + 1 + 1, 0, none⟩ = some (.map (some (w.heap.size + 1))) := (blk_cell hI.b2 0).trans rfl
  have HF : Sd (MapAt (W.putObj W0.heap.size (.deferred none)) (w.heap.size + 1) ⟨g', 0, none⟩ c' 999 1001) := by
   have hS := HS.out
   have hr' := Kd.R_reads' (Kd.R_step (w1 := W.putObj W0.heap.size (.deferred none)) hr (fun k hk hl => World.putObj_heap_other (by omega)))
   exact ⟨⟨putObj_heap_keep (by omega) hv, hr'.2.1, hr'.2.2⟩⟩
  have HB : Sd (Below w.heap.size w (W.putObj W0.heap.size (.deferred none))) := ⟨hIb.trans (below_putObj' (by have := HS.out; omega))⟩
  clear hI hr hIb hv HI0 HBW
  gi_wp2
  refine ⟨by simp, .inl ⟨_, _, rfl, run_takeDeferred HD.out, ?_⟩⟩
  refine ⟨.map (some (w.heap.size + 1)), ?_, ⟨w.heap.size + 1, rfl, ⟨g', c', HF.out⟩, HB.out⟩⟩
  simp [results, Tryz.results225, go_sem]
end
section
def gobs_within.f (a0 : Int) (a1 : Int) (a2 : Int) : Option (Bool) := if a0 ≥ a1 then (some (decide (a0 ≤ a2))) else (some false)
theorem gobs_within.calls (a0 : Int) (a1 : Int) (a2 : Int) (r : Bool) (w : World) (h : gobs_within.f a0 a1 a2 = some r) :
  Calls Tryz.prog 201 #[.int .i64 a0, .int .i64 a1, .int .i64 a2] w fun e w' => e = .returned (.bool r) ∧ Drawn0 w w' := by
 have H : (if a0 ≥ a1 then (some (decide (a0 ≤ a2))) else (some false)) = some r := h
 clear h
 by_cases c4 : a0 ≥ a1
 ·rw [if_pos c4] at H
  have c4b0 : decide (a1 ≤ a0) = true := decide_eq_true c4
  clear c4; obtain rfl := Option.some.inj H
  go_enter Tryz.func201, Tryz.ntmps201
  go_wp2
  go_ret
  exact ⟨by first | rfl | (simp; done) | (simp [*]; done), by repeat (first | exact Drawn0.refl _ | apply Drawn0.step)⟩
 ·rw [if_neg c4] at H
  have c4b0 : decide (a1 ≤ a0) = false := decide_eq_false c4
  clear c4; obtain rfl := Option.some.inj H
  go_enter Tryz.func201, Tryz.ntmps201
  go_wp2
  go_ret
  exact ⟨by first | rfl | (simp; done) | (simp [*]; done), by repeat (first | exact Drawn0.refl _ | apply Drawn0.step)⟩
end
section
def gobs_spare.f (a0 : Int) : Option (Bool) := (gobs_within.f a0 (-100000) 200000).bind fun t836 => (some t836)
theorem gobs_spare.calls (a0 : Int) (r : Bool) (w : World) (h : gobs_spare.f a0 = some r) :
  Calls Tryz.prog 239 #[.int .i64 a0] w fun e w' => e = .returned (.bool r) ∧ Drawn0 w w' := by
 have H : ((gobs_within.f a0 (-100000) 200000).bind fun t836 => (some t836)) = some r := h
 clear h; replace H := Option.bind_eq_some_iff.mp H; obtain ⟨t836, A20, H⟩ := H
 try dsimp only at H
 have A2 := Sd.mk A20; clear A20; obtain rfl := Option.some.inj H
 go_enter Tryz.func239, Tryz.ntmps239
 go_wp2_with (first | ((with_reducible refine gate_callee (f := 201) rfl ?_); refine goesL_ (some 4) rfl rfl Tryz.func201 (by kernel_rfl) rfl #[.int .i64 a0, .int .i64 (-100000), .int .i64 200000] rfl tM ?_; (with_reducible refine (gobs_within.calls a0 (-100000) 200000 t836 _ A2.out).mono ?_); rintro e w' ⟨rfl, ⟨nd, rfl⟩⟩; refine ⟨_, rfl, ?_⟩))
 go_ret
 exact ⟨by first | rfl | (simp; done) | (simp [*]; done), by repeat (first | exact Drawn0.refl _ | apply Drawn0.step)⟩
end
section
open Go.RowKit Go.Shelf Go.Proofs.YtljfljekcpdpiaaGreatW.PrintWords Go.Proofs.YtljfljekcpdpiaaGreatW.PrintLast Go.Proofs.YtljfljekcpdpiaaGreatW.PrintMore
attribute [local go_sem] Oper.semAt_some
theorem spare_ok (a : Int) (h : gobs_spare.f a = some true) (w : World) : Calls Tryz.prog 239 #[.int .i64 a] w fun e w' => e = .returned (.bool true) ∧ Below w.heap.size w w' := by
 refine (gobs_spare.calls a true w h).mono ?_
 rintro e w' ⟨rfl, hd⟩
 obtain ⟨n, rfl⟩ := hd.out
 exact ⟨rfl, below_drewN' _ _ _⟩
theorem within_ok (a b c : Int) (h : gobs_within.f a b c = some true) (w : World) : Calls Tryz.prog 201 #[.int .i64 a, .int .i64 b, .int .i64 c] w fun e w' => e = .returned (.bool true) ∧ Below w.heap.size w w' := by
 refine (gobs_within.calls a b c true w h).mono ?_
 rintro e w' ⟨rfl, hd⟩
 obtain ⟨n, rfl⟩ := hd.out
 exact ⟨rfl, below_drewN' _ _ _⟩
theorem span_at {w : World} {g : Addr} {a b : Int} (h : Kd.C k27 w (some g) 1 [⟨a, b⟩]) : w.cell? g = some (.int .i64 a) ∧ w.cell? ⟨g.block, g.off + 1, none⟩ = some (.int .i64 b) := by
 obtain ⟨ad, e, s0, s1⟩ := at_T27 h 0 (by decide) (by decide)
 cases e
 have hz : g.add (Int.toNat 0 * 2) = g := by simp [Addr.add]
 rw [hz] at s0 s1
 exact ⟨s0, s1⟩
theorem CellR.ofC {W : World} {a b : Int} {A : Nat} (h : Kd.C k180 W (some ⟨A, 0, none⟩) 1 [⟨0, 5, [⟨a, b⟩]⟩]) : ∃ g c, CellR W A g c a b := by
 obtain ⟨ad, A2, c2, e, h0, h1, h2, h3, h4⟩ := at_T180 h 0 (by decide) (by simp)
 cases e
 have h5 : Kd.C k27 W A2 1 [⟨a, b⟩] := h4
 have h6 : W.cell? ⟨A, 0 + 2, none⟩ = some (.slice A2 1 c2) := h2
 obtain ⟨g, rfl, _⟩ := at_T27 h5 0 (by decide) (by decide)
 exact ⟨g, c2, h0, h1, h6, h3, h5⟩
theorem caught221_nil (p : Addr) (w : World) : Calls Tryz.prog 221 #[.nilIface, .pointer (some p)] w fun en w' => en = .returned (.tuple #[]) ∧ w' = w := by
 go_enter Tryz.func221, Tryz.ntmps221
 go_wp2
 go_end0
 exact ⟨rfl, rfl⟩
theorem door220_ok (B : Nat) (w : World) :
  CallsD Tryz.prog 220 #[.pointer (some ⟨B, 0, none⟩)] .returning w fun en u' w' => en = .returned (.tuple #[]) ∧ u' = .returning ∧ w' = w := by
 refine callsD_of_wpS Tryz.func220 rfl fun c₀ cs hu => ?_
 apply wpS_region
 simp [wpOpsS, go_sem, recoverD, hu, Tryz.ntmps220, Exit.thenS]
 refine (caught221_nil ⟨B, 0, none⟩ w).mono ?_
 rintro e1 w1 ⟨rfl, rfl⟩
 cases c₀
 simp_all [Go.bodyPostS, results, Tryz.results220]
theorem bounded_calls (M g c : Nat) (w : World) (h : MapAt w M ⟨g, 0, none⟩ c 999 1001) :
  Calls Tryz.prog 224 #[.map (some M)] w fun e w' => ∃ A cap, e = .returned (.slice (some ⟨A, 0, none⟩) 1 cap) ∧ 1 ≤ cap ∧ Kd.R k180 180 w' w.heap.size (fun _ => True) (.slice (some ⟨A, 0, none⟩) 1 cap) [⟨0, 5, [⟨999, 1001⟩]⟩] ∧ Below w.heap.size w w' := by
 have HH := Sd.mk h
 clear h
 have HB0 := Sd.mk (Below.refl w.heap.size w)
 go_enter Tryz.func224, Tryz.ntmps224
 go_wp2_with (go_at_call 223; refine (cells_calls M _ _ _ _ _ HH.out).mono ?_; rintro e w1 ⟨A, cap, rfl, hcap, hr, hb⟩; have HR := Sd.mk hr; have HB := Sd.mk hb; have HC := Sd.mk hcap; clear hr hb hcap)
 refine wp_loop_rounds 2 ?_
 rw [rounds_succ]
 obtain ⟨g1, c1, hcr⟩ := CellR.ofC (Kd.R_reads' HR.out).2.2
 have HCR := Sd.mk hcr
 obtain ⟨k0, k1, k2, kc, ks⟩ := hcr
 clear kc ks
 go_upto_region 5 with (fail)
 clear k0 k1 k2
 have BX := Sd.mk (blk_new w1 (.cells #[.int .i64 0, .int .i64 5, .slice (some g1) 1 c1] 180))
 have HB2 := Sd.mk (below_alloc HB.out (.cells #[.int .i64 0, .int .i64 5, .slice (some g1) 1 c1] 180))
 have HR2 := Sd.mk (Kd.R_alloc HR.out (.cells #[.int .i64 0, .int .i64 5, .slice (some g1) 1 c1] 180))
 have HS2 := Sd.mk (Kd.C_below HCR.out.sp (below_alloc (Below.refl _ _) (.cells #[.int .i64 0, .int .i64 5, .slice (some g1) 1 c1] 180)))
 clear HR HCR HB HH HB0
 generalize w1.alloc (.cells #[.int .i64 0, .int .i64 5, .slice (some g1) 1 c1] 180) = w2 at BX HB2 HR2 HS2 ⊢
 generalize w1.heap.size = X at BX ⊢
 obtain ⟨s0, s1⟩ := span_at HS2.out
 have x2 : w2.cell? ⟨X, 2, none⟩ = some (.slice (some g1) 1 c1) := (blk_cell BX.out 2).trans rfl
 go_upto_region 8 with (first | (go_at_call 239; refine (spare_ok 999 (by kernel_rfl) _).mono ?_; rintro e w3 ⟨rfl, hb⟩; have BX3 := Sd.mk (blk_below BX.out hb); have HB3 := Sd.mk (below_then HB2.out HB2.out.size hb); have HR3 := Sd.mk (Kd.R_below HR2.out hb); have HS3 := Sd.mk (Kd.C_below HS2.out hb); clear hb s0 s1 x2 BX HB2 HR2 HS2; obtain ⟨s0, s1⟩ := span_at HS3.out; have x2 : w3.cell? ⟨X, 2, none⟩ = some (.slice (some g1) 1 c1) := (blk_cell BX3.out 2).trans rfl) | (go_at_call 239; refine (spare_ok 1001 (by kernel_rfl) _).mono ?_; rintro e w4 ⟨rfl, hb⟩; have HB4 := Sd.mk (below_then HB3.out HB3.out.size hb); have HR4 := Sd.mk (Kd.R_below HR3.out hb); clear hb s0 s1 x2 BX3 HB3 HR3 HS3))
 rw [rounds_succ]
 go_wp2
 go_ret
 exact ⟨A, cap, rfl, HC.out, HR4.out, HB4.out⟩
end
section
open Go.RowKit Go.Shelf Go.Proofs.YtljfljekcpdpiaaGreatW.PrintWords Go.Proofs.YtljfljekcpdpiaaGreatW.PrintLast Go.Proofs.YtljfljekcpdpiaaGreatW.PrintMore
attribute [local go_sem] Oper.semAt_some
theorem leaves_put {P : Program} {fn : Func} {tmps : Array Value} {N : Tmp} {v : Value} {R : Ending → World → Prop} (hres : ∀ t : Array Value, results fn (t.setIfInBounds N v) = results fn t) :
  ∀ (ds : List Deferred) (u : FrameMode) (w : World), Leaves P fn (tmps.setIfInBounds N v) R ds u w → Leaves P fn tmps R ds u w
 | [], .returning, w, h => by
  obtain ⟨x, h1, h2⟩ := h
  exact ⟨x, (by rw [← hres tmps]; exact h1), h2⟩
 | [], .panicking chain, w, h => h
 | [], .run, w, h => h
 | d :: ds, u, w, h => by
  obtain ⟨h1, fv, cap, f, args, h2, h3, h4⟩ := h
  refine ⟨h1, fv, cap, f, args, h2, h3, h4.mono ?_⟩
  intro e u' w' he
  cases e with
  | returned x => exact leaves_put hres ds _ _ he
  | panicked c => exact leaves_put hres ds _ _ he
  | outgrown => exact he
theorem res203 {N : Tmp} (v : Value) (h6 : N ≠ 6) (h7 : N ≠ 7) (t : Array Value) : results Tryz.f203 (t.setIfInBounds N v) = results Tryz.f203 t := by
 have e6 : (t.setIfInBounds N v)[6]? = t[6]? := by simp [Array.getElem?_setIfInBounds, h6]
 have e7 : (t.setIfInBounds N v)[7]? = t[7]? := by simp [Array.getElem?_setIfInBounds, h7]
 simp [results, Tryz.results203, e6, e7]
def rchT : Bool × List (List Nat × List Nat) := (true, [([], []), ([0], [0]), ([], []), ([2], [2]), ([1, 3, 3], [1, 3]), ([4, 4], [4]), ([5, 5, 0, 1, 2, 3, 4, 5], [2, 5])])
def rchB : List Nat := [0, 1, 0, 4, 15, 31, 63]
theorem rch_tab : rtab .any (opsOf Tryz.f203 5) = rchT := by kernel_rfl
theorem rch_bits : waitsOk rchT.2 rchB = true := by kernel_rfl
theorem reach_calls (A cap : Nat) (g : Addr) (c : Nat) (w : World) (h : CellR w A g c 1000 1000) :
  Calls Tryz.prog 203 #[.agg #[.int .i64 995, .int .i64 1005, .int .i64 3, .int .i64 4, .int .i64 0, .int .i64 10, .int .i64 1, .int .i64 2, .int .i64 1], .slice (some ⟨A, 0, none⟩) 1 cap, .int .i64 1] w fun e w' => ∃ A' cap', e = .returned (.tuple #[.slice (some ⟨A', 0, none⟩) 1 cap', .int .i64 0]) ∧ Kd.R k180 180 w' w.heap.size (fun _ => True) (.slice (some ⟨A', 0, none⟩) 1 cap') [⟨0, 5, [⟨999, 1001⟩]⟩] ∧ Below w.heap.size w w' := by
 have hmf := run_makeFunc_
 obtain ⟨b1, b2, hb0, hsz⟩ := blk_two w (.cells #[.int .i64 995, .int .i64 1005, .int .i64 3, .int .i64 4, .int .i64 0, .int .i64 10, .int .i64 1, .int .i64 2, .int .i64 1] 120) (.cells #[.int .i64 0] 38)
 have HX := Sd.mk b1
 have HE := Sd.mk b2
 have HB := Sd.mk hb0
 have HC := Sd.mk (h.below hb0)
 have HZ := Sd.mk hsz
 clear b1 b2 hb0 h hsz
 go_enter_defers Tryz.func203, Tryz.ntmps203
 go_wp2_with (first | (go_at_call 222; refine (taken_calls A cap g c 1000 1000 _ HC.out).mono ?_; rintro e w1 ⟨M, g1, c1, rfl, hm, hb⟩; have HM1 := Sd.mk hm; have HX1 := Sd.mk (blk_below HX.out hb); have HE1 := Sd.mk (blk_below HE.out hb); have HB1 := Sd.mk (below_then HB.out HB.out.size hb); clear hm hb) | (go_at_call 223; refine (cells_calls M _ _ _ _ _ HM1.out).mono ?_; rintro e w2 ⟨A2, k2, rfl, hk2, hr, hb⟩; have HR2 := Sd.mk hr; have HX2 := Sd.mk (blk_below HX1.out hb); have HE2 := Sd.mk (blk_below HE1.out hb); have HB2 := Sd.mk (below_then HB1.out HB1.out.size hb); clear hr hb))
 clear HX HE HB HX1 HE1 HB1 HM1
 refine wp_loop_rounds 2 ?_
 rw [rounds_succ]
 go_upto_region 5 with (fail)
 refine start_ (n := 7) (S := fun w' => w'.heap[w.heap.size]? = some (.cells #[.int .i64 995, .int .i64 1005, .int .i64 3, .int .i64 4, .int .i64 0, .int .i64 10, .int .i64 1, .int .i64 2, .int .i64 1] 120 (0, 0))) (ds := []) (bA 7 0) (by kernel_rfl) rfl rfl HX2.out (fun hHeld => ?_); refine with_tabW rch_tab rch_bits (fun HT_ HW_ => ?_)
 obtain ⟨g2, c2, hc2⟩ := CellR.ofC (Kd.R_reads' HR2.out).2.2
 have HC2 := Sd.mk (hc2.below (below_drew1 (Below.refl _ w2)))
 have HB3 := Sd.mk (below_drew1 HB2.out)
 have HE3 := Sd.mk (blk_drew HE2.out)
 clear hc2 HR2 HX2 HE2 HB2
 generalize w2.drew = w3 at HC2 HB3 HE3 hHeld ⊢
 refine take_ (i := 0) (N := some 15) (v := ?_) (a' := ?_) (bA 7 1) rfl rfl (take_ofW HT_.out HW_.out (by kernel_rfl)) (fun _ _ _ h => leaves_put (res203 _ (by decide) (by decide)) _ _ _ h) (Or.inl ⟨by rfl, ?_⟩) hHeld ?_ ?_
 rotate_left
 ·rintro w' hx
  have s0 : w'.cell? ⟨w.heap.size, 0, none⟩ = some (.int .i64 995) := (blk_cell hx 0).trans rfl
  have s1 : w'.cell? ⟨w.heap.size, 0 + 1, none⟩ = some (.int .i64 1005) := (blk_cell hx 1).trans rfl
  have s2 : w'.cell? ⟨w.heap.size, 0 + 2, none⟩ = some (.int .i64 3) := (blk_cell hx 2).trans rfl
  have s3 : w'.cell? ⟨w.heap.size, 0 + 3, none⟩ = some (.int .i64 4) := (blk_cell hx 3).trans rfl
  have s4 : w'.cell? ⟨w.heap.size, 0 + 4, none⟩ = some (.int .i64 0) := (blk_cell hx 4).trans rfl
  have s5 : w'.cell? ⟨w.heap.size, 0 + 5, none⟩ = some (.int .i64 10) := (blk_cell hx 5).trans rfl
  have s6 : w'.cell? ⟨w.heap.size, 0 + 6, none⟩ = some (.int .i64 1) := (blk_cell hx 6).trans rfl
  have s7 : w'.cell? ⟨w.heap.size, 0 + 7, none⟩ = some (.int .i64 2) := (blk_cell hx 7).trans rfl
  have s8 : w'.cell? ⟨w.heap.size, 0 + 8, none⟩ = some (.int .i64 1) := (blk_cell hx 8).trans rfl
  go_simp
  with_reducible rfl
 rotate_left
 ·exact tP
 refine pure_ (i := 1) (N := some 16) (v := ?_) (a' := ?_) (bA 7 3) rfl rfl (any_of HT_.out (by kernel_rfl)) (fun _ _ _ h => leaves_put (res203 _ (by decide) (by decide)) _ _ _ h) (Or.inl ⟨by rfl, ?_⟩) ?_ ?_
 rotate_left
 ·exact tW
 rotate_left
 ·exact tP
 refine pure_ (i := 2) (N := some 17) (v := ?_) (a' := ?_) (bA 7 7) rfl rfl (any_of HT_.out (by kernel_rfl)) (fun _ _ _ h => leaves_put (res203 _ (by decide) (by decide)) _ _ _ h) (Or.inl ⟨by rfl, ?_⟩) ?_ ?_
 rotate_left
 ·exact tW
 rotate_left
 ·exact tP
 refine one_ (i := 3) (N := some 18) (bA 7 15) rfl rfl (one_of HT_.out (by kernel_rfl)) (by decide) (fun K hK => ?_)
 refine goes_ Tryz.func222 (by kernel_rfl) rfl #[.slice (some ⟨A2, 0, none⟩) 1 k2] (by (try simp only [Array.map_toArray, List.map_toArray, List.map_cons, List.map_nil]); rfl) rfl rfl (by (try simp only [List.map_toArray, List.map_cons, List.map_nil]); first | done | rfl) ?_
 refine (taken_calls A2 k2 g2 c2 1000 1000 _ HC2.out).mono ?_
 rintro e w4 ⟨M4, g4, c4, rfl, hm4, hb⟩
 refine ⟨_, rfl, ?_⟩
 have HB4 := Sd.mk (below_then HB3.out HB3.out.size hb)
 have HE4 := Sd.mk (blk_below HE3.out hb)
 have hh := blk_below hHeld hb
 have HM4 := Sd.mk hm4
 clear hm4 HC2
 clear hb hHeld HB3 HE3
 refine hK.out _ _ hh (fun hHeld => ?_)
 clear hK K hh
 refine norm_ (a' := ?_) ?_ ?_
 rotate_left
 ·show Act.put _ (some 18) _ = _
  exact tP
 refine one_ (i := 4) (N := some 19) (bA 7 31) rfl rfl (one_of HT_.out (by kernel_rfl)) (by decide) (fun K hK => ?_)
 refine goes_ Tryz.func225 (by kernel_rfl) rfl #[.agg #[.int .i64 995, .int .i64 1005, .int .i64 3, .int .i64 4, .int .i64 0, .int .i64 10, .int .i64 1, .int .i64 2, .int .i64 1], .map (some M4)] (by (try simp only [Array.map_toArray, List.map_toArray, List.map_cons, List.map_nil]); rfl) rfl rfl (by (try simp only [List.map_toArray, List.map_cons, List.map_nil]); first | done | rfl) ?_
 refine (next_calls M4 g4 c4 _ HM4.out.hc HM4.out.m HM4.out.sp).mono ?_
 rintro e w5 ⟨M5, g5, c5, rfl, hm5, hb⟩
 refine ⟨_, rfl, ?_⟩
 have HB5 := Sd.mk (below_then HB4.out HB4.out.size hb)
 have HE5 := Sd.mk (blk_below HE4.out hb)
 have hh := blk_below hHeld hb
 have HM5 := Sd.mk hm5
 clear hm5 HM4
 clear hb hHeld HB4 HE4
 refine hK.out _ _ hh (fun hHeld => ?_)
 clear hK K hh
 refine norm_ (a' := ?_) ?_ ?_
 rotate_left
 ·show Act.put _ (some 19) _ = _
  exact tP
 refine one_ (i := 5) (N := some 20) (bA 7 63) rfl rfl (one_of HT_.out (by kernel_rfl)) (by decide) (fun K hK => ?_)
 refine goes_ Tryz.func224 (by kernel_rfl) rfl #[.map (some M5)] (by (try simp only [Array.map_toArray, List.map_toArray, List.map_cons, List.map_nil]); rfl) rfl rfl (by (try simp only [List.map_toArray, List.map_cons, List.map_nil]); first | done | rfl) ?_
 refine (bounded_calls M5 g5 c5 _ HM5.out).mono ?_
 rintro e w6 ⟨A6, k6, rfl, hk6, hr6, hb⟩
 refine ⟨_, rfl, ?_⟩
 have HB6 := Sd.mk (below_then HB5.out HB5.out.size hb)
 have HE6 := Sd.mk (blk_below HE5.out hb)
 have hh := blk_below hHeld hb
 have HR6 := Sd.mk (Kd.R_lower hr6 HB5.out.size)
 clear hr6 HM5
 clear hb hHeld HB5 HE5
 refine hK.out _ _ hh (fun hHeld => ?_)
 clear hK K hh
 refine norm_ (a' := ?_) ?_ ?_
 rotate_left
 ·show Act.put _ (some 20) _ = _
  exact tP
 refine one_ (i := 6) (N := some 6) (bA 7 127) rfl rfl (one_of HT_.out (by kernel_rfl)) (by decide) (fun K hK => ?_)
 go_simp
 refine hK.out _ _ hHeld (fun hHeld => ?_)
 clear hK K
 refine done_ (done_of HT_.out (by kernel_rfl)) ?_
 clear HT_ HW_ hHeld
 go_upto_region 4 with (fail)
 rw [rounds_succ]
 have e0 : w6.cell? ⟨w.heap.size + 1, 0, none⟩ = some (.int .i64 0) := (blk_cell HE6.out 0).trans rfl
 have f0 := blk_frozen HE6.out 0
 go_wp2
 clear e0 f0
 have hid : w6.setCell ⟨w.heap.size + 1, 0, none⟩ (.int .i64 0) = w6 := setCell_id HE6.out 0 rfl
 rw [hid]
 refine leaves_cons (f := 220) (args := #[.pointer (some ⟨w.heap.size + 1, 0, none⟩)]) (by simp) (by simp [go_sem]) ?_
 refine (door220_ok _ _).mono ?_
 rintro e u' w'' ⟨rfl, rfl, rfl⟩
 refine ⟨.tuple #[.slice (some ⟨A6, 0, none⟩) 1 k6, .int .i64 0], ?_, A6, k6, rfl, HR6.out, HB6.out⟩
 have e0 : w''.cell? ⟨w.heap.size + 1, 0, none⟩ = some (.int .i64 0) := (blk_cell HE6.out 0).trans rfl
 simp [results, Tryz.results203, e0, go_sem]
end
end Go.Proofs.YtljfljekcpdpiaaGreat.PB
