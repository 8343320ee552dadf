import Derived.Test.YtljfljekcpdpiaaGreatK4
import Derived.Shelf.Abstract
import Derived.Sort.CutIn
import Derived.KernelRfl
set_option linter.unusedVariables false
set_option linter.unusedSimpArgs false
set_option maxHeartbeats 8000000
set_option maxRecDepth 1000000
namespace Go.Proofs.YtljfljekcpdpiaaGreat.PB
open Go.RowKit Go.Shelf Go.Proofs.YtljfljekcpdpiaaGreatW.PrintWords Go.Proofs.YtljfljekcpdpiaaGreatW.PrintLast Go.Proofs.YtljfljekcpdpiaaGreatW.PrintMore
section
attribute [local go_sem] Oper.semAt_some
section
variable {P : Program} {ops : Array Oper} {Q : Exit → Act → World → Prop}
theorem operIn_of_oper {l n : Nat} {o : Oper} (hp : ∀ c, o.op ≠ .defer c) {K K' : Act → World → Prop} (hK : ∀ a w, K a w → K' a w) {a : Act} {w : World} (h : o.wp P a w K Q) : o.wpIn (Fence.wide.inRound l) n P a w K' Q := by
  refine ⟨fun f _ => trivial, ?_⟩
  rw [Oper.semAt_plain (Fence.wide.inRound l) _ _ hp]
  unfold Oper.wp at h
  generalize (execOp a.eval o).run P w = r at *
  cases r with
  | ok x w' =>
    cases x <;> simp only [Oper.upon, Oper.uponIn] at h ⊢
    case value => exact hK _ _ h
    case skip => exact hK _ _ h
    case defer => exact hK _ _ h
    case enter f args =>
      exact ⟨(fun h => by cases h), CallsIn.inRound l (callsIn_wide.2 (Calls.mono h (fun e w'' he => by cases e <;> first | exact hK _ _ he | exact he)))⟩
    case row f args =>
      refine ⟨(fun h => by cases h), fun c cs _ => ?_⟩
      obtain ⟨v, w2, h1, h2⟩ := h c cs
      exact ⟨v, w2, hK _ _ h1, stepsIn_wide.2 h2⟩
  | halt x w' => cases x <;> simp only [Oper.upon, Oper.uponIn] at h ⊢ <;> exact h
theorem wpListIn_of_wpList {l n : Nat} (hl : ¬ LetsOut Q) : ∀ (rest : List Oper) (hp : ∀ o ∈ rest, ∀ c, o.op ≠ .defer c) (a : Act) (w : World), wpList P ops Q rest a w → wpListIn (Fence.wide.inRound l) n P ops Q rest a w
  | [], _, _, _, h => h
  | o :: rest, hp, a, w, h => by
    unfold wpList at h
    unfold wpListIn
    split
    · rename_i hw
      rw [if_pos hw] at h
      rcases h with h | h
      · exact operIn_of_oper (hp o (by simp)) (fun a w => wpListIn_of_wpList hl rest (fun o ho => hp o (by simp [ho])) a w) h
      · exact absurd h.2 hl
    · rename_i hw
      rw [if_neg hw] at h
      exact ⟨fun f _ => trivial, wpListIn_of_wpList hl rest (fun o ho => hp o (by simp [ho])) _ _ h⟩
def noDeferL (l : List Oper) : Bool := l.all fun o => match o.op with | .defer _ => false | _ => true
theorem noDeferL_spec {l : List Oper} (h : noDeferL l = true) : ∀ o ∈ l, ∀ c, o.op ≠ .defer c := by
  unfold noDeferL at h
  rw [List.all_eq_true] at h
  intro o ho c hc
  have := h o ho
  rw [hc] at this
  cases this
theorem regionF_In {id n l : Nat} {os : List Oper} {a : Act} {w : World} (hd : noDeferL os = true) (hl : ¬ LetsOut Q) (h : wpList P os.toArray Q os a w) : (Code.region id os.toArray false).wpIn (Fence.wide.inRound l) n P Q a w :=
  wpIn_region_lit (wpListIn_of_wpList hl os (noDeferL_spec hd) a w h)
end
theorem R_putI {W : World} {v : Value} {l : List Int} {B r : Nat} (h : (Kd.int .i64).R 3 W B (fun _ => True) v l) (hr : r < B) (o' : Obj) : (Kd.int .i64).R 3 (W.putObj r o') B (fun _ => True) v l := by
  refine Kd.R_mono (Kd.R_step (Kd.R_bound h) (fun k hk hlt => ?_)) (fun _ _ => trivial)
  exact World.putObj_heap_other (by have := hk.2.1; omega)
def needT : Bool × List (List Nat × List Nat) := (true, [([], []), ([], []), ([], []), ([1, 2], [1, 2]), ([], []), ([0, 3, 4], [0, 3, 4]), ([5], [5]), ([], []), ([6, 7], [6, 7]), ([8, 5, 0, 1, 2, 3, 4, 5, 6, 7, 8], [8])])
def needB : List Nat := [0, 0, 0, 6, 0, 31, 63, 0, 255, 511]
theorem need_tab : rtab .any (opsOf Tryz.f192 1) = needT := by kernel_rfl
theorem need_bits : waitsOk needT.2 needB = true := by kernel_rfl
theorem need1_calls (x : S92) (t pr fo sp ot m lo hi : Int) (X L M : Nat) (w : World) (hX : w.heap[X]? = some (.cells #[.int .i64 x.f0.f0, .int .i64 x.f0.f1, .int .i64 x.f1.f0, .int .i64 x.f1.f1, .int .i64 x.f2.f0, .int .i64 x.f2.f1, .int .i64 x.f3.f0, .int .i64 x.f3.f1, .int .i64 x.f4.f0, .int .i64 x.f4.f1] 92 (0, 0))) (hL : w.heap[L]? = some (.cells #[.int .i64 pr, .int .i64 fo, .int .i64 sp, .int .i64 ot] 48 (0, 0))) (hM : w.heap[M]? = some (.cells #[.int .i64 m] 3 (0, 0)))
    (hs : ∀ W, Calls Tryz.prog 112 #[.agg #[.int .i64 x.f0.f0, .int .i64 x.f0.f1, .int .i64 x.f1.f0, .int .i64 x.f1.f1, .int .i64 x.f2.f0, .int .i64 x.f2.f1, .int .i64 x.f3.f0, .int .i64 x.f3.f1, .int .i64 x.f4.f0, .int .i64 x.f4.f1], .agg #[.int .i64 t, .int .i64 t], .agg #[.int .i64 pr, .int .i64 fo, .int .i64 sp, .int .i64 ot]] W fun e w' => e = .returned (.agg #[.int .i64 lo, .int .i64 hi]) ∧ Below W.heap.size W w') :
    Calls Tryz.prog 192 #[.int .i64 t, .pointer (some ⟨X, 0, none⟩), .pointer (some ⟨L, 0, none⟩), .pointer (some ⟨M, 0, none⟩)] w fun e w' => e = .returned (.bool (decide (hi ≤ m))) ∧ Below w.heap.size w w' := by
  have BX := Sd.mk hX
  have BL := Sd.mk hL
  have BM := Sd.mk hM
  have HS := Sd.mk hs
  clear hX hL hM hs
  go_enter Tryz.func192, Tryz.ntmps192
  go_upto_region 1 with (fail)
  refine start_ (n := 10) (S := fun w' => w'.heap[X]? = some (.cells #[.int .i64 x.f0.f0, .int .i64 x.f0.f1, .int .i64 x.f1.f0, .int .i64 x.f1.f1, .int .i64 x.f2.f0, .int .i64 x.f2.f1, .int .i64 x.f3.f0, .int .i64 x.f3.f1, .int .i64 x.f4.f0, .int .i64 x.f4.f1] 92 (0, 0)) ∧ w'.heap[L]? = some (.cells #[.int .i64 pr, .int .i64 fo, .int .i64 sp, .int .i64 ot] 48 (0, 0)) ∧ w'.heap[M]? = some (.cells #[.int .i64 m] 3 (0, 0))) (ds := []) #[false, false, false, false, false, false, false, false, false, false] (by kernel_rfl) rfl rfl ⟨BX.out, BL.out, BM.out⟩ (fun hHeld => ?_); refine with_tabW need_tab need_bits (fun HT_ HW_ => ?_)
  have HB := Sd.mk (below_drew1 (Below.refl w.heap.size w))
  have hfd : ∀ (W : World), (Instr.field 27 (.agg #[.int .i64 lo, .int .i64 hi]) 1).run Tryz.prog W = .ok (.int .i64 hi) W := fun W => by kernel_rfl
  generalize w.drew = W0 at HB hHeld ⊢
  refine take_ (i := 0) (N := some 6) (v := ?_) (a' := ?_) #[true, false, false, false, false, false, false, false, false, false] rfl rfl (take_ofW HT_.out HW_.out (by kernel_rfl)) (fun _ _ _ h => h) (Or.inl ⟨by rfl, ?_⟩) hHeld ?_ ?_
  rotate_left
  · rintro w' ⟨hx, hl, hm⟩
    have s0 : w'.cell? ⟨X, 0, none⟩ = some (.int .i64 x.f0.f0) := (blk_cell hx 0).trans rfl
    have s1 : w'.cell? ⟨X, 0 + 1, none⟩ = some (.int .i64 x.f0.f1) := (blk_cell hx 1).trans rfl
    have s2 : w'.cell? ⟨X, 0 + 2, none⟩ = some (.int .i64 x.f1.f0) := (blk_cell hx 2).trans rfl
    have s3 : w'.cell? ⟨X, 0 + 3, none⟩ = some (.int .i64 x.f1.f1) := (blk_cell hx 3).trans rfl
    have s4 : w'.cell? ⟨X, 0 + 4, none⟩ = some (.int .i64 x.f2.f0) := (blk_cell hx 4).trans rfl
    have s5 : w'.cell? ⟨X, 0 + 5, none⟩ = some (.int .i64 x.f2.f1) := (blk_cell hx 5).trans rfl
    have s6 : w'.cell? ⟨X, 0 + 6, none⟩ = some (.int .i64 x.f3.f0) := (blk_cell hx 6).trans rfl
    have s7 : w'.cell? ⟨X, 0 + 7, none⟩ = some (.int .i64 x.f3.f1) := (blk_cell hx 7).trans rfl
    have s8 : w'.cell? ⟨X, 0 + 8, none⟩ = some (.int .i64 x.f4.f0) := (blk_cell hx 8).trans rfl
    have s9 : w'.cell? ⟨X, 0 + 9, none⟩ = some (.int .i64 x.f4.f1) := (blk_cell hx 9).trans rfl
    go_simp
    with_reducible rfl
  rotate_left
  · simp only [Act.put, List.setIfInBounds_toArray, List.set_cons_zero, List.set_cons_succ, i64_w, i32_w]
    rfl
  refine pure_ (i := 1) (N := some 7) (v := ?_) (a' := ?_) #[true, true, false, false, false, false, false, false, false, false] rfl rfl (any_of HT_.out (by kernel_rfl)) (fun _ _ _ h => h) (Or.inl ⟨by rfl, ?_⟩) ?_ ?_
  rotate_left
  · intro w'
    go_simp
    with_reducible rfl
  rotate_left
  · simp only [Act.put, List.setIfInBounds_toArray, List.set_cons_zero, List.set_cons_succ, i64_w, i32_w]
    rfl
  refine pure_ (i := 2) (N := some 8) (v := ?_) (a' := ?_) #[true, true, true, false, false, false, false, false, false, false] rfl rfl (any_of HT_.out (by kernel_rfl)) (fun _ _ _ h => h) (Or.inl ⟨by rfl, ?_⟩) ?_ ?_
  rotate_left
  · intro w'
    go_simp
    with_reducible rfl
  rotate_left
  · simp only [Act.put, List.setIfInBounds_toArray, List.set_cons_zero, List.set_cons_succ, i64_w, i32_w]
    rfl
  refine pure_ (i := 3) (N := some 9) (v := ?_) (a' := ?_) #[true, true, true, true, false, false, false, false, false, false] rfl rfl (any_of HT_.out (by kernel_rfl)) (fun _ _ _ h => h) (Or.inl ⟨by rfl, ?_⟩) ?_ ?_
  rotate_left
  · intro w'
    go_simp
    with_reducible rfl
  rotate_left
  · simp only [Act.put, List.setIfInBounds_toArray, List.set_cons_zero, List.set_cons_succ, i64_w, i32_w]
    rfl
  refine take_ (i := 4) (N := some 10) (v := ?_) (a' := ?_) #[true, true, true, true, true, false, false, false, false, false] rfl rfl (take_ofW HT_.out HW_.out (by kernel_rfl)) (fun _ _ _ h => h) (Or.inl ⟨by rfl, ?_⟩) hHeld ?_ ?_
  rotate_left
  · rintro w' ⟨hx, hl, hm⟩
    have s0 : w'.cell? ⟨L, 0, none⟩ = some (.int .i64 pr) := (blk_cell hl 0).trans rfl
    have s1 : w'.cell? ⟨L, 0 + 1, none⟩ = some (.int .i64 fo) := (blk_cell hl 1).trans rfl
    have s2 : w'.cell? ⟨L, 0 + 2, none⟩ = some (.int .i64 sp) := (blk_cell hl 2).trans rfl
    have s3 : w'.cell? ⟨L, 0 + 3, none⟩ = some (.int .i64 ot) := (blk_cell hl 3).trans rfl
    go_simp
    with_reducible rfl
  rotate_left
  · simp only [Act.put, List.setIfInBounds_toArray, List.set_cons_zero, List.set_cons_succ, i64_w, i32_w]
    rfl
  refine take_ (i := 7) (N := some 13) (v := ?_) (a' := ?_) #[true, true, true, true, true, false, false, true, false, false] rfl rfl (take_ofW HT_.out HW_.out (by kernel_rfl)) (fun _ _ _ h => h) (Or.inl ⟨by rfl, ?_⟩) hHeld ?_ ?_
  rotate_left
  · rintro w' ⟨hx, hl, hm⟩
    have s0 : w'.cell? ⟨M, 0, none⟩ = some (.int .i64 m) := (blk_cell hm 0).trans rfl
    go_simp
    with_reducible rfl
  rotate_left
  · simp only [Act.put, List.setIfInBounds_toArray, List.set_cons_zero, List.set_cons_succ, i64_w, i32_w]
    rfl
  refine one_ (i := 5) (N := some 11) #[true, true, true, true, true, true, false, true, false, false] rfl rfl (one_of HT_.out (by kernel_rfl)) (by decide) (fun K hK => ?_)
  refine goes_ Tryz.func112 (by kernel_rfl) rfl #[.agg #[.int .i64 x.f0.f0, .int .i64 x.f0.f1, .int .i64 x.f1.f0, .int .i64 x.f1.f1, .int .i64 x.f2.f0, .int .i64 x.f2.f1, .int .i64 x.f3.f0, .int .i64 x.f3.f1, .int .i64 x.f4.f0, .int .i64 x.f4.f1], .agg #[.int .i64 t, .int .i64 t], .agg #[.int .i64 pr, .int .i64 fo, .int .i64 sp, .int .i64 ot]] (by (try simp only [Array.map_toArray, List.map_toArray, List.map_cons, List.map_nil]); rfl) rfl rfl (by (try simp only [List.map_toArray, List.map_cons, List.map_nil]); first | done | rfl) ?_
  refine (HS.out _).mono ?_
  rintro e w4 ⟨rfl, hb⟩
  refine ⟨_, rfl, ?_⟩
  obtain ⟨hx, hl, hm⟩ := hHeld
  have HB4 := Sd.mk (below_then HB.out HB.out.size hb)
  have S4 := Sd.mk (And.intro (blk_below hx hb) (And.intro (blk_below hl hb) (blk_below hm hb)))
  clear hb hx hl hm
  refine hK.out _ _ S4.out (fun hHeld => ?_)
  clear hK K
  refine norm_ (a' := ?_) ?_ ?_
  rotate_left
  · show Act.put _ (some 11) _ = _
    simp only [Act.put, List.setIfInBounds_toArray, List.set_cons_zero, List.set_cons_succ, i64_w, i32_w]
    rfl
  refine pure_ (i := 6) (N := some 12) (v := ?_) (a' := ?_) #[true, true, true, true, true, true, true, true, false, false] rfl rfl (any_of HT_.out (by kernel_rfl)) (fun _ _ _ h => h) (Or.inl ⟨by rfl, ?_⟩) ?_ ?_
  rotate_left
  · intro w'
    go_simp
    with_reducible rfl
  rotate_left
  · simp only [Act.put, List.setIfInBounds_toArray, List.set_cons_zero, List.set_cons_succ, i64_w, i32_w]
    rfl
  refine pure_ (i := 8) (N := some 14) (v := ?_) (a' := ?_) #[true, true, true, true, true, true, true, true, true, false] rfl rfl (any_of HT_.out (by kernel_rfl)) (fun _ _ _ h => h) (Or.inl ⟨by rfl, ?_⟩) ?_ ?_
  rotate_left
  · intro w'
    go_simp
    with_reducible rfl
  rotate_left
  · simp only [Act.put, List.setIfInBounds_toArray, List.set_cons_zero, List.set_cons_succ, i64_w, i32_w]
    rfl
  refine pure_ (i := 9) (N := some 5) (v := ?_) (a' := ?_) #[true, true, true, true, true, true, true, true, true, true] rfl rfl (any_of HT_.out (by kernel_rfl)) (fun _ _ _ h => h) (Or.inl ⟨by rfl, ?_⟩) ?_ ?_
  rotate_left
  · intro w'
    go_simp
    with_reducible rfl
  rotate_left
  · simp only [Act.put, List.setIfInBounds_toArray, List.set_cons_zero, List.set_cons_succ, i64_w, i32_w]
    rfl
  refine done_ (done_of HT_.out (by kernel_rfl)) ?_
  go_wp2
  go_ret
  exact ⟨rfl, HB4.out⟩
def needV (n : Int) : Int := if n > 2000 then 0 else n
def needL (nn : Nat → Int) : Nat → List Int
  | 0 => []
  | k + 1 => needL nn k ++ [needV (nn k)]
theorem needL_len (nn : Nat → Int) : ∀ k, (needL nn k).length = k
  | 0 => rfl
  | k + 1 => by simp [needL, needL_len nn k]
structure NdI (A : Option Addr) (c : Nat) (zs : List S92) (f1 f2 pr fo sp ot m : Int) (w : World) (M g B : Nat) (W : World) (v : Value) (l : List Int) : Prop where
  bx : W.heap[w.heap.size]? = some (.cells #[.slice A zs.length c, .int .i64 f1, .int .i64 f2] 73 (0, 0))
  bl : W.heap[w.heap.size + 1]? = some (.cells #[.int .i64 pr, .int .i64 fo, .int .i64 sp, .int .i64 ot] 48 (0, 0))
  bm : W.heap[M]? = some (.cells #[.int .i64 m] 3 (0, 0))
  so : W.heap[M + 1]? = some (.cells #[v] 30 (0, 0))
  rb : W.heap[g]? = some (.cells #[.slice A zs.length c, .int .i64 f1, .int .i64 f2] 73 (0, 0))
  be : Below w.heap.size w W
  ro : (Kd.int .i64).R 3 W (B + 2) (fun _ => True) v l
section
variable {A : Option Addr} {c : Nat} {zs : List S92} {f1 f2 pr fo sp ot m : Int} {w : World} {M g B : Nat} {W : World} {v : Value} {l : List Int}
theorem NdI.alloc (h : NdI A c zs f1 f2 pr fo sp ot m w M g B W v l) (o : Obj) : NdI A c zs f1 f2 pr fo sp ot m w M g B (W.alloc o) v l :=
  ⟨blk_alloc h.bx o, blk_alloc h.bl o, blk_alloc h.bm o, blk_alloc h.so o, blk_alloc h.rb o, below_alloc h.be o, Kd.R_alloc h.ro o⟩
theorem NdI.put (h : NdI A c zs f1 f2 pr fo sp ot m w M g B W v l) (o : Obj) (h0 : w.heap.size + 2 ≤ M) (h1 : M + 1 < g) (h2 : g < B) (h3 : B + 1 < W.heap.size) : NdI A c zs f1 f2 pr fo sp ot m w M g B (W.putObj (B + 1) o) v l :=
  ⟨putObj_heap_keep (by omega) h.bx, putObj_heap_keep (by omega) h.bl, putObj_heap_keep (by omega) h.bm, putObj_heap_keep (by omega) h.so, putObj_heap_keep (by omega) h.rb, below_putObj h.be (by omega) h3, R_putI h.ro (by omega) o⟩
theorem NdI.step (h : NdI A c zs f1 f2 pr fo sp ot m w M g B W v l) {W' : World} (hb : Below W.heap.size W W') : NdI A c zs f1 f2 pr fo sp ot m w M g B W' v l :=
  ⟨blk_below h.bx hb, blk_below h.bl hb, blk_below h.bm hb, blk_below h.so hb, blk_below h.rb hb, below_then h.be h.be.size hb, Kd.R_below h.ro hb⟩
end
theorem nd_n : wrap64 (wrap64 (2000 - 1) + 1) = ((2000 : Nat) : Int) := by
  rw [wsmall (x := 2000 - 1) (by omega) (by omega), wsmall (by omega) (by omega)]; omega
theorem needed_calls (A : Option Addr) (c : Nat) (zs : List S92) (f1 f2 pr fo sp ot m : Int) (lo hi : Nat → Nat → Int) (cs : Nat → Nat) (w : World) (hr : Kd.C k92 w A zs.length zs) (hlen : zs.length ≤ 24)
    (hlim : ∀ W, Calls Tryz.prog 191 #[.agg #[.slice A zs.length c, .int .i64 f1, .int .i64 f2]] W fun e w' => e = .returned (.int .i64 m) ∧ Below W.heap.size W w')
    (hst : ∀ k : Nat, k < zs.length → ∀ i : Nat, i < 2000 → ∀ W, Calls Tryz.prog 112 #[ringV (rd_T92 zs (k : Int)), .agg #[.int .i64 ((i : Int) + 1), .int .i64 ((i : Int) + 1)], loadVv pr fo sp ot] W fun e w' => e = .returned (.agg #[.int .i64 (lo k i), .int .i64 (hi k i)]) ∧ Below W.heap.size W w')
    (hts : ∀ k : Nat, k < zs.length → TurnsAt (fun i => decide (hi k i ≤ m)) 2000 (cs k)) :
    Calls Tryz.prog 122 #[.agg #[.slice A zs.length c, .int .i64 f1, .int .i64 f2], .agg #[.int .i64 pr, .int .i64 fo, .int .i64 sp, .int .i64 ot]] w fun e w' => ∃ v, e = .returned v ∧ (Kd.int .i64).R 3 w' w.heap.size (fun _ => True) v (needL (fun k => (cs k : Int) + 1) zs.length) ∧ Below w.heap.size w w' := by
  have hmf := run_makeFunc_
  obtain ⟨b1, b2, hb0, hsz⟩ := blk_two w (.cells #[.slice A zs.length c, .int .i64 f1, .int .i64 f2] 73) (.cells #[.int .i64 pr, .int .i64 fo, .int .i64 sp, .int .i64 ot] 48)
  have BX := Sd.mk b1
  have BL := Sd.mk b2
  have HB := Sd.mk hb0
  have HSZ := Sd.mk hsz
  have HR := Sd.mk hr
  have HLIM := Sd.mk hlim
  have HST := Sd.mk hst
  have HTS := Sd.mk hts
  have HN := Sd.mk hlen
  clear b1 b2 hb0 hsz hr hlim hst hts hlen
  refine (callsIn_wide (n := 9)).1 (callsIn_of_wp_marks Tryz.func122 rfl trivial ?_ rfl)
  simp only [Tryz.ntmps122, List.size_toArray, List.length_cons, List.length_nil, Nat.reduceAdd, Nat.reduceSub, Array.replicate_succ, Array.replicate_zero, List.push_toArray, List.append_toArray, List.nil_append, List.cons_append]
  gi_wp2_with (first | (refine ⟨trivial, ?_⟩; gi_at_call 191; refine (callsIn_wide.2 (HLIM.out _)).mono ?_; rintro e w1 ⟨rfl, hw1⟩; have HM := Sd.mk (show w.heap.size + 2 ≤ w1.heap.size from Nat.le_trans (by have := HSZ.out; omega) hw1.size); have BX1 := Sd.mk (blk_alloc (blk_alloc (blk_below BX.out hw1) (.cells #[.int .i64 m] 3)) (.cells #[.slice none 0 0] 30)); have BL1 := Sd.mk (blk_alloc (blk_alloc (blk_below BL.out hw1) (.cells #[.int .i64 m] 3)) (.cells #[.slice none 0 0] 30)); have BM1 := Sd.mk (blk_alloc (blk_new w1 (.cells #[.int .i64 m] 3)) (.cells #[.slice none 0 0] 30)); have BO1 : Sd (((w1.alloc (.cells #[.int .i64 m] 3)).alloc (.cells #[.slice none 0 0] 30)).heap[w1.heap.size + 1]? = some (.cells #[.slice none 0 0] 30 (0, 0))) := ⟨by simpa using blk_new (w1.alloc (.cells #[.int .i64 m] 3)) (.cells #[.slice none 0 0] 30)⟩; have HB1 := Sd.mk (below_alloc (below_alloc (below_then HB.out HB.out.size hw1) (.cells #[.int .i64 m] 3)) (.cells #[.slice none 0 0] 30)); clear hw1; have hx0 : ((w1.alloc (.cells #[.int .i64 m] 3)).alloc (.cells #[.slice none 0 0] 30)).cell? ⟨w.heap.size, 0, none⟩ = some (.slice A zs.length c) := (blk_cell BX1.out 0).trans rfl; have hx1 : ((w1.alloc (.cells #[.int .i64 m] 3)).alloc (.cells #[.slice none 0 0] 30)).cell? ⟨w.heap.size, 0 + 1, none⟩ = some (.int .i64 f1) := (blk_cell BX1.out 1).trans rfl; have hx2 : ((w1.alloc (.cells #[.int .i64 m] 3)).alloc (.cells #[.slice none 0 0] 30)).cell? ⟨w.heap.size, 0 + 2, none⟩ = some (.int .i64 f2) := (blk_cell BX1.out 2).trans rfl) | (refine ⟨trivial, ?_⟩; gi_at_call 111; (with_reducible refine (callsIn_wide.2 (rings_b _ _ _ _)).mono ?_); rintro e w3 ⟨g, rfl, hg, hbk, hw3⟩; have I0 : Sd (NdI A c zs f1 f2 pr fo sp ot m w w1.heap.size g w3.heap.size w3 (.slice none 0 0) []) := ⟨⟨blk_below BX1.out hw3, blk_below BL1.out hw3, blk_below BM1.out hw3, blk_below BO1.out hw3, hbk, below_then HB1.out HB1.out.size hw3, Kd.R_nil _ _ _ _ _⟩⟩; have HG := Sd.mk (show w1.heap.size + 1 < g from Nat.lt_of_lt_of_le (by simp) hg); have HG3 := Sd.mk (show g < w3.heap.size from blk_lt hbk); clear hbk hw3 hg))
  clear hx0 hx1 hx2 BX BL HB BX1 BL1 BM1 BO1 HB1
  refine wpIn_rangeFuncP (N := zs.length) (encs := fun k => #[.int .i64 (k : Int), ringV (rd_T92 zs k)]) rfl (by omega) (gf := 187) (lb := #[.pointer (some ⟨g, 0, none⟩)]) rfl trivial (enters_of Tryz.func187 (by kernel_rfl) rfl) (fun _ => rfl)
    (fun k W => ∃ v, NdI A c zs f1 f2 pr fo sp ot m w w1.heap.size g w3.heap.size W v (needL (fun k => (cs k : Int) + 1) k)) (fun _ _ => False) (fun k W o ⟨v, h⟩ => ⟨v, h.alloc o⟩) (fun k W o r hl ⟨v, h⟩ => ⟨v, h.put o HM.out HG.out HG3.out (Array.getElem?_eq_some_iff.1 hl).1⟩) ⟨_, I0.out⟩ ?seq ?round ?fn ?done ?panic
  case seq =>
    intro l1 J Jp W hJa hJI hY h0
    obtain ⟨v, hi0⟩ := hJI _ _ h0
    exact rings1_in Fence.wide (9 - 1) trivial rfl (by omega) l1 g A c _ _ zs J Jp W hi0.rb hJa (fun k W' h => by obtain ⟨v, h⟩ := hJI _ _ h; exact Kd.C_below HR.out h.be) hY h0
  case round =>
    clear I0
    intro l k W hW _ hk hI st hst
    obtain ⟨v, hI⟩ := hI
    have HI1 := Sd.mk hI
    have HW := Sd.mk hW
    have HK := Sd.mk hk
    have HSK := Sd.mk (HST.out k hk)
    have HTK := Sd.mk (HTS.out k hk)
    clear hI hW hk
    generalize hx : rd_T92 zs (k : Int) = x at HSK ⊢
    clear hx
    unfold ringV
    unfold ringV loadVv at HSK
    simp only [List.zip_cons_cons, List.zip_nil_right, List.foldl_cons, List.foldl_nil]
    gi_wp2
    refine hst _ _ (by simp) (fun j h1 h2 => Below.heap_alloc W _ j (by have := HW.out; omega)) ?_
    clear hst
    intro o
    have CK : Sd (NdI A c zs f1 f2 pr fo sp ot m w w1.heap.size g w3.heap.size ((W.alloc (.cells #[.int .i64 x.f0.f0, .int .i64 x.f0.f1, .int .i64 x.f1.f0, .int .i64 x.f1.f1, .int .i64 x.f2.f0, .int .i64 x.f2.f1, .int .i64 x.f3.f0, .int .i64 x.f3.f1, .int .i64 x.f4.f0, .int .i64 x.f4.f1] 92)).putObj (w3.heap.size + 1) o) v (needL (fun k => (cs k : Int) + 1) k)) := ⟨(HI1.out.alloc _).put o HM.out HG.out HG3.out (by have := HW.out; simp; omega)⟩
    have RB : Sd (((W.alloc (.cells #[.int .i64 x.f0.f0, .int .i64 x.f0.f1, .int .i64 x.f1.f0, .int .i64 x.f1.f1, .int .i64 x.f2.f0, .int .i64 x.f2.f1, .int .i64 x.f3.f0, .int .i64 x.f3.f1, .int .i64 x.f4.f0, .int .i64 x.f4.f1] 92)).putObj (w3.heap.size + 1) o).heap[W.heap.size]? = some (.cells #[.int .i64 x.f0.f0, .int .i64 x.f0.f1, .int .i64 x.f1.f0, .int .i64 x.f1.f1, .int .i64 x.f2.f0, .int .i64 x.f2.f1, .int .i64 x.f3.f0, .int .i64 x.f3.f1, .int .i64 x.f4.f0, .int .i64 x.f4.f1] 92 (0, 0))) := ⟨putObj_heap_keep (by have := HW.out; omega) (blk_new _ _)⟩
    have WS : Sd (((W.alloc (.cells #[.int .i64 x.f0.f0, .int .i64 x.f0.f1, .int .i64 x.f1.f0, .int .i64 x.f1.f1, .int .i64 x.f2.f0, .int .i64 x.f2.f1, .int .i64 x.f3.f0, .int .i64 x.f3.f1, .int .i64 x.f4.f0, .int .i64 x.f4.f1] 92)).putObj (w3.heap.size + 1) o).heap.size = W.heap.size + 1) := ⟨by simp⟩
    generalize ((W.alloc (.cells #[.int .i64 x.f0.f0, .int .i64 x.f0.f1, .int .i64 x.f1.f0, .int .i64 x.f1.f1, .int .i64 x.f2.f0, .int .i64 x.f2.f1, .int .i64 x.f3.f0, .int .i64 x.f3.f1, .int .i64 x.f4.f0, .int .i64 x.f4.f1] 92)).putObj (w3.heap.size + 1) o) = Wb at CK RB WS ⊢
    have SZ : Sd (w3.heap.size + 2 ≤ Wb.heap.size) := ⟨by have := HW.out; have := WS.out; omega⟩
    have fin : ∀ (a' : Act) (w5 : World) (v1 : Value), (Kd.int .i64).R 3 w5 (w3.heap.size + 2) (fun _ => True) v1 (needL (fun k => (cs k : Int) + 1) k ++ [needV ((cs k : Int) + 1)]) → Below (w3.heap.size + 2) Wb w5 → bodyPostP w3.heap.size (fun k W => ∃ v, NdI A c zs f1 f2 pr fo sp ot m w w1.heap.size g w3.heap.size W v (needL (fun k => (cs k : Int) + 1) k)) (fun _ _ => False) (k + 1) Wb .normal a' (w5.setCell ⟨w1.heap.size + 1, 0, none⟩ v1) := by
      intro a' w5 v1 hr5 hb5
      have hm := HM.out
      have hg1 := HG.out
      have hg2 := HG3.out
      refine ⟨by simpa using hb5.size, fun j h1 h2 => (Below.heap_setCell _ _ _ j (by simp; omega)).trans (hb5.block j (by omega)), v1, ?_⟩
      exact ⟨blk_far (Below5 hb5 CK.out.bx (by omega)) (p := ⟨w1.heap.size + 1, 0, none⟩) (by simp; omega) _, blk_far (Below5 hb5 CK.out.bl (by omega)) (p := ⟨w1.heap.size + 1, 0, none⟩) (by simp; omega) _, blk_far (Below5 hb5 CK.out.bm (by omega)) (p := ⟨w1.heap.size + 1, 0, none⟩) (by simp) _, blk_put (Below5 hb5 CK.out.so (by omega)) 0 _ rfl, blk_far (Below5 hb5 CK.out.rb (by omega)) (p := ⟨w1.heap.size + 1, 0, none⟩) (by simp; omega) _, below_set (CK.out.be.trans (hb5.mono (by omega))) (by omega), Kd.R_set hr5 (Below5 hb5 CK.out.so (by omega)) (by simp [Kd.int, Kd.scalar]) 0 _⟩
    have FIN := Sd.mk fin
    clear fin
    have HC := Sd.mk ((first_calls 192 #[.pointer (some ⟨W.heap.size, 0, none⟩), .pointer (some ⟨w.heap.size + 1, 0, none⟩), .pointer (some ⟨w1.heap.size, 0, none⟩)] (enters_of Tryz.func192 (by kernel_rfl) rfl) 1 2000 2000 nd_n (by decide) _ (cs k) HTK.out Wb (fun W' i hW' hi' =>
      (show Calls Tryz.prog 192 #[.int .i64 (wrap64 (1 + (i : Int))), .pointer (some ⟨W.heap.size, 0, none⟩), .pointer (some ⟨w.heap.size + 1, 0, none⟩), .pointer (some ⟨w1.heap.size, 0, none⟩)] W' (fun e w' => e = .returned (.bool ((fun i => decide (hi k i ≤ m)) i)) ∧ Below W'.heap.size W' w') from by
        rw [show wrap64 (1 + (i : Int)) = (i : Int) + 1 from by rw [wsmall (by omega) (by omega)]; omega]
        exact need1_calls x ((i : Int) + 1) pr fo sp ot m (lo k i) (hi k i) _ _ _ W' (blk_below RB.out hW') (blk_below CK.out.bl hW') (blk_below CK.out.bm hW') (fun W'' => HSK.out i hi' W'')))).mono (fun e w' he => (show e = .returned (.int .i64 ((cs k : Int) + 1)) ∧ Below Wb.heap.size Wb w' from ⟨by rw [he.1, show wrap64 (1 + (cs k : Int)) = (cs k : Int) + 1 from by have := HTK.out.le; rw [wsmall (by omega) (by omega)]; omega], he.2⟩)))
    generalize (cs k : Int) + 1 = nk at HC FIN
    clear HTK HSK
    by_cases hgt : 2000 < nk
    · have hv : needV nk = 0 := if_pos hgt
      rw [hv] at FIN
      clear hv
      gi_upto_region 8 with (refine ⟨trivial, ?_⟩; gi_at_call 115; refine (CallsIn.inRound l (callsIn_wide.2 HC.out)).mono ?_; rintro e w4 ⟨rfl, hb4⟩; have I4 := Sd.mk (CK.out.step hb4); have BD4 := Sd.mk (show Below (w3.heap.size + 2) Wb w4 from hb4.mono SZ.out); have SZ4 := Sd.mk (show w3.heap.size + 2 ≤ w4.heap.size from Nat.le_trans SZ.out hb4.size); clear hb4)
      clear hgt HC
      refine regionF_In (by rfl) (fun ⟨_, _, h⟩ => h) ?_
      have so4 : w4.cell? ⟨w1.heap.size + 1, 0, none⟩ = some v := (blk_cell I4.out.so 0).trans rfl
      go_wp2_with ((with_reducible refine gate_builtin (b := .append) (xs := #[.tmp 20, .tmp 22]) rfl ?_); at_builtin; refine Kd.R_append (Kd.int .i64) (w0 := Wb) (w3.heap.size + 2) rfl (.tmp 20) (.tmp 22) 30 3 (.int .i64 0) 8 rfl Tryz.underlying30 info3 rfl (by decide) (by omega) v (needL (fun k => (cs k : Int) + 1) k) (0) [.int .i64 (0)] (fun _ => True) (fun _ => False) rfl rfl rfl (fun _ hk => hk.elim) (fun _ _ => trivial) I4.out.ro BD4.out SZ4.out (by rw [needL_len]; have := HN.out; have := HK.out; omega) ?_; intro v1 w5 ho hb hg hat; obtain ⟨As, cs5, rfl⟩ := Kd.R_slice ho; have HO := Sd.mk ho; have HB5 := Sd.mk hb; have so5 : w5.cell? ⟨w1.heap.size + 1, 0, none⟩ = some v := (blk_cell (Below5 hb CK.out.so (by have := HG.out; have := HG3.out; omega)) 0).trans rfl; have so6 := blk_frozen (Below5 hb CK.out.so (by have := HG.out; have := HG3.out; omega)) 0; clear ho hb hg hat)
      refine FIN.out { tmps := #[], defers := [] } _ _ ?_ HB5.out
      have ho := HO.out
      rw [List.length_append] at ho
      exact ho
    · have hv : needV nk = nk := if_neg hgt
      rw [hv] at FIN
      clear hv
      gi_upto_region 8 with (refine ⟨trivial, ?_⟩; gi_at_call 115; refine (CallsIn.inRound l (callsIn_wide.2 HC.out)).mono ?_; rintro e w4 ⟨rfl, hb4⟩; have I4 := Sd.mk (CK.out.step hb4); have BD4 := Sd.mk (show Below (w3.heap.size + 2) Wb w4 from hb4.mono SZ.out); have SZ4 := Sd.mk (show w3.heap.size + 2 ≤ w4.heap.size from Nat.le_trans SZ.out hb4.size); clear hb4)
      clear hgt HC
      refine regionF_In (by rfl) (fun ⟨_, _, h⟩ => h) ?_
      have so4 : w4.cell? ⟨w1.heap.size + 1, 0, none⟩ = some v := (blk_cell I4.out.so 0).trans rfl
      go_wp2_with ((with_reducible refine gate_builtin (b := .append) (xs := #[.tmp 20, .tmp 22]) rfl ?_); at_builtin; refine Kd.R_append (Kd.int .i64) (w0 := Wb) (w3.heap.size + 2) rfl (.tmp 20) (.tmp 22) 30 3 (.int .i64 0) 8 rfl Tryz.underlying30 info3 rfl (by decide) (by omega) v (needL (fun k => (cs k : Int) + 1) k) (nk) [.int .i64 (nk)] (fun _ => True) (fun _ => False) rfl rfl rfl (fun _ hk => hk.elim) (fun _ _ => trivial) I4.out.ro BD4.out SZ4.out (by rw [needL_len]; have := HN.out; have := HK.out; omega) ?_; intro v1 w5 ho hb hg hat; obtain ⟨As, cs5, rfl⟩ := Kd.R_slice ho; have HO := Sd.mk ho; have HB5 := Sd.mk hb; have so5 : w5.cell? ⟨w1.heap.size + 1, 0, none⟩ = some v := (blk_cell (Below5 hb CK.out.so (by have := HG.out; have := HG3.out; omega)) 0).trans rfl; have so6 := blk_frozen (Below5 hb CK.out.so (by have := HG.out; have := HG3.out; omega)) 0; clear ho hb hg hat)
      refine FIN.out { tmps := #[], defers := [] } _ _ ?_ HB5.out
      have ho := HO.out
      rw [List.length_append] at ho
      exact ho
  case fn => intro ⟨_, _, h⟩; exact h.elim
  case panic => intro _ _ h; exact h.elim
  case done =>
    intro W hI hD
    obtain ⟨v, hI⟩ := hI
    have HI2 := Sd.mk hI
    have HD := Sd.mk hD
    have gv : W.cell? ⟨w1.heap.size + 1, 0, none⟩ = some v := (blk_cell hI.so 0).trans rfl
    clear hI hD I0
    gi_wp2
    have hm := HM.out
    have hg1 := HG.out
    have hg2 := HG3.out
    have hi2 := HI2.out
    have hlt : w3.heap.size < W.heap.size := (Array.getElem?_eq_some_iff.1 HD.out).1
    refine ⟨by simp, .inl ⟨_, _, rfl, run_takeDeferred HD.out, ?_⟩⟩
    exact ⟨_, results_tmp rfl _ _ _, _, rfl, Kd.R_lower (R_putI hi2.ro (by omega) _) (by omega), below_putObj hi2.be (by omega) hlt⟩
theorem Needed_ok (A : Option Addr) (c : Nat) (zs : List S92) (f1 f2 pr fo sp ot m : Int) (lo hi : Nat → Nat → Int) (cs : Nat → Nat) (w : World) (hr : Kd.C k92 w A zs.length zs) (h0 : bottleV zs f1 f2 = 0) (h1 : loadB pr fo sp ot = true)
    (hlim : ∀ W, Calls Tryz.prog 191 #[.agg #[.slice A zs.length c, .int .i64 f1, .int .i64 f2]] W fun e w' => e = .returned (.int .i64 m) ∧ Below W.heap.size W w')
    (hst : ∀ k : Nat, k < zs.length → ∀ i : Nat, i < 2000 → ∀ W, Calls Tryz.prog 112 #[ringV (rd_T92 zs (k : Int)), .agg #[.int .i64 ((i : Int) + 1), .int .i64 ((i : Int) + 1)], loadVv pr fo sp ot] W fun e w' => e = .returned (.agg #[.int .i64 (lo k i), .int .i64 (hi k i)]) ∧ Below W.heap.size W w')
    (hts : ∀ k : Nat, k < zs.length → TurnsAt (fun i => decide (hi k i ≤ m)) 2000 (cs k)) :
    Calls Tryz.prog 39 #[.agg #[.slice A zs.length c, .int .i64 f1, .int .i64 f2], .agg #[.int .i64 pr, .int .i64 fo, .int .i64 sp, .int .i64 ot]] w fun e w' => ∃ v, e = .returned (.tuple #[v, .int .i64 0]) ∧ (Kd.int .i64).R 3 w' w.heap.size (fun _ => True) v (needL (fun k => (cs k : Int) + 1) zs.length) ∧ Below w.heap.size w w' := by
  have hmf := run_makeFunc_
  obtain ⟨b1, b2, b3, hb0, hsz⟩ := blk_three w (.cells #[.slice A zs.length c, .int .i64 f1, .int .i64 f2] 73) (.cells #[.int .i64 pr, .int .i64 fo, .int .i64 sp, .int .i64 ot] 48) (.cells #[.int .i64 0] 38)
  have BX := Sd.mk b1
  have BL := Sd.mk b2
  have BE := Sd.mk b3
  have HB := Sd.mk hb0
  have HR := Sd.mk hr
  have H0 := Sd.mk h0
  have H1 := Sd.mk h1
  have HH := Sd.mk (fun W hr' => needed_calls A c zs f1 f2 pr fo sp ot m lo hi cs W hr' (bottle_len h0) hlim hst hts)
  clear b1 b2 b3 hb0 hsz hr h0 h1 hlim hst hts
  go_enter_defers Tryz.func39, Tryz.ntmps39
  go_wp2_with (first | (go_at_call 120; refine (bottle_ok A c zs f1 f2 _ (Kd.C_below HR.out HB.out) H0.out).mono ?_; rintro e w1 ⟨rfl, hb1⟩; have BX1 := Sd.mk (blk_below BX.out hb1); have BL1 := Sd.mk (blk_below BL.out hb1); have BE1 := Sd.mk (blk_below BE.out hb1); have HB1 := Sd.mk (below_then HB.out HB.out.size hb1); clear hb1; have hq0 : w1.cell? ⟨w.heap.size + 1, 0, none⟩ = some (.int .i64 pr) := (blk_cell BL1.out 0).trans rfl; have hq1 : w1.cell? ⟨w.heap.size + 1, 0 + 1, none⟩ = some (.int .i64 fo) := (blk_cell BL1.out 1).trans rfl; have hq2 : w1.cell? ⟨w.heap.size + 1, 0 + 2, none⟩ = some (.int .i64 sp) := (blk_cell BL1.out 2).trans rfl; have hq3 : w1.cell? ⟨w.heap.size + 1, 0 + 3, none⟩ = some (.int .i64 ot) := (blk_cell BL1.out 3).trans rfl) | (go_at_call 121; refine (load_ok pr fo sp ot _ H1.out).mono ?_; rintro e w2 ⟨rfl, hb2⟩; have BX2 := Sd.mk (blk_below BX1.out hb2); have BL2 := Sd.mk (blk_below BL1.out hb2); have BE2 := Sd.mk (blk_below BE1.out hb2); have HB2 := Sd.mk (below_then HB1.out HB1.out.size hb2); clear hb2; have hx0 : w2.cell? ⟨w.heap.size, 0, none⟩ = some (.slice A zs.length c) := (blk_cell BX2.out 0).trans rfl; have hx1 : w2.cell? ⟨w.heap.size, 0 + 1, none⟩ = some (.int .i64 f1) := (blk_cell BX2.out 1).trans rfl; have hx2 : w2.cell? ⟨w.heap.size, 0 + 2, none⟩ = some (.int .i64 f2) := (blk_cell BX2.out 2).trans rfl; have hq0 : w2.cell? ⟨w.heap.size + 1, 0, none⟩ = some (.int .i64 pr) := (blk_cell BL2.out 0).trans rfl; have hq1 : w2.cell? ⟨w.heap.size + 1, 0 + 1, none⟩ = some (.int .i64 fo) := (blk_cell BL2.out 1).trans rfl; have hq2 : w2.cell? ⟨w.heap.size + 1, 0 + 2, none⟩ = some (.int .i64 sp) := (blk_cell BL2.out 2).trans rfl; have hq3 : w2.cell? ⟨w.heap.size + 1, 0 + 3, none⟩ = some (.int .i64 ot) := (blk_cell BL2.out 3).trans rfl) | (go_at_call 122; refine (HH.out _ (Kd.C_below HR.out HB2.out)).mono ?_; rintro e w3 ⟨v3, rfl, hv3, hb3⟩; have BE3 := Sd.mk (blk_below BE2.out hb3); have HB3 := Sd.mk (below_then HB2.out HB2.out.size hb3); have HV3 := Sd.mk (Kd.R_lower hv3 HB2.out.size); clear hv3 hb3; have he0 : w3.cell? ⟨w.heap.size + 1 + 1, 0, none⟩ = some (.int .i64 0) := (blk_cell BE3.out 0).trans rfl; have he1 := blk_frozen BE3.out 0))
  refine leaves_cons (f := 119) (args := #[.pointer (some ⟨w.heap.size + 1 + 1, 0, none⟩)]) (by simp) (by simp [go_sem]) ?_
  refine (door119_ok _ _).mono ?_
  rintro e u' w'' ⟨rfl, rfl, rfl⟩
  exact ⟨_, results_te rfl _ _ (w.heap.size + 1 + 1) 0 rfl (blk_put BE3.out 0 _ rfl), _, rfl, Kd.R_set HV3.out BE3.out (by simp [Kd.int, Kd.scalar]) 0 _, below_set HB3.out (by omega)⟩
end
section
attribute [local go_sem] Oper.semAt_some
section
variable {F : Fence} {n : Nat} {P : Program}
def bodyPostR (B : Nat) (I : Nat → World → Prop) (Ix : World → Prop) (k : Nat) (W : World) : Exit → Act → World → Prop
  | .normal, _, W' => W.heap.size ≤ W'.heap.size ∧ (∀ j, B ≤ j → j < B + 2 → W'.heap[j]? = W.heap[j]?) ∧ I k W'
  | .ret, _, W' => W.heap.size ≤ W'.heap.size ∧ (∀ j, B ≤ j → j < B + 2 → W'.heap[j]? = W.heap[j]?) ∧ Ix W'
  | _, _, _ => False
theorem wpIn_rangeFuncR {g : Operand} {ps : Array Tmp} {assign body : Code} {Q : Exit → Act → World → Prop} {a : Act} {w : World} {N : Nat} {encs : Nat → Array Value}
    (hro : F.round = none) (h1 : 1 ≤ n) {gf : Nat} {lb : Array Value} (hg : a.eval g = .func (.func gf) #[] lb) (hFg : F.fn gf) (eg : ∀ args w, (callFunc gf args).run P w = .ok (.enter gf args) w)
    (hps : ∀ k, (encs k).size = ps.size) (I : Nat → World → Prop) (Ix : World → Prop)
    (hIa : ∀ k W o, I k W → I k (W.alloc o)) (hIp : ∀ k W o (r : Loop), W.heap[w.heap.size + 1]? = some (.loop r) → I k W → I k (W.putObj (w.heap.size + 1) o))
    (hXp : ∀ W o (r : Loop), W.heap[w.heap.size + 1]? = some (.loop r) → Ix W → Ix (W.putObj (w.heap.size + 1) o)) (h0 : I 0 w)
    (hseq : ∀ (l : Nat) (J : Nat → World → Prop) (Jx : World → Prop) (W : World), (∀ k W o, J k W → J k (W.alloc o)) → (∀ k W, J k W → I k W) →
      (∀ k W1, k < N → J k W1 → YieldAt F (n - 1 - 1) P l (encs k) W1 fun e W' => (e = .returned (.bool true) ∧ J (k + 1) W') ∨ (e = .returned (.bool false) ∧ Jx W')) → J 0 W →
      CallsIn F (n - 1) P gf (#[.func (.yield l) #[] #[]] ++ lb) W fun e W' => (∃ v, e = .returned v ∧ J N W') ∨ (∃ v, e = .returned v ∧ Jx W'))
    (hround : ∀ (l : Nat) (k : Nat) (W : World), w.heap.size + 1 < W.heap.size → (∃ r : Loop, W.heap[w.heap.size + 1]? = some (.loop r)) → k < N → I k W → ∀ (st : Act → World → Prop),
      (∀ a' W', W.heap.size ≤ W'.heap.size → (∀ j, w.heap.size ≤ j → j < w.heap.size + 2 → W'.heap[j]? = W.heap[j]?) →
        (∀ o, body.wpIn (F.inRound l) (n - 1 - 1) P (bodyPostR w.heap.size I Ix (k + 1) (W'.putObj (w.heap.size + 1) o)) a' (W'.putObj (w.heap.size + 1) o)) → st a' W') →
      assign.wpIn (F.inRound l) (n - 1 - 1) P (Exit.then st (fun _ _ _ => False)) { tmps := (ps.zip (encs k)).foldl (fun t (p, v) => t.setIfInBounds p v) a.tmps, defers := [] } W)
    (hdone : ∀ W, I N W → W.heap[w.heap.size]? = some (.deferred (some [])) → Q .normal { a with defers := { target := .collected w.heap.size, args := #[] } :: a.defers } W)
    (hstop : ∀ W, Ix W → W.heap[w.heap.size]? = some (.deferred (some [])) → Code.ret.wpIn F n P Q { a with defers := { target := .collected w.heap.size, args := #[] } :: a.defers } W) :
    (Code.rangeFunc g ps assign body).wpIn F n P Q a w := by
  refine wpIn_rangeFunc ?_
  intro fn hfn'
  rw [hro]
  obtain ⟨rec, hrec⟩ : ∃ rec : LoopState → Option Code → Loop, rec = fun st pe => { state := st, pending := pe, fn, tmps := a.tmps, params := ps, assign, body, defers := w.heap.size } := ⟨_, rfl⟩
  obtain ⟨W1, hW1⟩ : ∃ W1, (w.alloc (.deferred (some []))).alloc (.loop (rec .ready none)) = W1 := ⟨_, rfl⟩
  have hL1 : W1.heap[w.heap.size + 1]? = some (.loop (rec .ready none)) := by
    rw [← hW1]; have := World.alloc_heap_new (w.alloc (.deferred (some []))) (.loop (rec .ready none)); rwa [World.size_alloc] at this
  have hK1 : W1.heap[w.heap.size]? = some (.deferred (some [])) := by
    rw [← hW1]; exact (Below.heap_alloc _ _ _ (by simp)).trans (World.alloc_heap_new w _)
  have hI1 : I 0 W1 := by rw [← hW1]; exact hIa _ _ _ (hIa _ _ _ h0)
  refine ⟨w.heap.size + 1, [{ target := .collected w.heap.size, args := #[] }], W1, { target := .fn (.func gf) lb, args := #[.func (.yield (w.heap.size + 1)) #[] #[]] }, W1, gf,
    #[.func (.yield (w.heap.size + 1)) #[] #[]] ++ lb, W1, ?_, ?_, ?_, ?_, fun _ => h1, ?_⟩
  · rw [← hW1, hrec]; exact run_enterLoop_outer _ _ _ _ _
  · simp only [resolve, hg]
    simp [go_sem]
  · intro f' hf'; simp [Target.leads] at hf'; subst hf'; exact hFg
  · simp [invoke, go_sem, eg]
  · have hal : ∀ (W : World) (j : Nat) (x : Obj) (o : Obj), W.heap[j]? = some x → (W.alloc o).heap[j]? = some x := fun W j x o h =>
      (Below.heap_alloc W o j (Array.getElem?_eq_some_iff.1 h).1).trans h
    refine (hseq (w.heap.size + 1)
      (fun k W => I k W ∧ W.heap[w.heap.size + 1]? = some (.loop (rec .ready none)) ∧ W.heap[w.heap.size]? = some (.deferred (some [])))
      (fun W => Ix W ∧ W.heap[w.heap.size + 1]? = some (.loop (rec .done (some .ret))) ∧ W.heap[w.heap.size]? = some (.deferred (some [])))
      W1 (fun k W o h => ⟨hIa _ _ _ h.1, hal _ _ _ _ h.2.1, hal _ _ _ _ h.2.2⟩) (fun k W h => h.1) ?_ ⟨hI1, hL1, hK1⟩).mono ?_
    · rintro k W hk ⟨hi, hl, hd⟩
      have hlt : w.heap.size + 1 < W.heap.size := (Array.getElem?_eq_some_iff.1 hl).1
      have hy := run_yield (P := P) (args := encs k) hl (by rw [hrec]; exact hps k)
      rw [hrec] at hy
      refine ⟨fn, _, assign, body, hy, roundIn_of_wpIn hfn' (hround _ k W hlt ⟨_, hl⟩ hk hi _ ?_)⟩
      clear hy
      intro a' Wa hsz hsame hb
      have hla : Wa.heap[w.heap.size + 1]? = some (.loop (rec .ready none)) := (hsame _ (by omega) (by omega)).trans hl
      have hda : Wa.heap[w.heap.size]? = some (.deferred (some [])) := (hsame _ (by omega) (by omega)).trans hd
      have hlta : w.heap.size + 1 < Wa.heap.size := by omega
      refine ⟨_, run_beginRound hla (by rw [hrec]), ?_⟩
      refine wpIn_mono (hb _) ?_
      have hl2 : (Wa.putObj (w.heap.size + 1) (.loop { rec .ready none with state := .busy })).heap[w.heap.size + 1]? = some (.loop { rec .ready none with state := .busy }) := World.putObj_heap_same hlta
      have hk2 : (Wa.putObj (w.heap.size + 1) (.loop { rec .ready none with state := .busy })).heap[w.heap.size]? = some (.deferred (some [])) := (World.putObj_heap_other (by omega)).trans hda
      rintro e a3 W3 hp
      cases e with
      | normal =>
        obtain ⟨hs3, hsame3, hi3⟩ := hp
        have hl3 := (hsame3 _ (by omega) (by omega)).trans hl2
        have hk3 := (hsame3 _ (by omega) (by omega)).trans hk2
        have hr := run_endRound (P := P) none hl3
        have hlt3 := (Array.getElem?_eq_some_iff.1 hl3).1
        rw [hrec] at hr ⊢
        exact ⟨_, _, hr, .inl ⟨rfl, hIp _ _ _ _ hl3 hi3, World.putObj_heap_same hlt3, (World.putObj_heap_other (by omega)).trans hk3⟩⟩
      | ret =>
        obtain ⟨hs3, hsame3, hi3⟩ := hp
        have hl3 := (hsame3 _ (by omega) (by omega)).trans hl2
        have hk3 := (hsame3 _ (by omega) (by omega)).trans hk2
        have hr := run_endRound (P := P) (some .ret) hl3
        have hlt3 := (Array.getElem?_eq_some_iff.1 hl3).1
        rw [hrec] at hr ⊢
        exact ⟨_, _, hr, .inr ⟨rfl, hXp _ _ _ hl3 hi3, World.putObj_heap_same hlt3, (World.putObj_heap_other (by omega)).trans hk3⟩⟩
      | panic ch => exact hp.elim
      | exit id => exact hp.elim
      | goto t => exact hp.elim
      | outgrown => exact hp.elim
    · rintro e W2 (⟨v, rfl, hi, hl, hk⟩ | ⟨v, rfl, hi, hl, hk⟩)
      · have hlt := (Array.getElem?_eq_some_iff.1 hl).1
        exact ⟨none, _, by have := run_endLoop (P := P) hl (by rw [hrec]; simp); rw [hrec] at this; exact this, hdone _ (hIp _ _ _ _ hl hi) ((World.putObj_heap_other (by omega)).trans hk)⟩
      · have hlt := (Array.getElem?_eq_some_iff.1 hl).1
        exact ⟨some .ret, _, by have := run_endLoop (P := P) hl (by rw [hrec]; simp); rw [hrec] at this; exact this, hstop _ (hXp _ _ _ hl hi) ((World.putObj_heap_other (by omega)).trans hk)⟩
end
theorem rings1_inR (F : Fence) (n : Nat) (hF : F.fn 187) (hro : F.round = none) (hn : 1 ≤ n) (l Bs : Nat) (A : Option Addr) (cap : Nat) (v2 v3 : Value) (zs : List S92) (J : Nat → World → Prop) (Jx : World → Prop) (W : World)
    (hBs : W.heap[Bs]? = some (.cells #[.slice A zs.length cap, v2, v3] 73 (0, 0)))
    (hJa : ∀ k W o, J k W → J k (W.alloc o)) (hJC : ∀ k W, J k W → Kd.C k92 W A zs.length zs)
    (hY : ∀ k W1, k < zs.length → J k W1 → YieldAt F (n - 1) Tryz.prog l #[.int .i64 k, ringV (rd_T92 zs k)] W1 fun e W' => (e = .returned (.bool true) ∧ J (k + 1) W') ∨ (e = .returned (.bool false) ∧ Jx W'))
    (h0 : J 0 W) :
    CallsIn F n Tryz.prog 187 #[.func (.yield l) #[] #[], .pointer (some ⟨Bs, 0, none⟩)] W fun e W' => (∃ v, e = .returned v ∧ J zs.length W') ∨ (∃ v, e = .returned v ∧ Jx W') := by
  have hc0 : W.cell? ⟨Bs, 0, none⟩ = some (.slice A zs.length cap) := (blk_cell hBs 0).trans rfl
  refine callsIn_of_wp Tryz.func187 rfl hF ?_ hro
  simp only [Tryz.ntmps187, List.size_toArray, List.length_cons, List.length_nil, Nat.reduceAdd, Nat.reduceSub, Array.replicate_succ, Array.replicate_zero, List.push_toArray, List.append_toArray, List.nil_append, List.cons_append]
  gi_wp2
  gi_loopw [8] (fun i wr => ∃ k : Nat, k ≤ zs.length ∧ i = .int .i64 k ∧ J k wr) (fun i _ => zs.length - (intOf i).toNat)
  case atStart => exact ⟨0, Nat.zero_le _, rfl, h0⟩
  case round =>
    obtain ⟨k, hk, rfl, hJs⟩ := hrel
    by_cases hlt : k < zs.length
    · obtain ⟨ad, rfl, g0, g1, g2, g3, g4, g5, g6, g7, g8, g9⟩ := at_T92 (hJC k wr hJs) k (by omega) (by omega)
      have hmax := Kd.C_max (hJC k wr hJs)
      have hwr : wrap64 ((k : Int) + 1) = (k : Int) + 1 := by unfold wrap64; omega
      simp only [Int.toNat_natCast] at g0 g1 g2 g3 g4 g5 g6 g7 g8 g9
      obtain ⟨fn, tmps, assign, body, hy, hR⟩ := hY _ (wr.alloc (ringC (rd_T92 zs k))) hlt (hJa _ _ _ hJs)
      unfold ringC ringV at hy
      gi_wp2
      refine hR.mono ?_
      rintro e W3 (⟨rfl, hJ3⟩ | ⟨rfl, hJx⟩)
      · gi_wp2
        go_roundw
        case rel => exact ⟨k + 1, by omega, by simp, hJ3⟩
        case measure => simp [intOf]; omega
      · gi_wp2
        (try simp only [Exit.inBlock, Exit.then])
        refine bodyPost_ret (results_none rfl _ _ _) rfl ?_
        exact .inr ⟨_, rfl, hJx⟩
    · obtain rfl : k = zs.length := by omega
      gi_wp2
      go_end0
      exact .inl ⟨_, rfl, hJs⟩
def enoughB (lo : Nat → Int) (ns : List Int) : Nat → Bool
  | 0 => true
  | k + 1 => enoughB lo ns k && !decide (lo k < rd ns (k : Int))
theorem enoughB_mono (lo : Nat → Int) (ns : List Int) (k : Nat) (h : enoughB lo ns k = false) : ∀ j, k ≤ j → enoughB lo ns j = false
  | 0, hj => by obtain rfl : k = 0 := by omega
                exact h
  | j + 1, hj => by
    by_cases e : k = j + 1
    · rw [← e]; exact h
    · simp [enoughB, enoughB_mono lo ns k h j (by omega)]
def ligT : Bool × List (List Nat × List Nat) := (true, [([], []), ([], []), ([], []), ([1, 2], [1, 2]), ([0, 3], [0, 3]), ([4], [4]), ([], []), ([], []), ([6, 7], [6, 7]), ([8], [8]), ([5, 9], [5, 9])])
def ligB : List Nat := [0, 0, 0, 6, 15, 31, 0, 0, 192, 448, 1023]
theorem lig_tab : rtab .any (opsOf Tryz.f194 4) = ligT := by kernel_rfl
theorem lig_bits : waitsOk ligT.2 ligB = true := by kernel_rfl
theorem results_b {fn : Func} {p : Tmp} (h : fn.results = #[.cell p 4]) (tmps : Array Value) (w : World) (g : Nat) (b : Bool) (hp : tmps.getD p undef = .pointer (some ⟨g, 0, none⟩)) (hg : w.heap[g]? = some (.cells #[.bool b] 4 (0, 0))) :
    (results fn tmps).run Tryz.prog w = .ok (.bool b) w := by
  have h1 : tmps[p]?.getD undef = .pointer (some ⟨g, 0, none⟩) := by simpa using hp
  simp [results, h, h1, asAddr, run_var4 w g b hg]
structure LtI (A : Option Addr) (c : Nat) (zs : List S92) (f1 f2 : Int) (An : Option Addr) (cn : Nat) (ns : List Int) (wt : Int) (X Y : Nat) (w : World) (g : Nat) (b : Bool) (W : World) : Prop where
  bx : W.heap[X]? = some (.cells #[.slice A zs.length c, .int .i64 f1, .int .i64 f2] 73 (0, 0))
  by' : W.heap[Y]? = some (.cells #[.slice An ns.length cn] 30 (0, 0))
  b3 : W.heap[w.heap.size]? = some (.cells #[.int .i64 wt] 3 (0, 0))
  b4 : W.heap[w.heap.size + 1]? = some (.cells #[.bool b] 4 (0, 0))
  rb : W.heap[g]? = some (.cells #[.slice A zs.length c, .int .i64 f1, .int .i64 f2] 73 (0, 0))
  be : Below w.heap.size w W
section
variable {A : Option Addr} {c : Nat} {zs : List S92} {f1 f2 : Int} {An : Option Addr} {cn : Nat} {ns : List Int} {wt : Int} {X Y : Nat} {w : World} {g : Nat} {b : Bool} {W : World}
theorem LtI.alloc (h : LtI A c zs f1 f2 An cn ns wt X Y w g b W) (o : Obj) : LtI A c zs f1 f2 An cn ns wt X Y w g b (W.alloc o) :=
  ⟨blk_alloc h.bx o, blk_alloc h.by' o, blk_alloc h.b3 o, blk_alloc h.b4 o, blk_alloc h.rb o, below_alloc h.be o⟩
theorem LtI.put (h : LtI A c zs f1 f2 An cn ns wt X Y w g b W) (o : Obj) {r : Nat} (h0 : X < w.heap.size) (h1 : Y < w.heap.size) (h2 : w.heap.size + 1 < r) (h3 : g < r) (h4 : r < W.heap.size) : LtI A c zs f1 f2 An cn ns wt X Y w g b (W.putObj r o) :=
  ⟨putObj_heap_keep (by omega) h.bx, putObj_heap_keep (by omega) h.by', putObj_heap_keep (by omega) h.b3, putObj_heap_keep (by omega) h.b4, putObj_heap_keep (by omega) h.rb, below_putObj h.be (by omega) h4⟩
theorem LtI.drew (h : LtI A c zs f1 f2 An cn ns wt X Y w g b W) : LtI A c zs f1 f2 An cn ns wt X Y w g b W.drew := ⟨h.bx, h.by', h.b3, h.b4, h.rb, below_drew1 h.be⟩
theorem LtI.step (h : LtI A c zs f1 f2 An cn ns wt X Y w g b W) {W' : World} (hb : Below W.heap.size W W') : LtI A c zs f1 f2 An cn ns wt X Y w g b W' :=
  ⟨blk_below h.bx hb, blk_below h.by' hb, blk_below h.b3 hb, blk_below h.b4 hb, blk_below h.rb hb, below_then h.be h.be.size hb⟩
theorem LtI.set (h : LtI A c zs f1 f2 An cn ns wt X Y w g b W) (h0 : X < w.heap.size) (h1 : Y < w.heap.size) (h3 : w.heap.size + 1 < g) (b' : Bool) : LtI A c zs f1 f2 An cn ns wt X Y w g b' (W.setCell ⟨w.heap.size + 1, 0, none⟩ (.bool b')) :=
  ⟨blk_far h.bx (p := ⟨w.heap.size + 1, 0, none⟩) (by simp; omega) _, blk_far h.by' (p := ⟨w.heap.size + 1, 0, none⟩) (by simp; omega) _, blk_far h.b3 (p := ⟨w.heap.size + 1, 0, none⟩) (by simp) _, blk_put h.b4 0 _ rfl, blk_far h.rb (p := ⟨w.heap.size + 1, 0, none⟩) (by simp; omega) _, below_set h.be (by omega)⟩
end
theorem light1_calls (A : Option Addr) (c : Nat) (zs : List S92) (f1 f2 : Int) (An : Option Addr) (cn : Nat) (ns : List Int) (wt : Int) (lo hi : Nat → Int) (X Y : Nat) (w : World) (hX : w.heap[X]? = some (.cells #[.slice A zs.length c, .int .i64 f1, .int .i64 f2] 73 (0, 0))) (hY : w.heap[Y]? = some (.cells #[.slice An ns.length cn] 30 (0, 0))) (hr : Kd.C k92 w A zs.length zs) (hn : Kd.C (Kd.int .i64) w An ns.length ns) (hlen : ns.length = zs.length)
    (hth : ∀ k : Nat, k < zs.length → ∀ W, Calls Tryz.prog 156 #[ringV (rd_T92 zs (k : Int)), .agg #[.int .i64 wt, .int .i64 wt]] W fun e w' => e = .returned (.agg #[.int .i64 (lo k), .int .i64 (hi k)]) ∧ Below W.heap.size W w') :
    Calls Tryz.prog 194 #[.int .i64 wt, .pointer (some ⟨X, 0, none⟩), .pointer (some ⟨Y, 0, none⟩)] w fun e w' => e = .returned (.bool (enoughB lo ns zs.length)) ∧ Below w.heap.size w w' := by
  obtain ⟨b1, b2, hb0, hsz⟩ := blk_two w (.cells #[.int .i64 wt] 3) (.cells #[.bool false] 4)
  have LX := Sd.mk (blk_lt hX)
  have LY := Sd.mk (blk_lt hY)
  have BX := Sd.mk (blk_alloc (blk_alloc hX (.cells #[.int .i64 wt] 3)) (.cells #[.bool false] 4))
  have BY := Sd.mk (blk_alloc (blk_alloc hY (.cells #[.int .i64 wt] 3)) (.cells #[.bool false] 4))
  have B3 := Sd.mk b1
  have B4 := Sd.mk b2
  have HB := Sd.mk hb0
  have HSZ := Sd.mk hsz
  have HR := Sd.mk hr
  have HN := Sd.mk hn
  have HLEN := Sd.mk hlen
  have HTH := Sd.mk hth
  clear b1 b2 hb0 hsz hr hn hlen hth hX hY
  refine (callsIn_wide (n := 9)).1 (callsIn_of_wp_marks Tryz.func194 rfl trivial ?_ rfl)
  simp only [Tryz.ntmps194, List.size_toArray, List.length_cons, List.length_nil, Nat.reduceAdd, Nat.reduceSub, Array.replicate_succ, Array.replicate_zero, List.push_toArray, List.append_toArray, List.nil_append, List.cons_append]
  have hx0 : ((w.alloc (.cells #[.int .i64 wt] 3)).alloc (.cells #[.bool false] 4)).cell? ⟨X, 0, none⟩ = some (.slice A zs.length c) := (blk_cell BX.out 0).trans rfl
  have hx1 : ((w.alloc (.cells #[.int .i64 wt] 3)).alloc (.cells #[.bool false] 4)).cell? ⟨X, 0 + 1, none⟩ = some (.int .i64 f1) := (blk_cell BX.out 1).trans rfl
  have hx2 : ((w.alloc (.cells #[.int .i64 wt] 3)).alloc (.cells #[.bool false] 4)).cell? ⟨X, 0 + 2, none⟩ = some (.int .i64 f2) := (blk_cell BX.out 2).trans rfl
  gi_wp2_with (first | (refine ⟨trivial, ?_⟩; gi_at_call 111; (with_reducible refine (callsIn_wide.2 (rings_b _ _ _ _)).mono ?_); rintro e w3 ⟨g, rfl, hg, hbk, hw3⟩; have I0 : Sd (LtI A c zs f1 f2 An cn ns wt X Y w g false w3) := ⟨⟨blk_below BX.out hw3, blk_below BY.out hw3, blk_below B3.out hw3, blk_below B4.out hw3, hbk, below_then HB.out HB.out.size hw3⟩⟩; have HG := Sd.mk (show w.heap.size + 1 < g from Nat.lt_of_lt_of_le (by rw [HSZ.out]; omega) hg); have HG3 := Sd.mk (show g < w3.heap.size from blk_lt hbk); clear hbk hw3 hg))
  clear hx0 hx1 hx2 BX BY B3 B4 HB
  refine wpIn_rangeFuncR (N := zs.length) (encs := fun k => #[.int .i64 (k : Int), ringV (rd_T92 zs k)]) rfl (by omega) (gf := 187) (lb := #[.pointer (some ⟨g, 0, none⟩)]) rfl trivial (enters_of Tryz.func187 (by kernel_rfl) rfl) (fun _ => rfl)
    (fun k W => LtI A c zs f1 f2 An cn ns wt X Y w g false W ∧ enoughB lo ns k = true) (fun W => LtI A c zs f1 f2 An cn ns wt X Y w g false W ∧ enoughB lo ns zs.length = false) (fun k W o h => ⟨h.1.alloc o, h.2⟩) (fun k W o r hl h => ⟨h.1.put o LX.out LY.out (by have := HG.out; have := HG3.out; omega) (by have := HG3.out; omega) (Array.getElem?_eq_some_iff.1 hl).1, h.2⟩) (fun W o r hl h => ⟨h.1.put o LX.out LY.out (by have := HG.out; have := HG3.out; omega) (by have := HG3.out; omega) (Array.getElem?_eq_some_iff.1 hl).1, h.2⟩) ⟨I0.out, rfl⟩ ?seq ?round ?done ?stop
  case seq =>
    intro l1 J Jx W hJa hJI hY h0
    exact rings1_inR Fence.wide (9 - 1) trivial rfl (by omega) l1 g A c _ _ zs J Jx W (hJI _ _ h0).1.rb hJa (fun k W' h => Kd.C_below HR.out (hJI _ _ h).1.be) hY h0
  case round =>
    clear I0
    intro l k W hW _ hk hI st hst
    have HI1 := Sd.mk hI.1
    have HE := Sd.mk hI.2
    have HW := Sd.mk hW
    have HK := Sd.mk hk
    have HSK := Sd.mk (HTH.out k hk)
    have HEX := Sd.mk (enoughB_mono lo ns (k + 1) · zs.length hk)
    have HES := Sd.mk (show enoughB lo ns (k + 1) = (enoughB lo ns k && !decide (lo k < rd ns (k : Int))) from rfl)
    obtain ⟨ad, eAn, hw0⟩ := Kd.at_int HN.out (k : Int) (by omega) (by have := HLEN.out; omega)
    cases eAn
    simp only [Int.toNat_natCast] at hw0
    have HW0 := Sd.mk hw0
    clear hI hW hk hw0
    generalize hx : rd_T92 zs (k : Int) = x at HSK ⊢
    generalize hy : rd ns (k : Int) = y at HW0 HES
    clear hx hy
    unfold ringV
    unfold ringV at HSK
    simp only [List.zip_cons_cons, List.zip_nil_right, List.foldl_cons, List.foldl_nil]
    gi_wp2
    refine hst _ _ (by simp) (fun j h1 h2 => Below.heap_alloc W _ j (by have := HW.out; omega)) ?_
    clear hst
    intro o
    have CK : Sd (LtI A c zs f1 f2 (some ad) cn ns wt X Y w g false ((W.alloc (.cells #[.int .i64 x.f0.f0, .int .i64 x.f0.f1, .int .i64 x.f1.f0, .int .i64 x.f1.f1, .int .i64 x.f2.f0, .int .i64 x.f2.f1, .int .i64 x.f3.f0, .int .i64 x.f3.f1, .int .i64 x.f4.f0, .int .i64 x.f4.f1] 92)).putObj (w3.heap.size + 1) o)) := ⟨(HI1.out.alloc _).put o LX.out LY.out (by have := HG.out; have := HG3.out; omega) (by have := HG3.out; omega) (by have := HW.out; simp; omega)⟩
    have RB : Sd (((W.alloc (.cells #[.int .i64 x.f0.f0, .int .i64 x.f0.f1, .int .i64 x.f1.f0, .int .i64 x.f1.f1, .int .i64 x.f2.f0, .int .i64 x.f2.f1, .int .i64 x.f3.f0, .int .i64 x.f3.f1, .int .i64 x.f4.f0, .int .i64 x.f4.f1] 92)).putObj (w3.heap.size + 1) o).heap[W.heap.size]? = some (.cells #[.int .i64 x.f0.f0, .int .i64 x.f0.f1, .int .i64 x.f1.f0, .int .i64 x.f1.f1, .int .i64 x.f2.f0, .int .i64 x.f2.f1, .int .i64 x.f3.f0, .int .i64 x.f3.f1, .int .i64 x.f4.f0, .int .i64 x.f4.f1] 92 (0, 0))) := ⟨putObj_heap_keep (by have := HW.out; omega) (blk_new _ _)⟩
    have WS : Sd (((W.alloc (.cells #[.int .i64 x.f0.f0, .int .i64 x.f0.f1, .int .i64 x.f1.f0, .int .i64 x.f1.f1, .int .i64 x.f2.f0, .int .i64 x.f2.f1, .int .i64 x.f3.f0, .int .i64 x.f3.f1, .int .i64 x.f4.f0, .int .i64 x.f4.f1] 92)).putObj (w3.heap.size + 1) o).heap.size = W.heap.size + 1) := ⟨by simp⟩
    generalize ((W.alloc (.cells #[.int .i64 x.f0.f0, .int .i64 x.f0.f1, .int .i64 x.f1.f0, .int .i64 x.f1.f1, .int .i64 x.f2.f0, .int .i64 x.f2.f1, .int .i64 x.f3.f0, .int .i64 x.f3.f1, .int .i64 x.f4.f0, .int .i64 x.f4.f1] 92)).putObj (w3.heap.size + 1) o) = Wb at CK RB WS ⊢
    have hmx : Tryz.prog.follows .mixedOrders = true := by kernel_rfl
    have hk1 : (k : Int) < (ns.length : Int) := by have := HK.out; have := HLEN.out; omega
    gi_wp2
    refine start_In (n := 11) (S := fun w' => LtI A c zs f1 f2 (some ad) cn ns wt X Y w g false w' ∧ w'.heap[W.heap.size]? = some (.cells #[.int .i64 x.f0.f0, .int .i64 x.f0.f1, .int .i64 x.f1.f0, .int .i64 x.f1.f1, .int .i64 x.f2.f0, .int .i64 x.f2.f1, .int .i64 x.f3.f0, .int .i64 x.f3.f1, .int .i64 x.f4.f0, .int .i64 x.f4.f1] 92 (0, 0))) (ds := []) #[false, false, false, false, false, false, false, false, false, false, false] hmx (by kernel_rfl) (fun ⟨_, _, h⟩ => h) rfl rfl ⟨CK.out.drew, RB.out⟩ (fun hHeld => ?_)
    refine with_tabW lig_tab lig_bits (fun HT_ HW_ => ?_)
    have CKd := Sd.mk CK.out.drew
    have BD : Sd (Below Wb.heap.size Wb Wb.drew) := ⟨below_drew (Below.refl _ _)⟩
    have hfd : ∀ (W : World), (Instr.field 27 (.agg #[.int .i64 (lo k), .int .i64 (hi k)]) 0).run Tryz.prog W = .ok (.int .i64 (lo k)) W := fun W => by kernel_rfl
    clear CK RB
    generalize Wb.drew = Wd at CKd BD hHeld ⊢
    refine take_ (i := 0) (N := some 11) (v := ?_) (a' := ?_) #[true, false, false, false, false, false, false, false, false, false, false] rfl rfl (take_ofW HT_.out HW_.out (by kernel_rfl)) (fun _ _ _ h => h) (Or.inl ⟨by rfl, ?_⟩) hHeld ?_ ?_
    rotate_left
    · rintro w' ⟨hI, hR⟩
      have s0 : w'.cell? ⟨W.heap.size, 0, none⟩ = some (.int .i64 x.f0.f0) := (blk_cell hR 0).trans rfl
      have s1 : w'.cell? ⟨W.heap.size, 0 + 1, none⟩ = some (.int .i64 x.f0.f1) := (blk_cell hR 1).trans rfl
      have s2 : w'.cell? ⟨W.heap.size, 0 + 2, none⟩ = some (.int .i64 x.f1.f0) := (blk_cell hR 2).trans rfl
      have s3 : w'.cell? ⟨W.heap.size, 0 + 3, none⟩ = some (.int .i64 x.f1.f1) := (blk_cell hR 3).trans rfl
      have s4 : w'.cell? ⟨W.heap.size, 0 + 4, none⟩ = some (.int .i64 x.f2.f0) := (blk_cell hR 4).trans rfl
      have s5 : w'.cell? ⟨W.heap.size, 0 + 5, none⟩ = some (.int .i64 x.f2.f1) := (blk_cell hR 5).trans rfl
      have s6 : w'.cell? ⟨W.heap.size, 0 + 6, none⟩ = some (.int .i64 x.f3.f0) := (blk_cell hR 6).trans rfl
      have s7 : w'.cell? ⟨W.heap.size, 0 + 7, none⟩ = some (.int .i64 x.f3.f1) := (blk_cell hR 7).trans rfl
      have s8 : w'.cell? ⟨W.heap.size, 0 + 8, none⟩ = some (.int .i64 x.f4.f0) := (blk_cell hR 8).trans rfl
      have s9 : w'.cell? ⟨W.heap.size, 0 + 9, none⟩ = some (.int .i64 x.f4.f1) := (blk_cell hR 9).trans rfl
      go_simp
      with_reducible rfl
    rotate_left
    · simp only [Act.put, List.setIfInBounds_toArray, List.set_cons_zero, List.set_cons_succ, i64_w, i32_w]
      rfl
    refine take_ (i := 1) (N := some 12) (v := ?_) (a' := ?_) #[true, true, false, false, false, false, false, false, false, false, false] rfl rfl (take_ofW HT_.out HW_.out (by kernel_rfl)) (fun _ _ _ h => h) (Or.inl ⟨by rfl, ?_⟩) hHeld ?_ ?_
    rotate_left
    · rintro w' ⟨hI, hR⟩
      have s0 : w'.cell? ⟨w.heap.size, 0, none⟩ = some (.int .i64 wt) := (blk_cell hI.b3 0).trans rfl
      go_simp
      with_reducible rfl
    rotate_left
    · simp only [Act.put, List.setIfInBounds_toArray, List.set_cons_zero, List.set_cons_succ, i64_w, i32_w]
      rfl
    refine take_ (i := 2) (N := some 13) (v := ?_) (a' := ?_) #[true, true, true, false, false, false, false, false, false, false, false] rfl rfl (take_ofW HT_.out HW_.out (by kernel_rfl)) (fun _ _ _ h => h) (Or.inl ⟨by rfl, ?_⟩) hHeld ?_ ?_
    rotate_left
    · rintro w' ⟨hI, hR⟩
      have s0 : w'.cell? ⟨w.heap.size, 0, none⟩ = some (.int .i64 wt) := (blk_cell hI.b3 0).trans rfl
      go_simp
      with_reducible rfl
    rotate_left
    · simp only [Act.put, List.setIfInBounds_toArray, List.set_cons_zero, List.set_cons_succ, i64_w, i32_w]
      rfl
    refine pure_ (i := 3) (N := some 14) (v := ?_) (a' := ?_) #[true, true, true, true, false, false, false, false, false, false, false] rfl rfl (any_of HT_.out (by kernel_rfl)) (fun _ _ _ h => h) (Or.inl ⟨by rfl, ?_⟩) ?_ ?_
    rotate_left
    · intro w'
      go_simp
      with_reducible rfl
    rotate_left
    · simp only [Act.put, List.setIfInBounds_toArray, List.set_cons_zero, List.set_cons_succ, i64_w, i32_w]
      rfl
    refine take_ (i := 6) (N := some 17) (v := ?_) (a' := ?_) #[true, true, true, true, false, false, true, false, false, false, false] rfl rfl (take_ofW HT_.out HW_.out (by kernel_rfl)) (fun _ _ _ h => h) (Or.inl ⟨by rfl, ?_⟩) hHeld ?_ ?_
    rotate_left
    · rintro w' ⟨hI, hR⟩
      have s0 : w'.cell? ⟨Y, 0, none⟩ = some (.slice (some ad) ns.length cn) := (blk_cell hI.by' 0).trans rfl
      go_simp
      with_reducible rfl
    rotate_left
    · simp only [Act.put, List.setIfInBounds_toArray, List.set_cons_zero, List.set_cons_succ, i64_w, i32_w]
      rfl
    refine pure_ (i := 7) (N := some 18) (v := ?_) (a' := ?_) #[true, true, true, true, false, false, true, true, false, false, false] rfl rfl (any_of HT_.out (by kernel_rfl)) (fun _ _ _ h => h) (Or.inl ⟨by rfl, ?_⟩) ?_ ?_
    rotate_left
    · intro w'
      go_simp
      with_reducible rfl
    rotate_left
    · simp only [Act.put, List.setIfInBounds_toArray, List.set_cons_zero, List.set_cons_succ, i64_w, i32_w]
      rfl
    refine pure_ (i := 8) (N := some 19) (v := ?_) (a' := ?_) #[true, true, true, true, false, false, true, true, true, false, false] rfl rfl (any_of HT_.out (by kernel_rfl)) (fun _ _ _ h => h) (Or.inl ⟨by rfl, ?_⟩) ?_ ?_
    rotate_left
    · intro w'
      go_simp
      with_reducible rfl
    rotate_left
    · simp only [Act.put, List.setIfInBounds_toArray, List.set_cons_zero, List.set_cons_succ, i64_w, i32_w]
      rfl
    refine take_ (i := 9) (N := some 20) (v := ?_) (a' := ?_) #[true, true, true, true, false, false, true, true, true, true, false] rfl rfl (take_ofW HT_.out HW_.out (by kernel_rfl)) (fun _ _ _ h => h) (Or.inl ⟨by rfl, ?_⟩) hHeld ?_ ?_
    rotate_left
    · rintro w' ⟨hI, hR⟩
      have s0 : w'.cell? (ad.add k) = some (.int .i64 y) := (hI.be.cell (World.block_lt_of_cell? w _ HW0.out)).trans HW0.out
      go_simp
      with_reducible rfl
    rotate_left
    · simp only [Act.put, List.setIfInBounds_toArray, List.set_cons_zero, List.set_cons_succ, i64_w, i32_w]
      rfl
    refine one_ (i := 4) (N := some 15) #[true, true, true, true, true, false, true, true, true, true, false] rfl rfl (one_of HT_.out (by kernel_rfl)) (by decide) (fun K hK => ?_)
    refine goes_ Tryz.func156 (by kernel_rfl) rfl #[.agg #[.int .i64 x.f0.f0, .int .i64 x.f0.f1, .int .i64 x.f1.f0, .int .i64 x.f1.f1, .int .i64 x.f2.f0, .int .i64 x.f2.f1, .int .i64 x.f3.f0, .int .i64 x.f3.f1, .int .i64 x.f4.f0, .int .i64 x.f4.f1], .agg #[.int .i64 wt, .int .i64 wt]] (by (try simp only [Array.map_toArray, List.map_toArray, List.map_cons, List.map_nil]); rfl) rfl rfl (by (try simp only [List.map_toArray, List.map_cons, List.map_nil]); first | done | rfl) ?_
    refine (HSK.out _).mono ?_
    rintro e w4 ⟨rfl, hb⟩
    refine ⟨_, rfl, ?_⟩
    obtain ⟨hI, hR⟩ := hHeld
    have I4 := Sd.mk (hI.step hb)
    have BD4 := Sd.mk (below_then BD.out BD.out.size hb)
    have R4 := Sd.mk (blk_below hR hb)
    clear hb hI hR
    refine hK.out _ _ ⟨I4.out, R4.out⟩ (fun hHeld => ?_)
    clear hK K
    refine norm_ (a' := ?_) ?_ ?_
    rotate_left
    · show Act.put _ (some 15) _ = _
      simp only [Act.put, List.setIfInBounds_toArray, List.set_cons_zero, List.set_cons_succ, i64_w, i32_w]
      rfl
    refine pure_ (i := 5) (N := some 16) (v := ?_) (a' := ?_) #[true, true, true, true, true, true, true, true, true, true, false] rfl rfl (any_of HT_.out (by kernel_rfl)) (fun _ _ _ h => h) (Or.inl ⟨by rfl, ?_⟩) ?_ ?_
    rotate_left
    · intro w'
      go_simp
      with_reducible rfl
    rotate_left
    · simp only [Act.put, List.setIfInBounds_toArray, List.set_cons_zero, List.set_cons_succ, i64_w, i32_w]
      rfl
    refine pure_ (i := 10) (N := some 21) (v := ?_) (a' := ?_) #[true, true, true, true, true, true, true, true, true, true, true] rfl rfl (any_of HT_.out (by kernel_rfl)) (fun _ _ _ h => h) (Or.inl ⟨by rfl, ?_⟩) ?_ ?_
    rotate_left
    · intro w'
      go_simp
      with_reducible rfl
    rotate_left
    · simp only [Act.put, List.setIfInBounds_toArray, List.set_cons_zero, List.set_cons_succ, i64_w, i32_w]
      rfl
    refine done_ (done_of HT_.out (by kernel_rfl)) ?_
    have hm := HG.out
    have hg3 := HG3.out
    have same : ∀ j, w3.heap.size ≤ j → j < w3.heap.size + 2 → w4.heap[j]? = Wb.heap[j]? := fun j h1 h2 => BD4.out.block j (by have := WS.out; have := HW.out; omega)
    have SAME := Sd.mk same
    clear same hHeld HT_ HW_
    by_cases hlt : lo k < y
    · have hd : decide (lo k < y) = true := decide_eq_true hlt
      have c4 : w4.cell? ⟨w.heap.size + 1, 0, none⟩ = some (.bool false) := (blk_cell I4.out.b4 0).trans rfl
      have f4 := blk_frozen I4.out.b4 0
      gi_wp2
      refine ⟨by simpa using BD4.out.size, fun j h1 h2 => (Below.heap_setCell _ _ _ j (by dsimp only; omega)).trans (SAME.out j h1 h2), I4.out.set LX.out LY.out hm false, HEX.out (by rw [HES.out, hd]; simp)⟩
    · have hd : decide (lo k < y) = false := decide_eq_false hlt
      gi_wp2
      exact ⟨BD4.out.size, SAME.out, I4.out, by rw [HES.out, HE.out, hd]; rfl⟩
  case done =>
    rintro W ⟨hI, hE⟩ hD
    have HI2 := Sd.mk hI
    have HD := Sd.mk hD
    have c4 : W.cell? ⟨w.heap.size + 1, 0, none⟩ = some (.bool false) := (blk_cell hI.b4 0).trans rfl
    have f4 := blk_frozen hI.b4 0
    have HE := Sd.mk hE
    clear hI hD I0 hE
    gi_wp2
    have hm := HG.out
    have hg3 := HG3.out
    have hi2 := HI2.out.set LX.out LY.out hm true
    have hD2 := (Below.heap_setCell W ⟨w.heap.size + 1, 0, none⟩ (.bool true) w3.heap.size (by dsimp only; omega)).trans HD.out
    have hlt : w3.heap.size < (W.setCell ⟨w.heap.size + 1, 0, none⟩ (.bool true)).heap.size := (Array.getElem?_eq_some_iff.1 hD2).1
    refine ⟨by simp, .inl ⟨_, _, rfl, run_takeDeferred hD2, ?_⟩⟩
    exact ⟨_, results_b rfl _ _ (w.heap.size + 1) true rfl (putObj_heap_keep (by omega) hi2.b4), by rw [HE.out], below_putObj hi2.be (by omega) hlt⟩
  case stop =>
    rintro W ⟨hI, hE⟩ hD
    have HI2 := Sd.mk hI
    have HD := Sd.mk hD
    have HE := Sd.mk hE
    clear hI hD I0 hE
    gi_wp2
    have hm := HG.out
    have hg3 := HG3.out
    have hi2 := HI2.out
    have hlt : w3.heap.size < W.heap.size := (Array.getElem?_eq_some_iff.1 HD.out).1
    refine ⟨by simp, .inl ⟨_, _, rfl, run_takeDeferred HD.out, ?_⟩⟩
    exact ⟨_, results_b rfl _ _ (w.heap.size + 1) false rfl (putObj_heap_keep (by omega) hi2.b4), by rw [HE.out], below_putObj hi2.be (by omega) hlt⟩
end
section
open Go.RowKit Go.Proofs.YtljfljekcpdpiaaGreatW.PrintWords Go.Proofs.YtljfljekcpdpiaaGreatW.PrintLast Go.Proofs.YtljfljekcpdpiaaGreatW.PrintMore
def slices_Index_int_int.l0 : Nat → List Int → Int → Int → Int → Option (Int)
 | 0, _, _, _, _ => none
 | k + 1, x0, x1, x7, x8 => if x8 < x7 then (if 0 ≤ x8 then (if x8 < (x0.length : Int) then (if x1 = (rd x0 x8) then (some x8) else (slices_Index_int_int.l0 k x0 x1 x7 (wrap64 (x8 + 1)))) else (none)) else (none)) else (some (-1))
def slices_Index_int_int.f (k : Nat) (l0 : List Int) (a1 : Int) : Option (Int) := slices_Index_int_int.l0 k l0 a1 (l0.length : Int) 0
theorem slices_Index_int_int.calls (k : Nat) (A0 : Option Addr) (c0 : Nat) (l0 : List Int) (a1 : Int) (r : Int) (w : World) (hr0 : Kd.C (Kd.int .i64) w A0 l0.length l0) (hc0 : l0.length ≤ c0) (h : slices_Index_int_int.f k l0 a1 = some r) :
  Calls Tryz.prog 217 #[.slice A0 l0.length c0, .int .i64 a1] w fun e w' => e = .returned (.int .i64 r) ∧ Drawn0 w w' := by
 have HR0 := Sd.mk hr0; have HC0 := Sd.mk hc0; clear hr0 hc0
 have H : (slices_Index_int_int.l0 k l0 a1 (l0.length : Int) 0) = some r := h
 clear h; have H' := Sd.mk H; clear H
 go_enter Tryz.func217, Tryz.ntmps217
 go_wp2
 go_loopg [8] k (fun kq v8 w' => ∃ (x8_1 : Int), v8 = .int .i64 x8_1 ∧ Sd (slices_Index_int_int.l0 kq l0 a1 (l0.length : Int) x8_1 = some r) ∧ Sd (kq ≤ k) ∧ Drawn0 w w')
 case atStart => exact ⟨(0), tS, H', ⟨Nat.le_refl _⟩, by repeat (first | exact Drawn0.refl _ | apply Drawn0.step)⟩
 case round =>
  clear H'; (try clear c2); (try clear p2)
  obtain ⟨x8_1, rfl, HA, HK1, ⟨m1, rfl⟩⟩ := hrel
  cases gk with
  | zero => exact absurd HA.out (by simp [slices_Index_int_int.l0])
  | succ k1 =>
   have H := HA.out; clear HA
   simp only [slices_Index_int_int.l0] at H
   by_cases c3 : x8_1 < (l0.length : Int)
   ·rw [if_pos c3] at H
    have c3b0 : decide (x8_1 < (l0.length : Int)) = true := decide_eq_true c3
    clear c3
    by_cases c4 : 0 ≤ x8_1
    ·rw [if_pos c4] at H
     have c4b0 : decide (0 ≤ x8_1) = true := decide_eq_true c4
     clear c4
     by_cases c5 : x8_1 < (l0.length : Int)
     ·rw [if_pos c5] at H
      have c5b0 : decide (x8_1 < (l0.length : Int)) = true := decide_eq_true c5
      clear c5
      by_cases c6 : a1 = (rd l0 x8_1)
      ·rw [if_pos c6] at H
       have c6b0 : (a1 == (rd l0 x8_1)) = true := beq_iff_eq.mpr c6
       have c6b1 : (a1 != (rd l0 x8_1)) = false := bne_eq_false_iff_eq.mpr c6
       clear c6; obtain rfl := Option.some.inj H
       have p501 : 0 ≤ (x8_1 : Int) := tB
       have q501 : x8_1 < (l0.length : Int) := tB
       obtain ⟨ad501, e501, hx501_0⟩ := Kd.at_int HR0.out x8_1 p501 q501; cases e501; replace p501 := eq_true p501; replace q501 := eq_true q501
       go_wp2
       go_ret
       exact ⟨by first | rfl | (simp; done) | (simp [*]; done), by repeat (first | exact Drawn0.refl _ | apply Drawn0.step)⟩
      ·rw [if_neg c6] at H
       have c6b0 : (a1 == (rd l0 x8_1)) = false := beq_eq_false_iff_ne.mpr c6
       have c6b1 : (a1 != (rd l0 x8_1)) = true := bne_iff_ne.mpr c6
       have H' := Sd.mk H; clear H
       have p501 : 0 ≤ (x8_1 : Int) := tB
       have q501 : x8_1 < (l0.length : Int) := tB
       obtain ⟨ad501, e501, hx501_0⟩ := Kd.at_int HR0.out x8_1 p501 q501; cases e501; replace p501 := eq_true p501; replace q501 := eq_true q501
       go_wp2
       go_roundg k1
       case measure => have := HK1.out; omega
       case rel => exact ⟨(wrap64 (x8_1 + 1)), tS, H', ⟨by have := HK1.out; omega⟩, by repeat (first | exact Drawn0.refl _ | apply Drawn0.step)⟩
     ·rw [if_neg c5] at H
      exact absurd H (by simp)
    ·rw [if_neg c4] at H
     exact absurd H (by simp)
   ·rw [if_neg c3] at H
    have c3b0 : decide (x8_1 < (l0.length : Int)) = false := decide_eq_false c3
    clear c3; obtain rfl := Option.some.inj H
    go_wp2
    go_ret
    exact ⟨by first | rfl | (simp; done) | (simp [*]; done), by repeat (first | exact Drawn0.refl _ | apply Drawn0.step)⟩
end
section
open Go.RowKit Go.Proofs.YtljfljekcpdpiaaGreatW.PrintWords Go.Proofs.YtljfljekcpdpiaaGreatW.PrintLast Go.Proofs.YtljfljekcpdpiaaGreatW.PrintMore
def slices_Contains_int_int.f (k : Nat) (l0 : List Int) (a1 : Int) : Option (Bool) := (slices_Index_int_int.f k l0 a1).bind fun t502 => (some (decide (t502 ≥ 0)))
theorem slices_Contains_int_int.calls (k : Nat) (A0 : Option Addr) (c0 : Nat) (l0 : List Int) (a1 : Int) (r : Bool) (w : World) (hr0 : Kd.C (Kd.int .i64) w A0 l0.length l0) (hc0 : l0.length ≤ c0) (h : slices_Contains_int_int.f k l0 a1 = some r) :
  Calls Tryz.prog 193 #[.slice A0 l0.length c0, .int .i64 a1] w fun e w' => e = .returned (.bool r) ∧ Drawn0 w w' := by
 have HR0 := Sd.mk hr0; have HC0 := Sd.mk hc0; clear hr0 hc0
 have H : ((slices_Index_int_int.f k l0 a1).bind fun t502 => (some (decide (t502 ≥ 0)))) = some r := h
 clear h; replace H := Option.bind_eq_some_iff.mp H; obtain ⟨t502, A30, H⟩ := H
 try dsimp only at H
 have A3 := Sd.mk A30; clear A30; obtain rfl := Option.some.inj H
 go_enter Tryz.func193, Tryz.ntmps193
 go_wp2_with (first | ((with_reducible refine gate_callee (f := 217) rfl ?_); refine goesL_ (some 7) rfl rfl Tryz.func217 (by kernel_rfl) rfl #[.slice A0 l0.length c0, .int .i64 a1] rfl tM ?_; (with_reducible refine (slices_Index_int_int.calls k _ _ l0 a1 t502 _ ?side1 ?side2 A3.out).mono ?_); (case side1 => repeat (first | exact HR0.out | (with_reducible refine Kd.C_alloc ?_ _) | (with_reducible refine Kd.C_drewN ?_ _) | (with_reducible refine Kd.C_drew ?_))); (case side2 => exact HC0.out); rintro e w' ⟨rfl, ⟨nd, rfl⟩⟩; refine ⟨_, rfl, ?_⟩))
 go_ret
 exact ⟨by first | rfl | (simp; done) | (simp [*]; done), by repeat (first | exact Drawn0.refl _ | apply Drawn0.step)⟩
end
section
attribute [local go_sem] Oper.semAt_some
def lightV (n : Int) : Int := if n > 100000 then 0 else n
theorem lt_n : wrap64 (wrap64 (100000 - 1) + 1) = ((100000 : Nat) : Int) := by
  rw [wsmall (x := 100000 - 1) (by omega) (by omega), wsmall (by omega) (by omega)]; omega
theorem lightest_calls (A : Option Addr) (c : Nat) (zs : List S92) (f1 f2 pr fo sp ot m : Int) (lo hi : Nat → Nat → Int) (cs : Nat → Nat) (tl th : Nat → Nat → Int) (c2 kc : Nat) (w : World) (hr : Kd.C k92 w A zs.length zs) (hlen : zs.length ≤ 24)
    (hlim : ∀ W, Calls Tryz.prog 191 #[.agg #[.slice A zs.length c, .int .i64 f1, .int .i64 f2]] W fun e w' => e = .returned (.int .i64 m) ∧ Below W.heap.size W w')
    (hst : ∀ k : Nat, k < zs.length → ∀ i : Nat, i < 2000 → ∀ W, Calls Tryz.prog 112 #[ringV (rd_T92 zs (k : Int)), .agg #[.int .i64 ((i : Int) + 1), .int .i64 ((i : Int) + 1)], loadVv pr fo sp ot] W fun e w' => e = .returned (.agg #[.int .i64 (lo k i), .int .i64 (hi k i)]) ∧ Below W.heap.size W w')
    (hts : ∀ k : Nat, k < zs.length → TurnsAt (fun i => decide (hi k i ≤ m)) 2000 (cs k))
    (hct : slices_Contains_int_int.f kc (needL (fun k => (cs k : Int) + 1) zs.length) 0 = some false)
    (hth : ∀ i : Nat, i < 100000 → ∀ k : Nat, k < zs.length → ∀ W, Calls Tryz.prog 156 #[ringV (rd_T92 zs (k : Int)), .agg #[.int .i64 ((i : Int) + 1), .int .i64 ((i : Int) + 1)]] W fun e w' => e = .returned (.agg #[.int .i64 (tl i k), .int .i64 (th i k)]) ∧ Below W.heap.size W w')
    (ht2 : TurnsAt (fun i => enoughB (tl i) (needL (fun k => (cs k : Int) + 1) zs.length) zs.length) 100000 c2) :
    Calls Tryz.prog 124 #[.agg #[.slice A zs.length c, .int .i64 f1, .int .i64 f2], .agg #[.int .i64 pr, .int .i64 fo, .int .i64 sp, .int .i64 ot]] w fun e w' => e = .returned (.int .i64 (lightV ((c2 : Int) + 1))) ∧ Below w.heap.size w w' := by
  have hmf := run_makeFunc_
  obtain ⟨b1, b2, hb0, hsz⟩ := blk_two w (.cells #[.slice A zs.length c, .int .i64 f1, .int .i64 f2] 73) (.cells #[.int .i64 pr, .int .i64 fo, .int .i64 sp, .int .i64 ot] 48)
  have BX := Sd.mk b1
  have BL := Sd.mk b2
  have HB := Sd.mk hb0
  have HR := Sd.mk hr
  have HCT := Sd.mk hct
  have HTH := Sd.mk hth
  have HT2 := Sd.mk ht2
  have HNL := Sd.mk (needL_len (fun k => (cs k : Int) + 1) zs.length)
  have HH := Sd.mk (fun W hr' => needed_calls A c zs f1 f2 pr fo sp ot m lo hi cs W hr' hlen hlim hst hts)
  clear b1 b2 hb0 hsz hr hlen hlim hst hts hct hth ht2
  generalize (needL (fun k => (cs k : Int) + 1) zs.length) = ns at HCT HT2 HNL HH
  generalize hnk : (c2 : Int) + 1 = nk
  have HNK := Sd.mk hnk
  clear hnk
  go_enter Tryz.func124, Tryz.ntmps124
  go_upto_region 2 with (first | (go_at_call 122; refine (HH.out _ (Kd.C_below HR.out HB.out)).mono ?_; rintro e w3 ⟨v3, rfl, hv3, hb3⟩; obtain ⟨An, cn, rfl, hcn, hCn⟩ := Kd.R_reads hv3; clear hv3; have HCN := Sd.mk (And.intro hcn hCn); have BX3 := Sd.mk (blk_below BX.out hb3); have HB3 := Sd.mk (below_then HB.out HB.out.size hb3); have HSZ3 := Sd.mk (show w.heap.size + 1 + 1 ≤ w3.heap.size from Nat.le_trans (by simp) hb3.size); clear hb3 hcn hCn))
  have BN := Sd.mk (blk_new w3 (.cells #[.slice An ns.length cn] 30))
  have BX4 := Sd.mk (blk_alloc BX3.out (.cells #[.slice An ns.length cn] 30))
  have HB4 := Sd.mk (below_alloc HB3.out (.cells #[.slice An ns.length cn] 30))
  have HC4 := Sd.mk (Kd.C_below HCN.out.2 (below_alloc (Below.refl w3.heap.size w3) (.cells #[.slice An ns.length cn] 30)))
  have HCN4 := Sd.mk HCN.out.1
  clear BX3 HB3 HCN
  generalize w3.alloc (.cells #[.slice An ns.length cn] 30) = W4 at BN BX4 HB4 HC4 ⊢
  have hn0 : W4.cell? ⟨w3.heap.size, 0, none⟩ = some (.slice An ns.length cn) := (blk_cell BN.out 0).trans rfl
  go_upto_region 4 with (first | (go_at_call 193; refine (slices_Contains_int_int.calls kc An cn ns 0 false _ HC4.out HCN4.out HCT.out).mono ?_; rintro e w5 ⟨rfl, hd5⟩; have hb5 := hd5.below; clear hd5; have BN5 := Sd.mk (blk_below BN.out hb5); have BX5 := Sd.mk (blk_below BX4.out hb5); have HB5 := Sd.mk (below_then HB4.out HB4.out.size hb5); have HC5 := Sd.mk (Kd.C_below HC4.out hb5); clear hb5))
  clear hn0 BN BX4 HB4 HC4
  have HC := Sd.mk ((first_calls 194 #[.pointer (some ⟨w.heap.size, 0, none⟩), .pointer (some ⟨w3.heap.size, 0, none⟩)] (enters_of Tryz.func194 (by kernel_rfl) rfl) 1 100000 100000 lt_n (by decide) _ c2 HT2.out w5 (fun W' i hW' hi' =>
      (show Calls Tryz.prog 194 #[.int .i64 (wrap64 (1 + (i : Int))), .pointer (some ⟨w.heap.size, 0, none⟩), .pointer (some ⟨w3.heap.size, 0, none⟩)] W' (fun e w' => e = .returned (.bool ((fun i => enoughB (tl i) ns zs.length) i)) ∧ Below W'.heap.size W' w') from by
        rw [show wrap64 (1 + (i : Int)) = (i : Int) + 1 from by rw [wsmall (by omega) (by omega)]; omega]
        exact light1_calls A c zs f1 f2 An cn ns ((i : Int) + 1) (tl i) (th i) _ _ W' (blk_below BX5.out hW') (blk_below BN5.out hW') (Kd.C_below HR.out (below_then HB5.out HB5.out.size hW')) (Kd.C_below HC5.out hW') HNL.out (HTH.out i hi')))).mono (fun e w' he => (show e = .returned (.int .i64 nk) ∧ Below w5.heap.size w5 w' from ⟨by rw [he.1, ← HNK.out, show wrap64 (1 + (c2 : Int)) = (c2 : Int) + 1 from by have := HT2.out.le; rw [wsmall (by omega) (by omega)]; omega], he.2⟩)))
  clear HTH HT2
  by_cases hgt : 100000 < nk
  · have hv : lightV nk = 0 := if_pos hgt
    have HV := Sd.mk hv
    clear hv
    go_wp2_with (first | (go_at_call 115; refine HC.out.mono ?_; rintro e w6 ⟨rfl, hb6⟩; have HB6 := Sd.mk (below_then HB5.out HB5.out.size hb6); clear hb6))
    go_ret
    exact ⟨congrArg (fun z => Ending.returned (.int .i64 z)) HV.out.symm, HB6.out⟩
  · have hv : lightV nk = nk := if_neg hgt
    have HV := Sd.mk hv
    clear hv
    go_wp2_with (first | (go_at_call 115; refine HC.out.mono ?_; rintro e w6 ⟨rfl, hb6⟩; have HB6 := Sd.mk (below_then HB5.out HB5.out.size hb6); clear hb6))
    go_ret
    exact ⟨congrArg (fun z => Ending.returned (.int .i64 z)) HV.out.symm, HB6.out⟩
theorem Lightest_ok (A : Option Addr) (c : Nat) (zs : List S92) (f1 f2 pr fo sp ot m : Int) (lo hi : Nat → Nat → Int) (cs : Nat → Nat) (tl th : Nat → Nat → Int) (c2 kc : Nat) (w : World) (hr : Kd.C k92 w A zs.length zs) (h0 : bottleV zs f1 f2 = 0) (h1 : loadB pr fo sp ot = true)
    (hlim : ∀ W, Calls Tryz.prog 191 #[.agg #[.slice A zs.length c, .int .i64 f1, .int .i64 f2]] W fun e w' => e = .returned (.int .i64 m) ∧ Below W.heap.size W w')
    (hst : ∀ k : Nat, k < zs.length → ∀ i : Nat, i < 2000 → ∀ W, Calls Tryz.prog 112 #[ringV (rd_T92 zs (k : Int)), .agg #[.int .i64 ((i : Int) + 1), .int .i64 ((i : Int) + 1)], loadVv pr fo sp ot] W fun e w' => e = .returned (.agg #[.int .i64 (lo k i), .int .i64 (hi k i)]) ∧ Below W.heap.size W w')
    (hts : ∀ k : Nat, k < zs.length → TurnsAt (fun i => decide (hi k i ≤ m)) 2000 (cs k))
    (hct : slices_Contains_int_int.f kc (needL (fun k => (cs k : Int) + 1) zs.length) 0 = some false)
    (hth : ∀ i : Nat, i < 100000 → ∀ k : Nat, k < zs.length → ∀ W, Calls Tryz.prog 156 #[ringV (rd_T92 zs (k : Int)), .agg #[.int .i64 ((i : Int) + 1), .int .i64 ((i : Int) + 1)]] W fun e w' => e = .returned (.agg #[.int .i64 (tl i k), .int .i64 (th i k)]) ∧ Below W.heap.size W w')
    (ht2 : TurnsAt (fun i => enoughB (tl i) (needL (fun k => (cs k : Int) + 1) zs.length) zs.length) 100000 c2) :
    Calls Tryz.prog 40 #[.agg #[.slice A zs.length c, .int .i64 f1, .int .i64 f2], .agg #[.int .i64 pr, .int .i64 fo, .int .i64 sp, .int .i64 ot]] w fun e w' => e = .returned (.tuple #[.int .i64 (lightV ((c2 : Int) + 1)), .int .i64 0]) ∧ Below w.heap.size w w' := by
  have hmf := run_makeFunc_
  obtain ⟨b1, b2, b3, hb0, hsz⟩ := blk_three w (.cells #[.slice A zs.length c, .int .i64 f1, .int .i64 f2] 73) (.cells #[.int .i64 pr, .int .i64 fo, .int .i64 sp, .int .i64 ot] 48) (.cells #[.int .i64 0] 38)
  have BX := Sd.mk b1
  have BL := Sd.mk b2
  have BE := Sd.mk b3
  have HB := Sd.mk hb0
  have HR := Sd.mk hr
  have H0 := Sd.mk h0
  have H1 := Sd.mk h1
  have HH := Sd.mk (fun W hr' => lightest_calls A c zs f1 f2 pr fo sp ot m lo hi cs tl th c2 kc W hr' (bottle_len h0) hlim hst hts hct hth ht2)
  clear b1 b2 b3 hb0 hsz hr h0 h1 hlim hst hts hct hth ht2
  generalize lightV ((c2 : Int) + 1) = nv at HH ⊢
  go_enter_defers Tryz.func40, Tryz.ntmps40
  go_wp2_with (first | (go_at_call 120; refine (bottle_ok A c zs f1 f2 _ (Kd.C_below HR.out HB.out) H0.out).mono ?_; rintro e w1 ⟨rfl, hb1⟩; have BX1 := Sd.mk (blk_below BX.out hb1); have BL1 := Sd.mk (blk_below BL.out hb1); have BE1 := Sd.mk (blk_below BE.out hb1); have HB1 := Sd.mk (below_then HB.out HB.out.size hb1); clear hb1; have hq0 : w1.cell? ⟨w.heap.size + 1, 0, none⟩ = some (.int .i64 pr) := (blk_cell BL1.out 0).trans rfl; have hq1 : w1.cell? ⟨w.heap.size + 1, 0 + 1, none⟩ = some (.int .i64 fo) := (blk_cell BL1.out 1).trans rfl; have hq2 : w1.cell? ⟨w.heap.size + 1, 0 + 2, none⟩ = some (.int .i64 sp) := (blk_cell BL1.out 2).trans rfl; have hq3 : w1.cell? ⟨w.heap.size + 1, 0 + 3, none⟩ = some (.int .i64 ot) := (blk_cell BL1.out 3).trans rfl) | (go_at_call 121; refine (load_ok pr fo sp ot _ H1.out).mono ?_; rintro e w2 ⟨rfl, hb1⟩; have BX2 := Sd.mk (blk_below BX1.out hb1); have BL2 := Sd.mk (blk_below BL1.out hb1); have BE2 := Sd.mk (blk_below BE1.out hb1); have HB2 := Sd.mk (below_then HB1.out HB1.out.size hb1); clear hb1; have hx0 : w2.cell? ⟨w.heap.size, 0, none⟩ = some (.slice A zs.length c) := (blk_cell BX2.out 0).trans rfl; have hx1 : w2.cell? ⟨w.heap.size, 0 + 1, none⟩ = some (.int .i64 f1) := (blk_cell BX2.out 1).trans rfl; have hx2 : w2.cell? ⟨w.heap.size, 0 + 2, none⟩ = some (.int .i64 f2) := (blk_cell BX2.out 2).trans rfl; have hq0 : w2.cell? ⟨w.heap.size + 1, 0, none⟩ = some (.int .i64 pr) := (blk_cell BL2.out 0).trans rfl; have hq1 : w2.cell? ⟨w.heap.size + 1, 0 + 1, none⟩ = some (.int .i64 fo) := (blk_cell BL2.out 1).trans rfl; have hq2 : w2.cell? ⟨w.heap.size + 1, 0 + 2, none⟩ = some (.int .i64 sp) := (blk_cell BL2.out 2).trans rfl; have hq3 : w2.cell? ⟨w.heap.size + 1, 0 + 3, none⟩ = some (.int .i64 ot) := (blk_cell BL2.out 3).trans rfl) | (go_at_call 124; refine (HH.out _ (Kd.C_below HR.out HB2.out)).mono ?_; rintro e w3 ⟨rfl, hb3⟩; have BE3 := Sd.mk (blk_below BE2.out hb3); have HB3 := Sd.mk (below_then HB2.out HB2.out.size hb3); clear hb3; have he0 : w3.cell? ⟨w.heap.size + 1 + 1, 0, none⟩ = some (.int .i64 0) := (blk_cell BE3.out 0).trans rfl; have he1 := blk_frozen BE3.out 0))
  refine leaves_cons (f := 123) (args := #[.pointer (some ⟨w.heap.size + 1 + 1, 0, none⟩)]) (by simp) (by simp [go_sem]) ?_
  refine (door123_ok _ _).mono ?_
  rintro e u' w'' ⟨rfl, rfl, rfl⟩
  exact ⟨_, results_te rfl _ _ (w.heap.size + 1 + 1) 0 rfl (blk_put BE3.out 0 _ rfl), rfl, below_set HB3.out (by omega)⟩
end
section
attribute [local go_sem] Oper.semAt_some
def ring0 : S92 := ⟨⟨300, 300⟩, ⟨1000, 1000⟩, ⟨1000, 1000⟩, ⟨1000, 1000⟩, ⟨500, 500⟩⟩
theorem limM_ex : limM 10 40000000000 = 63245 := by
  have e : wrap64 (Int.tdiv 40000000000 10) = 4000000000 := by kernel_rfl
  have H := limC_spec 4000000000
  have key : limC 4000000000 = 63246 := by
    rcases Nat.lt_trichotomy (limC 4000000000) 63246 with h | h | h
    · have h1 := H.hi 63245 (by omega) (by omega)
      simp [limP] at h1
    · exact h
    · have h1 := H.lo 63246 h
      simp [limP] at h1
  unfold limM
  rw [e, key]
  exact (show wrap64 (wrap64 (0 + ((63246 : Nat) : Int)) - 1) = 63245 by kernel_rfl)
theorem limit_ex (A : Option Addr) (c : Nat) (W : World) : Calls Tryz.prog 191 #[.agg #[.slice A [ring0].length c, .int .i64 10, .int .i64 40000000000]] W fun e w' => e = .returned (.int .i64 63245) ∧ Below W.heap.size W w' := by
  have h := limit_calls A c [ring0] 10 40000000000 (by decide) W
  rw [limM_ex] at h
  exact h
def fn3 (a b c : Int) : Nat → Int
  | 0 => a
  | 1 => b
  | 2 => c
  | _ => 0
theorem forall4 {p : Nat → Prop} (h0 : p 0) (h1 : p 1) (h2 : p 2) (h3 : p 3) : ∀ k, k < 4 → p k
  | 0, _ => h0
  | 1, _ => h1
  | 2, _ => h2
  | 3, _ => h3
theorem accP0 (a : Int) (h0 : 0 ≤ a) (h1 : a ≤ 1000000000000) : accP (fn3 a 0 0) 4 = a := by
  have e : wrap64 a = a := wsmall (by omega) (by omega)
  simp [accP, fn3, e]
theorem stress_ex1 (W : World) : Calls Tryz.prog 112 #[ringV ring0, spanV ⟨200, 200⟩, loadVv 1000 0 0 0] W fun e w' => e = .returned (.agg #[.int .i64 15000, .int .i64 15000]) ∧ Below W.heap.size W w' := by
  have h := stress_calls ring0 ⟨200, 200⟩ 1000 0 0 0 (fn3 15000 0 0) (fn3 15000 0 0) W (forall4 (by kernel_rfl) (by kernel_rfl) (by kernel_rfl) (by kernel_rfl))
  rw [accP0 _ (by omega) (by omega)] at h
  exact h
theorem stress_ex2 (W : World) : ∃ lo hi, lo = 2909 ∧ hi = 2910 ∧ Calls Tryz.prog 112 #[ringV ring0, spanV ⟨200, 200⟩, loadVv 0 1000 100 7] W fun e w' => e = .returned (.agg #[.int .i64 lo, .int .i64 hi]) ∧ Below W.heap.size W w' := by
  obtain ⟨lo, hi, h, e1, e2⟩ : ∃ lo hi : Nat → Int, (∀ k, k < 4 → partF ring0 ⟨200, 200⟩ 0 1000 100 7 k = some (lo k, hi k)) ∧ accP lo 4 = 2909 ∧ accP hi 4 = 2910 :=
    ⟨fun k => ((partF ring0 ⟨200, 200⟩ 0 1000 100 7 k).getD (0, 0)).1, fun k => ((partF ring0 ⟨200, 200⟩ 0 1000 100 7 k).getD (0, 0)).2, forall4 (by kernel_rfl) (by kernel_rfl) (by kernel_rfl) (by kernel_rfl), by kernel_rfl, by kernel_rfl⟩
  have := stress_calls ring0 ⟨200, 200⟩ 0 1000 100 7 lo hi W h
  rw [e1, e2] at this
  exact ⟨_, _, rfl, rfl, this⟩
theorem stress_burst (i : Nat) (hi : i < 10001) (W : World) : Calls Tryz.prog 112 #[ringV ring0, spanV ⟨200, 250⟩, loadVv (i : Int) 0 0 0] W fun e w' => e = .returned (.agg #[.int .i64 (12 * (i : Int)), .int .i64 (15 * (i : Int))]) ∧ Below W.heap.size W w' := by
  have h := stress_calls ring0 ⟨200, 250⟩ (i : Int) 0 0 0 (fn3 (12 * (i : Int)) 0 0) (fn3 (15 * (i : Int)) 0 0) W (forall4 (by
    show st_parts_1.f 300 300 1000 1000 1000 1000 1000 1000 500 500 200 250 (i : Int) 0 0 0 = _
    unfold st_parts_1.f st_down.f st_up.f
    rw [wsmall (x := (i : Int) * 300) (by omega) (by omega), wsmall (x := (i : Int) * 300 * 1000) (by omega) (by omega), show wrap64 (100 * 250) = 25000 from by kernel_rfl, show wrap64 (100 * 200) = 20000 from by kernel_rfl, if_neg (by decide), if_neg (by decide), Int.tdiv_eq_ediv_of_nonneg (by omega), wsmall (x := (i : Int) * 300 * 1000 + 20000) (by omega) (by omega), wsmall (x := (i : Int) * 300 * 1000 + 20000 - 1) (by omega) (by omega), Int.tdiv_eq_ediv_of_nonneg (by omega), show (i : Int) * 300 * 1000 / 25000 = 12 * i from by omega, show ((i : Int) * 300 * 1000 + 20000 - 1) / 20000 = 15 * i from by omega, wsmall (x := 12 * (i : Int)) (by omega) (by omega), wsmall (x := 15 * (i : Int)) (by omega) (by omega)]
    rfl) (by
    show st_parts_2.f 300 300 1000 1000 1000 1000 1000 1000 500 500 200 250 (i : Int) 0 0 0 = _
    unfold st_parts_2.f
    kernel_rfl) (by
    show st_parts_3.f 300 300 1000 1000 1000 1000 1000 1000 500 500 200 250 (i : Int) 0 0 0 = _
    unfold st_parts_3.f
    kernel_rfl) (by
    show st_parts_4.f 300 300 1000 1000 1000 1000 1000 1000 500 500 200 250 (i : Int) 0 0 0 = _
    unfold st_parts_4.f
    rfl))
  rw [accP0 _ (by omega) (by omega), accP0 _ (by omega) (by omega)] at h
  exact h
def needHi (i : Nat) : Int := (300000000 + (100 * ((i : Int) + 1)) - 1) / (100 * ((i : Int) + 1))
def needLo (i : Nat) : Int := 300000000 / (100 * ((i : Int) + 1))
theorem needHi_turn : ∀ k : Nat, k < [ring0].length → TurnsAt (fun i => decide (needHi i ≤ 63245)) 2000 47 := fun _ _ =>
  ⟨by omega, fun t ht => by
    refine decide_eq_false ?_
    have : 63246 ≤ needHi t := (Int.le_ediv_iff_mul_le (by omega)).2 (by omega)
    omega, fun t h1 h2 => by
    refine decide_eq_true ?_
    have : needHi t < 63246 := Int.ediv_lt_of_lt_mul (by omega) (by omega)
    omega⟩
theorem stress_need (i : Nat) (hi : i < 2000) (W : World) : Calls Tryz.prog 112 #[ringV ring0, .agg #[.int .i64 ((i : Int) + 1), .int .i64 ((i : Int) + 1)], loadVv 1000 0 0 0] W fun e w' => e = .returned (.agg #[.int .i64 (needLo i), .int .i64 (needHi i)]) ∧ Below W.heap.size W w' := by
  have a0 : 0 ≤ needLo i := Int.ediv_nonneg (by decide) (by omega)
  have a1 : needLo i ≤ 300000000 := Int.ediv_le_self _ (by decide)
  have b0 : 0 ≤ needHi i := Int.ediv_nonneg (by omega) (by omega)
  have b1 : needHi i ≤ 300000000 + (100 * ((i : Int) + 1)) - 1 := Int.ediv_le_self _ (by omega)
  have h := stress_calls ring0 ⟨(i : Int) + 1, (i : Int) + 1⟩ 1000 0 0 0 (fn3 (needLo i) 0 0) (fn3 (needHi i) 0 0) W (forall4 (by
    show st_parts_1.f 300 300 1000 1000 1000 1000 1000 1000 500 500 ((i : Int) + 1) ((i : Int) + 1) 1000 0 0 0 = _
    unfold st_parts_1.f st_down.f st_up.f
    rw [show wrap64 (wrap64 (1000 * 300) * 1000) = 300000000 from by kernel_rfl, wsmall (x := 100 * ((i : Int) + 1)) (by omega) (by omega), if_neg (by omega), if_neg (by omega), Int.tdiv_eq_ediv_of_nonneg (by omega), wsmall (x := 300000000 + 100 * ((i : Int) + 1)) (by omega) (by omega), wsmall (x := 300000000 + 100 * ((i : Int) + 1) - 1) (by omega) (by omega), Int.tdiv_eq_ediv_of_nonneg (by omega)]
    show (some (wrap64 (needLo i))).bind _ = _
    rw [wsmall (x := needLo i) (by omega) (by omega)]
    have q : wrap64 ((300000000 + 100 * ((i : Int) + 1) - 1) / (100 * ((i : Int) + 1))) = needHi i := wsmall (x := needHi i) (by omega) (by omega)
    rw [q]
    rfl) (by
    show st_parts_2.f 300 300 1000 1000 1000 1000 1000 1000 500 500 ((i : Int) + 1) ((i : Int) + 1) 1000 0 0 0 = _
    unfold st_parts_2.f st_down.f st_up.f
    rw [show wrap64 (wrap64 (500000 * 0) * 113) = 0 from by kernel_rfl, show wrap64 (wrap64 (500000 * 0) * 106) = 0 from by kernel_rfl, show wrap64 (355 * 300) = 106500 from by kernel_rfl, show wrap64 (333 * 300) = 99900 from by kernel_rfl, wsmall (x := 106500 * ((i : Int) + 1)) (by omega) (by omega), wsmall (x := 99900 * ((i : Int) + 1)) (by omega) (by omega), if_neg (by omega), if_neg (by omega), Int.zero_tdiv, wsmall (x := 0 + 99900 * ((i : Int) + 1)) (by omega) (by omega), wsmall (x := 0 + 99900 * ((i : Int) + 1) - 1) (by omega) (by omega), Int.tdiv_eq_ediv_of_nonneg (by omega), Int.ediv_eq_zero_of_lt (by omega) (by omega), show wrap64 0 = 0 from by kernel_rfl]
    rfl) (by
    show st_parts_3.f 300 300 1000 1000 1000 1000 1000 1000 500 500 ((i : Int) + 1) ((i : Int) + 1) 1000 0 0 0 = _
    unfold st_parts_3.f st_down.f st_up.f
    rw [show wrap64 (500 * 0) = 0 from by kernel_rfl, if_neg (by omega), if_neg (by omega), Int.zero_tdiv, wsmall (x := 0 + ((i : Int) + 1)) (by omega) (by omega), wsmall (x := 0 + ((i : Int) + 1) - 1) (by omega) (by omega), Int.tdiv_eq_ediv_of_nonneg (by omega), Int.ediv_eq_zero_of_lt (by omega) (by omega), show wrap64 0 = 0 from by kernel_rfl]
    rfl) (by
    show st_parts_4.f 300 300 1000 1000 1000 1000 1000 1000 500 500 ((i : Int) + 1) ((i : Int) + 1) 1000 0 0 0 = _
    unfold st_parts_4.f
    rfl))
  rw [accP0 _ a0 (by omega), accP0 _ b0 (by omega)] at h
  exact h
def ligLo (i : Nat) : Int := 22600000 * ((i : Int) + 1) / 106500000
def ligHi (i : Nat) : Int := (21200000 * ((i : Int) + 1) + 99900000 - 1) / 99900000
theorem thick_ex (i : Nat) (hi : i < 100000) (W : World) : Calls Tryz.prog 156 #[ringV ring0, .agg #[.int .i64 ((i : Int) + 1), .int .i64 ((i : Int) + 1)]] W fun e w' => e = .returned (.agg #[.int .i64 (ligLo i), .int .i64 (ligHi i)]) ∧ Below W.heap.size W w' := by
  refine st_thickness.calls 300 300 1000 1000 1000 1000 1000 1000 500 500 ((i : Int) + 1) ((i : Int) + 1) (ligLo i) (ligHi i) W ?_
  unfold st_thickness.f st_down.f st_up.f ligLo ligHi
  rw [show wrap64 (wrap64 (355 * 300) * 1000) = 106500000 from by kernel_rfl, show wrap64 (wrap64 (333 * 300) * 1000) = 99900000 from by kernel_rfl, wsmall (x := 200 * ((i : Int) + 1)) (by omega) (by omega), wsmall (x := 200 * ((i : Int) + 1) * 1000) (by omega) (by omega), wsmall (x := 200 * ((i : Int) + 1) * 1000 * 113) (by omega) (by omega), wsmall (x := 200 * ((i : Int) + 1) * 1000 * 106) (by omega) (by omega), if_neg (by decide), if_neg (by decide), Int.tdiv_eq_ediv_of_nonneg (by omega), wsmall (x := 200 * ((i : Int) + 1) * 1000 * 106 + 99900000) (by omega) (by omega), wsmall (x := 200 * ((i : Int) + 1) * 1000 * 106 + 99900000 - 1) (by omega) (by omega), Int.tdiv_eq_ediv_of_nonneg (by omega), wsmall (x := 200 * ((i : Int) + 1) * 1000 * 113 / 106500000) (by omega) (by omega), wsmall (x := (200 * ((i : Int) + 1) * 1000 * 106 + 99900000 - 1) / 99900000) (by omega) (by omega)]
  have e1 : 200 * ((i : Int) + 1) * 1000 * 113 / 106500000 = 22600000 * ((i : Int) + 1) / 106500000 := by omega
  have e2 : (200 * ((i : Int) + 1) * 1000 * 106 + 99900000 - 1) / 99900000 = (21200000 * ((i : Int) + 1) + 99900000 - 1) / 99900000 := by omega
  rw [e1, e2]
  generalize 22600000 * ((i : Int) + 1) / 106500000 = q1
  generalize (21200000 * ((i : Int) + 1) + 99900000 - 1) / 99900000 = q2
  rfl
theorem lig_turn : TurnsAt (fun i => enoughB (fun _ => ligLo i) [48] 1) 100000 226 :=
  ⟨by omega, fun t ht => by
    have : ligLo t < 48 := by unfold ligLo; omega
    show (true && !decide (ligLo t < rd [48] ((0 : Nat) : Int))) = false
    rw [show rd [48] ((0 : Nat) : Int) = 48 from rfl, decide_eq_true this]; rfl, fun t h1 h2 => by
    have : ¬ ligLo t < 48 := by unfold ligLo; omega
    show (true && !decide (ligLo t < rd [48] ((0 : Nat) : Int))) = true
    rw [show rd [48] ((0 : Nat) : Int) = 48 from rfl, decide_eq_false this]; rfl⟩
theorem Stress_x1 (A : Option Addr) (c : Nat) (At : Option Addr) (ct : Nat) (w : World) (hr : Kd.C k92 w A [ring0].length [ring0]) (ht : Kd.C k27 w At 1 [⟨200, 200⟩]) :
    Calls Tryz.prog 37 #[.agg #[.slice A 1 c, .int .i64 10, .int .i64 40000000000], .slice At 1 ct, .agg #[.int .i64 1000, .int .i64 0, .int .i64 0, .int .i64 0]] w fun e w' => ∃ v, e = .returned (.tuple #[v, .int .i64 0]) ∧ Kd.R k27 27 w' w.heap.size (fun _ => True) v [⟨15000, 15000⟩] ∧ Below w.heap.size w w' :=
  Stress_ok A c [ring0] 10 40000000000 At ct [⟨200, 200⟩] 1000 0 0 0 (fun _ => 15000) (fun _ => 15000) w hr ht (by kernel_rfl) (fun k hk W => by
    obtain rfl : k = 0 := by simpa using hk
    exact stress_ex1 W)
theorem Stress_x2 (A : Option Addr) (c : Nat) (At : Option Addr) (ct : Nat) (w : World) (hr : Kd.C k92 w A [ring0].length [ring0]) (ht : Kd.C k27 w At 1 [⟨200, 200⟩]) :
    Calls Tryz.prog 37 #[.agg #[.slice A 1 c, .int .i64 10, .int .i64 40000000000], .slice At 1 ct, .agg #[.int .i64 0, .int .i64 1000, .int .i64 100, .int .i64 7]] w fun e w' => ∃ v, e = .returned (.tuple #[v, .int .i64 0]) ∧ Kd.R k27 27 w' w.heap.size (fun _ => True) v [⟨2909, 2910⟩] ∧ Below w.heap.size w w' :=
  Stress_ok A c [ring0] 10 40000000000 At ct [⟨200, 200⟩] 0 1000 100 7 (fun _ => 2909) (fun _ => 2910) w hr ht (by kernel_rfl) (fun k hk W => by
    obtain rfl : k = 0 := by simpa using hk
    obtain ⟨_, _, rfl, rfl, h⟩ := stress_ex2 W
    exact h)
theorem Burst_x (A : Option Addr) (c : Nat) (At : Option Addr) (ct : Nat) (w : World) (hr : Kd.C k92 w A [ring0].length [ring0]) (ht : Kd.C k27 w At 1 [⟨200, 250⟩]) :
    Calls Tryz.prog 38 #[.agg #[.slice A 1 c, .int .i64 10, .int .i64 40000000000], .slice At 1 ct, .agg #[.int .i64 0, .int .i64 0, .int .i64 0, .int .i64 0]] w fun e w' => e = .returned (.tuple #[.agg #[.int .i64 4216, .int .i64 5271], .int .i64 0]) ∧ Below w.heap.size w w' := by
  have h := Burst_ok A c [ring0] 10 40000000000 At ct [⟨200, 250⟩] 0 0 0 0 63245 (fun i _ => 12 * (i : Int)) (fun i _ => 15 * (i : Int)) 4217 5271 w hr ht (by kernel_rfl) (limit_ex A c) (fun i hi k hk W => by
    obtain rfl : k = 0 := by simpa using hk
    exact stress_burst i hi W)
    ⟨by omega, fun t h => by
      show (!(true && decide (15 * (t : Int) ≤ 63245))) = false
      rw [decide_eq_true (by omega)]; rfl, fun t h1 h2 => by
      show (!(true && decide (15 * (t : Int) ≤ 63245))) = true
      rw [decide_eq_false (by omega)]; rfl⟩
    ⟨by omega, fun t h => by
      show (false || decide (12 * (t : Int) > 63245)) = false
      rw [decide_eq_false (by omega)]; rfl, fun t h1 h2 => by
      show (false || decide (12 * (t : Int) > 63245)) = true
      rw [decide_eq_true (by omega)]; rfl⟩
  rw [show wrap64 (wrap64 ((4217 : Nat) : Int) - 1) = 4216 from by kernel_rfl, show wrap64 ((5271 : Nat) : Int) = 5271 from by kernel_rfl] at h
  exact h
theorem Needed_x (A : Option Addr) (c : Nat) (w : World) (hr : Kd.C k92 w A [ring0].length [ring0]) :
    Calls Tryz.prog 39 #[.agg #[.slice A 1 c, .int .i64 10, .int .i64 40000000000], .agg #[.int .i64 1000, .int .i64 0, .int .i64 0, .int .i64 0]] w fun e w' => ∃ v, e = .returned (.tuple #[v, .int .i64 0]) ∧ (Kd.int .i64).R 3 w' w.heap.size (fun _ => True) v [48] ∧ Below w.heap.size w w' :=
  Needed_ok A c [ring0] 10 40000000000 1000 0 0 0 63245 (fun _ i => needLo i) (fun _ i => needHi i) (fun _ => 47) w hr (by kernel_rfl) (by kernel_rfl) (limit_ex A c) (fun k hk i hi W => by
    obtain rfl : k = 0 := by simpa using hk
    exact stress_need i hi W) needHi_turn
theorem Lightest_x (A : Option Addr) (c : Nat) (w : World) (hr : Kd.C k92 w A [ring0].length [ring0]) :
    Calls Tryz.prog 40 #[.agg #[.slice A 1 c, .int .i64 10, .int .i64 40000000000], .agg #[.int .i64 1000, .int .i64 0, .int .i64 0, .int .i64 0]] w fun e w' => e = .returned (.tuple #[.int .i64 227, .int .i64 0]) ∧ Below w.heap.size w w' :=
  Lightest_ok A c [ring0] 10 40000000000 1000 0 0 0 63245 (fun _ i => needLo i) (fun _ i => needHi i) (fun _ => 47) (fun i _ => ligLo i) (fun i _ => ligHi i) 226 5 w hr (by kernel_rfl) (by kernel_rfl) (limit_ex A c) (fun k hk i hi W => by
    obtain rfl : k = 0 := by simpa using hk
    exact stress_need i hi W) needHi_turn (by kernel_rfl) (fun i hi k hk W => by
    obtain rfl : k = 0 := by simpa using hk
    exact thick_ex i hi W) lig_turn
end
section
open Go.RowKit Go.Proofs.YtljfljekcpdpiaaGreatW.PrintWords Go.Proofs.YtljfljekcpdpiaaGreatW.PrintLast Go.Proofs.YtljfljekcpdpiaaGreatW.PrintMore
def l5_exact.f (a0 : Int) : Option (Int × Int) := some (a0, a0)
theorem l5_exact.calls (a0 : Int) (r1 : Int) (r2 : Int) (w : World) (h : l5_exact.f a0 = some (r1, r2)) :
  Calls Tryz.prog 108 #[.int .i64 a0] w fun e w' => e = .returned (.agg #[.int .i64 r1, .int .i64 r2]) ∧ Below w.heap.size w w' := by
 have hu27 := Tryz.underlying27; have HB := Sd.mk (Below.refl w.heap.size w)
 have H : (some (a0, a0)) = some (r1, r2) := h
 clear h
 simp only [Option.some.injEq, Prod.mk.injEq] at H
 obtain ⟨rfl, rfl⟩ := H
 go_enter Tryz.func108, Tryz.ntmps108
 go_wp2_with (first | ((with_reducible refine gate_dst (N := 2) rfl ?_); refine box_event ?hg (N := 2) ?hd (cs := #[.int .i64 0, .int .i64 0]) (t := 27) ?hr ?_; (case hd => rfl); (case hg => rfl); (case hr => exact tG); intro gb343 hg w2 hbox hb; have BK343 := Sd.mk (hbox); have GW343 := Sd.mk (bSz hg (bBl HB.out)); have GE343 := Sd.mk (bSz hg (bBl HB.out)); replace HB := Sd.mk (below_step (bBl HB.out) hb); clear hb hbox hg; obtain ⟨u3_0, u3_1, o3_0, o3_1⟩ := bc2 (w := w2) BK343.out))
 refine bodyPost_ret (results_cell_row rfl _ _ gb343 27 #[.int .i64 a0, .int .i64 a0] (0, 0) _ rfl (by refine bkZ ?_; refine blk_put (cs := #[.int .i64 a0, .int .i64 0]) ?_ 1 _ rfl; refine bkZ ?_; refine blk_put (cs := #[.int .i64 0, .int .i64 0]) ?_ 0 _ rfl; refine bkZ ?_; exact BK343.out) Tryz.underlying27 rfl (by kernel_rfl)) rfl ?_
 exact ⟨tE, bBl HB.out⟩
end
section
open Go.RowKit Go.Proofs.YtljfljekcpdpiaaGreatW.PrintWords Go.Proofs.YtljfljekcpdpiaaGreatW.PrintLast Go.Proofs.YtljfljekcpdpiaaGreatW.PrintMore
def l5_Example.f  : Option ((List (S92)) × Int × Int) := (l5_exact.f 300).bind fun bt345 => ((l5_exact.f 1000).bind fun bt347 => ((l5_exact.f 1000).bind fun bt349 => ((l5_exact.f 1000).bind fun bt351 => ((l5_exact.f 500).bind fun bt353 => (some ((([(⟨(⟨bt345.1, bt345.2⟩ : S27), (⟨bt347.1, bt347.2⟩ : S27), (⟨bt349.1, bt349.2⟩ : S27), (⟨bt351.1, bt351.2⟩ : S27), (⟨bt353.1, bt353.2⟩ : S27)⟩ : S92)] : List (S92))), 10, 40000000000))))))
theorem l5_Example.calls  (r1 : List (S92)) (r2 : Int) (r3 : Int) (w : World) (h : l5_Example.f  = some (r1, r2, r3)) :
  Calls Tryz.prog 36 #[] w fun e w' => ∃ v0_ : Value, e = .returned (.agg #[v0_, .int .i64 r2, .int .i64 r3]) ∧ Kd.R k92 92 w' w.heap.size (fun _ => True) v0_ r1 ∧ Below w.heap.size w w' := by
 have hu73 := Tryz.underlying73; have hu92 := Tryz.underlying92; have HB := Sd.mk (Below.refl w.heap.size w)
 have H : ((l5_exact.f 300).bind fun bt345 => ((l5_exact.f 1000).bind fun bt347 => ((l5_exact.f 1000).bind fun bt349 => ((l5_exact.f 1000).bind fun bt351 => ((l5_exact.f 500).bind fun bt353 => (some ((([(⟨(⟨bt345.1, bt345.2⟩ : S27), (⟨bt347.1, bt347.2⟩ : S27), (⟨bt349.1, bt349.2⟩ : S27), (⟨bt351.1, bt351.2⟩ : S27), (⟨bt353.1, bt353.2⟩ : S27)⟩ : S92)] : List (S92))), 10, 40000000000))))))) = some (r1, r2, r3) := h
 clear h; replace H := Option.bind_eq_some_iff.mp H
 obtain ⟨⟨t345, t346⟩, A10, H⟩ := H
 try dsimp only at H
 have A1 := Sd.mk A10; clear A10; replace H := Option.bind_eq_some_iff.mp H
 obtain ⟨⟨t347, t348⟩, A20, H⟩ := H
 try dsimp only at H
 have A2 := Sd.mk A20; clear A20; replace H := Option.bind_eq_some_iff.mp H
 obtain ⟨⟨t349, t350⟩, A30, H⟩ := H
 try dsimp only at H
 have A3 := Sd.mk A30; clear A30; replace H := Option.bind_eq_some_iff.mp H
 obtain ⟨⟨t351, t352⟩, A40, H⟩ := H
 try dsimp only at H
 have A4 := Sd.mk A40; clear A40; replace H := Option.bind_eq_some_iff.mp H
 obtain ⟨⟨t353, t354⟩, A50, H⟩ := H
 try dsimp only at H
 have A5 := Sd.mk A50; clear A50
 obtain ⟨y355, hy355⟩ : ∃ y_ : List (S92), y_ = (([(⟨(⟨t345, t346⟩ : S27), (⟨t347, t348⟩ : S27), (⟨t349, t350⟩ : S27), (⟨t351, t352⟩ : S27), (⟨t353, t354⟩ : S27)⟩ : S92)] : List (S92))) := ⟨_, rfl⟩
 replace H : (some (y355, 10, 40000000000)) = some (r1, r2, r3) := by first | (rw [hy355]; with_reducible exact H) | (have H2_ := (Option.bind_some _ _).symm.trans H; rw [hy355]; with_reducible exact H2_) | (have H2_ := (Option.bind_some _ _).symm.trans H; with_reducible exact H2_) | with_reducible exact H | (rw [hy355]; exact H) | exact H
 have Ny355 := Sd.mk hy355; clear hy355
 simp only [Option.some.injEq, Prod.mk.injEq] at H
 obtain ⟨rfl, rfl, rfl⟩ := H
 go_enter Tryz.func36, Tryz.ntmps36
 go_wp2_with (first | ((with_reducible refine gate_dst (N := 0) rfl ?_); refine box_event ?hg (N := 0) ?hd (cs := #[.slice none 0 0, .int .i64 0, .int .i64 0]) (t := 73) ?hr ?_; (case hd => rfl); (case hg => rfl); (case hr => exact tG); intro gb344 hg w6 hbox hb; have BK344 := Sd.mk (hbox); have GW344 := Sd.mk (bSz hg (bBl HB.out)); have GE344 := Sd.mk (bSz hg (bBl HB.out)); replace HB := Sd.mk (below_step (bBl HB.out) hb); clear hb hbox hg) | ((with_reducible refine gate_callee (f := 108) rfl ?_); refine goesL_ (some 1) rfl rfl Tryz.func108 (by kernel_rfl) rfl #[.int .i64 300] rfl tM ?_; (with_reducible refine (l5_exact.calls 300 t345 t346 _ A1.out).mono ?_); rintro e w7 ⟨rfl, hb⟩; refine ⟨_, rfl, ?_⟩; replace BK344 := Sd.mk (blk_below (bkA BK344.out) hb); replace HB := Sd.mk (below_step (bBl HB.out) hb); (try clear hb); (try clear hb2); (try clear hk); (try clear hi)) | ((with_reducible refine gate_callee (f := 108) rfl ?_); refine goesL_ (some 2) rfl rfl Tryz.func108 (by kernel_rfl) rfl #[.int .i64 1000] rfl tM ?_; (with_reducible refine (l5_exact.calls 1000 t347 t348 _ A2.out).mono ?_); rintro e w8 ⟨rfl, hb⟩; refine ⟨_, rfl, ?_⟩; replace BK344 := Sd.mk (blk_below (bkA BK344.out) hb); replace HB := Sd.mk (below_step (bBl HB.out) hb); (try clear hb); (try clear hb2); (try clear hk); (try clear hi)) | ((with_reducible refine gate_callee (f := 108) rfl ?_); refine goesL_ (some 3) rfl rfl Tryz.func108 (by kernel_rfl) rfl #[.int .i64 1000] rfl tM ?_; (with_reducible refine (l5_exact.calls 1000 t349 t350 _ A3.out).mono ?_); rintro e w9 ⟨rfl, hb⟩; refine ⟨_, rfl, ?_⟩; replace BK344 := Sd.mk (blk_below (bkA BK344.out) hb); replace HB := Sd.mk (below_step (bBl HB.out) hb); (try clear hb); (try clear hb2); (try clear hk); (try clear hi)) | ((with_reducible refine gate_callee (f := 108) rfl ?_); refine goesL_ (some 4) rfl rfl Tryz.func108 (by kernel_rfl) rfl #[.int .i64 1000] rfl tM ?_; (with_reducible refine (l5_exact.calls 1000 t351 t352 _ A4.out).mono ?_); rintro e w10 ⟨rfl, hb⟩; refine ⟨_, rfl, ?_⟩; replace BK344 := Sd.mk (blk_below (bkA BK344.out) hb); replace HB := Sd.mk (below_step (bBl HB.out) hb); (try clear hb); (try clear hb2); (try clear hk); (try clear hi)) | ((with_reducible refine gate_callee (f := 108) rfl ?_); refine goesL_ (some 5) rfl rfl Tryz.func108 (by kernel_rfl) rfl #[.int .i64 500] rfl tM ?_; (with_reducible refine (l5_exact.calls 500 t353 t354 _ A5.out).mono ?_); rintro e w11 ⟨rfl, hb⟩; refine ⟨_, rfl, ?_⟩; replace BK344 := Sd.mk (blk_below (bkA BK344.out) hb); replace HB := Sd.mk (below_step (bBl HB.out) hb); (try clear hb); (try clear hb2); (try clear hk); (try clear hi)) | ((with_reducible refine gate_dst (N := 7) rfl ?_); refine Kd.R_lit k92 _ 92 ?hg (N := 7) ?hd (xs := ([(⟨(⟨t345, t346⟩ : S27), (⟨t347, t348⟩ : S27), (⟨t349, t350⟩ : S27), (⟨t351, t352⟩ : S27), (⟨t353, t354⟩ : S27)⟩ : S92)] : List (S92))) (inner := [.int .i64 t345, .int .i64 t346, .int .i64 t347, .int .i64 t348, .int .i64 t349, .int .i64 t350, .int .i64 t351, .int .i64 t352, .int .i64 t353, .int .i64 t354]) (ok := fun _ => True) (okp := fun _ => True) ?hr ?hp (fun _ hk => hk) trivial (Below.refl _ _) (Nat.le_refl _) (by simp) ?_; (case hd => rfl); (case hg => rfl); (case hr => exact tG); (case hp => exact (Reps.c10 (show Kd.M k92 _ _ _ (⟨(⟨t345, t346⟩ : S27), (⟨t347, t348⟩ : S27), (⟨t349, t350⟩ : S27), (⟨t351, t352⟩ : S27), (⟨t353, t354⟩ : S27)⟩ : S92) [.int .i64 t345, .int .i64 t346, .int .i64 t347, .int .i64 t348, .int .i64 t349, .int .i64 t350, .int .i64 t351, .int .i64 t352, .int .i64 t353, .int .i64 t354] from (k92_mkM _ _ _ (⟨(⟨t345, t346⟩ : S27), (⟨t347, t348⟩ : S27), (⟨t349, t350⟩ : S27), (⟨t351, t352⟩ : S27), (⟨t353, t354⟩ : S27)⟩ : S92) )) (Reps.none _ _))); intro v356 w12 ho13 hb hg_ hnew_; clear hg_ hnew_; (first | rw [← Ny355.out] at ho13 | (simp only [Int.reduceToNat] at ho13; rw [← Ny355.out] at ho13)); have HO357 := Sd.mk (Kd.R_lower ho13 (below_size (bBl HB.out))); replace BK344 := Sd.mk (blk_below (bkA BK344.out) hb); replace HB := Sd.mk (below_step (bBl HB.out) hb); clear hb ho13; obtain ⟨Ao14, co14, eo14⟩ := Kd.R_slice HO357.out; subst eo14; obtain ⟨u15_0, u15_1, u15_2, o15_0, o15_1, o15_2⟩ := bc3 (w := w12) BK344.out))
 refine bodyPost_ret (results_cell_row rfl _ _ gb344 73 #[.slice Ao14 y355.length co14, .int .i64 10, .int .i64 40000000000] (0, 0) _ rfl (by refine bkZ ?_; refine blk_put (cs := #[.slice Ao14 y355.length co14, .int .i64 10, .int .i64 0]) ?_ 2 _ rfl; refine bkZ ?_; refine blk_put (cs := #[.slice Ao14 y355.length co14, .int .i64 0, .int .i64 0]) ?_ 1 _ rfl; refine bkZ ?_; refine blk_put (cs := #[.slice none 0 0, .int .i64 0, .int .i64 0]) ?_ 0 _ rfl; refine bkZ ?_; exact BK344.out) Tryz.underlying73 rfl (by kernel_rfl)) rfl ?_
 exact ⟨_, tE, by (with_reducible repeat (first | apply Kd.R_alloc | apply Kd.R_drewN | apply Kd.R_drew)); exact Kd.R_mono (Kd.R_far (p := ⟨gb344, 2, none⟩) (Kd.R_far (p := ⟨gb344, 1, none⟩) (Kd.R_far (p := ⟨gb344, 0, none⟩) (Kd.R_types HO357.out BK344.out (by decide)) (fun _ hk => hk.2) (.slice Ao14 y355.length co14)) (fun _ hk => hk.2) (.int .i64 10)) (fun _ hk => hk.2) (.int .i64 40000000000)) (fun _ hk => trivial), bBl HB.out⟩
end
section
open Go.RowKit Go.Proofs.YtljfljekcpdpiaaGreatW.PrintWords Go.Proofs.YtljfljekcpdpiaaGreatW.PrintLast Go.Proofs.YtljfljekcpdpiaaGreatW.PrintMore
def l5_Cooling.f  : Option ((List (S94)) × Int) := some ((([(⟨0, 5600⟩ : S94), (⟨30, 5600⟩ : S94), (⟨130, 4600⟩ : S94), (⟨150, 600⟩ : S94)] : List (S94))), 100)
theorem l5_Cooling.calls  (r1 : List (S94)) (r2 : Int) (w : World) (h : l5_Cooling.f  = some (r1, r2)) :
  Calls Tryz.prog 41 #[] w fun e w' => ∃ v0_ : Value, e = .returned (.agg #[v0_, .int .i64 r2]) ∧ Kd.R k94 94 w' w.heap.size (fun _ => True) v0_ r1 ∧ Below w.heap.size w w' := by
 have hu46 := Tryz.underlying46; have hu94 := Tryz.underlying94; have HB := Sd.mk (Below.refl w.heap.size w)
 have H : (some ((([(⟨0, 5600⟩ : S94), (⟨30, 5600⟩ : S94), (⟨130, 4600⟩ : S94), (⟨150, 600⟩ : S94)] : List (S94))), 100)) = some (r1, r2) := h
 clear h
 obtain ⟨y982, hy982⟩ : ∃ y_ : List (S94), y_ = (([(⟨0, 5600⟩ : S94), (⟨30, 5600⟩ : S94), (⟨130, 4600⟩ : S94), (⟨150, 600⟩ : S94)] : List (S94))) := ⟨_, rfl⟩
 replace H : (some (y982, 100)) = some (r1, r2) := by first | (rw [hy982]; with_reducible exact H) | (have H2_ := (Option.bind_some _ _).symm.trans H; rw [hy982]; with_reducible exact H2_) | (have H2_ := (Option.bind_some _ _).symm.trans H; with_reducible exact H2_) | with_reducible exact H | (rw [hy982]; exact H) | exact H
 have Ny982 := Sd.mk hy982; clear hy982
 simp only [Option.some.injEq, Prod.mk.injEq] at H
 obtain ⟨rfl, rfl⟩ := H
 go_enter Tryz.func41, Tryz.ntmps41
 go_wp2_with (first | ((with_reducible refine gate_dst (N := 0) rfl ?_); refine box_event ?hg (N := 0) ?hd (cs := #[.slice none 0 0, .int .i64 0]) (t := 46) ?hr ?_; (case hd => rfl); (case hg => rfl); (case hr => exact tG); intro gb981 hg w1 hbox hb; have BK981 := Sd.mk (hbox); have GW981 := Sd.mk (bSz hg (bBl HB.out)); have GE981 := Sd.mk (bSz hg (bBl HB.out)); replace HB := Sd.mk (below_step (bBl HB.out) hb); clear hb hbox hg) | ((with_reducible refine gate_dst (N := 5) rfl ?_); refine Kd.R_lit k94 _ 94 ?hg (N := 5) ?hd (xs := ([(⟨0, 5600⟩ : S94), (⟨30, 5600⟩ : S94), (⟨130, 4600⟩ : S94), (⟨150, 600⟩ : S94)] : List (S94))) (inner := [.int .i64 0, .int .i64 5600, .int .i64 30, .int .i64 5600, .int .i64 130, .int .i64 4600, .int .i64 150, .int .i64 600]) (ok := fun _ => True) (okp := fun _ => True) ?hr ?hp (fun _ hk => hk) trivial (Below.refl _ _) (Nat.le_refl _) (by simp) ?_; (case hd => rfl); (case hg => rfl); (case hr => exact tG); (case hp => exact (Reps.c2 (show Kd.M k94 _ _ _ (⟨0, 5600⟩ : S94) [.int .i64 0, .int .i64 5600] from (k94_mkM _ _ _ (⟨0, 5600⟩ : S94) )) (Reps.c2 (show Kd.M k94 _ _ _ (⟨30, 5600⟩ : S94) [.int .i64 30, .int .i64 5600] from (k94_mkM _ _ _ (⟨30, 5600⟩ : S94) )) (Reps.c2 (show Kd.M k94 _ _ _ (⟨130, 4600⟩ : S94) [.int .i64 130, .int .i64 4600] from (k94_mkM _ _ _ (⟨130, 4600⟩ : S94) )) (Reps.c2 (show Kd.M k94 _ _ _ (⟨150, 600⟩ : S94) [.int .i64 150, .int .i64 600] from (k94_mkM _ _ _ (⟨150, 600⟩ : S94) )) (Reps.none _ _)))))); intro v983 w2 ho3 hb hg_ hnew_; clear hg_ hnew_; (first | rw [← Ny982.out] at ho3 | (simp only [Int.reduceToNat] at ho3; rw [← Ny982.out] at ho3)); have HO984 := Sd.mk (Kd.R_lower ho3 (below_size (bBl HB.out))); replace BK981 := Sd.mk (blk_below (bkA BK981.out) hb); replace HB := Sd.mk (below_step (bBl HB.out) hb); clear hb ho3; obtain ⟨Ao4, co4, eo4⟩ := Kd.R_slice HO984.out; subst eo4; obtain ⟨u5_0, u5_1, o5_0, o5_1⟩ := bc2 (w := w2) BK981.out))
 refine bodyPost_ret (results_cell_row rfl _ _ gb981 46 #[.slice Ao4 y982.length co4, .int .i64 100] (0, 0) _ rfl (by refine bkZ ?_; refine blk_put (cs := #[.slice Ao4 y982.length co4, .int .i64 0]) ?_ 1 _ rfl; refine bkZ ?_; refine blk_put (cs := #[.slice none 0 0, .int .i64 0]) ?_ 0 _ rfl; refine bkZ ?_; exact BK981.out) Tryz.underlying46 rfl (by kernel_rfl)) rfl ?_
 exact ⟨_, tE, by (with_reducible repeat (first | apply Kd.R_alloc | apply Kd.R_drewN | apply Kd.R_drew)); exact Kd.R_mono (Kd.R_far (p := ⟨gb981, 1, none⟩) (Kd.R_far (p := ⟨gb981, 0, none⟩) (Kd.R_types HO984.out BK981.out (by decide)) (fun _ hk => hk.2) (.slice Ao4 y982.length co4)) (fun _ hk => hk.2) (.int .i64 100)) (fun _ hk => trivial), bBl HB.out⟩
end
section
open Go.RowKit Go.Proofs.YtljfljekcpdpiaaGreatW.PrintWords Go.Proofs.YtljfljekcpdpiaaGreatW.PrintLast Go.Proofs.YtljfljekcpdpiaaGreatW.PrintMore
def lw_SameInts.l0 : Nat → List Int → List Int → Int → Option (Bool)
 | 0, _, _, _ => none
 | k + 1, x0, x1, x5 => if x5 < (x0.length : Int) then (if 0 ≤ x5 then (if x5 < (x1.length : Int) then (if (rd x0 x5) = (rd x1 x5) then (lw_SameInts.l0 k x0 x1 (wrap64 (x5 + 1))) else (some false)) else (none)) else (none)) else (some true)
def lw_SameInts.f (k : Nat) (l0 : List Int) (l1 : List Int) : Option (Bool) := if (l0.length : Int) = (l1.length : Int) then (lw_SameInts.l0 k l0 l1 0) else (some false)
theorem lw_SameInts.calls (k : Nat) (A0 : Option Addr) (c0 : Nat) (l0 : List Int) (A1 : Option Addr) (c1 : Nat) (l1 : List Int) (r : Bool) (w : World) (hr0 : Kd.C (Kd.int .i64) w A0 l0.length l0) (hc0 : l0.length ≤ c0) (hr1 : Kd.C (Kd.int .i64) w A1 l1.length l1) (hc1 : l1.length ≤ c1) (h : lw_SameInts.f k l0 l1 = some r) :
  Calls Tryz.prog 30 #[.slice A0 l0.length c0, .slice A1 l1.length c1] w fun e w' => e = .returned (.bool r) ∧ Drawn0 w w' := by
 have HR0 := Sd.mk hr0; have HC0 := Sd.mk hc0; clear hr0 hc0; have HR1 := Sd.mk hr1; have HC1 := Sd.mk hc1; clear hr1 hc1
 have H : (if (l0.length : Int) = (l1.length : Int) then (lw_SameInts.l0 k l0 l1 0) else (some false)) = some r := h
 clear h
 by_cases c3 : (l0.length : Int) = (l1.length : Int)
 ·rw [if_pos c3] at H
  have c3b0 : ((l0.length : Int) == (l1.length : Int)) = true := beq_iff_eq.mpr c3
  have c3b1 : ((l0.length : Int) != (l1.length : Int)) = false := bne_eq_false_iff_eq.mpr c3
  have c3b2 : (l0.length == l1.length) = true := by first | simpa using c3 | (simp at c3 ⊢; omega)
  clear c3; have H' := Sd.mk H; clear H
  go_enter Tryz.func30, Tryz.ntmps30
  go_wp2
  repeat (go_quiet (fail); try go_wp2)
  go_loopg [5] k (fun kq v5 w' => ∃ (x5_1 : Int), v5 = .int .i64 x5_1 ∧ Sd (lw_SameInts.l0 kq l0 l1 x5_1 = some r) ∧ Sd (kq ≤ k) ∧ Drawn0 w w')
  case atStart => exact ⟨(0), tS, H', ⟨Nat.le_refl _⟩, by repeat (first | exact Drawn0.refl _ | apply Drawn0.step)⟩
  case round =>
   clear H'; (try clear c1); (try clear p2); (try clear c3); (try clear c3b0); (try clear c3b1); (try clear c3b2)
   obtain ⟨x5_1, rfl, HA, HK1, ⟨m1, rfl⟩⟩ := hrel
   cases gk with
   | zero => exact absurd HA.out (by simp [lw_SameInts.l0])
   | succ k1 =>
    have H := HA.out; clear HA
    simp only [lw_SameInts.l0] at H
    by_cases c4 : x5_1 < (l0.length : Int)
    ·rw [if_pos c4] at H
     have c4b0 : decide (x5_1 < (l0.length : Int)) = true := decide_eq_true c4
     clear c4
     by_cases c5 : 0 ≤ x5_1
     ·rw [if_pos c5] at H
      have c5b0 : decide (0 ≤ x5_1) = true := decide_eq_true c5
      clear c5
      by_cases c6 : x5_1 < (l1.length : Int)
      ·rw [if_pos c6] at H
       have c6b0 : decide (x5_1 < (l1.length : Int)) = true := decide_eq_true c6
       clear c6
       by_cases c7 : (rd l0 x5_1) = (rd l1 x5_1)
       ·rw [if_pos c7] at H
        have c7b0 : ((rd l0 x5_1) == (rd l1 x5_1)) = true := beq_iff_eq.mpr c7
        have c7b1 : ((rd l0 x5_1) != (rd l1 x5_1)) = false := bne_eq_false_iff_eq.mpr c7
        clear c7; have H' := Sd.mk H; clear H
        have p900 : 0 ≤ (x5_1 : Int) := tB
        have q900 : x5_1 < (l0.length : Int) := tB
        obtain ⟨ad900, e900, hx900_0⟩ := Kd.at_int HR0.out x5_1 p900 q900; cases e900; replace p900 := eq_true p900; replace q900 := eq_true q900
        have p901 : 0 ≤ (x5_1 : Int) := tB
        have q901 : x5_1 < (l1.length : Int) := tB
        obtain ⟨ad901, e901, hx901_0⟩ := Kd.at_int HR1.out x5_1 p901 q901; cases e901; replace p901 := eq_true p901; replace q901 := eq_true q901
        go_wp2
        repeat (go_quiet (fail); try go_wp2)
        go_roundg k1
        case measure => have := HK1.out; omega
        case rel => exact ⟨(wrap64 (x5_1 + 1)), tS, H', ⟨by have := HK1.out; omega⟩, by repeat (first | exact Drawn0.refl _ | apply Drawn0.step)⟩
       ·rw [if_neg c7] at H
        have c7b0 : ((rd l0 x5_1) == (rd l1 x5_1)) = false := beq_eq_false_iff_ne.mpr c7
        have c7b1 : ((rd l0 x5_1) != (rd l1 x5_1)) = true := bne_iff_ne.mpr c7
        obtain rfl := Option.some.inj H
        have p900 : 0 ≤ (x5_1 : Int) := tB
        have q900 : x5_1 < (l0.length : Int) := tB
        obtain ⟨ad900, e900, hx900_0⟩ := Kd.at_int HR0.out x5_1 p900 q900; cases e900; replace p900 := eq_true p900; replace q900 := eq_true q900
        have p901 : 0 ≤ (x5_1 : Int) := tB
        have q901 : x5_1 < (l1.length : Int) := tB
        obtain ⟨ad901, e901, hx901_0⟩ := Kd.at_int HR1.out x5_1 p901 q901; cases e901; replace p901 := eq_true p901; replace q901 := eq_true q901
        go_wp2
        repeat (go_quiet (fail); try go_wp2)
        go_ret
        exact ⟨by first | rfl | (simp; done) | (simp [*]; done), by repeat (first | exact Drawn0.refl _ | apply Drawn0.step)⟩
      ·rw [if_neg c6] at H
       exact absurd H (by simp)
     ·rw [if_neg c5] at H
      exact absurd H (by simp)
    ·rw [if_neg c4] at H
     have c4b0 : decide (x5_1 < (l0.length : Int)) = false := decide_eq_false c4
     clear c4; obtain rfl := Option.some.inj H
     go_wp2
     repeat (go_quiet (fail); try go_wp2)
     go_ret
     exact ⟨by first | rfl | (simp; done) | (simp [*]; done), by repeat (first | exact Drawn0.refl _ | apply Drawn0.step)⟩
 ·rw [if_neg c3] at H
  have c3b0 : ((l0.length : Int) == (l1.length : Int)) = false := beq_eq_false_iff_ne.mpr c3
  have c3b1 : ((l0.length : Int) != (l1.length : Int)) = true := bne_iff_ne.mpr c3
  have c3b2 : (l0.length == l1.length) = false := by first | simpa using c3 | (simp at c3 ⊢; omega)
  obtain rfl := Option.some.inj H
  go_enter Tryz.func30, Tryz.ntmps30
  go_wp2
  repeat (go_quiet (fail); try go_wp2)
  go_ret
  exact ⟨by first | rfl | (simp; done) | (simp [*]; done), by repeat (first | exact Drawn0.refl _ | apply Drawn0.step)⟩
end
section
attribute [local go_sem] Oper.semAt_some
theorem C_blk {α : Type} (d : Kd α) {w : World} {g e : Nat} {cs : Array Value} {xs : List α} (hb : w.heap[g]? = some (.cells cs e (0, 0))) (hr : Reps (d.K w) d.sz xs cs.toList) (hm : xs.length ≤ 9223372036854775807) : Kd.C d w (some ⟨g, 0, none⟩) xs.length xs := by
  refine ⟨rfl, hm, fun _ => ⟨_, rfl, fun j p hj => ⟨_, ?_, hr.2 j p hj, fun i u hu => ?_⟩⟩⟩
  · have hl := (List.getElem?_eq_some_iff.1 hj).1
    rw [List.length_take, List.length_drop, hr.1]
    have h2 : j * d.sz + d.sz ≤ xs.length * d.sz := by rw [← Nat.succ_mul]; exact Nat.mul_le_mul_right _ hl
    omega
  · rw [List.getElem?_take, List.getElem?_drop] at hu
    split at hu
    · have := blk_cell hb (j * d.sz + i)
      have e : (⟨g, 0, none⟩ : Addr).add (j * d.sz + i) = ⟨g, j * d.sz + i, none⟩ := by simp [Addr.add]; intro h1 h2; rw [h1, h2]
      rw [e, this, ← Array.getElem?_toList]
      exact hu
    · cases hu
theorem C_span {w : World} {g : Nat} {a b : Int} (hb : w.heap[g]? = some (.cells #[.int .i64 a, .int .i64 b] 27 (0, 0))) : Kd.C k27 w (some ⟨g, 0, none⟩) 1 [⟨a, b⟩] :=
  C_blk k27 (xs := [⟨a, b⟩]) hb (Reps.c2 (k27_mk w ⟨a, b⟩) (Reps.none _ _)) (by simp)
theorem C_int1 {w : World} {g : Nat} {a : Int} (hb : w.heap[g]? = some (.cells #[.int .i64 a] 3 (0, 0))) : Kd.C (Kd.int .i64) w (some ⟨g, 0, none⟩) 1 [a] :=
  C_blk (Kd.int .i64) (xs := [a]) hb (Reps.one rfl (Reps.none _ _)) (by simp)
theorem C_int2 {w : World} {g : Nat} {a b : Int} (hb : w.heap[g]? = some (.cells #[.int .i64 a, .int .i64 b] 3 (0, 0))) : Kd.C (Kd.int .i64) w (some ⟨g, 0, none⟩) 2 [a, b] :=
  C_blk (Kd.int .i64) (xs := [a, b]) hb (Reps.one rfl (Reps.one rfl (Reps.none _ _))) (by simp)
theorem span_cells {w : World} {g : Nat} {a b : Int} (h : Kd.C k27 w (some ⟨g, 0, none⟩) 1 [⟨a, b⟩]) : w.cell? ⟨g, 0, none⟩ = some (.int .i64 a) ∧ w.cell? ⟨g, 0 + 1, none⟩ = some (.int .i64 b) := by
  obtain ⟨ad, e, h0, h1⟩ := at_T27 h 0 (by decide) (by decide)
  cases e
  exact ⟨h0, h1⟩
theorem Example_x (w : World) : Calls Tryz.prog 36 #[] w fun e w' => ∃ g cp, e = .returned (.agg #[.slice (some ⟨g, 0, none⟩) 1 cp, .int .i64 10, .int .i64 40000000000]) ∧ 1 ≤ cp ∧ Kd.R k92 92 w' w.heap.size (fun _ => True) (.slice (some ⟨g, 0, none⟩) 1 cp) [ring0] ∧ Below w.heap.size w w' := by
  refine (l5_Example.calls [ring0] 10 40000000000 w (by kernel_rfl)).mono ?_
  rintro e w' ⟨v, rfl, hv, hb⟩
  obtain ⟨g, cp, rfl, h1, h2, _⟩ := Kd.R_form hv (by decide)
  exact ⟨g, cp, rfl, (Kd.R_reads' hv).2.1, hv, hb⟩
def knees : List S94 := [⟨0, 5600⟩, ⟨30, 5600⟩, ⟨130, 4600⟩, ⟨150, 600⟩]
theorem Cooling_x (w : World) : Calls Tryz.prog 41 #[] w fun e w' => ∃ g cp, e = .returned (.agg #[.slice (some ⟨g, 0, none⟩) 4 cp, .int .i64 100]) ∧ 4 ≤ cp ∧ Kd.R k94 94 w' w.heap.size (fun _ => True) (.slice (some ⟨g, 0, none⟩) 4 cp) knees ∧ Below w.heap.size w w' := by
  refine (l5_Cooling.calls knees 100 w (by kernel_rfl)).mono ?_
  rintro e w' ⟨v, rfl, hv, hb⟩
  obtain ⟨g, cp, rfl, h1, h2, _⟩ := Kd.R_form hv (by decide)
  exact ⟨g, cp, rfl, (Kd.R_reads' hv).2.1, hv, hb⟩
def oxs : List ByteArray := [⟨#[115, 105]⟩, ⟨#[110, 97]⟩]
def mts : List S70 := [⟨⟨#[115, 97, 110, 100]⟩, 1, 0, 0, 200, 20, [⟨980, 1000⟩, ⟨0, 0⟩]⟩, ⟨⟨#[115, 111, 100, 97]⟩, 4, 0, 0, 100, 20, [⟨0, 0⟩, ⟨570, 580⟩]⟩]
def shs : List S27 := [⟨700, 800⟩, ⟨200, 300⟩]
def prs : List S89 := [⟨⟨#[101, 120, 112, 97, 110, 115, 105, 111, 110]⟩, [500, 2000], ⟨0, 2000⟩⟩]
theorem Batch_x (w : World) : Calls Tryz.prog 45 #[] w fun e w' => ∃ Ao co Am cm As cs Ap ca, e = .returned (.agg #[.slice Ao 2 co, .slice Am 2 cm, .slice As 2 cs, .slice Ap 0 ca, .int .i64 (-9999), .int .i64 9999, .int .i64 100]) ∧ 2 ≤ co ∧ 2 ≤ cm ∧ 2 ≤ cs ∧ Kd.C Kd.string w' Ao 2 oxs ∧ Kd.C k70 w' Am 2 mts ∧ Kd.C k27 w' As 2 shs ∧ Below w.heap.size w w' := by
  refine (lw_Example.calls oxs mts shs [] (-9999) 9999 100 w (by kernel_rfl)).mono ?_
  rintro e w' ⟨v0, v1, v2, v3, rfl, h0, h1, h2, h3, hb⟩
  obtain ⟨Ao, co, rfl, hco, hCo⟩ := Kd.R_reads h0
  obtain ⟨Am, cm, rfl, hcm, hCm⟩ := Kd.N_reads h1
  obtain ⟨As, cs, rfl, hcs, hCs⟩ := Kd.R_reads h2
  obtain ⟨Ap, ca, rfl⟩ := Kd.N_slice h3
  exact ⟨Ao, co, Am, cm, As, cs, Ap, ca, rfl, hco, hcm, hcs, hCo, hCm, hCs, hb⟩
theorem C_prop {w : World} {g g2 : Nat} (h1 : w.heap[g]? = some (.cells #[.int .i64 500, .int .i64 2000] 3 (0, 0))) (h2 : w.heap[g2]? = some (.cells #[.string ⟨#[101, 120, 112, 97, 110, 115, 105, 111, 110]⟩, .slice (some ⟨g, 0, none⟩) 2 2, .int .i64 0, .int .i64 2000] 89 (0, 0))) : Kd.C k89 w (some ⟨g2, 0, none⟩) 1 prs :=
  C_blk k89 (xs := prs) h2 (Reps.c4 (k89_mk w ⟨⟨#[101, 120, 112, 97, 110, 115, 105, 111, 110]⟩, [500, 2000], ⟨0, 2000⟩⟩ (A1 := some ⟨g, 0, none⟩) (c1 := 2) (by decide) (C_int2 h1)) (Reps.none _ _)) (by decide)
def ring1 : S92 := ⟨⟨300, 300⟩, ⟨1000, 1000⟩, ⟨0, 999⟩, ⟨1000, 1000⟩, ⟨500, 500⟩⟩
def kneesX : List S94 := [⟨0, 5600⟩, ⟨0, 5600⟩, ⟨130, 4600⟩, ⟨150, 600⟩]
theorem Check_x (A : Option Addr) (c : Nat) (w : World) (hr : Kd.C k92 w A 1 [ring1]) : Calls Tryz.prog 47 #[.agg #[.slice A 1 c, .int .i64 10, .int .i64 40000000000]] w fun en w' => en = .returned (.int .i64 12) ∧ Below w.heap.size w w' := by
  have e : bottleV [ring1] 10 40000000000 = 12 := by kernel_rfl
  have h := Check_no A c [ring1] 10 40000000000 w hr (by rw [e]; decide)
  rw [e] at h
  exact h
theorem CheckLehr_x (A : Option Addr) (c : Nat) (w : World) (hr : Kd.C k94 w A 4 kneesX) : Calls Tryz.prog 48 #[.agg #[.slice A 4 c, .int .i64 100]] w fun en w' => en = .returned (.int .i64 1) ∧ Below w.heap.size w w' := by
  have e : lehrV kneesX 100 = 1 := by kernel_rfl
  have h := CheckLehr_calls A c kneesX 100 w hr
  rw [e] at h
  exact h
theorem lives_x (w : World) : Calls Tryz.prog 20 #[] w fun e w' => e = .returned (.bool true) ∧ Below w.heap.size w w' := by
  go_enter Tryz.func20, Tryz.ntmps20
  go_upto_region 2 with (first | (go_at_call 36; (refine (Example_x _).mono ?_); rintro e w1 ⟨g0, cp, rfl, hcp, hv, hb1⟩; have HZ := Sd.mk (Kd.R_reads' hv).2.2; have HB1 := Sd.mk hb1; clear hv hb1) | (go_at_call 61; (refine (x_Thickness.calls _ cp [ring0] 10 40000000000 1000 1000 [⟨212, 213⟩] 0 _ HZ.out hcp (by kernel_rfl)).mono ?_); rintro e w2 ⟨v2, rfl, hv2, hb2⟩; obtain ⟨g2, c2, rfl, h1, h2, _⟩ := Kd.R_form hv2 (by decide); have HC2 := Sd.mk (Kd.R_reads' hv2).2.2; have hc2 := (Kd.R_reads' hv2).2.1; have HB2 := Sd.mk (below_then HB1.out HB1.out.size hb2); clear hv2 hb2 h1 h2))
  go_wp2_with (first | (go_at_call 49; (refine (lw_SameSpans.calls 5 _ c2 [⟨212, 213⟩] _ 1 [⟨212, 213⟩] true _ (Kd.C_below HC2.out (below_alloc (Below.refl _ _) _)) hc2 (C_span (blk_new _ _)) (by decide) (by kernel_rfl)).mono ?_); rintro e w3 ⟨rfl, hd3⟩; have HB3 := Sd.mk (below_then (below_alloc HB2.out _) (below_alloc HB2.out _).size hd3.below); clear hd3))
  go_ret
  exact ⟨rfl, HB3.out⟩
theorem known_walk (w : World) : Calls Tryz.prog 9 #[] w fun e w' => e = .returned (.bool true) ∧ Below w.heap.size w w' := by
  go_enter Tryz.func9, Tryz.ntmps9
  go_upto_region 3 with (first | (go_at_call 36; (refine (Example_x _).mono ?_); rintro e w1 ⟨g0, cp, rfl, hcp, hv, hb1⟩; have HZ := Sd.mk hv; have HB1 := Sd.mk hb1; clear hv hb1))
  have BX := Sd.mk (blk_alloc (blk_new w1 (.cells #[.slice (some ⟨g0, 0, none⟩) 1 cp, .int .i64 10, .int .i64 40000000000] 73)) (.cells #[.int .i64 200, .int .i64 200] 27))
  have BT : Sd (((w1.alloc (.cells #[.slice (some ⟨g0, 0, none⟩) 1 cp, .int .i64 10, .int .i64 40000000000] 73)).alloc (.cells #[.int .i64 200, .int .i64 200] 27)).heap[w1.heap.size + 1]? = some (.cells #[.int .i64 200, .int .i64 200] 27 (0, 0))) := ⟨by simpa using blk_new (w1.alloc (.cells #[.slice (some ⟨g0, 0, none⟩) 1 cp, .int .i64 10, .int .i64 40000000000] 73)) (.cells #[.int .i64 200, .int .i64 200] 27)⟩
  have HB := Sd.mk (below_alloc (below_alloc HB1.out (.cells #[.slice (some ⟨g0, 0, none⟩) 1 cp, .int .i64 10, .int .i64 40000000000] 73)) (.cells #[.int .i64 200, .int .i64 200] 27))
  have HZ2 := Sd.mk (Kd.R_alloc (Kd.R_alloc HZ.out (.cells #[.slice (some ⟨g0, 0, none⟩) 1 cp, .int .i64 10, .int .i64 40000000000] 73)) (.cells #[.int .i64 200, .int .i64 200] 27))
  clear HB1 HZ
  generalize (w1.alloc (.cells #[.slice (some ⟨g0, 0, none⟩) 1 cp, .int .i64 10, .int .i64 40000000000] 73)).alloc (.cells #[.int .i64 200, .int .i64 200] 27) = W2 at BX BT HB HZ2 ⊢
  generalize w1.heap.size = b1 at BX BT ⊢
  have hx0 : W2.cell? ⟨b1, 0, none⟩ = some (.slice (some ⟨g0, 0, none⟩) 1 cp) := (blk_cell BX.out 0).trans rfl
  have hx1 : W2.cell? ⟨b1, 0 + 1, none⟩ = some (.int .i64 10) := (blk_cell BX.out 1).trans rfl
  have hx2 : W2.cell? ⟨b1, 0 + 2, none⟩ = some (.int .i64 40000000000) := (blk_cell BX.out 2).trans rfl
  go_upto_region 5 with (first | (go_at_call 37; (with_reducible refine (Stress_x1 _ cp _ 1 _ (Kd.R_reads' HZ2.out).2.2 (C_span BT.out)).mono ?_); rintro e w3 ⟨v3, rfl, hv3, hb⟩; obtain ⟨g3, c3, rfl, h1, h2, _⟩ := Kd.R_form hv3 (by decide); have HS3 := Sd.mk (Kd.R_reads' hv3).2.2; have BX3 := Sd.mk (blk_below BX.out hb); have BT3 := Sd.mk (blk_below BT.out hb); have HZ3 := Sd.mk (Kd.R_below HZ2.out hb); have HB3 := Sd.mk (below_then HB.out HB.out.size hb); clear hv3 hb h1 h2; clear hx0 hx1 hx2; have hx0 : w3.cell? ⟨b1, 0, none⟩ = some (.slice (some ⟨g0, 0, none⟩) 1 cp) := (blk_cell BX3.out 0).trans rfl; have hx1 : w3.cell? ⟨b1, 0 + 1, none⟩ = some (.int .i64 10) := (blk_cell BX3.out 1).trans rfl; have hx2 : w3.cell? ⟨b1, 0 + 2, none⟩ = some (.int .i64 40000000000) := (blk_cell BX3.out 2).trans rfl) | (go_at_call 37; (with_reducible refine (Stress_x2 _ cp _ 1 _ (Kd.R_reads' HZ3.out).2.2 (C_span BT3.out)).mono ?_); rintro e w4 ⟨v4, rfl, hv4, hb⟩; obtain ⟨g4, c4, rfl, h1, h2, _⟩ := Kd.R_form hv4 (by decide); have HT4 := Sd.mk (Kd.R_reads' hv4).2.2; have BX4 := Sd.mk (blk_below BX3.out hb); have HZ4 := Sd.mk (Kd.R_below HZ3.out hb); have HB4 := Sd.mk (below_then HB3.out HB3.out.size hb); have HS4 := Sd.mk (Kd.C_below HS3.out hb); clear hv4 hb h1 h2; clear hx0 hx1 hx2; have hx0 : w4.cell? ⟨b1, 0, none⟩ = some (.slice (some ⟨g0, 0, none⟩) 1 cp) := (blk_cell BX4.out 0).trans rfl; have hx1 : w4.cell? ⟨b1, 0 + 1, none⟩ = some (.int .i64 10) := (blk_cell BX4.out 1).trans rfl; have hx2 : w4.cell? ⟨b1, 0 + 2, none⟩ = some (.int .i64 40000000000) := (blk_cell BX4.out 2).trans rfl))
  clear BX BT HB HZ2 BX3 BT3 HB3 HZ3 HS3
  go_upto_region 6 with (first | (go_at_call 38; (with_reducible refine (Burst_x _ cp _ 1 _ (Kd.C_below (Kd.R_reads' HZ4.out).2.2 (below_alloc (Below.refl _ _) _)) (C_span (blk_new _ _))).mono ?_); rintro e w5 ⟨rfl, hb0⟩; have hb := below_then (below_alloc (Below.refl _ _) _) (by simp) hb0; have BX5 := Sd.mk (blk_below BX4.out hb); have HZ5 := Sd.mk (Kd.R_below HZ4.out hb); have HB5 := Sd.mk (below_then HB4.out HB4.out.size hb); have HS5 := Sd.mk (Kd.C_below HS4.out hb); have HT5 := Sd.mk (Kd.C_below HT4.out hb); clear hb hb0))
  have BU := Sd.mk (blk_new w5 (.cells #[.int .i64 4216, .int .i64 5271] 27))
  have BX6 := Sd.mk (blk_alloc BX5.out (.cells #[.int .i64 4216, .int .i64 5271] 27))
  have HZ6 := Sd.mk (Kd.R_alloc HZ5.out (.cells #[.int .i64 4216, .int .i64 5271] 27))
  have HB6 := Sd.mk (below_alloc HB5.out (.cells #[.int .i64 4216, .int .i64 5271] 27))
  have HS6 := Sd.mk (span_cells (Kd.C_below HS5.out (below_alloc (Below.refl _ _) (.cells #[.int .i64 4216, .int .i64 5271] 27))))
  have HT6 := Sd.mk (span_cells (Kd.C_below HT5.out (below_alloc (Below.refl _ _) (.cells #[.int .i64 4216, .int .i64 5271] 27))))
  clear BX4 HZ4 HB4 HS4 HT4 BX5 HZ5 HB5 HS5 HT5 hx0 hx1 hx2
  generalize w5.alloc (.cells #[.int .i64 4216, .int .i64 5271] 27) = W6 at BU BX6 HZ6 HB6 HS6 HT6 ⊢
  generalize w5.heap.size = u1 at BU ⊢
  obtain ⟨hs0, hs1⟩ := HS6.out
  obtain ⟨ht0, ht1⟩ := HT6.out
  have hu0 : W6.cell? ⟨u1, 0, none⟩ = some (.int .i64 4216) := (blk_cell BU.out 0).trans rfl
  have hu1 : W6.cell? ⟨u1, 0 + 1, none⟩ = some (.int .i64 5271) := (blk_cell BU.out 1).trans rfl
  have hx0 : W6.cell? ⟨b1, 0, none⟩ = some (.slice (some ⟨g0, 0, none⟩) 1 cp) := (blk_cell BX6.out 0).trans rfl
  have hx1 : W6.cell? ⟨b1, 0 + 1, none⟩ = some (.int .i64 10) := (blk_cell BX6.out 1).trans rfl
  have hx2 : W6.cell? ⟨b1, 0 + 2, none⟩ = some (.int .i64 40000000000) := (blk_cell BX6.out 2).trans rfl
  clear HS6 HT6
  go_upto_region 8 with (fail)
  clear hs0 hs1 ht0 ht1 hu0 hu1 BU
  go_upto_region 9 with (first | (go_at_call 39; (with_reducible refine (Needed_x _ cp _ (Kd.R_reads' HZ6.out).2.2).mono ?_); rintro e w7 ⟨v7, rfl, hv7, hb⟩; obtain ⟨g7, c7, rfl, h1, h2, _⟩ := Kd.R_form hv7 (by decide); have HN7 := Sd.mk (Kd.R_reads' hv7).2.2; have hc7 := (Kd.R_reads' hv7).2.1; have BX7 := Sd.mk (blk_below BX6.out hb); have HZ7 := Sd.mk (Kd.R_below HZ6.out hb); have HB7 := Sd.mk (below_then HB6.out HB6.out.size hb); clear hv7 hb h1 h2; clear hx0 hx1 hx2; have hx0 : w7.cell? ⟨b1, 0, none⟩ = some (.slice (some ⟨g0, 0, none⟩) 1 cp) := (blk_cell BX7.out 0).trans rfl; have hx1 : w7.cell? ⟨b1, 0 + 1, none⟩ = some (.int .i64 10) := (blk_cell BX7.out 1).trans rfl; have hx2 : w7.cell? ⟨b1, 0 + 2, none⟩ = some (.int .i64 40000000000) := (blk_cell BX7.out 2).trans rfl))
  go_upto_region 10 with (first | (go_at_call 40; (with_reducible refine (Lightest_x _ cp _ (Kd.R_reads' HZ7.out).2.2).mono ?_); rintro e w8 ⟨rfl, hb⟩; have BX8 := Sd.mk (blk_below BX7.out hb); have HZ8 := Sd.mk (Kd.R_below HZ7.out hb); have HB8 := Sd.mk (below_then HB7.out HB7.out.size hb); have HN8 := Sd.mk (Kd.C_below HN7.out hb); clear hb))
  clear BX6 HZ6 HB6 BX7 HZ7 HB7 HN7 hx0 hx1 hx2
  go_upto_region 12 with (first | (go_at_call 30; (refine (lw_SameInts.calls 5 _ c7 [48] _ 1 [48] true _ (Kd.C_below HN8.out (below_alloc (Below.refl _ _) _)) hc7 (C_int1 (blk_new _ _)) (by decide) (by kernel_rfl)).mono ?_); rintro e w9 ⟨rfl, hd9⟩; have hb := below_then (below_alloc (Below.refl _ _) _) (by simp) hd9.below; clear hd9; have BX9 := Sd.mk (blk_below BX8.out hb); have HZ9 := Sd.mk (Kd.R_below HZ8.out hb); have HB9 := Sd.mk (below_then HB8.out HB8.out.size hb); clear hb))
  clear BX8 HZ8 HB8 HN8 hc7
  go_upto_region 13 with (first | (go_at_call 41; (refine (Cooling_x _).mono ?_); rintro e w10 ⟨gL, cL, rfl, hcL, hvL, hb⟩; have HL10 := Sd.mk hvL; have BX10 := Sd.mk (blk_below BX9.out hb); have HZ10 := Sd.mk (Kd.R_below HZ9.out hb); have HB10 := Sd.mk (below_then HB9.out HB9.out.size hb); clear hb hvL))
  have BL11 := Sd.mk (blk_new w10 (.cells #[.slice (some ⟨gL, 0, none⟩) 4 cL, .int .i64 100] 46))
  have BX11 := Sd.mk (blk_alloc BX10.out (.cells #[.slice (some ⟨gL, 0, none⟩) 4 cL, .int .i64 100] 46))
  have HZ11 := Sd.mk (Kd.R_alloc HZ10.out (.cells #[.slice (some ⟨gL, 0, none⟩) 4 cL, .int .i64 100] 46))
  have HB11 := Sd.mk (below_alloc HB10.out (.cells #[.slice (some ⟨gL, 0, none⟩) 4 cL, .int .i64 100] 46))
  have HL11 := Sd.mk (Kd.R_lower (Kd.R_alloc HL10.out (.cells #[.slice (some ⟨gL, 0, none⟩) 4 cL, .int .i64 100] 46)) HB9.out.size)
  clear BX9 HZ9 HB9 BX10 HZ10 HB10 HL10
  generalize w10.alloc (.cells #[.slice (some ⟨gL, 0, none⟩) 4 cL, .int .i64 100] 46) = W11 at BL11 BX11 HZ11 HB11 HL11 ⊢
  generalize w10.heap.size = bL at BL11 ⊢
  have hl0 : W11.cell? ⟨bL, 0, none⟩ = some (.slice (some ⟨gL, 0, none⟩) 4 cL) := (blk_cell BL11.out 0).trans rfl
  have hl1 : W11.cell? ⟨bL, 0 + 1, none⟩ = some (.int .i64 100) := (blk_cell BL11.out 1).trans rfl
  go_upto_region 14 with (first | (go_at_call 42; (refine (x_Steepest.calls 100 _ cL knees 100 4900 5500 10 1 0 _ (Kd.R_reads' HL11.out).2.2 hcL (by kernel_rfl)).mono ?_); rintro e w12 ⟨rfl, hb⟩; have BL12 := Sd.mk (blk_below BL11.out hb); have BX12 := Sd.mk (blk_below BX11.out hb); have HZ12 := Sd.mk (Kd.R_below HZ11.out hb); have HB12 := Sd.mk (below_then HB11.out HB11.out.size hb); have HL12 := Sd.mk (Kd.R_below HL11.out hb); clear hb))
  have BR13 := Sd.mk (blk_new w12 (.cells #[.int .i64 10, .int .i64 1] 82))
  have BL13 := Sd.mk (blk_alloc BL12.out (.cells #[.int .i64 10, .int .i64 1] 82))
  have BX13 := Sd.mk (blk_alloc BX12.out (.cells #[.int .i64 10, .int .i64 1] 82))
  have HZ13 := Sd.mk (Kd.R_alloc HZ12.out (.cells #[.int .i64 10, .int .i64 1] 82))
  have HL13 := Sd.mk (Kd.R_alloc HL12.out (.cells #[.int .i64 10, .int .i64 1] 82))
  have HB13 := Sd.mk (below_alloc HB12.out (.cells #[.int .i64 10, .int .i64 1] 82))
  clear BL11 BX11 HZ11 HB11 HL11 BL12 BX12 HZ12 HB12 HL12 hl0 hl1
  generalize w12.alloc (.cells #[.int .i64 10, .int .i64 1] 82) = W13 at BR13 BL13 BX13 HZ13 HB13 HL13 ⊢
  generalize w12.heap.size = bR at BR13 ⊢
  have hl0 : W13.cell? ⟨bL, 0, none⟩ = some (.slice (some ⟨gL, 0, none⟩) 4 cL) := (blk_cell BL13.out 0).trans rfl
  have hl1 : W13.cell? ⟨bL, 0 + 1, none⟩ = some (.int .i64 100) := (blk_cell BL13.out 1).trans rfl
  go_upto_region 15 with (first | (go_at_call 43; (refine (x_Held.calls 100 _ cL knees 100 5400 50 0 _ (Kd.R_reads' HL13.out).2.2 hcL (by kernel_rfl)).mono ?_); rintro e w14 ⟨rfl, hb⟩; have BL14 := Sd.mk (blk_below BL13.out hb); have BX14 := Sd.mk (blk_below BX13.out hb); have HZ14 := Sd.mk (Kd.R_below HZ13.out hb); have HB14 := Sd.mk (below_then HB13.out HB13.out.size hb); have HL14 := Sd.mk (Kd.R_below HL13.out hb); have BR14 := Sd.mk (blk_below BR13.out hb); clear hb hl0 hl1; have hl0 : w14.cell? ⟨bL, 0, none⟩ = some (.slice (some ⟨gL, 0, none⟩) 4 cL) := (blk_cell BL14.out 0).trans rfl; have hl1 : w14.cell? ⟨bL, 0 + 1, none⟩ = some (.int .i64 100) := (blk_cell BL14.out 1).trans rfl))
  go_upto_region 16 with (first | (go_at_call 44; (refine (x_Strain.calls 100 _ cL knees 100 4900 5500 300 90 0 _ (Kd.R_reads' HL14.out).2.2 hcL (by kernel_rfl)).mono ?_); rintro e w15 ⟨rfl, hb⟩; have BL15 := Sd.mk (blk_below BL14.out hb); have BX15 := Sd.mk (blk_below BX14.out hb); have HZ15 := Sd.mk (Kd.R_below HZ14.out hb); have HB15 := Sd.mk (below_then HB14.out HB14.out.size hb); have HL15 := Sd.mk (Kd.R_below HL14.out hb); have BR15 := Sd.mk (blk_below BR14.out hb); clear hb))
  clear BL13 BX13 HZ13 HB13 HL13 BL14 BX14 HZ14 HB14 HL14 BR13 BR14 hl0 hl1
  have hr0 : w15.cell? ⟨bR, 0, none⟩ = some (.int .i64 10) := (blk_cell BR15.out 0).trans rfl
  have hr1 : w15.cell? ⟨bR, 0 + 1, none⟩ = some (.int .i64 1) := (blk_cell BR15.out 1).trans rfl
  go_upto_region 18 with (fail)
  clear hr0 hr1 BR15
  go_upto_region 20 with (first | (go_at_call 45; (refine (Batch_x _).mono ?_); rintro e w16 ⟨Ao, co, Am, cm, As, cs, Ap, ca, rfl, hco, hcm, hcs, hCo, hCm, hCs, hb⟩; have HCO := Sd.mk hCo; have HCM := Sd.mk hCm; have HCS := Sd.mk hCs; have BL16 := Sd.mk (blk_below BL15.out hb); have BX16 := Sd.mk (blk_below BX15.out hb); have HZ16 := Sd.mk (Kd.R_below HZ15.out hb); have HB16 := Sd.mk (below_then HB15.out HB15.out.size hb); have HL16 := Sd.mk (Kd.R_below HL15.out hb); clear hb hCo hCm hCs))
  obtain ⟨q0, q1, q2, qb, qs⟩ := blk_three w16 (.cells #[.slice Ao 2 co, .slice Am 2 cm, .slice As 2 cs, .slice (some ⟨w16.heap.size + 1 + 1, 0, none⟩) 1 1, .int .i64 (-9999), .int .i64 9999, .int .i64 100] 29) (.cells #[.int .i64 500, .int .i64 2000] 3) (.cells #[.string ⟨#[101, 120, 112, 97, 110, 115, 105, 111, 110]⟩, .slice (some ⟨w16.heap.size + 1, 0, none⟩) 2 2, .int .i64 0, .int .i64 2000] 89)
  have BC17 := Sd.mk q0
  have CP17 := Sd.mk (C_prop q1 q2)
  have BL17 := Sd.mk (blk_below BL16.out qb)
  have BX17 := Sd.mk (blk_below BX16.out qb)
  have HZ17 := Sd.mk (Kd.R_below HZ16.out qb)
  have HL17 := Sd.mk (Kd.R_below HL16.out qb)
  have HB17 := Sd.mk (below_then HB16.out HB16.out.size qb)
  have CO17 := Sd.mk (Kd.C_below HCO.out qb)
  have CM17 := Sd.mk (Kd.C_below HCM.out qb)
  have CS17 := Sd.mk (Kd.C_below HCS.out qb)
  clear q0 q1 q2 qb qs HCO HCM HCS BL15 BX15 HZ15 HL15 HB15 BL16 BX16 HZ16 HL16 HB16
  generalize ((w16.alloc (.cells #[.slice Ao 2 co, .slice Am 2 cm, .slice As 2 cs, .slice (some ⟨w16.heap.size + 1 + 1, 0, none⟩) 1 1, .int .i64 (-9999), .int .i64 9999, .int .i64 100] 29)).alloc (.cells #[.int .i64 500, .int .i64 2000] 3)).alloc (.cells #[.string ⟨#[101, 120, 112, 97, 110, 115, 105, 111, 110]⟩, .slice (some ⟨w16.heap.size + 1, 0, none⟩) 2 2, .int .i64 0, .int .i64 2000] 89) = W17 at BC17 CP17 BL17 BX17 HZ17 HL17 HB17 CO17 CM17 CS17 ⊢
  generalize w16.heap.size = bC at BC17 CP17 ⊢
  have hc0 : W17.cell? ⟨bC, 0, none⟩ = some (.slice Ao 2 co) := (blk_cell BC17.out 0).trans rfl
  have hc1 : W17.cell? ⟨bC, 0 + 1, none⟩ = some (.slice Am 2 cm) := (blk_cell BC17.out 1).trans rfl
  have hc2 : W17.cell? ⟨bC, 0 + 2, none⟩ = some (.slice As 2 cs) := (blk_cell BC17.out 2).trans rfl
  have hc3 : W17.cell? ⟨bC, 0 + 3, none⟩ = some (.slice (some ⟨bC + 1 + 1, 0, none⟩) 1 1) := (blk_cell BC17.out 3).trans rfl
  have hc4 : W17.cell? ⟨bC, 0 + 4, none⟩ = some (.int .i64 (-9999)) := (blk_cell BC17.out 4).trans rfl
  have hc5 : W17.cell? ⟨bC, 0 + 5, none⟩ = some (.int .i64 9999) := (blk_cell BC17.out 5).trans rfl
  have hc6 : W17.cell? ⟨bC, 0 + 6, none⟩ = some (.int .i64 100) := (blk_cell BC17.out 6).trans rfl
  go_upto_region 21 with (first | (go_at_call 46; (refine (x_Value.calls 300 _ co oxs _ cm mts _ cs shs _ 1 prs (-9999) 9999 100 _ 2 [80, 40] 0 832 843 0 _ (Kd.C_below CO17.out (below_alloc (Below.refl _ _) _)) hco (Kd.C_below CM17.out (below_alloc (Below.refl _ _) _)) hcm (Kd.C_below CS17.out (below_alloc (Below.refl _ _) _)) hcs (Kd.C_below CP17.out (below_alloc (Below.refl _ _) _)) (by decide) (C_int2 (blk_new _ _)) (by decide) (by kernel_rfl)).mono ?_); rintro e w18 ⟨rfl, hb0⟩; have hb := below_then (below_alloc (Below.refl _ _) _) (by simp) hb0; have BC18 := Sd.mk (blk_below BC17.out hb); have CP18 := Sd.mk (Kd.C_below CP17.out hb); have BL18 := Sd.mk (blk_below BL17.out hb); have BX18 := Sd.mk (blk_below BX17.out hb); have HZ18 := Sd.mk (Kd.R_below HZ17.out hb); have HL18 := Sd.mk (Kd.R_below HL17.out hb); have HB18 := Sd.mk (below_then HB17.out HB17.out.size hb); have CO18 := Sd.mk (Kd.C_below CO17.out hb); have CM18 := Sd.mk (Kd.C_below CM17.out hb); have CS18 := Sd.mk (Kd.C_below CS17.out hb); clear hb hb0))
  have BV19 := Sd.mk (blk_new w18 (.cells #[.int .i64 832, .int .i64 843] 27))
  obtain ⟨qb⟩ : Nonempty (Below w18.heap.size w18 (w18.alloc (.cells #[.int .i64 832, .int .i64 843] 27))) := ⟨below_alloc (Below.refl _ _) (.cells #[.int .i64 832, .int .i64 843] 27)⟩
  have BC19 := Sd.mk (blk_below BC18.out qb)
  have CP19 := Sd.mk (Kd.C_below CP18.out qb)
  have BL19 := Sd.mk (blk_below BL18.out qb)
  have BX19 := Sd.mk (blk_below BX18.out qb)
  have HZ19 := Sd.mk (Kd.R_below HZ18.out qb)
  have HL19 := Sd.mk (Kd.R_below HL18.out qb)
  have HB19 := Sd.mk (below_then HB18.out HB18.out.size qb)
  have CO19 := Sd.mk (Kd.C_below CO18.out qb)
  have CM19 := Sd.mk (Kd.C_below CM18.out qb)
  have CS19 := Sd.mk (Kd.C_below CS18.out qb)
  clear qb hc0 hc1 hc2 hc3 hc4 hc5 hc6 BC17 CP17 BL17 BX17 HZ17 HL17 HB17 CO17 CM17 CS17 BC18 CP18 BL18 BX18 HZ18 HL18 HB18 CO18 CM18 CS18
  generalize w18.alloc (.cells #[.int .i64 832, .int .i64 843] 27) = W19 at BV19 BC19 CP19 BL19 BX19 HZ19 HL19 HB19 CO19 CM19 CS19 ⊢
  generalize w18.heap.size = bV at BV19 ⊢
  have hc0 : W19.cell? ⟨bC, 0, none⟩ = some (.slice Ao 2 co) := (blk_cell BC19.out 0).trans rfl
  have hc1 : W19.cell? ⟨bC, 0 + 1, none⟩ = some (.slice Am 2 cm) := (blk_cell BC19.out 1).trans rfl
  have hc2 : W19.cell? ⟨bC, 0 + 2, none⟩ = some (.slice As 2 cs) := (blk_cell BC19.out 2).trans rfl
  have hc3 : W19.cell? ⟨bC, 0 + 3, none⟩ = some (.slice (some ⟨bC + 1 + 1, 0, none⟩) 1 1) := (blk_cell BC19.out 3).trans rfl
  have hc4 : W19.cell? ⟨bC, 0 + 4, none⟩ = some (.int .i64 (-9999)) := (blk_cell BC19.out 4).trans rfl
  have hc5 : W19.cell? ⟨bC, 0 + 5, none⟩ = some (.int .i64 9999) := (blk_cell BC19.out 5).trans rfl
  have hc6 : W19.cell? ⟨bC, 0 + 6, none⟩ = some (.int .i64 100) := (blk_cell BC19.out 6).trans rfl
  go_upto_region 22 with (first | (go_at_call 21; (refine (x_Shock.calls 300 _ co oxs _ cm mts _ cs shs _ 1 prs (-9999) 9999 100 _ 2 [80, 40] 0 40 14933 15131 0 _ (Kd.C_below CO19.out (below_alloc (Below.refl _ _) _)) hco (Kd.C_below CM19.out (below_alloc (Below.refl _ _) _)) hcm (Kd.C_below CS19.out (below_alloc (Below.refl _ _) _)) hcs (Kd.C_below CP19.out (below_alloc (Below.refl _ _) _)) (by decide) (C_int2 (blk_new _ _)) (by decide) (by kernel_rfl)).mono ?_); rintro e w20 ⟨rfl, hb0⟩; have hb := below_then (below_alloc (Below.refl _ _) _) (by simp) hb0; have BL20 := Sd.mk (blk_below BL19.out hb); have BX20 := Sd.mk (blk_below BX19.out hb); have HZ20 := Sd.mk (Kd.R_below HZ19.out hb); have HL20 := Sd.mk (Kd.R_below HL19.out hb); have HB20 := Sd.mk (below_then HB19.out HB19.out.size hb); have BV20 := Sd.mk (blk_below BV19.out hb); clear hb hb0))
  have BW21 := Sd.mk (blk_new w20 (.cells #[.int .i64 14933, .int .i64 15131] 27))
  have BV21 := Sd.mk (blk_alloc BV20.out (.cells #[.int .i64 14933, .int .i64 15131] 27))
  have BL21 := Sd.mk (blk_alloc BL20.out (.cells #[.int .i64 14933, .int .i64 15131] 27))
  have BX21 := Sd.mk (blk_alloc BX20.out (.cells #[.int .i64 14933, .int .i64 15131] 27))
  have HZ21 := Sd.mk (Kd.R_alloc HZ20.out (.cells #[.int .i64 14933, .int .i64 15131] 27))
  have HL21 := Sd.mk (Kd.R_alloc HL20.out (.cells #[.int .i64 14933, .int .i64 15131] 27))
  have HB21 := Sd.mk (below_alloc HB20.out (.cells #[.int .i64 14933, .int .i64 15131] 27))
  clear hc0 hc1 hc2 hc3 hc4 hc5 hc6 BC19 CP19 BL19 BX19 HZ19 HL19 HB19 CO19 CM19 CS19 BV19 BV20 BL20 BX20 HZ20 HL20 HB20
  generalize w20.alloc (.cells #[.int .i64 14933, .int .i64 15131] 27) = W21 at BW21 BV21 BL21 BX21 HZ21 HL21 HB21 ⊢
  generalize w20.heap.size = bW at BW21 ⊢
  have hv0 : W21.cell? ⟨bV, 0, none⟩ = some (.int .i64 832) := (blk_cell BV21.out 0).trans rfl
  have hv1 : W21.cell? ⟨bV, 0 + 1, none⟩ = some (.int .i64 843) := (blk_cell BV21.out 1).trans rfl
  have hw0 : W21.cell? ⟨bW, 0, none⟩ = some (.int .i64 14933) := (blk_cell BW21.out 0).trans rfl
  have hw1 : W21.cell? ⟨bW, 0 + 1, none⟩ = some (.int .i64 15131) := (blk_cell BW21.out 1).trans rfl
  go_upto_region 24 with (fail)
  clear hv0 hv1 hw0 hw1 BV21 BW21
  have hx0 : W21.cell? ⟨b1, 0, none⟩ = some (.slice (some ⟨g0, 0, none⟩) 1 cp) := (blk_cell BX21.out 0).trans rfl
  obtain ⟨cells0, hg0⟩ := Kd.R_typed HZ21.out g0 rfl
  have HG0 := Sd.mk hg0
  obtain ⟨cl, hcl, hM, hcc⟩ := Kd.R_elem HZ21.out ring0 0 (by decide) (by decide)
  obtain rfl := k92_openM hM
  have HCC := Sd.mk hcc
  clear hcl hM hcc hg0
  go_upto_region 25 with (first | ((with_reducible refine gate_ (.store 27 (.tmp 199) (.tmp 197)) rfl ?_); refine Kd.R_store k92 (w0 := w) w.heap.size rfl rfl 27 (.tmp 199) (.tmp 197) rfl 92 (g := g0) (n := 1) (cap := cp) (o' := 4) 0 4 [ring0] ring1 (.agg #[.int .i64 0, .int .i64 999]) [.int .i64 0, .int .i64 999] _ (fun _ => True) (fun k => k ≠ g0) rfl rfl rfl rfl (by kernel_rfl) (by intro q hq; simp at hq; rcases hq with rfl | rfl <;> rfl) HZ21.out (by decide) (by decide) rfl HCC.out.1 (by decide) (k92_mkM _ _ _ ring1) (fun k hk => ⟨trivial, hk⟩) HB21.out ?_; intro w22 ho hb hg; have HZ22 := Sd.mk ho; have HB22 := Sd.mk hb; have BX22 := Sd.mk (blk_grown BX21.out hg (Kd.R_ne HZ21.out BX21.out (by decide))); have BL22 := Sd.mk (blk_grown BL21.out hg (Kd.R_ne HZ21.out BL21.out (by decide))); have HL22 := Sd.mk (Kd.R_drop (Kd.R_grown (Kd.R_types HL21.out HG0.out (by decide)) hg (fun k hk he => hk.2 (by injection he)))); clear ho hb hg))
  clear HCC HG0 hx0 BL21 BX21 HZ21 HL21 HB21
  have hl0 : w22.cell? ⟨bL, 0, none⟩ = some (.slice (some ⟨gL, 0, none⟩) 4 cL) := (blk_cell BL22.out 0).trans rfl
  obtain ⟨cells0, hg0⟩ := Kd.R_typed HL22.out gL rfl
  have HG0 := Sd.mk hg0
  obtain ⟨cl, hcl, hM, hcc⟩ := Kd.R_elem HL22.out (⟨0, 0⟩ : S94) 1 (by decide) (by decide)
  obtain rfl := k94_openM hM
  have HCC := Sd.mk hcc
  clear hcl hM hcc hg0
  go_upto_region 26 with (first | ((with_reducible refine gate_ (.store 3 (.tmp 203) (.const (.int .i64 0))) rfl ?_); refine Kd.R_store k94 (w0 := w) w.heap.size rfl rfl 3 (.tmp 203) (.const (.int .i64 0)) rfl 94 (g := gL) (n := 4) (cap := cL) (o' := 2) 1 0 knees ⟨0, 5600⟩ (.int .i64 0) [.int .i64 0] _ (fun _ => True) (fun k => k ≠ gL) rfl rfl rfl rfl (by kernel_rfl) (by intro q hq; simp at hq; rcases hq with rfl; rfl) HL22.out (by decide) (by decide) rfl HCC.out.1 (by decide) (k94_mkM _ _ _ ⟨0, 5600⟩) (fun k hk => ⟨trivial, hk⟩) HB22.out ?_; intro w23 ho hb hg; have HL23 := Sd.mk ho; have HB23 := Sd.mk hb; have BX23 := Sd.mk (blk_grown BX22.out hg (Kd.R_ne HL22.out BX22.out (by decide))); have BL23 := Sd.mk (blk_grown BL22.out hg (Kd.R_ne HL22.out BL22.out (by decide))); have HZ23 := Sd.mk (Kd.R_drop (Kd.R_grown (Kd.R_types HZ22.out HG0.out (by decide)) hg (fun k hk he => hk.2 (by injection he)))); clear ho hb hg))
  clear HCC HG0 hl0 BL22 BX22 HZ22 HL22 HB22
  have hx0 : w23.cell? ⟨b1, 0, none⟩ = some (.slice (some ⟨g0, 0, none⟩) 1 cp) := (blk_cell BX23.out 0).trans rfl
  have hx1 : w23.cell? ⟨b1, 0 + 1, none⟩ = some (.int .i64 10) := (blk_cell BX23.out 1).trans rfl
  have hx2 : w23.cell? ⟨b1, 0 + 2, none⟩ = some (.int .i64 40000000000) := (blk_cell BX23.out 2).trans rfl
  go_wp2_with (first | (go_at_call 47; (refine (Check_x _ cp _ (Kd.R_reads' HZ23.out).2.2).mono ?_); rintro e w24 ⟨rfl, hb⟩; have BL24 := Sd.mk (blk_below BL23.out hb); have HL24 := Sd.mk (Kd.R_below HL23.out hb); have HB24 := Sd.mk (below_then HB23.out HB23.out.size hb); clear hb; have hl0 : w24.cell? ⟨bL, 0, none⟩ = some (.slice (some ⟨gL, 0, none⟩) 4 cL) := (blk_cell BL24.out 0).trans rfl; have hl1 : w24.cell? ⟨bL, 0 + 1, none⟩ = some (.int .i64 100) := (blk_cell BL24.out 1).trans rfl) | (go_at_call 48; (refine (CheckLehr_x _ cL _ (Kd.R_reads' HL24.out).2.2).mono ?_); rintro e w25 ⟨rfl, hb⟩; have HB25 := Sd.mk (below_then HB24.out HB24.out.size hb); clear hb) | (go_at_call 20; (refine (lives_x _).mono ?_); rintro e w26 ⟨rfl, hb⟩; have HB26 := Sd.mk (below_then HB25.out HB25.out.size hb); clear hb))
  go_ret
  exact ⟨rfl, HB26.out⟩
end
end Go.Proofs.YtljfljekcpdpiaaGreat.PB
