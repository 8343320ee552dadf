import Derived.Test.YtkjkokgbhepmoaaH3
import Derived.Shelf.Abstract
import Derived.Deep.DeepCutAuto
set_option linter.unusedVariables false
set_option linter.unusedSimpArgs false
namespace Go.Proofs.Ytkjkokgbhepmoaa.PB
open Go.RowKit Go.Shelf Go.Proofs.YtkjkokgbhepmoaaW.PrintWords Go.Proofs.YtkjkokgbhepmoaaW.PrintLast Go.Proofs.YtkjkokgbhepmoaaW.PrintMore
attribute [local go_sem] Oper.semAt_some
def thick1 (x : S170) (lo hi : Int) : Option (Int × Int) := strength_thickness.f x.f0.f0 x.f0.f1 x.f1.f0 x.f1.f1 x.f2.f0 x.f2.f1 x.f3.f0 x.f3.f1 x.f4.f0 x.f4.f1 lo hi
def thickL (zs : List S170) (lo hi : Int) : Nat → Option (List S27)
  | 0 => some []
  | k + 1 => (thickL zs lo hi k).bind fun l => (thick1 (rd_T170 zs (k : Int)) lo hi).bind fun p => some (l ++ [⟨p.1, p.2⟩])
theorem thickL_some (zs : List S170) (lo hi : Int) : ∀ (n : Nat) (l : List S27), thickL zs lo hi n = some l → ∀ k, k < n → ∃ p, thick1 (rd_T170 zs (k : Int)) lo hi = some p
  | 0, l, h, k, hk => by omega
  | n + 1, l, h, k, hk => by
    simp only [thickL] at h
    obtain ⟨l', h1, h2⟩ := Option.bind_eq_some_iff.mp h
    obtain ⟨p, h3, _⟩ := Option.bind_eq_some_iff.mp h2
    by_cases e : k = n
    · subst e; exact ⟨p, h3⟩
    · exact thickL_some zs lo hi n l' h1 k (by omega)
theorem thickL_len (zs : List S170) (lo hi : Int) : ∀ (n : Nat) (l : List S27), thickL zs lo hi n = some l → l.length = n
  | 0, l, h => by simp [thickL] at h; subst h; rfl
  | n + 1, l, h => by
    simp only [thickL] at h
    obtain ⟨l', h1, h2⟩ := Option.bind_eq_some_iff.mp h
    obtain ⟨p, h3, h4⟩ := Option.bind_eq_some_iff.mp h2
    obtain rfl := Option.some.inj h4
    simp [thickL_len zs lo hi n l' h1]
def x_Thickness.f (l0_0 : List S170) (a0_1 a0_2 a1_0 a1_1 : Int) : Option (List S27 × Int) :=
  if bottleV l0_0 a0_1 a0_2 = 0 then (if spanB a1_0 a1_1 1 100000 = true then (thickL l0_0 a1_0 a1_1 l0_0.length).bind fun l => some (l, 0) else some ([], 1)) else some ([], bottleV l0_0 a0_1 a0_2)
theorem callsDIn_wide_of_wpS {P : Program} {n : Nat} {f : FuncId} {fn : Func} {c : Code} {args : Array Value} {u : FrameMode} {w : World} {R : Ending → FrameMode → World → Prop}
    (hf : P.funcs[f]? = some fn) (hb : fn.body = some c)
    (h : ∀ (c₀ : Frame) (cs : List Frame), c₀.mode = u →
      c.wpS P (bodyPostS P fn c₀ cs R) { tmps := args ++ Array.replicate (fn.ntmps - args.size) undef, defers := [] } (c₀ :: cs) w) :
    CallsDIn Fence.wide n P f args u w R := by
  refine ⟨trivial, fun c₀ cs hu _ => ?_⟩
  let b : Frame := { (default : Frame) with fn := f, kind := .deferred }
  have henter : Frame.enter P f args .deferred =
      b.at { tmps := args ++ Array.replicate (fn.ntmps - args.size) undef, defers := [] } [.code c] := by
    simp [Frame.enter, Frame.at, hf, hb, b]
  obtain ⟨e, a', cs', w', hq, harr⟩ := h c₀ cs hu b [] rfl rfl
  rw [← henter] at harr
  cases e with
  | normal =>
    obtain ⟨hd, u', rfl, v, hr, hR⟩ := hq
    exact ⟨.returned v, u', w', _, hR, comesIn_wide.2 (Steps.trans harr (.one step_end)), rfl, rfl, rfl, hd, fn, hf, hr⟩
  | ret =>
    obtain ⟨hd, u', rfl, v, hr, hR⟩ := hq
    obtain ⟨todo, hs⟩ := harr
    exact ⟨.returned v, u', w', _, hR, comesIn_wide.2 hs, rfl, rfl, rfl, hd, fn, hf, hr⟩
  | panic chain =>
    obtain ⟨hd, u', rfl, hR⟩ := hq
    obtain ⟨todo, hs⟩ := harr
    exact ⟨.panicked chain, u', w', _, hR, comesIn_wide.2 hs, rfl, rfl, rfl, hd, fn, hf⟩
  | exit id => exact hq.elim
  | goto l => exact hq.elim
  | outgrown =>
    obtain ⟨u', hR⟩ := hq
    exact ⟨.outgrown, u', w', b, hR, comesIn_wide.2 (harr.resolve_left (by simp [b])), rfl, rfl, trivial⟩
theorem door139I_fail (n : Nat) (B : Nat) (e x : Int) (older : List PanicEntry) (w : World) (hB : w.heap[B]? = some (.cells #[.int .i64 x] 38 (0, 0))) :
    CallsDIn Fence.wide n Try.prog 139 #[.pointer (some ⟨B, 0, none⟩)] (.panicking ({ v := failV e, recovered := false } :: older)) w fun en u' w' =>
      en = .returned (.tuple #[]) ∧ u' = .panicking ({ v := failV e, recovered := true } :: older) ∧ w' = (w.alloc (.cells #[.int .i64 e] 174)).setCell ⟨B, 0, none⟩ (.int .i64 e) := by
  refine callsDIn_wide_of_wpS Try.func139 rfl fun c₀ cs hu => ?_
  apply wpS_region
  simp [wpOpsS, go_sem, recoverD, hu, Try.ntmps139, Exit.thenS, failV]
  refine (caught_fail B e x w hB).mono ?_
  rintro e1 w1 ⟨rfl, rfl⟩
  simp [bodyPostS, results, Try.results139]
theorem door139I_ok (n : Nat) (B : Nat) (w : World) :
    CallsDIn Fence.wide n Try.prog 139 #[.pointer (some ⟨B, 0, none⟩)] .returning w fun en u' w' => en = .returned (.tuple #[]) ∧ u' = .returning ∧ w' = w := by
  refine callsDIn_wide_of_wpS Try.func139 rfl fun c₀ cs hu => ?_
  apply wpS_region
  simp [wpOpsS, go_sem, recoverD, hu, Try.ntmps139, Exit.thenS]
  refine (caught_nil ⟨B, 0, none⟩ w).mono ?_
  rintro e1 w1 ⟨rfl, rfl⟩
  cases c₀
  simp_all [bodyPostS, results, Try.results139]
theorem leavesInM_fn {P : Program} {n : Nat} {fn : Func} {tmps : Array Value} {R : Ending → World → Prop} {fv : Fn} {cap dargs : Array Value} {ds : List Deferred} {u : FrameMode}
    {w : World} {f : FuncId} {args : Array Value} (hu : u ≠ .run) (hi : (invoke (.fn fv cap) dargs).run P w = .ok (.enter f args) w)
    (h : CallsDIn Fence.wide (n - 1) P f args u w fun
      | .returned _, u', w' => LeavesInM Fence.wide n P fn tmps R ds (settle u') w'
      | .panicked chain, u', w' => LeavesInM Fence.wide n P fn tmps R ds (raised u' chain) w'
      | .outgrown, _, w' => R .outgrown w') :
    LeavesInM Fence.wide n P fn tmps R ({ target := .fn fv cap, args := dargs } :: ds) u w :=
  ⟨hu, .inr ⟨(fun h => nomatch h), fv, cap, f, args, rfl, hi, fun _ _ => trivial, h⟩⟩
theorem stepI_append_cells {F : Fence} {n : Nat} {P : Program} {ops : Array Oper} {o : Oper} {a : Act} {Q : Exit → Act → World → Prop} {K : Act → World → Prop} {w0 W : World} (base : Nat) {G : Prop} (hw : Region.wanted o (yielded ops a.tmps) = true) (s x : Operand) (t e : TypeId) (z : Value) (size bytes : Nat)
    (ho : o.op = .call { callee := .builtin .append, args := #[s, x], argTypes := #[t, t] })
    (ht : P.underlying t = some (.slice e)) (hinfo : (P.info? e).map (fun i => (i.zero, i.size, i.bytes)) = some (some z, size, bytes)) (hz : z.cells.size = size) (hs0 : 0 < size) (hb0 : 0 < bytes)
    (v : Value) (m : Nat) (xs ys : List Value) (hs : a.eval s = v) (hx : a.eval x = .slice (some ⟨W.heap.size, 0, none⟩) 1 1) (hys : ys.length = size) (h1 : ∀ u ∈ ys, u.oneCell' = true)
    (HO : W.ownsRow base e size v m xs) (HB : Below base w0 W) (hbase : base ≤ W.heap.size) (hl : (m + 1) * bytes ≤ 140737488355328)
    (h : ∀ v1 w1, w1.ownsRow base e size v1 (m + 1) (xs ++ ys) → Below base w0 w1 → W.grownBy w1 v.ownBlock → (v1.ownBlock = v.ownBlock ∨ ∃ b, v1.ownBlock = some b ∧ W.heap.size ≤ b) → K (a.put o.dst v1) w1) :
    if Region.wanted o (yielded ops a.tmps) = true then Oper.wpIn F n P o a (W.alloc (.cells ys.toArray e)) K Q else G := by
  obtain ⟨i0, hi, hzz⟩ := Option.map_eq_some_iff.1 hinfo
  simp only [Prod.mk.injEq] at hzz
  obtain ⟨hz0, hz1, hz2⟩ := hzz
  have hlen : m + 1 ≤ 140737488355328 := Nat.le_trans (Nat.le_mul_of_pos_right _ hb0) hl
  rw [if_pos hw]
  obtain ⟨v1, w1, hr, hown, hg, _, hat⟩ := run_append_own_at (P := P) (W.alloc (.cells ys.toArray e)) base t o.type e i0 z size bytes ht hi hz0 hz1 hz2 hz hs0 v m xs (HO.alloc _) ⟨W.heap.size, 0, none⟩ 1 1 ys (by rw [hys]; simp)
    (by simpa using World.news_of_block (cs := ys.toArray) (t := e) (fr := (0, 0)) (heap_alloc_new W (.cells ys.toArray e))) h1 (by simp only [maxLen]; omega) hl (by simp; omega)
  have hK : K (a.put o.dst v1) w1 := by
    refine h v1 w1 hown ((HB.alloc hbase _).grown hg (by simp; omega) (own_base HO)) (World.grownBy.trans (World.grownBy_alloc W _ _) hg) ?_
    rcases hat with hat | hat
    · exact .inl hat
    · exact .inr ⟨_, hat, by simp⟩
  unfold Oper.wpIn
  refine ⟨?_, ?_⟩
  · simp [Oper.about, ho, resolve, Target.leads, Sem.run_pure]
  · rw [Oper.semAt_plain F _ _ (by rw [ho]; intro c hc'; cases hc')]
    simp [execOp, ho, resolve, invoke, builtin, hs, hx, hr, Result.andThen]
    exact hK
structure ThI (A : Option Addr) (c : Nat) (zs : List S170) (f1 f2 lo hi : Int) (w : World) (g B : Nat) (k : Nat) (W : World) (v : Value) (l : List S27) : Prop where
  li : thickL zs lo hi k = some l
  bx : W.heap[w.heap.size]? = some (.cells #[.slice A zs.length c, .int .i64 f1, .int .i64 f2] 92 (0, 0))
  sp : W.heap[w.heap.size + 1]? = some (.cells #[.int .i64 lo, .int .i64 hi] 27 (0, 0))
  sl : W.heap[w.heap.size + 1 + 1]? = some (.cells #[v] 24 (0, 0))
  er : W.heap[w.heap.size + 1 + 1 + 1]? = some (.cells #[.int .i64 0] 38 (0, 0))
  rb : W.heap[g]? = some (.cells #[.slice A zs.length c, .int .i64 f1, .int .i64 f2] 92 (0, 0))
  be : Below w.heap.size w W
  ro : Kd.R k27 27 W (B + 2) (fun _ => True) v l
theorem R_put {W : World} {v : Value} {l : List S27} {B r : Nat} (h : Kd.R k27 27 W B (fun _ => True) v l) (hr : r < B) (o' : Obj) : Kd.R k27 27 (W.putObj r o') B (fun _ => True) v l := by
  refine Kd.R_mono (Kd.R_step (Kd.R_bound h) (fun k hk hlt => ?_)) (fun _ _ => trivial)
  exact World.putObj_heap_other (by have := hk.2.1; omega)
section
variable {A : Option Addr} {c : Nat} {zs : List S170} {f1 f2 lo hi : Int} {w : World} {g B k : Nat} {W : World} {v : Value} {l : List S27}
theorem ThI.alloc (h : ThI A c zs f1 f2 lo hi w g B k W v l) (o : Obj) : ThI A c zs f1 f2 lo hi w g B k (W.alloc o) v l :=
  ⟨h.li, blk_alloc h.bx o, blk_alloc h.sp o, blk_alloc h.sl o, blk_alloc h.er o, blk_alloc h.rb o, below_alloc h.be o, Kd.R_alloc h.ro o⟩
theorem ThI.put (h : ThI A c zs f1 f2 lo hi w g B k W v l) (o : Obj) (h1 : w.heap.size + 4 ≤ g) (h2 : g < B) (h3 : B + 1 < W.heap.size) : ThI A c zs f1 f2 lo hi w g B k (W.putObj (B + 1) o) v l :=
  ⟨h.li, putObj_heap_keep (by omega) h.bx, putObj_heap_keep (by omega) h.sp, putObj_heap_keep (by omega) h.sl, putObj_heap_keep (by omega) h.er, putObj_heap_keep (by omega) h.rb, below_putObj h.be (by omega) h3, R_put h.ro (by omega) o⟩
end
theorem stepI_R_append {F : Fence} {n : Nat} {P : Program} {ops : Array Oper} {o : Oper} {a : Act} {Q : Exit → Act → World → Prop} {K : Act → World → Prop} {α : Type} (d : Kd α) {w0 W : World} (base : Nat) {G : Prop} (hw : Region.wanted o (yielded ops a.tmps) = true) (s x : Operand) (t e : TypeId) (z : Value) (bytes : Nat)
    (ho : o.op = .call { callee := .builtin .append, args := #[s, x], argTypes := #[t, t] })
    (ht : P.underlying t = some (.slice e)) (hinfo : (P.info? e).map (fun i => (i.zero, i.size, i.bytes)) = some (some z, d.sz, bytes)) (hz : z.cells.size = d.sz) (hs0 : 0 < d.sz) (hb0 : 0 < bytes)
    (v : Value) (xs : List α) (p : α) (cs : List Value) (ok okp : Nat → Prop) (hs : a.eval s = v) (hx : a.eval x = .slice (some ⟨W.heap.size, 0, none⟩) 1 1) (hp : d.M W base okp p cs) (hokp : ∀ k, okp k → ok k ∧ some k ≠ v.ownBlock) (hfresh : ∀ k, W.heap.size ≤ k → ok k)
    (HO : d.R e W base ok v xs) (HB : Below base w0 W) (hbase : base ≤ W.heap.size) (hl : (xs.length + 1) * bytes ≤ 140737488355328)
    (h : ∀ v1 w1, d.R e w1 base ok v1 (xs ++ [p]) → Below base w0 w1 → K (a.put o.dst v1) w1) :
    if Region.wanted o (yielded ops a.tmps) = true then Oper.wpIn F n P o a (W.alloc (.cells cs.toArray e)) K Q else G := by
  obtain ⟨h0, inner, hown, hr⟩ := HO
  refine stepI_append_cells base hw s x t e z d.sz bytes ho ht hinfo hz hs0 hb0 v xs.length inner cs hs hx (d.K_len (d.K_of_M hp)) (d.K_one (d.K_of_M hp)) hown HB hbase hl ?_
  intro v1 w1 hown1 hb1 hg1 hat1
  exact h v1 w1 (Kd.R_appended h0 hr hp hokp hfresh hown1 hg1 hat1) hb1
theorem rings_b (v1 v2 v3 : Value) (w : World) :
    Calls Try.prog 142 #[.agg #[v1, v2, v3]] w fun e w' => ∃ g, e = .returned (.func (.func 159) #[] #[.pointer (some ⟨g, 0, none⟩)]) ∧ w.heap.size ≤ g ∧ w'.heap[g]? = some (.cells #[v1, v2, v3] 92 (0, 0)) ∧ Below w.heap.size w w' :=
  (callsIn_wide (n := 9)).1 ((rings_callsI Fence.wide 9 trivial rfl v1 v2 v3 w).mono fun e w' he => ⟨w.heap.size, he.1, Nat.le_refl _, by rw [he.2]; exact blk_new _ _, by rw [he.2]; exact below_alloc (Below.refl _ _) _⟩)
theorem Below5 {B : Nat} {w w1 : World} {g : Nat} {o : Obj} (hb : Below B w w1) (h : w.heap[g]? = some o) (hg : g < B) : w1.heap[g]? = some o := (hb.block g hg).trans h
theorem bottle_len {zs : List S170} {f1 f2 : Int} (h : bottleV zs f1 f2 = 0) : zs.length ≤ 24 := by
  unfold bottleV at h
  split at h
  · cases h
  · omega
theorem k27_E : k27.E = [] := rfl
theorem bottle_ok (A : Option Addr) (c : Nat) (zs : List S170) (f1 f2 : Int) (w : World) (hr : Kd.C k170 w A zs.length zs) (h : bottleV zs f1 f2 = 0) :
    Calls Try.prog 140 #[.agg #[.slice A zs.length c, .int .i64 f1, .int .i64 f2]] w fun en w' => en = .returned (.tuple #[]) ∧ Below w.heap.size w w' :=
  (bottle_calls A c zs f1 f2 w hr).mono fun e w' he => ⟨by rw [he.1, h]; rfl, he.2⟩
theorem bottle_no (A : Option Addr) (c : Nat) (zs : List S170) (f1 f2 : Int) (w : World) (hr : Kd.C k170 w A zs.length zs) (h : bottleV zs f1 f2 ≠ 0) :
    Calls Try.prog 140 #[.agg #[.slice A zs.length c, .int .i64 f1, .int .i64 f2]] w fun en w' => en = .panicked (failC (bottleV zs f1 f2)) ∧ Below w.heap.size w w' :=
  (bottle_calls A c zs f1 f2 w hr).mono fun e w' he => ⟨by rw [he.1, endF_ne h], he.2⟩
theorem run_var24 (w : World) (g : Nat) (v : Value) (h : w.heap[g]? = some (.cells #[v] 24 (0, 0))) : (loadVar 24 ⟨g, 0, none⟩).run Try.prog w = .ok v w := by
  have hc : w.cell? ⟨g, 0, none⟩ = some v := (blk_cell h 0).trans rfl
  simp [loadVar, go_sem, hc]
set_option maxHeartbeats 4000000 in
set_option maxRecDepth 100000 in
theorem x_Thickness.calls (A : Option Addr) (c : Nat) (zs : List S170) (f1 f2 lo hi : Int) (l2 : List S27) (r2 : Int) (w : World) (hr : Kd.C k170 w A zs.length zs) (hc : zs.length ≤ c) (h : x_Thickness.f zs f1 f2 lo hi = some (l2, r2)) :
    Calls Try.prog 85 #[.agg #[.slice A zs.length c, .int .i64 f1, .int .i64 f2], .agg #[.int .i64 lo, .int .i64 hi]] w fun e w' => ∃ v0_ : Value, e = .returned (.tuple #[v0_, .int .i64 r2]) ∧ Kd.R k27 27 w' w.heap.size (fun _ => True) v0_ l2 ∧ Below w.heap.size w w' := by
  have hmf := run_makeFunc_
  obtain ⟨b1, b2, b3, b4, hbl, hsz⟩ := blk_four w (.cells #[.slice A zs.length c, .int .i64 f1, .int .i64 f2] 92) (.cells #[.int .i64 lo, .int .i64 hi] 27) (.cells #[.slice none 0 0] 24) (.cells #[.int .i64 0] 38)
  have BX := Sd.mk b1
  have BS := Sd.mk b2
  have BL := Sd.mk b3
  have BE := Sd.mk b4
  have HSZ := Sd.mk hsz
  have HB := Sd.mk hbl
  have HR := Sd.mk (Kd.C_below hr hbl)
  have HR0 := Sd.mk hr
  have hb0 : ((((w.alloc (.cells #[.slice A zs.length c, .int .i64 f1, .int .i64 f2] 92)).alloc (.cells #[.int .i64 lo, .int .i64 hi] 27)).alloc (.cells #[.slice none 0 0] 24)).alloc (.cells #[.int .i64 0] 38)).cell? ⟨w.heap.size, 0, none⟩ = some (.slice A zs.length c) := (blk_cell b1 0).trans rfl
  have hb1 : ((((w.alloc (.cells #[.slice A zs.length c, .int .i64 f1, .int .i64 f2] 92)).alloc (.cells #[.int .i64 lo, .int .i64 hi] 27)).alloc (.cells #[.slice none 0 0] 24)).alloc (.cells #[.int .i64 0] 38)).cell? ⟨w.heap.size, 0 + 1, none⟩ = some (.int .i64 f1) := (blk_cell b1 1).trans rfl
  have hb2 : ((((w.alloc (.cells #[.slice A zs.length c, .int .i64 f1, .int .i64 f2] 92)).alloc (.cells #[.int .i64 lo, .int .i64 hi] 27)).alloc (.cells #[.slice none 0 0] 24)).alloc (.cells #[.int .i64 0] 38)).cell? ⟨w.heap.size, 0 + 2, none⟩ = some (.int .i64 f2) := (blk_cell b1 2).trans rfl
  clear b1 b2 b3 b4 hbl hsz hr
  unfold x_Thickness.f at h
  by_cases h0 : bottleV zs f1 f2 = 0
  · rw [if_pos h0] at h
    have H0 := Sd.mk h0
    clear h0
    cases hi' : spanB lo hi 1 100000 with
    | true =>
      rw [if_pos hi'] at h
      obtain ⟨l, hl, h⟩ := Option.bind_eq_some_iff.mp h
      simp only [Option.some.injEq, Prod.mk.injEq] at h
      obtain ⟨rfl, rfl⟩ := h
      have HI := Sd.mk hi'
      have HL := Sd.mk hl
      clear hi' hl
      refine (callsIn_wide (n := 9)).1 (callsIn_of_wp_marks Try.func85 rfl trivial ?_ rfl)
      simp only [Try.ntmps85, List.size_toArray, List.length_cons, List.length_nil, Nat.reduceAdd, Nat.reduceSub, Array.replicate_succ, Array.replicate_zero, List.push_toArray, List.append_toArray, List.nil_append, List.cons_append]
      gi_wp2_with (first | (refine ⟨trivial, ?_⟩; gi_at_call 140; refine (callsIn_wide.2 (bottle_ok A c zs f1 f2 _ HR.out H0.out)).mono ?_; rintro e w1 ⟨rfl, hw1⟩; have BX1 := Sd.mk (blk_below BX.out hw1); have BS1 := Sd.mk (blk_below BS.out hw1); have BL1 := Sd.mk (blk_below BL.out hw1); have BE1 := Sd.mk (blk_below BE.out hw1); have HB1 := Sd.mk (below_then HB.out (by have := HSZ.out; omega) hw1); have HSZ1 := Sd.mk (show w.heap.size + 4 ≤ w1.heap.size from Nat.le_trans (by have := HSZ.out; omega) hw1.size); clear hw1; have ht0 : w1.cell? ⟨w.heap.size + 1, 0, none⟩ = some (.int .i64 lo) := (blk_cell BS1.out 0).trans rfl; have ht1 : w1.cell? ⟨w.heap.size + 1, 0 + 1, none⟩ = some (.int .i64 hi) := (blk_cell BS1.out 1).trans rfl; have hb0 : w1.cell? ⟨w.heap.size, 0, none⟩ = some (.slice A zs.length c) := (blk_cell BX1.out 0).trans rfl; have hb1 : w1.cell? ⟨w.heap.size, 0 + 1, none⟩ = some (.int .i64 f1) := (blk_cell BX1.out 1).trans rfl; have hb2 : w1.cell? ⟨w.heap.size, 0 + 2, none⟩ = some (.int .i64 f2) := (blk_cell BX1.out 2).trans rfl) | (refine ⟨trivial, ?_⟩; gi_at_call 141; refine (callsIn_wide.2 (sspan_f _ _ _ _ _)).mono ?_; rw [HI.out]; rintro e w2 ⟨rfl, hw2⟩; have BX2 := BX1; have BS2 := BS1; clear BX1 BS1; have BX1 := Sd.mk (blk_below BX2.out hw2); have BS1 := Sd.mk (blk_below BS2.out hw2); have BL2 := Sd.mk (blk_below BL1.out hw2); have BE2 := Sd.mk (blk_below BE1.out hw2); have HB2 := Sd.mk (below_then HB1.out HB1.out.size hw2); have HSZ2 := Sd.mk (show w.heap.size + 4 ≤ w2.heap.size from Nat.le_trans HSZ1.out hw2.size); clear BX2 BS2 hw2; have hb0 : w2.cell? ⟨w.heap.size, 0, none⟩ = some (.slice A zs.length c) := (blk_cell BX1.out 0).trans rfl; have hb1 : w2.cell? ⟨w.heap.size, 0 + 1, none⟩ = some (.int .i64 f1) := (blk_cell BX1.out 1).trans rfl; have hb2 : w2.cell? ⟨w.heap.size, 0 + 2, none⟩ = some (.int .i64 f2) := (blk_cell BX1.out 2).trans rfl) | (refine ⟨trivial, ?_⟩; gi_at_call 91; (with_reducible refine (callsIn_wide.2 (demand_ok _ _)).mono ?_); rintro e w' ⟨rfl, rfl⟩) | (refine ⟨trivial, ?_⟩; gi_at_call 142; (with_reducible refine (callsIn_wide.2 (rings_b _ _ _ _)).mono ?_); rintro e w3 ⟨g, rfl, hg, hbk, hw3⟩; have RB3 := Sd.mk hbk; have HG := Sd.mk (show w.heap.size + 4 ≤ g from Nat.le_trans (by have := HSZ.out; have := BE2.out; have := HSZ2.out; omega) hg); have BX3 := Sd.mk (blk_below BX1.out hw3); have BS3 := Sd.mk (blk_below BS1.out hw3); have BL3 := Sd.mk (blk_below BL2.out hw3); have BE3 := Sd.mk (blk_below BE2.out hw3); have HB3 := Sd.mk (below_then HB2.out HB2.out.size hw3); have HG3 := Sd.mk (show g < w3.heap.size from blk_lt hbk); clear hbk hw3 hg))
      clear ht0 ht1 hb0 hb1 hb2
      have hll := thickL_some zs lo hi zs.length _ HL.out
      have HN := Sd.mk (bottle_len H0.out)
      refine wpIn_rangeFuncP (N := zs.length) (encs := fun k => #[.int .i64 (k : Int), ringV (rd_T170 zs k)]) rfl (by omega) (gf := 159) (lb := #[.pointer (some ⟨g, 0, none⟩)]) rfl trivial (enters_of Try.func159 (by kernel_rfl) rfl) (fun _ => rfl)
        (fun k W => ∃ v l, ThI A c zs f1 f2 lo hi w g w3.heap.size k W v l) (fun _ _ => False) (fun k W o ⟨v, l, h⟩ => ⟨v, l, h.alloc o⟩) (fun k W o r hl ⟨v, l, h⟩ => ⟨v, l, h.put o HG.out HG3.out (Array.getElem?_eq_some_iff.1 hl).1⟩) ⟨_, _, rfl, BX3.out, BS3.out, BL3.out, BE3.out, RB3.out, HB3.out, Kd.R_nil _ _ _ _ _⟩ ?seq ?round ?fn ?done ?panic
      case seq =>
        intro l1 J Jp W hJa hJI hY h0
        obtain ⟨v, l, hi0⟩ := hJI _ _ h0
        exact rings1_in Fence.wide (9 - 1) trivial rfl (by omega) l1 g A c _ _ zs J Jp W hi0.rb hJa (fun k W' h => by obtain ⟨v, l, h⟩ := hJI _ _ h; exact Kd.C_below HR0.out h.be) hY h0
      case round =>
        clear BX3 BS3 BL3 BE3 RB3 HB3 BX1 BS1 BL1 BE1 HB1 BL2 BE2 HB2 HB BX BS BL BE
        intro l k W hW _ hk hI st hst
        obtain ⟨v, l', hI⟩ := hI
        obtain ⟨p, hp⟩ := hll k hk
        generalize hx : rd_T170 zs (k : Int) = x at hp ⊢
        have HI1 := Sd.mk hI
        have HW := Sd.mk hW
        have HK := Sd.mk hk
        have HX := Sd.mk hx
        have HP := Sd.mk hp
        have HL1 := HL
        clear HL
        have HL := Sd.mk (thickL_len _ _ _ _ _ hI.li)
        clear hI hW hk hp hll
        clear hx
        unfold ringV
        simp only [List.zip_cons_cons, List.zip_nil_right, List.foldl_cons, List.foldl_nil]
        gi_wp2
        refine hst _ _ (by simp) (fun j h1 h2 => Below.heap_alloc W _ j (by have := HW.out; omega)) ?_
        clear hst
        intro o
        have hn2 : 1 ≤ 9 - 1 - 1 := by omega
        have CK : Sd (ThI A c zs f1 f2 lo hi w g w3.heap.size k ((W.alloc (.cells #[.int .i64 x.f0.f0, .int .i64 x.f0.f1, .int .i64 x.f1.f0, .int .i64 x.f1.f1, .int .i64 x.f2.f0, .int .i64 x.f2.f1, .int .i64 x.f3.f0, .int .i64 x.f3.f1, .int .i64 x.f4.f0, .int .i64 x.f4.f1] 170)).putObj (w3.heap.size + 1) o) v l') := ⟨(HI1.out.alloc _).put o HG.out HG3.out (by have := HW.out; simp; omega)⟩
        have RB : Sd (((W.alloc (.cells #[.int .i64 x.f0.f0, .int .i64 x.f0.f1, .int .i64 x.f1.f0, .int .i64 x.f1.f1, .int .i64 x.f2.f0, .int .i64 x.f2.f1, .int .i64 x.f3.f0, .int .i64 x.f3.f1, .int .i64 x.f4.f0, .int .i64 x.f4.f1] 170)).putObj (w3.heap.size + 1) o).heap[W.heap.size]? = some (.cells #[.int .i64 x.f0.f0, .int .i64 x.f0.f1, .int .i64 x.f1.f0, .int .i64 x.f1.f1, .int .i64 x.f2.f0, .int .i64 x.f2.f1, .int .i64 x.f3.f0, .int .i64 x.f3.f1, .int .i64 x.f4.f0, .int .i64 x.f4.f1] 170 (0, 0))) := ⟨putObj_heap_keep (by have := HW.out; omega) (blk_new _ _)⟩
        have WS : Sd (((W.alloc (.cells #[.int .i64 x.f0.f0, .int .i64 x.f0.f1, .int .i64 x.f1.f0, .int .i64 x.f1.f1, .int .i64 x.f2.f0, .int .i64 x.f2.f1, .int .i64 x.f3.f0, .int .i64 x.f3.f1, .int .i64 x.f4.f0, .int .i64 x.f4.f1] 170)).putObj (w3.heap.size + 1) o).heap.size = W.heap.size + 1) := ⟨by simp⟩
        generalize (W.alloc (.cells #[.int .i64 x.f0.f0, .int .i64 x.f0.f1, .int .i64 x.f1.f0, .int .i64 x.f1.f1, .int .i64 x.f2.f0, .int .i64 x.f2.f1, .int .i64 x.f3.f0, .int .i64 x.f3.f1, .int .i64 x.f4.f0, .int .i64 x.f4.f1] 170)).putObj (w3.heap.size + 1) o = Wb at CK RB WS ⊢
        have hmx : Try.prog.follows .mixedOrders = true := by kernel_rfl
        gi_wp2
        refine wpIn_region_any hmx ?_
        change wpAnyIn _ _ _ _ _ _ _ _ _ (World.drew _)
        have RBd : Sd (Wb.drew.heap[W.heap.size]? = some (.cells #[.int .i64 x.f0.f0, .int .i64 x.f0.f1, .int .i64 x.f1.f0, .int .i64 x.f1.f1, .int .i64 x.f2.f0, .int .i64 x.f2.f1, .int .i64 x.f3.f0, .int .i64 x.f3.f1, .int .i64 x.f4.f0, .int .i64 x.f4.f1] 170 (0, 0))) := ⟨RB.out⟩
        have SP : Sd (Wb.drew.heap[w.heap.size + 1]? = some (.cells #[.int .i64 lo, .int .i64 hi] 27 (0, 0))) := ⟨CK.out.sp⟩
        have SL : Sd (Wb.drew.heap[w.heap.size + 1 + 1]? = some (.cells #[v] 24 (0, 0))) := ⟨CK.out.sl⟩
        have RO : Sd (Kd.R k27 27 Wb.drew (w3.heap.size + 2) (fun _ => True) v l') := ⟨Kd.R_drew CK.out.ro⟩
        have HD2 : Sd (w3.heap.size + 2 ≤ Wb.drew.heap.size) := ⟨by have := HW.out; have := WS.out; show w3.heap.size + 2 ≤ Wb.heap.size; omega⟩
        have BD : Sd (Below (w3.heap.size + 2) Wb Wb.drew) := ⟨below_drew (Below.refl _ _)⟩
        have fin : ∀ (a' : Act) (w5 : World) (v1 : Value), Kd.R k27 27 w5 (w3.heap.size + 2) (fun _ => True) v1 (l' ++ [⟨p.1, p.2⟩]) → Below (w3.heap.size + 2) Wb.drew w5 → bodyPostP w3.heap.size (fun k W => ∃ v l, ThI A c zs f1 f2 lo hi w g w3.heap.size k W v l) (fun _ _ => False) (k + 1) Wb .normal a' (w5.setCell ⟨w.heap.size + 1 + 1, 0, none⟩ v1) := by
          intro a' w5 v1 hr5 hb5'
          have hb5 : Below (w3.heap.size + 2) Wb w5 := BD.out.trans hb5'
          have hg1 := HG.out
          have hg2 := HG3.out
          refine ⟨by simpa using hb5.size, fun j h1 h2 => (Below.heap_setCell _ _ _ j (by simp; omega)).trans (hb5.block j (by omega)), v1, l' ++ [⟨p.1, p.2⟩], ?_⟩
          have hp := HP.out
          exact ⟨by simp only [thickL, CK.out.li, HX.out]; rw [show thick1 x lo hi = some p from hp]; rfl, blk_far (Below5 hb5 CK.out.bx (by omega)) (p := ⟨w.heap.size + 1 + 1, 0, none⟩) (by simp; omega) _, blk_far (Below5 hb5 CK.out.sp (by omega)) (p := ⟨w.heap.size + 1 + 1, 0, none⟩) (by simp) _, blk_put (Below5 hb5 CK.out.sl (by omega)) 0 _ rfl, blk_far (Below5 hb5 CK.out.er (by omega)) (p := ⟨w.heap.size + 1 + 1, 0, none⟩) (by simp) _, blk_far (Below5 hb5 CK.out.rb (by omega)) (p := ⟨w.heap.size + 1 + 1, 0, none⟩) (by simp; omega) _, below_set (CK.out.be.trans (hb5.mono (by omega))) (by omega), Kd.R_set hr5 (Below5 hb5 CK.out.sl (by omega)) (by simp [k27_E]) 0 _⟩
        generalize Wb.drew = Wd at RBd SP SL RO HD2 BD fin ⊢
        clear RB
        have RB := RBd
        clear RBd
        have g0 : Wd.cell? ⟨W.heap.size, 0, none⟩ = some (.int .i64 x.f0.f0) := (blk_cell RB.out 0).trans rfl
        have g1 : Wd.cell? ⟨W.heap.size, 0 + 1, none⟩ = some (.int .i64 x.f0.f1) := (blk_cell RB.out 1).trans rfl
        have g2 : Wd.cell? ⟨W.heap.size, 0 + 2, none⟩ = some (.int .i64 x.f1.f0) := (blk_cell RB.out 2).trans rfl
        have g3 : Wd.cell? ⟨W.heap.size, 0 + 3, none⟩ = some (.int .i64 x.f1.f1) := (blk_cell RB.out 3).trans rfl
        have g4 : Wd.cell? ⟨W.heap.size, 0 + 4, none⟩ = some (.int .i64 x.f2.f0) := (blk_cell RB.out 4).trans rfl
        have g5 : Wd.cell? ⟨W.heap.size, 0 + 5, none⟩ = some (.int .i64 x.f2.f1) := (blk_cell RB.out 5).trans rfl
        have g6 : Wd.cell? ⟨W.heap.size, 0 + 6, none⟩ = some (.int .i64 x.f3.f0) := (blk_cell RB.out 6).trans rfl
        have g7 : Wd.cell? ⟨W.heap.size, 0 + 7, none⟩ = some (.int .i64 x.f3.f1) := (blk_cell RB.out 7).trans rfl
        have g8 : Wd.cell? ⟨W.heap.size, 0 + 8, none⟩ = some (.int .i64 x.f4.f0) := (blk_cell RB.out 8).trans rfl
        have g9 : Wd.cell? ⟨W.heap.size, 0 + 9, none⟩ = some (.int .i64 x.f4.f1) := (blk_cell RB.out 9).trans rfl
        have gt0 : Wd.cell? ⟨w.heap.size + 1, 0, none⟩ = some (.int .i64 lo) := (blk_cell SP.out 0).trans rfl
        have gt1 : Wd.cell? ⟨w.heap.size + 1, 0 + 1, none⟩ = some (.int .i64 hi) := (blk_cell SP.out 1).trans rfl
        have gv : Wd.cell? ⟨w.heap.size + 1 + 1, 0, none⟩ = some v := (blk_cell SL.out 0).trans rfl
        refine wpAnyIn_ready (rs := [0, 1, 2]) (by kernel_rfl) (by simp) ?_
        refine AllReadyIn.cons rfl (fun K hK => ?_) ?_
        · go_simp
          refine hK _ _ ?_
          clear hK K
          refine wpAnyIn_ready (rs := [1, 2]) (by kernel_rfl) (by simp) ?_
          refine AllReadyIn.cons rfl (fun K hK => ?_) ?_
          · go_simp
            refine hK _ _ ?_
            clear hK K
            refine wpAnyIn_ready (rs := [2]) (by kernel_rfl) (by simp) ?_
            refine AllReadyIn.cons rfl (fun K hK => ?_) ?_
            · go_simp
              refine hK _ _ ?_
              clear hK K
              refine wpAnyIn_ready (rs := [3]) (by kernel_rfl) (by simp) ?_
              refine AllReadyIn.cons rfl (fun K hK => ?_) ?_
              · go_simp
                gi_wp2_with (refine ⟨trivial, ?_⟩; gi_at_call 143; refine (CallsIn.inRound l (callsIn_wide.2 (strength_thickness.calls _ _ _ _ _ _ _ _ _ _ _ _ p.1 p.2 _ HP.out))).mono ?_; rintro e w4 ⟨rfl, hw4⟩; have BW4 := Sd.mk (show Below (w3.heap.size + 2) Wd w4 from hw4.mono HD2.out); have SZ4 := Sd.mk (show w3.heap.size + 2 ≤ w4.heap.size from Nat.le_trans HD2.out hw4.size); have RO4 := Sd.mk (Kd.R_below RO.out hw4); have SL4 := Sd.mk (blk_below SL.out hw4); clear hw4; have gv4 : w4.cell? ⟨w.heap.size + 1 + 1, 0, none⟩ = some v := (blk_cell SL4.out 0).trans rfl; have gv5 : (w4.alloc (.cells #[.int .i64 p.1, .int .i64 p.2] 27)).cell? ⟨w.heap.size + 1 + 1, 0, none⟩ = some v := (blk_cell (blk_alloc SL4.out _) 0).trans rfl)
                refine wpAnyIn_ready (rs := [4]) (by kernel_rfl) (by simp) ?_
                refine AllReadyIn.cons rfl (fun K hK => ?_) ?_
                · go_simp
                  refine hK _ _ ?_
                  clear hK K
                  refine wpAnyIn_ready (rs := [5]) (by kernel_rfl) (by simp) ?_
                  refine AllReadyIn.cons rfl (fun K hK => ?_) ?_
                  · refine stepI_R_append k27 (w0 := Wd) (W := w4) (w3.heap.size + 2) (by go_simp) _ _ 24 27 (.agg #[.int .i64 0, .int .i64 0]) 16 rfl Try.underlying24 info27 rfl (by decide) (by decide) v l' ⟨p.1, p.2⟩ [.int .i64 p.1, .int .i64 p.2] (fun _ => True) (fun _ => False) rfl rfl (k27_mkM _ _ _ _) (fun _ h => h.elim) (fun _ _ => trivial) RO4.out BW4.out SZ4.out (by rw [HL.out]; have := HN.out; have := HK.out; omega) ?_
                    intro v1 w5 r5 b5
                    obtain ⟨As, cs5, hv5⟩ := Kd.R_slice r5
                    rw [List.length_append, List.length_singleton] at hv5
                    subst hv5
                    have R5 := Sd.mk r5
                    have B5 := Sd.mk b5
                    clear r5 b5
                    have gs : w5.cell? ⟨w.heap.size + 1 + 1, 0, none⟩ = some v := (blk_cell (Below5 B5.out SL.out (by have := HG.out; have := HG3.out; omega)) 0).trans rfl
                    have gs' := blk_frozen (Below5 B5.out SL.out (by have := HG.out; have := HG3.out; omega)) 0
                    refine hK _ _ ?_
                    clear hK K
                    refine wpAnyIn_ready (rs := [6]) (by kernel_rfl) (by simp) ?_
                    refine AllReadyIn.cons rfl (fun K hK => ?_) ?_
                    · go_simp
                      refine hK _ _ ?_
                      clear hK K
                      refine wpAnyIn_done (by kernel_rfl) ?_ _
                      exact fin { tmps := #[], defers := [] } _ _ R5.out B5.out
                    exact AllReadyIn.nil
                  exact AllReadyIn.nil
                exact AllReadyIn.nil
              exact AllReadyIn.nil
            exact AllReadyIn.nil
          refine AllReadyIn.cons rfl (fun K hK => ?_) ?_
          · go_simp
            refine hK _ _ ?_
            clear hK K
            refine wpAnyIn_ready (rs := [1]) (by kernel_rfl) (by simp) ?_
            refine AllReadyIn.cons rfl (fun K hK => ?_) ?_
            · go_simp
              refine hK _ _ ?_
              clear hK K
              refine wpAnyIn_ready (rs := [3]) (by kernel_rfl) (by simp) ?_
              refine AllReadyIn.cons rfl (fun K hK => ?_) ?_
              · go_simp
                gi_wp2_with (refine ⟨trivial, ?_⟩; gi_at_call 143; refine (CallsIn.inRound l (callsIn_wide.2 (strength_thickness.calls _ _ _ _ _ _ _ _ _ _ _ _ p.1 p.2 _ HP.out))).mono ?_; rintro e w4 ⟨rfl, hw4⟩; have BW4 := Sd.mk (show Below (w3.heap.size + 2) Wd w4 from hw4.mono HD2.out); have SZ4 := Sd.mk (show w3.heap.size + 2 ≤ w4.heap.size from Nat.le_trans HD2.out hw4.size); have RO4 := Sd.mk (Kd.R_below RO.out hw4); have SL4 := Sd.mk (blk_below SL.out hw4); clear hw4; have gv4 : w4.cell? ⟨w.heap.size + 1 + 1, 0, none⟩ = some v := (blk_cell SL4.out 0).trans rfl; have gv5 : (w4.alloc (.cells #[.int .i64 p.1, .int .i64 p.2] 27)).cell? ⟨w.heap.size + 1 + 1, 0, none⟩ = some v := (blk_cell (blk_alloc SL4.out _) 0).trans rfl)
                refine wpAnyIn_ready (rs := [4]) (by kernel_rfl) (by simp) ?_
                refine AllReadyIn.cons rfl (fun K hK => ?_) ?_
                · go_simp
                  refine hK _ _ ?_
                  clear hK K
                  refine wpAnyIn_ready (rs := [5]) (by kernel_rfl) (by simp) ?_
                  refine AllReadyIn.cons rfl (fun K hK => ?_) ?_
                  · refine stepI_R_append k27 (w0 := Wd) (W := w4) (w3.heap.size + 2) (by go_simp) _ _ 24 27 (.agg #[.int .i64 0, .int .i64 0]) 16 rfl Try.underlying24 info27 rfl (by decide) (by decide) v l' ⟨p.1, p.2⟩ [.int .i64 p.1, .int .i64 p.2] (fun _ => True) (fun _ => False) rfl rfl (k27_mkM _ _ _ _) (fun _ h => h.elim) (fun _ _ => trivial) RO4.out BW4.out SZ4.out (by rw [HL.out]; have := HN.out; have := HK.out; omega) ?_
                    intro v1 w5 r5 b5
                    obtain ⟨As, cs5, hv5⟩ := Kd.R_slice r5
                    rw [List.length_append, List.length_singleton] at hv5
                    subst hv5
                    have R5 := Sd.mk r5
                    have B5 := Sd.mk b5
                    clear r5 b5
                    have gs : w5.cell? ⟨w.heap.size + 1 + 1, 0, none⟩ = some v := (blk_cell (Below5 B5.out SL.out (by have := HG.out; have := HG3.out; omega)) 0).trans rfl
                    have gs' := blk_frozen (Below5 B5.out SL.out (by have := HG.out; have := HG3.out; omega)) 0
                    refine hK _ _ ?_
                    clear hK K
                    refine wpAnyIn_ready (rs := [6]) (by kernel_rfl) (by simp) ?_
                    refine AllReadyIn.cons rfl (fun K hK => ?_) ?_
                    · go_simp
                      refine hK _ _ ?_
                      clear hK K
                      refine wpAnyIn_done (by kernel_rfl) ?_ _
                      exact fin { tmps := #[], defers := [] } _ _ R5.out B5.out
                    exact AllReadyIn.nil
                  exact AllReadyIn.nil
                exact AllReadyIn.nil
              exact AllReadyIn.nil
            exact AllReadyIn.nil
          exact AllReadyIn.nil
        refine AllReadyIn.cons rfl (fun K hK => ?_) ?_
        · go_simp
          refine hK _ _ ?_
          clear hK K
          refine wpAnyIn_ready (rs := [0, 2]) (by kernel_rfl) (by simp) ?_
          refine AllReadyIn.cons rfl (fun K hK => ?_) ?_
          · go_simp
            refine hK _ _ ?_
            clear hK K
            refine wpAnyIn_ready (rs := [2]) (by kernel_rfl) (by simp) ?_
            refine AllReadyIn.cons rfl (fun K hK => ?_) ?_
            · go_simp
              refine hK _ _ ?_
              clear hK K
              refine wpAnyIn_ready (rs := [3]) (by kernel_rfl) (by simp) ?_
              refine AllReadyIn.cons rfl (fun K hK => ?_) ?_
              · go_simp
                gi_wp2_with (refine ⟨trivial, ?_⟩; gi_at_call 143; refine (CallsIn.inRound l (callsIn_wide.2 (strength_thickness.calls _ _ _ _ _ _ _ _ _ _ _ _ p.1 p.2 _ HP.out))).mono ?_; rintro e w4 ⟨rfl, hw4⟩; have BW4 := Sd.mk (show Below (w3.heap.size + 2) Wd w4 from hw4.mono HD2.out); have SZ4 := Sd.mk (show w3.heap.size + 2 ≤ w4.heap.size from Nat.le_trans HD2.out hw4.size); have RO4 := Sd.mk (Kd.R_below RO.out hw4); have SL4 := Sd.mk (blk_below SL.out hw4); clear hw4; have gv4 : w4.cell? ⟨w.heap.size + 1 + 1, 0, none⟩ = some v := (blk_cell SL4.out 0).trans rfl; have gv5 : (w4.alloc (.cells #[.int .i64 p.1, .int .i64 p.2] 27)).cell? ⟨w.heap.size + 1 + 1, 0, none⟩ = some v := (blk_cell (blk_alloc SL4.out _) 0).trans rfl)
                refine wpAnyIn_ready (rs := [4]) (by kernel_rfl) (by simp) ?_
                refine AllReadyIn.cons rfl (fun K hK => ?_) ?_
                · go_simp
                  refine hK _ _ ?_
                  clear hK K
                  refine wpAnyIn_ready (rs := [5]) (by kernel_rfl) (by simp) ?_
                  refine AllReadyIn.cons rfl (fun K hK => ?_) ?_
                  · refine stepI_R_append k27 (w0 := Wd) (W := w4) (w3.heap.size + 2) (by go_simp) _ _ 24 27 (.agg #[.int .i64 0, .int .i64 0]) 16 rfl Try.underlying24 info27 rfl (by decide) (by decide) v l' ⟨p.1, p.2⟩ [.int .i64 p.1, .int .i64 p.2] (fun _ => True) (fun _ => False) rfl rfl (k27_mkM _ _ _ _) (fun _ h => h.elim) (fun _ _ => trivial) RO4.out BW4.out SZ4.out (by rw [HL.out]; have := HN.out; have := HK.out; omega) ?_
                    intro v1 w5 r5 b5
                    obtain ⟨As, cs5, hv5⟩ := Kd.R_slice r5
                    rw [List.length_append, List.length_singleton] at hv5
                    subst hv5
                    have R5 := Sd.mk r5
                    have B5 := Sd.mk b5
                    clear r5 b5
                    have gs : w5.cell? ⟨w.heap.size + 1 + 1, 0, none⟩ = some v := (blk_cell (Below5 B5.out SL.out (by have := HG.out; have := HG3.out; omega)) 0).trans rfl
                    have gs' := blk_frozen (Below5 B5.out SL.out (by have := HG.out; have := HG3.out; omega)) 0
                    refine hK _ _ ?_
                    clear hK K
                    refine wpAnyIn_ready (rs := [6]) (by kernel_rfl) (by simp) ?_
                    refine AllReadyIn.cons rfl (fun K hK => ?_) ?_
                    · go_simp
                      refine hK _ _ ?_
                      clear hK K
                      refine wpAnyIn_done (by kernel_rfl) ?_ _
                      exact fin { tmps := #[], defers := [] } _ _ R5.out B5.out
                    exact AllReadyIn.nil
                  exact AllReadyIn.nil
                exact AllReadyIn.nil
              exact AllReadyIn.nil
            exact AllReadyIn.nil
          refine AllReadyIn.cons rfl (fun K hK => ?_) ?_
          · go_simp
            refine hK _ _ ?_
            clear hK K
            refine wpAnyIn_ready (rs := [0, 3]) (by kernel_rfl) (by simp) ?_
            refine AllReadyIn.cons rfl (fun K hK => ?_) ?_
            · go_simp
              refine hK _ _ ?_
              clear hK K
              refine wpAnyIn_ready (rs := [3]) (by kernel_rfl) (by simp) ?_
              refine AllReadyIn.cons rfl (fun K hK => ?_) ?_
              · go_simp
                gi_wp2_with (refine ⟨trivial, ?_⟩; gi_at_call 143; refine (CallsIn.inRound l (callsIn_wide.2 (strength_thickness.calls _ _ _ _ _ _ _ _ _ _ _ _ p.1 p.2 _ HP.out))).mono ?_; rintro e w4 ⟨rfl, hw4⟩; have BW4 := Sd.mk (show Below (w3.heap.size + 2) Wd w4 from hw4.mono HD2.out); have SZ4 := Sd.mk (show w3.heap.size + 2 ≤ w4.heap.size from Nat.le_trans HD2.out hw4.size); have RO4 := Sd.mk (Kd.R_below RO.out hw4); have SL4 := Sd.mk (blk_below SL.out hw4); clear hw4; have gv4 : w4.cell? ⟨w.heap.size + 1 + 1, 0, none⟩ = some v := (blk_cell SL4.out 0).trans rfl; have gv5 : (w4.alloc (.cells #[.int .i64 p.1, .int .i64 p.2] 27)).cell? ⟨w.heap.size + 1 + 1, 0, none⟩ = some v := (blk_cell (blk_alloc SL4.out _) 0).trans rfl)
                refine wpAnyIn_ready (rs := [4]) (by kernel_rfl) (by simp) ?_
                refine AllReadyIn.cons rfl (fun K hK => ?_) ?_
                · go_simp
                  refine hK _ _ ?_
                  clear hK K
                  refine wpAnyIn_ready (rs := [5]) (by kernel_rfl) (by simp) ?_
                  refine AllReadyIn.cons rfl (fun K hK => ?_) ?_
                  · refine stepI_R_append k27 (w0 := Wd) (W := w4) (w3.heap.size + 2) (by go_simp) _ _ 24 27 (.agg #[.int .i64 0, .int .i64 0]) 16 rfl Try.underlying24 info27 rfl (by decide) (by decide) v l' ⟨p.1, p.2⟩ [.int .i64 p.1, .int .i64 p.2] (fun _ => True) (fun _ => False) rfl rfl (k27_mkM _ _ _ _) (fun _ h => h.elim) (fun _ _ => trivial) RO4.out BW4.out SZ4.out (by rw [HL.out]; have := HN.out; have := HK.out; omega) ?_
                    intro v1 w5 r5 b5
                    obtain ⟨As, cs5, hv5⟩ := Kd.R_slice r5
                    rw [List.length_append, List.length_singleton] at hv5
                    subst hv5
                    have R5 := Sd.mk r5
                    have B5 := Sd.mk b5
                    clear r5 b5
                    have gs : w5.cell? ⟨w.heap.size + 1 + 1, 0, none⟩ = some v := (blk_cell (Below5 B5.out SL.out (by have := HG.out; have := HG3.out; omega)) 0).trans rfl
                    have gs' := blk_frozen (Below5 B5.out SL.out (by have := HG.out; have := HG3.out; omega)) 0
                    refine hK _ _ ?_
                    clear hK K
                    refine wpAnyIn_ready (rs := [6]) (by kernel_rfl) (by simp) ?_
                    refine AllReadyIn.cons rfl (fun K hK => ?_) ?_
                    · go_simp
                      refine hK _ _ ?_
                      clear hK K
                      refine wpAnyIn_done (by kernel_rfl) ?_ _
                      exact fin { tmps := #[], defers := [] } _ _ R5.out B5.out
                    exact AllReadyIn.nil
                  exact AllReadyIn.nil
                exact AllReadyIn.nil
              exact AllReadyIn.nil
            refine AllReadyIn.cons rfl (fun K hK => ?_) ?_
            · go_simp
              gi_wp2_with (refine ⟨trivial, ?_⟩; gi_at_call 143; refine (CallsIn.inRound l (callsIn_wide.2 (strength_thickness.calls _ _ _ _ _ _ _ _ _ _ _ _ p.1 p.2 _ HP.out))).mono ?_; rintro e w4 ⟨rfl, hw4⟩; have BW4 := Sd.mk (show Below (w3.heap.size + 2) Wd w4 from hw4.mono HD2.out); have SZ4 := Sd.mk (show w3.heap.size + 2 ≤ w4.heap.size from Nat.le_trans HD2.out hw4.size); have RO4 := Sd.mk (Kd.R_below RO.out hw4); have SL4 := Sd.mk (blk_below SL.out hw4); clear hw4; have gv4 : w4.cell? ⟨w.heap.size + 1 + 1, 0, none⟩ = some v := (blk_cell SL4.out 0).trans rfl; have gv5 : (w4.alloc (.cells #[.int .i64 p.1, .int .i64 p.2] 27)).cell? ⟨w.heap.size + 1 + 1, 0, none⟩ = some v := (blk_cell (blk_alloc SL4.out _) 0).trans rfl)
              refine wpAnyIn_ready (rs := [0, 4]) (by kernel_rfl) (by simp) ?_
              refine AllReadyIn.cons rfl (fun K hK => ?_) ?_
              · go_simp
                refine hK _ _ ?_
                clear hK K
                refine wpAnyIn_ready (rs := [4]) (by kernel_rfl) (by simp) ?_
                refine AllReadyIn.cons rfl (fun K hK => ?_) ?_
                · go_simp
                  refine hK _ _ ?_
                  clear hK K
                  refine wpAnyIn_ready (rs := [5]) (by kernel_rfl) (by simp) ?_
                  refine AllReadyIn.cons rfl (fun K hK => ?_) ?_
                  · refine stepI_R_append k27 (w0 := Wd) (W := w4) (w3.heap.size + 2) (by go_simp) _ _ 24 27 (.agg #[.int .i64 0, .int .i64 0]) 16 rfl Try.underlying24 info27 rfl (by decide) (by decide) v l' ⟨p.1, p.2⟩ [.int .i64 p.1, .int .i64 p.2] (fun _ => True) (fun _ => False) rfl rfl (k27_mkM _ _ _ _) (fun _ h => h.elim) (fun _ _ => trivial) RO4.out BW4.out SZ4.out (by rw [HL.out]; have := HN.out; have := HK.out; omega) ?_
                    intro v1 w5 r5 b5
                    obtain ⟨As, cs5, hv5⟩ := Kd.R_slice r5
                    rw [List.length_append, List.length_singleton] at hv5
                    subst hv5
                    have R5 := Sd.mk r5
                    have B5 := Sd.mk b5
                    clear r5 b5
                    have gs : w5.cell? ⟨w.heap.size + 1 + 1, 0, none⟩ = some v := (blk_cell (Below5 B5.out SL.out (by have := HG.out; have := HG3.out; omega)) 0).trans rfl
                    have gs' := blk_frozen (Below5 B5.out SL.out (by have := HG.out; have := HG3.out; omega)) 0
                    refine hK _ _ ?_
                    clear hK K
                    refine wpAnyIn_ready (rs := [6]) (by kernel_rfl) (by simp) ?_
                    refine AllReadyIn.cons rfl (fun K hK => ?_) ?_
                    · go_simp
                      refine hK _ _ ?_
                      clear hK K
                      refine wpAnyIn_done (by kernel_rfl) ?_ _
                      exact fin { tmps := #[], defers := [] } _ _ R5.out B5.out
                    exact AllReadyIn.nil
                  exact AllReadyIn.nil
                exact AllReadyIn.nil
              refine AllReadyIn.cons rfl (fun K hK => ?_) ?_
              · go_simp
                refine hK _ _ ?_
                clear hK K
                refine wpAnyIn_ready (rs := [0]) (by kernel_rfl) (by simp) ?_
                refine AllReadyIn.cons rfl (fun K hK => ?_) ?_
                · go_simp
                  refine hK _ _ ?_
                  clear hK K
                  refine wpAnyIn_ready (rs := [5]) (by kernel_rfl) (by simp) ?_
                  refine AllReadyIn.cons rfl (fun K hK => ?_) ?_
                  · refine stepI_R_append k27 (w0 := Wd) (W := w4) (w3.heap.size + 2) (by go_simp) _ _ 24 27 (.agg #[.int .i64 0, .int .i64 0]) 16 rfl Try.underlying24 info27 rfl (by decide) (by decide) v l' ⟨p.1, p.2⟩ [.int .i64 p.1, .int .i64 p.2] (fun _ => True) (fun _ => False) rfl rfl (k27_mkM _ _ _ _) (fun _ h => h.elim) (fun _ _ => trivial) RO4.out BW4.out SZ4.out (by rw [HL.out]; have := HN.out; have := HK.out; omega) ?_
                    intro v1 w5 r5 b5
                    obtain ⟨As, cs5, hv5⟩ := Kd.R_slice r5
                    rw [List.length_append, List.length_singleton] at hv5
                    subst hv5
                    have R5 := Sd.mk r5
                    have B5 := Sd.mk b5
                    clear r5 b5
                    have gs : w5.cell? ⟨w.heap.size + 1 + 1, 0, none⟩ = some v := (blk_cell (Below5 B5.out SL.out (by have := HG.out; have := HG3.out; omega)) 0).trans rfl
                    have gs' := blk_frozen (Below5 B5.out SL.out (by have := HG.out; have := HG3.out; omega)) 0
                    refine hK _ _ ?_
                    clear hK K
                    refine wpAnyIn_ready (rs := [6]) (by kernel_rfl) (by simp) ?_
                    refine AllReadyIn.cons rfl (fun K hK => ?_) ?_
                    · go_simp
                      refine hK _ _ ?_
                      clear hK K
                      refine wpAnyIn_done (by kernel_rfl) ?_ _
                      exact fin { tmps := #[], defers := [] } _ _ R5.out B5.out
                    exact AllReadyIn.nil
                  exact AllReadyIn.nil
                exact AllReadyIn.nil
              exact AllReadyIn.nil
            exact AllReadyIn.nil
          exact AllReadyIn.nil
        refine AllReadyIn.cons rfl (fun K hK => ?_) ?_
        · go_simp
          refine hK _ _ ?_
          clear hK K
          refine wpAnyIn_ready (rs := [0, 1]) (by kernel_rfl) (by simp) ?_
          refine AllReadyIn.cons rfl (fun K hK => ?_) ?_
          · go_simp
            refine hK _ _ ?_
            clear hK K
            refine wpAnyIn_ready (rs := [1]) (by kernel_rfl) (by simp) ?_
            refine AllReadyIn.cons rfl (fun K hK => ?_) ?_
            · go_simp
              refine hK _ _ ?_
              clear hK K
              refine wpAnyIn_ready (rs := [3]) (by kernel_rfl) (by simp) ?_
              refine AllReadyIn.cons rfl (fun K hK => ?_) ?_
              · go_simp
                gi_wp2_with (refine ⟨trivial, ?_⟩; gi_at_call 143; refine (CallsIn.inRound l (callsIn_wide.2 (strength_thickness.calls _ _ _ _ _ _ _ _ _ _ _ _ p.1 p.2 _ HP.out))).mono ?_; rintro e w4 ⟨rfl, hw4⟩; have BW4 := Sd.mk (show Below (w3.heap.size + 2) Wd w4 from hw4.mono HD2.out); have SZ4 := Sd.mk (show w3.heap.size + 2 ≤ w4.heap.size from Nat.le_trans HD2.out hw4.size); have RO4 := Sd.mk (Kd.R_below RO.out hw4); have SL4 := Sd.mk (blk_below SL.out hw4); clear hw4; have gv4 : w4.cell? ⟨w.heap.size + 1 + 1, 0, none⟩ = some v := (blk_cell SL4.out 0).trans rfl; have gv5 : (w4.alloc (.cells #[.int .i64 p.1, .int .i64 p.2] 27)).cell? ⟨w.heap.size + 1 + 1, 0, none⟩ = some v := (blk_cell (blk_alloc SL4.out _) 0).trans rfl)
                refine wpAnyIn_ready (rs := [4]) (by kernel_rfl) (by simp) ?_
                refine AllReadyIn.cons rfl (fun K hK => ?_) ?_
                · go_simp
                  refine hK _ _ ?_
                  clear hK K
                  refine wpAnyIn_ready (rs := [5]) (by kernel_rfl) (by simp) ?_
                  refine AllReadyIn.cons rfl (fun K hK => ?_) ?_
                  · refine stepI_R_append k27 (w0 := Wd) (W := w4) (w3.heap.size + 2) (by go_simp) _ _ 24 27 (.agg #[.int .i64 0, .int .i64 0]) 16 rfl Try.underlying24 info27 rfl (by decide) (by decide) v l' ⟨p.1, p.2⟩ [.int .i64 p.1, .int .i64 p.2] (fun _ => True) (fun _ => False) rfl rfl (k27_mkM _ _ _ _) (fun _ h => h.elim) (fun _ _ => trivial) RO4.out BW4.out SZ4.out (by rw [HL.out]; have := HN.out; have := HK.out; omega) ?_
                    intro v1 w5 r5 b5
                    obtain ⟨As, cs5, hv5⟩ := Kd.R_slice r5
                    rw [List.length_append, List.length_singleton] at hv5
                    subst hv5
                    have R5 := Sd.mk r5
                    have B5 := Sd.mk b5
                    clear r5 b5
                    have gs : w5.cell? ⟨w.heap.size + 1 + 1, 0, none⟩ = some v := (blk_cell (Below5 B5.out SL.out (by have := HG.out; have := HG3.out; omega)) 0).trans rfl
                    have gs' := blk_frozen (Below5 B5.out SL.out (by have := HG.out; have := HG3.out; omega)) 0
                    refine hK _ _ ?_
                    clear hK K
                    refine wpAnyIn_ready (rs := [6]) (by kernel_rfl) (by simp) ?_
                    refine AllReadyIn.cons rfl (fun K hK => ?_) ?_
                    · go_simp
                      refine hK _ _ ?_
                      clear hK K
                      refine wpAnyIn_done (by kernel_rfl) ?_ _
                      exact fin { tmps := #[], defers := [] } _ _ R5.out B5.out
                    exact AllReadyIn.nil
                  exact AllReadyIn.nil
                exact AllReadyIn.nil
              exact AllReadyIn.nil
            exact AllReadyIn.nil
          refine AllReadyIn.cons rfl (fun K hK => ?_) ?_
          · go_simp
            refine hK _ _ ?_
            clear hK K
            refine wpAnyIn_ready (rs := [0, 3]) (by kernel_rfl) (by simp) ?_
            refine AllReadyIn.cons rfl (fun K hK => ?_) ?_
            · go_simp
              refine hK _ _ ?_
              clear hK K
              refine wpAnyIn_ready (rs := [3]) (by kernel_rfl) (by simp) ?_
              refine AllReadyIn.cons rfl (fun K hK => ?_) ?_
              · go_simp
                gi_wp2_with (refine ⟨trivial, ?_⟩; gi_at_call 143; refine (CallsIn.inRound l (callsIn_wide.2 (strength_thickness.calls _ _ _ _ _ _ _ _ _ _ _ _ p.1 p.2 _ HP.out))).mono ?_; rintro e w4 ⟨rfl, hw4⟩; have BW4 := Sd.mk (show Below (w3.heap.size + 2) Wd w4 from hw4.mono HD2.out); have SZ4 := Sd.mk (show w3.heap.size + 2 ≤ w4.heap.size from Nat.le_trans HD2.out hw4.size); have RO4 := Sd.mk (Kd.R_below RO.out hw4); have SL4 := Sd.mk (blk_below SL.out hw4); clear hw4; have gv4 : w4.cell? ⟨w.heap.size + 1 + 1, 0, none⟩ = some v := (blk_cell SL4.out 0).trans rfl; have gv5 : (w4.alloc (.cells #[.int .i64 p.1, .int .i64 p.2] 27)).cell? ⟨w.heap.size + 1 + 1, 0, none⟩ = some v := (blk_cell (blk_alloc SL4.out _) 0).trans rfl)
                refine wpAnyIn_ready (rs := [4]) (by kernel_rfl) (by simp) ?_
                refine AllReadyIn.cons rfl (fun K hK => ?_) ?_
                · go_simp
                  refine hK _ _ ?_
                  clear hK K
                  refine wpAnyIn_ready (rs := [5]) (by kernel_rfl) (by simp) ?_
                  refine AllReadyIn.cons rfl (fun K hK => ?_) ?_
                  · refine stepI_R_append k27 (w0 := Wd) (W := w4) (w3.heap.size + 2) (by go_simp) _ _ 24 27 (.agg #[.int .i64 0, .int .i64 0]) 16 rfl Try.underlying24 info27 rfl (by decide) (by decide) v l' ⟨p.1, p.2⟩ [.int .i64 p.1, .int .i64 p.2] (fun _ => True) (fun _ => False) rfl rfl (k27_mkM _ _ _ _) (fun _ h => h.elim) (fun _ _ => trivial) RO4.out BW4.out SZ4.out (by rw [HL.out]; have := HN.out; have := HK.out; omega) ?_
                    intro v1 w5 r5 b5
                    obtain ⟨As, cs5, hv5⟩ := Kd.R_slice r5
                    rw [List.length_append, List.length_singleton] at hv5
                    subst hv5
                    have R5 := Sd.mk r5
                    have B5 := Sd.mk b5
                    clear r5 b5
                    have gs : w5.cell? ⟨w.heap.size + 1 + 1, 0, none⟩ = some v := (blk_cell (Below5 B5.out SL.out (by have := HG.out; have := HG3.out; omega)) 0).trans rfl
                    have gs' := blk_frozen (Below5 B5.out SL.out (by have := HG.out; have := HG3.out; omega)) 0
                    refine hK _ _ ?_
                    clear hK K
                    refine wpAnyIn_ready (rs := [6]) (by kernel_rfl) (by simp) ?_
                    refine AllReadyIn.cons rfl (fun K hK => ?_) ?_
                    · go_simp
                      refine hK _ _ ?_
                      clear hK K
                      refine wpAnyIn_done (by kernel_rfl) ?_ _
                      exact fin { tmps := #[], defers := [] } _ _ R5.out B5.out
                    exact AllReadyIn.nil
                  exact AllReadyIn.nil
                exact AllReadyIn.nil
              exact AllReadyIn.nil
            refine AllReadyIn.cons rfl (fun K hK => ?_) ?_
            · go_simp
              gi_wp2_with (refine ⟨trivial, ?_⟩; gi_at_call 143; refine (CallsIn.inRound l (callsIn_wide.2 (strength_thickness.calls _ _ _ _ _ _ _ _ _ _ _ _ p.1 p.2 _ HP.out))).mono ?_; rintro e w4 ⟨rfl, hw4⟩; have BW4 := Sd.mk (show Below (w3.heap.size + 2) Wd w4 from hw4.mono HD2.out); have SZ4 := Sd.mk (show w3.heap.size + 2 ≤ w4.heap.size from Nat.le_trans HD2.out hw4.size); have RO4 := Sd.mk (Kd.R_below RO.out hw4); have SL4 := Sd.mk (blk_below SL.out hw4); clear hw4; have gv4 : w4.cell? ⟨w.heap.size + 1 + 1, 0, none⟩ = some v := (blk_cell SL4.out 0).trans rfl; have gv5 : (w4.alloc (.cells #[.int .i64 p.1, .int .i64 p.2] 27)).cell? ⟨w.heap.size + 1 + 1, 0, none⟩ = some v := (blk_cell (blk_alloc SL4.out _) 0).trans rfl)
              refine wpAnyIn_ready (rs := [0, 4]) (by kernel_rfl) (by simp) ?_
              refine AllReadyIn.cons rfl (fun K hK => ?_) ?_
              · go_simp
                refine hK _ _ ?_
                clear hK K
                refine wpAnyIn_ready (rs := [4]) (by kernel_rfl) (by simp) ?_
                refine AllReadyIn.cons rfl (fun K hK => ?_) ?_
                · go_simp
                  refine hK _ _ ?_
                  clear hK K
                  refine wpAnyIn_ready (rs := [5]) (by kernel_rfl) (by simp) ?_
                  refine AllReadyIn.cons rfl (fun K hK => ?_) ?_
                  · refine stepI_R_append k27 (w0 := Wd) (W := w4) (w3.heap.size + 2) (by go_simp) _ _ 24 27 (.agg #[.int .i64 0, .int .i64 0]) 16 rfl Try.underlying24 info27 rfl (by decide) (by decide) v l' ⟨p.1, p.2⟩ [.int .i64 p.1, .int .i64 p.2] (fun _ => True) (fun _ => False) rfl rfl (k27_mkM _ _ _ _) (fun _ h => h.elim) (fun _ _ => trivial) RO4.out BW4.out SZ4.out (by rw [HL.out]; have := HN.out; have := HK.out; omega) ?_
                    intro v1 w5 r5 b5
                    obtain ⟨As, cs5, hv5⟩ := Kd.R_slice r5
                    rw [List.length_append, List.length_singleton] at hv5
                    subst hv5
                    have R5 := Sd.mk r5
                    have B5 := Sd.mk b5
                    clear r5 b5
                    have gs : w5.cell? ⟨w.heap.size + 1 + 1, 0, none⟩ = some v := (blk_cell (Below5 B5.out SL.out (by have := HG.out; have := HG3.out; omega)) 0).trans rfl
                    have gs' := blk_frozen (Below5 B5.out SL.out (by have := HG.out; have := HG3.out; omega)) 0
                    refine hK _ _ ?_
                    clear hK K
                    refine wpAnyIn_ready (rs := [6]) (by kernel_rfl) (by simp) ?_
                    refine AllReadyIn.cons rfl (fun K hK => ?_) ?_
                    · go_simp
                      refine hK _ _ ?_
                      clear hK K
                      refine wpAnyIn_done (by kernel_rfl) ?_ _
                      exact fin { tmps := #[], defers := [] } _ _ R5.out B5.out
                    exact AllReadyIn.nil
                  exact AllReadyIn.nil
                exact AllReadyIn.nil
              refine AllReadyIn.cons rfl (fun K hK => ?_) ?_
              · go_simp
                refine hK _ _ ?_
                clear hK K
                refine wpAnyIn_ready (rs := [0]) (by kernel_rfl) (by simp) ?_
                refine AllReadyIn.cons rfl (fun K hK => ?_) ?_
                · go_simp
                  refine hK _ _ ?_
                  clear hK K
                  refine wpAnyIn_ready (rs := [5]) (by kernel_rfl) (by simp) ?_
                  refine AllReadyIn.cons rfl (fun K hK => ?_) ?_
                  · refine stepI_R_append k27 (w0 := Wd) (W := w4) (w3.heap.size + 2) (by go_simp) _ _ 24 27 (.agg #[.int .i64 0, .int .i64 0]) 16 rfl Try.underlying24 info27 rfl (by decide) (by decide) v l' ⟨p.1, p.2⟩ [.int .i64 p.1, .int .i64 p.2] (fun _ => True) (fun _ => False) rfl rfl (k27_mkM _ _ _ _) (fun _ h => h.elim) (fun _ _ => trivial) RO4.out BW4.out SZ4.out (by rw [HL.out]; have := HN.out; have := HK.out; omega) ?_
                    intro v1 w5 r5 b5
                    obtain ⟨As, cs5, hv5⟩ := Kd.R_slice r5
                    rw [List.length_append, List.length_singleton] at hv5
                    subst hv5
                    have R5 := Sd.mk r5
                    have B5 := Sd.mk b5
                    clear r5 b5
                    have gs : w5.cell? ⟨w.heap.size + 1 + 1, 0, none⟩ = some v := (blk_cell (Below5 B5.out SL.out (by have := HG.out; have := HG3.out; omega)) 0).trans rfl
                    have gs' := blk_frozen (Below5 B5.out SL.out (by have := HG.out; have := HG3.out; omega)) 0
                    refine hK _ _ ?_
                    clear hK K
                    refine wpAnyIn_ready (rs := [6]) (by kernel_rfl) (by simp) ?_
                    refine AllReadyIn.cons rfl (fun K hK => ?_) ?_
                    · go_simp
                      refine hK _ _ ?_
                      clear hK K
                      refine wpAnyIn_done (by kernel_rfl) ?_ _
                      exact fin { tmps := #[], defers := [] } _ _ R5.out B5.out
                    exact AllReadyIn.nil
                  exact AllReadyIn.nil
                exact AllReadyIn.nil
              exact AllReadyIn.nil
            exact AllReadyIn.nil
          exact AllReadyIn.nil
        exact AllReadyIn.nil
      case fn => intro ⟨_, _, h⟩; exact h.elim
      case panic => intro _ _ h; exact h.elim
      case done =>
        intro W hI hD
        obtain ⟨v, l9, hI⟩ := hI
        have hll' := hI.li
        rw [HL.out] at hll'
        have e9 := Option.some.inj hll'
        subst e9
        have HI2 := Sd.mk hI
        have HD := Sd.mk hD
        obtain ⟨As, cs5, rfl⟩ := Kd.R_slice hI.ro
        have gv : W.cell? ⟨w.heap.size + 1 + 1, 0, none⟩ = some (.slice As l.length cs5) := (blk_cell hI.sl 0).trans rfl
        have gv' := blk_frozen hI.sl 0
        have ge : (W.setCell ⟨w.heap.size + 1 + 1, 0, none⟩ (.slice As l.length cs5)).cell? ⟨w.heap.size + 1 + 1 + 1, 0, none⟩ = some (.int .i64 0) := (blk_cell (blk_far hI.er (p := ⟨w.heap.size + 1 + 1, 0, none⟩) (by simp) _) 0).trans rfl
        have ge' := blk_frozen (blk_far hI.er (p := ⟨w.heap.size + 1 + 1, 0, none⟩) (by simp) (.slice As l.length cs5)) 0
        clear hI hD BX3 BS3 BL3 BE3 RB3 HB3 BX1 BS1 BL1 BE1 HB1 BL2 BE2 HB2 HB BX BS BL BE
        gi_wp2
        have hg1 := HG.out
        have hg2 := HG3.out
        have hi2 := HI2.out
        refine ⟨by simp, .inl ⟨_, _, rfl, run_takeDeferred ((Below.heap_setCell _ _ _ _ (by simp; omega)).trans ((Below.heap_setCell _ _ _ _ (by simp; omega)).trans HD.out)), ?_⟩⟩
        refine leavesInM_fn (f := 139) (args := #[.pointer (some ⟨w.heap.size + 1 + 1 + 1, 0, none⟩)]) (by simp) (by simp [go_sem]) ?_
        refine (door139I_ok _ _ _).mono ?_
        rintro e u' w'' ⟨rfl, rfl, rfl⟩
        have hlt : w3.heap.size < W.heap.size := (Array.getElem?_eq_some_iff.1 HD.out).1
        refine ⟨_, results_ce rfl _ _ (w.heap.size + 1 + 1) (w.heap.size + 1 + 1 + 1) _ _ rfl (run_var24 _ _ _ (putObj_heap_keep (by omega) (blk_far (blk_put hi2.sl 0 _ rfl) (p := ⟨w.heap.size + 1 + 1 + 1, 0, none⟩) (by simp) _))) rfl (putObj_heap_keep (by omega) (blk_put (blk_far hi2.er (p := ⟨w.heap.size + 1 + 1, 0, none⟩) (by simp) _) 0 _ rfl)), _, rfl, ?_, below_putObj (below_set (below_set hi2.be (by omega)) (by omega)) (by omega) (by simpa using hlt)⟩
        exact Kd.R_lower (R_put (Kd.R_set (Kd.R_set hi2.ro hi2.sl (by simp [k27_E]) 0 _) (blk_far hi2.er (p := ⟨w.heap.size + 1 + 1, 0, none⟩) (by simp) _) (by simp [k27_E]) 0 _) (by omega) _) (by omega)
    | false =>
      rw [if_neg (by rw [hi']; simp)] at h
      simp only [Option.some.injEq, Prod.mk.injEq] at h
      obtain ⟨rfl, rfl⟩ := h
      have HI := Sd.mk hi'
      clear hi'
      refine (callsIn_wide (n := 9)).1 (callsIn_of_wp_marks Try.func85 rfl trivial ?_ rfl)
      simp only [Try.ntmps85, List.size_toArray, List.length_cons, List.length_nil, Nat.reduceAdd, Nat.reduceSub, Array.replicate_succ, Array.replicate_zero, List.push_toArray, List.append_toArray, List.nil_append, List.cons_append]
      gi_wp2_with (first | (refine ⟨trivial, ?_⟩; gi_at_call 140; refine (callsIn_wide.2 (bottle_ok A c zs f1 f2 _ HR.out H0.out)).mono ?_; rintro e w1 ⟨rfl, hw1⟩; have BX1 := Sd.mk (blk_below BX.out hw1); have BS1 := Sd.mk (blk_below BS.out hw1); have BL1 := Sd.mk (blk_below BL.out hw1); have BE1 := Sd.mk (blk_below BE.out hw1); have HB1 := Sd.mk (below_then HB.out (by have := HSZ.out; omega) hw1); have HSZ1 := Sd.mk (show w.heap.size + 4 ≤ w1.heap.size from Nat.le_trans (by have := HSZ.out; omega) hw1.size); clear hw1; have ht0 : w1.cell? ⟨w.heap.size + 1, 0, none⟩ = some (.int .i64 lo) := (blk_cell BS1.out 0).trans rfl; have ht1 : w1.cell? ⟨w.heap.size + 1, 0 + 1, none⟩ = some (.int .i64 hi) := (blk_cell BS1.out 1).trans rfl; have hb0 : w1.cell? ⟨w.heap.size, 0, none⟩ = some (.slice A zs.length c) := (blk_cell BX1.out 0).trans rfl; have hb1 : w1.cell? ⟨w.heap.size, 0 + 1, none⟩ = some (.int .i64 f1) := (blk_cell BX1.out 1).trans rfl; have hb2 : w1.cell? ⟨w.heap.size, 0 + 2, none⟩ = some (.int .i64 f2) := (blk_cell BX1.out 2).trans rfl) | (refine ⟨trivial, ?_⟩; gi_at_call 141; refine (callsIn_wide.2 (sspan_f _ _ _ _ _)).mono ?_; rw [HI.out]; rintro e w2 ⟨rfl, hw2⟩; have BX2 := BX1; have BS2 := BS1; clear BX1 BS1; have BX1 := Sd.mk (blk_below BX2.out hw2); have BS1 := Sd.mk (blk_below BS2.out hw2); have BL2 := Sd.mk (blk_below BL1.out hw2); have BE2 := Sd.mk (blk_below BE1.out hw2); have HB2 := Sd.mk (below_then HB1.out HB1.out.size hw2); have HSZ2 := Sd.mk (show w.heap.size + 4 ≤ w2.heap.size from Nat.le_trans HSZ1.out hw2.size); clear BX2 BS2 hw2; have hb0 : w2.cell? ⟨w.heap.size, 0, none⟩ = some (.slice A zs.length c) := (blk_cell BX1.out 0).trans rfl; have hb1 : w2.cell? ⟨w.heap.size, 0 + 1, none⟩ = some (.int .i64 f1) := (blk_cell BX1.out 1).trans rfl; have hb2 : w2.cell? ⟨w.heap.size, 0 + 2, none⟩ = some (.int .i64 f2) := (blk_cell BX1.out 2).trans rfl) | (refine ⟨trivial, ?_⟩; gi_at_call 91; (with_reducible refine (callsIn_wide.2 (demand_no _ _)).mono ?_); rintro e w' ⟨rfl, rfl⟩))
      refine leavesInM_fn (f := 139) (args := #[.pointer (some ⟨w.heap.size + 1 + 1 + 1, 0, none⟩)]) (by simp) (by simp [go_sem]) ?_
      refine (door139I_fail _ _ _ 0 [] _ BE2.out).mono ?_
      rintro e u' w'' ⟨rfl, rfl, rfl⟩
      exact ⟨_, results_ce rfl _ _ (w.heap.size + 1 + 1) (w.heap.size + 1 + 1 + 1) _ _ rfl (run_var24 _ _ _ (blk_far (blk_alloc BL2.out _) (p := ⟨w.heap.size + 1 + 1 + 1, 0, none⟩) (by simp) _)) rfl (blk_put (blk_alloc BE2.out _) 0 _ rfl), _, rfl, Kd.R_nil _ _ _ _ _, below_set (below_alloc HB2.out _) (by omega)⟩
  · rw [if_neg h0] at h
    simp only [Option.some.injEq, Prod.mk.injEq] at h
    obtain ⟨rfl, rfl⟩ := h
    have H0 := Sd.mk h0
    clear h0
    refine (callsIn_wide (n := 9)).1 (callsIn_of_wp_marks Try.func85 rfl trivial ?_ rfl)
    simp only [Try.ntmps85, List.size_toArray, List.length_cons, List.length_nil, Nat.reduceAdd, Nat.reduceSub, Array.replicate_succ, Array.replicate_zero, List.push_toArray, List.append_toArray, List.nil_append, List.cons_append]
    gi_wp2_with (first | (refine ⟨trivial, ?_⟩; gi_at_call 140; refine (callsIn_wide.2 (bottle_no A c zs f1 f2 _ HR.out H0.out)).mono ?_; rintro e w1 ⟨rfl, hw1⟩; have BX1 := Sd.mk (blk_below BX.out hw1); have BS1 := Sd.mk (blk_below BS.out hw1); have BL1 := Sd.mk (blk_below BL.out hw1); have BE1 := Sd.mk (blk_below BE.out hw1); have HB1 := Sd.mk (below_then HB.out (by have := HSZ.out; omega) hw1); have HSZ1 := Sd.mk (show w.heap.size + 4 ≤ w1.heap.size from Nat.le_trans (by have := HSZ.out; omega) hw1.size); clear hw1; have ht0 : w1.cell? ⟨w.heap.size + 1, 0, none⟩ = some (.int .i64 lo) := (blk_cell BS1.out 0).trans rfl; have ht1 : w1.cell? ⟨w.heap.size + 1, 0 + 1, none⟩ = some (.int .i64 hi) := (blk_cell BS1.out 1).trans rfl; have hb0 : w1.cell? ⟨w.heap.size, 0, none⟩ = some (.slice A zs.length c) := (blk_cell BX1.out 0).trans rfl; have hb1 : w1.cell? ⟨w.heap.size, 0 + 1, none⟩ = some (.int .i64 f1) := (blk_cell BX1.out 1).trans rfl; have hb2 : w1.cell? ⟨w.heap.size, 0 + 2, none⟩ = some (.int .i64 f2) := (blk_cell BX1.out 2).trans rfl))
    refine leavesInM_fn (f := 139) (args := #[.pointer (some ⟨w.heap.size + 1 + 1 + 1, 0, none⟩)]) (by simp) (by simp [go_sem]) ?_
    refine (door139I_fail _ _ _ 0 [] _ BE1.out).mono ?_
    rintro e u' w'' ⟨rfl, rfl, rfl⟩
    exact ⟨_, results_ce rfl _ _ (w.heap.size + 1 + 1) (w.heap.size + 1 + 1 + 1) _ _ rfl (run_var24 _ _ _ (blk_far (blk_alloc BL1.out _) (p := ⟨w.heap.size + 1 + 1 + 1, 0, none⟩) (by simp) _)) rfl (blk_put (blk_alloc BE1.out _) 0 _ rfl), _, rfl, Kd.R_nil _ _ _ _ _, below_set (below_alloc HB1.out _) (by omega)⟩
end Go.Proofs.Ytkjkokgbhepmoaa.PB

namespace Go.Proofs.Ytkjkokgbhepmoaa.PB
open Go.RowKit Go.Proofs.YtkjkokgbhepmoaaW.PrintWords Go.Proofs.YtkjkokgbhepmoaaW.PrintLast Go.Proofs.YtkjkokgbhepmoaaW.PrintMore
attribute [local go_sem] max2_int min2_int max_two min_two max_three min_three max_four min_four
def culletlaw05_lives.f (k : Nat)  : Option (Bool) := (culletlaw05_Example.f).bind fun bt647 => ((x_Thickness.f bt647.1 bt647.2.1 bt647.2.2 1000 1000).bind fun bt652 => (if bt652.2 = 0 then ((lw_SameSpans.f k bt652.1 (([(⟨212, 213⟩ : S27)] : List (S27)))).bind fun t659 => (some t659)) else (some false)))
theorem culletlaw05_lives.mono : ∀ k, LeO (culletlaw05_lives.f k ) (culletlaw05_lives.f (k + 1) ) := by
 intro  k
 unfold culletlaw05_lives.f
 repeat' first
   | (with_reducible exact lw_SameSpans.mono _ _ _)
   | (with_reducible exact LeO.refl _)
   | (with_reducible exact LeO.none _)
   | (with_reducible refine LeO.ite ?_ ?_)
   | (with_reducible refine LeO.bind ?_ (fun _ => ?_))
   | exact LeO.none _
   | refine LeO.ite ?_ ?_
   | refine LeO.bind ?_ (fun _ => ?_)
set_option maxHeartbeats 8000000 in
set_option maxRecDepth 100000 in
theorem culletlaw05_lives.calls (k : Nat)  (r : Bool) (w : World) (h : culletlaw05_lives.f k  = some r) :
  Calls Try.prog 36 #[] w fun e w' => e = .returned (.bool r) ∧ Below w.heap.size w w' := by
 have hu27 := Try.underlying27; have HB := Sd.mk (Below.refl w.heap.size w)
 have H : ((culletlaw05_Example.f).bind fun bt647 => ((x_Thickness.f bt647.1 bt647.2.1 bt647.2.2 1000 1000).bind fun bt652 => (if bt652.2 = 0 then ((lw_SameSpans.f k bt652.1 (([(⟨212, 213⟩ : S27)] : List (S27)))).bind fun t659 => (some t659)) else (some false)))) = some r := h
 clear h; replace H := Option.bind_eq_some_iff.mp H
 obtain ⟨⟨t647, t650, t651⟩, A10, H⟩ := H
 try dsimp only at H
 have A1 := Sd.mk A10; clear A10; replace H := Option.bind_eq_some_iff.mp H
 obtain ⟨⟨t652, t655⟩, A20, H⟩ := H
 try dsimp only at H
 have A2 := Sd.mk A20; clear A20
 by_cases c3 : t655 = 0
 ·rw [if_pos c3] at H
  have c3b0 : (t655 == 0) = true := beq_iff_eq.mpr c3
  have c3b1 : (t655 != 0) = false := bne_eq_false_iff_eq.mpr c3
  clear c3
  obtain ⟨y656, hy656⟩ : ∃ y_ : List (S27), y_ = (([(⟨212, 213⟩ : S27)] : List (S27))) := ⟨_, rfl⟩
  replace H : ((lw_SameSpans.f k t652 y656).bind fun t659 => (some t659)) = some r := by first | (rw [hy656]; with_reducible exact H) | (have H2_ := (Option.bind_some _ _).symm.trans H; rw [hy656]; with_reducible exact H2_) | (have H2_ := (Option.bind_some _ _).symm.trans H; with_reducible exact H2_) | with_reducible exact H | (rw [hy656]; exact H) | exact H
  have Ny656 := Sd.mk hy656; clear hy656; replace H := Option.bind_eq_some_iff.mp H; obtain ⟨t659, A40, H⟩ := H
  try dsimp only at H
  have A4 := Sd.mk A40; clear A40; obtain rfl := Option.some.inj H
  go_enter Try.func36, Try.ntmps36
  go_wp2_with (first | ((with_reducible refine gate_callee (f := 86) rfl ?_); refine goesL_ (some 4) rfl rfl Try.func86 (by kernel_rfl) rfl #[] rfl tM ?_; (with_reducible refine (culletlaw05_Example.calls  t647 t650 t651 _ A1.out).mono ?_); rintro e w5 ⟨v648, rfl, ho0, hb⟩; refine ⟨_, rfl, ?_⟩; have HO649 := Sd.mk (Kd.R_lower ho0 (below_size (bBl HB.out))); replace HB := Sd.mk (below_step (bBl HB.out) hb); (try clear hb); (try clear hb2); (try clear hk); (try clear hi); (try clear ho0); obtain ⟨Ao6, co6, eo6⟩ := Kd.R_slice HO649.out; subst eo6) | ((with_reducible refine gate_callee (f := 85) rfl ?_); refine goesL_ (some 6) rfl rfl Try.func85 (by kernel_rfl) rfl #[.agg #[.slice Ao6 t647.length co6, .int .i64 t650, .int .i64 t651], .agg #[.int .i64 1000, .int .i64 1000]] rfl tM ?_; (with_reducible refine (x_Thickness.calls _ _ t647 t650 t651 1000 1000 t652 t655 _ (cS ((Kd.R_reads' HO649.out).2.2)) ((Kd.R_reads' HO649.out).2.1) A2.out).mono ?_); rintro e w7 ⟨v653, rfl, ho0, hb⟩; refine ⟨_, rfl, ?_⟩; replace HO649 := Sd.mk (Kd.R_below (by (with_reducible repeat (first | apply Kd.R_alloc | apply Kd.R_drewN | apply Kd.R_drew)); exact HO649.out) hb); have HO654 := Sd.mk (Kd.R_lower ho0 (below_size (bBl HB.out))); replace HB := Sd.mk (below_step (bBl HB.out) hb); (try clear hb); (try clear hb2); (try clear hk); (try clear hi); (try clear ho0)) | ((with_reducible refine gate_dst (N := 14) rfl ?_); (try (refine gate_guard (by rfl) ?_; dsimp only)); refine Kd.R_lit k27 _ 27 ?hg (N := 14) ?hd (xs := ([(⟨212, 213⟩ : S27)] : List (S27))) (inner := [.int .i64 212, .int .i64 213]) (ok := fun _ => True) (okp := fun _ => True) ?hr ?hp (fun _ hk => hk) trivial (Below.refl _ _) (Nat.le_refl _) (by simp) ?_; (case hd => rfl); (case hg => rfl); (case hr => exact tG); (case hp => exact (Reps.c2 (show Kd.M k27 _ _ _ (⟨212, 213⟩ : S27) [.int .i64 212, .int .i64 213] from (k27_mkM _ _ _ (⟨212, 213⟩ : S27) )) (Reps.none _ _))); intro v657 w8 ho9 hb hg_ hnew_; clear hg_ hnew_; (first | rw [← Ny656.out] at ho9 | (simp only [Int.reduceToNat] at ho9; rw [← Ny656.out] at ho9)); replace HO649 := Sd.mk (Kd.R_below (by (with_reducible repeat (first | apply Kd.R_alloc | apply Kd.R_drewN | apply Kd.R_drew)); exact HO649.out) hb); have HO658 := Sd.mk (Kd.R_lower (Kd.R_new' ho9 (Kd.R_lt (by (with_reducible repeat (first | apply Kd.R_alloc | apply Kd.R_drewN | apply Kd.R_drew)); exact HO654.out))) (below_size (bBl HB.out))); replace HO654 := Sd.mk (Kd.R_elder' (by (with_reducible repeat (first | apply Kd.R_alloc | apply Kd.R_drewN | apply Kd.R_drew)); exact HO654.out) (Kd.R_base ho9) hb); replace HB := Sd.mk (below_step (bBl HB.out) hb); clear hb ho9; obtain ⟨Ao10, co10, eo10⟩ := Kd.R_slice HO654.out; subst eo10; obtain ⟨Ao11, co11, eo11⟩ := Kd.R_slice HO658.out; subst eo11) | (go_at_call 17; (with_reducible refine (lw_SameSpans.calls k _ _ t652 _ _ y656 t659 _ (cS ((Kd.R_reads' HO654.out).2.2)) ((Kd.R_reads' HO654.out).2.1) (cS ((Kd.R_reads' HO658.out).2.2)) ((Kd.R_reads' HO658.out).2.1) A4.out).mono ?_); rintro e w' ⟨rfl, ⟨nd, rfl⟩⟩))
  go_ret
  exact ⟨tE, bBl HB.out⟩
 ·rw [if_neg c3] at H
  have c3b0 : (t655 == 0) = false := beq_eq_false_iff_ne.mpr c3
  have c3b1 : (t655 != 0) = true := bne_iff_ne.mpr c3
  obtain rfl := Option.some.inj H
  go_enter Try.func36, Try.ntmps36
  go_wp2_with (first | ((with_reducible refine gate_callee (f := 86) rfl ?_); refine goesL_ (some 4) rfl rfl Try.func86 (by kernel_rfl) rfl #[] rfl tM ?_; (with_reducible refine (culletlaw05_Example.calls  t647 t650 t651 _ A1.out).mono ?_); rintro e w12 ⟨v648, rfl, ho0, hb⟩; refine ⟨_, rfl, ?_⟩; have HO649 := Sd.mk (Kd.R_lower ho0 (below_size (bBl HB.out))); replace HB := Sd.mk (below_step (bBl HB.out) hb); (try clear hb); (try clear hb2); (try clear hk); (try clear hi); (try clear ho0); obtain ⟨Ao13, co13, eo13⟩ := Kd.R_slice HO649.out; subst eo13) | ((with_reducible refine gate_callee (f := 85) rfl ?_); refine goesL_ (some 6) rfl rfl Try.func85 (by kernel_rfl) rfl #[.agg #[.slice Ao13 t647.length co13, .int .i64 t650, .int .i64 t651], .agg #[.int .i64 1000, .int .i64 1000]] rfl tM ?_; (with_reducible refine (x_Thickness.calls _ _ t647 t650 t651 1000 1000 t652 t655 _ (cS ((Kd.R_reads' HO649.out).2.2)) ((Kd.R_reads' HO649.out).2.1) A2.out).mono ?_); rintro e w14 ⟨v653, rfl, ho0, hb⟩; refine ⟨_, rfl, ?_⟩; replace HO649 := Sd.mk (Kd.R_below (by (with_reducible repeat (first | apply Kd.R_alloc | apply Kd.R_drewN | apply Kd.R_drew)); exact HO649.out) hb); have HO654 := Sd.mk (Kd.R_lower ho0 (below_size (bBl HB.out))); replace HB := Sd.mk (below_step (bBl HB.out) hb); (try clear hb); (try clear hb2); (try clear hk); (try clear hi); (try clear ho0)))
  go_ret
  exact ⟨tE, bBl HB.out⟩
end Go.Proofs.Ytkjkokgbhepmoaa.PB

namespace Go.Proofs.Ytkjkokgbhepmoaa.PB
open Go.RowKit Go.Proofs.YtkjkokgbhepmoaaW.PrintWords Go.Proofs.YtkjkokgbhepmoaaW.PrintLast Go.Proofs.YtkjkokgbhepmoaaW.PrintMore
attribute [local go_sem] max2_int min2_int max_two min_two max_three min_three max_four min_four
def culletlaw03_Great.l0 : Nat → List (S165) → Int → Int → Option (Bool)
 | 0, _, _, _ => none
 | k + 1, x0, x3, x4 => if x4 < (x0.length : Int) then (if 0 ≤ x4 then (if (((rd_T165 x0 x4).f2).length : Int) > 250 then (some true) else (culletlaw03_Great.l0 k x0 (wrap64 (x3 + (((rd_T165 x0 x4).f2).length : Int))) (wrap64 (x4 + 1)))) else (none)) else (some (decide (x3 > 600)))
def culletlaw03_Great.f (k : Nat) (l0 : List (S165)) : Option (Bool) := if (l0.length : Int) > 500 then (some true) else (culletlaw03_Great.l0 k l0 0 0)
theorem culletlaw03_Great.mono_l : ∀ k, (∀ y0 y1 y2, LeO (culletlaw03_Great.l0 k y0 y1 y2) (culletlaw03_Great.l0 (k + 1) y0 y1 y2))
 | 0 => fun _ _ _ r h => by simp [culletlaw03_Great.l0] at h
 | k + 1 => by
  have ih0 := culletlaw03_Great.mono_l k
  ·intro y0 y1 y2
   unfold culletlaw03_Great.l0
   repeat' first
   | (with_reducible exact ih0 _ _ _)
   | (with_reducible exact LeO.refl _)
   | (with_reducible exact LeO.none _)
   | (with_reducible refine LeO.ite ?_ ?_)
   | (with_reducible refine LeO.bind ?_ (fun _ => ?_))
   | exact LeO.none _
   | refine LeO.ite ?_ ?_
   | refine LeO.bind ?_ (fun _ => ?_)
theorem culletlaw03_Great.mono : ∀ a0 k, LeO (culletlaw03_Great.f k a0) (culletlaw03_Great.f (k + 1) a0) := by
 intro a0 k
 have ih0 := culletlaw03_Great.mono_l k
 unfold culletlaw03_Great.f
 repeat' first
   | (with_reducible exact ih0 _ _ _)
   | (with_reducible exact LeO.refl _)
   | (with_reducible exact LeO.none _)
   | (with_reducible refine LeO.ite ?_ ?_)
   | (with_reducible refine LeO.bind ?_ (fun _ => ?_))
   | exact LeO.none _
   | refine LeO.ite ?_ ?_
   | refine LeO.bind ?_ (fun _ => ?_)
set_option maxHeartbeats 8000000 in
set_option maxRecDepth 100000 in
theorem culletlaw03_Great.calls (k : Nat) (A0 : Option Addr) (c0 : Nat) (l0 : List (S165)) (r : Bool) (w : World) (hr0 : Kd.C k165 w A0 l0.length l0) (hc0 : l0.length ≤ c0) (h : culletlaw03_Great.f k l0 = some r) :
  Calls Try.prog 84 #[.slice A0 l0.length c0] w fun e w' => e = .returned (.bool r) ∧ Drawn0 w w' := by
 have HR0 := Sd.mk hr0; have HC0 := Sd.mk hc0; clear hr0 hc0
 have H : (if (l0.length : Int) > 500 then (some true) else (culletlaw03_Great.l0 k l0 0 0)) = some r := h
 clear h
 by_cases c2 : (l0.length : Int) > 500
 ·rw [if_pos c2] at H
  have c2b0 : decide (500 < (l0.length : Int)) = true := decide_eq_true c2
  have c2b1 : decide (500 < l0.length) = true := decide_eq_true (by omega)
  clear c2; obtain rfl := Option.some.inj H
  go_enter Try.func84, Try.ntmps84
  go_wp2
  go_ret
  exact ⟨by first | rfl | (simp; done) | (simp [*]; done), by repeat (first | exact Drawn0.refl _ | apply Drawn0.step)⟩
 ·rw [if_neg c2] at H
  have c2b0 : decide (500 < (l0.length : Int)) = false := decide_eq_false c2
  have c2b1 : decide (500 < l0.length) = false := decide_eq_false (by omega)
  clear c2; have H' := Sd.mk H; clear H
  go_enter Try.func84, Try.ntmps84
  go_wp2
  go_loopg [3, 4] k (fun kq v3 v4 w' => ∃ (x3_1 : Int) (x4_1 : Int), v3 = .int .i64 x3_1 ∧ v4 = .int .i64 x4_1 ∧ Sd (culletlaw03_Great.l0 kq l0 x3_1 x4_1 = some r) ∧ Sd (kq ≤ k) ∧ Drawn0 w w')
  case atStart => exact ⟨(0), (0), tS, tS, H', ⟨Nat.le_refl _⟩, by repeat (first | exact Drawn0.refl _ | apply Drawn0.step)⟩
  case round =>
   clear H'; (try clear c2); (try clear c2b0); (try clear c2b1); (try clear p2)
   obtain ⟨x3_1, x4_1, rfl, rfl, HA, HK1, ⟨m1, rfl⟩⟩ := hrel
   cases gk with
   | zero => exact absurd HA.out (by simp [culletlaw03_Great.l0])
   | succ k1 =>
    have H := HA.out; clear HA
    simp only [culletlaw03_Great.l0] at H
    by_cases c3 : x4_1 < (l0.length : Int)
    ·rw [if_pos c3] at H
     have c3b0 : decide (x4_1 < (l0.length : Int)) = true := decide_eq_true c3
     clear c3
     by_cases c4 : 0 ≤ x4_1
     ·rw [if_pos c4] at H
      have c4b0 : decide (0 ≤ x4_1) = true := decide_eq_true c4
      clear c4
      by_cases c5 : (((rd_T165 l0 x4_1).f2).length : Int) > 250
      ·rw [if_pos c5] at H
       have c5b0 : decide (250 < (((rd_T165 l0 x4_1).f2).length : Int)) = true := decide_eq_true c5
       have c5b1 : decide (250 < ((rd_T165 l0 x4_1).f2).length) = true := decide_eq_true (by omega)
       clear c5; obtain rfl := Option.some.inj H
       have p621 : 0 ≤ (x4_1 : Int) := tB
       have q621 : x4_1 < (l0.length : Int) := tB
       obtain ⟨ad621, A621_2, c621_2, e621, hx621_0, hx621_1, hx621_2, hl621_2, hi621_2⟩ := at_T165 HR0.out x4_1 p621 q621; cases e621; have HR621_2 := Sd.mk hi621_2; have HC621_2 := Sd.mk hl621_2; clear hi621_2 hl621_2; replace p621 := eq_true p621; replace q621 := eq_true q621
       go_wp2
       go_ret
       exact ⟨by first | rfl | (simp; done) | (simp [*]; done), by repeat (first | exact Drawn0.refl _ | apply Drawn0.step)⟩
      ·rw [if_neg c5] at H
       have c5b0 : decide (250 < (((rd_T165 l0 x4_1).f2).length : Int)) = false := decide_eq_false c5
       have c5b1 : decide (250 < ((rd_T165 l0 x4_1).f2).length) = false := decide_eq_false (by omega)
       clear c5; have H' := Sd.mk H; clear H
       have p621 : 0 ≤ (x4_1 : Int) := tB
       have q621 : x4_1 < (l0.length : Int) := tB
       obtain ⟨ad621, A621_2, c621_2, e621, hx621_0, hx621_1, hx621_2, hl621_2, hi621_2⟩ := at_T165 HR0.out x4_1 p621 q621; cases e621; have HR621_2 := Sd.mk hi621_2; have HC621_2 := Sd.mk hl621_2; clear hi621_2 hl621_2; replace p621 := eq_true p621; replace q621 := eq_true q621
       have p622 : 0 ≤ (x4_1 : Int) := tB
       have q622 : x4_1 < (l0.length : Int) := tB
       obtain ⟨ad622, A622_2, c622_2, e622, hx622_0, hx622_1, hx622_2, hl622_2, hi622_2⟩ := at_T165 HR0.out x4_1 p622 q622
       obtain rfl : ad621 = ad622 := (by injection e622)
       have HR622_2 := Sd.mk hi622_2; have HC622_2 := Sd.mk hl622_2; clear hi622_2 hl622_2; replace p622 := eq_true p622; replace q622 := eq_true q622; have ea_ := Option.some.inj (hx621_2.symm.trans hx622_2)
       injection ea_ with ea_ en_ ec_
       subst ea_; subst ec_; clear en_
       go_wp2
       go_roundg k1
       case measure => have := HK1.out; omega
       case rel => exact ⟨(wrap64 (x3_1 + (((rd_T165 l0 x4_1).f2).length : Int))), (wrap64 (x4_1 + 1)), tS, tS, H', ⟨by have := HK1.out; omega⟩, by repeat (first | exact Drawn0.refl _ | apply Drawn0.step)⟩
     ·rw [if_neg c4] at H
      exact absurd H (by simp)
    ·rw [if_neg c3] at H
     have c3b0 : decide (x4_1 < (l0.length : Int)) = false := decide_eq_false c3
     clear c3; obtain rfl := Option.some.inj H
     go_wp2
     go_ret
     exact ⟨by first | rfl | (simp; done) | (simp [*]; done), by repeat (first | exact Drawn0.refl _ | apply Drawn0.step)⟩
end Go.Proofs.Ytkjkokgbhepmoaa.PB

namespace Go.Proofs.Ytkjkokgbhepmoaa.PB
open Go.RowKit Go.Proofs.YtkjkokgbhepmoaaW.PrintWords Go.Proofs.YtkjkokgbhepmoaaW.PrintLast Go.Proofs.YtkjkokgbhepmoaaW.PrintMore
attribute [local go_sem] max2_int min2_int max_two min_two max_three min_three max_four min_four
def culletlaw05_Wide.f (k : Nat) (l0_0 : List (S27)) (a0_1 : Int) (a0_2 : Int) (a0_3 : Int) (a0_4 : Int) (a0_5 : Int) (a0_6 : Int) (a0_7 : Int) (a0_8 : Int) (l0_9 : List Int) (a0_10 : Int) (a0_11 : Int) (a0_12 : Int) (a0_13 : Int) (a0_14 : Int) (a0_15 : Int) (a0_16 : Int) (a0_17 : Int) (a0_18 : Int) (l0_19 : List Int) (l0_20 : List (S165)) : Option (Bool) := if (l0_0.length : Int) > 40 then (some true) else (if (l0_9.length : Int) > 40 then (some true) else (if (l0_19.length : Int) > 40 then (some true) else ((culletlaw03_Great.f k l0_20).bind fun t624 => (some t624))))
theorem culletlaw05_Wide.mono : ∀ a0 a1 a2 a3 a4 a5 a6 a7 a8 a9 a10 a11 a12 a13 a14 a15 a16 a17 a18 a19 a20 k, LeO (culletlaw05_Wide.f k a0 a1 a2 a3 a4 a5 a6 a7 a8 a9 a10 a11 a12 a13 a14 a15 a16 a17 a18 a19 a20) (culletlaw05_Wide.f (k + 1) a0 a1 a2 a3 a4 a5 a6 a7 a8 a9 a10 a11 a12 a13 a14 a15 a16 a17 a18 a19 a20) := by
 intro a0 a1 a2 a3 a4 a5 a6 a7 a8 a9 a10 a11 a12 a13 a14 a15 a16 a17 a18 a19 a20 k
 unfold culletlaw05_Wide.f
 repeat' first
   | (with_reducible exact culletlaw03_Great.mono _ _)
   | (with_reducible exact LeO.refl _)
   | (with_reducible exact LeO.none _)
   | (with_reducible refine LeO.ite ?_ ?_)
   | (with_reducible refine LeO.bind ?_ (fun _ => ?_))
   | exact LeO.none _
   | refine LeO.ite ?_ ?_
   | refine LeO.bind ?_ (fun _ => ?_)
set_option maxHeartbeats 8000000 in
set_option maxRecDepth 100000 in
theorem culletlaw05_Wide.calls (k : Nat) (A0_0 : Option Addr) (c0_0 : Nat) (l0_0 : List (S27)) (a0_1 : Int) (a0_2 : Int) (a0_3 : Int) (a0_4 : Int) (a0_5 : Int) (a0_6 : Int) (a0_7 : Int) (a0_8 : Int) (A0_9 : Option Addr) (c0_9 : Nat) (l0_9 : List Int) (a0_10 : Int) (a0_11 : Int) (a0_12 : Int) (a0_13 : Int) (a0_14 : Int) (a0_15 : Int) (a0_16 : Int) (a0_17 : Int) (a0_18 : Int) (A0_19 : Option Addr) (c0_19 : Nat) (l0_19 : List Int) (A0_20 : Option Addr) (c0_20 : Nat) (l0_20 : List (S165)) (r : Bool) (w : World) (hr0_0 : Kd.C k27 w A0_0 l0_0.length l0_0) (hc0_0 : l0_0.length ≤ c0_0) (hr0_9 : Kd.C (Kd.int .i64) w A0_9 l0_9.length l0_9) (hc0_9 : l0_9.length ≤ c0_9) (hr0_19 : Kd.C (Kd.int .i64) w A0_19 l0_19.length l0_19) (hc0_19 : l0_19.length ≤ c0_19) (hr0_20 : Kd.C k165 w A0_20 l0_20.length l0_20) (hc0_20 : l0_20.length ≤ c0_20) (h : culletlaw05_Wide.f k l0_0 a0_1 a0_2 a0_3 a0_4 a0_5 a0_6 a0_7 a0_8 l0_9 a0_10 a0_11 a0_12 a0_13 a0_14 a0_15 a0_16 a0_17 a0_18 l0_19 l0_20 = some r) :
  Calls Try.prog 35 #[.agg #[.slice A0_0 l0_0.length c0_0, .int .i64 a0_1, .int .i64 a0_2, .int .i64 a0_3, .int .i64 a0_4, .int .i64 a0_5, .int .i64 a0_6, .int .i64 a0_7, .int .i64 a0_8, .slice A0_9 l0_9.length c0_9, .int .i64 a0_10, .int .i64 a0_11, .int .i64 a0_12, .int .i64 a0_13, .int .i64 a0_14, .int .i64 a0_15, .int .i64 a0_16, .int .i64 a0_17, .int .i64 a0_18, .slice A0_19 l0_19.length c0_19, .slice A0_20 l0_20.length c0_20]] w fun e w' => e = .returned (.bool r) ∧ Below w.heap.size w w' := by
 have hu76 := Try.underlying76; have HR0_0 := Sd.mk hr0_0; have HC0_0 := Sd.mk hc0_0; clear hr0_0 hc0_0; have HR0_9 := Sd.mk hr0_9; have HC0_9 := Sd.mk hc0_9; clear hr0_9 hc0_9; have HR0_19 := Sd.mk hr0_19; have HC0_19 := Sd.mk hc0_19; clear hr0_19 hc0_19; have HR0_20 := Sd.mk hr0_20; have HC0_20 := Sd.mk hc0_20; clear hr0_20 hc0_20; have HB := Sd.mk (Below.refl w.heap.size w)
 have H : (if (l0_0.length : Int) > 40 then (some true) else (if (l0_9.length : Int) > 40 then (some true) else (if (l0_19.length : Int) > 40 then (some true) else ((culletlaw03_Great.f k l0_20).bind fun t624 => (some t624))))) = some r := h
 clear h
 by_cases c2 : (l0_0.length : Int) > 40
 ·rw [if_pos c2] at H
  have c2b0 : decide (40 < (l0_0.length : Int)) = true := decide_eq_true c2
  have c2b1 : decide (40 < l0_0.length) = true := decide_eq_true (by omega)
  clear c2; obtain rfl := Option.some.inj H
  go_enter Try.func35, Try.ntmps35
  go_wp2_with (first | ((with_reducible refine gate_dst (N := 1) rfl ?_); (try (refine gate_guard (by rfl) ?_; dsimp only)); refine box_event ?hg (N := 1) ?hd (cs := #[.slice A0_0 l0_0.length c0_0, .int .i64 a0_1, .int .i64 a0_2, .int .i64 a0_3, .int .i64 a0_4, .int .i64 a0_5, .int .i64 a0_6, .int .i64 a0_7, .int .i64 a0_8, .slice A0_9 l0_9.length c0_9, .int .i64 a0_10, .int .i64 a0_11, .int .i64 a0_12, .int .i64 a0_13, .int .i64 a0_14, .int .i64 a0_15, .int .i64 a0_16, .int .i64 a0_17, .int .i64 a0_18, .slice A0_19 l0_19.length c0_19, .slice A0_20 l0_20.length c0_20]) (t := 76) ?hr ?_; (case hd => rfl); (case hg => rfl); (case hr => exact tG); intro gb623 hg w3 hbox hb; have BK623 := Sd.mk (hbox); have GW623 := Sd.mk (bSz hg (bBl HB.out)); have GE623 := Sd.mk (bSz hg (bBl HB.out)); replace HB := Sd.mk (below_step (bBl HB.out) hb); clear hb hbox hg; obtain ⟨u4_0, u4_1, u4_2, u4_3, u4_4, u4_5, u4_6, u4_7, u4_8, u4_9, u4_10, u4_11, u4_12, u4_13, u4_14, u4_15, u4_16, u4_17, u4_18, u4_19, u4_20, o4_0, o4_1, o4_2, o4_3, o4_4, o4_5, o4_6, o4_7, o4_8, o4_9, o4_10, o4_11, o4_12, o4_13, o4_14, o4_15, o4_16, o4_17, o4_18, o4_19, o4_20⟩ := bc21 (w := w3) BK623.out))
  go_ret
  exact ⟨tE, bBl HB.out⟩
 ·rw [if_neg c2] at H
  have c2b0 : decide (40 < (l0_0.length : Int)) = false := decide_eq_false c2
  have c2b1 : decide (40 < l0_0.length) = false := decide_eq_false (by omega)
  clear c2
  by_cases c5 : (l0_9.length : Int) > 40
  ·rw [if_pos c5] at H
   have c5b0 : decide (40 < (l0_9.length : Int)) = true := decide_eq_true c5
   have c5b1 : decide (40 < l0_9.length) = true := decide_eq_true (by omega)
   clear c5; obtain rfl := Option.some.inj H
   go_enter Try.func35, Try.ntmps35
   go_wp2_with (first | ((with_reducible refine gate_dst (N := 1) rfl ?_); (try (refine gate_guard (by rfl) ?_; dsimp only)); refine box_event ?hg (N := 1) ?hd (cs := #[.slice A0_0 l0_0.length c0_0, .int .i64 a0_1, .int .i64 a0_2, .int .i64 a0_3, .int .i64 a0_4, .int .i64 a0_5, .int .i64 a0_6, .int .i64 a0_7, .int .i64 a0_8, .slice A0_9 l0_9.length c0_9, .int .i64 a0_10, .int .i64 a0_11, .int .i64 a0_12, .int .i64 a0_13, .int .i64 a0_14, .int .i64 a0_15, .int .i64 a0_16, .int .i64 a0_17, .int .i64 a0_18, .slice A0_19 l0_19.length c0_19, .slice A0_20 l0_20.length c0_20]) (t := 76) ?hr ?_; (case hd => rfl); (case hg => rfl); (case hr => exact tG); intro gb623 hg w6 hbox hb; have BK623 := Sd.mk (hbox); have GW623 := Sd.mk (bSz hg (bBl HB.out)); have GE623 := Sd.mk (bSz hg (bBl HB.out)); replace HB := Sd.mk (below_step (bBl HB.out) hb); clear hb hbox hg; obtain ⟨u7_0, u7_1, u7_2, u7_3, u7_4, u7_5, u7_6, u7_7, u7_8, u7_9, u7_10, u7_11, u7_12, u7_13, u7_14, u7_15, u7_16, u7_17, u7_18, u7_19, u7_20, o7_0, o7_1, o7_2, o7_3, o7_4, o7_5, o7_6, o7_7, o7_8, o7_9, o7_10, o7_11, o7_12, o7_13, o7_14, o7_15, o7_16, o7_17, o7_18, o7_19, o7_20⟩ := bc21 (w := w6) BK623.out))
   go_ret
   exact ⟨tE, bBl HB.out⟩
  ·rw [if_neg c5] at H
   have c5b0 : decide (40 < (l0_9.length : Int)) = false := decide_eq_false c5
   have c5b1 : decide (40 < l0_9.length) = false := decide_eq_false (by omega)
   clear c5
   by_cases c8 : (l0_19.length : Int) > 40
   ·rw [if_pos c8] at H
    have c8b0 : decide (40 < (l0_19.length : Int)) = true := decide_eq_true c8
    have c8b1 : decide (40 < l0_19.length) = true := decide_eq_true (by omega)
    clear c8; obtain rfl := Option.some.inj H
    go_enter Try.func35, Try.ntmps35
    go_wp2_with (first | ((with_reducible refine gate_dst (N := 1) rfl ?_); (try (refine gate_guard (by rfl) ?_; dsimp only)); refine box_event ?hg (N := 1) ?hd (cs := #[.slice A0_0 l0_0.length c0_0, .int .i64 a0_1, .int .i64 a0_2, .int .i64 a0_3, .int .i64 a0_4, .int .i64 a0_5, .int .i64 a0_6, .int .i64 a0_7, .int .i64 a0_8, .slice A0_9 l0_9.length c0_9, .int .i64 a0_10, .int .i64 a0_11, .int .i64 a0_12, .int .i64 a0_13, .int .i64 a0_14, .int .i64 a0_15, .int .i64 a0_16, .int .i64 a0_17, .int .i64 a0_18, .slice A0_19 l0_19.length c0_19, .slice A0_20 l0_20.length c0_20]) (t := 76) ?hr ?_; (case hd => rfl); (case hg => rfl); (case hr => exact tG); intro gb623 hg w9 hbox hb; have BK623 := Sd.mk (hbox); have GW623 := Sd.mk (bSz hg (bBl HB.out)); have GE623 := Sd.mk (bSz hg (bBl HB.out)); replace HB := Sd.mk (below_step (bBl HB.out) hb); clear hb hbox hg; obtain ⟨u10_0, u10_1, u10_2, u10_3, u10_4, u10_5, u10_6, u10_7, u10_8, u10_9, u10_10, u10_11, u10_12, u10_13, u10_14, u10_15, u10_16, u10_17, u10_18, u10_19, u10_20, o10_0, o10_1, o10_2, o10_3, o10_4, o10_5, o10_6, o10_7, o10_8, o10_9, o10_10, o10_11, o10_12, o10_13, o10_14, o10_15, o10_16, o10_17, o10_18, o10_19, o10_20⟩ := bc21 (w := w9) BK623.out))
    go_ret
    exact ⟨tE, bBl HB.out⟩
   ·rw [if_neg c8] at H
    have c8b0 : decide (40 < (l0_19.length : Int)) = false := decide_eq_false c8
    have c8b1 : decide (40 < l0_19.length) = false := decide_eq_false (by omega)
    clear c8; replace H := Option.bind_eq_some_iff.mp H; obtain ⟨t624, A110, H⟩ := H
    try dsimp only at H
    have A11 := Sd.mk A110; clear A110; obtain rfl := Option.some.inj H
    go_enter Try.func35, Try.ntmps35
    go_wp2_with (first | ((with_reducible refine gate_dst (N := 1) rfl ?_); (try (refine gate_guard (by rfl) ?_; dsimp only)); refine box_event ?hg (N := 1) ?hd (cs := #[.slice A0_0 l0_0.length c0_0, .int .i64 a0_1, .int .i64 a0_2, .int .i64 a0_3, .int .i64 a0_4, .int .i64 a0_5, .int .i64 a0_6, .int .i64 a0_7, .int .i64 a0_8, .slice A0_9 l0_9.length c0_9, .int .i64 a0_10, .int .i64 a0_11, .int .i64 a0_12, .int .i64 a0_13, .int .i64 a0_14, .int .i64 a0_15, .int .i64 a0_16, .int .i64 a0_17, .int .i64 a0_18, .slice A0_19 l0_19.length c0_19, .slice A0_20 l0_20.length c0_20]) (t := 76) ?hr ?_; (case hd => rfl); (case hg => rfl); (case hr => exact tG); intro gb623 hg w12 hbox hb; have BK623 := Sd.mk (hbox); have GW623 := Sd.mk (bSz hg (bBl HB.out)); have GE623 := Sd.mk (bSz hg (bBl HB.out)); replace HB := Sd.mk (below_step (bBl HB.out) hb); clear hb hbox hg; obtain ⟨u13_0, u13_1, u13_2, u13_3, u13_4, u13_5, u13_6, u13_7, u13_8, u13_9, u13_10, u13_11, u13_12, u13_13, u13_14, u13_15, u13_16, u13_17, u13_18, u13_19, u13_20, o13_0, o13_1, o13_2, o13_3, o13_4, o13_5, o13_6, o13_7, o13_8, o13_9, o13_10, o13_11, o13_12, o13_13, o13_14, o13_15, o13_16, o13_17, o13_18, o13_19, o13_20⟩ := bc21 (w := w12) BK623.out) | (go_at_call 84; (with_reducible refine (culletlaw03_Great.calls k _ _ l0_20 t624 _ (cS (Kd.C_below HR0_20.out HB.out)) HC0_20.out A11.out).mono ?_); rintro e w' ⟨rfl, ⟨nd, rfl⟩⟩))
    go_ret
    exact ⟨tE, bBl HB.out⟩
end Go.Proofs.Ytkjkokgbhepmoaa.PB

namespace Go.Proofs.Ytkjkokgbhepmoaa.PB
open Go.RowKit Go.Proofs.YtkjkokgbhepmoaaW.PrintWords Go.Proofs.YtkjkokgbhepmoaaW.PrintLast Go.Proofs.YtkjkokgbhepmoaaW.PrintMore
set_option maxRecDepth 100000 in
theorem lives5_ev : Ev (fun k => culletlaw05_lives.f k) true := Ev.of_mono culletlaw05_lives.mono (K := 5) (by kernel_rfl)
theorem great3_l0 (l : List S165) : ∀ (m i : Nat) (x : Int), i + m = l.length → l.length ≤ 500 → ∃ b, Ev (fun k => culletlaw03_Great.l0 k l x (i : Int)) b
  | 0, i, x, h, hl => by
    refine ⟨decide (x > 600), Ev.step ?_⟩
    simp only [culletlaw03_Great.l0, if_neg (show ¬ (i : Int) < (l.length : Int) by omega)]
    exact Ev.const _
  | m + 1, i, x, h, hl => by
    obtain ⟨b, ih⟩ := great3_l0 l m (i + 1) (wrap64 (x + (((rd_T165 l (i : Int)).f2).length : Int))) (by omega) hl
    rw [show ((i + 1 : Nat) : Int) = (i : Int) + 1 by omega] at ih
    by_cases c : (((rd_T165 l (i : Int)).f2).length : Int) > 250
    · refine ⟨true, Ev.step ?_⟩
      simp only [culletlaw03_Great.l0, if_pos (show (i : Int) < (l.length : Int) by omega), if_pos (i_pos i), if_pos c]
      exact Ev.const _
    · refine ⟨b, Ev.step ?_⟩
      simp only [culletlaw03_Great.l0, if_pos (show (i : Int) < (l.length : Int) by omega), if_pos (i_pos i), if_neg c, wrap_succ (i_pos i) (show (i : Int) ≤ 1000000000 by omega)]
      exact ih
theorem great3 (l : List S165) : ∃ b, Ev (fun k => culletlaw03_Great.f k l) b := by
  unfold culletlaw03_Great.f
  by_cases h : (l.length : Int) > 500
  · simp only [if_pos h]; exact ⟨_, Ev.const _⟩
  · simp only [if_neg h]; exact great3_l0 l l.length 0 0 (by omega) (by omega)
theorem wide5 (y0 : List S27) (y1 y2 y3 y4 y5 y6 y7 y8 : Int) (y9 : List Int) (y10 y11 y12 y13 y14 y15 y16 y17 y18 : Int) (r : List Int) (y20 : List S165) : ∃ b, Ev (fun k => culletlaw05_Wide.f k y0 y1 y2 y3 y4 y5 y6 y7 y8 y9 y10 y11 y12 y13 y14 y15 y16 y17 y18 r y20) b := by
  unfold culletlaw05_Wide.f
  by_cases h1 : (y0.length : Int) > 40
  · simp only [if_pos h1]; exact ⟨_, Ev.const _⟩
  by_cases h2 : (y9.length : Int) > 40
  · simp only [if_neg h1, if_pos h2]; exact ⟨_, Ev.const _⟩
  by_cases h3 : (r.length : Int) > 40
  · simp only [if_neg h1, if_neg h2, if_pos h3]; exact ⟨_, Ev.const _⟩
  simp only [if_neg h1, if_neg h2, if_neg h3]
  obtain ⟨b, hb⟩ := great3 y20
  exact ⟨b, Ev.bind hb (Ev.const _)⟩
section
variable (o : List ByteArray) (mt : List S63) (s : List S27) (p : List S65) (a4 a5 a6 : Int) (r : List Int)
theorem ValV_le (n : Int) (h : (ValV o mt s p a4 a5 a6 r n).2.2 = 0) : (ValV o mt s p a4 a5 a6 r n).1 ≤ (ValV o mt s p a4 a5 a6 r n).2.1 := by
  revert h
  unfold ValV
  split
  · rename_i ha
    obtain ⟨H, hr⟩ := ask_ok ha
    split
    · rename_i h1
      split
      · intro h; cases h
      · rename_i h2
        intro _
        obtain ⟨C, hl⟩ := pro_cf H h1
        exact mean_le (meanOk_of (gramL_ok H hr) (by rw [gramL_len]; exact C) (lowW_pos H hr h2))
    · intro h; cases h
  · intro h; exact absurd h (by assumption)
variable (kn : List S84) (fac : Int) (y0 : List S27) (y1 y2 y3 y4 y5 y6 y7 y8 : Int) (y9 : List Int) (y10 y11 y12 y13 y14 y15 y16 y17 y18 : Int) (y20 : List S165)
end
end Go.Proofs.Ytkjkokgbhepmoaa.PB

namespace Go.Proofs.Ytkjkokgbhepmoaa.PB
open Go.RowKit Go.Proofs.YtkjkokgbhepmoaaW.PrintWords Go.Proofs.YtkjkokgbhepmoaaW.PrintLast Go.Proofs.YtkjkokgbhepmoaaW.PrintMore
def shockV (V : Int × Int × Int) (d : Int) : Int × Int × Int := if V.2.2 = 0 then (if inB d 0 1000 = true then (35 * max V.1 0 * d / 78, (35 * max V.2.1 0 * d + 77) / 78, 0) else (0, 0, 1)) else (0, 0, V.2.2)
theorem mx_max0 (a : Int) : mx a 0 = max a 0 := by unfold mx; split <;> omega
theorem fl78 (x : Int) (h1 : -1000000000 ≤ x) (h2 : x ≤ 1000000000) : strength_floored.f x 78 = some (x / 78) := by
  unfold strength_floored.f
  rw [if_neg (show ¬ (78 : Int) = 0 by decide)]
  have e := Int.mul_tdiv_add_tmod x 78
  have hm : Int.tmod x 78 < 78 := Int.tmod_lt_of_pos x (by decide)
  by_cases hx : 0 ≤ x
  · have h0 := Int.tmod_nonneg 78 hx
    rw [if_neg (by omega), Int.tdiv_eq_ediv_of_nonneg hx, wsmall (by omega) (by omega)]
  · have hn : -78 < Int.tmod x 78 := by
      have := Int.tmod_lt_of_pos (-x) (show (0 : Int) < 78 by decide)
      rw [Int.neg_tmod] at this
      omega
    have hp : Int.tmod x 78 ≤ 0 := by
      have := Int.tmod_nonneg 78 (show 0 ≤ -x by omega)
      rw [Int.neg_tmod] at this
      omega
    generalize Int.tmod x 78 = m at *
    generalize Int.tdiv x 78 = q at *
    by_cases h3 : m < 0
    · rw [if_pos h3, wsmall (x := q) (by omega) (by omega), wsmall (by omega) (by omega)]
      congr 1; omega
    · rw [if_neg h3, wsmall (by omega) (by omega)]
      congr 1; omega
theorem ra78 (x : Int) (h1 : -1000000000 ≤ x) (h2 : x ≤ 1000000000) : strength_raised.f x 78 = some ((x + 77) / 78) := by
  unfold strength_raised.f
  rw [wsmall (x := -x) (by omega) (by omega), fl78 (-x) (by omega) (by omega), Option.bind_some, wsmall (by omega) (by omega)]
  congr 1; omega
section
variable (o : List ByteArray) (mt : List S63) (s : List S27) (p : List S65) (a4 a5 a6 : Int) (r : List Int)
theorem ValV_range (n : Int) (h : (ValV o mt s p a4 a5 a6 r n).2.2 = 0) : (-10000 ≤ (ValV o mt s p a4 a5 a6 r n).1 ∧ (ValV o mt s p a4 a5 a6 r n).1 ≤ 10000) ∧ (-10000 ≤ (ValV o mt s p a4 a5 a6 r n).2.1 ∧ (ValV o mt s p a4 a5 a6 r n).2.1 ≤ 10000) := by
  revert h
  unfold ValV
  split
  · rename_i ha
    obtain ⟨H, hr⟩ := ask_ok ha
    split
    · rename_i h1
      split
      · intro h; cases h
      · rename_i h2
        intro _
        obtain ⟨C, hl⟩ := pro_cf H h1
        exact mean_range (gramL_ok H hr) (by rw [gramL_len]; exact C) (lowW_pos H hr h2)
    · intro h; cases h
  · intro h; exact absurd h (by assumption)
theorem xShock_ev (n d : Int) : Ev (fun k => x_Shock.f k o mt s p a4 a5 a6 r n d) (shockV (ValV o mt s p a4 a5 a6 r n) d) := by
  unfold x_Shock.f
  refine Ev.bind (bValue o mt s p a4 a5 a6 r n) ?_
  have hr := ValV_range o mt s p a4 a5 a6 r n
  generalize ValV o mt s p a4 a5 a6 r n = V at *
  unfold shockV
  by_cases h1 : V.2.2 = 0
  · simp only [if_pos h1]
    by_cases hd : inB d 0 1000 = true
    · simp only [if_pos hd]
      simp only [inB, Bool.and_eq_true, decide_eq_true_eq] at hd
      obtain ⟨⟨r1, r2⟩, r3, r4⟩ := hr h1
      have key : ∀ x : Int, -10000 ≤ x → x ≤ 10000 → -350000000 ≤ 35 * x * d ∧ 35 * x * d ≤ 350000000 ∧ (0 ≤ x → 0 ≤ 35 * x * d) ∧ (x ≤ 0 → 35 * x * d ≤ 0) := by
        intro x hx1 hx2
        have a := Int.mul_le_mul_of_nonneg_right (show 35 * x ≤ 350000 by omega) hd.1
        have b := Int.mul_le_mul_of_nonneg_right (show -350000 ≤ 35 * x by omega) hd.1
        exact ⟨by omega, by omega, fun h => Int.mul_nonneg (by omega) hd.1, fun h => Int.mul_nonpos_of_nonpos_of_nonneg (by omega) hd.1⟩
      obtain ⟨a1, a2, a3, a4'⟩ := key V.1 r1 r2
      obtain ⟨b1, b2, b3, b4⟩ := key V.2.1 r3 r4
      rw [wsmall (x := 35 * V.1) (by omega) (by omega), wsmall (x := 35 * V.2.1) (by omega) (by omega), wsmall (x := 35 * V.1 * d) (by omega) (by omega), wsmall (x := 35 * V.2.1 * d) (by omega) (by omega), fl78 _ (by omega) (by omega), ra78 _ (by omega) (by omega)]
      simp only [Option.bind_some]
      refine (Ev.const _).cast ?_
      have e1 : (if 35 * V.1 * d / 78 < 0 then 0 else 35 * V.1 * d / 78) = 35 * max V.1 0 * d / 78 := by
        by_cases h : 0 ≤ V.1
        · rw [show max V.1 0 = V.1 by omega, if_neg (by have := a3 h; omega)]
        · rw [show max V.1 0 = 0 by omega, Int.mul_zero, Int.zero_mul]
          have := a4' (by omega)
          split <;> omega
      have e2 : (if (35 * V.2.1 * d + 77) / 78 < 0 then 0 else (35 * V.2.1 * d + 77) / 78) = (35 * max V.2.1 0 * d + 77) / 78 := by
        by_cases h : 0 ≤ V.2.1
        · rw [show max V.2.1 0 = V.2.1 by omega, if_neg (by have := b3 h; omega)]
        · rw [show max V.2.1 0 = 0 by omega, Int.mul_zero, Int.zero_mul]
          have := b4 (by omega)
          split <;> omega
      rw [e1, e2]
    · simp only [if_neg hd]; exact Ev.const _
  · simp only [if_neg h1]; exact Ev.const _
end
structure ShockOk (V : Int × Int × Int) (d : Int) : Prop where
  v0 : V.2.2 = 0
  d0 : 0 ≤ d
  d1 : d ≤ 1000
  x0 : 0 ≤ 35 * max V.1 0 * d
  xy : 35 * max V.1 0 * d ≤ 35 * max V.2.1 0 * d
  y1 : 35 * max V.2.1 0 * d ≤ 350000000
  e : shockV V d = (35 * max V.1 0 * d / 78, (35 * max V.2.1 0 * d + 77) / 78, 0)
theorem shock_ok {V : Int × Int × Int} {d : Int} (hr : V.2.2 = 0 → (-10000 ≤ V.1 ∧ V.1 ≤ 10000) ∧ (-10000 ≤ V.2.1 ∧ V.2.1 ≤ 10000)) (hle : V.2.2 = 0 → V.1 ≤ V.2.1) (h : (shockV V d).2.2 = 0) : ShockOk V d := by
  have e : V.2.2 = 0 ∧ inB d 0 1000 = true := by
    revert h
    unfold shockV
    split
    · rename_i h1
      split
      · rename_i h2; exact fun _ => ⟨h1, h2⟩
      · intro h; cases h
    · rename_i h1; intro h; exact absurd h h1
  obtain ⟨h1, h2⟩ := e
  have h2' := h2
  simp only [inB, Bool.and_eq_true, decide_eq_true_eq] at h2'
  obtain ⟨⟨a1, a2⟩, a3, a4⟩ := hr h1
  have a5 := hle h1
  refine ⟨h1, h2'.1, h2'.2, Int.mul_nonneg (by omega) h2'.1, Int.mul_le_mul_of_nonneg_right (by omega) h2'.1, ?_, ?_⟩
  · have a := Int.mul_le_mul (show 35 * max V.2.1 0 ≤ 350000 by omega) h2'.2 h2'.1 (by omega)
    omega
  · unfold shockV; rw [if_pos h1, if_pos h2]
theorem shock_zero {V : Int × Int × Int} {d : Int} (h : (shockV V d).2.2 ≠ 0) : shockV V d = (0, 0, (shockV V d).2.2) := by
  revert h
  unfold shockV
  split
  · split
    · intro h; exact absurd rfl h
    · intro _; rfl
  · intro _; rfl
theorem shock_bounds {V : Int × Int × Int} {d : Int} (H : ShockOk V d) : 0 ≤ (shockV V d).1 ∧ (shockV V d).1 ≤ (shockV V d).2.1 ∧ (shockV V d).2.1 ≤ 10000000 ∧ 78 * (shockV V d).1 ≤ 35 * max V.1 0 * d ∧ 35 * max V.2.1 0 * d ≤ 78 * (shockV V d).2.1 := by
  have a := H.x0
  have b := H.xy
  have c := H.y1
  rw [H.e]
  generalize 35 * max V.1 0 * d = x at *
  generalize 35 * max V.2.1 0 * d = y at *
  show 0 ≤ x / 78 ∧ x / 78 ≤ (y + 77) / 78 ∧ (y + 77) / 78 ≤ 10000000 ∧ 78 * (x / 78) ≤ x ∧ y ≤ 78 * ((y + 77) / 78)
  omega
theorem shock_twice {V : Int × Int × Int} {d : Int} (H : ShockOk V d) (H2 : ShockOk V (2 * d)) : 2 * (shockV V d).1 ≤ (shockV V (2 * d)).1 ∧ (shockV V (2 * d)).2.1 ≤ 2 * (shockV V d).2.1 ∧ 2 * (shockV V d).2.1 - 1 ≤ (shockV V (2 * d)).2.1 := by
  have a := H.x0
  have b := H.xy
  rw [H.e, H2.e]
  have e1 : 35 * max V.1 0 * (2 * d) = 2 * (35 * max V.1 0 * d) := by rw [Int.mul_left_comm]
  have e2 : 35 * max V.2.1 0 * (2 * d) = 2 * (35 * max V.2.1 0 * d) := by rw [Int.mul_left_comm]
  rw [e1, e2]
  generalize 35 * max V.1 0 * d = x at *
  generalize 35 * max V.2.1 0 * d = y at *
  show 2 * (x / 78) ≤ 2 * x / 78 ∧ (2 * y + 77) / 78 ≤ 2 * ((y + 77) / 78) ∧ 2 * ((y + 77) / 78) - 1 ≤ (2 * y + 77) / 78
  omega
def loadB (pr fo sp ot : Int) : Bool := inB pr 0 10000 && (inB fo 0 20000 && (inB sp 0 2000 && inB ot 0 10000000))
def thickB (ts : List S27) : Bool := ts.all fun t => spanB t.f0 t.f1 1 2000
def askLV (zs : List S170) (f1 f2 : Int) (ts : List S27) (pr fo sp ot : Int) : Int :=
  if bottleV zs f1 f2 = 0 then (if (decide (ts.length = zs.length) && thickB ts) = true then (if loadB pr fo sp ot = true then 0 else 1) else 1) else bottleV zs f1 f2
theorem askLV_less (zs : List S170) (f1 f2 : Int) (ts : List S27) (pr fo sp : Int) {a b : Int} (h0 : 0 ≤ a) (h : a ≤ b) (hb : askLV zs f1 f2 ts pr fo sp b = 0) : askLV zs f1 f2 ts pr fo sp a = 0 := by
  revert hb
  unfold askLV
  split
  · split
    · split
      · rename_i h1
        intro _
        have h2 : loadB pr fo sp a = true := by
          simp only [loadB, inB, Bool.and_eq_true, decide_eq_true_eq] at h1 ⊢
          omega
        rw [if_pos h2]
      · intro h; cases h
    · intro h; cases h
  · intro h; exact absurd h (by assumption)
end Go.Proofs.Ytkjkokgbhepmoaa.PB

namespace Go.Proofs.Ytkjkokgbhepmoaa.PB
open Go.RowKit Go.Proofs.YtkjkokgbhepmoaaW.PrintWords Go.Proofs.YtkjkokgbhepmoaaW.PrintLast Go.Proofs.YtkjkokgbhepmoaaW.PrintMore
structure TurnsAt (p : Nat → Bool) (n c : Nat) : Prop where
  le : c ≤ n
  lo : ∀ t, t < c → p t = false
  hi : ∀ t, c ≤ t → t < n → p t = true
theorem turnsAt_ex (p : Nat → Bool) (hm : ∀ a b, a ≤ b → p a = true → p b = true) : ∀ n, ∃ c, TurnsAt p n c
  | 0 => ⟨0, ⟨Nat.le_refl 0, fun t h => by omega, fun t _ h => by omega⟩⟩
  | n + 1 => by
    obtain ⟨c, h⟩ := turnsAt_ex p hm n
    cases hp : p n with
    | false =>
      refine ⟨n + 1, ⟨Nat.le_refl _, fun t ht => ?_, fun t h1 h2 => by omega⟩⟩
      cases hq : p t with
      | false => rfl
      | true => rw [hm t n (by omega) hq] at hp; cases hp
    | true =>
      by_cases hc : c = n
      · exact ⟨c, ⟨by omega, h.lo, fun t h1 h2 => by rw [show t = n by omega]; exact hp⟩⟩
      · refine ⟨c, ⟨by have := h.le; omega, h.lo, fun t h1 h2 => ?_⟩⟩
        by_cases ht : t = n
        · rw [ht]; exact hp
        · exact h.hi t h1 (by omega)
set_option maxHeartbeats 1000000 in
theorem search_calls (g : Nat) (cb : Array Value) (n : Nat) (p : Nat → Bool) (c : Nat) (w : World) (eg : ∀ args w, (callFunc g args).run Try.prog w = .ok (.enter g args) w) (hn : n < 4611686018427387904) (ht : TurnsAt p n c)
    (hf : ∀ (W : World) (i : Nat), Below w.heap.size w W → i < n → Calls Try.prog g (#[.int .i64 i] ++ cb) W fun e w' => e = .returned (.bool (p i)) ∧ Below W.heap.size W w') :
    Calls Try.prog 175 #[.int .i64 n, .func (.func g) #[] cb] w fun e w' => e = .returned (.int .i64 (c : Nat)) ∧ Below w.heap.size w w' := by
  have HF := Sd.mk hf
  have HT := Sd.mk ht
  clear hf ht
  go_enter Try.func175, Try.ntmps175
  go_wp2
  go_loopg [5, 6] n (fun kx s5 s6 wr => ∃ lo hi : Nat, s5 = .int .i64 lo ∧ s6 = .int .i64 hi ∧ lo ≤ hi ∧ hi ≤ n ∧ hi - lo ≤ kx ∧ Sd (lo ≤ c ∧ c ≤ hi) ∧ Sd (Below w.heap.size w wr))
  case atStart => exact ⟨0, n, rfl, rfl, Nat.zero_le _, Nat.le_refl _, by omega, ⟨⟨Nat.zero_le _, HT.out.le⟩⟩, ⟨Below.refl _ _⟩⟩
  case round =>
    obtain ⟨lo, hi, rfl, rfl, hlh, hin, hg, I, HB⟩ := hrel
    by_cases hlt : lo < hi
    · have hc := HF.out wr ((lo + hi) / 2) HB.out (by omega)
      rw [show (((lo + hi) / 2 : Nat) : Int) = ((lo : Int) + (hi : Int)) / 2 by omega] at hc
      cases hp : p ((lo + hi) / 2) <;> rw [hp] at hc
      · have HP := Sd.mk hp
        clear hp
        go_wp2_with (go_at_fn g; refine hc.mono ?_; rintro e w1 ⟨rfl, hb1⟩)
        go_roundg (hi - ((lo + hi) / 2 + 1))
        case measure => omega
        case rel =>
          have I2 : Sd ((lo + hi) / 2 + 1 ≤ c ∧ c ≤ hi) := ⟨by
            have h1 := HT.out.hi ((lo + hi) / 2)
            rw [HP.out] at h1
            have := I.out
            refine ⟨?_, this.2⟩
            by_cases h2 : c ≤ (lo + hi) / 2
            · exact absurd (h1 h2 (by omega)) (by simp)
            · omega⟩
          exact ⟨(lo + hi) / 2 + 1, hi, by rw [show ((lo : Int) + (hi : Int)) / 2 + 1 = (((lo + hi) / 2 + 1 : Nat) : Int) by omega], rfl, by omega, hin, Nat.le_refl _, I2, ⟨below_trans' HB.out hb1⟩⟩
      · have HP := Sd.mk hp
        clear hp
        go_wp2_with (go_at_fn g; refine hc.mono ?_; rintro e w1 ⟨rfl, hb1⟩)
        go_roundg ((lo + hi) / 2 - lo)
        case measure => omega
        case rel =>
          have I2 : Sd (lo ≤ c ∧ c ≤ (lo + hi) / 2) := ⟨by
            have h1 := HT.out.lo ((lo + hi) / 2)
            rw [HP.out] at h1
            have := I.out
            refine ⟨this.1, ?_⟩
            by_cases h2 : (lo + hi) / 2 < c
            · exact absurd (h1 h2) (by simp)
            · omega⟩
          exact ⟨lo, (lo + hi) / 2, rfl, by rw [show ((lo : Int) + (hi : Int)) / 2 = (((lo + hi) / 2 : Nat) : Int) by omega], by omega, by omega, Nat.le_refl _, I2, ⟨below_trans' HB.out hb1⟩⟩
    · obtain rfl : hi = lo := by omega
      obtain rfl : c = hi := by have := I.out; omega
      go_wp2
      go_ret
      exact ⟨rfl, HB.out⟩
end Go.Proofs.Ytkjkokgbhepmoaa.PB

namespace Go.Proofs.Ytkjkokgbhepmoaa.PB
open Go.RowKit Go.Proofs.YtkjkokgbhepmoaaW.PrintWords Go.Proofs.YtkjkokgbhepmoaaW.PrintLast Go.Proofs.YtkjkokgbhepmoaaW.PrintMore
attribute [local go_sem] max2_int min2_int max_two min_two max_three min_three max_four min_four
def strength_parts_1.f (a0_0 : Int) (a0_1 : Int) (a0_2 : Int) (a0_3 : Int) (a0_4 : Int) (a0_5 : Int) (a0_6 : Int) (a0_7 : Int) (a0_8 : Int) (a0_9 : Int) (a1_0 : Int) (a1_1 : Int) (a2_0 : Int) (a2_1 : Int) (a2_2 : Int) (a2_3 : Int) : Option (Int × Int) := (strength_down.f (wrap64 ((wrap64 (a2_0 * a0_0)) * a0_6)) (wrap64 (100 * a1_1))).bind fun t736 => ((strength_up.f (wrap64 ((wrap64 (a2_0 * a0_1)) * a0_7)) (wrap64 (100 * a1_0))).bind fun t737 => (some (t736, t737)))
set_option maxHeartbeats 8000000 in
set_option maxRecDepth 100000 in
theorem strength_parts_1.calls (a0_0 : Int) (a0_1 : Int) (a0_2 : Int) (a0_3 : Int) (a0_4 : Int) (a0_5 : Int) (a0_6 : Int) (a0_7 : Int) (a0_8 : Int) (a0_9 : Int) (a1_0 : Int) (a1_1 : Int) (a2_0 : Int) (a2_1 : Int) (a2_2 : Int) (a2_3 : Int) (r1 : Int) (r2 : Int) (w : World) (h : strength_parts_1.f a0_0 a0_1 a0_2 a0_3 a0_4 a0_5 a0_6 a0_7 a0_8 a0_9 a1_0 a1_1 a2_0 a2_1 a2_2 a2_3 = some (r1, r2)) :
  Calls Try.prog 177 #[.agg #[.int .i64 a0_0, .int .i64 a0_1, .int .i64 a0_2, .int .i64 a0_3, .int .i64 a0_4, .int .i64 a0_5, .int .i64 a0_6, .int .i64 a0_7, .int .i64 a0_8, .int .i64 a0_9], .agg #[.int .i64 a1_0, .int .i64 a1_1], .agg #[.int .i64 a2_0, .int .i64 a2_1, .int .i64 a2_2, .int .i64 a2_3]] w fun e w' => e = .returned (.tuple #[.int .i64 r1, .int .i64 r2]) ∧ Below w.heap.size w w' := by
 have hu170 := Try.underlying170; have hu27 := Try.underlying27; have hu73 := Try.underlying73; have HB := Sd.mk (Below.refl w.heap.size w)
 have H : ((strength_down.f (wrap64 ((wrap64 (a2_0 * a0_0)) * a0_6)) (wrap64 (100 * a1_1))).bind fun t736 => ((strength_up.f (wrap64 ((wrap64 (a2_0 * a0_1)) * a0_7)) (wrap64 (100 * a1_0))).bind fun t737 => (some (t736, t737)))) = some (r1, r2) := h
 clear h; replace H := Option.bind_eq_some_iff.mp H; obtain ⟨t736, A40, H⟩ := H
 try dsimp only at H
 have A4 := Sd.mk A40; clear A40; replace H := Option.bind_eq_some_iff.mp H; obtain ⟨t737, A50, H⟩ := H
 try dsimp only at H
 have A5 := Sd.mk A50; clear A50
 simp only [Option.some.injEq, Prod.mk.injEq] at H
 obtain ⟨rfl, rfl⟩ := H
 go_enter Try.func177, Try.ntmps177
 go_wp2_with (first | ((with_reducible refine gate_dst (N := 3) rfl ?_); refine box_event ?hg (N := 3) ?hd (cs := #[.int .i64 a0_0, .int .i64 a0_1, .int .i64 a0_2, .int .i64 a0_3, .int .i64 a0_4, .int .i64 a0_5, .int .i64 a0_6, .int .i64 a0_7, .int .i64 a0_8, .int .i64 a0_9]) (t := 170) ?hr ?_; (case hd => rfl); (case hg => rfl); (case hr => exact tG); intro gb733 hg w6 hbox hb; have BK733 := Sd.mk (hbox); have GW733 := Sd.mk (bSz hg (bBl HB.out)); have GE733 := Sd.mk (bSz hg (bBl HB.out)); replace HB := Sd.mk (below_step (bBl HB.out) hb); clear hb hbox hg) | ((with_reducible refine gate_dst (N := 4) rfl ?_); refine box_event ?hg (N := 4) ?hd (cs := #[.int .i64 a1_0, .int .i64 a1_1]) (t := 27) ?hr ?_; (case hd => rfl); (case hg => rfl); (case hr => exact tG); intro gb734 hg w7 hbox hb; have BK734 := Sd.mk (hbox); have GW734 := Sd.mk (bSz hg (bBl HB.out)); have GE734 := Sd.mk (bSz hg (bBl HB.out)); replace HB := Sd.mk (below_step (bBl HB.out) hb); have NB733_734 := Sd.mk (bNl hg (bkA BK733.out)); have NB734_733 := Sd.mk (bNg hg (bkA BK733.out)); replace BK733 := Sd.mk (blk_below (bkA BK733.out) hb); clear hb hbox hg) | ((with_reducible refine gate_dst (N := 5) rfl ?_); refine box_event ?hg (N := 5) ?hd (cs := #[.int .i64 a2_0, .int .i64 a2_1, .int .i64 a2_2, .int .i64 a2_3]) (t := 73) ?hr ?_; (case hd => rfl); (case hg => rfl); (case hr => exact tG); intro gb735 hg w8 hbox hb; have BK735 := Sd.mk (hbox); have GW735 := Sd.mk (bSz hg (bBl HB.out)); have GE735 := Sd.mk (bSz hg (bBl HB.out)); replace HB := Sd.mk (below_step (bBl HB.out) hb); have NB733_735 := Sd.mk (bNl hg (bkA BK733.out)); have NB735_733 := Sd.mk (bNg hg (bkA BK733.out)); replace BK733 := Sd.mk (blk_below (bkA BK733.out) hb); have NB734_735 := Sd.mk (bNl hg (bkA BK734.out)); have NB735_734 := Sd.mk (bNg hg (bkA BK734.out)); replace BK734 := Sd.mk (blk_below (bkA BK734.out) hb); clear hb hbox hg; have hnb9 := NB735_733.out; have hnc9 := NB733_735.out; have hnb10 := NB735_734.out; have hnc10 := NB734_735.out; obtain ⟨u11_0, u11_1, u11_2, u11_3, o11_0, o11_1, o11_2, o11_3⟩ := bc4 (w := w8) BK735.out; have hnb12 := NB733_734.out; have hnc12 := NB734_733.out; obtain ⟨u13_0, u13_1, u13_2, u13_3, u13_4, u13_5, u13_6, u13_7, u13_8, u13_9, o13_0, o13_1, o13_2, o13_3, o13_4, o13_5, o13_6, o13_7, o13_8, o13_9⟩ := bc10 (w := w8) BK733.out; obtain ⟨u14_0, u14_1, o14_0, o14_1⟩ := bc2 (w := w8) BK734.out) | ((with_reducible refine gate_callee (f := 160) rfl ?_); refine goesL_ (some 21) rfl rfl Try.func160 (by kernel_rfl) rfl #[.int .i64 (wrap64 ((wrap64 (a2_0 * a0_0)) * a0_6)), .int .i64 (wrap64 (100 * a1_1))] rfl tM ?_; (with_reducible refine (strength_down.calls (wrap64 ((wrap64 (a2_0 * a0_0)) * a0_6)) (wrap64 (100 * a1_1)) t736 _ A4.out).mono ?_); rintro e w' ⟨rfl, ⟨nd, rfl⟩⟩; refine ⟨_, rfl, ?_⟩) | ((with_reducible refine gate_callee (f := 145) rfl ?_); refine goesL_ (some 35) rfl rfl Try.func145 (by kernel_rfl) rfl #[.int .i64 (wrap64 ((wrap64 (a2_0 * a0_1)) * a0_7)), .int .i64 (wrap64 (100 * a1_0))] rfl tM ?_; (with_reducible refine (strength_up.calls (wrap64 ((wrap64 (a2_0 * a0_1)) * a0_7)) (wrap64 (100 * a1_0)) t737 _ A5.out).mono ?_); rintro e w' ⟨rfl, ⟨nd, rfl⟩⟩; refine ⟨_, rfl, ?_⟩))
 go_ret2
 exact ⟨tE, bBl HB.out⟩
end Go.Proofs.Ytkjkokgbhepmoaa.PB

namespace Go.Proofs.Ytkjkokgbhepmoaa.PB
open Go.RowKit Go.Proofs.YtkjkokgbhepmoaaW.PrintWords Go.Proofs.YtkjkokgbhepmoaaW.PrintLast Go.Proofs.YtkjkokgbhepmoaaW.PrintMore
attribute [local go_sem] max2_int min2_int max_two min_two max_three min_three max_four min_four
def strength_parts_2.f (a0_0 : Int) (a0_1 : Int) (a0_2 : Int) (a0_3 : Int) (a0_4 : Int) (a0_5 : Int) (a0_6 : Int) (a0_7 : Int) (a0_8 : Int) (a0_9 : Int) (a1_0 : Int) (a1_1 : Int) (a2_0 : Int) (a2_1 : Int) (a2_2 : Int) (a2_3 : Int) : Option (Int × Int) := (strength_down.f (wrap64 ((wrap64 (500000 * a2_1)) * 113)) (wrap64 ((wrap64 (355 * a0_1)) * a1_1))).bind fun t741 => ((strength_up.f (wrap64 ((wrap64 (500000 * a2_1)) * 106)) (wrap64 ((wrap64 (333 * a0_0)) * a1_0))).bind fun t742 => (some (t741, t742)))
set_option maxHeartbeats 8000000 in
set_option maxRecDepth 100000 in
theorem strength_parts_2.calls (a0_0 : Int) (a0_1 : Int) (a0_2 : Int) (a0_3 : Int) (a0_4 : Int) (a0_5 : Int) (a0_6 : Int) (a0_7 : Int) (a0_8 : Int) (a0_9 : Int) (a1_0 : Int) (a1_1 : Int) (a2_0 : Int) (a2_1 : Int) (a2_2 : Int) (a2_3 : Int) (r1 : Int) (r2 : Int) (w : World) (h : strength_parts_2.f a0_0 a0_1 a0_2 a0_3 a0_4 a0_5 a0_6 a0_7 a0_8 a0_9 a1_0 a1_1 a2_0 a2_1 a2_2 a2_3 = some (r1, r2)) :
  Calls Try.prog 178 #[.agg #[.int .i64 a0_0, .int .i64 a0_1, .int .i64 a0_2, .int .i64 a0_3, .int .i64 a0_4, .int .i64 a0_5, .int .i64 a0_6, .int .i64 a0_7, .int .i64 a0_8, .int .i64 a0_9], .agg #[.int .i64 a1_0, .int .i64 a1_1], .agg #[.int .i64 a2_0, .int .i64 a2_1, .int .i64 a2_2, .int .i64 a2_3]] w fun e w' => e = .returned (.tuple #[.int .i64 r1, .int .i64 r2]) ∧ Below w.heap.size w w' := by
 have hu170 := Try.underlying170; have hu27 := Try.underlying27; have hu73 := Try.underlying73; have HB := Sd.mk (Below.refl w.heap.size w)
 have H : ((strength_down.f (wrap64 ((wrap64 (500000 * a2_1)) * 113)) (wrap64 ((wrap64 (355 * a0_1)) * a1_1))).bind fun t741 => ((strength_up.f (wrap64 ((wrap64 (500000 * a2_1)) * 106)) (wrap64 ((wrap64 (333 * a0_0)) * a1_0))).bind fun t742 => (some (t741, t742)))) = some (r1, r2) := h
 clear h; replace H := Option.bind_eq_some_iff.mp H; obtain ⟨t741, A40, H⟩ := H
 try dsimp only at H
 have A4 := Sd.mk A40; clear A40; replace H := Option.bind_eq_some_iff.mp H; obtain ⟨t742, A50, H⟩ := H
 try dsimp only at H
 have A5 := Sd.mk A50; clear A50
 simp only [Option.some.injEq, Prod.mk.injEq] at H
 obtain ⟨rfl, rfl⟩ := H
 go_enter Try.func178, Try.ntmps178
 go_wp2_with (first | ((with_reducible refine gate_dst (N := 3) rfl ?_); refine box_event ?hg (N := 3) ?hd (cs := #[.int .i64 a0_0, .int .i64 a0_1, .int .i64 a0_2, .int .i64 a0_3, .int .i64 a0_4, .int .i64 a0_5, .int .i64 a0_6, .int .i64 a0_7, .int .i64 a0_8, .int .i64 a0_9]) (t := 170) ?hr ?_; (case hd => rfl); (case hg => rfl); (case hr => exact tG); intro gb738 hg w6 hbox hb; have BK738 := Sd.mk (hbox); have GW738 := Sd.mk (bSz hg (bBl HB.out)); have GE738 := Sd.mk (bSz hg (bBl HB.out)); replace HB := Sd.mk (below_step (bBl HB.out) hb); clear hb hbox hg) | ((with_reducible refine gate_dst (N := 4) rfl ?_); refine box_event ?hg (N := 4) ?hd (cs := #[.int .i64 a1_0, .int .i64 a1_1]) (t := 27) ?hr ?_; (case hd => rfl); (case hg => rfl); (case hr => exact tG); intro gb739 hg w7 hbox hb; have BK739 := Sd.mk (hbox); have GW739 := Sd.mk (bSz hg (bBl HB.out)); have GE739 := Sd.mk (bSz hg (bBl HB.out)); replace HB := Sd.mk (below_step (bBl HB.out) hb); have NB738_739 := Sd.mk (bNl hg (bkA BK738.out)); have NB739_738 := Sd.mk (bNg hg (bkA BK738.out)); replace BK738 := Sd.mk (blk_below (bkA BK738.out) hb); clear hb hbox hg) | ((with_reducible refine gate_dst (N := 5) rfl ?_); refine box_event ?hg (N := 5) ?hd (cs := #[.int .i64 a2_0, .int .i64 a2_1, .int .i64 a2_2, .int .i64 a2_3]) (t := 73) ?hr ?_; (case hd => rfl); (case hg => rfl); (case hr => exact tG); intro gb740 hg w8 hbox hb; have BK740 := Sd.mk (hbox); have GW740 := Sd.mk (bSz hg (bBl HB.out)); have GE740 := Sd.mk (bSz hg (bBl HB.out)); replace HB := Sd.mk (below_step (bBl HB.out) hb); have NB738_740 := Sd.mk (bNl hg (bkA BK738.out)); have NB740_738 := Sd.mk (bNg hg (bkA BK738.out)); replace BK738 := Sd.mk (blk_below (bkA BK738.out) hb); have NB739_740 := Sd.mk (bNl hg (bkA BK739.out)); have NB740_739 := Sd.mk (bNg hg (bkA BK739.out)); replace BK739 := Sd.mk (blk_below (bkA BK739.out) hb); clear hb hbox hg; have hnb9 := NB740_738.out; have hnc9 := NB738_740.out; have hnb10 := NB740_739.out; have hnc10 := NB739_740.out; obtain ⟨u11_0, u11_1, u11_2, u11_3, o11_0, o11_1, o11_2, o11_3⟩ := bc4 (w := w8) BK740.out; have hnb12 := NB738_739.out; have hnc12 := NB739_738.out; obtain ⟨u13_0, u13_1, u13_2, u13_3, u13_4, u13_5, u13_6, u13_7, u13_8, u13_9, o13_0, o13_1, o13_2, o13_3, o13_4, o13_5, o13_6, o13_7, o13_8, o13_9⟩ := bc10 (w := w8) BK738.out; obtain ⟨u14_0, u14_1, o14_0, o14_1⟩ := bc2 (w := w8) BK739.out) | ((with_reducible refine gate_callee (f := 160) rfl ?_); refine goesL_ (some 19) rfl rfl Try.func160 (by kernel_rfl) rfl #[.int .i64 (wrap64 ((wrap64 (500000 * a2_1)) * 113)), .int .i64 (wrap64 ((wrap64 (355 * a0_1)) * a1_1))] rfl tM ?_; (with_reducible refine (strength_down.calls (wrap64 ((wrap64 (500000 * a2_1)) * 113)) (wrap64 ((wrap64 (355 * a0_1)) * a1_1)) t741 _ A4.out).mono ?_); rintro e w' ⟨rfl, ⟨nd, rfl⟩⟩; refine ⟨_, rfl, ?_⟩) | ((with_reducible refine gate_callee (f := 145) rfl ?_); refine goesL_ (some 31) rfl rfl Try.func145 (by kernel_rfl) rfl #[.int .i64 (wrap64 ((wrap64 (500000 * a2_1)) * 106)), .int .i64 (wrap64 ((wrap64 (333 * a0_0)) * a1_0))] rfl tM ?_; (with_reducible refine (strength_up.calls (wrap64 ((wrap64 (500000 * a2_1)) * 106)) (wrap64 ((wrap64 (333 * a0_0)) * a1_0)) t742 _ A5.out).mono ?_); rintro e w' ⟨rfl, ⟨nd, rfl⟩⟩; refine ⟨_, rfl, ?_⟩))
 go_ret2
 exact ⟨tE, bBl HB.out⟩
end Go.Proofs.Ytkjkokgbhepmoaa.PB

namespace Go.Proofs.Ytkjkokgbhepmoaa.PB
open Go.RowKit Go.Proofs.YtkjkokgbhepmoaaW.PrintWords Go.Proofs.YtkjkokgbhepmoaaW.PrintLast Go.Proofs.YtkjkokgbhepmoaaW.PrintMore
attribute [local go_sem] max2_int min2_int max_two min_two max_three min_three max_four min_four
def strength_parts_3.f (a0_0 : Int) (a0_1 : Int) (a0_2 : Int) (a0_3 : Int) (a0_4 : Int) (a0_5 : Int) (a0_6 : Int) (a0_7 : Int) (a0_8 : Int) (a0_9 : Int) (a1_0 : Int) (a1_1 : Int) (a2_0 : Int) (a2_1 : Int) (a2_2 : Int) (a2_3 : Int) : Option (Int × Int) := (strength_down.f (wrap64 (a0_8 * a2_2)) a1_1).bind fun t746 => ((strength_up.f (wrap64 (a0_9 * a2_2)) a1_0).bind fun t747 => (some (t746, t747)))
set_option maxHeartbeats 8000000 in
set_option maxRecDepth 100000 in
theorem strength_parts_3.calls (a0_0 : Int) (a0_1 : Int) (a0_2 : Int) (a0_3 : Int) (a0_4 : Int) (a0_5 : Int) (a0_6 : Int) (a0_7 : Int) (a0_8 : Int) (a0_9 : Int) (a1_0 : Int) (a1_1 : Int) (a2_0 : Int) (a2_1 : Int) (a2_2 : Int) (a2_3 : Int) (r1 : Int) (r2 : Int) (w : World) (h : strength_parts_3.f a0_0 a0_1 a0_2 a0_3 a0_4 a0_5 a0_6 a0_7 a0_8 a0_9 a1_0 a1_1 a2_0 a2_1 a2_2 a2_3 = some (r1, r2)) :
  Calls Try.prog 179 #[.agg #[.int .i64 a0_0, .int .i64 a0_1, .int .i64 a0_2, .int .i64 a0_3, .int .i64 a0_4, .int .i64 a0_5, .int .i64 a0_6, .int .i64 a0_7, .int .i64 a0_8, .int .i64 a0_9], .agg #[.int .i64 a1_0, .int .i64 a1_1], .agg #[.int .i64 a2_0, .int .i64 a2_1, .int .i64 a2_2, .int .i64 a2_3]] w fun e w' => e = .returned (.tuple #[.int .i64 r1, .int .i64 r2]) ∧ Below w.heap.size w w' := by
 have hu170 := Try.underlying170; have hu27 := Try.underlying27; have hu73 := Try.underlying73; have HB := Sd.mk (Below.refl w.heap.size w)
 have H : ((strength_down.f (wrap64 (a0_8 * a2_2)) a1_1).bind fun t746 => ((strength_up.f (wrap64 (a0_9 * a2_2)) a1_0).bind fun t747 => (some (t746, t747)))) = some (r1, r2) := h
 clear h; replace H := Option.bind_eq_some_iff.mp H; obtain ⟨t746, A40, H⟩ := H
 try dsimp only at H
 have A4 := Sd.mk A40; clear A40; replace H := Option.bind_eq_some_iff.mp H; obtain ⟨t747, A50, H⟩ := H
 try dsimp only at H
 have A5 := Sd.mk A50; clear A50
 simp only [Option.some.injEq, Prod.mk.injEq] at H
 obtain ⟨rfl, rfl⟩ := H
 go_enter Try.func179, Try.ntmps179
 go_wp2_with (first | ((with_reducible refine gate_dst (N := 3) rfl ?_); refine box_event ?hg (N := 3) ?hd (cs := #[.int .i64 a0_0, .int .i64 a0_1, .int .i64 a0_2, .int .i64 a0_3, .int .i64 a0_4, .int .i64 a0_5, .int .i64 a0_6, .int .i64 a0_7, .int .i64 a0_8, .int .i64 a0_9]) (t := 170) ?hr ?_; (case hd => rfl); (case hg => rfl); (case hr => exact tG); intro gb743 hg w6 hbox hb; have BK743 := Sd.mk (hbox); have GW743 := Sd.mk (bSz hg (bBl HB.out)); have GE743 := Sd.mk (bSz hg (bBl HB.out)); replace HB := Sd.mk (below_step (bBl HB.out) hb); clear hb hbox hg) | ((with_reducible refine gate_dst (N := 4) rfl ?_); refine box_event ?hg (N := 4) ?hd (cs := #[.int .i64 a1_0, .int .i64 a1_1]) (t := 27) ?hr ?_; (case hd => rfl); (case hg => rfl); (case hr => exact tG); intro gb744 hg w7 hbox hb; have BK744 := Sd.mk (hbox); have GW744 := Sd.mk (bSz hg (bBl HB.out)); have GE744 := Sd.mk (bSz hg (bBl HB.out)); replace HB := Sd.mk (below_step (bBl HB.out) hb); have NB743_744 := Sd.mk (bNl hg (bkA BK743.out)); have NB744_743 := Sd.mk (bNg hg (bkA BK743.out)); replace BK743 := Sd.mk (blk_below (bkA BK743.out) hb); clear hb hbox hg) | ((with_reducible refine gate_dst (N := 5) rfl ?_); refine box_event ?hg (N := 5) ?hd (cs := #[.int .i64 a2_0, .int .i64 a2_1, .int .i64 a2_2, .int .i64 a2_3]) (t := 73) ?hr ?_; (case hd => rfl); (case hg => rfl); (case hr => exact tG); intro gb745 hg w8 hbox hb; have BK745 := Sd.mk (hbox); have GW745 := Sd.mk (bSz hg (bBl HB.out)); have GE745 := Sd.mk (bSz hg (bBl HB.out)); replace HB := Sd.mk (below_step (bBl HB.out) hb); have NB743_745 := Sd.mk (bNl hg (bkA BK743.out)); have NB745_743 := Sd.mk (bNg hg (bkA BK743.out)); replace BK743 := Sd.mk (blk_below (bkA BK743.out) hb); have NB744_745 := Sd.mk (bNl hg (bkA BK744.out)); have NB745_744 := Sd.mk (bNg hg (bkA BK744.out)); replace BK744 := Sd.mk (blk_below (bkA BK744.out) hb); clear hb hbox hg; have hnb9 := NB743_744.out; have hnc9 := NB744_743.out; have hnb10 := NB743_745.out; have hnc10 := NB745_743.out; obtain ⟨u11_0, u11_1, u11_2, u11_3, u11_4, u11_5, u11_6, u11_7, u11_8, u11_9, o11_0, o11_1, o11_2, o11_3, o11_4, o11_5, o11_6, o11_7, o11_8, o11_9⟩ := bc10 (w := w8) BK743.out; have hnb12 := NB745_744.out; have hnc12 := NB744_745.out; obtain ⟨u13_0, u13_1, u13_2, u13_3, o13_0, o13_1, o13_2, o13_3⟩ := bc4 (w := w8) BK745.out; obtain ⟨u14_0, u14_1, o14_0, o14_1⟩ := bc2 (w := w8) BK744.out) | (go_at_call 160; (with_reducible refine (strength_down.calls (wrap64 (a0_8 * a2_2)) a1_1 t746 _ A4.out).mono ?_); rintro e w' ⟨rfl, ⟨nd, rfl⟩⟩; (try exact tD)) | (go_at_call 145; (with_reducible refine (strength_up.calls (wrap64 (a0_9 * a2_2)) a1_0 t747 _ A5.out).mono ?_); rintro e w' ⟨rfl, ⟨nd, rfl⟩⟩; (try exact tD)))
 repeat (go_quiet (first | ((with_reducible refine gate_dst (N := 3) rfl ?_); refine box_event ?hg (N := 3) ?hd (cs := #[.int .i64 a0_0, .int .i64 a0_1, .int .i64 a0_2, .int .i64 a0_3, .int .i64 a0_4, .int .i64 a0_5, .int .i64 a0_6, .int .i64 a0_7, .int .i64 a0_8, .int .i64 a0_9]) (t := 170) ?hr ?_; (case hd => rfl); (case hg => rfl); (case hr => exact tG); intro gb743 hg w6 hbox hb; have BK743 := Sd.mk (hbox); have GW743 := Sd.mk (bSz hg (bBl HB.out)); have GE743 := Sd.mk (bSz hg (bBl HB.out)); replace HB := Sd.mk (below_step (bBl HB.out) hb); clear hb hbox hg) | ((with_reducible refine gate_dst (N := 4) rfl ?_); refine box_event ?hg (N := 4) ?hd (cs := #[.int .i64 a1_0, .int .i64 a1_1]) (t := 27) ?hr ?_; (case hd => rfl); (case hg => rfl); (case hr => exact tG); intro gb744 hg w7 hbox hb; have BK744 := Sd.mk (hbox); have GW744 := Sd.mk (bSz hg (bBl HB.out)); have GE744 := Sd.mk (bSz hg (bBl HB.out)); replace HB := Sd.mk (below_step (bBl HB.out) hb); have NB743_744 := Sd.mk (bNl hg (bkA BK743.out)); have NB744_743 := Sd.mk (bNg hg (bkA BK743.out)); replace BK743 := Sd.mk (blk_below (bkA BK743.out) hb); clear hb hbox hg) | ((with_reducible refine gate_dst (N := 5) rfl ?_); refine box_event ?hg (N := 5) ?hd (cs := #[.int .i64 a2_0, .int .i64 a2_1, .int .i64 a2_2, .int .i64 a2_3]) (t := 73) ?hr ?_; (case hd => rfl); (case hg => rfl); (case hr => exact tG); intro gb745 hg w8 hbox hb; have BK745 := Sd.mk (hbox); have GW745 := Sd.mk (bSz hg (bBl HB.out)); have GE745 := Sd.mk (bSz hg (bBl HB.out)); replace HB := Sd.mk (below_step (bBl HB.out) hb); have NB743_745 := Sd.mk (bNl hg (bkA BK743.out)); have NB745_743 := Sd.mk (bNg hg (bkA BK743.out)); replace BK743 := Sd.mk (blk_below (bkA BK743.out) hb); have NB744_745 := Sd.mk (bNl hg (bkA BK744.out)); have NB745_744 := Sd.mk (bNg hg (bkA BK744.out)); replace BK744 := Sd.mk (blk_below (bkA BK744.out) hb); clear hb hbox hg; have hnb9 := NB743_744.out; have hnc9 := NB744_743.out; have hnb10 := NB743_745.out; have hnc10 := NB745_743.out; obtain ⟨u11_0, u11_1, u11_2, u11_3, u11_4, u11_5, u11_6, u11_7, u11_8, u11_9, o11_0, o11_1, o11_2, o11_3, o11_4, o11_5, o11_6, o11_7, o11_8, o11_9⟩ := bc10 (w := w8) BK743.out; have hnb12 := NB745_744.out; have hnc12 := NB744_745.out; obtain ⟨u13_0, u13_1, u13_2, u13_3, o13_0, o13_1, o13_2, o13_3⟩ := bc4 (w := w8) BK745.out; obtain ⟨u14_0, u14_1, o14_0, o14_1⟩ := bc2 (w := w8) BK744.out) | (go_at_call 160; (with_reducible refine (strength_down.calls (wrap64 (a0_8 * a2_2)) a1_1 t746 _ A4.out).mono ?_); rintro e w' ⟨rfl, ⟨nd, rfl⟩⟩; (try exact tD)) | (go_at_call 145; (with_reducible refine (strength_up.calls (wrap64 (a0_9 * a2_2)) a1_0 t747 _ A5.out).mono ?_); rintro e w' ⟨rfl, ⟨nd, rfl⟩⟩; (try exact tD))); try go_wp2_with (first | ((with_reducible refine gate_dst (N := 3) rfl ?_); refine box_event ?hg (N := 3) ?hd (cs := #[.int .i64 a0_0, .int .i64 a0_1, .int .i64 a0_2, .int .i64 a0_3, .int .i64 a0_4, .int .i64 a0_5, .int .i64 a0_6, .int .i64 a0_7, .int .i64 a0_8, .int .i64 a0_9]) (t := 170) ?hr ?_; (case hd => rfl); (case hg => rfl); (case hr => exact tG); intro gb743 hg w6 hbox hb; have BK743 := Sd.mk (hbox); have GW743 := Sd.mk (bSz hg (bBl HB.out)); have GE743 := Sd.mk (bSz hg (bBl HB.out)); replace HB := Sd.mk (below_step (bBl HB.out) hb); clear hb hbox hg) | ((with_reducible refine gate_dst (N := 4) rfl ?_); refine box_event ?hg (N := 4) ?hd (cs := #[.int .i64 a1_0, .int .i64 a1_1]) (t := 27) ?hr ?_; (case hd => rfl); (case hg => rfl); (case hr => exact tG); intro gb744 hg w7 hbox hb; have BK744 := Sd.mk (hbox); have GW744 := Sd.mk (bSz hg (bBl HB.out)); have GE744 := Sd.mk (bSz hg (bBl HB.out)); replace HB := Sd.mk (below_step (bBl HB.out) hb); have NB743_744 := Sd.mk (bNl hg (bkA BK743.out)); have NB744_743 := Sd.mk (bNg hg (bkA BK743.out)); replace BK743 := Sd.mk (blk_below (bkA BK743.out) hb); clear hb hbox hg) | ((with_reducible refine gate_dst (N := 5) rfl ?_); refine box_event ?hg (N := 5) ?hd (cs := #[.int .i64 a2_0, .int .i64 a2_1, .int .i64 a2_2, .int .i64 a2_3]) (t := 73) ?hr ?_; (case hd => rfl); (case hg => rfl); (case hr => exact tG); intro gb745 hg w8 hbox hb; have BK745 := Sd.mk (hbox); have GW745 := Sd.mk (bSz hg (bBl HB.out)); have GE745 := Sd.mk (bSz hg (bBl HB.out)); replace HB := Sd.mk (below_step (bBl HB.out) hb); have NB743_745 := Sd.mk (bNl hg (bkA BK743.out)); have NB745_743 := Sd.mk (bNg hg (bkA BK743.out)); replace BK743 := Sd.mk (blk_below (bkA BK743.out) hb); have NB744_745 := Sd.mk (bNl hg (bkA BK744.out)); have NB745_744 := Sd.mk (bNg hg (bkA BK744.out)); replace BK744 := Sd.mk (blk_below (bkA BK744.out) hb); clear hb hbox hg; have hnb9 := NB743_744.out; have hnc9 := NB744_743.out; have hnb10 := NB743_745.out; have hnc10 := NB745_743.out; obtain ⟨u11_0, u11_1, u11_2, u11_3, u11_4, u11_5, u11_6, u11_7, u11_8, u11_9, o11_0, o11_1, o11_2, o11_3, o11_4, o11_5, o11_6, o11_7, o11_8, o11_9⟩ := bc10 (w := w8) BK743.out; have hnb12 := NB745_744.out; have hnc12 := NB744_745.out; obtain ⟨u13_0, u13_1, u13_2, u13_3, o13_0, o13_1, o13_2, o13_3⟩ := bc4 (w := w8) BK745.out; obtain ⟨u14_0, u14_1, o14_0, o14_1⟩ := bc2 (w := w8) BK744.out) | (go_at_call 160; (with_reducible refine (strength_down.calls (wrap64 (a0_8 * a2_2)) a1_1 t746 _ A4.out).mono ?_); rintro e w' ⟨rfl, ⟨nd, rfl⟩⟩; (try exact tD)) | (go_at_call 145; (with_reducible refine (strength_up.calls (wrap64 (a0_9 * a2_2)) a1_0 t747 _ A5.out).mono ?_); rintro e w' ⟨rfl, ⟨nd, rfl⟩⟩; (try exact tD))))
 go_ret2
 exact ⟨tE, bBl HB.out⟩
end Go.Proofs.Ytkjkokgbhepmoaa.PB

namespace Go.Proofs.Ytkjkokgbhepmoaa.PB
open Go.RowKit Go.Proofs.YtkjkokgbhepmoaaW.PrintWords Go.Proofs.YtkjkokgbhepmoaaW.PrintLast Go.Proofs.YtkjkokgbhepmoaaW.PrintMore
attribute [local go_sem] max2_int min2_int max_two min_two max_three min_three max_four min_four
def strength_parts_4.f (a0_0 : Int) (a0_1 : Int) (a0_2 : Int) (a0_3 : Int) (a0_4 : Int) (a0_5 : Int) (a0_6 : Int) (a0_7 : Int) (a0_8 : Int) (a0_9 : Int) (a1_0 : Int) (a1_1 : Int) (a2_0 : Int) (a2_1 : Int) (a2_2 : Int) (a2_3 : Int) : Option (Int × Int) := some (a2_3, a2_3)
set_option maxHeartbeats 8000000 in
set_option maxRecDepth 100000 in
theorem strength_parts_4.calls (a0_0 : Int) (a0_1 : Int) (a0_2 : Int) (a0_3 : Int) (a0_4 : Int) (a0_5 : Int) (a0_6 : Int) (a0_7 : Int) (a0_8 : Int) (a0_9 : Int) (a1_0 : Int) (a1_1 : Int) (a2_0 : Int) (a2_1 : Int) (a2_2 : Int) (a2_3 : Int) (r1 : Int) (r2 : Int) (w : World) (h : strength_parts_4.f a0_0 a0_1 a0_2 a0_3 a0_4 a0_5 a0_6 a0_7 a0_8 a0_9 a1_0 a1_1 a2_0 a2_1 a2_2 a2_3 = some (r1, r2)) :
  Calls Try.prog 180 #[.agg #[.int .i64 a0_0, .int .i64 a0_1, .int .i64 a0_2, .int .i64 a0_3, .int .i64 a0_4, .int .i64 a0_5, .int .i64 a0_6, .int .i64 a0_7, .int .i64 a0_8, .int .i64 a0_9], .agg #[.int .i64 a1_0, .int .i64 a1_1], .agg #[.int .i64 a2_0, .int .i64 a2_1, .int .i64 a2_2, .int .i64 a2_3]] w fun e w' => e = .returned (.tuple #[.int .i64 r1, .int .i64 r2]) ∧ Below w.heap.size w w' := by
 have hu170 := Try.underlying170; have hu27 := Try.underlying27; have hu73 := Try.underlying73; have HB := Sd.mk (Below.refl w.heap.size w)
 have H : (some (a2_3, a2_3)) = some (r1, r2) := h
 clear h
 simp only [Option.some.injEq, Prod.mk.injEq] at H
 obtain ⟨rfl, rfl⟩ := H
 go_enter Try.func180, Try.ntmps180
 go_wp2_with (first | ((with_reducible refine gate_dst (N := 3) rfl ?_); refine box_event ?hg (N := 3) ?hd (cs := #[.int .i64 a0_0, .int .i64 a0_1, .int .i64 a0_2, .int .i64 a0_3, .int .i64 a0_4, .int .i64 a0_5, .int .i64 a0_6, .int .i64 a0_7, .int .i64 a0_8, .int .i64 a0_9]) (t := 170) ?hr ?_; (case hd => rfl); (case hg => rfl); (case hr => exact tG); intro gb748 hg w4 hbox hb; have BK748 := Sd.mk (hbox); have GW748 := Sd.mk (bSz hg (bBl HB.out)); have GE748 := Sd.mk (bSz hg (bBl HB.out)); replace HB := Sd.mk (below_step (bBl HB.out) hb); clear hb hbox hg) | ((with_reducible refine gate_dst (N := 4) rfl ?_); refine box_event ?hg (N := 4) ?hd (cs := #[.int .i64 a1_0, .int .i64 a1_1]) (t := 27) ?hr ?_; (case hd => rfl); (case hg => rfl); (case hr => exact tG); intro gb749 hg w5 hbox hb; have BK749 := Sd.mk (hbox); have GW749 := Sd.mk (bSz hg (bBl HB.out)); have GE749 := Sd.mk (bSz hg (bBl HB.out)); replace HB := Sd.mk (below_step (bBl HB.out) hb); have NB748_749 := Sd.mk (bNl hg (bkA BK748.out)); have NB749_748 := Sd.mk (bNg hg (bkA BK748.out)); replace BK748 := Sd.mk (blk_below (bkA BK748.out) hb); clear hb hbox hg) | ((with_reducible refine gate_dst (N := 5) rfl ?_); refine box_event ?hg (N := 5) ?hd (cs := #[.int .i64 a2_0, .int .i64 a2_1, .int .i64 a2_2, .int .i64 a2_3]) (t := 73) ?hr ?_; (case hd => rfl); (case hg => rfl); (case hr => exact tG); intro gb750 hg w6 hbox hb; have BK750 := Sd.mk (hbox); have GW750 := Sd.mk (bSz hg (bBl HB.out)); have GE750 := Sd.mk (bSz hg (bBl HB.out)); replace HB := Sd.mk (below_step (bBl HB.out) hb); have NB748_750 := Sd.mk (bNl hg (bkA BK748.out)); have NB750_748 := Sd.mk (bNg hg (bkA BK748.out)); replace BK748 := Sd.mk (blk_below (bkA BK748.out) hb); have NB749_750 := Sd.mk (bNl hg (bkA BK749.out)); have NB750_749 := Sd.mk (bNg hg (bkA BK749.out)); replace BK749 := Sd.mk (blk_below (bkA BK749.out) hb); clear hb hbox hg; have hnb7 := NB750_748.out; have hnc7 := NB748_750.out; have hnb8 := NB750_749.out; have hnc8 := NB749_750.out; obtain ⟨u9_0, u9_1, u9_2, u9_3, o9_0, o9_1, o9_2, o9_3⟩ := bc4 (w := w6) BK750.out))
 repeat (go_quiet (first | ((with_reducible refine gate_dst (N := 3) rfl ?_); refine box_event ?hg (N := 3) ?hd (cs := #[.int .i64 a0_0, .int .i64 a0_1, .int .i64 a0_2, .int .i64 a0_3, .int .i64 a0_4, .int .i64 a0_5, .int .i64 a0_6, .int .i64 a0_7, .int .i64 a0_8, .int .i64 a0_9]) (t := 170) ?hr ?_; (case hd => rfl); (case hg => rfl); (case hr => exact tG); intro gb748 hg w4 hbox hb; have BK748 := Sd.mk (hbox); have GW748 := Sd.mk (bSz hg (bBl HB.out)); have GE748 := Sd.mk (bSz hg (bBl HB.out)); replace HB := Sd.mk (below_step (bBl HB.out) hb); clear hb hbox hg) | ((with_reducible refine gate_dst (N := 4) rfl ?_); refine box_event ?hg (N := 4) ?hd (cs := #[.int .i64 a1_0, .int .i64 a1_1]) (t := 27) ?hr ?_; (case hd => rfl); (case hg => rfl); (case hr => exact tG); intro gb749 hg w5 hbox hb; have BK749 := Sd.mk (hbox); have GW749 := Sd.mk (bSz hg (bBl HB.out)); have GE749 := Sd.mk (bSz hg (bBl HB.out)); replace HB := Sd.mk (below_step (bBl HB.out) hb); have NB748_749 := Sd.mk (bNl hg (bkA BK748.out)); have NB749_748 := Sd.mk (bNg hg (bkA BK748.out)); replace BK748 := Sd.mk (blk_below (bkA BK748.out) hb); clear hb hbox hg) | ((with_reducible refine gate_dst (N := 5) rfl ?_); refine box_event ?hg (N := 5) ?hd (cs := #[.int .i64 a2_0, .int .i64 a2_1, .int .i64 a2_2, .int .i64 a2_3]) (t := 73) ?hr ?_; (case hd => rfl); (case hg => rfl); (case hr => exact tG); intro gb750 hg w6 hbox hb; have BK750 := Sd.mk (hbox); have GW750 := Sd.mk (bSz hg (bBl HB.out)); have GE750 := Sd.mk (bSz hg (bBl HB.out)); replace HB := Sd.mk (below_step (bBl HB.out) hb); have NB748_750 := Sd.mk (bNl hg (bkA BK748.out)); have NB750_748 := Sd.mk (bNg hg (bkA BK748.out)); replace BK748 := Sd.mk (blk_below (bkA BK748.out) hb); have NB749_750 := Sd.mk (bNl hg (bkA BK749.out)); have NB750_749 := Sd.mk (bNg hg (bkA BK749.out)); replace BK749 := Sd.mk (blk_below (bkA BK749.out) hb); clear hb hbox hg; have hnb7 := NB750_748.out; have hnc7 := NB748_750.out; have hnb8 := NB750_749.out; have hnc8 := NB749_750.out; obtain ⟨u9_0, u9_1, u9_2, u9_3, o9_0, o9_1, o9_2, o9_3⟩ := bc4 (w := w6) BK750.out)); try go_wp2_with (first | ((with_reducible refine gate_dst (N := 3) rfl ?_); refine box_event ?hg (N := 3) ?hd (cs := #[.int .i64 a0_0, .int .i64 a0_1, .int .i64 a0_2, .int .i64 a0_3, .int .i64 a0_4, .int .i64 a0_5, .int .i64 a0_6, .int .i64 a0_7, .int .i64 a0_8, .int .i64 a0_9]) (t := 170) ?hr ?_; (case hd => rfl); (case hg => rfl); (case hr => exact tG); intro gb748 hg w4 hbox hb; have BK748 := Sd.mk (hbox); have GW748 := Sd.mk (bSz hg (bBl HB.out)); have GE748 := Sd.mk (bSz hg (bBl HB.out)); replace HB := Sd.mk (below_step (bBl HB.out) hb); clear hb hbox hg) | ((with_reducible refine gate_dst (N := 4) rfl ?_); refine box_event ?hg (N := 4) ?hd (cs := #[.int .i64 a1_0, .int .i64 a1_1]) (t := 27) ?hr ?_; (case hd => rfl); (case hg => rfl); (case hr => exact tG); intro gb749 hg w5 hbox hb; have BK749 := Sd.mk (hbox); have GW749 := Sd.mk (bSz hg (bBl HB.out)); have GE749 := Sd.mk (bSz hg (bBl HB.out)); replace HB := Sd.mk (below_step (bBl HB.out) hb); have NB748_749 := Sd.mk (bNl hg (bkA BK748.out)); have NB749_748 := Sd.mk (bNg hg (bkA BK748.out)); replace BK748 := Sd.mk (blk_below (bkA BK748.out) hb); clear hb hbox hg) | ((with_reducible refine gate_dst (N := 5) rfl ?_); refine box_event ?hg (N := 5) ?hd (cs := #[.int .i64 a2_0, .int .i64 a2_1, .int .i64 a2_2, .int .i64 a2_3]) (t := 73) ?hr ?_; (case hd => rfl); (case hg => rfl); (case hr => exact tG); intro gb750 hg w6 hbox hb; have BK750 := Sd.mk (hbox); have GW750 := Sd.mk (bSz hg (bBl HB.out)); have GE750 := Sd.mk (bSz hg (bBl HB.out)); replace HB := Sd.mk (below_step (bBl HB.out) hb); have NB748_750 := Sd.mk (bNl hg (bkA BK748.out)); have NB750_748 := Sd.mk (bNg hg (bkA BK748.out)); replace BK748 := Sd.mk (blk_below (bkA BK748.out) hb); have NB749_750 := Sd.mk (bNl hg (bkA BK749.out)); have NB750_749 := Sd.mk (bNg hg (bkA BK749.out)); replace BK749 := Sd.mk (blk_below (bkA BK749.out) hb); clear hb hbox hg; have hnb7 := NB750_748.out; have hnc7 := NB748_750.out; have hnb8 := NB750_749.out; have hnc8 := NB749_750.out; obtain ⟨u9_0, u9_1, u9_2, u9_3, o9_0, o9_1, o9_2, o9_3⟩ := bc4 (w := w6) BK750.out)))
 go_ret2
 exact ⟨tE, bBl HB.out⟩
end Go.Proofs.Ytkjkokgbhepmoaa.PB

namespace Go.Proofs.Ytkjkokgbhepmoaa.PB
open Go.RowKit Go.Proofs.YtkjkokgbhepmoaaW.PrintWords Go.Proofs.YtkjkokgbhepmoaaW.PrintLast Go.Proofs.YtkjkokgbhepmoaaW.PrintMore
section
variable {P : Program} {ops : Array Oper} {rest : List Oper} {o : Oper} {a : Act} {Q : Exit → Act → World → Prop} {w : World}
theorem wp_loadrow_s (t : TypeId) (x : Operand) (ad : Addr) (v : Value) (hw : Region.wanted o (yielded ops a.tmps) = true) (ho : o.op = .load t x) (hx : a.eval x = .pointer (some ad)) (hr : (loadVar t ad).run P w = .ok v w) (h : wpList P ops Q rest (a.put o.dst v) w) : wpList P ops Q (o :: rest) a w := by
  refine wpList_step fun K hK => ?_
  rw [if_pos hw]
  unfold Oper.wp execOp
  simp only [ho, hx]
  simp only [Instr.loadAt, Instr.sureAddr, asAddr, Sem.run_bind, Sem.run_pure, hr, Result.andThen]
  exact hK _ _ h
end
def spanV (t : S27) : Value := .agg #[.int .i64 t.f0, .int .i64 t.f1]
def loadVv (pr fo sp ot : Int) : Value := .agg #[.int .i64 pr, .int .i64 fo, .int .i64 sp, .int .i64 ot]
def partF (x : S170) (t : S27) (pr fo sp ot : Int) : Nat → Option (Int × Int)
  | 0 => strength_parts_1.f x.f0.f0 x.f0.f1 x.f1.f0 x.f1.f1 x.f2.f0 x.f2.f1 x.f3.f0 x.f3.f1 x.f4.f0 x.f4.f1 t.f0 t.f1 pr fo sp ot
  | 1 => strength_parts_2.f x.f0.f0 x.f0.f1 x.f1.f0 x.f1.f1 x.f2.f0 x.f2.f1 x.f3.f0 x.f3.f1 x.f4.f0 x.f4.f1 t.f0 t.f1 pr fo sp ot
  | 2 => strength_parts_3.f x.f0.f0 x.f0.f1 x.f1.f0 x.f1.f1 x.f2.f0 x.f2.f1 x.f3.f0 x.f3.f1 x.f4.f0 x.f4.f1 t.f0 t.f1 pr fo sp ot
  | _ => strength_parts_4.f x.f0.f0 x.f0.f1 x.f1.f0 x.f1.f1 x.f2.f0 x.f2.f1 x.f3.f0 x.f3.f1 x.f4.f0 x.f4.f1 t.f0 t.f1 pr fo sp ot
def accP (lo : Nat → Int) : Nat → Int
  | 0 => 0
  | k + 1 => wrap64 (accP lo k + lo k)
theorem part_calls (k : Nat) (hk : k < 4) (x : S170) (t : S27) (pr fo sp ot lo hi : Int) (w : World) (h : partF x t pr fo sp ot k = some (lo, hi)) :
    Calls Try.prog (177 + k) #[ringV x, spanV t, loadVv pr fo sp ot] w fun e w' => e = .returned (.tuple #[.int .i64 lo, .int .i64 hi]) ∧ Below w.heap.size w w' :=
  match k, hk, h with
  | 0, _, h => strength_parts_1.calls x.f0.f0 x.f0.f1 x.f1.f0 x.f1.f1 x.f2.f0 x.f2.f1 x.f3.f0 x.f3.f1 x.f4.f0 x.f4.f1 t.f0 t.f1 pr fo sp ot lo hi w h
  | 1, _, h => strength_parts_2.calls x.f0.f0 x.f0.f1 x.f1.f0 x.f1.f1 x.f2.f0 x.f2.f1 x.f3.f0 x.f3.f1 x.f4.f0 x.f4.f1 t.f0 t.f1 pr fo sp ot lo hi w h
  | 2, _, h => strength_parts_3.calls x.f0.f0 x.f0.f1 x.f1.f0 x.f1.f1 x.f2.f0 x.f2.f1 x.f3.f0 x.f3.f1 x.f4.f0 x.f4.f1 t.f0 t.f1 pr fo sp ot lo hi w h
  | 3, _, h => strength_parts_4.calls x.f0.f0 x.f0.f1 x.f1.f0 x.f1.f1 x.f2.f0 x.f2.f1 x.f3.f0 x.f3.f1 x.f4.f0 x.f4.f1 t.f0 t.f1 pr fo sp ot lo hi w h
def partsC : Obj := .cells #[.func (.func 177) #[] #[], .func (.func 178) #[] #[], .func (.func 179) #[] #[], .func (.func 180) #[] #[]] 193
theorem parts_calls (w : World) : Calls Try.prog 163 #[] w fun e w' => e = .returned (.slice (some ⟨w.heap.size, 0, none⟩) 4 4) ∧ w' = w.alloc partsC := by
  go_enter Try.func163, Try.ntmps163
  go_wp2
  go_ret
  exact ⟨rfl, rfl⟩
structure StI (x : S170) (t : S27) (pr fo sp ot lo hi : Int) (w W : World) : Prop where
  bx : W.heap[w.heap.size]? = some (.cells #[.int .i64 x.f0.f0, .int .i64 x.f0.f1, .int .i64 x.f1.f0, .int .i64 x.f1.f1, .int .i64 x.f2.f0, .int .i64 x.f2.f1, .int .i64 x.f3.f0, .int .i64 x.f3.f1, .int .i64 x.f4.f0, .int .i64 x.f4.f1] 170 (0, 0))
  bt : W.heap[w.heap.size + 1]? = some (.cells #[.int .i64 t.f0, .int .i64 t.f1] 27 (0, 0))
  bl : W.heap[w.heap.size + 1 + 1]? = some (.cells #[.int .i64 pr, .int .i64 fo, .int .i64 sp, .int .i64 ot] 73 (0, 0))
  b6 : W.heap[w.heap.size + 1 + 1 + 1]? = some (.cells #[.int .i64 0, .int .i64 0] 27 (0, 0))
  b7 : W.heap[w.heap.size + 1 + 1 + 1 + 1]? = some (.cells #[.int .i64 lo, .int .i64 hi] 27 (0, 0))
  bp : W.heap[w.heap.size + 1 + 1 + 1 + 1 + 1]? = some (.cells #[.func (.func 177) #[] #[], .func (.func 178) #[] #[], .func (.func 179) #[] #[], .func (.func 180) #[] #[]] 193 (0, 0))
  be : Below w.heap.size w W
theorem StI.step {x : S170} {t : S27} {pr fo sp ot lo hi : Int} {w W W' : World} (h : StI x t pr fo sp ot lo hi w W) (hb : Below W.heap.size W W') : StI x t pr fo sp ot lo hi w W' :=
  ⟨blk_below h.bx hb, blk_below h.bt hb, blk_below h.bl hb, blk_below h.b6 hb, blk_below h.b7 hb, blk_below h.bp hb, below_then h.be h.be.size hb⟩
theorem StI.start (x : S170) (t : S27) (pr fo sp ot : Int) (w : World) : StI x t pr fo sp ot 0 0 w ((((((w.alloc (.cells #[.int .i64 x.f0.f0, .int .i64 x.f0.f1, .int .i64 x.f1.f0, .int .i64 x.f1.f1, .int .i64 x.f2.f0, .int .i64 x.f2.f1, .int .i64 x.f3.f0, .int .i64 x.f3.f1, .int .i64 x.f4.f0, .int .i64 x.f4.f1] 170)).alloc (.cells #[.int .i64 t.f0, .int .i64 t.f1] 27)).alloc (.cells #[.int .i64 pr, .int .i64 fo, .int .i64 sp, .int .i64 ot] 73)).alloc (.cells #[.int .i64 0, .int .i64 0] 27)).alloc (.cells #[.int .i64 0, .int .i64 0] 27)).alloc partsC) := by
  obtain ⟨b1, b2, b3, b4, hb, hs⟩ := blk_four w (.cells #[.int .i64 x.f0.f0, .int .i64 x.f0.f1, .int .i64 x.f1.f0, .int .i64 x.f1.f1, .int .i64 x.f2.f0, .int .i64 x.f2.f1, .int .i64 x.f3.f0, .int .i64 x.f3.f1, .int .i64 x.f4.f0, .int .i64 x.f4.f1] 170) (.cells #[.int .i64 t.f0, .int .i64 t.f1] 27) (.cells #[.int .i64 pr, .int .i64 fo, .int .i64 sp, .int .i64 ot] 73) (.cells #[.int .i64 0, .int .i64 0] 27)
  generalize (((w.alloc (.cells #[.int .i64 x.f0.f0, .int .i64 x.f0.f1, .int .i64 x.f1.f0, .int .i64 x.f1.f1, .int .i64 x.f2.f0, .int .i64 x.f2.f1, .int .i64 x.f3.f0, .int .i64 x.f3.f1, .int .i64 x.f4.f0, .int .i64 x.f4.f1] 170)).alloc (.cells #[.int .i64 t.f0, .int .i64 t.f1] 27)).alloc (.cells #[.int .i64 pr, .int .i64 fo, .int .i64 sp, .int .i64 ot] 73)).alloc (.cells #[.int .i64 0, .int .i64 0] 27) = W at *
  obtain ⟨c1, c2, hc, hs2⟩ := blk_two W (.cells #[.int .i64 0, .int .i64 0] 27) partsC
  rw [hs] at c1 c2
  exact ⟨blk_alloc (blk_alloc b1 _) _, blk_alloc (blk_alloc b2 _) _, blk_alloc (blk_alloc b3 _) _, blk_alloc (blk_alloc b4 _) _, c1, c2, below_alloc (below_alloc hb _) _⟩
theorem StI.set7 {x : S170} {t : S27} {pr fo sp ot lo hi : Int} {w W : World} (h : StI x t pr fo sp ot lo hi w W) (a b : Int) : StI x t pr fo sp ot a b w ((W.setCell ⟨w.heap.size + 1 + 1 + 1 + 1, 0, none⟩ (.int .i64 a)).setCell ⟨w.heap.size + 1 + 1 + 1 + 1, 1, none⟩ (.int .i64 b)) :=
  ⟨blk_far (blk_far h.bx (p := ⟨w.heap.size + 1 + 1 + 1 + 1, 0, none⟩) (by dsimp only; omega) _) (p := ⟨w.heap.size + 1 + 1 + 1 + 1, 1, none⟩) (by dsimp only; omega) _, blk_far (blk_far h.bt (p := ⟨w.heap.size + 1 + 1 + 1 + 1, 0, none⟩) (by dsimp only; omega) _) (p := ⟨w.heap.size + 1 + 1 + 1 + 1, 1, none⟩) (by dsimp only; omega) _, blk_far (blk_far h.bl (p := ⟨w.heap.size + 1 + 1 + 1 + 1, 0, none⟩) (by dsimp only; omega) _) (p := ⟨w.heap.size + 1 + 1 + 1 + 1, 1, none⟩) (by dsimp only; omega) _, blk_far (blk_far h.b6 (p := ⟨w.heap.size + 1 + 1 + 1 + 1, 0, none⟩) (by dsimp only; omega) _) (p := ⟨w.heap.size + 1 + 1 + 1 + 1, 1, none⟩) (by dsimp only; omega) _, blk_put (blk_put h.b7 0 _ rfl) 1 _ rfl, blk_far (blk_far h.bp (p := ⟨w.heap.size + 1 + 1 + 1 + 1, 0, none⟩) (by dsimp only; omega) _) (p := ⟨w.heap.size + 1 + 1 + 1 + 1, 1, none⟩) (by dsimp only; omega) _, below_set (below_set h.be (by omega)) (by omega)⟩
set_option maxHeartbeats 4000000 in
set_option maxRecDepth 100000 in
theorem stress_calls (x : S170) (t : S27) (pr fo sp ot : Int) (lo hi : Nat → Int) (w : World) (h : ∀ k, k < 4 → partF x t pr fo sp ot k = some (lo k, hi k)) :
    Calls Try.prog 150 #[ringV x, spanV t, loadVv pr fo sp ot] w fun e w' => e = .returned (.agg #[.int .i64 (accP lo 4), .int .i64 (accP hi 4)]) ∧ Below w.heap.size w w' := by
  have HP := Sd.mk h
  have S0 := Sd.mk (StI.start x t pr fo sp ot w)
  clear h
  unfold ringV spanV loadVv
  go_enter Try.func150, Try.ntmps150
  go_wp2_with (go_at_call 163; refine (parts_calls _).mono ?_; rintro e w1 ⟨rfl, rfl⟩)
  generalize (((((w.alloc (.cells #[.int .i64 x.f0.f0, .int .i64 x.f0.f1, .int .i64 x.f1.f0, .int .i64 x.f1.f1, .int .i64 x.f2.f0, .int .i64 x.f2.f1, .int .i64 x.f3.f0, .int .i64 x.f3.f1, .int .i64 x.f4.f0, .int .i64 x.f4.f1] 170)).alloc (.cells #[.int .i64 t.f0, .int .i64 t.f1] 27)).alloc (.cells #[.int .i64 pr, .int .i64 fo, .int .i64 sp, .int .i64 ot] 73)).alloc (.cells #[.int .i64 0, .int .i64 0] 27)).alloc (.cells #[.int .i64 0, .int .i64 0] 27)).alloc partsC = W0 at S0 ⊢
  go_loopg [14] 4 (fun gq v14 wr => ∃ k : Nat, v14 = .int .i64 k ∧ k ≤ 4 ∧ 4 - k ≤ gq ∧ Sd (StI x t pr fo sp ot (accP lo k) (accP hi k) w wr))
  case atStart => exact ⟨0, rfl, by omega, by omega, S0⟩
  case round =>
    as_aux_lemma =>
      clear S0
      obtain ⟨k, rfl, hk, hgk, S1⟩ := hrel
      by_cases hlt : k < 4
      · have hp := HP.out k hlt
        have HC := Sd.mk (fun W => part_calls k hlt x t pr fo sp ot (lo k) (hi k) W hp)
        have hy : wr.cell? ⟨w.heap.size + 1 + 1 + 1 + 1 + 1, k, none⟩ = some (.func (.func (177 + k)) #[] #[]) := by
          refine (blk_cell S1.out.bp k).trans ?_
          match k, hlt with
          | 0, _ => rfl
          | 1, _ => rfl
          | 2, _ => rfl
          | 3, _ => rfl
        have eg : ∀ args w, (callFunc (177 + k) args).run Try.prog w = .ok (.enter (177 + k) args) w :=
          match k, hlt with
          | 0, _ => enters_of Try.func177 (by kernel_rfl) rfl
          | 1, _ => enters_of Try.func178 (by kernel_rfl) rfl
          | 2, _ => enters_of Try.func179 (by kernel_rfl) rfl
          | 3, _ => enters_of Try.func180 (by kernel_rfl) rfl
        generalize hg : 177 + k = g at HC hy eg
        have HG := Sd.mk hg
        clear hg hp
        have HLX := Sd.mk (run_loadVar_row (P := Try.prog) _ _ 170 170 _ (0, 0) _ S1.out.bx Try.underlying170 rfl (by kernel_rfl))
        have HLT := Sd.mk (run_loadVar_row (P := Try.prog) _ _ 27 27 _ (0, 0) _ S1.out.bt Try.underlying27 rfl (by kernel_rfl))
        have HLL := Sd.mk (run_loadVar_row (P := Try.prog) _ _ 73 73 _ (0, 0) _ S1.out.bl Try.underlying73 rfl (by kernel_rfl))
        have hltz : (k : Int) < 4 := by omega
        unfold ringV spanV loadVv at HC
        go_wp2_with (first | (refine wp_loadrow_s 170 _ _ _ (by go_simp) rfl rfl HLX.out ?_) | (refine wp_loadrow_s 27 _ _ _ (by go_simp) rfl rfl HLT.out ?_) | (refine wp_loadrow_s 73 _ _ _ (by go_simp) rfl rfl HLL.out ?_) | (go_at_fn g; refine (HC.out _).mono ?_; rintro e w2 ⟨rfl, hb⟩; have S2 := Sd.mk (S1.out.step hb); clear hb HLX HLT HLL; have h70 : w2.cell? ⟨w.heap.size + 1 + 1 + 1 + 1, 0, none⟩ = some (.int .i64 (accP lo k)) := (blk_cell S2.out.b7 0).trans rfl; have h71 : w2.cell? ⟨w.heap.size + 1 + 1 + 1 + 1, 0 + 1, none⟩ = some (.int .i64 (accP hi k)) := (blk_cell S2.out.b7 1).trans rfl; have h7f := blk_frozen S2.out.b7 0; have h7g := blk_frozen S2.out.b7 1))
        go_roundg (4 - (k + 1))
        case measure => omega
        case rel => exact ⟨k + 1, by go_num, by omega, by omega, ⟨S2.out.set7 _ _⟩⟩
      · obtain rfl : k = 4 := by omega
        have HLO := Sd.mk (run_loadVar_row (P := Try.prog) _ _ 27 27 _ (0, 0) _ S1.out.b7 Try.underlying27 rfl (by kernel_rfl))
        have h60 : wr.cell? ⟨w.heap.size + 1 + 1 + 1, 0, none⟩ = some (.int .i64 0) := (blk_cell S1.out.b6 0).trans rfl
        have h61 : wr.cell? ⟨w.heap.size + 1 + 1 + 1, 0 + 1, none⟩ = some (.int .i64 0) := (blk_cell S1.out.b6 1).trans rfl
        have h6f := blk_frozen S1.out.b6 0
        have h6g := blk_frozen S1.out.b6 1
        go_wp2_with (refine wp_loadrow_s 27 _ _ _ (by go_simp) rfl rfl HLO.out ?_)
        refine bodyPost_ret (results_cell_row rfl _ _ (w.heap.size + 1 + 1 + 1) 27 #[.int .i64 (accP lo 4), .int .i64 (accP hi 4)] (0, 0) _ rfl (blk_put (cs := #[.int .i64 (accP lo 4), .int .i64 0]) (blk_put S1.out.b6 0 _ rfl) 1 _ rfl) Try.underlying27 rfl (by kernel_rfl)) rfl ?_
        exact ⟨rfl, below_set (below_set S1.out.be (by omega)) (by omega)⟩
end Go.Proofs.Ytkjkokgbhepmoaa.PB

namespace Go.Proofs.Ytkjkokgbhepmoaa.PB
open Go.RowKit Go.Proofs.YtkjkokgbhepmoaaW.PrintWords Go.Proofs.YtkjkokgbhepmoaaW.PrintLast Go.Proofs.YtkjkokgbhepmoaaW.PrintMore
theorem first1_calls (g : Nat) (cb : Array Value) (eg : ∀ args w, (callFunc g args).run Try.prog w = .ok (.enter g args) w) (low i : Int) (b : Bool) (X Y : Nat) (w : World) (hX : w.heap[X]? = some (.cells #[.func (.func g) #[] cb] 126 (0, 0))) (hY : w.heap[Y]? = some (.cells #[.int .i64 low] 3 (0, 0)))
    (hf : Calls Try.prog g (#[.int .i64 (wrap64 (low + i))] ++ cb) w fun e w' => e = .returned (.bool b) ∧ Below w.heap.size w w') :
    Calls Try.prog 176 #[.int .i64 i, .pointer (some ⟨X, 0, none⟩), .pointer (some ⟨Y, 0, none⟩)] w fun e w' => e = .returned (.bool b) ∧ Below w.heap.size w w' := by
  have hx : w.cell? ⟨X, 0, none⟩ = some (.func (.func g) #[] cb) := (blk_cell hX 0).trans rfl
  have hy : w.cell? ⟨Y, 0, none⟩ = some (.int .i64 low) := (blk_cell hY 0).trans rfl
  clear hX hY
  go_enter Try.func176, Try.ntmps176
  go_wp2_with (go_at_fn g; refine hf.mono ?_; rintro e w1 ⟨rfl, hb1⟩)
  go_ret
  exact ⟨rfl, hb1⟩
def firstT : Bool × List (List Nat × List Nat) := (true, [([], []), ([], []), ([], []), ([1, 2], [1, 2]), ([3], [3]), ([], []), ([4, 5], [4, 5]), ([0, 6], [0, 6]), ([7, 6, 0, 1, 2, 3, 4, 5, 6, 7], [7])])
def firstB : List Nat := [0, 0, 0, 6, 14, 0, 62, 127, 255]
theorem first_tab : rtab .any (opsOf Try.f161 1) = firstT := by kernel_rfl
theorem first_bits : waitsOk firstT.2 firstB = true := by kernel_rfl
set_option maxHeartbeats 2000000 in
set_option maxRecDepth 100000 in
theorem first_calls (g : Nat) (cb : Array Value) (eg : ∀ args w, (callFunc g args).run Try.prog w = .ok (.enter g args) w) (low high : Int) (n : Nat) (hn : wrap64 (wrap64 (high - low) + 1) = (n : Int)) (hn2 : n < 4611686018427387904) (p : Nat → Bool) (c : Nat) (ht : TurnsAt p n c) (w : World)
    (hf : ∀ (W : World) (i : Nat), Below w.heap.size w W → i < n → Calls Try.prog g (#[.int .i64 (wrap64 (low + (i : Int)))] ++ cb) W fun e w' => e = .returned (.bool (p i)) ∧ Below W.heap.size W w') :
    Calls Try.prog 161 #[.int .i64 low, .int .i64 high, .func (.func g) #[] cb] w fun e w' => e = .returned (.int .i64 (wrap64 (low + (c : Int)))) ∧ Below w.heap.size w w' := by
  obtain ⟨b1, b2, hb0, hsz⟩ := blk_two w (.cells #[.int .i64 low] 3) (.cells #[.func (.func g) #[] cb] 126)
  have BX := Sd.mk b1
  have BY := Sd.mk b2
  have HB := Sd.mk hb0
  have HF := Sd.mk hf
  have HTT := Sd.mk ht
  have HN := Sd.mk hn
  clear b1 b2 hb0 hf ht hsz hn
  go_enter Try.func161, Try.ntmps161
  go_upto_region 1 with (fail)
  generalize (w.alloc (.cells #[.int .i64 low] 3)).alloc (.cells #[.func (.func g) #[] cb] 126) = WX at *
  refine start_ (n := 9) (S := fun w' => w'.cell? ⟨w.heap.size, 0, none⟩ = some (.int .i64 low) ∧ w'.cell? ⟨w.heap.size + 1, 0, none⟩ = some (.func (.func g) #[] cb)) (ds := []) #[false, false, false, false, false, false, false, false, false] (by kernel_rfl) rfl rfl ⟨(blk_cell BX.out 0).trans rfl, (blk_cell BY.out 0).trans rfl⟩ (fun hHeld => ?_); refine with_tabW first_tab first_bits (fun HT_ HW_ => ?_)
  replace BX := Sd.mk (blk_drew BX.out)
  replace BY := Sd.mk (blk_drew BY.out)
  replace HB := Sd.mk (below_drew1 HB.out)
  generalize WX.drew = W0 at BX BY HB hHeld ⊢
  refine take_ (i := 0) (N := some 7) (v := ?_) (a' := ?_) #[true, false, false, false, false, false, false, false, false] rfl rfl (take_ofW HT_.out HW_.out (by kernel_rfl)) (fun _ _ _ h => h) (Or.inl ⟨by rfl, ?_⟩) hHeld ?_ ?_
  rotate_left
  · rintro w' ⟨s0, s1⟩
    go_simp
    with_reducible rfl
  rotate_left
  · simp only [Act.put, List.setIfInBounds_toArray, List.set_cons_zero, List.set_cons_succ, i64_w, i32_w]
    rfl
  refine pure_ (i := 1) (N := some 8) (v := ?_) (a' := ?_) #[true, true, false, false, false, false, false, false, false] rfl rfl (any_of HT_.out (by kernel_rfl)) (fun _ _ _ h => h) (Or.inl ⟨by rfl, ?_⟩) ?_ ?_
  rotate_left
  · intro w'
    go_simp
    with_reducible rfl
  rotate_left
  · simp only [Act.put, List.setIfInBounds_toArray, List.set_cons_zero, List.set_cons_succ, i64_w, i32_w]
    rfl
  refine take_ (i := 2) (N := some 9) (v := ?_) (a' := ?_) #[true, true, true, false, false, false, false, false, false] rfl rfl (take_ofW HT_.out HW_.out (by kernel_rfl)) (fun _ _ _ h => h) (Or.inl ⟨by rfl, ?_⟩) hHeld ?_ ?_
  rotate_left
  · rintro w' ⟨s0, s1⟩
    go_simp
    with_reducible rfl
  rotate_left
  · simp only [Act.put, List.setIfInBounds_toArray, List.set_cons_zero, List.set_cons_succ, i64_w, i32_w]
    rfl
  refine pure_ (i := 3) (N := some 10) (v := ?_) (a' := ?_) #[true, true, true, true, false, false, false, false, false] rfl rfl (any_of HT_.out (by kernel_rfl)) (fun _ _ _ h => h) (Or.inl ⟨by rfl, ?_⟩) ?_ ?_
  rotate_left
  · intro w'
    go_simp
    with_reducible rfl
  rotate_left
  · simp only [Act.put, List.setIfInBounds_toArray, List.set_cons_zero, List.set_cons_succ, i64_w, i32_w]
    rfl
  refine pure_ (i := 4) (N := some 11) (v := ?_) (a' := ?_) #[true, true, true, true, true, false, false, false, false] rfl rfl (any_of HT_.out (by kernel_rfl)) (fun _ _ _ h => h) (Or.inl ⟨by rfl, ?_⟩) ?_ ?_
  rotate_left
  · intro w'
    go_simp
    with_reducible rfl
  rotate_left
  · simp only [Act.put, List.setIfInBounds_toArray, List.set_cons_zero, List.set_cons_succ, i64_w, i32_w]
    rfl
  refine pure_ (i := 5) (N := some 12) (v := ?_) (a' := ?_) #[true, true, true, true, true, true, false, false, false] rfl rfl (any_of HT_.out (by kernel_rfl)) (fun _ _ _ h => h) (Or.inl ⟨by rfl, ?_⟩) ?_ ?_
  rotate_left
  · intro w'
    go_simp
    with_reducible rfl
  rotate_left
  · simp only [Act.put, List.setIfInBounds_toArray, List.set_cons_zero, List.set_cons_succ, i64_w, i32_w]
    rfl
  refine one_ (i := 6) (N := some 13) #[true, true, true, true, true, true, true, false, false] rfl rfl (one_of HT_.out (by kernel_rfl)) (by decide) (fun K hK => ?_)
  refine goes_ Try.func175 (by kernel_rfl) rfl #[.int .i64 (wrap64 (wrap64 (high - low) + 1)), .func (.func 176) #[] #[.pointer (some ⟨w.heap.size + 1, 0, none⟩), .pointer (some ⟨w.heap.size, 0, none⟩)]] (by (try simp only [Array.map_toArray, List.map_toArray, List.map_cons, List.map_nil]); rfl) rfl rfl (by (try simp only [List.map_toArray, List.map_cons, List.map_nil]); first | done | rfl) ?_
  rw [HN.out]
  refine (search_calls 176 #[.pointer (some ⟨w.heap.size + 1, 0, none⟩), .pointer (some ⟨w.heap.size, 0, none⟩)] n p c W0 (enters_of Try.func176 (by kernel_rfl) rfl) hn2 HTT.out (fun W i hW hi => first1_calls g cb eg low (i : Int) (p i) _ _ W (blk_below BY.out hW) (blk_below BX.out hW) (HF.out W i (below_then HB.out HB.out.size hW) hi))).mono ?_
  rintro e w4 ⟨rfl, hb⟩
  refine ⟨_, rfl, ?_⟩
  replace BX := Sd.mk (blk_below BX.out hb)
  replace BY := Sd.mk (blk_below BY.out hb)
  replace HB := Sd.mk (below_then HB.out HB.out.size hb)
  clear hb
  refine hK.out _ _ ⟨(blk_cell BX.out 0).trans rfl, (blk_cell BY.out 0).trans rfl⟩ (fun hHeld => ?_)
  clear hK K
  refine norm_ (a' := ?_) ?_ ?_
  rotate_left
  · show Act.put _ (some 13) _ = _
    simp only [Act.put, List.setIfInBounds_toArray, List.set_cons_zero, List.set_cons_succ, i64_w, i32_w]
    rfl
  refine pure_ (i := 7) (N := some 14) (v := ?_) (a' := ?_) #[true, true, true, true, true, true, true, true, false] rfl rfl (any_of HT_.out (by kernel_rfl)) (fun _ _ _ h => h) (Or.inl ⟨by rfl, ?_⟩) ?_ ?_
  rotate_left
  · intro w'
    go_simp
    with_reducible rfl
  rotate_left
  · simp only [Act.put, List.setIfInBounds_toArray, List.set_cons_zero, List.set_cons_succ, i64_w, i32_w]
    rfl
  refine pure_ (i := 8) (N := some 6) (v := ?_) (a' := ?_) #[true, true, true, true, true, true, true, true, true] rfl rfl (any_of HT_.out (by kernel_rfl)) (fun _ _ _ h => h) (Or.inl ⟨by rfl, ?_⟩) ?_ ?_
  rotate_left
  · intro w'
    go_simp
    with_reducible rfl
  rotate_left
  · simp only [Act.put, List.setIfInBounds_toArray, List.set_cons_zero, List.set_cons_succ, i64_w, i32_w]
    rfl
  refine done_ (done_of HT_.out (by kernel_rfl)) ?_
  go_wp2
  go_ret
  exact ⟨rfl, HB.out⟩
end Go.Proofs.Ytkjkokgbhepmoaa.PB

namespace Go.Proofs.Ytkjkokgbhepmoaa.PB
open Go.RowKit Go.Proofs.YtkjkokgbhepmoaaW.PrintWords Go.Proofs.YtkjkokgbhepmoaaW.PrintLast Go.Proofs.YtkjkokgbhepmoaaW.PrintMore
theorem swithin_e (x lo hi : Int) (w : World) : Calls Try.prog 92 #[.int .i64 x, .int .i64 lo, .int .i64 hi] w fun e w' => e = .returned (.bool (inB x lo hi)) ∧ w' = w :=
  (callsIn_wide (n := 9)).1 (withinI Fence.wide 9 trivial rfl x lo hi w)
theorem tells_thick (x : S27) (w : World) : Tells 147 #[] (.agg #[.int .i64 x.f0, .int .i64 x.f1]) (!spanB x.f0 x.f1 1 2000) w := by
  intro W _
  have H' := Sd.mk (fun W => sspan_f x.f0 x.f1 1 2000 W)
  show Calls Try.prog 147 #[.agg #[.int .i64 x.f0, .int .i64 x.f1]] W _
  generalize x.f0 = a at *
  generalize x.f1 = b at *
  go_enter Try.func147, Try.ntmps147
  go_wp2_with (go_at_call 141; refine (H'.out _).mono ?_; rintro e w1 ⟨rfl, hb⟩)
  go_ret
  exact ⟨rfl, below_trans' (below_alloc (Below.refl _ _) _) hb⟩
theorem thick_any (ts : List S27) : (ts.any fun x => !spanB x.f0 x.f1 1 2000) = !thickB ts := by
  unfold thickB
  induction ts with
  | nil => rfl
  | cons a l ih => rw [List.any_cons, List.all_cons, ih, Bool.not_and]
theorem thicks_calls (At : Option Addr) (ct : Nat) (ts : List S27) (w : World) (ht : Kd.C k27 w At ts.length ts) :
    Calls Try.prog 67 #[.slice At ts.length ct, .func (.func 147) #[] #[]] w fun e w' => e = .returned (.bool (!thickB ts)) ∧ Below w.heap.size w w' := by
  rw [← thick_any]
  exact containsFunc_span _ 147 #[] (enters_of Try.func147 (by kernel_rfl) rfl) At ct ts w ht (fun x _ => tells_thick x w)
set_option maxHeartbeats 4000000 in
theorem load_calls (pr fo sp ot : Int) (w : World) :
    Calls Try.prog 148 #[loadVv pr fo sp ot] w fun en w' => en = endF (if loadB pr fo sp ot = true then 0 else 1) ∧ Below w.heap.size w w' := by
  unfold loadVv loadB
  cases s1 : inB pr 0 10000 with
  | false =>
    go_enter Try.func148, Try.ntmps148
    go_wp2_with (first | (go_at_call 92; (with_reducible refine (swithin_e _ _ _ _).mono ?_); (first | rw [s1] | rw [s2] | rw [s3] | rw [s4]); rintro e w' ⟨rfl, rfl⟩) | (go_at_call 91; (with_reducible refine (demand_no _ _).mono ?_); rintro e w' ⟨rfl, rfl⟩))
    exact ⟨rfl, rfl, below_alloc (Below.refl _ _) _⟩
  | true =>
    cases s2 : inB fo 0 20000 with
    | false =>
      go_enter Try.func148, Try.ntmps148
      go_wp2_with (first | (go_at_call 92; (with_reducible refine (swithin_e _ _ _ _).mono ?_); (first | rw [s1] | rw [s2] | rw [s3] | rw [s4]); rintro e w' ⟨rfl, rfl⟩) | (go_at_call 91; (with_reducible refine (demand_no _ _).mono ?_); rintro e w' ⟨rfl, rfl⟩))
      exact ⟨rfl, rfl, below_alloc (Below.refl _ _) _⟩
    | true =>
      cases s3 : inB sp 0 2000 with
      | false =>
        go_enter Try.func148, Try.ntmps148
        go_wp2_with (first | (go_at_call 92; (with_reducible refine (swithin_e _ _ _ _).mono ?_); (first | rw [s1] | rw [s2] | rw [s3] | rw [s4]); rintro e w' ⟨rfl, rfl⟩) | (go_at_call 91; (with_reducible refine (demand_no _ _).mono ?_); rintro e w' ⟨rfl, rfl⟩))
        exact ⟨rfl, rfl, below_alloc (Below.refl _ _) _⟩
      | true =>
        cases s4 : inB ot 0 10000000 with
        | false =>
          go_enter Try.func148, Try.ntmps148
          go_wp2_with (first | (go_at_call 92; (with_reducible refine (swithin_e _ _ _ _).mono ?_); (first | rw [s1] | rw [s2] | rw [s3] | rw [s4]); rintro e w' ⟨rfl, rfl⟩) | (go_at_call 91; (with_reducible refine (demand_no _ _).mono ?_); rintro e w' ⟨rfl, rfl⟩))
          exact ⟨rfl, rfl, below_alloc (Below.refl _ _) _⟩
        | true =>
          go_enter Try.func148, Try.ntmps148
          go_wp2_with (first | (go_at_call 92; (with_reducible refine (swithin_e _ _ _ _).mono ?_); (first | rw [s1] | rw [s2] | rw [s3] | rw [s4]); rintro e w' ⟨rfl, rfl⟩) | (go_at_call 91; (with_reducible refine (demand_ok _ _).mono ?_); rintro e w' ⟨rfl, rfl⟩))
          go_end0
          exact ⟨rfl, below_alloc (Below.refl _ _) _⟩
theorem load_ok (pr fo sp ot : Int) (w : World) (h : loadB pr fo sp ot = true) :
    Calls Try.prog 148 #[.agg #[.int .i64 pr, .int .i64 fo, .int .i64 sp, .int .i64 ot]] w fun en w' => en = .returned (.tuple #[]) ∧ Below w.heap.size w w' :=
  (load_calls pr fo sp ot w).mono fun e w' he => ⟨by rw [he.1, if_pos h]; rfl, he.2⟩
theorem load_no (pr fo sp ot : Int) (w : World) (h : ¬ loadB pr fo sp ot = true) :
    Calls Try.prog 148 #[.agg #[.int .i64 pr, .int .i64 fo, .int .i64 sp, .int .i64 ot]] w fun en w' => en = .panicked (failC 1) ∧ Below w.heap.size w w' :=
  (load_calls pr fo sp ot w).mono fun e w' he => ⟨by rw [he.1, if_neg h]; rfl, he.2⟩
set_option maxHeartbeats 4000000 in
set_option maxRecDepth 100000 in
theorem askL_calls (A : Option Addr) (c : Nat) (zs : List S170) (f1 f2 : Int) (At : Option Addr) (ct : Nat) (ts : List S27) (pr fo sp ot : Int) (w : World) (hr : Kd.C k170 w A zs.length zs) (ht : Kd.C k27 w At ts.length ts) :
    Calls Try.prog 106 #[.agg #[.slice A zs.length c, .int .i64 f1, .int .i64 f2], .slice At ts.length ct, .agg #[.int .i64 pr, .int .i64 fo, .int .i64 sp, .int .i64 ot]] w fun en w' => en = endF (askLV zs f1 f2 ts pr fo sp ot) ∧ Below w.heap.size w w' := by
  obtain ⟨b1, b2, hb0, hsz⟩ := blk_two w (.cells #[.slice A zs.length c, .int .i64 f1, .int .i64 f2] 92) (.cells #[.int .i64 pr, .int .i64 fo, .int .i64 sp, .int .i64 ot] 73)
  have BX := Sd.mk b1
  have BL := Sd.mk b2
  have HSZ := Sd.mk hsz
  have HB := Sd.mk hb0
  have HR := Sd.mk (Kd.C_below hr hb0)
  have HT := Sd.mk (Kd.C_below ht hb0)
  clear b1 b2 hsz hb0 hr ht
  by_cases h0 : bottleV zs f1 f2 = 0
  · have H0 := Sd.mk h0
    clear h0
    have HV : Sd (askLV zs f1 f2 ts pr fo sp ot = if (decide (ts.length = zs.length) && thickB ts) = true then (if loadB pr fo sp ot = true then 0 else 1) else 1) := ⟨if_pos H0.out⟩
    by_cases hlen : ts.length = zs.length
    · have HE := Sd.mk hlen
      have hd : decide ((ts.length : Int) = (zs.length : Int)) = true := decide_eq_true (by omega)
      have hd2 : ((ts.length : Int) == (zs.length : Int)) = true := beq_iff_eq.mpr (by omega)
      have hd3 : decide (ts.length = zs.length) = true := decide_eq_true hlen
      clear hlen
      cases hth : thickB ts with
      | true =>
        have HTB := Sd.mk hth
        clear hth
        by_cases hl : loadB pr fo sp ot = true
        · have HL := Sd.mk hl
          clear hl
          go_enter Try.func106, Try.ntmps106
          go_wp2_with (first | (go_at_call 140; refine (bottle_ok A c zs f1 f2 _ HR.out H0.out).mono ?_; rintro e w1 ⟨rfl, hb1⟩; have BX1 := Sd.mk (blk_below BX.out hb1); have BL1 := Sd.mk (blk_below BL.out hb1); have HT1 := Sd.mk (Kd.C_below HT.out hb1); have HB1 := Sd.mk (below_then HB.out HB.out.size hb1); clear hb1; have hx0 : w1.cell? ⟨w.heap.size, 0, none⟩ = some (.slice A zs.length c) := (blk_cell BX1.out 0).trans rfl) | (go_at_call 67; refine (thicks_calls At ct ts _ HT1.out).mono ?_; rw [HTB.out]; rintro e w2 ⟨rfl, hb2⟩; have BL2 := Sd.mk (blk_below BL1.out hb2); have HB2 := Sd.mk (below_then HB1.out HB1.out.size hb2); clear hb2; have hq0 : w2.cell? ⟨w.heap.size + 1, 0, none⟩ = some (.int .i64 pr) := (blk_cell BL2.out 0).trans rfl; have hq1 : w2.cell? ⟨w.heap.size + 1, 0 + 1, none⟩ = some (.int .i64 fo) := (blk_cell BL2.out 1).trans rfl; have hq2 : w2.cell? ⟨w.heap.size + 1, 0 + 2, none⟩ = some (.int .i64 sp) := (blk_cell BL2.out 2).trans rfl; have hq3 : w2.cell? ⟨w.heap.size + 1, 0 + 3, none⟩ = some (.int .i64 ot) := (blk_cell BL2.out 3).trans rfl) | (go_at_call 91; (with_reducible refine (demand_ok _ _).mono ?_); rintro e w' ⟨rfl, rfl⟩) | (go_at_call 148; (with_reducible refine (load_ok _ _ _ _ _ HL.out).mono ?_); rintro e w3 ⟨rfl, hb3⟩))
          go_end0
          exact ⟨by rw [HV.out, if_pos (by simp [HE.out, HTB.out]), if_pos HL.out]; rfl, below_then HB2.out HB2.out.size hb3⟩
        · have HL := Sd.mk hl
          clear hl
          go_enter Try.func106, Try.ntmps106
          go_wp2_with (first | (go_at_call 140; refine (bottle_ok A c zs f1 f2 _ HR.out H0.out).mono ?_; rintro e w1 ⟨rfl, hb1⟩; have BX1 := Sd.mk (blk_below BX.out hb1); have BL1 := Sd.mk (blk_below BL.out hb1); have HT1 := Sd.mk (Kd.C_below HT.out hb1); have HB1 := Sd.mk (below_then HB.out HB.out.size hb1); clear hb1; have hx0 : w1.cell? ⟨w.heap.size, 0, none⟩ = some (.slice A zs.length c) := (blk_cell BX1.out 0).trans rfl) | (go_at_call 67; refine (thicks_calls At ct ts _ HT1.out).mono ?_; rw [HTB.out]; rintro e w2 ⟨rfl, hb2⟩; have BL2 := Sd.mk (blk_below BL1.out hb2); have HB2 := Sd.mk (below_then HB1.out HB1.out.size hb2); clear hb2; have hq0 : w2.cell? ⟨w.heap.size + 1, 0, none⟩ = some (.int .i64 pr) := (blk_cell BL2.out 0).trans rfl; have hq1 : w2.cell? ⟨w.heap.size + 1, 0 + 1, none⟩ = some (.int .i64 fo) := (blk_cell BL2.out 1).trans rfl; have hq2 : w2.cell? ⟨w.heap.size + 1, 0 + 2, none⟩ = some (.int .i64 sp) := (blk_cell BL2.out 2).trans rfl; have hq3 : w2.cell? ⟨w.heap.size + 1, 0 + 3, none⟩ = some (.int .i64 ot) := (blk_cell BL2.out 3).trans rfl) | (go_at_call 91; (with_reducible refine (demand_ok _ _).mono ?_); rintro e w' ⟨rfl, rfl⟩) | (go_at_call 148; (with_reducible refine (load_no _ _ _ _ _ HL.out).mono ?_); rintro e w3 ⟨rfl, hb3⟩))
          exact ⟨rfl, by rw [HV.out, if_pos (by simp [HE.out, HTB.out]), if_neg HL.out]; rfl, below_then HB2.out HB2.out.size hb3⟩
      | false =>
        have HTB := Sd.mk hth
        clear hth
        go_enter Try.func106, Try.ntmps106
        go_wp2_with (first | (go_at_call 140; refine (bottle_ok A c zs f1 f2 _ HR.out H0.out).mono ?_; rintro e w1 ⟨rfl, hb1⟩; have BX1 := Sd.mk (blk_below BX.out hb1); have BL1 := Sd.mk (blk_below BL.out hb1); have HT1 := Sd.mk (Kd.C_below HT.out hb1); have HB1 := Sd.mk (below_then HB.out HB.out.size hb1); clear hb1; have hx0 : w1.cell? ⟨w.heap.size, 0, none⟩ = some (.slice A zs.length c) := (blk_cell BX1.out 0).trans rfl) | (go_at_call 67; refine (thicks_calls At ct ts _ HT1.out).mono ?_; rw [HTB.out]; rintro e w2 ⟨rfl, hb2⟩; have BL2 := Sd.mk (blk_below BL1.out hb2); have HB2 := Sd.mk (below_then HB1.out HB1.out.size hb2); clear hb2; have hq0 : w2.cell? ⟨w.heap.size + 1, 0, none⟩ = some (.int .i64 pr) := (blk_cell BL2.out 0).trans rfl; have hq1 : w2.cell? ⟨w.heap.size + 1, 0 + 1, none⟩ = some (.int .i64 fo) := (blk_cell BL2.out 1).trans rfl; have hq2 : w2.cell? ⟨w.heap.size + 1, 0 + 2, none⟩ = some (.int .i64 sp) := (blk_cell BL2.out 2).trans rfl; have hq3 : w2.cell? ⟨w.heap.size + 1, 0 + 3, none⟩ = some (.int .i64 ot) := (blk_cell BL2.out 3).trans rfl) | (go_at_call 91; (with_reducible refine (demand_no _ _).mono ?_); rintro e w' ⟨rfl, rfl⟩))
        exact ⟨rfl, by rw [HV.out, if_neg (by simp [HTB.out])]; rfl, HB2.out⟩
    · have HE := Sd.mk hlen
      have hd : decide ((ts.length : Int) = (zs.length : Int)) = false := decide_eq_false (by omega)
      have hd2 : ((ts.length : Int) == (zs.length : Int)) = false := beq_eq_false_iff_ne.mpr (by omega)
      have hd3 : decide (ts.length = zs.length) = false := decide_eq_false hlen
      clear hlen
      go_enter Try.func106, Try.ntmps106
      go_wp2_with (first | (go_at_call 140; refine (bottle_ok A c zs f1 f2 _ HR.out H0.out).mono ?_; rintro e w1 ⟨rfl, hb1⟩; have BX1 := Sd.mk (blk_below BX.out hb1); have BL1 := Sd.mk (blk_below BL.out hb1); have HT1 := Sd.mk (Kd.C_below HT.out hb1); have HB1 := Sd.mk (below_then HB.out HB.out.size hb1); clear hb1; have hx0 : w1.cell? ⟨w.heap.size, 0, none⟩ = some (.slice A zs.length c) := (blk_cell BX1.out 0).trans rfl) | (go_at_call 91; (with_reducible refine (demand_no _ _).mono ?_); rintro e w' ⟨rfl, rfl⟩))
      exact ⟨rfl, by rw [HV.out, if_neg (by simp [HE.out])]; rfl, HB1.out⟩
  · have H0 := Sd.mk h0
    have HV : Sd (askLV zs f1 f2 ts pr fo sp ot = bottleV zs f1 f2) := ⟨if_neg h0⟩
    clear h0
    go_enter Try.func106, Try.ntmps106
    go_wp2_with (go_at_call 140; refine (bottle_no A c zs f1 f2 _ HR.out H0.out).mono ?_; rintro e w1 ⟨rfl, hb1⟩)
    exact ⟨rfl, by rw [HV.out, endF_ne H0.out], below_then HB.out HB.out.size hb1⟩
end Go.Proofs.Ytkjkokgbhepmoaa.PB

namespace Go.Proofs.Ytkjkokgbhepmoaa.PB
open Go.RowKit Go.Shelf Go.Proofs.YtkjkokgbhepmoaaW.PrintWords Go.Proofs.YtkjkokgbhepmoaaW.PrintLast Go.Proofs.YtkjkokgbhepmoaaW.PrintMore
attribute [local go_sem] Oper.semAt_some
section
variable {P : Program} {ops : Array Oper} {Q : Exit → Act → World → Prop} {md : Region.Mode} {S : World → Prop} {ds : List Nat}
theorem wpOpIn_of_wpOp {l n : Nat} {i : Nat} (hp : ∀ (i : Nat) (o : Oper), ops[i]? = some o → ∀ c, o.op ≠ .defer c) (hl : ¬ LetsOut Q) {K K' : Act → World → Prop} (hK : ∀ a w, K a w → K' a w) {a : Act} {w : World} (h : wpOp P ops Q i K a w) : wpOpIn (Fence.wide.inRound l) n P ops Q i K' a w := by
  unfold wpOp at h
  unfold wpOpIn
  cases ho : ops[i]? with
  | none => rw [ho] at h; exact hK _ _ h
  | some o =>
    rw [ho] at h
    simp only at h ⊢
    split
    · rename_i hw
      rw [if_pos hw] at h
      rcases h with h | h
      · refine ⟨fun f _ => trivial, ?_⟩
        rw [Oper.semAt_plain (Fence.wide.inRound l) _ _ (hp i o ho)]
        unfold Oper.wp at h
        generalize (execOp a.eval o).run P w = r at *
        cases r with
        | ok x w' =>
          cases x <;> simp only [Oper.upon, Oper.uponIn] at h ⊢
          case value => exact hK _ _ h
          case skip => exact hK _ _ h
          case defer => exact hK _ _ h
          case enter f args =>
            exact ⟨(fun h => by cases h), CallsIn.inRound l (callsIn_wide.2 (Calls.mono h (fun e w'' he => by cases e <;> first | exact hK _ _ he | exact he)))⟩
          case row f args =>
            refine ⟨(fun h => by cases h), fun c cs _ => ?_⟩
            obtain ⟨v, w2, h1, h2⟩ := h c cs
            exact ⟨v, w2, hK _ _ h1, stepsIn_wide.2 h2⟩
        | halt x w' => cases x <;> simp only [Oper.upon, Oper.uponIn] at h ⊢ <;> exact h
      · exact absurd h.2 hl
    · rename_i hw
      rw [if_neg hw] at h
      exact ⟨fun f _ => trivial, hK _ _ h⟩
theorem wpAnyIn_of_wpAny {l n : Nat} (hp : ∀ (i : Nat) (o : Oper), ops[i]? = some o → ∀ c, o.op ≠ .defer c) (hl : ¬ LetsOut Q) : ∀ (fuel : Nat) (listed : Array Bool) (a : Act) (w : World), wpAny P md ops Q fuel listed a w → wpAnyIn (Fence.wide.inRound l) n P md ops Q fuel listed a w
  | 0, _, _, _, h => h
  | fuel + 1, listed, a, w, h => ⟨h.1, fun i hi => wpOpIn_of_wpOp hp hl (fun a w => wpAnyIn_of_wpAny hp hl fuel _ a w) (h.2 i hi)⟩
def noDefer (ops : Array Oper) : Bool := ops.all fun o => match o.op with | .defer _ => false | _ => true
theorem noDefer_spec (h : noDefer ops = true) (i : Nat) (o : Oper) (ho : ops[i]? = some o) (c) : o.op ≠ .defer c := by
  unfold noDefer at h
  rw [Array.all_eq_true] at h
  obtain ⟨hi, he⟩ := Array.getElem?_eq_some_iff.1 ho
  have := h i hi
  rw [he] at this
  intro hc
  rw [hc] at this
  cases this
theorem start_In {id n m l : Nat} {a : Act} {w : World} (lst : Array Bool) (hm : P.follows .mixedOrders = true) (hd : noDefer ops = true) (hl : ¬ LetsOut Q) (hn : ops.size = n) (hls : Array.replicate n false = lst) (hS : S w.drew)
    (h : S w.drew → wpAnyLast P .any ops Q S ds n lst a w.drew) : (Code.region id ops true).wpIn (Fence.wide.inRound l) m P Q a w := by
  subst hn
  subst hls
  exact wpIn_region_any hm (wpAnyIn_of_wpAny (noDefer_spec hd) hl _ _ _ _ (wpAny_of_last _ _ _ _ (h hS)))
end
def holdN (hi : Nat → Int) (m : Int) : Nat → Bool
  | 0 => true
  | k + 1 => holdN hi m k && decide (hi k ≤ m)
def breakN (lo : Nat → Int) (m : Int) : Nat → Bool
  | 0 => false
  | k + 1 => breakN lo m k || decide (lo k > m)
def holdT : Bool × List (List Nat × List Nat) := (true, [([], []), ([], []), ([], []), ([1, 2], [1, 2]), ([3], [3]), ([], []), ([0, 4, 5], [0, 4, 5]), ([], []), ([7, 6, 6, 0, 1, 2, 3, 4, 5, 6, 7], [6, 7])])
def holdBits : List Nat := [0, 0, 0, 6, 14, 0, 63, 0, 255]
theorem hold_tab : rtab .any (opsOf Try.f107 6) = holdT := by kernel_rfl
theorem hold_bits : waitsOk holdT.2 holdBits = true := by kernel_rfl
structure HoI (A : Option Addr) (c : Nat) (zs : List S170) (f1 f2 : Int) (At : Option Addr) (ct : Nat) (ts : List S27) (pr fo sp ot m : Int) (b6 b7 : Bool) (w : World) (M g : Nat) (W : World) : Prop where
  bx : W.heap[w.heap.size]? = some (.cells #[.slice A zs.length c, .int .i64 f1, .int .i64 f2] 92 (0, 0))
  bt : W.heap[w.heap.size + 1]? = some (.cells #[.slice At ts.length ct] 24 (0, 0))
  bl : W.heap[w.heap.size + 1 + 1]? = some (.cells #[.int .i64 pr, .int .i64 fo, .int .i64 sp, .int .i64 ot] 73 (0, 0))
  b6 : W.heap[w.heap.size + 1 + 1 + 1]? = some (.cells #[.bool b6] 4 (0, 0))
  b7 : W.heap[w.heap.size + 1 + 1 + 1 + 1]? = some (.cells #[.bool b7] 4 (0, 0))
  b8 : W.heap[M]? = some (.cells #[.int .i64 m] 3 (0, 0))
  rb : W.heap[g]? = some (.cells #[.slice A zs.length c, .int .i64 f1, .int .i64 f2] 92 (0, 0))
  be : Below w.heap.size w W
section
variable {A : Option Addr} {c : Nat} {zs : List S170} {f1 f2 : Int} {At : Option Addr} {ct : Nat} {ts : List S27} {pr fo sp ot m : Int} {b6 b7 : Bool} {w : World} {M g : Nat} {W : World}
theorem HoI.alloc (h : HoI A c zs f1 f2 At ct ts pr fo sp ot m b6 b7 w M g W) (o : Obj) : HoI A c zs f1 f2 At ct ts pr fo sp ot m b6 b7 w M g (W.alloc o) :=
  ⟨blk_alloc h.bx o, blk_alloc h.bt o, blk_alloc h.bl o, blk_alloc h.b6 o, blk_alloc h.b7 o, blk_alloc h.b8 o, blk_alloc h.rb o, below_alloc h.be o⟩
theorem HoI.put (h : HoI A c zs f1 f2 At ct ts pr fo sp ot m b6 b7 w M g W) (o : Obj) {B : Nat} (h1 : w.heap.size + 5 ≤ M) (h2 : M < B) (h3 : w.heap.size + 5 ≤ g) (h4 : g < B) (h5 : B + 1 < W.heap.size) : HoI A c zs f1 f2 At ct ts pr fo sp ot m b6 b7 w M g (W.putObj (B + 1) o) :=
  ⟨putObj_heap_keep (by omega) h.bx, putObj_heap_keep (by omega) h.bt, putObj_heap_keep (by omega) h.bl, putObj_heap_keep (by omega) h.b6, putObj_heap_keep (by omega) h.b7, putObj_heap_keep (by omega) h.b8, putObj_heap_keep (by omega) h.rb, below_putObj h.be (by omega) h5⟩
theorem HoI.step (h : HoI A c zs f1 f2 At ct ts pr fo sp ot m b6 b7 w M g W) {W' : World} (hb : Below W.heap.size W W') : HoI A c zs f1 f2 At ct ts pr fo sp ot m b6 b7 w M g W' :=
  ⟨blk_below h.bx hb, blk_below h.bt hb, blk_below h.bl hb, blk_below h.b6 hb, blk_below h.b7 hb, blk_below h.b8 hb, blk_below h.rb hb, below_then h.be h.be.size hb⟩
theorem HoI.drew (h : HoI A c zs f1 f2 At ct ts pr fo sp ot m b6 b7 w M g W) : HoI A c zs f1 f2 At ct ts pr fo sp ot m b6 b7 w M g W.drew :=
  ⟨h.bx, h.bt, h.bl, h.b6, h.b7, h.b8, h.rb, below_drew1 h.be⟩
theorem HoI.set6 (h : HoI A c zs f1 f2 At ct ts pr fo sp ot m b6 b7 w M g W) (h1 : w.heap.size + 5 ≤ M) (h3 : g ≠ w.heap.size + 1 + 1 + 1) (b : Bool) : HoI A c zs f1 f2 At ct ts pr fo sp ot m b b7 w M g (W.setCell ⟨w.heap.size + 1 + 1 + 1, 0, none⟩ (.bool b)) :=
  ⟨blk_far h.bx (p := ⟨w.heap.size + 1 + 1 + 1, 0, none⟩) (by dsimp only; omega) _, blk_far h.bt (p := ⟨w.heap.size + 1 + 1 + 1, 0, none⟩) (by dsimp only; omega) _, blk_far h.bl (p := ⟨w.heap.size + 1 + 1 + 1, 0, none⟩) (by dsimp only; omega) _, blk_put h.b6 0 _ rfl, blk_far h.b7 (p := ⟨w.heap.size + 1 + 1 + 1, 0, none⟩) (by dsimp only; omega) _, blk_far h.b8 (p := ⟨w.heap.size + 1 + 1 + 1, 0, none⟩) (by dsimp only; omega) _, blk_far h.rb (p := ⟨w.heap.size + 1 + 1 + 1, 0, none⟩) (by dsimp only; omega) _, below_set h.be (by omega)⟩
theorem HoI.set7 (h : HoI A c zs f1 f2 At ct ts pr fo sp ot m b6 b7 w M g W) (h1 : w.heap.size + 5 ≤ M) (h3 : g ≠ w.heap.size + 1 + 1 + 1 + 1) (b : Bool) : HoI A c zs f1 f2 At ct ts pr fo sp ot m b6 b w M g (W.setCell ⟨w.heap.size + 1 + 1 + 1 + 1, 0, none⟩ (.bool b)) :=
  ⟨blk_far h.bx (p := ⟨w.heap.size + 1 + 1 + 1 + 1, 0, none⟩) (by dsimp only; omega) _, blk_far h.bt (p := ⟨w.heap.size + 1 + 1 + 1 + 1, 0, none⟩) (by dsimp only; omega) _, blk_far h.bl (p := ⟨w.heap.size + 1 + 1 + 1 + 1, 0, none⟩) (by dsimp only; omega) _, blk_far h.b6 (p := ⟨w.heap.size + 1 + 1 + 1 + 1, 0, none⟩) (by dsimp only; omega) _, blk_put h.b7 0 _ rfl, blk_far h.b8 (p := ⟨w.heap.size + 1 + 1 + 1 + 1, 0, none⟩) (by dsimp only; omega) _, blk_far h.rb (p := ⟨w.heap.size + 1 + 1 + 1 + 1, 0, none⟩) (by dsimp only; omega) _, below_set h.be (by omega)⟩
theorem HoI.far (h : HoI A c zs f1 f2 At ct ts pr fo sp ot m b6 b7 w M g W) {T : Nat} (h1 : w.heap.size + 5 ≤ T) (h2 : M ≠ T) (h3 : g ≠ T) (j : Nat) (v : Value) : HoI A c zs f1 f2 At ct ts pr fo sp ot m b6 b7 w M g (W.setCell ⟨T, j, none⟩ v) :=
  ⟨blk_far h.bx (p := ⟨T, j, none⟩) (by dsimp only; omega) _, blk_far h.bt (p := ⟨T, j, none⟩) (by dsimp only; omega) _, blk_far h.bl (p := ⟨T, j, none⟩) (by dsimp only; omega) _, blk_far h.b6 (p := ⟨T, j, none⟩) (by dsimp only; omega) _, blk_far h.b7 (p := ⟨T, j, none⟩) (by dsimp only; omega) _, blk_far h.b8 (p := ⟨T, j, none⟩) (by dsimp only; omega) _, blk_far h.rb (p := ⟨T, j, none⟩) (by dsimp only; omega) _, below_set h.be (by omega)⟩
theorem run_var4 (w : World) (g : Nat) (b : Bool) (h : w.heap[g]? = some (.cells #[.bool b] 4 (0, 0))) : (loadVar 4 ⟨g, 0, none⟩).run Try.prog w = .ok (.bool b) w := by
  have hc : w.cell? ⟨g, 0, none⟩ = some (.bool b) := (blk_cell h 0).trans rfl
  simp [loadVar, go_sem, hc]
theorem results_bb {fn : Func} {p p' : Tmp} (h : fn.results = #[.cell p 4, .cell p' 4]) (tmps : Array Value) (w : World) (g g' : Nat) (b b' : Bool)
    (hp : tmps.getD p undef = .pointer (some ⟨g, 0, none⟩)) (hg : w.heap[g]? = some (.cells #[.bool b] 4 (0, 0)))
    (hp' : tmps.getD p' undef = .pointer (some ⟨g', 0, none⟩)) (hg' : w.heap[g']? = some (.cells #[.bool b'] 4 (0, 0))) :
    (results fn tmps).run Try.prog w = .ok (.tuple #[.bool b, .bool b']) w := by
  have h1 : tmps[p]?.getD undef = .pointer (some ⟨g, 0, none⟩) := by simpa using hp
  have h2 : tmps[p']?.getD undef = .pointer (some ⟨g', 0, none⟩) := by simpa using hp'
  simp [results, h, h1, h2, asAddr, run_var4 w g b hg, run_var4 w g' b' hg']
end
set_option maxHeartbeats 4000000 in
set_option maxRecDepth 100000 in
theorem holds_calls (A : Option Addr) (c : Nat) (zs : List S170) (f1 f2 : Int) (At : Option Addr) (ct : Nat) (ts : List S27) (pr fo sp ot m : Int) (lo hi : Nat → Int) (w : World) (hr : Kd.C k170 w A zs.length zs) (ht : Kd.C k27 w At ts.length ts) (hlen : ts.length = zs.length)
    (hlim : ∀ W, Calls Try.prog 149 #[.agg #[.slice A zs.length c, .int .i64 f1, .int .i64 f2]] W fun e w' => e = .returned (.int .i64 m) ∧ Below W.heap.size W w')
    (hst : ∀ k : Nat, k < zs.length → ∀ W, Calls Try.prog 150 #[ringV (rd_T170 zs (k : Int)), spanV (rd_T27 ts (k : Int)), loadVv pr fo sp ot] W fun e w' => e = .returned (.agg #[.int .i64 (lo k), .int .i64 (hi k)]) ∧ Below W.heap.size W w') :
    Calls Try.prog 107 #[.agg #[.slice A zs.length c, .int .i64 f1, .int .i64 f2], .slice At ts.length ct, .agg #[.int .i64 pr, .int .i64 fo, .int .i64 sp, .int .i64 ot]] w fun e w' => e = .returned (.tuple #[.bool (holdN hi m zs.length), .bool (breakN lo m zs.length)]) ∧ Below w.heap.size w w' := by
  obtain ⟨b1, b2, b3, b4, hb0, hsz⟩ := blk_four w (.cells #[.slice A zs.length c, .int .i64 f1, .int .i64 f2] 92) (.cells #[.slice At ts.length ct] 24) (.cells #[.int .i64 pr, .int .i64 fo, .int .i64 sp, .int .i64 ot] 73) (.cells #[.bool false] 4)
  have BX := Sd.mk (blk_alloc b1 (.cells #[.bool false] 4))
  have BT := Sd.mk (blk_alloc b2 (.cells #[.bool false] 4))
  have BL := Sd.mk (blk_alloc b3 (.cells #[.bool false] 4))
  have B6 := Sd.mk (blk_alloc b4 (.cells #[.bool false] 4))
  have B7 := Sd.mk (show _ = _ from hsz ▸ blk_new ((((w.alloc (.cells #[.slice A zs.length c, .int .i64 f1, .int .i64 f2] 92)).alloc (.cells #[.slice At ts.length ct] 24)).alloc (.cells #[.int .i64 pr, .int .i64 fo, .int .i64 sp, .int .i64 ot] 73)).alloc (.cells #[.bool false] 4)) (.cells #[.bool false] 4))
  have HB := Sd.mk (below_alloc hb0 (.cells #[.bool false] 4))
  have HSZ := Sd.mk hsz
  have HR := Sd.mk hr
  have HTS := Sd.mk ht
  have HLEN := Sd.mk hlen
  have HLIM := Sd.mk hlim
  have HST := Sd.mk hst
  clear b1 b2 b3 b4 hb0 hsz hr ht hlen hlim hst
  refine (callsIn_wide (n := 9)).1 (callsIn_of_wp_marks Try.func107 rfl trivial ?_ rfl)
  simp only [Try.ntmps107, List.size_toArray, List.length_cons, List.length_nil, Nat.reduceAdd, Nat.reduceSub, Array.replicate_succ, Array.replicate_zero, List.push_toArray, List.append_toArray, List.nil_append, List.cons_append]
  gi_wp2_with (first | (refine ⟨trivial, ?_⟩; gi_at_call 149; refine (callsIn_wide.2 (HLIM.out _)).mono ?_; rintro e w1 ⟨rfl, hw1⟩; have HM := Sd.mk (show w.heap.size + 5 ≤ w1.heap.size from Nat.le_trans (by have := HSZ.out; simp only [World.size_alloc]; omega) hw1.size); have J1 : Sd (HoI A c zs f1 f2 At ct ts pr fo sp ot m false false w w1.heap.size w.heap.size (w1.alloc (.cells #[.int .i64 m] 3))) := ⟨⟨blk_alloc (blk_below BX.out hw1) _, blk_alloc (blk_below BT.out hw1) _, blk_alloc (blk_below BL.out hw1) _, blk_alloc (blk_below B6.out hw1) _, blk_alloc (blk_below B7.out hw1) _, blk_new w1 _, blk_alloc (blk_below BX.out hw1) _, below_alloc (below_then HB.out HB.out.size hw1) _⟩⟩; clear hw1; have J2 := Sd.mk (J1.out.set6 HM.out (by omega) true); have hf6 := blk_frozen J1.out.b6 0; have hc6 : (w1.alloc (.cells #[.int .i64 m] 3)).cell? ⟨w.heap.size + 1 + 1 + 1, 0, none⟩ = some (.bool false) := (blk_cell J1.out.b6 0).trans rfl; have hx0 : ((w1.alloc (.cells #[.int .i64 m] 3)).setCell ⟨w.heap.size + 1 + 1 + 1, 0, none⟩ (.bool true)).cell? ⟨w.heap.size, 0, none⟩ = some (.slice A zs.length c) := (blk_cell J2.out.bx 0).trans rfl; have hx1 : ((w1.alloc (.cells #[.int .i64 m] 3)).setCell ⟨w.heap.size + 1 + 1 + 1, 0, none⟩ (.bool true)).cell? ⟨w.heap.size, 0 + 1, none⟩ = some (.int .i64 f1) := (blk_cell J2.out.bx 1).trans rfl; have hx2 : ((w1.alloc (.cells #[.int .i64 m] 3)).setCell ⟨w.heap.size + 1 + 1 + 1, 0, none⟩ (.bool true)).cell? ⟨w.heap.size, 0 + 2, none⟩ = some (.int .i64 f2) := (blk_cell J2.out.bx 2).trans rfl) | (refine ⟨trivial, ?_⟩; gi_at_call 142; (with_reducible refine (callsIn_wide.2 (rings_b _ _ _ _)).mono ?_); rintro e w3 ⟨g, rfl, hg, hbk, hw3⟩; have J3 := Sd.mk (J2.out.step hw3); have I0 : Sd (HoI A c zs f1 f2 At ct ts pr fo sp ot m true false w w1.heap.size g w3) := ⟨⟨J3.out.bx, J3.out.bt, J3.out.bl, J3.out.b6, J3.out.b7, J3.out.b8, hbk, J3.out.be⟩⟩; have HG := Sd.mk (show w1.heap.size < g from Nat.lt_of_lt_of_le (by simp) hg); have HG3 := Sd.mk (show g < w3.heap.size from blk_lt hbk); clear hbk hw3 hg))
  clear hf6 hc6 hx0 hx1 hx2 BX BT BL B6 B7 HB J1 J2 J3
  generalize w1.heap.size = M at *
  refine wpIn_rangeFuncP (N := zs.length) (encs := fun k => #[.int .i64 (k : Int), ringV (rd_T170 zs k)]) rfl (by omega) (gf := 159) (lb := #[.pointer (some ⟨g, 0, none⟩)]) rfl trivial (enters_of Try.func159 (by kernel_rfl) rfl) (fun _ => rfl)
    (fun k W => HoI A c zs f1 f2 At ct ts pr fo sp ot m (holdN hi m k) (breakN lo m k) w M g W) (fun _ _ => False) (fun k W o h => h.alloc o) (fun k W o r hl h => h.put o HM.out (by have := HG.out; have := HG3.out; omega) (by have := HM.out; have := HG.out; omega) HG3.out (Array.getElem?_eq_some_iff.1 hl).1) I0.out ?seq ?round ?fn ?done ?panic
  case seq =>
    intro l1 J Jp W hJa hJI hY h0
    exact rings1_in Fence.wide (9 - 1) trivial rfl (by omega) l1 g A c _ _ zs J Jp W (hJI _ _ h0).rb hJa (fun k W' h => Kd.C_below HR.out (hJI _ _ h).be) hY h0
  case round =>
    clear I0
    intro l k W hW _ hk hI st hst
    have HI1 := Sd.mk hI
    have HW := Sd.mk hW
    have HK := Sd.mk hk
    have HSK := Sd.mk (HST.out k hk)
    obtain ⟨ad, eAt, hw0, hw1⟩ := at_T27 HTS.out (k : Int) (by omega) (by have := HLEN.out; omega)
    cases eAt
    simp only [Int.toNat_natCast] at hw0 hw1
    have HW0 := Sd.mk hw0
    have HW1 := Sd.mk hw1
    clear hI hW hk hw0 hw1
    generalize hx : rd_T170 zs (k : Int) = x at HSK ⊢
    generalize hy : rd_T27 ts (k : Int) = y at HSK HW0 HW1
    clear hx hy
    unfold ringV
    unfold ringV spanV loadVv at HSK
    simp only [List.zip_cons_cons, List.zip_nil_right, List.foldl_cons, List.foldl_nil]
    gi_wp2
    refine hst _ _ (by simp) (fun j h1 h2 => Below.heap_alloc W _ j (by have := HW.out; omega)) ?_
    clear hst
    intro o
    have CK : Sd (HoI A c zs f1 f2 (some ad) ct ts pr fo sp ot m (holdN hi m k) (breakN lo m k) w M g ((W.alloc (.cells #[.int .i64 x.f0.f0, .int .i64 x.f0.f1, .int .i64 x.f1.f0, .int .i64 x.f1.f1, .int .i64 x.f2.f0, .int .i64 x.f2.f1, .int .i64 x.f3.f0, .int .i64 x.f3.f1, .int .i64 x.f4.f0, .int .i64 x.f4.f1] 170)).putObj (w3.heap.size + 1) o)) := ⟨(HI1.out.alloc _).put o HM.out (by have := HG.out; have := HG3.out; omega) (by have := HM.out; have := HG.out; omega) HG3.out (by have := HW.out; simp; omega)⟩
    have RB : Sd (((W.alloc (.cells #[.int .i64 x.f0.f0, .int .i64 x.f0.f1, .int .i64 x.f1.f0, .int .i64 x.f1.f1, .int .i64 x.f2.f0, .int .i64 x.f2.f1, .int .i64 x.f3.f0, .int .i64 x.f3.f1, .int .i64 x.f4.f0, .int .i64 x.f4.f1] 170)).putObj (w3.heap.size + 1) o).heap[W.heap.size]? = some (.cells #[.int .i64 x.f0.f0, .int .i64 x.f0.f1, .int .i64 x.f1.f0, .int .i64 x.f1.f1, .int .i64 x.f2.f0, .int .i64 x.f2.f1, .int .i64 x.f3.f0, .int .i64 x.f3.f1, .int .i64 x.f4.f0, .int .i64 x.f4.f1] 170 (0, 0))) := ⟨putObj_heap_keep (by have := HW.out; omega) (blk_new _ _)⟩
    have WS : Sd (((W.alloc (.cells #[.int .i64 x.f0.f0, .int .i64 x.f0.f1, .int .i64 x.f1.f0, .int .i64 x.f1.f1, .int .i64 x.f2.f0, .int .i64 x.f2.f1, .int .i64 x.f3.f0, .int .i64 x.f3.f1, .int .i64 x.f4.f0, .int .i64 x.f4.f1] 170)).putObj (w3.heap.size + 1) o).heap.size = W.heap.size + 1) := ⟨by simp⟩
    generalize ((W.alloc (.cells #[.int .i64 x.f0.f0, .int .i64 x.f0.f1, .int .i64 x.f1.f0, .int .i64 x.f1.f1, .int .i64 x.f2.f0, .int .i64 x.f2.f1, .int .i64 x.f3.f0, .int .i64 x.f3.f1, .int .i64 x.f4.f0, .int .i64 x.f4.f1] 170)).putObj (w3.heap.size + 1) o) = Wb at CK RB WS ⊢
    have hmx : Try.prog.follows .mixedOrders = true := by kernel_rfl
    have hk1 : (k : Int) < (ts.length : Int) := by have := HK.out; have := HLEN.out; omega
    gi_wp2
    refine start_In (n := 9) (S := fun w' => HoI A c zs f1 f2 (some ad) ct ts pr fo sp ot m (holdN hi m k) (breakN lo m k) w M g w' ∧ w'.heap[W.heap.size]? = some (.cells #[.int .i64 x.f0.f0, .int .i64 x.f0.f1, .int .i64 x.f1.f0, .int .i64 x.f1.f1, .int .i64 x.f2.f0, .int .i64 x.f2.f1, .int .i64 x.f3.f0, .int .i64 x.f3.f1, .int .i64 x.f4.f0, .int .i64 x.f4.f1] 170 (0, 0))) (ds := []) #[false, false, false, false, false, false, false, false, false] hmx (by kernel_rfl) (fun ⟨_, _, h⟩ => h) rfl rfl ⟨CK.out.drew, RB.out⟩ (fun hHeld => ?_)
    refine with_tabW hold_tab hold_bits (fun HT_ HW_ => ?_)
    have CKd := Sd.mk CK.out.drew
    have RBd : Sd (Wb.drew.heap[W.heap.size]? = some (.cells #[.int .i64 x.f0.f0, .int .i64 x.f0.f1, .int .i64 x.f1.f0, .int .i64 x.f1.f1, .int .i64 x.f2.f0, .int .i64 x.f2.f1, .int .i64 x.f3.f0, .int .i64 x.f3.f1, .int .i64 x.f4.f0, .int .i64 x.f4.f1] 170 (0, 0))) := ⟨RB.out⟩
    have BD : Sd (Below Wb.heap.size Wb Wb.drew) := ⟨below_drew (Below.refl _ _)⟩
    clear CK RB
    generalize Wb.drew = Wd at CKd RBd BD hHeld ⊢
    refine take_ (i := 0) (N := some 18) (v := ?_) (a' := ?_) #[true, false, false, false, false, false, false, false, false] rfl rfl (take_ofW HT_.out HW_.out (by kernel_rfl)) (fun _ _ _ h => h) (Or.inl ⟨by rfl, ?_⟩) hHeld ?_ ?_
    rotate_left
    · rintro w' ⟨hI, hR⟩
      have s0 : w'.cell? ⟨W.heap.size, 0, none⟩ = some (.int .i64 x.f0.f0) := (blk_cell hR 0).trans rfl
      have s1 : w'.cell? ⟨W.heap.size, 0 + 1, none⟩ = some (.int .i64 x.f0.f1) := (blk_cell hR 1).trans rfl
      have s2 : w'.cell? ⟨W.heap.size, 0 + 2, none⟩ = some (.int .i64 x.f1.f0) := (blk_cell hR 2).trans rfl
      have s3 : w'.cell? ⟨W.heap.size, 0 + 3, none⟩ = some (.int .i64 x.f1.f1) := (blk_cell hR 3).trans rfl
      have s4 : w'.cell? ⟨W.heap.size, 0 + 4, none⟩ = some (.int .i64 x.f2.f0) := (blk_cell hR 4).trans rfl
      have s5 : w'.cell? ⟨W.heap.size, 0 + 5, none⟩ = some (.int .i64 x.f2.f1) := (blk_cell hR 5).trans rfl
      have s6 : w'.cell? ⟨W.heap.size, 0 + 6, none⟩ = some (.int .i64 x.f3.f0) := (blk_cell hR 6).trans rfl
      have s7 : w'.cell? ⟨W.heap.size, 0 + 7, none⟩ = some (.int .i64 x.f3.f1) := (blk_cell hR 7).trans rfl
      have s8 : w'.cell? ⟨W.heap.size, 0 + 8, none⟩ = some (.int .i64 x.f4.f0) := (blk_cell hR 8).trans rfl
      have s9 : w'.cell? ⟨W.heap.size, 0 + 9, none⟩ = some (.int .i64 x.f4.f1) := (blk_cell hR 9).trans rfl
      go_simp
      with_reducible rfl
    rotate_left
    · simp only [Act.put, List.setIfInBounds_toArray, List.set_cons_zero, List.set_cons_succ, i64_w, i32_w]
      rfl
    refine take_ (i := 1) (N := some 19) (v := ?_) (a' := ?_) #[true, true, false, false, false, false, false, false, false] rfl rfl (take_ofW HT_.out HW_.out (by kernel_rfl)) (fun _ _ _ h => h) (Or.inl ⟨by rfl, ?_⟩) hHeld ?_ ?_
    rotate_left
    · rintro w' ⟨hI, hR⟩
      have s0 : w'.cell? ⟨w.heap.size + 1, 0, none⟩ = some (.slice (some ad) ts.length ct) := (blk_cell hI.bt 0).trans rfl
      go_simp
      with_reducible rfl
    rotate_left
    · simp only [Act.put, List.setIfInBounds_toArray, List.set_cons_zero, List.set_cons_succ, i64_w, i32_w]
      rfl
    refine pure_ (i := 2) (N := some 20) (v := ?_) (a' := ?_) #[true, true, true, false, false, false, false, false, false] rfl rfl (any_of HT_.out (by kernel_rfl)) (fun _ _ _ h => h) (Or.inl ⟨by rfl, ?_⟩) ?_ ?_
    rotate_left
    · intro w'
      go_simp
      with_reducible rfl
    rotate_left
    · simp only [Act.put, List.setIfInBounds_toArray, List.set_cons_zero, List.set_cons_succ, i64_w, i32_w]
      rfl
    refine pure_ (i := 3) (N := some 21) (v := ?_) (a' := ?_) #[true, true, true, true, false, false, false, false, false] rfl rfl (any_of HT_.out (by kernel_rfl)) (fun _ _ _ h => h) (Or.inl ⟨by rfl, ?_⟩) ?_ ?_
    rotate_left
    · intro w'
      go_simp
      with_reducible rfl
    rotate_left
    · simp only [Act.put, List.setIfInBounds_toArray, List.set_cons_zero, List.set_cons_succ, i64_w, i32_w]
      rfl
    refine take_ (i := 4) (N := some 22) (v := ?_) (a' := ?_) #[true, true, true, true, true, false, false, false, false] rfl rfl (take_ofW HT_.out HW_.out (by kernel_rfl)) (fun _ _ _ h => h) (Or.inl ⟨by rfl, ?_⟩) hHeld ?_ ?_
    rotate_left
    · rintro w' ⟨hI, hR⟩
      have s0 : w'.cell? (ad.add (k * 2)) = some (.int .i64 y.f0) := (hI.be.cell (World.block_lt_of_cell? w _ HW0.out)).trans HW0.out
      have s1 : w'.cell? ⟨(ad.add (k * 2)).block, (ad.add (k * 2)).off + 1, none⟩ = some (.int .i64 y.f1) := (hI.be.cell (World.block_lt_of_cell? w _ HW1.out)).trans HW1.out
      go_simp
      with_reducible rfl
    rotate_left
    · simp only [Act.put, List.setIfInBounds_toArray, List.set_cons_zero, List.set_cons_succ, i64_w, i32_w]
      rfl
    refine take_ (i := 5) (N := some 23) (v := ?_) (a' := ?_) #[true, true, true, true, true, true, false, false, false] rfl rfl (take_ofW HT_.out HW_.out (by kernel_rfl)) (fun _ _ _ h => h) (Or.inl ⟨by rfl, ?_⟩) hHeld ?_ ?_
    rotate_left
    · rintro w' ⟨hI, hR⟩
      have s0 : w'.cell? ⟨w.heap.size + 1 + 1, 0, none⟩ = some (.int .i64 pr) := (blk_cell hI.bl 0).trans rfl
      have s1 : w'.cell? ⟨w.heap.size + 1 + 1, 0 + 1, none⟩ = some (.int .i64 fo) := (blk_cell hI.bl 1).trans rfl
      have s2 : w'.cell? ⟨w.heap.size + 1 + 1, 0 + 2, none⟩ = some (.int .i64 sp) := (blk_cell hI.bl 2).trans rfl
      have s3 : w'.cell? ⟨w.heap.size + 1 + 1, 0 + 3, none⟩ = some (.int .i64 ot) := (blk_cell hI.bl 3).trans rfl
      go_simp
      with_reducible rfl
    rotate_left
    · simp only [Act.put, List.setIfInBounds_toArray, List.set_cons_zero, List.set_cons_succ, i64_w, i32_w]
      rfl
    refine wpAnyLast_ready (rs := [6, 7]) (by kernel_rfl) (by simp) ?_
    refine AllReadyL.cons rfl (by simp) (fun K hK => ?_) ?_
    · refine goes_ Try.func150 (by kernel_rfl) rfl #[.agg #[.int .i64 x.f0.f0, .int .i64 x.f0.f1, .int .i64 x.f1.f0, .int .i64 x.f1.f1, .int .i64 x.f2.f0, .int .i64 x.f2.f1, .int .i64 x.f3.f0, .int .i64 x.f3.f1, .int .i64 x.f4.f0, .int .i64 x.f4.f1], .agg #[.int .i64 y.f0, .int .i64 y.f1], .agg #[.int .i64 pr, .int .i64 fo, .int .i64 sp, .int .i64 ot]] (by (try simp only [Array.map_toArray, List.map_toArray, List.map_cons, List.map_nil]); rfl) rfl rfl (by (try simp only [List.map_toArray, List.map_cons, List.map_nil]); first | done | rfl) ?_
      refine (HSK.out Wd).mono ?_
      rintro e w4 ⟨rfl, hb⟩
      refine ⟨_, rfl, ?_⟩
      have I4 := Sd.mk (CKd.out.step hb)
      have RB4 : Sd (w4.heap[W.heap.size]? = some (.cells #[.int .i64 x.f0.f0, .int .i64 x.f0.f1, .int .i64 x.f1.f0, .int .i64 x.f1.f1, .int .i64 x.f2.f0, .int .i64 x.f2.f1, .int .i64 x.f3.f0, .int .i64 x.f3.f1, .int .i64 x.f4.f0, .int .i64 x.f4.f1] 170 (0, 0))) := ⟨blk_below RBd.out hb⟩
      have BD4 := Sd.mk (below_then BD.out BD.out.size hb)
      clear hb
      refine hK.out _ _ ⟨I4.out, RB4.out⟩ (fun hHeld => ?_)
      clear hK K
      refine norm_ (a' := ?_) ?_ ?_
      rotate_left
      · show Act.put _ (some 24) _ = _
        simp only [Act.put, List.setIfInBounds_toArray, List.set_cons_zero, List.set_cons_succ, i64_w, i32_w]
        rfl
      refine one_ (i := 7) (N := some 11) #[true, true, true, true, true, true, true, true, false] rfl rfl (one_of HT_.out (by kernel_rfl)) (by decide) (fun K hK => ?_)
      go_simp
      refine hK.out _ _ ⟨I4.out.alloc _, blk_alloc RB4.out _⟩ (fun hHeld => ?_)
      clear hK K
      refine one_ (i := 8) (N := none) #[true, true, true, true, true, true, true, true, true] rfl rfl (one_of HT_.out (by kernel_rfl)) (by decide) (fun K hK => ?_)
      go_simp
      have I9 := Sd.mk (I4.out.alloc (.cells #[.int .i64 (lo k), .int .i64 (hi k)] 27))
      have RB9 := Sd.mk (blk_alloc RB4.out (.cells #[.int .i64 (lo k), .int .i64 (hi k)] 27))
      have T9 := Sd.mk (blk_new w4 (.cells #[.int .i64 (lo k), .int .i64 (hi k)] 27))
      have BD9 := Sd.mk (below_alloc BD4.out (.cells #[.int .i64 (lo k), .int .i64 (hi k)] 27))
      have HT9 := Sd.mk (show w3.heap.size + 1 < w4.heap.size from by have := BD4.out.size; have := WS.out; have := HW.out; omega)
      refine hK.out _ _ ⟨I9.out, RB9.out⟩ (fun hHeld => ?_)
      clear hK K
      refine done_ (done_of HT_.out (by kernel_rfl)) ?_
      clear hHeld HT_ HW_
      generalize w4.alloc (.cells #[.int .i64 (lo k), .int .i64 (hi k)] 27) = W9 at I9 T9 BD9 ⊢
      generalize w4.heap.size = T at HT9 T9 ⊢
      have hg3 := HG3.out
      have hg := HG.out
      have hm := HM.out
      have fin : ∀ (a' : Act) (v6 v7 : Bool), v6 = holdN hi m (k + 1) → v7 = breakN lo m (k + 1) → bodyPostP w3.heap.size (fun k W => HoI A c zs f1 f2 (some ad) ct ts pr fo sp ot m (holdN hi m k) (breakN lo m k) w M g W) (fun _ _ => False) (k + 1) Wb .normal a' ((W9.setCell ⟨w.heap.size + 1 + 1 + 1, 0, none⟩ (.bool v6)).setCell ⟨w.heap.size + 1 + 1 + 1 + 1, 0, none⟩ (.bool v7)) := by
        rintro a' _ _ rfl rfl
        refine ⟨by simpa using BD9.out.size, fun j h1 h2 => ?_, (I9.out.set6 hm (by omega) _).set7 hm (by omega) _⟩
        exact (Below.heap_setCell _ _ _ j (by dsimp only; omega)).trans ((Below.heap_setCell _ _ _ j (by dsimp only; omega)).trans (BD9.out.block j (by have := WS.out; have := HW.out; omega)))
      have E6 : holdN hi m (k + 1) = (holdN hi m k && decide (hi k ≤ m)) := rfl
      have E7 : breakN lo m (k + 1) = (breakN lo m k || decide (lo k > m)) := rfl
      generalize holdN hi m (k + 1) = n6 at E6 fin
      generalize breakN lo m (k + 1) = n7 at E7 fin
      generalize holdN hi m k = b6 at I9 E6
      generalize breakN lo m k = b7 at I9 E7
      subst E6
      subst E7
      have FINA := Sd.mk fin
      clear fin
      have I10 := fun v : Bool => I9.out.set6 hm (by omega) v
      have e6 : W9.cell? ⟨w.heap.size + 1 + 1 + 1, 0, none⟩ = some (.bool b6) := (blk_cell I9.out.b6 0).trans rfl
      have f6 := blk_frozen I9.out.b6 0
      have e8 : W9.cell? ⟨M, 0, none⟩ = some (.int .i64 m) := (blk_cell I9.out.b8 0).trans rfl
      have t0 : W9.cell? ⟨T, 0, none⟩ = some (.int .i64 (lo k)) := (blk_cell T9.out 0).trans rfl
      have t1 : W9.cell? ⟨T, 0 + 1, none⟩ = some (.int .i64 (hi k)) := (blk_cell T9.out 1).trans rfl
      have e7 := fun v : Bool => show (W9.setCell ⟨w.heap.size + 1 + 1 + 1, 0, none⟩ (.bool v)).cell? ⟨w.heap.size + 1 + 1 + 1 + 1, 0, none⟩ = some (.bool b7) from (blk_cell (I10 v).b7 0).trans rfl
      have f7 := fun v : Bool => blk_frozen (I10 v).b7 0
      have e8x := fun v : Bool => show (W9.setCell ⟨w.heap.size + 1 + 1 + 1, 0, none⟩ (.bool v)).cell? ⟨M, 0, none⟩ = some (.int .i64 m) from (blk_cell (I10 v).b8 0).trans rfl
      have t0x := fun v : Bool => show (W9.setCell ⟨w.heap.size + 1 + 1 + 1, 0, none⟩ (.bool v)).cell? ⟨T, 0, none⟩ = some (.int .i64 (lo k)) from (blk_cell (blk_far T9.out (p := ⟨w.heap.size + 1 + 1 + 1, 0, none⟩) (by have := HT9.out; dsimp only; omega) _) 0).trans rfl
      have et := e7 true; have ef := e7 false; have ft := f7 true; have ff := f7 false; have xt := e8x true; have xf := e8x false; have yt := t0x true; have yf := t0x false
      clear I10 e7 f7 e8x t0x I9 T9 BD9 CKd RBd BD
      (cases b6 <;> cases b7 <;> (by_cases c1 : hi k ≤ m) <;> (by_cases c2 : lo k > m) <;> (first | (have d1 : decide (hi k ≤ m) = true := decide_eq_true c1) | (have d1 : decide (hi k ≤ m) = false := decide_eq_false c1)) <;> (first | (have d2 : decide (lo k > m) = true := decide_eq_true c2; have d3 : decide (m < lo k) = true := decide_eq_true c2) | (have d2 : decide (lo k > m) = false := decide_eq_false c2; have d3 : decide (m < lo k) = false := decide_eq_false c2)) <;> clear c1 c2 <;> (have D1 := Sd.mk d1; have D2 := Sd.mk d2) <;> gi_wp2 <;> (refine FINA.out _ _ _ ?_ ?_ <;> (first | rw [D1.out] | rw [D2.out] | skip) <;> (first | rfl | simp [D1.out, D2.out])))
    refine AllReadyL.cons rfl (by simp) (fun K hK => ?_) ?_
    · go_simp
      refine hK.out _ _ ⟨CKd.out.alloc _, blk_alloc RBd.out _⟩ (fun hHeld => ?_)
      clear hK K
      refine one_ (i := 6) (N := some 24) #[true, true, true, true, true, true, true, true, false] rfl rfl (one_of HT_.out (by kernel_rfl)) (by decide) (fun K hK => ?_)
      refine goes_ Try.func150 (by kernel_rfl) rfl #[.agg #[.int .i64 x.f0.f0, .int .i64 x.f0.f1, .int .i64 x.f1.f0, .int .i64 x.f1.f1, .int .i64 x.f2.f0, .int .i64 x.f2.f1, .int .i64 x.f3.f0, .int .i64 x.f3.f1, .int .i64 x.f4.f0, .int .i64 x.f4.f1], .agg #[.int .i64 y.f0, .int .i64 y.f1], .agg #[.int .i64 pr, .int .i64 fo, .int .i64 sp, .int .i64 ot]] (by (try simp only [Array.map_toArray, List.map_toArray, List.map_cons, List.map_nil]); rfl) rfl rfl (by (try simp only [List.map_toArray, List.map_cons, List.map_nil]); first | done | rfl) ?_
      refine (HSK.out _).mono ?_
      rintro e w4 ⟨rfl, hb⟩
      refine ⟨_, rfl, ?_⟩
      have I4 := Sd.mk ((CKd.out.alloc (.cells #[.int .i64 0, .int .i64 0] 27)).step hb)
      have RB4 : Sd (w4.heap[W.heap.size]? = some (.cells #[.int .i64 x.f0.f0, .int .i64 x.f0.f1, .int .i64 x.f1.f0, .int .i64 x.f1.f1, .int .i64 x.f2.f0, .int .i64 x.f2.f1, .int .i64 x.f3.f0, .int .i64 x.f3.f1, .int .i64 x.f4.f0, .int .i64 x.f4.f1] 170 (0, 0))) := ⟨blk_below (blk_alloc RBd.out _) hb⟩
      have BT4 : Sd (w4.heap[Wd.heap.size]? = some (.cells #[.int .i64 0, .int .i64 0] 27 (0, 0))) := ⟨blk_below (blk_new Wd _) hb⟩
      have BD4 := Sd.mk (below_then (below_alloc BD.out (.cells #[.int .i64 0, .int .i64 0] 27)) (below_alloc BD.out (.cells #[.int .i64 0, .int .i64 0] 27)).size hb)
      clear hb
      refine hK.out _ _ ⟨I4.out, RB4.out⟩ (fun hHeld => ?_)
      clear hK K
      refine norm_ (a' := ?_) ?_ ?_
      rotate_left
      · show Act.put _ (some 24) _ = _
        simp only [Act.put, List.setIfInBounds_toArray, List.set_cons_zero, List.set_cons_succ, i64_w, i32_w]
        rfl
      refine one_ (i := 8) (N := none) #[true, true, true, true, true, true, true, true, true] rfl rfl (one_of HT_.out (by kernel_rfl)) (by decide) (fun K hK => ?_)
      have ht0 : w4.cell? ⟨Wd.heap.size, 0, none⟩ = some (.int .i64 0) := (blk_cell BT4.out 0).trans rfl
      have ht1 : w4.cell? ⟨Wd.heap.size, 0 + 1, none⟩ = some (.int .i64 0) := (blk_cell BT4.out 1).trans rfl
      have htf := blk_frozen BT4.out 0
      have htg := blk_frozen BT4.out 1
      go_simp
      have HT9 := Sd.mk (show w3.heap.size + 1 < Wd.heap.size from by have := BD.out.size; have := WS.out; have := HW.out; omega)
      have hq1 : w.heap.size + 5 ≤ Wd.heap.size := by have := HM.out; have := HG.out; have := HG3.out; have := HT9.out; omega
      have hq2 : M ≠ Wd.heap.size := by have := HM.out; have := HG.out; have := HG3.out; have := HT9.out; omega
      have hq3 : g ≠ Wd.heap.size := by have := HM.out; have := HG.out; have := HG3.out; have := HT9.out; omega
      have hq4 : W.heap.size ≠ Wd.heap.size := by have := BD.out.size; have := WS.out; omega
      have I9 := Sd.mk ((I4.out.far hq1 hq2 hq3 0 (.int .i64 (lo k))).far hq1 hq2 hq3 1 (.int .i64 (hi k)))
      have RB9 := Sd.mk (blk_far (blk_far RB4.out (p := ⟨Wd.heap.size, 0, none⟩) hq4 (.int .i64 (lo k))) (p := ⟨Wd.heap.size, 1, none⟩) hq4 (.int .i64 (hi k)))
      have T9 : Sd (((w4.setCell ⟨Wd.heap.size, 0, none⟩ (.int .i64 (lo k))).setCell ⟨Wd.heap.size, 1, none⟩ (.int .i64 (hi k))).heap[Wd.heap.size]? = some (.cells #[.int .i64 (lo k), .int .i64 (hi k)] 27 (0, 0))) := ⟨blk_put (blk_put BT4.out 0 _ rfl) 1 _ rfl⟩
      have BD9 := Sd.mk (below_set (below_set BD4.out (g := Wd.heap.size) (j := 0) (v := .int .i64 (lo k)) BD.out.size) (g := Wd.heap.size) (j := 1) (v := .int .i64 (hi k)) BD.out.size)
      clear hq1 hq2 hq3 hq4 ht0 ht1 htf htg
      refine hK.out _ _ ⟨I9.out, RB9.out⟩ (fun hHeld => ?_)
      clear hK K
      refine done_ (done_of HT_.out (by kernel_rfl)) ?_
      clear hHeld HT_ HW_
      generalize (w4.setCell ⟨Wd.heap.size, 0, none⟩ (.int .i64 (lo k))).setCell ⟨Wd.heap.size, 1, none⟩ (.int .i64 (hi k)) = W9 at I9 T9 BD9 ⊢
      generalize Wd.heap.size = T at HT9 T9 ⊢
      have hg3 := HG3.out
      have hg := HG.out
      have hm := HM.out
      have fin : ∀ (a' : Act) (v6 v7 : Bool), v6 = holdN hi m (k + 1) → v7 = breakN lo m (k + 1) → bodyPostP w3.heap.size (fun k W => HoI A c zs f1 f2 (some ad) ct ts pr fo sp ot m (holdN hi m k) (breakN lo m k) w M g W) (fun _ _ => False) (k + 1) Wb .normal a' ((W9.setCell ⟨w.heap.size + 1 + 1 + 1, 0, none⟩ (.bool v6)).setCell ⟨w.heap.size + 1 + 1 + 1 + 1, 0, none⟩ (.bool v7)) := by
        rintro a' _ _ rfl rfl
        refine ⟨by simpa using BD9.out.size, fun j h1 h2 => ?_, (I9.out.set6 hm (by omega) _).set7 hm (by omega) _⟩
        exact (Below.heap_setCell _ _ _ j (by dsimp only; omega)).trans ((Below.heap_setCell _ _ _ j (by dsimp only; omega)).trans (BD9.out.block j (by have := WS.out; have := HW.out; omega)))
      have E6 : holdN hi m (k + 1) = (holdN hi m k && decide (hi k ≤ m)) := rfl
      have E7 : breakN lo m (k + 1) = (breakN lo m k || decide (lo k > m)) := rfl
      generalize holdN hi m (k + 1) = n6 at E6 fin
      generalize breakN lo m (k + 1) = n7 at E7 fin
      generalize holdN hi m k = b6 at I9 E6
      generalize breakN lo m k = b7 at I9 E7
      subst E6
      subst E7
      have FINA := Sd.mk fin
      clear fin
      have I10 := fun v : Bool => I9.out.set6 hm (by omega) v
      have e6 : W9.cell? ⟨w.heap.size + 1 + 1 + 1, 0, none⟩ = some (.bool b6) := (blk_cell I9.out.b6 0).trans rfl
      have f6 := blk_frozen I9.out.b6 0
      have e8 : W9.cell? ⟨M, 0, none⟩ = some (.int .i64 m) := (blk_cell I9.out.b8 0).trans rfl
      have t0 : W9.cell? ⟨T, 0, none⟩ = some (.int .i64 (lo k)) := (blk_cell T9.out 0).trans rfl
      have t1 : W9.cell? ⟨T, 0 + 1, none⟩ = some (.int .i64 (hi k)) := (blk_cell T9.out 1).trans rfl
      have e7 := fun v : Bool => show (W9.setCell ⟨w.heap.size + 1 + 1 + 1, 0, none⟩ (.bool v)).cell? ⟨w.heap.size + 1 + 1 + 1 + 1, 0, none⟩ = some (.bool b7) from (blk_cell (I10 v).b7 0).trans rfl
      have f7 := fun v : Bool => blk_frozen (I10 v).b7 0
      have e8x := fun v : Bool => show (W9.setCell ⟨w.heap.size + 1 + 1 + 1, 0, none⟩ (.bool v)).cell? ⟨M, 0, none⟩ = some (.int .i64 m) from (blk_cell (I10 v).b8 0).trans rfl
      have t0x := fun v : Bool => show (W9.setCell ⟨w.heap.size + 1 + 1 + 1, 0, none⟩ (.bool v)).cell? ⟨T, 0, none⟩ = some (.int .i64 (lo k)) from (blk_cell (blk_far T9.out (p := ⟨w.heap.size + 1 + 1 + 1, 0, none⟩) (by have := HT9.out; dsimp only; omega) _) 0).trans rfl
      have et := e7 true; have ef := e7 false; have ft := f7 true; have ff := f7 false; have xt := e8x true; have xf := e8x false; have yt := t0x true; have yf := t0x false
      clear I10 e7 f7 e8x t0x I9 T9 BD9 CKd RBd BD
      (cases b6 <;> cases b7 <;> (by_cases c1 : hi k ≤ m) <;> (by_cases c2 : lo k > m) <;> (first | (have d1 : decide (hi k ≤ m) = true := decide_eq_true c1) | (have d1 : decide (hi k ≤ m) = false := decide_eq_false c1)) <;> (first | (have d2 : decide (lo k > m) = true := decide_eq_true c2; have d3 : decide (m < lo k) = true := decide_eq_true c2) | (have d2 : decide (lo k > m) = false := decide_eq_false c2; have d3 : decide (m < lo k) = false := decide_eq_false c2)) <;> clear c1 c2 <;> (have D1 := Sd.mk d1; have D2 := Sd.mk d2) <;> gi_wp2 <;> (refine FINA.out _ _ _ ?_ ?_ <;> (first | rw [D1.out] | rw [D2.out] | skip) <;> (first | rfl | simp [D1.out, D2.out])))
    exact AllReadyL.nil
  case fn => intro ⟨_, _, h⟩; exact h.elim
  case panic => intro _ _ h; exact h.elim
  case done =>
    intro W hI hD
    have HI2 := Sd.mk hI
    have HD := Sd.mk hD
    have hId := hI.drew
    have e6 : W.drew.cell? ⟨w.heap.size + 1 + 1 + 1, 0, none⟩ = some (.bool (holdN hi m zs.length)) := (blk_cell hId.b6 0).trans rfl
    have f6 := blk_frozen hId.b6 0
    have e7 : W.drew.cell? ⟨w.heap.size + 1 + 1 + 1 + 1, 0, none⟩ = some (.bool (breakN lo m zs.length)) := (blk_cell hId.b7 0).trans rfl
    have I10 := (hI.set6 HM.out (by have := HM.out; have := HG.out; omega) (holdN hi m zs.length)).drew
    have e7x : (W.setCell ⟨w.heap.size + 1 + 1 + 1, 0, none⟩ (.bool (holdN hi m zs.length))).drew.cell? ⟨w.heap.size + 1 + 1 + 1 + 1, 0, none⟩ = some (.bool (breakN lo m zs.length)) := (blk_cell I10.b7 0).trans rfl
    have f7 := blk_frozen I10.b7 0
    have J11 := Sd.mk ((hI.set6 HM.out (by have := HM.out; have := HG.out; omega) (holdN hi m zs.length)).set7 HM.out (by have := HM.out; have := HG.out; omega) (breakN lo m zs.length))
    clear hI hD hId I10 I0
    have hmx : Try.prog.follows .mixedOrders = true := by kernel_rfl
    generalize hb6 : holdN hi m zs.length = b6 at e6 f6 e7 e7x f7 HI2 J11
    generalize hb7 : breakN lo m zs.length = b7 at e7 e7x HI2 J11
    have HB6 := Sd.mk hb6
    have HB7 := Sd.mk hb7
    clear hb6 hb7
    gi_wp2
    gi_region
    clear e6 e7 e7x f6 f7
    gi_wp2
    have hm := HM.out
    have hg := HG.out
    have hg3 := HG3.out
    have J12 := J11.out.drew
    have hd : ((W.setCell ⟨w.heap.size + 1 + 1 + 1, 0, none⟩ (.bool b6)).setCell ⟨w.heap.size + 1 + 1 + 1 + 1, 0, none⟩ (.bool b7)).drew.heap[w3.heap.size]? = some (.deferred (some [])) := (Below.heap_setCell _ _ _ _ (by dsimp only; omega)).trans ((Below.heap_setCell _ _ _ _ (by dsimp only; omega)).trans HD.out)
    generalize ((W.setCell ⟨w.heap.size + 1 + 1 + 1, 0, none⟩ (.bool b6)).setCell ⟨w.heap.size + 1 + 1 + 1 + 1, 0, none⟩ (.bool b7)).drew = W9 at J12 hd ⊢
    refine ⟨by simp, .inl ⟨_, _, rfl, run_takeDeferred hd, ?_⟩⟩
    exact ⟨_, results_bb rfl _ _ (w.heap.size + 1 + 1 + 1) (w.heap.size + 1 + 1 + 1 + 1) b6 b7 rfl (putObj_heap_keep (by omega) J12.b6) rfl (putObj_heap_keep (by omega) J12.b7), by rw [HB6.out, HB7.out], below_putObj J12.be (by omega) (Array.getElem?_eq_some_iff.1 hd).1⟩
end Go.Proofs.Ytkjkokgbhepmoaa.PB

namespace Go.Proofs.Ytkjkokgbhepmoaa.PB
open Go.RowKit Go.Proofs.YtkjkokgbhepmoaaW.PrintWords Go.Proofs.YtkjkokgbhepmoaaW.PrintLast Go.Proofs.YtkjkokgbhepmoaaW.PrintMore
theorem limit1_calls (s n : Int) (X : Nat) (w : World) (hX : w.heap[X]? = some (.cells #[.int .i64 n] 3 (0, 0))) :
    Calls Try.prog 162 #[.int .i64 s, .pointer (some ⟨X, 0, none⟩)] w fun e w' => e = .returned (.bool (decide (wrap64 (s * s) > n))) ∧ Below w.heap.size w w' := by
  have hx : w.cell? ⟨X, 0, none⟩ = some (.int .i64 n) := (blk_cell hX 0).trans rfl
  clear hX
  go_enter Try.func162, Try.ntmps162
  go_wp2
  go_ret
  exact ⟨rfl, Below.refl _ _⟩
def limP (n : Int) (i : Nat) : Bool := decide ((i : Int) * (i : Int) > n)
theorem limP_mono (n : Int) (a b : Nat) (h : a ≤ b) (ha : limP n a = true) : limP n b = true := by
  simp only [limP, decide_eq_true_eq] at ha ⊢
  have h1 : (a : Int) ≤ (b : Int) := by omega
  have h2 := Int.mul_le_mul h1 h1 (by omega) (by omega)
  omega
theorem limP_w (n : Int) (i : Nat) (h : i < 40000001) : decide (wrap64 (wrap64 (0 + (i : Int)) * wrap64 (0 + (i : Int))) > n) = limP n i := by
  have h1 : (i : Int) ≤ 40000000 := by omega
  have h2 := Int.mul_le_mul h1 h1 (by omega) (by omega)
  have h3 : 0 ≤ (i : Int) * (i : Int) := Int.mul_nonneg (by omega) (by omega)
  rw [Int.zero_add, wsmall (x := (i : Int)) (by omega) (by omega), wsmall (x := (i : Int) * (i : Int)) (by omega) (by omega)]
  rfl
theorem lim_n : wrap64 (wrap64 (40000000 - 0) + 1) = ((40000001 : Nat) : Int) := by
  rw [wsmall (x := 40000000 - 0) (by omega) (by omega), wsmall (by omega) (by omega)]; omega
noncomputable def limC (n : Int) : Nat := Classical.choose (turnsAt_ex (limP n) (limP_mono n) 40000001)
theorem limC_spec (n : Int) : TurnsAt (limP n) 40000001 (limC n) := Classical.choose_spec (turnsAt_ex (limP n) (limP_mono n) 40000001)
noncomputable def limM (f1 f2 : Int) : Int := wrap64 (wrap64 (0 + (limC (wrap64 (Int.tdiv f2 f1)) : Int)) - 1)
set_option maxRecDepth 100000 in
theorem limit_calls (A : Option Addr) (c : Nat) (zs : List S170) (f1 f2 : Int) (hf : ¬ f1 = 0) (w : World) :
    Calls Try.prog 149 #[.agg #[.slice A zs.length c, .int .i64 f1, .int .i64 f2]] w fun e w' => e = .returned (.int .i64 (limM f1 f2)) ∧ Below w.heap.size w w' := by
  have hmf := run_makeFunc_
  have HM : Sd (limM f1 f2 = wrap64 (wrap64 (0 + (limC (wrap64 (Int.tdiv f2 f1)) : Int)) - 1)) := ⟨rfl⟩
  have hsp := limC_spec (wrap64 (Int.tdiv f2 f1))
  generalize limC (wrap64 (Int.tdiv f2 f1)) = cc at HM hsp
  have HSP := Sd.mk hsp
  clear hsp
  have hf' : (f1 == 0) = false := beq_eq_false_iff_ne.mpr hf
  obtain ⟨b1, b2, hb0, hsz⟩ := blk_two w (.cells #[.slice A zs.length c, .int .i64 f1, .int .i64 f2] 92) (.cells #[.int .i64 (wrap64 (Int.tdiv f2 f1))] 3)
  have BN := Sd.mk b2
  have HB := Sd.mk hb0
  have HSZ := Sd.mk hsz
  clear b1 b2 hb0 hsz
  go_enter Try.func149, Try.ntmps149
  go_wp2_with (go_at_call 161; go_loud (refine (first_calls 162 #[.pointer (some ⟨w.heap.size + 1, 0, none⟩)] (enters_of Try.func162 (by kernel_rfl) rfl) 0 40000000 40000001 lim_n (by decide) _ cc HSP.out _ (fun W i hW hi => (limit1_calls _ _ _ W (blk_below BN.out hW)).mono fun e w' he => ⟨by rw [he.1, limP_w _ i hi], he.2⟩)).mono ?_; rintro e w1 ⟨rfl, hb⟩))
  go_ret
  exact ⟨by rw [HM.out, Int.zero_add]; rfl, below_then HB.out HB.out.size hb⟩
theorem results_tte {fn : Func} {p u v : Tmp} (h : fn.results = #[.tmp u, .tmp v, .cell p 38]) (tmps : Array Value) (w : World) (g : Nat) (x : Int) (hp : tmps.getD p undef = .pointer (some ⟨g, 0, none⟩)) (hg : w.heap[g]? = some (.cells #[.int .i64 x] 38 (0, 0))) :
    (results fn tmps).run Try.prog w = .ok (.tuple #[tmps.getD u undef, tmps.getD v undef, .int .i64 x]) w := by
  have hp' : tmps[p]?.getD undef = .pointer (some ⟨g, 0, none⟩) := by simpa using hp
  simp [results, h, hp', asAddr, run_var38 w g x hg]
theorem askL_ok (A : Option Addr) (c : Nat) (zs : List S170) (f1 f2 : Int) (At : Option Addr) (ct : Nat) (ts : List S27) (pr fo sp ot : Int) (w : World) (hr : Kd.C k170 w A zs.length zs) (ht : Kd.C k27 w At ts.length ts) (h : askLV zs f1 f2 ts pr fo sp ot = 0) :
    Calls Try.prog 106 #[.agg #[.slice A zs.length c, .int .i64 f1, .int .i64 f2], .slice At ts.length ct, .agg #[.int .i64 pr, .int .i64 fo, .int .i64 sp, .int .i64 ot]] w fun en w' => en = .returned (.tuple #[]) ∧ Below w.heap.size w w' :=
  (askL_calls A c zs f1 f2 At ct ts pr fo sp ot w hr ht).mono fun e w' he => ⟨by rw [he.1, h]; rfl, he.2⟩
theorem askL_no (A : Option Addr) (c : Nat) (zs : List S170) (f1 f2 : Int) (At : Option Addr) (ct : Nat) (ts : List S27) (pr fo sp ot : Int) (w : World) (hr : Kd.C k170 w A zs.length zs) (ht : Kd.C k27 w At ts.length ts) (h : askLV zs f1 f2 ts pr fo sp ot ≠ 0) :
    Calls Try.prog 106 #[.agg #[.slice A zs.length c, .int .i64 f1, .int .i64 f2], .slice At ts.length ct, .agg #[.int .i64 pr, .int .i64 fo, .int .i64 sp, .int .i64 ot]] w fun en w' => en = .panicked (failC (askLV zs f1 f2 ts pr fo sp ot)) ∧ Below w.heap.size w w' :=
  (askL_calls A c zs f1 f2 At ct ts pr fo sp ot w hr ht).mono fun e w' he => ⟨by rw [he.1, endF_ne h], he.2⟩
theorem askLV_len {zs : List S170} {f1 f2 : Int} {ts : List S27} {pr fo sp ot : Int} (h : askLV zs f1 f2 ts pr fo sp ot = 0) : ts.length = zs.length := by
  revert h
  unfold askLV
  split
  · split
    · rename_i h1
      simp only [Bool.and_eq_true, decide_eq_true_eq] at h1
      exact fun _ => h1.1
    · intro h; cases h
  · intro h; exact absurd h (by assumption)
set_option maxHeartbeats 4000000 in
set_option maxRecDepth 100000 in
theorem Holds_ok (A : Option Addr) (c : Nat) (zs : List S170) (f1 f2 : Int) (At : Option Addr) (ct : Nat) (ts : List S27) (pr fo sp ot m : Int) (lo hi : Nat → Int) (w : World) (hr : Kd.C k170 w A zs.length zs) (ht : Kd.C k27 w At ts.length ts) (h : askLV zs f1 f2 ts pr fo sp ot = 0)
    (hlim : ∀ W, Calls Try.prog 149 #[.agg #[.slice A zs.length c, .int .i64 f1, .int .i64 f2]] W fun e w' => e = .returned (.int .i64 m) ∧ Below W.heap.size W w')
    (hst : ∀ k : Nat, k < zs.length → ∀ W, Calls Try.prog 150 #[ringV (rd_T170 zs (k : Int)), spanV (rd_T27 ts (k : Int)), loadVv pr fo sp ot] W fun e w' => e = .returned (.agg #[.int .i64 (lo k), .int .i64 (hi k)]) ∧ Below W.heap.size W w') :
    Calls Try.prog 44 #[.agg #[.slice A zs.length c, .int .i64 f1, .int .i64 f2], .slice At ts.length ct, .agg #[.int .i64 pr, .int .i64 fo, .int .i64 sp, .int .i64 ot]] w fun e w' => e = .returned (.tuple #[.bool (holdN hi m zs.length), .bool (breakN lo m zs.length), .int .i64 0]) ∧ Below w.heap.size w w' := by
  have hmf := run_makeFunc_
  obtain ⟨b1, b2, b3, hb0, hsz⟩ := blk_three w (.cells #[.slice A zs.length c, .int .i64 f1, .int .i64 f2] 92) (.cells #[.int .i64 pr, .int .i64 fo, .int .i64 sp, .int .i64 ot] 73) (.cells #[.int .i64 0] 38)
  have BX := Sd.mk b1
  have BL := Sd.mk b2
  have BE := Sd.mk b3
  have HB := Sd.mk hb0
  have HR := Sd.mk hr
  have HT := Sd.mk ht
  have H0 := Sd.mk h
  have HH := Sd.mk (fun W hr' ht' => holds_calls A c zs f1 f2 At ct ts pr fo sp ot m lo hi W hr' ht' (askLV_len h) hlim hst)
  clear b1 b2 b3 hb0 hsz hr ht h hlim hst
  generalize holdN hi m zs.length = b6 at *
  generalize breakN lo m zs.length = b7 at *
  go_enter_defers Try.func44, Try.ntmps44
  go_wp2_with (first | (go_at_call 106; refine (askL_ok A c zs f1 f2 At ct ts pr fo sp ot _ (Kd.C_below HR.out HB.out) (Kd.C_below HT.out HB.out) H0.out).mono ?_; rintro e w1 ⟨rfl, hb1⟩; have BX1 := Sd.mk (blk_below BX.out hb1); have BL1 := Sd.mk (blk_below BL.out hb1); have BE1 := Sd.mk (blk_below BE.out hb1); have HB1 := Sd.mk (below_then HB.out HB.out.size hb1); clear hb1; have hx0 : w1.cell? ⟨w.heap.size, 0, none⟩ = some (.slice A zs.length c) := (blk_cell BX1.out 0).trans rfl; have hx1 : w1.cell? ⟨w.heap.size, 0 + 1, none⟩ = some (.int .i64 f1) := (blk_cell BX1.out 1).trans rfl; have hx2 : w1.cell? ⟨w.heap.size, 0 + 2, none⟩ = some (.int .i64 f2) := (blk_cell BX1.out 2).trans rfl; have hq0 : w1.cell? ⟨w.heap.size + 1, 0, none⟩ = some (.int .i64 pr) := (blk_cell BL1.out 0).trans rfl; have hq1 : w1.cell? ⟨w.heap.size + 1, 0 + 1, none⟩ = some (.int .i64 fo) := (blk_cell BL1.out 1).trans rfl; have hq2 : w1.cell? ⟨w.heap.size + 1, 0 + 2, none⟩ = some (.int .i64 sp) := (blk_cell BL1.out 2).trans rfl; have hq3 : w1.cell? ⟨w.heap.size + 1, 0 + 3, none⟩ = some (.int .i64 ot) := (blk_cell BL1.out 3).trans rfl) | (go_at_call 107; refine (HH.out _ (Kd.C_below HR.out HB1.out) (Kd.C_below HT.out HB1.out)).mono ?_; rintro e w3 ⟨rfl, hb3⟩; have BE3 := Sd.mk (blk_below BE1.out hb3); have HB3 := Sd.mk (below_then HB1.out HB1.out.size hb3); have he0 : w3.cell? ⟨w.heap.size + 1 + 1, 0, none⟩ = some (.int .i64 0) := (blk_cell BE3.out 0).trans rfl; have he1 := blk_frozen BE3.out 0))
  refine leaves_cons (f := 105) (args := #[.pointer (some ⟨w.heap.size + 1 + 1, 0, none⟩)]) (by simp) (by simp [go_sem]) ?_
  refine (door105_ok _ _).mono ?_
  rintro e u' w'' ⟨rfl, rfl, rfl⟩
  exact ⟨_, results_tte rfl _ _ (w.heap.size + 1 + 1) 0 rfl (blk_put BE3.out 0 _ rfl), rfl, below_set HB3.out (by omega)⟩
set_option maxHeartbeats 4000000 in
set_option maxRecDepth 100000 in
theorem Holds_no (A : Option Addr) (c : Nat) (zs : List S170) (f1 f2 : Int) (At : Option Addr) (ct : Nat) (ts : List S27) (pr fo sp ot : Int) (w : World) (hr : Kd.C k170 w A zs.length zs) (ht : Kd.C k27 w At ts.length ts) (h : askLV zs f1 f2 ts pr fo sp ot ≠ 0) :
    Calls Try.prog 44 #[.agg #[.slice A zs.length c, .int .i64 f1, .int .i64 f2], .slice At ts.length ct, .agg #[.int .i64 pr, .int .i64 fo, .int .i64 sp, .int .i64 ot]] w fun e w' => e = .returned (.tuple #[.bool false, .bool false, .int .i64 (askLV zs f1 f2 ts pr fo sp ot)]) ∧ Below w.heap.size w w' := by
  have hmf := run_makeFunc_
  obtain ⟨b1, b2, b3, hb0, hsz⟩ := blk_three w (.cells #[.slice A zs.length c, .int .i64 f1, .int .i64 f2] 92) (.cells #[.int .i64 pr, .int .i64 fo, .int .i64 sp, .int .i64 ot] 73) (.cells #[.int .i64 0] 38)
  have BE := Sd.mk b3
  have HB := Sd.mk hb0
  have HR := Sd.mk hr
  have HT := Sd.mk ht
  have H0 := Sd.mk h
  clear b1 b2 b3 hb0 hsz hr ht h
  go_enter_defers Try.func44, Try.ntmps44
  go_wp2_with (go_at_call 106; refine (askL_no A c zs f1 f2 At ct ts pr fo sp ot _ (Kd.C_below HR.out HB.out) (Kd.C_below HT.out HB.out) H0.out).mono ?_; rintro e w1 ⟨rfl, hb1⟩)
  refine leaves_cons (f := 105) (args := #[.pointer (some ⟨w.heap.size + 1 + 1, 0, none⟩)]) (by simp) (by simp [go_sem]) ?_
  refine (door105_fail _ _ 0 [] _ (blk_below BE.out hb1)).mono ?_
  rintro e u' w'' ⟨rfl, rfl, rfl⟩
  exact ⟨_, results_tte rfl _ _ (w.heap.size + 1 + 1) _ rfl (blk_put (blk_alloc (blk_below BE.out hb1) _) 0 _ rfl), rfl, below_set (below_alloc (below_then HB.out HB.out.size hb1) _) (by omega)⟩
end Go.Proofs.Ytkjkokgbhepmoaa.PB

namespace Go.Proofs.Ytkjkokgbhepmoaa.PB
open Go.RowKit Go.Proofs.YtkjkokgbhepmoaaW.PrintWords Go.Proofs.YtkjkokgbhepmoaaW.PrintLast Go.Proofs.YtkjkokgbhepmoaaW.PrintMore
theorem down_small {n d : Int} (h0 : 0 ≤ n) (h1 : n ≤ 1000000000000000000) (h2 : 1 ≤ d) : ∃ q, strength_down.f n d = some q ∧ 0 ≤ q ∧ q ≤ n := by
  refine ⟨n / d, ?_, Int.ediv_nonneg h0 (by omega), Int.ediv_le_self d h0⟩
  unfold strength_down.f
  have a := Int.ediv_nonneg h0 (show 0 ≤ d by omega)
  have b := Int.ediv_le_self d h0
  rw [if_neg (by omega), Int.tdiv_eq_ediv_of_nonneg h0, wsmall (by omega) (by omega)]
theorem up_small {n d : Int} (h0 : 0 ≤ n) (h1 : n ≤ 400000000000000000) (h2 : 1 ≤ d) (h3 : d ≤ 400000000000000000) : ∃ q, strength_up.f n d = some q ∧ 0 ≤ q ∧ q ≤ n := by
  have h4 : 0 ≤ n + d - 1 := by omega
  have a := Int.ediv_nonneg h4 (show 0 ≤ d by omega)
  have b : (n + d - 1) / d ≤ n := by
    have h5 : n + d - 1 < (n + 1) * d := by
      have := Int.mul_le_mul_of_nonneg_left h2 h0
      have e : (n + 1) * d = n * d + d := by rw [Int.add_mul, Int.one_mul]
      omega
    have := Int.ediv_lt_of_lt_mul (show 0 < d by omega) h5
    omega
  refine ⟨(n + d - 1) / d, ?_, a, b⟩
  unfold strength_up.f
  rw [if_neg (by omega), wsmall (x := n + d) (by omega) (by omega), wsmall (x := n + d - 1) (by omega) (by omega), Int.tdiv_eq_ediv_of_nonneg h4, wsmall (by omega) (by omega)]
theorem mulB {a b A B : Int} (a0 : 0 ≤ a) (b0 : 0 ≤ b) (a1 : a ≤ A) (b1 : b ≤ B) : 0 ≤ a * b ∧ a * b ≤ A * B :=
  ⟨Int.mul_nonneg a0 b0, Int.mul_le_mul a1 b1 b0 (by omega)⟩
theorem mulW {a b A B : Int} (a0 : 0 ≤ a) (b0 : 0 ≤ b) (a1 : a ≤ A) (b1 : b ≤ B) (h : A * B ≤ 1000000000000000000) : wrap64 (a * b) = a * b ∧ 0 ≤ a * b ∧ a * b ≤ A * B := by
  have := mulB a0 b0 a1 b1
  exact ⟨wsmall (by omega) (by omega), this⟩
theorem parts_small {x : S170} {t : S27} (hx : ringB x = true) (ht : spanB t.f0 t.f1 1 2000 = true) {pr fo sp : Int} (hp : inB pr 0 10000 = true) (hf : inB fo 0 20000 = true) (hs : inB sp 0 2000 = true) :
    ∃ lo hi : Nat → Int, (∀ k, k < 3 → 0 ≤ lo k ∧ lo k ≤ 2000000000000 ∧ 0 ≤ hi k ∧ hi k ≤ 2000000000000) ∧ ∀ ot k, k < 3 → partF x t pr fo sp ot k = some (lo k, hi k) := by
  simp only [ringB, spanB, inB, Bool.and_eq_true, decide_eq_true_eq] at hx ht hp hf hs
  obtain ⟨⟨⟨a1, a2⟩, a3⟩, ⟨⟨a4, a5⟩, a6⟩, ⟨⟨a7, a8⟩, a9⟩, ⟨⟨b1, b2⟩, b3⟩, ⟨⟨b4, b5⟩, b6⟩⟩ := hx
  have c1 := mulW hp.1 (show 0 ≤ x.f0.f0 by omega) hp.2 (show x.f0.f0 ≤ 1000 by omega) (by decide)
  have c2 := mulW c1.2.1 (show 0 ≤ x.f3.f0 by omega) c1.2.2 (show x.f3.f0 ≤ 10000 by omega) (by decide)
  have c3 := mulW hp.1 (show 0 ≤ x.f0.f1 by omega) hp.2 (show x.f0.f1 ≤ 1000 by omega) (by decide)
  have c4 := mulW c3.2.1 (show 0 ≤ x.f3.f1 by omega) c3.2.2 (show x.f3.f1 ≤ 10000 by omega) (by decide)
  have d1 := mulB (show (0 : Int) ≤ 355 by omega) (show 0 ≤ x.f0.f1 by omega) (Int.le_refl 355) a3
  have d2 := mulW (show (0 : Int) ≤ 355 * x.f0.f1 by omega) (show 0 ≤ t.f1 by omega) d1.2 (show t.f1 ≤ 2000 by omega) (by decide)
  have d3 := mulW (show (0 : Int) ≤ 333 * x.f0.f0 by omega) (show 0 ≤ t.f0 by omega) (show 333 * x.f0.f0 ≤ 333000 by omega) (show t.f0 ≤ 2000 by omega) (by decide)
  have d4 : 1 ≤ 355 * x.f0.f1 * t.f1 := by
    have := Int.mul_le_mul (show 1 ≤ 355 * x.f0.f1 by omega) (show 1 ≤ t.f1 by omega) (by omega) (by omega)
    omega
  have d5 : 1 ≤ 333 * x.f0.f0 * t.f0 := by
    have := Int.mul_le_mul (show 1 ≤ 333 * x.f0.f0 by omega) (show 1 ≤ t.f0 by omega) (by omega) (by omega)
    omega
  have g1 := mulW (show 0 ≤ x.f4.f0 by omega) hs.1 (show x.f4.f0 ≤ 10000 by omega) hs.2 (by decide)
  have g2 := mulW (show 0 ≤ x.f4.f1 by omega) hs.1 (show x.f4.f1 ≤ 10000 by omega) hs.2 (by decide)
  obtain ⟨p1, e1, e1a, e1b⟩ := down_small (n := pr * x.f0.f0 * x.f3.f0) (d := 100 * t.f1) c2.2.1 (by omega) (by omega)
  obtain ⟨p2, e2, e2a, e2b⟩ := up_small (n := pr * x.f0.f1 * x.f3.f1) (d := 100 * t.f0) c4.2.1 (by omega) (by omega) (by omega)
  obtain ⟨p3, e3, e3a, e3b⟩ := down_small (n := 500000 * fo * 113) (d := 355 * x.f0.f1 * t.f1) (by omega) (by omega) d4
  obtain ⟨p4, e4, e4a, e4b⟩ := up_small (n := 500000 * fo * 106) (d := 333 * x.f0.f0 * t.f0) (by omega) (by omega) d5 (by omega)
  obtain ⟨p5, e5, e5a, e5b⟩ := down_small (n := x.f4.f0 * sp) (d := t.f1) g1.2.1 (by omega) (by omega)
  obtain ⟨p6, e6, e6a, e6b⟩ := up_small (n := x.f4.f1 * sp) (d := t.f0) g2.2.1 (by omega) (by omega) (by omega)
  refine ⟨fun k => if k = 0 then p1 else if k = 1 then p3 else p5, fun k => if k = 0 then p2 else if k = 1 then p4 else p6, fun k hk => ?_, fun ot k hk => ?_⟩
  · match k, hk with
    | 0, _ => exact ⟨e1a, by show p1 ≤ _; omega, e2a, by show p2 ≤ _; omega⟩
    | 1, _ => exact ⟨e3a, by show p3 ≤ _; omega, e4a, by show p4 ≤ _; omega⟩
    | 2, _ => exact ⟨e5a, by show p5 ≤ _; omega, e6a, by show p6 ≤ _; omega⟩
  · match k, hk with
    | 0, _ =>
      show strength_parts_1.f x.f0.f0 x.f0.f1 x.f1.f0 x.f1.f1 x.f2.f0 x.f2.f1 x.f3.f0 x.f3.f1 x.f4.f0 x.f4.f1 t.f0 t.f1 pr fo sp ot = some (p1, p2)
      unfold strength_parts_1.f
      rw [c1.1, c2.1, c3.1, c4.1, wsmall (x := 100 * t.f1) (by omega) (by omega), wsmall (x := 100 * t.f0) (by omega) (by omega), e1, Option.bind_some, e2]
      rfl
    | 1, _ =>
      show strength_parts_2.f x.f0.f0 x.f0.f1 x.f1.f0 x.f1.f1 x.f2.f0 x.f2.f1 x.f3.f0 x.f3.f1 x.f4.f0 x.f4.f1 t.f0 t.f1 pr fo sp ot = some (p3, p4)
      unfold strength_parts_2.f
      rw [wsmall (x := 500000 * fo) (by omega) (by omega), wsmall (x := 500000 * fo * 113) (by omega) (by omega), wsmall (x := 500000 * fo * 106) (by omega) (by omega), wsmall (x := 355 * x.f0.f1) (by omega) (by omega), wsmall (x := 333 * x.f0.f0) (by omega) (by omega), d2.1, d3.1, e3, Option.bind_some, e4]
      rfl
    | 2, _ =>
      show strength_parts_3.f x.f0.f0 x.f0.f1 x.f1.f0 x.f1.f1 x.f2.f0 x.f2.f1 x.f3.f0 x.f3.f1 x.f4.f0 x.f4.f1 t.f0 t.f1 pr fo sp ot = some (p5, p6)
      unfold strength_parts_3.f
      rw [g1.1, g2.1, e5, Option.bind_some, e6]
      rfl
theorem stress_sum {x : S170} {t : S27} (hx : ringB x = true) (ht : spanB t.f0 t.f1 1 2000 = true) {pr fo sp : Int} (hp : inB pr 0 10000 = true) (hf : inB fo 0 20000 = true) (hs : inB sp 0 2000 = true) :
    ∃ lo hi : Int, ∀ ot, inB ot 0 10000000 = true → ∀ w, Calls Try.prog 150 #[ringV x, spanV t, loadVv pr fo sp ot] w fun e w' => e = .returned (.agg #[.int .i64 (lo + ot), .int .i64 (hi + ot)]) ∧ Below w.heap.size w w' := by
  obtain ⟨lo, hi, h1, h2⟩ := parts_small hx ht hp hf hs
  have a := h1 0 (by omega)
  have b := h1 1 (by omega)
  have c := h1 2 (by omega)
  refine ⟨lo 0 + lo 1 + lo 2, hi 0 + hi 1 + hi 2, fun ot ho w => ?_⟩
  simp only [inB, Bool.and_eq_true, decide_eq_true_eq] at ho
  have key : ∀ f : Nat → Int, (0 ≤ f 0 ∧ f 0 ≤ 2000000000000) → (0 ≤ f 1 ∧ f 1 ≤ 2000000000000) → (0 ≤ f 2 ∧ f 2 ≤ 2000000000000) → f 3 = ot → accP f 4 = f 0 + f 1 + f 2 + ot := by
    intro f f0 f1 f2 f3
    simp only [accP]
    rw [Int.zero_add, f3, wsmall (x := f 0) (by omega) (by omega), wsmall (x := f 0 + f 1) (by omega) (by omega), wsmall (x := f 0 + f 1 + f 2) (by omega) (by omega), wsmall (by omega) (by omega)]
  have H := stress_calls x t pr fo sp ot (fun k => if k < 3 then lo k else ot) (fun k => if k < 3 then hi k else ot) w (fun k hk => by
    by_cases h3 : k < 3
    · simp only [if_pos h3]; exact h2 ot k h3
    · obtain rfl : k = 3 := by omega
      rfl)
  rw [key (fun k => if k < 3 then lo k else ot) ⟨a.1, a.2.1⟩ ⟨b.1, b.2.1⟩ ⟨c.1, c.2.1⟩ rfl, key (fun k => if k < 3 then hi k else ot) ⟨a.2.2.1, a.2.2.2⟩ ⟨b.2.2.1, b.2.2.2⟩ ⟨c.2.2.1, c.2.2.2⟩ rfl] at H
  exact H
theorem holdN_mono {h h' : Nat → Int} (m : Int) (hle : ∀ k, h k ≤ h' k) : ∀ k, holdN h' m k = true → holdN h m k = true
  | 0, _ => rfl
  | k + 1, hb => by
    simp only [holdN, Bool.and_eq_true, decide_eq_true_eq] at hb ⊢
    have := hle k
    exact ⟨holdN_mono m hle k hb.1, by omega⟩
theorem ringsOk_at (zs : List S170) : ∀ n k, ringsOk zs n = true → k < n → ringB (rd_T170 zs (k : Int)) = true
  | 0, k, _, hk => by omega
  | n + 1, k, h, hk => by
    simp only [ringsOk, Bool.and_eq_true] at h
    by_cases e : k = n
    · rw [e]; exact h.2
    · exact ringsOk_at zs n k h.1 (by omega)
theorem thickB_at {ts : List S27} (h : thickB ts = true) (k : Nat) (hk : k < ts.length) : spanB (rd_T27 ts (k : Int)).f0 (rd_T27 ts (k : Int)).f1 1 2000 = true := by
  unfold thickB at h
  rw [List.all_eq_true] at h
  have := h (ts[k]) (List.getElem_mem hk)
  simpa [rd_T27, hk] using this
theorem Holds_two (A : Option Addr) (c : Nat) (zs : List S170) (f1 f2 : Int) (At : Option Addr) (ct : Nat) (ts : List S27) (pr fo sp a b : Int) (ha : 0 ≤ a) (hab : a ≤ b) (hb : b ≤ 10000000) :
    ∃ (h1 b1 h2 b2 : Bool) (e : Int), (e = 0 → h1 = true → h2 = true) ∧
      (∀ w, Kd.C k170 w A zs.length zs → Kd.C k27 w At ts.length ts → Calls Try.prog 44 #[.agg #[.slice A zs.length c, .int .i64 f1, .int .i64 f2], .slice At ts.length ct, .agg #[.int .i64 pr, .int .i64 fo, .int .i64 sp, .int .i64 b]] w fun en w' => en = .returned (.tuple #[.bool h1, .bool b1, .int .i64 e]) ∧ Below w.heap.size w w') ∧
      (e = 0 → ∀ w, Kd.C k170 w A zs.length zs → Kd.C k27 w At ts.length ts → Calls Try.prog 44 #[.agg #[.slice A zs.length c, .int .i64 f1, .int .i64 f2], .slice At ts.length ct, .agg #[.int .i64 pr, .int .i64 fo, .int .i64 sp, .int .i64 a]] w fun en w' => en = .returned (.tuple #[.bool h2, .bool b2, .int .i64 0]) ∧ Below w.heap.size w w') := by
  by_cases h0 : askLV zs f1 f2 ts pr fo sp b = 0
  · have h0' := askLV_less zs f1 f2 ts pr fo sp ha hab h0
    have hlen := askLV_len h0
    have hv : bottleV zs f1 f2 = 0 ∧ thickB ts = true ∧ loadB pr fo sp b = true := by
      revert h0
      unfold askLV
      split
      · rename_i hb0
        split
        · rename_i h1
          simp only [Bool.and_eq_true, decide_eq_true_eq] at h1
          split
          · rename_i h2; exact fun _ => ⟨hb0, h1.2, h2⟩
          · intro h; cases h
        · intro h; cases h
      · intro h; exact absurd h (by assumption)
    obtain ⟨v1, v2, v3⟩ := hv
    simp only [loadB, Bool.and_eq_true] at v3
    obtain ⟨w1, w2, w3, w4⟩ := v3
    have hr : ringsOk zs zs.length = true ∧ ¬ f1 = 0 := by
      revert v1
      unfold bottleV
      split
      · intro h; cases h
      · split
        · intro h; cases h
        · split
          · rename_i hrk
            split
            · split
              · rename_i hin
                have := hin.1
                simp only [inB, Bool.and_eq_true, decide_eq_true_eq] at this
                exact fun _ => ⟨hrk, by omega⟩
              · intro h; cases h
            · intro h; cases h
          · intro h; cases h
    have hlim := limit_calls A c zs f1 f2 hr.2
    have hs : ∀ k : Nat, ∃ lo hi : Int, k < zs.length → ∀ ot, inB ot 0 10000000 = true → ∀ w, Calls Try.prog 150 #[ringV (rd_T170 zs (k : Int)), spanV (rd_T27 ts (k : Int)), loadVv pr fo sp ot] w fun e w' => e = .returned (.agg #[.int .i64 (lo + ot), .int .i64 (hi + ot)]) ∧ Below w.heap.size w w' := by
      intro k
      by_cases hk : k < zs.length
      · obtain ⟨lo, hi, h⟩ := stress_sum (ringsOk_at zs zs.length k hr.1 hk) (thickB_at v2 k (by omega)) w1 w2 w3
        exact ⟨lo, hi, fun _ => h⟩
      · exact ⟨0, 0, fun h => absurd h hk⟩
    obtain ⟨lo, hs⟩ := Classical.axiomOfChoice hs
    obtain ⟨hi, hs⟩ := Classical.axiomOfChoice hs
    have ia : inB a 0 10000000 = true := by simp only [inB, Bool.and_eq_true, decide_eq_true_eq]; omega
    have ib : inB b 0 10000000 = true := by simp only [inB, Bool.and_eq_true, decide_eq_true_eq]; omega
    refine ⟨_, _, _, _, 0, fun _ h => holdN_mono (h := fun k => hi k + a) (h' := fun k => hi k + b) (limM f1 f2) (fun k => by omega) zs.length h, fun w hr' ht' => Holds_ok A c zs f1 f2 At ct ts pr fo sp b (limM f1 f2) (fun k => lo k + b) (fun k => hi k + b) w hr' ht' h0 hlim (fun k hk W => hs k hk b ib W), fun _ w hr' ht' => Holds_ok A c zs f1 f2 At ct ts pr fo sp a (limM f1 f2) (fun k => lo k + a) (fun k => hi k + a) w hr' ht' h0' hlim (fun k hk W => hs k hk a ia W)⟩
  · exact ⟨false, false, false, false, _, fun h => absurd h h0, fun w hr' ht' => Holds_no A c zs f1 f2 At ct ts pr fo sp b w hr' ht' h0, fun h => absurd h h0⟩
end Go.Proofs.Ytkjkokgbhepmoaa.PB

namespace Go.Proofs.Ytkjkokgbhepmoaa.PB
open Go.RowKit Go.Proofs.YtkjkokgbhepmoaaW.PrintWords Go.Proofs.YtkjkokgbhepmoaaW.PrintLast Go.Proofs.YtkjkokgbhepmoaaW.PrintMore
attribute [local go_sem] max2_int min2_int max_two min_two max_three min_three max_four min_four
def culletlaw05_Great.f (l0_0 : List (S170)) (a0_1 : Int) (a0_2 : Int) : Option (Bool) := some (decide ((l0_0.length : Int) > 40))
set_option maxHeartbeats 8000000 in
set_option maxRecDepth 100000 in
theorem culletlaw05_Great.calls (A0_0 : Option Addr) (c0_0 : Nat) (l0_0 : List (S170)) (a0_1 : Int) (a0_2 : Int) (r : Bool) (w : World) (hr0_0 : Kd.C k170 w A0_0 l0_0.length l0_0) (hc0_0 : l0_0.length ≤ c0_0) (h : culletlaw05_Great.f l0_0 a0_1 a0_2 = some r) :
  Calls Try.prog 42 #[.agg #[.slice A0_0 l0_0.length c0_0, .int .i64 a0_1, .int .i64 a0_2]] w fun e w' => e = .returned (.bool r) ∧ Below w.heap.size w w' := by
 have hu92 := Try.underlying92; have HR0_0 := Sd.mk hr0_0; have HC0_0 := Sd.mk hc0_0; clear hr0_0 hc0_0; have HB := Sd.mk (Below.refl w.heap.size w)
 have H : (some (decide ((l0_0.length : Int) > 40))) = some r := h
 clear h; obtain rfl := Option.some.inj H
 go_enter Try.func42, Try.ntmps42
 go_wp2_with (first | ((with_reducible refine gate_dst (N := 1) rfl ?_); refine box_event ?hg (N := 1) ?hd (cs := #[.slice A0_0 l0_0.length c0_0, .int .i64 a0_1, .int .i64 a0_2]) (t := 92) ?hr ?_; (case hd => rfl); (case hg => rfl); (case hr => exact tG); intro gb701 hg w2 hbox hb; have BK701 := Sd.mk (hbox); have GW701 := Sd.mk (bSz hg (bBl HB.out)); have GE701 := Sd.mk (bSz hg (bBl HB.out)); replace HB := Sd.mk (below_step (bBl HB.out) hb); clear hb hbox hg; obtain ⟨u3_0, u3_1, u3_2, o3_0, o3_1, o3_2⟩ := bc3 (w := w2) BK701.out))
 go_ret
 exact ⟨tE, bBl HB.out⟩
end Go.Proofs.Ytkjkokgbhepmoaa.PB

namespace Go.Proofs.Ytkjkokgbhepmoaa.PB
open Go.RowKit Go.Proofs.YtkjkokgbhepmoaaW.PrintWords Go.Proofs.YtkjkokgbhepmoaaW.PrintLast Go.Proofs.YtkjkokgbhepmoaaW.PrintMore
theorem max2_mx' (k k' : IntKind) (x y : Int) : Builtin.max2 (.int k x) (.int k' y) = pure (.int k (mx x y)) := max2_int k k' x y
attribute [local go_sem] max2_mx' max_two
structure RW3 (oL oB oX : Obj) (w W : World) : Prop where
  bl : W.heap[w.heap.size]? = some oL
  bb : W.heap[w.heap.size + 1]? = some oB
  bx : W.heap[w.heap.size + 1 + 1]? = some oX
  be : Below w.heap.size w W
theorem RW3.step {oL oB oX : Obj} {w W W' : World} (h : RW3 oL oB oX w W) (hb : Below W.heap.size W W') : RW3 oL oB oX w W' :=
  ⟨blk_below h.bl hb, blk_below h.bb hb, blk_below h.bx hb, below_then h.be h.be.size hb⟩
theorem RW3.alloc {oL oB oX : Obj} {w W : World} (h : RW3 oL oB oX w W) (ob : Obj) : RW3 oL oB oX w (W.alloc ob) := h.step (below_alloc (Below.refl _ _) ob)
theorem RW3.far {oL oB oX : Obj} {w W : World} (h : RW3 oL oB oX w W) {T : Nat} (hT : w.heap.size + 3 ≤ T) (j : Nat) (v : Value) : RW3 oL oB oX w (W.setCell ⟨T, j, none⟩ v) :=
  ⟨(Below.heap_setCell W ⟨T, j, none⟩ v _ (by dsimp only; omega)).trans h.bl, (Below.heap_setCell W ⟨T, j, none⟩ v _ (by dsimp only; omega)).trans h.bb, (Below.heap_setCell W ⟨T, j, none⟩ v _ (by dsimp only; omega)).trans h.bx, below_set h.be (by omega)⟩
theorem RW3.lt {oL oB oX : Obj} {w W : World} (h : RW3 oL oB oX w W) : w.heap.size + 3 ≤ W.heap.size := by
  have := blk_lt h.bx
  omega
set_option maxHeartbeats 8000000 in
set_option maxRecDepth 100000 in
theorem shocks_walk (A0 : Option Addr) (c0 : Nat) (zs : List S170) (f1 f2 : Int) (Ao : Option Addr) (co : Nat) (o : List ByteArray) (Am : Option Addr) (cm : Nat) (mt : List S63) (As : Option Addr) (cs : Nat) (s : List S27) (Ap : Option Addr) (cp : Nat) (p : List S65) (a4 a5 a6 : Int) (B0 : Option Addr) (d0 : Nat) (y0 : List S27) (y1 y2 y3 y4 y5 y6 y7 y8 : Int) (B9 : Option Addr) (d9 : Nat) (y9 : List Int) (y10 y11 y12 y13 y14 y15 y16 y17 y18 : Int) (Br : Option Addr) (dr : Nat) (r : List Int) (B20 : Option Addr) (d20 : Nat) (y20 : List S165) (w : World) (hr0 : Kd.C k170 w A0 zs.length zs) (hc0 : zs.length ≤ c0) (hro : Kd.C Kd.string w Ao o.length o) (hco : o.length ≤ co) (hrm : Kd.C k63 w Am mt.length mt) (hcm : mt.length ≤ cm) (hrs : Kd.C k27 w As s.length s) (hcs : s.length ≤ cs) (hrp : Kd.C k65 w Ap p.length p) (hcp : p.length ≤ cp) (hr1 : Kd.C k27 w B0 y0.length y0) (hc1 : y0.length ≤ d0) (hr9 : Kd.C (Kd.int .i64) w B9 y9.length y9) (hc9 : y9.length ≤ d9) (hrr : Kd.C (Kd.int .i64) w Br r.length r) (hcr : r.length ≤ dr) (hr20 : Kd.C k165 w B20 y20.length y20) (hc20 : y20.length ≤ d20) (K : Nat) (b5 b c h1 b1 h2 b2 : Bool) (S1 S2 Se V1 V2 T1 T2 Te e1 : Int) (hG5 : culletlaw05_Great.f zs f1 f2 = some b5) (hG : lw_Great.f K o mt s p a4 a5 a6 = some b) (hW : culletlaw05_Wide.f K y0 y1 y2 y3 y4 y5 y6 y7 y8 y9 y10 y11 y12 y13 y14 y15 y16 y17 y18 r y20 = some c) (hLV : culletlaw05_lives.f K = some true) (hS : x_Shock.f K o mt s p a4 a5 a6 r y14 y13 = some (S1, S2, Se)) (hz : Se ≠ 0 → S1 = 0 ∧ S2 = 0) (hV : Se = 0 → x_Value.f K o mt s p a4 a5 a6 r y14 = some (V1, V2, 0)) (hq : Se = 0 → decide (S1 < 0) = false ∧ decide (S2 < S1) = false ∧ decide (wrap64 (wrap64 (35 * mx V1 0) * y13) < wrap64 (78 * S1)) = false ∧ decide (wrap64 (78 * S2) < wrap64 (wrap64 (35 * mx V2 0) * y13)) = false) (hT : Se = 0 → x_Shock.f K o mt s p a4 a5 a6 r y14 (wrap64 (2 * y13)) = some (T1, T2, Te)) (hp : Se = 0 → Te = 0 → decide (T1 < wrap64 (2 * S1)) = false ∧ decide (wrap64 (2 * S2) < T2) = false ∧ decide (T2 < wrap64 (wrap64 (2 * S2) - 1)) = false) (hH1 : Se = 0 → ∀ W, Kd.C k170 W A0 zs.length zs → Kd.C k27 W B0 y0.length y0 → Calls Try.prog 44 #[.agg #[.slice A0 zs.length c0, .int .i64 f1, .int .i64 f2], .slice B0 y0.length d0, .agg #[.int .i64 y1, .int .i64 y2, .int .i64 y3, .int .i64 S2]] W fun en w' => en = .returned (.tuple #[.bool h1, .bool b1, .int .i64 e1]) ∧ Below W.heap.size W w') (hH2 : Se = 0 → e1 = 0 → ∀ W, Kd.C k170 W A0 zs.length zs → Kd.C k27 W B0 y0.length y0 → Calls Try.prog 44 #[.agg #[.slice A0 zs.length c0, .int .i64 f1, .int .i64 f2], .slice B0 y0.length d0, .agg #[.int .i64 y1, .int .i64 y2, .int .i64 y3, .int .i64 S1]] W fun en w' => en = .returned (.tuple #[.bool h2, .bool b2, .int .i64 0]) ∧ Below W.heap.size W w') (hH3 : Se = 0 → e1 = 0 → h1 = true → h2 = true) :
    Calls Try.prog 11 #[.agg #[.slice A0 zs.length c0, .int .i64 f1, .int .i64 f2], .agg #[.slice Ao o.length co, .slice Am mt.length cm, .slice As s.length cs, .slice Ap p.length cp, .int .i64 a4, .int .i64 a5, .int .i64 a6], .agg #[.slice B0 y0.length d0, .int .i64 y1, .int .i64 y2, .int .i64 y3, .int .i64 y4, .int .i64 y5, .int .i64 y6, .int .i64 y7, .int .i64 y8, .slice B9 y9.length d9, .int .i64 y10, .int .i64 y11, .int .i64 y12, .int .i64 y13, .int .i64 y14, .int .i64 y15, .int .i64 y16, .int .i64 y17, .int .i64 y18, .slice Br r.length dr, .slice B20 y20.length d20]] w fun e w' => e = .returned (.bool true) ∧ Below w.heap.size w w' := by
  have HR0 := Sd.mk hr0
  have HC0 := Sd.mk hc0
  clear hr0 hc0
  have HRo := Sd.mk hro
  have HCo := Sd.mk hco
  clear hro hco
  have HRm := Sd.mk hrm
  have HCm := Sd.mk hcm
  clear hrm hcm
  have HRs := Sd.mk hrs
  have HCs := Sd.mk hcs
  clear hrs hcs
  have HRp := Sd.mk hrp
  have HCp := Sd.mk hcp
  clear hrp hcp
  have HR1 := Sd.mk hr1
  have HC1 := Sd.mk hc1
  clear hr1 hc1
  have HR9 := Sd.mk hr9
  have HC9 := Sd.mk hc9
  clear hr9 hc9
  have HRr := Sd.mk hrr
  have HCr := Sd.mk hcr
  clear hrr hcr
  have HR20 := Sd.mk hr20
  have HC20 := Sd.mk hc20
  clear hr20 hc20
  obtain ⟨b1_, b2_, b3_, hb0, hsz⟩ := blk_three w (.cells #[.slice A0 zs.length c0, .int .i64 f1, .int .i64 f2] 92) (.cells #[.slice Ao o.length co, .slice Am mt.length cm, .slice As s.length cs, .slice Ap p.length cp, .int .i64 a4, .int .i64 a5, .int .i64 a6] 29) (.cells #[.slice B0 y0.length d0, .int .i64 y1, .int .i64 y2, .int .i64 y3, .int .i64 y4, .int .i64 y5, .int .i64 y6, .int .i64 y7, .int .i64 y8, .slice B9 y9.length d9, .int .i64 y10, .int .i64 y11, .int .i64 y12, .int .i64 y13, .int .i64 y14, .int .i64 y15, .int .i64 y16, .int .i64 y17, .int .i64 y18, .slice Br r.length dr, .slice B20 y20.length d20] 76)
  have RW0 : Sd (RW3 (.cells #[.slice A0 zs.length c0, .int .i64 f1, .int .i64 f2] 92 (0, 0)) (.cells #[.slice Ao o.length co, .slice Am mt.length cm, .slice As s.length cs, .slice Ap p.length cp, .int .i64 a4, .int .i64 a5, .int .i64 a6] 29 (0, 0)) (.cells #[.slice B0 y0.length d0, .int .i64 y1, .int .i64 y2, .int .i64 y3, .int .i64 y4, .int .i64 y5, .int .i64 y6, .int .i64 y7, .int .i64 y8, .slice B9 y9.length d9, .int .i64 y10, .int .i64 y11, .int .i64 y12, .int .i64 y13, .int .i64 y14, .int .i64 y15, .int .i64 y16, .int .i64 y17, .int .i64 y18, .slice Br r.length dr, .slice B20 y20.length d20] 76 (0, 0)) w (((w.alloc (.cells #[.slice A0 zs.length c0, .int .i64 f1, .int .i64 f2] 92)).alloc (.cells #[.slice Ao o.length co, .slice Am mt.length cm, .slice As s.length cs, .slice Ap p.length cp, .int .i64 a4, .int .i64 a5, .int .i64 a6] 29)).alloc (.cells #[.slice B0 y0.length d0, .int .i64 y1, .int .i64 y2, .int .i64 y3, .int .i64 y4, .int .i64 y5, .int .i64 y6, .int .i64 y7, .int .i64 y8, .slice B9 y9.length d9, .int .i64 y10, .int .i64 y11, .int .i64 y12, .int .i64 y13, .int .i64 y14, .int .i64 y15, .int .i64 y16, .int .i64 y17, .int .i64 y18, .slice Br r.length dr, .slice B20 y20.length d20] 76))) := ⟨⟨b1_, b2_, b3_, hb0⟩⟩
  have HG5 := Sd.mk hG5
  have HG := Sd.mk hG
  have HW := Sd.mk hW
  have HLV := Sd.mk hLV
  have HS := Sd.mk hS
  have Hz := Sd.mk hz
  have HV := Sd.mk hV
  have Hq := Sd.mk hq
  have HT := Sd.mk hT
  have Hp := Sd.mk hp
  have HH1 := Sd.mk hH1
  have HH2 := Sd.mk hH2
  have HH3 := Sd.mk hH3
  clear b1_ b2_ b3_ hb0 hsz hG5 hG hW hLV hS hz hV hq hT hp hH1 hH2 hH3
  go_enter Try.func11, Try.ntmps11
  go_upto_region 1 with (fail)
  generalize ((w.alloc (.cells #[.slice A0 zs.length c0, .int .i64 f1, .int .i64 f2] 92)).alloc (.cells #[.slice Ao o.length co, .slice Am mt.length cm, .slice As s.length cs, .slice Ap p.length cp, .int .i64 a4, .int .i64 a5, .int .i64 a6] 29)).alloc (.cells #[.slice B0 y0.length d0, .int .i64 y1, .int .i64 y2, .int .i64 y3, .int .i64 y4, .int .i64 y5, .int .i64 y6, .int .i64 y7, .int .i64 y8, .slice B9 y9.length d9, .int .i64 y10, .int .i64 y11, .int .i64 y12, .int .i64 y13, .int .i64 y14, .int .i64 y15, .int .i64 y16, .int .i64 y17, .int .i64 y18, .slice Br r.length dr, .slice B20 y20.length d20] 76) = W0 at RW0 ⊢
  generalize Value.agg #[.slice A0 zs.length c0, .int .i64 f1, .int .i64 f2] = uL
  generalize Value.agg #[.slice Ao o.length co, .slice Am mt.length cm, .slice As s.length cs, .slice Ap p.length cp, .int .i64 a4, .int .i64 a5, .int .i64 a6] = uB
  generalize Value.agg #[.slice B0 y0.length d0, .int .i64 y1, .int .i64 y2, .int .i64 y3, .int .i64 y4, .int .i64 y5, .int .i64 y6, .int .i64 y7, .int .i64 y8, .slice B9 y9.length d9, .int .i64 y10, .int .i64 y11, .int .i64 y12, .int .i64 y13, .int .i64 y14, .int .i64 y15, .int .i64 y16, .int .i64 y17, .int .i64 y18, .slice Br r.length dr, .slice B20 y20.length d20] = uX
  have HLL := Sd.mk (run_loadVar_row (P := Try.prog) _ _ 92 92 _ (0, 0) _ RW0.out.bl Try.underlying92 rfl (by kernel_rfl))
  (try simp only [Act.put, List.setIfInBounds_toArray, List.set_cons_zero, List.set_cons_succ])
  go_cut [25] (fun v25 wc => ∃ bb : Bool, v25 = .bool bb ∧ Sd (RW3 (.cells #[.slice A0 zs.length c0, .int .i64 f1, .int .i64 f2] 92 (0, 0)) (.cells #[.slice Ao o.length co, .slice Am mt.length cm, .slice As s.length cs, .slice Ap p.length cp, .int .i64 a4, .int .i64 a5, .int .i64 a6] 29 (0, 0)) (.cells #[.slice B0 y0.length d0, .int .i64 y1, .int .i64 y2, .int .i64 y3, .int .i64 y4, .int .i64 y5, .int .i64 y6, .int .i64 y7, .int .i64 y8, .slice B9 y9.length d9, .int .i64 y10, .int .i64 y11, .int .i64 y12, .int .i64 y13, .int .i64 y14, .int .i64 y15, .int .i64 y16, .int .i64 y17, .int .i64 y18, .slice Br r.length dr, .slice B20 y20.length d20] 76 (0, 0)) w wc))
  case first =>
    as_aux_lemma =>
      cases b5 with
      | true =>
        go_wp2_with (first | (refine wp_loadrow_s 92 _ _ _ (by go_simp) rfl rfl HLL.out ?_) | (go_at_call 42; go_loud ((with_reducible refine (culletlaw05_Great.calls _ _ zs f1 f2 _ _ (Kd.C_below HR0.out RW0.out.be) HC0.out HG5.out).mono ?_); rintro e w1 ⟨rfl, hb⟩; have RW1 := Sd.mk (RW0.out.step hb); clear hb; have HLB := Sd.mk (run_loadVar_row (P := Try.prog) _ _ 29 29 _ (0, 0) _ RW1.out.bb Try.underlying29 rfl (by kernel_rfl)))))
        go_meet
        case rel => exact ⟨true, rfl, RW1⟩
      | false =>
        cases b with
        | true =>
          go_wp2_with (first | (refine wp_loadrow_s 92 _ _ _ (by go_simp) rfl rfl HLL.out ?_) | (refine wp_loadrow_s 29 _ _ _ (by go_simp) rfl rfl HLB.out ?_) | (go_at_call 42; go_loud ((with_reducible refine (culletlaw05_Great.calls _ _ zs f1 f2 _ _ (Kd.C_below HR0.out RW0.out.be) HC0.out HG5.out).mono ?_); rintro e w1 ⟨rfl, hb⟩; have RW1 := Sd.mk (RW0.out.step hb); clear hb; have HLB := Sd.mk (run_loadVar_row (P := Try.prog) _ _ 29 29 _ (0, 0) _ RW1.out.bb Try.underlying29 rfl (by kernel_rfl)))) | (go_at_call 12; (with_reducible refine (lw_Great.calls K _ _ o _ _ mt _ _ s _ _ p a4 a5 a6 _ _ (Kd.C_below HRo.out RW1.out.be) HCo.out (Kd.C_below HRm.out RW1.out.be) HCm.out (Kd.C_below HRs.out RW1.out.be) HCs.out (Kd.C_below HRp.out RW1.out.be) HCp.out HG.out).mono ?_); rintro e w2 ⟨rfl, hb⟩; have RW2 := Sd.mk (RW1.out.step hb); clear hb; have HLX := Sd.mk (run_loadVar_row (P := Try.prog) _ _ 76 76 _ (0, 0) _ RW2.out.bx Try.underlying76 rfl (by kernel_rfl))))
          go_meet
          case rel => exact ⟨true, rfl, RW2⟩
        | false =>
          go_wp2_with (first | (refine wp_loadrow_s 92 _ _ _ (by go_simp) rfl rfl HLL.out ?_) | (refine wp_loadrow_s 29 _ _ _ (by go_simp) rfl rfl HLB.out ?_) | (refine wp_loadrow_s 76 _ _ _ (by go_simp) rfl rfl HLX.out ?_) | (go_at_call 42; go_loud ((with_reducible refine (culletlaw05_Great.calls _ _ zs f1 f2 _ _ (Kd.C_below HR0.out RW0.out.be) HC0.out HG5.out).mono ?_); rintro e w1 ⟨rfl, hb⟩; have RW1 := Sd.mk (RW0.out.step hb); clear hb; have HLB := Sd.mk (run_loadVar_row (P := Try.prog) _ _ 29 29 _ (0, 0) _ RW1.out.bb Try.underlying29 rfl (by kernel_rfl)))) | (go_at_call 12; (with_reducible refine (lw_Great.calls K _ _ o _ _ mt _ _ s _ _ p a4 a5 a6 _ _ (Kd.C_below HRo.out RW1.out.be) HCo.out (Kd.C_below HRm.out RW1.out.be) HCm.out (Kd.C_below HRs.out RW1.out.be) HCs.out (Kd.C_below HRp.out RW1.out.be) HCp.out HG.out).mono ?_); rintro e w2 ⟨rfl, hb⟩; have RW2 := Sd.mk (RW1.out.step hb); clear hb; have HLX := Sd.mk (run_loadVar_row (P := Try.prog) _ _ 76 76 _ (0, 0) _ RW2.out.bx Try.underlying76 rfl (by kernel_rfl))) | (go_at_call 35; (with_reducible refine (culletlaw05_Wide.calls K _ _ y0 y1 y2 y3 y4 y5 y6 y7 y8 _ _ y9 y10 y11 y12 y13 y14 y15 y16 y17 y18 _ _ r _ _ y20 _ _ (Kd.C_below HR1.out RW2.out.be) HC1.out (Kd.C_below HR9.out RW2.out.be) HC9.out (Kd.C_below HRr.out RW2.out.be) HCr.out (Kd.C_below HR20.out RW2.out.be) HC20.out HW.out).mono ?_); rintro e w3 ⟨rfl, hb⟩; have RW3' := Sd.mk (RW2.out.step hb); clear hb; skip))
          go_meet
          case rel => exact ⟨c, rfl, RW3'⟩
  case rest =>
    as_aux_lemma =>
      clear HLL RW0
      obtain ⟨bb, rfl, RW1⟩ := hcut
      cases bb with
      | true =>
        go_wp2_with (first | (go_at_call 36; (with_reducible refine (culletlaw05_lives.calls K true _ HLV.out).mono ?_); rintro e wl ⟨rfl, hb⟩))
        go_ret
        exact ⟨rfl, below_then RW1.out.be RW1.out.be.size hb⟩
      | false =>
        go_upto_region 3 with (fail)
        have HLB := Sd.mk (run_loadVar_row (P := Try.prog) _ _ 29 29 _ (0, 0) _ RW1.out.bb Try.underlying29 rfl (by kernel_rfl))
        have gX13 : wc.cell? ⟨w.heap.size + 1 + 1, 0 + 13, none⟩ = some (.int .i64 y13) := (blk_cell RW1.out.bx 13).trans rfl
        have gX14 : wc.cell? ⟨w.heap.size + 1 + 1, 0 + 14, none⟩ = some (.int .i64 y14) := (blk_cell RW1.out.bx 14).trans rfl
        have gX19 : wc.cell? ⟨w.heap.size + 1 + 1, 0 + 19, none⟩ = some (.slice Br r.length dr) := (blk_cell RW1.out.bx 19).trans rfl
        go_cut [7, 8] (fun v7 v8 wd => ∃ X7 : Nat, v7 = .pointer (some ⟨X7, 0, none⟩) ∧ v8 = .int .i64 Se ∧ Sd (w.heap.size + 3 ≤ X7) ∧ Sd (RW3 (.cells #[.slice A0 zs.length c0, .int .i64 f1, .int .i64 f2] 92 (0, 0)) (.cells #[.slice Ao o.length co, .slice Am mt.length cm, .slice As s.length cs, .slice Ap p.length cp, .int .i64 a4, .int .i64 a5, .int .i64 a6] 29 (0, 0)) (.cells #[.slice B0 y0.length d0, .int .i64 y1, .int .i64 y2, .int .i64 y3, .int .i64 y4, .int .i64 y5, .int .i64 y6, .int .i64 y7, .int .i64 y8, .slice B9 y9.length d9, .int .i64 y10, .int .i64 y11, .int .i64 y12, .int .i64 y13, .int .i64 y14, .int .i64 y15, .int .i64 y16, .int .i64 y17, .int .i64 y18, .slice Br r.length dr, .slice B20 y20.length d20] 76 (0, 0)) w wd) ∧ Sd (wd.heap[X7]? = some (.cells #[.int .i64 S1, .int .i64 S2] 27 (0, 0))))
        case first =>
          as_aux_lemma =>
            go_wp2_with (first | (refine wp_loadrow_s 29 _ _ _ (by go_simp) rfl rfl HLB.out ?_) | (go_at_call 43; (with_reducible refine (x_Shock.calls K _ _ o _ _ mt _ _ s _ _ p a4 a5 a6 _ _ r y14 y13 S1 S2 Se _ (Kd.C_below HRo.out RW1.out.be) HCo.out (Kd.C_below HRm.out RW1.out.be) HCm.out (Kd.C_below HRs.out RW1.out.be) HCs.out (Kd.C_below HRp.out RW1.out.be) HCp.out (Kd.C_below HRr.out RW1.out.be) HCr.out HS.out).mono ?_); rintro e w2 ⟨rfl, hb⟩; have RW2 := Sd.mk (RW1.out.step hb); clear hb HLB))
            go_meet
            case rel => exact ⟨w2.heap.size, rfl, rfl, ⟨RW2.out.lt⟩, ⟨RW2.out.alloc _⟩, ⟨blk_new w2 (.cells #[.int .i64 S1, .int .i64 S2] 27)⟩⟩
        case rest =>
          as_aux_lemma =>
            clear HLB gX13 gX14 gX19 RW1
            obtain ⟨X7, rfl, rfl, HX7, RW3', BS⟩ := hcut
            by_cases hSe : Se = 0
            · subst hSe
              have HV' := Sd.mk (HV.out rfl)
              have HT' := Sd.mk (HT.out rfl)
              have HQ := Sd.mk (Hq.out rfl)
              have HP := Sd.mk (Hp.out rfl)
              have HH1 := Sd.mk (HH1.out rfl)
              have HH2 := Sd.mk (HH2.out rfl)
              have HH3 := Sd.mk (HH3.out rfl)
              clear HV HT Hq Hp
              go_upto_region 6 with (fail)
              have HLB := Sd.mk (run_loadVar_row (P := Try.prog) _ _ 29 29 _ (0, 0) _ RW3'.out.bb Try.underlying29 rfl (by kernel_rfl))
              have gX14 : wc.cell? ⟨w.heap.size + 1 + 1, 0 + 14, none⟩ = some (.int .i64 y14) := (blk_cell RW3'.out.bx 14).trans rfl
              have gX19 : wc.cell? ⟨w.heap.size + 1 + 1, 0 + 19, none⟩ = some (.slice Br r.length dr) := (blk_cell RW3'.out.bx 19).trans rfl
              go_cut [8, 9] (fun v8 v9 we => ∃ X9 : Nat, v9 = .pointer (some ⟨X9, 0, none⟩) ∧ v8 = .int .i64 0 ∧ Sd (RW3 (.cells #[.slice A0 zs.length c0, .int .i64 f1, .int .i64 f2] 92 (0, 0)) (.cells #[.slice Ao o.length co, .slice Am mt.length cm, .slice As s.length cs, .slice Ap p.length cp, .int .i64 a4, .int .i64 a5, .int .i64 a6] 29 (0, 0)) (.cells #[.slice B0 y0.length d0, .int .i64 y1, .int .i64 y2, .int .i64 y3, .int .i64 y4, .int .i64 y5, .int .i64 y6, .int .i64 y7, .int .i64 y8, .slice B9 y9.length d9, .int .i64 y10, .int .i64 y11, .int .i64 y12, .int .i64 y13, .int .i64 y14, .int .i64 y15, .int .i64 y16, .int .i64 y17, .int .i64 y18, .slice Br r.length dr, .slice B20 y20.length d20] 76 (0, 0)) w we) ∧ Sd (we.heap[X7]? = some (.cells #[.int .i64 S1, .int .i64 S2] 27 (0, 0))) ∧ Sd (we.heap[X9]? = some (.cells #[.int .i64 V1, .int .i64 V2] 27 (0, 0))))
              case first =>
                as_aux_lemma =>
                  go_wp2_with (first | (refine wp_loadrow_s 29 _ _ _ (by go_simp) rfl rfl HLB.out ?_) | (go_at_call 20; (with_reducible refine (x_Value.calls K _ _ o _ _ mt _ _ s _ _ p a4 a5 a6 _ _ r y14 V1 V2 0 _ (Kd.C_below HRo.out RW3'.out.be) HCo.out (Kd.C_below HRm.out RW3'.out.be) HCm.out (Kd.C_below HRs.out RW3'.out.be) HCs.out (Kd.C_below HRp.out RW3'.out.be) HCp.out (Kd.C_below HRr.out RW3'.out.be) HCr.out HV'.out).mono ?_); rintro e w3 ⟨rfl, hb⟩; have RW4 := Sd.mk (RW3'.out.step hb); have BS4 := Sd.mk (blk_alloc (blk_below BS.out hb) (.cells #[.int .i64 V1, .int .i64 V2] 27)); clear hb HLB))
                  go_meet
                  case rel => exact ⟨w3.heap.size, rfl, rfl, ⟨RW4.out.alloc _⟩, BS4, ⟨blk_new w3 (.cells #[.int .i64 V1, .int .i64 V2] 27)⟩⟩
              case rest =>
                as_aux_lemma =>
                  clear HLB gX14 gX19 RW3' BS
                  obtain ⟨X9, rfl, rfl, RW4, BS, BV⟩ := hcut
                  go_upto_region 7 with (fail)
                  obtain ⟨q1, q2, q3, q4⟩ := HQ.out
                  have gs0 : wc.cell? ⟨X7, 0, none⟩ = some (.int .i64 S1) := (blk_cell BS.out 0).trans rfl
                  have gs1 : wc.cell? ⟨X7, 0 + 1, none⟩ = some (.int .i64 S2) := (blk_cell BS.out 1).trans rfl
                  have gv0 : wc.cell? ⟨X9, 0, none⟩ = some (.int .i64 V1) := (blk_cell BV.out 0).trans rfl
                  have gv1 : wc.cell? ⟨X9, 0 + 1, none⟩ = some (.int .i64 V2) := (blk_cell BV.out 1).trans rfl
                  have gX13 : wc.cell? ⟨w.heap.size + 1 + 1, 0 + 13, none⟩ = some (.int .i64 y13) := (blk_cell RW4.out.bx 13).trans rfl
                  go_cut [94] (fun v94 wf => v94 = .bool false ∧ Sd (RW3 (.cells #[.slice A0 zs.length c0, .int .i64 f1, .int .i64 f2] 92 (0, 0)) (.cells #[.slice Ao o.length co, .slice Am mt.length cm, .slice As s.length cs, .slice Ap p.length cp, .int .i64 a4, .int .i64 a5, .int .i64 a6] 29 (0, 0)) (.cells #[.slice B0 y0.length d0, .int .i64 y1, .int .i64 y2, .int .i64 y3, .int .i64 y4, .int .i64 y5, .int .i64 y6, .int .i64 y7, .int .i64 y8, .slice B9 y9.length d9, .int .i64 y10, .int .i64 y11, .int .i64 y12, .int .i64 y13, .int .i64 y14, .int .i64 y15, .int .i64 y16, .int .i64 y17, .int .i64 y18, .slice Br r.length dr, .slice B20 y20.length d20] 76 (0, 0)) w wf) ∧ Sd (wf.heap[X7]? = some (.cells #[.int .i64 S1, .int .i64 S2] 27 (0, 0))))
                  case first =>
                    as_aux_lemma =>
                      clear HV' HT' HP HH1 HH2 HH3 HR0 HC0 HRo HCo HRm HCm HRs HCs HRp HCp HR1 HC1 HR9 HC9 HRr HCr HR20 HC20 HS Hz HLV
                      go_wp2
                      go_meet
                      case rel => exact ⟨rfl, RW4, BS⟩
                  case rest =>
                    as_aux_lemma =>
                      clear q1 q2 q3 q4 HQ gs0 gs1 gv0 gv1 gX13 RW4 BS BV HV'
                      obtain ⟨rfl, RW5, BS⟩ := hcut
                      go_upto_region 9 with (fail)
                      have HLB := Sd.mk (run_loadVar_row (P := Try.prog) _ _ 29 29 _ (0, 0) _ RW5.out.bb Try.underlying29 rfl (by kernel_rfl))
                      have gX13 : wc.cell? ⟨w.heap.size + 1 + 1, 0 + 13, none⟩ = some (.int .i64 y13) := (blk_cell RW5.out.bx 13).trans rfl
                      have gX14 : wc.cell? ⟨w.heap.size + 1 + 1, 0 + 14, none⟩ = some (.int .i64 y14) := (blk_cell RW5.out.bx 14).trans rfl
                      have gX19 : wc.cell? ⟨w.heap.size + 1 + 1, 0 + 19, none⟩ = some (.slice Br r.length dr) := (blk_cell RW5.out.bx 19).trans rfl
                      go_cut [8, 10] (fun v8 v10 wg => ∃ X10 : Nat, v10 = .pointer (some ⟨X10, 0, none⟩) ∧ v8 = .int .i64 Te ∧ Sd (RW3 (.cells #[.slice A0 zs.length c0, .int .i64 f1, .int .i64 f2] 92 (0, 0)) (.cells #[.slice Ao o.length co, .slice Am mt.length cm, .slice As s.length cs, .slice Ap p.length cp, .int .i64 a4, .int .i64 a5, .int .i64 a6] 29 (0, 0)) (.cells #[.slice B0 y0.length d0, .int .i64 y1, .int .i64 y2, .int .i64 y3, .int .i64 y4, .int .i64 y5, .int .i64 y6, .int .i64 y7, .int .i64 y8, .slice B9 y9.length d9, .int .i64 y10, .int .i64 y11, .int .i64 y12, .int .i64 y13, .int .i64 y14, .int .i64 y15, .int .i64 y16, .int .i64 y17, .int .i64 y18, .slice Br r.length dr, .slice B20 y20.length d20] 76 (0, 0)) w wg) ∧ Sd (wg.heap[X7]? = some (.cells #[.int .i64 S1, .int .i64 S2] 27 (0, 0))) ∧ Sd (wg.heap[X10]? = some (.cells #[.int .i64 T1, .int .i64 T2] 27 (0, 0))))
                      case first =>
                        as_aux_lemma =>
                          go_wp2_with (first | (refine wp_loadrow_s 29 _ _ _ (by go_simp) rfl rfl HLB.out ?_) | (go_at_call 43; (with_reducible refine (x_Shock.calls K _ _ o _ _ mt _ _ s _ _ p a4 a5 a6 _ _ r y14 (wrap64 (2 * y13)) T1 T2 Te _ (Kd.C_below HRo.out RW5.out.be) HCo.out (Kd.C_below HRm.out RW5.out.be) HCm.out (Kd.C_below HRs.out RW5.out.be) HCs.out (Kd.C_below HRp.out RW5.out.be) HCp.out (Kd.C_below HRr.out RW5.out.be) HCr.out HT'.out).mono ?_); rintro e w4 ⟨rfl, hb⟩; have RW6 := Sd.mk (RW5.out.step hb); have BS6 := Sd.mk (blk_alloc (blk_below BS.out hb) (.cells #[.int .i64 T1, .int .i64 T2] 27)); clear hb HLB))
                          go_meet
                          case rel => exact ⟨w4.heap.size, rfl, rfl, ⟨RW6.out.alloc _⟩, BS6, ⟨blk_new w4 (.cells #[.int .i64 T1, .int .i64 T2] 27)⟩⟩
                      case rest =>
                        as_aux_lemma =>
                          clear HLB gX13 gX14 gX19 RW5 BS HT'
                          obtain ⟨X10, rfl, rfl, RW7, BS, BT⟩ := hcut
                          go_upto_region 10 with (fail)
                          have gs0 : wc.cell? ⟨X7, 0, none⟩ = some (.int .i64 S1) := (blk_cell BS.out 0).trans rfl
                          have gs1 : wc.cell? ⟨X7, 0 + 1, none⟩ = some (.int .i64 S2) := (blk_cell BS.out 1).trans rfl
                          have gt0 : wc.cell? ⟨X10, 0, none⟩ = some (.int .i64 T1) := (blk_cell BT.out 0).trans rfl
                          have gt1 : wc.cell? ⟨X10, 0 + 1, none⟩ = some (.int .i64 T2) := (blk_cell BT.out 1).trans rfl
                          go_cut [133] (fun v133 wh => v133 = .bool false ∧ Sd (RW3 (.cells #[.slice A0 zs.length c0, .int .i64 f1, .int .i64 f2] 92 (0, 0)) (.cells #[.slice Ao o.length co, .slice Am mt.length cm, .slice As s.length cs, .slice Ap p.length cp, .int .i64 a4, .int .i64 a5, .int .i64 a6] 29 (0, 0)) (.cells #[.slice B0 y0.length d0, .int .i64 y1, .int .i64 y2, .int .i64 y3, .int .i64 y4, .int .i64 y5, .int .i64 y6, .int .i64 y7, .int .i64 y8, .slice B9 y9.length d9, .int .i64 y10, .int .i64 y11, .int .i64 y12, .int .i64 y13, .int .i64 y14, .int .i64 y15, .int .i64 y16, .int .i64 y17, .int .i64 y18, .slice Br r.length dr, .slice B20 y20.length d20] 76 (0, 0)) w wh) ∧ Sd (wh.heap[X7]? = some (.cells #[.int .i64 S1, .int .i64 S2] 27 (0, 0))))
                          case first =>
                            as_aux_lemma =>
                              clear HH1 HH2 HH3 HR0 HC0 HRo HCo HRm HCm HRs HCs HRp HCp HR1 HC1 HR9 HC9 HRr HCr HR20 HC20 HS Hz HLV
                              by_cases hTe : Te = 0
                              · subst hTe
                                obtain ⟨p1, p2, p3⟩ := HP.out rfl
                                go_wp2
                                go_meet
                                case rel => exact ⟨rfl, RW7, BS⟩
                              · have e1 : decide (Te = 0) = false := decide_eq_false hTe
                                have e2 : (Te == 0) = false := beq_eq_false_iff_ne.mpr hTe
                                go_wp2
                                go_meet
                                case rel => exact ⟨rfl, RW7, BS⟩
                          case rest =>
                            as_aux_lemma =>
                              clear gs0 gs1 gt0 gt1 RW7 BS BT HP
                              obtain ⟨rfl, RW8, BS⟩ := hcut
                              go_upto_region 12 with (fail)
                              have gX0 : wc.cell? ⟨w.heap.size + 1 + 1, 0, none⟩ = some (.slice B0 y0.length d0) := (blk_cell RW8.out.bx 0).trans rfl
                              have gX1 : wc.cell? ⟨w.heap.size + 1 + 1, 0 + 1, none⟩ = some (.int .i64 y1) := (blk_cell RW8.out.bx 1).trans rfl
                              have gX2 : wc.cell? ⟨w.heap.size + 1 + 1, 0 + 2, none⟩ = some (.int .i64 y2) := (blk_cell RW8.out.bx 2).trans rfl
                              have gX3 : wc.cell? ⟨w.heap.size + 1 + 1, 0 + 3, none⟩ = some (.int .i64 y3) := (blk_cell RW8.out.bx 3).trans rfl
                              have gX4 : wc.cell? ⟨w.heap.size + 1 + 1, 0 + 4, none⟩ = some (.int .i64 y4) := (blk_cell RW8.out.bx 4).trans rfl
                              have gs0 : wc.cell? ⟨X7, 0, none⟩ = some (.int .i64 S1) := (blk_cell BS.out 0).trans rfl
                              have gs1 : wc.cell? ⟨X7, 0 + 1, none⟩ = some (.int .i64 S2) := (blk_cell BS.out 1).trans rfl
                              go_upto_region 13 with (fail)
                              have HX11 := Sd.mk (show w.heap.size + 3 ≤ wc.heap.size from RW8.out.lt)
                              have HX := Sd.mk (show X7 < wc.heap.size from blk_lt BS.out)
                              have RW9 := Sd.mk (RW8.out.alloc (.cells #[.int .i64 y1, .int .i64 y2, .int .i64 y3, .int .i64 y4] 73))
                              have BS9 := Sd.mk (blk_alloc BS.out (.cells #[.int .i64 y1, .int .i64 y2, .int .i64 y3, .int .i64 y4] 73))
                              have BL := Sd.mk (blk_new wc (.cells #[.int .i64 y1, .int .i64 y2, .int .i64 y3, .int .i64 y4] 73))
                              clear RW8 BS gs0 gs1 gX0 gX1 gX2 gX3 gX4
                              generalize wc.alloc (.cells #[.int .i64 y1, .int .i64 y2, .int .i64 y3, .int .i64 y4] 73) = W13 at RW9 BS9 BL ⊢
                              generalize wc.heap.size = X11 at HX11 HX BL ⊢
                              have gs0 : W13.cell? ⟨X7, 0, none⟩ = some (.int .i64 S1) := (blk_cell BS9.out 0).trans rfl
                              have gs1 : W13.cell? ⟨X7, 0 + 1, none⟩ = some (.int .i64 S2) := (blk_cell BS9.out 1).trans rfl
                              have gl3 : W13.cell? ⟨X11, 0 + 3, none⟩ = some (.int .i64 y4) := (blk_cell BL.out 3).trans rfl
                              have gf3 := blk_frozen BL.out 3
                              go_cut [138] (fun v138 wd => Sd (RW3 (.cells #[.slice A0 zs.length c0, .int .i64 f1, .int .i64 f2] 92 (0, 0)) (.cells #[.slice Ao o.length co, .slice Am mt.length cm, .slice As s.length cs, .slice Ap p.length cp, .int .i64 a4, .int .i64 a5, .int .i64 a6] 29 (0, 0)) (.cells #[.slice B0 y0.length d0, .int .i64 y1, .int .i64 y2, .int .i64 y3, .int .i64 y4, .int .i64 y5, .int .i64 y6, .int .i64 y7, .int .i64 y8, .slice B9 y9.length d9, .int .i64 y10, .int .i64 y11, .int .i64 y12, .int .i64 y13, .int .i64 y14, .int .i64 y15, .int .i64 y16, .int .i64 y17, .int .i64 y18, .slice Br r.length dr, .slice B20 y20.length d20] 76 (0, 0)) w wd) ∧ Sd (wd.heap[X7]? = some (.cells #[.int .i64 S1, .int .i64 S2] 27 (0, 0))) ∧ Sd (wd.heap[X11]? = some (.cells #[.int .i64 y1, .int .i64 y2, .int .i64 y3, .int .i64 S2] 73 (0, 0))))
                              case first =>
                                as_aux_lemma =>
                                  clear HH1 HH2 HH3 HR0 HC0 HRo HCo HRm HCm HRs HCs HRp HCp HR1 HC1 HR9 HC9 HRr HCr HR20 HC20 HS Hz HLV
                                  go_wp2
                                  go_meet
                                  case rel => exact ⟨⟨RW9.out.far HX11.out 3 _⟩, ⟨(Below.heap_setCell _ ⟨X11, 3, none⟩ _ _ (by have := HX.out; dsimp only; omega)).trans BS9.out⟩, ⟨blk_put BL.out 3 _ rfl⟩⟩
                              case rest =>
                                as_aux_lemma =>
                                  clear gs0 gs1 gl3 gf3 RW9 BS9 BL
                                  obtain ⟨RW10, BS, BL⟩ := hcut
                                  go_upto_region 14 with (fail)
                                  have HLL := Sd.mk (run_loadVar_row (P := Try.prog) _ _ 92 92 _ (0, 0) _ RW10.out.bl Try.underlying92 rfl (by kernel_rfl))
                                  have gX0 : wc.cell? ⟨w.heap.size + 1 + 1, 0, none⟩ = some (.slice B0 y0.length d0) := (blk_cell RW10.out.bx 0).trans rfl
                                  have HLY := Sd.mk (run_loadVar_row (P := Try.prog) _ _ 73 73 _ (0, 0) _ BL.out Try.underlying73 rfl (by kernel_rfl))
                                  go_cut [8, 12, 13] (fun v8 v12 v13 wd => v8 = .int .i64 e1 ∧ v12 = .bool h1 ∧ v13 = .bool b1 ∧ Sd (RW3 (.cells #[.slice A0 zs.length c0, .int .i64 f1, .int .i64 f2] 92 (0, 0)) (.cells #[.slice Ao o.length co, .slice Am mt.length cm, .slice As s.length cs, .slice Ap p.length cp, .int .i64 a4, .int .i64 a5, .int .i64 a6] 29 (0, 0)) (.cells #[.slice B0 y0.length d0, .int .i64 y1, .int .i64 y2, .int .i64 y3, .int .i64 y4, .int .i64 y5, .int .i64 y6, .int .i64 y7, .int .i64 y8, .slice B9 y9.length d9, .int .i64 y10, .int .i64 y11, .int .i64 y12, .int .i64 y13, .int .i64 y14, .int .i64 y15, .int .i64 y16, .int .i64 y17, .int .i64 y18, .slice Br r.length dr, .slice B20 y20.length d20] 76 (0, 0)) w wd) ∧ Sd (wd.heap[X7]? = some (.cells #[.int .i64 S1, .int .i64 S2] 27 (0, 0))) ∧ Sd (wd.heap[X11]? = some (.cells #[.int .i64 y1, .int .i64 y2, .int .i64 y3, .int .i64 S2] 73 (0, 0))))
                                  case first =>
                                    as_aux_lemma =>
                                      go_wp2_with (first | (refine wp_loadrow_s 92 _ _ _ (by go_simp) rfl rfl HLL.out ?_) | (refine wp_loadrow_s 73 _ _ _ (by go_simp) rfl rfl HLY.out ?_) | (go_at_call 44; (with_reducible refine (HH1.out _ (Kd.C_below HR0.out RW10.out.be) (Kd.C_below HR1.out RW10.out.be)).mono ?_); rintro e w5 ⟨rfl, hb⟩; have RW11 := Sd.mk (RW10.out.step hb); have BS2 := Sd.mk (blk_below BS.out hb); have BL2 := Sd.mk (blk_below BL.out hb); clear hb))
                                      go_meet
                                      case rel => exact ⟨rfl, rfl, rfl, RW11, BS2, BL2⟩
                                  case rest =>
                                    as_aux_lemma =>
                                      clear HLL gX0 HLY RW10 BS BL HH1
                                      obtain ⟨rfl, rfl, rfl, RW12, BS, BL⟩ := hcut
                                      by_cases he1 : e1 = 0
                                      · subst he1
                                        have HK2 := Sd.mk (HH2.out rfl)
                                        have HK3 := HH3.out rfl
                                        clear HH2 HH3
                                        go_upto_region 17 with (fail)
                                        have gs0 : wc.cell? ⟨X7, 0, none⟩ = some (.int .i64 S1) := (blk_cell BS.out 0).trans rfl
                                        have gs1 : wc.cell? ⟨X7, 0 + 1, none⟩ = some (.int .i64 S2) := (blk_cell BS.out 1).trans rfl
                                        have gl3 : wc.cell? ⟨X11, 0 + 3, none⟩ = some (.int .i64 S2) := (blk_cell BL.out 3).trans rfl
                                        have gf3 := blk_frozen BL.out 3
                                        go_cut [153] (fun v153 wd => Sd (RW3 (.cells #[.slice A0 zs.length c0, .int .i64 f1, .int .i64 f2] 92 (0, 0)) (.cells #[.slice Ao o.length co, .slice Am mt.length cm, .slice As s.length cs, .slice Ap p.length cp, .int .i64 a4, .int .i64 a5, .int .i64 a6] 29 (0, 0)) (.cells #[.slice B0 y0.length d0, .int .i64 y1, .int .i64 y2, .int .i64 y3, .int .i64 y4, .int .i64 y5, .int .i64 y6, .int .i64 y7, .int .i64 y8, .slice B9 y9.length d9, .int .i64 y10, .int .i64 y11, .int .i64 y12, .int .i64 y13, .int .i64 y14, .int .i64 y15, .int .i64 y16, .int .i64 y17, .int .i64 y18, .slice Br r.length dr, .slice B20 y20.length d20] 76 (0, 0)) w wd) ∧ Sd (wd.heap[X7]? = some (.cells #[.int .i64 S1, .int .i64 S2] 27 (0, 0))) ∧ Sd (wd.heap[X11]? = some (.cells #[.int .i64 y1, .int .i64 y2, .int .i64 y3, .int .i64 S1] 73 (0, 0))))
                                        case first =>
                                          as_aux_lemma =>
                                            clear HK2 HK3 HR0 HC0 HRo HCo HRm HCm HRs HCs HRp HCp HR1 HC1 HR9 HC9 HRr HCr HR20 HC20 HS Hz HLV
                                            go_wp2
                                            go_meet
                                            case rel => exact ⟨⟨RW12.out.far HX11.out 3 _⟩, ⟨(Below.heap_setCell _ ⟨X11, 3, none⟩ _ _ (by have := HX.out; dsimp only; omega)).trans BS.out⟩, ⟨blk_put BL.out 3 _ rfl⟩⟩
                                        case rest =>
                                          as_aux_lemma =>
                                            clear gs0 gs1 gl3 gf3 RW12 BS BL
                                            obtain ⟨RW13, BS, BL⟩ := hcut
                                            go_upto_region 18 with (fail)
                                            have HLL := Sd.mk (run_loadVar_row (P := Try.prog) _ _ 92 92 _ (0, 0) _ RW13.out.bl Try.underlying92 rfl (by kernel_rfl))
                                            have gX0 : wc.cell? ⟨w.heap.size + 1 + 1, 0, none⟩ = some (.slice B0 y0.length d0) := (blk_cell RW13.out.bx 0).trans rfl
                                            have HLY := Sd.mk (run_loadVar_row (P := Try.prog) _ _ 73 73 _ (0, 0) _ BL.out Try.underlying73 rfl (by kernel_rfl))
                                            go_cut [8, 14, 15] (fun v8 v14 v15 wd => v8 = .int .i64 0 ∧ v14 = .bool h2 ∧ v15 = .bool b2 ∧ Sd (RW3 (.cells #[.slice A0 zs.length c0, .int .i64 f1, .int .i64 f2] 92 (0, 0)) (.cells #[.slice Ao o.length co, .slice Am mt.length cm, .slice As s.length cs, .slice Ap p.length cp, .int .i64 a4, .int .i64 a5, .int .i64 a6] 29 (0, 0)) (.cells #[.slice B0 y0.length d0, .int .i64 y1, .int .i64 y2, .int .i64 y3, .int .i64 y4, .int .i64 y5, .int .i64 y6, .int .i64 y7, .int .i64 y8, .slice B9 y9.length d9, .int .i64 y10, .int .i64 y11, .int .i64 y12, .int .i64 y13, .int .i64 y14, .int .i64 y15, .int .i64 y16, .int .i64 y17, .int .i64 y18, .slice Br r.length dr, .slice B20 y20.length d20] 76 (0, 0)) w wd))
                                            case first =>
                                              as_aux_lemma =>
                                                go_wp2_with (first | (refine wp_loadrow_s 92 _ _ _ (by go_simp) rfl rfl HLL.out ?_) | (refine wp_loadrow_s 73 _ _ _ (by go_simp) rfl rfl HLY.out ?_) | (go_at_call 44; (with_reducible refine (HK2.out _ (Kd.C_below HR0.out RW13.out.be) (Kd.C_below HR1.out RW13.out.be)).mono ?_); rintro e w5 ⟨rfl, hb⟩; have RW14 := Sd.mk (RW13.out.step hb); have BS2 := Sd.mk (blk_below BS.out hb); have BL2 := Sd.mk (blk_below BL.out hb); clear hb))
                                                go_meet
                                                case rel => exact ⟨rfl, rfl, rfl, RW14⟩
                                            case rest =>
                                              as_aux_lemma =>
                                                clear HLL gX0 HLY RW13 BS BL HK2
                                                obtain ⟨rfl, rfl, rfl, RW15⟩ := hcut
                                                cases h1 with
                                                | false =>
                                                  go_wp2_with (first | (go_at_call 36; (with_reducible refine (culletlaw05_lives.calls K true _ HLV.out).mono ?_); rintro e wl ⟨rfl, hb⟩))
                                                  go_ret
                                                  exact ⟨rfl, below_then RW15.out.be RW15.out.be.size hb⟩
                                                | true =>
                                                  obtain rfl : h2 = true := HK3 rfl
                                                  go_wp2_with (first | (go_at_call 36; (with_reducible refine (culletlaw05_lives.calls K true _ HLV.out).mono ?_); rintro e wl ⟨rfl, hb⟩))
                                                  go_ret
                                                  exact ⟨rfl, below_then RW15.out.be RW15.out.be.size hb⟩
                                      · have d1 : decide (e1 = 0) = false := decide_eq_false he1
                                        have d2 : (e1 == 0) = false := beq_eq_false_iff_ne.mpr he1
                                        go_wp2_with (first | (go_at_call 36; (with_reducible refine (culletlaw05_lives.calls K true _ HLV.out).mono ?_); rintro e wl ⟨rfl, hb⟩))
                                        go_ret
                                        exact ⟨rfl, below_then RW12.out.be RW12.out.be.size hb⟩
            · obtain ⟨rfl, rfl⟩ := Hz.out hSe
              have d1 : decide (Se = 0) = false := decide_eq_false hSe
              have d2 : (Se == 0) = false := beq_eq_false_iff_ne.mpr hSe
              have HSA := Sd.mk (run_loadVar_row (P := Try.prog) _ _ 27 27 _ (0, 0) _ BS.out Try.underlying27 rfl (by kernel_rfl))
              go_wp2_with (first | (refine wp_loadrow_s 27 _ _ _ (by go_simp) rfl rfl HSA.out ?_) | (go_at_call 36; (with_reducible refine (culletlaw05_lives.calls K true _ HLV.out).mono ?_); rintro e wl ⟨rfl, hb⟩))
              go_ret
              exact ⟨rfl, below_then RW3'.out.be RW3'.out.be.size hb⟩
end Go.Proofs.Ytkjkokgbhepmoaa.PB

namespace Go.Proofs.Ytkjkokgbhepmoaa.PB
open Go.RowKit Go.Proofs.YtkjkokgbhepmoaaW.PrintWords Go.Proofs.YtkjkokgbhepmoaaW.PrintLast Go.Proofs.YtkjkokgbhepmoaaW.PrintMore
theorem StrengthShocks_calls (A0 : Option Addr) (c0 : Nat) (zs : List S170) (f1 f2 : Int) (Ao : Option Addr) (co : Nat) (o : List ByteArray) (Am : Option Addr) (cm : Nat) (mt : List S63) (As : Option Addr) (cs : Nat) (s : List S27) (Ap : Option Addr) (cp : Nat) (p : List S65) (a4 a5 a6 : Int) (B0 : Option Addr) (d0 : Nat) (y0 : List S27) (y1 y2 y3 y4 y5 y6 y7 y8 : Int) (B9 : Option Addr) (d9 : Nat) (y9 : List Int) (y10 y11 y12 y13 y14 y15 y16 y17 y18 : Int) (Br : Option Addr) (dr : Nat) (r : List Int) (B20 : Option Addr) (d20 : Nat) (y20 : List S165) (w : World) (hr0 : Kd.C k170 w A0 zs.length zs) (hc0 : zs.length ≤ c0) (hro : Kd.C Kd.string w Ao o.length o) (hco : o.length ≤ co) (hrm : Kd.C k63 w Am mt.length mt) (hcm : mt.length ≤ cm) (hrs : Kd.C k27 w As s.length s) (hcs : s.length ≤ cs) (hrp : Kd.C k65 w Ap p.length p) (hcp : p.length ≤ cp) (hr1 : Kd.C k27 w B0 y0.length y0) (hc1 : y0.length ≤ d0) (hr9 : Kd.C (Kd.int .i64) w B9 y9.length y9) (hc9 : y9.length ≤ d9) (hrr : Kd.C (Kd.int .i64) w Br r.length r) (hcr : r.length ≤ dr) (hr20 : Kd.C k165 w B20 y20.length y20) (hc20 : y20.length ≤ d20) :
    Calls Try.prog 11 #[.agg #[.slice A0 zs.length c0, .int .i64 f1, .int .i64 f2], .agg #[.slice Ao o.length co, .slice Am mt.length cm, .slice As s.length cs, .slice Ap p.length cp, .int .i64 a4, .int .i64 a5, .int .i64 a6], .agg #[.slice B0 y0.length d0, .int .i64 y1, .int .i64 y2, .int .i64 y3, .int .i64 y4, .int .i64 y5, .int .i64 y6, .int .i64 y7, .int .i64 y8, .slice B9 y9.length d9, .int .i64 y10, .int .i64 y11, .int .i64 y12, .int .i64 y13, .int .i64 y14, .int .i64 y15, .int .i64 y16, .int .i64 y17, .int .i64 y18, .slice Br r.length dr, .slice B20 y20.length d20]] w fun e w' => e = .returned (.bool true) ∧ Below w.heap.size w w' := by
  obtain ⟨b, Kb, hb⟩ := great o mt s p a4 a5 a6
  obtain ⟨c, Kc, hc⟩ := wide5 y0 y1 y2 y3 y4 y5 y6 y7 y8 y9 y10 y11 y12 y13 y14 y15 y16 y17 y18 r y20
  obtain ⟨Kl, hl⟩ := lives5_ev
  obtain ⟨K1, h1⟩ := xShock_ev o mt s p a4 a5 a6 r y14 y13
  have hrng := ValV_range o mt s p a4 a5 a6 r y14
  have hle := ValV_le o mt s p a4 a5 a6 r y14
  obtain ⟨K2, h2⟩ := bValue o mt s p a4 a5 a6 r y14
  obtain ⟨K3, h3⟩ := xShock_ev o mt s p a4 a5 a6 r y14 (wrap64 (2 * y13))
  generalize ValV o mt s p a4 a5 a6 r y14 = V at *
  by_cases hS : (shockV V y13).2.2 = 0
  · have HS := shock_ok hrng hle hS
    obtain ⟨q1, q2, q3, q4, q5⟩ := shock_bounds HS
    have hd0 := HS.d0
    have hd1 := HS.d1
    have hv0 := HS.v0
    have hx0 := HS.x0
    have hxy := HS.xy
    have hy1 := HS.y1
    have hw2 : wrap64 (2 * y13) = 2 * y13 := wsmall (by omega) (by omega)
    obtain ⟨⟨r1, r2⟩, r3, r4⟩ := hrng hv0
    obtain ⟨g1, b1, g2, b2, e1, j1, j2, j3⟩ := Holds_two A0 c0 zs f1 f2 B0 d0 y0 y1 y2 y3 (shockV V y13).1 (shockV V y13).2.1 q1 q2 q3
    have hVe : V = (V.1, V.2.1, 0) := by rw [← hv0]
    have m1 : wrap64 (wrap64 (35 * mx V.1 0) * y13) = 35 * max V.1 0 * y13 := by
      rw [mx_max0, wsmall (x := 35 * max V.1 0) (by omega) (by omega), wsmall (by omega) (by omega)]
    have m2 : wrap64 (wrap64 (35 * mx V.2.1 0) * y13) = 35 * max V.2.1 0 * y13 := by
      rw [mx_max0, wsmall (x := 35 * max V.2.1 0) (by omega) (by omega), wsmall (by omega) (by omega)]
    refine shocks_walk A0 c0 zs f1 f2 Ao co o Am cm mt As cs s Ap cp p a4 a5 a6 B0 d0 y0 y1 y2 y3 y4 y5 y6 y7 y8 B9 d9 y9 y10 y11 y12 y13 y14 y15 y16 y17 y18 Br dr r B20 d20 y20 w hr0 hc0 hro hco hrm hcm hrs hcs hrp hcp hr1 hc1 hr9 hc9 hrr hcr hr20 hc20 (Kb + Kc + Kl + K1 + K2 + K3) _ b c g1 b1 g2 b2 (shockV V y13).1 (shockV V y13).2.1 0 V.1 V.2.1 (shockV V (2 * y13)).1 (shockV V (2 * y13)).2.1 (shockV V (2 * y13)).2.2 e1 rfl (hb _ (by omega)) (hc _ (by omega)) (hl _ (by omega)) ((h1 _ (by omega)).trans (by rw [← hS])) (fun h => absurd rfl h) (fun _ => (h2 _ (by omega)).trans (by rw [← hVe])) (fun _ => ?_) (fun _ => (h3 _ (by omega)).trans (by rw [hw2])) (fun _ hT => ?_) (fun _ => j2) (fun _ => j3) (fun _ => j1)
    · refine ⟨decide_eq_false (by omega), decide_eq_false (by omega), ?_, ?_⟩
      · rw [m1, wsmall (x := 78 * (shockV V y13).1) (by omega) (by omega)]; exact decide_eq_false (by omega)
      · rw [m2, wsmall (x := 78 * (shockV V y13).2.1) (by omega) (by omega)]; exact decide_eq_false (by omega)
    · have HT := shock_ok hrng hle hT
      obtain ⟨t1, t2, t3⟩ := shock_twice HS HT
      rw [wsmall (x := 2 * (shockV V y13).1) (by omega) (by omega), wsmall (x := 2 * (shockV V y13).2.1) (by omega) (by omega), wsmall (x := 2 * (shockV V y13).2.1 - 1) (by omega) (by omega)]
      exact ⟨decide_eq_false (by omega), decide_eq_false (by omega), decide_eq_false (by omega)⟩
  · have hz := shock_zero hS
    exact shocks_walk A0 c0 zs f1 f2 Ao co o Am cm mt As cs s Ap cp p a4 a5 a6 B0 d0 y0 y1 y2 y3 y4 y5 y6 y7 y8 B9 d9 y9 y10 y11 y12 y13 y14 y15 y16 y17 y18 Br dr r B20 d20 y20 w hr0 hc0 hro hco hrm hcm hrs hcs hrp hcp hr1 hc1 hr9 hc9 hrr hcr hr20 hc20 (Kb + Kc + Kl + K1 + K2 + K3) _ b c false false false false 0 0 (shockV V y13).2.2 0 0 0 0 0 0 rfl (hb _ (by omega)) (hc _ (by omega)) (hl _ (by omega)) ((h1 _ (by omega)).trans (by rw [← hz])) (fun _ => ⟨rfl, rfl⟩) (fun h => absurd h hS) (fun h => absurd h hS) (fun h => absurd h hS) (fun h => absurd h hS) (fun h => absurd h hS) (fun h => absurd h hS) (fun h => absurd h hS)
end Go.Proofs.Ytkjkokgbhepmoaa.PB

