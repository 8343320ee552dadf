import Derived.Test.YtkjkokgbhepmoaaR4
set_option linter.unusedVariables false
set_option linter.unusedSimpArgs false
namespace Go.Proofs.Ytkjkokgbhepmoaa.PB
open Go.RowKit Go.Shelf Go.Proofs.YtkjkokgbhepmoaaW.PrintWords Go.Proofs.YtkjkokgbhepmoaaW.PrintLast Go.Proofs.YtkjkokgbhepmoaaW.PrintMore
attribute [local go_sem] Oper.semAt_some
def ringV (x : S170) : Value := .agg #[.int .i64 x.f0.f0, .int .i64 x.f0.f1, .int .i64 x.f1.f0, .int .i64 x.f1.f1, .int .i64 x.f2.f0, .int .i64 x.f2.f1, .int .i64 x.f3.f0, .int .i64 x.f3.f1, .int .i64 x.f4.f0, .int .i64 x.f4.f1]
def ringC (x : S170) : Obj := .cells #[.int .i64 x.f0.f0, .int .i64 x.f0.f1, .int .i64 x.f1.f0, .int .i64 x.f1.f1, .int .i64 x.f2.f0, .int .i64 x.f2.f1, .int .i64 x.f3.f0, .int .i64 x.f3.f1, .int .i64 x.f4.f0, .int .i64 x.f4.f1] 170
theorem demand_okI (F : Fence) (n : Nat) (hF : F.fn 91) (hro : F.round = none) (e : Int) (w : World) : CallsIn F n Try.prog 91 #[.bool true, .int .i64 e] w fun en w' => en = .returned (.tuple #[]) ∧ w' = w := by
  refine callsIn_of_wp Try.func91 rfl hF ?_ hro
  simp only [Try.ntmps91, List.size_toArray, List.length_cons, List.length_nil, Nat.reduceAdd, Nat.reduceSub, Array.replicate_succ, Array.replicate_zero, List.push_toArray, List.append_toArray, List.nil_append, List.cons_append]
  gi_wp2
  go_end0
  exact ⟨rfl, rfl⟩
theorem demand_noI (F : Fence) (n : Nat) (hF : F.fn 91) (hro : F.round = none) (e : Int) (w : World) : CallsIn F n Try.prog 91 #[.bool false, .int .i64 e] w fun en w' => en = .panicked (failC e) ∧ w' = w := by
  refine callsIn_of_wp Try.func91 rfl hF ?_ hro
  simp only [Try.ntmps91, List.size_toArray, List.length_cons, List.length_nil, Nat.reduceAdd, Nat.reduceSub, Array.replicate_succ, Array.replicate_zero, List.push_toArray, List.append_toArray, List.nil_append, List.cons_append]
  gi_wp2
  simp [bodyPost, failC, failV]
theorem withinI (F : Fence) (n : Nat) (hF : F.fn 92) (hro : F.round = none) (x lo hi : Int) (w : World) : CallsIn F n Try.prog 92 #[.int .i64 x, .int .i64 lo, .int .i64 hi] w fun e w' => e = .returned (.bool (inB x lo hi)) ∧ w' = w := by
  refine callsIn_of_wp Try.func92 rfl hF ?_ hro
  simp only [Try.ntmps92, List.size_toArray, List.length_cons, List.length_nil, Nat.reduceAdd, Nat.reduceSub, Array.replicate_succ, Array.replicate_zero, List.push_toArray, List.append_toArray, List.nil_append, List.cons_append]
  cases h : decide (x ≥ lo) with
  | true =>
    gi_wp2
    go_ret
    simp at h
    exact ⟨by (simp [inB, h]) <;> (intros; omega), rfl⟩
  | false =>
    gi_wp2
    go_ret
    simp at h
    exact ⟨by (simp [inB, h]) <;> (intros; omega), rfl⟩
theorem spanI (F : Fence) (n : Nat) (hF : F.fn 141) (hro : F.round = none) (a b lo hi : Int) (w : World) : CallsIn F n Try.prog 141 #[.agg #[.int .i64 a, .int .i64 b], .int .i64 lo, .int .i64 hi] w fun e w' => e = .returned (.bool (spanB a b lo hi)) ∧ w' = w.alloc (.cells #[.int .i64 a, .int .i64 b] 27) := by
  refine callsIn_of_wp Try.func141 rfl hF ?_ hro
  simp only [Try.ntmps141, List.size_toArray, List.length_cons, List.length_nil, Nat.reduceAdd, Nat.reduceSub, Array.replicate_succ, Array.replicate_zero, List.push_toArray, List.append_toArray, List.nil_append, List.cons_append]
  have hb := blk_new w (.cells #[.int .i64 a, .int .i64 b] 27)
  have hx0 : (w.alloc (.cells #[.int .i64 a, .int .i64 b] 27)).cell? ⟨w.heap.size, 0, none⟩ = some (.int .i64 a) := (blk_cell hb 0).trans rfl
  have hx1 : (w.alloc (.cells #[.int .i64 a, .int .i64 b] 27)).cell? ⟨w.heap.size, 0 + 1, none⟩ = some (.int .i64 b) := (blk_cell hb 1).trans rfl
  cases h : decide (a ≥ lo) with
  | true =>
    cases h2 : decide (a ≤ b) with
    | true =>
      gi_wp2
      go_ret
      simp at h h2
      exact ⟨by (simp [spanB, h, h2]) <;> (intros; omega), rfl⟩
    | false =>
      gi_wp2
      go_ret
      simp at h h2
      exact ⟨by (simp [spanB, h, h2]) <;> (intros; omega), rfl⟩
  | false =>
    gi_wp2
    go_ret
    simp at h
    exact ⟨by (simp [spanB, h]) <;> (intros; omega), rfl⟩
set_option maxHeartbeats 4000000 in
set_option maxRecDepth 100000 in
theorem rings_callsI (F : Fence) (n : Nat) (hF : F.fn 142) (hro : F.round = none) (v1 v2 v3 : Value) (w : World) :
    CallsIn F n Try.prog 142 #[.agg #[v1, v2, v3]] w fun e w' => e = .returned (.func (.func 159) #[] #[.pointer (some ⟨w.heap.size, 0, none⟩)]) ∧ w' = w.alloc (.cells #[v1, v2, v3] 92) := by
  have hmf := run_makeFunc_
  refine callsIn_of_wp Try.func142 rfl hF ?_ hro
  simp only [Try.ntmps142, List.size_toArray, List.length_cons, List.length_nil, Nat.reduceAdd, Nat.reduceSub, Array.replicate_succ, Array.replicate_zero, List.push_toArray, List.append_toArray, List.nil_append, List.cons_append]
  gi_wp2
  go_ret
  exact ⟨rfl, rfl⟩
set_option maxHeartbeats 4000000 in
set_option maxRecDepth 100000 in
theorem rings1_in (F : Fence) (n : Nat) (hF : F.fn 159) (hro : F.round = none) (hn : 1 ≤ n) (l Bs : Nat) (A : Option Addr) (cap : Nat) (v2 v3 : Value) (zs : List S170) (J : Nat → World → Prop) (Jp : List PanicEntry → World → Prop) (W : World)
    (hBs : W.heap[Bs]? = some (.cells #[.slice A zs.length cap, v2, v3] 92 (0, 0)))
    (hJa : ∀ k W o, J k W → J k (W.alloc o)) (hJC : ∀ k W, J k W → Kd.C k170 W A zs.length zs)
    (hY : ∀ k W1, k < zs.length → J k W1 → YieldAt F (n - 1) Try.prog l #[.int .i64 k, ringV (rd_T170 zs k)] W1 fun e W' => (e = .returned (.bool true) ∧ J (k + 1) W') ∨ (∃ ch, e = .panicked ch ∧ Jp ch W'))
    (h0 : J 0 W) :
    CallsIn F n Try.prog 159 #[.func (.yield l) #[] #[], .pointer (some ⟨Bs, 0, none⟩)] W fun e W' => (∃ v, e = .returned v ∧ J zs.length W') ∨ (∃ ch, e = .panicked ch ∧ Jp ch W') := by
  have hc0 : W.cell? ⟨Bs, 0, none⟩ = some (.slice A zs.length cap) := (blk_cell hBs 0).trans rfl
  refine callsIn_of_wp Try.func159 rfl hF ?_ hro
  simp only [Try.ntmps159, List.size_toArray, List.length_cons, List.length_nil, Nat.reduceAdd, Nat.reduceSub, Array.replicate_succ, Array.replicate_zero, List.push_toArray, List.append_toArray, List.nil_append, List.cons_append]
  gi_wp2
  gi_loopw [8] (fun i wr => ∃ k : Nat, k ≤ zs.length ∧ i = .int .i64 k ∧ J k wr) (fun i _ => zs.length - (intOf i).toNat)
  case atStart => exact ⟨0, Nat.zero_le _, rfl, h0⟩
  case round =>
    obtain ⟨k, hk, rfl, hJs⟩ := hrel
    by_cases hlt : k < zs.length
    · obtain ⟨ad, rfl, g0, g1, g2, g3, g4, g5, g6, g7, g8, g9⟩ := at_T170 (hJC k wr hJs) k (by omega) (by omega)
      have hmax := Kd.C_max (hJC k wr hJs)
      have hwr : wrap64 ((k : Int) + 1) = (k : Int) + 1 := by unfold wrap64; omega
      simp only [Int.toNat_natCast] at g0 g1 g2 g3 g4 g5 g6 g7 g8 g9
      obtain ⟨fn, tmps, assign, body, hy, hR⟩ := hY _ (wr.alloc (ringC (rd_T170 zs k))) hlt (hJa _ _ _ hJs)
      unfold ringC ringV at hy
      gi_wp2
      refine hR.mono ?_
      rintro e W3 (⟨rfl, hJ3⟩ | ⟨ch, rfl, hJp⟩)
      · gi_wp2
        go_roundw
        case rel => exact ⟨k + 1, by omega, by simp, hJ3⟩
        case measure => simp [intOf]; omega
      · gi_wp2
        exact ⟨rfl, .inr ⟨ch, rfl, hJp⟩⟩
    · obtain rfl : k = zs.length := by omega
      gi_wp2
      go_end0
      exact .inl ⟨_, rfl, hJs⟩
end Go.Proofs.Ytkjkokgbhepmoaa.PB

namespace Go.Proofs.Ytkjkokgbhepmoaa.PB
open Go.RowKit Go.Shelf Go.Proofs.YtkjkokgbhepmoaaW.PrintWords Go.Proofs.YtkjkokgbhepmoaaW.PrintLast Go.Proofs.YtkjkokgbhepmoaaW.PrintMore
attribute [local go_sem] Oper.semAt_some
def ringB (x : S170) : Bool := spanB x.f0.f0 x.f0.f1 1 1000 && (spanB x.f1.f0 x.f1.f1 1 5000 && (spanB x.f2.f0 x.f2.f1 0 1000 && (spanB x.f3.f0 x.f3.f1 0 10000 && spanB x.f4.f0 x.f4.f1 0 10000)))
def sumLo (zs : List S170) : Nat → Int
  | 0 => 0
  | k + 1 => sumLo zs k + (rd_T170 zs (k : Int)).f2.f0
def sumHi (zs : List S170) : Nat → Int
  | 0 => 0
  | k + 1 => sumHi zs k + (rd_T170 zs (k : Int)).f2.f1
def ringsOk (zs : List S170) : Nat → Bool
  | 0 => true
  | k + 1 => ringsOk zs k && ringB (rd_T170 zs (k : Int))
theorem ringB_f2 {x : S170} (h : ringB x = true) : 0 ≤ x.f2.f0 ∧ x.f2.f0 ≤ x.f2.f1 ∧ x.f2.f1 ≤ 1000 := by
  simp only [ringB, spanB, Bool.and_eq_true, decide_eq_true_eq] at h
  omega
theorem sum_bounds (zs : List S170) : ∀ k, ringsOk zs k = true → 0 ≤ sumLo zs k ∧ sumLo zs k ≤ 1000 * k ∧ 0 ≤ sumHi zs k ∧ sumHi zs k ≤ 1000 * k
  | 0, _ => by simp [sumLo, sumHi]
  | k + 1, h => by
    simp only [ringsOk, Bool.and_eq_true] at h
    have ih := sum_bounds zs k h.1
    have hb := ringB_f2 h.2
    simp only [sumLo, sumHi]
    omega
theorem ringsOk_mono (zs : List S170) : ∀ k j, ringsOk zs k = false → k ≤ j → ringsOk zs j = false
  | k, 0, h, hj => by obtain rfl : k = 0 := by omega
                      exact h
  | k, j + 1, h, hj => by
    by_cases e : k = j + 1
    · subst e; exact h
    · simp [ringsOk, ringsOk_mono zs k j h (by omega)]
def bottleV (zs : List S170) (f1 f2 : Int) : Int := if zs.length > 24 then 3 else if zs.length = 0 then 1 else if ringsOk zs zs.length = true then (if sumLo zs zs.length ≤ 1000 ∧ sumHi zs zs.length ≥ 1000 then (if inB f1 1 1000 = true ∧ inB f2 0 1000000000000000 = true then 0 else 1) else 12) else 1
theorem blk_four' (w : World) (o1 o2 o3 o4 : Obj) : ((((w.alloc o1).alloc o2).alloc o3).alloc o4).heap[w.heap.size]? = some o1 ∧ ((((w.alloc o1).alloc o2).alloc o3).alloc o4).heap[w.heap.size + 1]? = some o2 ∧ ((((w.alloc o1).alloc o2).alloc o3).alloc o4).heap[w.heap.size + 1 + 1]? = some o3 ∧ ((((w.alloc o1).alloc o2).alloc o3).alloc o4).heap[w.heap.size + 1 + 1 + 1]? = some o4 ∧ Below w.heap.size w ((((w.alloc o1).alloc o2).alloc o3).alloc o4) ∧ ((((w.alloc o1).alloc o2).alloc o3).alloc o4).heap.size = w.heap.size + 1 + 1 + 1 + 1 :=
  ⟨blk_alloc (blk_three w o1 o2 o3).1 o4, blk_alloc (blk_three w o1 o2 o3).2.1 o4, blk_alloc (blk_three w o1 o2 o3).2.2.1 o4, by simpa using blk_new (((w.alloc o1).alloc o2).alloc o3) o4, below_alloc (blk_three w o1 o2 o3).2.2.2.1 o4, by simp⟩
def Fc : Fence := { fn := fun g => g = 140 ∨ g = 91 ∨ g = 141 ∨ g = 142 ∨ g = 159 ∨ g = 92 }
theorem putObj_heap_keep {W : World} {r k : Nat} {o x : Obj} (hne : k ≠ r) (h : W.heap[k]? = some x) : (W.putObj r o).heap[k]? = some x := (World.putObj_heap_other hne).trans h
theorem below_putObj {w W : World} {r : Nat} {o : Obj} (h : Below w.heap.size w W) (hr : w.heap.size ≤ r) (hlt : r < W.heap.size) : Below w.heap.size w (W.putObj r o) :=
  h.grown (grownBy_putObj' W r o) (by have := h.size; omega) (fun k e => by cases e; exact hr)
structure CkI (A : Option Addr) (c : Nat) (zs : List S170) (f1 f2 : Int) (w : World) (k : Nat) (W : World) : Prop where
  ok : ringsOk zs k = true
  bx : W.heap[w.heap.size]? = some (.cells #[.slice A zs.length c, .int .i64 f1, .int .i64 f2] 92 (0, 0))
  lo : W.heap[w.heap.size + 1]? = some (.cells #[.int .i64 (sumLo zs k)] 3 (0, 0))
  hi : W.heap[w.heap.size + 1 + 1]? = some (.cells #[.int .i64 (sumHi zs k)] 3 (0, 0))
  rb : W.heap[w.heap.size + 1 + 1 + 1]? = some (.cells #[.slice A zs.length c, .int .i64 f1, .int .i64 f2] 92 (0, 0))
  be : Below w.heap.size w W
theorem CkI.alloc {A : Option Addr} {c : Nat} {zs : List S170} {f1 f2 : Int} {w : World} {k : Nat} {W : World} (h : CkI A c zs f1 f2 w k W) (o : Obj) : CkI A c zs f1 f2 w k (W.alloc o) :=
  ⟨h.ok, blk_alloc h.bx o, blk_alloc h.lo o, blk_alloc h.hi o, blk_alloc h.rb o, below_alloc h.be o⟩
theorem CkI.put {A : Option Addr} {c : Nat} {zs : List S170} {f1 f2 : Int} {w : World} {k : Nat} {W : World} (h : CkI A c zs f1 f2 w k W) {r : Nat} (o : Obj) (hr : w.heap.size + 4 ≤ r) (hlt : r < W.heap.size) : CkI A c zs f1 f2 w k (W.putObj r o) :=
  ⟨h.ok, putObj_heap_keep (by omega) h.bx, putObj_heap_keep (by omega) h.lo, putObj_heap_keep (by omega) h.hi, putObj_heap_keep (by omega) h.rb, below_putObj h.be (by omega) hlt⟩
def CkP (zs : List S170) (w : World) (ch : List PanicEntry) (W : World) : Prop := ch = failC 1 ∧ ringsOk zs zs.length = false ∧ Below w.heap.size w W
set_option maxHeartbeats 4000000 in
set_option maxRecDepth 100000 in
theorem bottle_callsI (F : Fence) (n : Nat) (h140 : F.fn 140) (h91 : F.fn 91) (h141 : F.fn 141) (h142 : F.fn 142) (h159 : F.fn 159) (h92 : F.fn 92) (hro : F.round = none) (hfn : ∀ g, F.fn g → ∃ c, Try.prog.funcs[g]? = some c) (hn : 9 ≤ n) (A : Option Addr) (c : Nat) (zs : List S170) (f1 f2 : Int) (w : World) (hr : Kd.C k170 w A zs.length zs) :
    CallsIn F n Try.prog 140 #[.agg #[.slice A zs.length c, .int .i64 f1, .int .i64 f2]] w fun en w' => en = endF (bottleV zs f1 f2) ∧ Below w.heap.size w w' := by
  have hb0 := below_alloc (Below.refl w.heap.size w) (.cells #[.slice A zs.length c, .int .i64 f1, .int .i64 f2] 92)
  have BX := Sd.mk (blk_new w (.cells #[.slice A zs.length c, .int .i64 f1, .int .i64 f2] 92))
  have hx0 : (w.alloc (.cells #[.slice A zs.length c, .int .i64 f1, .int .i64 f2] 92)).cell? ⟨w.heap.size, 0, none⟩ = some (.slice A zs.length c) := (blk_cell BX.out 0).trans rfl
  have HB0 := Sd.mk hb0
  have HR := Sd.mk hr
  clear hr hb0
  have hn1 : 1 ≤ n := by omega
  refine callsIn_of_wp_marks Try.func140 rfl h140 ?_ hro
  simp only [Try.ntmps140, List.size_toArray, List.length_cons, List.length_nil, Nat.reduceAdd, Nat.reduceSub, Array.replicate_succ, Array.replicate_zero, List.push_toArray, List.append_toArray, List.nil_append, List.cons_append]
  by_cases h24 : zs.length > 24
  · have hd : decide ((zs.length : Int) ≤ 24) = false := decide_eq_false (by omega)
    gi_wp2_with (first | (gi_at_call 91; (with_reducible refine (demand_noI F _ h91 hro _ _).mono ?_); rintro e w' ⟨rfl, rfl⟩) | (gi_at_call 91; (with_reducible refine (demand_okI F _ h91 hro _ _).mono ?_); rintro e w' ⟨rfl, rfl⟩))
    exact ⟨by rw [bottleV, if_pos h24]; rfl, HB0.out⟩
  · by_cases h0 : zs.length = 0
    · have hd : decide ((zs.length : Int) ≤ 24) = true := decide_eq_true (by omega)
      have hd2 : decide ((zs.length : Int) > 0) = false := decide_eq_false (by omega)
      have hd3 : decide (0 < zs.length) = false := decide_eq_false (by omega)
      have HV : Sd (bottleV zs f1 f2 = 1) := ⟨by rw [bottleV, if_neg h24, if_pos h0]⟩
      clear h0
      gi_wp2_with (first | (gi_at_call 91; (with_reducible refine (demand_noI F _ h91 hro _ _).mono ?_); rintro e w' ⟨rfl, rfl⟩) | (gi_at_call 91; (with_reducible refine (demand_okI F _ h91 hro _ _).mono ?_); rintro e w' ⟨rfl, rfl⟩))
      exact ⟨by rw [HV.out]; rfl, HB0.out⟩
    · have hd : decide ((zs.length : Int) ≤ 24) = true := decide_eq_true (by omega)
      have hd2 : decide ((zs.length : Int) > 0) = true := decide_eq_true (by omega)
      have hd3 : decide (0 < zs.length) = true := decide_eq_true (by omega)
      have HV : Sd (bottleV zs f1 f2 = if ringsOk zs zs.length = true then (if sumLo zs zs.length ≤ 1000 ∧ sumHi zs zs.length ≥ 1000 then (if inB f1 1 1000 = true ∧ inB f2 0 1000000000000000 = true then 0 else 1) else 12) else 1) := ⟨by rw [bottleV, if_neg h24, if_neg h0]⟩
      have HN : Sd (zs.length ≤ 24) := ⟨by omega⟩
      clear h24 h0
      have hx1 : (w.alloc (.cells #[.slice A zs.length c, .int .i64 f1, .int .i64 f2] 92)).cell? ⟨w.heap.size, 0 + 1, none⟩ = some (.int .i64 f1) := (blk_cell BX.out 1).trans rfl
      have hx2 : (w.alloc (.cells #[.slice A zs.length c, .int .i64 f1, .int .i64 f2] 92)).cell? ⟨w.heap.size, 0 + 2, none⟩ = some (.int .i64 f2) := (blk_cell BX.out 2).trans rfl
      gi_wp2_with (first | (gi_at_call 91; (with_reducible refine (demand_noI F _ h91 hro _ _).mono ?_); rintro e w' ⟨rfl, rfl⟩) | (gi_at_call 91; (with_reducible refine (demand_okI F _ h91 hro _ _).mono ?_); rintro e w' ⟨rfl, rfl⟩) | (gi_at_call 142; (with_reducible refine (rings_callsI F _ h142 hro _ _ _ _).mono ?_); rintro e w' ⟨rfl, rfl⟩))
      clear hd hd2 hd3 hx0 hx1 hx2 BX HB0
      obtain ⟨b1, b2, b3, b4, hb, hsz⟩ := blk_four' w (.cells #[.slice A zs.length c, .int .i64 f1, .int .i64 f2] 92) (.cells #[.int .i64 0] 3) (.cells #[.int .i64 0] 3) (.cells #[.slice A zs.length c, .int .i64 f1, .int .i64 f2] 92)
      generalize (((w.alloc (.cells #[.slice A zs.length c, .int .i64 f1, .int .i64 f2] 92)).alloc (.cells #[.int .i64 0] 3)).alloc (.cells #[.int .i64 0] 3)).alloc (.cells #[.slice A zs.length c, .int .i64 f1, .int .i64 f2] 92) = W0 at b1 b2 b3 b4 hb hsz ⊢
      refine wpIn_rangeFuncP (N := zs.length) (encs := fun k => #[.int .i64 (k : Int), ringV (rd_T170 zs k)]) hro (by omega) (gf := 159) (lb := #[.pointer (some ⟨w.heap.size + 1 + 1 + 1, 0, none⟩)]) rfl h159 (enters_of Try.func159 (by kernel_rfl) rfl) (fun _ => rfl)
        (CkI A c zs f1 f2 w) (CkP zs w) (fun k W o h => h.alloc o) (fun k W o r hl h => h.put o (by omega) (Array.getElem?_eq_some_iff.1 hl).1) ⟨rfl, b1, b2, b3, b4, hb⟩ ?seq ?round ?fn ?done ?panic
      case seq =>
        intro l J Jp W hJa hJI hY h0
        exact rings1_in F (n - 1) h159 hro (by omega) l (w.heap.size + 1 + 1 + 1) A c _ _ zs J Jp W (hJI _ _ h0).rb hJa (fun k W' h => Kd.C_below HR.out (hJI _ _ h).be) hY h0
      case round =>
        clear b1 b2 b3 b4 hb
        intro l k W hW _ hk hI st hst
        generalize hx : rd_T170 zs (k : Int) = x
        have HI := Sd.mk hI
        have HW := Sd.mk hW
        have HK := Sd.mk hk
        have HX := Sd.mk hx
        have HS := Sd.mk hsz
        clear hI hW hk hx hsz
        unfold ringV
        simp only [List.zip_cons_cons, List.zip_nil_right, List.foldl_cons, List.foldl_nil]
        gi_wp2
        refine hst _ _ (by simp) (fun j h1 h2 => Below.heap_alloc W _ j (by have := HW.out; omega)) ?_
        clear hst
        intro o
        have hn2 : 1 ≤ n - 1 - 1 := by omega
        have CK : Sd (CkI A c zs f1 f2 w k ((W.alloc (.cells #[.int .i64 x.f0.f0, .int .i64 x.f0.f1, .int .i64 x.f1.f0, .int .i64 x.f1.f1, .int .i64 x.f2.f0, .int .i64 x.f2.f1, .int .i64 x.f3.f0, .int .i64 x.f3.f1, .int .i64 x.f4.f0, .int .i64 x.f4.f1] 170)).putObj (W0.heap.size + 1) o)) := ⟨(HI.out.alloc _).put o (by have := HS.out; omega) (by have := HW.out; simp; omega)⟩
        have RB : Sd (((W.alloc (.cells #[.int .i64 x.f0.f0, .int .i64 x.f0.f1, .int .i64 x.f1.f0, .int .i64 x.f1.f1, .int .i64 x.f2.f0, .int .i64 x.f2.f1, .int .i64 x.f3.f0, .int .i64 x.f3.f1, .int .i64 x.f4.f0, .int .i64 x.f4.f1] 170)).putObj (W0.heap.size + 1) o).heap[W.heap.size]? = some (.cells #[.int .i64 x.f0.f0, .int .i64 x.f0.f1, .int .i64 x.f1.f0, .int .i64 x.f1.f1, .int .i64 x.f2.f0, .int .i64 x.f2.f1, .int .i64 x.f3.f0, .int .i64 x.f3.f1, .int .i64 x.f4.f0, .int .i64 x.f4.f1] 170 (0, 0))) := ⟨putObj_heap_keep (by have := HW.out; omega) (blk_new _ _)⟩
        have WS : Sd (((W.alloc (.cells #[.int .i64 x.f0.f0, .int .i64 x.f0.f1, .int .i64 x.f1.f0, .int .i64 x.f1.f1, .int .i64 x.f2.f0, .int .i64 x.f2.f1, .int .i64 x.f3.f0, .int .i64 x.f3.f1, .int .i64 x.f4.f0, .int .i64 x.f4.f1] 170)).putObj (W0.heap.size + 1) o).heap.size = W.heap.size + 1) := ⟨by simp⟩
        generalize (W.alloc (.cells #[.int .i64 x.f0.f0, .int .i64 x.f0.f1, .int .i64 x.f1.f0, .int .i64 x.f1.f1, .int .i64 x.f2.f0, .int .i64 x.f2.f1, .int .i64 x.f3.f0, .int .i64 x.f3.f1, .int .i64 x.f4.f0, .int .i64 x.f4.f1] 170)).putObj (W0.heap.size + 1) o = Wb at CK RB WS ⊢
        have BW := Sd.mk (Below.refl Wb.heap.size Wb)
        have g0 : Wb.cell? ⟨W.heap.size, 0, none⟩ = some (.int .i64 x.f0.f0) := (blk_cell RB.out 0).trans rfl
        have g1 : Wb.cell? ⟨W.heap.size, 0 + 1, none⟩ = some (.int .i64 x.f0.f1) := (blk_cell RB.out 1).trans rfl
        have g2 : Wb.cell? ⟨W.heap.size, 0 + 2, none⟩ = some (.int .i64 x.f1.f0) := (blk_cell RB.out 2).trans rfl
        have g3 : Wb.cell? ⟨W.heap.size, 0 + 3, none⟩ = some (.int .i64 x.f1.f1) := (blk_cell RB.out 3).trans rfl
        have g4 : Wb.cell? ⟨W.heap.size, 0 + 4, none⟩ = some (.int .i64 x.f2.f0) := (blk_cell RB.out 4).trans rfl
        have g5 : Wb.cell? ⟨W.heap.size, 0 + 5, none⟩ = some (.int .i64 x.f2.f1) := (blk_cell RB.out 5).trans rfl
        have g6 : Wb.cell? ⟨W.heap.size, 0 + 6, none⟩ = some (.int .i64 x.f3.f0) := (blk_cell RB.out 6).trans rfl
        have g7 : Wb.cell? ⟨W.heap.size, 0 + 7, none⟩ = some (.int .i64 x.f3.f1) := (blk_cell RB.out 7).trans rfl
        have g8 : Wb.cell? ⟨W.heap.size, 0 + 8, none⟩ = some (.int .i64 x.f4.f0) := (blk_cell RB.out 8).trans rfl
        have g9 : Wb.cell? ⟨W.heap.size, 0 + 9, none⟩ = some (.int .i64 x.f4.f1) := (blk_cell RB.out 9).trans rfl
        cases s0 : spanB x.f0.f0 x.f0.f1 1 1000 with
        | false =>
          have HF : Sd (ringB x = false) := ⟨by simp only [ringB, s0, Bool.and_false, Bool.false_and, Bool.and_true, Bool.true_and]⟩
          gi_wp2_with (first | (gi_at_call 141; go_loud (refine (CallsIn.inRound l (spanI F _ h141 hro _ _ _ _ _)).mono ?_; (first | rw [s0] | rw [s1] | rw [s2] | rw [s3] | rw [s4]); rintro e wq ⟨rfl, hwq⟩; replace RB := Sd.mk (show wq.heap[W.heap.size]? = _ from by subst hwq; exact blk_alloc RB.out _); replace BW := Sd.mk (show Below Wb.heap.size Wb wq from by subst hwq; exact below_alloc BW.out _); clear hwq; have g0 : wq.cell? ⟨W.heap.size, 0, none⟩ = some (.int .i64 x.f0.f0) := (blk_cell RB.out 0).trans rfl; have g1 : wq.cell? ⟨W.heap.size, 0 + 1, none⟩ = some (.int .i64 x.f0.f1) := (blk_cell RB.out 1).trans rfl; have g2 : wq.cell? ⟨W.heap.size, 0 + 2, none⟩ = some (.int .i64 x.f1.f0) := (blk_cell RB.out 2).trans rfl; have g3 : wq.cell? ⟨W.heap.size, 0 + 3, none⟩ = some (.int .i64 x.f1.f1) := (blk_cell RB.out 3).trans rfl; have g4 : wq.cell? ⟨W.heap.size, 0 + 4, none⟩ = some (.int .i64 x.f2.f0) := (blk_cell RB.out 4).trans rfl; have g5 : wq.cell? ⟨W.heap.size, 0 + 5, none⟩ = some (.int .i64 x.f2.f1) := (blk_cell RB.out 5).trans rfl; have g6 : wq.cell? ⟨W.heap.size, 0 + 6, none⟩ = some (.int .i64 x.f3.f0) := (blk_cell RB.out 6).trans rfl; have g7 : wq.cell? ⟨W.heap.size, 0 + 7, none⟩ = some (.int .i64 x.f3.f1) := (blk_cell RB.out 7).trans rfl; have g8 : wq.cell? ⟨W.heap.size, 0 + 8, none⟩ = some (.int .i64 x.f4.f0) := (blk_cell RB.out 8).trans rfl; have g9 : wq.cell? ⟨W.heap.size, 0 + 9, none⟩ = some (.int .i64 x.f4.f1) := (blk_cell RB.out 9).trans rfl; have gl : wq.cell? ⟨w.heap.size + 1, 0, none⟩ = some (.int .i64 (sumLo zs k)) := (blk_cell (blk_below CK.out.lo BW.out) 0).trans rfl; have gl' := blk_frozen (blk_below CK.out.lo BW.out) 0; have gh : (wq.setCell ⟨w.heap.size + 1, 0, none⟩ (.int .i64 (wrap64 (sumLo zs k + x.f2.f0)))).cell? ⟨w.heap.size + 1 + 1, 0, none⟩ = some (.int .i64 (sumHi zs k)) := (blk_cell (blk_far (blk_below CK.out.hi BW.out) (p := ⟨w.heap.size + 1, 0, none⟩) (by simp) _) 0).trans rfl; have gh' : (wq.setCell ⟨w.heap.size + 1, 0, none⟩ (.int .i64 (wrap64 (sumLo zs k + x.f2.f0)))).frozen? ⟨w.heap.size + 1 + 1, 0, none⟩ = false := blk_frozen (blk_far (blk_below CK.out.hi BW.out) (p := ⟨w.heap.size + 1, 0, none⟩) (by simp) _) 0; have gr : (wq.setCell ⟨w.heap.size + 1, 0, none⟩ (.int .i64 (wrap64 (sumLo zs k + x.f2.f0)))).cell? ⟨W.heap.size, 5, none⟩ = some (.int .i64 x.f2.f1) := (blk_cell (blk_far RB.out (p := ⟨w.heap.size + 1, 0, none⟩) (by have := HW.out; have := HS.out; simp; omega) _) 5).trans rfl)) | (gi_at_call 91; (with_reducible refine (CallsIn.inRound l (demand_noI F _ h91 hro _ _)).mono ?_); rintro e w' ⟨rfl, rfl⟩) | (gi_at_call 91; (with_reducible refine (CallsIn.inRound l (demand_okI F _ h91 hro _ _)).mono ?_); rintro e w' ⟨rfl, rfl⟩))
          exact ⟨rfl, BW.out.size, fun j h1 h2 => BW.out.block j (by have := HW.out; have := WS.out; omega), rfl, ringsOk_mono zs (k + 1) _ (by simp [ringsOk, HX.out, HF.out]) HK.out, below_then CK.out.be CK.out.be.size BW.out⟩
        | true =>
          cases s1 : spanB x.f1.f0 x.f1.f1 1 5000 with
          | false =>
            have HF : Sd (ringB x = false) := ⟨by simp only [ringB, s0, s1, Bool.and_false, Bool.false_and, Bool.and_true, Bool.true_and]⟩
            gi_wp2_with (first | (gi_at_call 141; go_loud (refine (CallsIn.inRound l (spanI F _ h141 hro _ _ _ _ _)).mono ?_; (first | rw [s0] | rw [s1] | rw [s2] | rw [s3] | rw [s4]); rintro e wq ⟨rfl, hwq⟩; replace RB := Sd.mk (show wq.heap[W.heap.size]? = _ from by subst hwq; exact blk_alloc RB.out _); replace BW := Sd.mk (show Below Wb.heap.size Wb wq from by subst hwq; exact below_alloc BW.out _); clear hwq; have g0 : wq.cell? ⟨W.heap.size, 0, none⟩ = some (.int .i64 x.f0.f0) := (blk_cell RB.out 0).trans rfl; have g1 : wq.cell? ⟨W.heap.size, 0 + 1, none⟩ = some (.int .i64 x.f0.f1) := (blk_cell RB.out 1).trans rfl; have g2 : wq.cell? ⟨W.heap.size, 0 + 2, none⟩ = some (.int .i64 x.f1.f0) := (blk_cell RB.out 2).trans rfl; have g3 : wq.cell? ⟨W.heap.size, 0 + 3, none⟩ = some (.int .i64 x.f1.f1) := (blk_cell RB.out 3).trans rfl; have g4 : wq.cell? ⟨W.heap.size, 0 + 4, none⟩ = some (.int .i64 x.f2.f0) := (blk_cell RB.out 4).trans rfl; have g5 : wq.cell? ⟨W.heap.size, 0 + 5, none⟩ = some (.int .i64 x.f2.f1) := (blk_cell RB.out 5).trans rfl; have g6 : wq.cell? ⟨W.heap.size, 0 + 6, none⟩ = some (.int .i64 x.f3.f0) := (blk_cell RB.out 6).trans rfl; have g7 : wq.cell? ⟨W.heap.size, 0 + 7, none⟩ = some (.int .i64 x.f3.f1) := (blk_cell RB.out 7).trans rfl; have g8 : wq.cell? ⟨W.heap.size, 0 + 8, none⟩ = some (.int .i64 x.f4.f0) := (blk_cell RB.out 8).trans rfl; have g9 : wq.cell? ⟨W.heap.size, 0 + 9, none⟩ = some (.int .i64 x.f4.f1) := (blk_cell RB.out 9).trans rfl; have gl : wq.cell? ⟨w.heap.size + 1, 0, none⟩ = some (.int .i64 (sumLo zs k)) := (blk_cell (blk_below CK.out.lo BW.out) 0).trans rfl; have gl' := blk_frozen (blk_below CK.out.lo BW.out) 0; have gh : (wq.setCell ⟨w.heap.size + 1, 0, none⟩ (.int .i64 (wrap64 (sumLo zs k + x.f2.f0)))).cell? ⟨w.heap.size + 1 + 1, 0, none⟩ = some (.int .i64 (sumHi zs k)) := (blk_cell (blk_far (blk_below CK.out.hi BW.out) (p := ⟨w.heap.size + 1, 0, none⟩) (by simp) _) 0).trans rfl; have gh' : (wq.setCell ⟨w.heap.size + 1, 0, none⟩ (.int .i64 (wrap64 (sumLo zs k + x.f2.f0)))).frozen? ⟨w.heap.size + 1 + 1, 0, none⟩ = false := blk_frozen (blk_far (blk_below CK.out.hi BW.out) (p := ⟨w.heap.size + 1, 0, none⟩) (by simp) _) 0; have gr : (wq.setCell ⟨w.heap.size + 1, 0, none⟩ (.int .i64 (wrap64 (sumLo zs k + x.f2.f0)))).cell? ⟨W.heap.size, 5, none⟩ = some (.int .i64 x.f2.f1) := (blk_cell (blk_far RB.out (p := ⟨w.heap.size + 1, 0, none⟩) (by have := HW.out; have := HS.out; simp; omega) _) 5).trans rfl)) | (gi_at_call 91; (with_reducible refine (CallsIn.inRound l (demand_noI F _ h91 hro _ _)).mono ?_); rintro e w' ⟨rfl, rfl⟩) | (gi_at_call 91; (with_reducible refine (CallsIn.inRound l (demand_okI F _ h91 hro _ _)).mono ?_); rintro e w' ⟨rfl, rfl⟩))
            exact ⟨rfl, BW.out.size, fun j h1 h2 => BW.out.block j (by have := HW.out; have := WS.out; omega), rfl, ringsOk_mono zs (k + 1) _ (by simp [ringsOk, HX.out, HF.out]) HK.out, below_then CK.out.be CK.out.be.size BW.out⟩
          | true =>
            cases s2 : spanB x.f2.f0 x.f2.f1 0 1000 with
            | false =>
              have HF : Sd (ringB x = false) := ⟨by simp only [ringB, s0, s1, s2, Bool.and_false, Bool.false_and, Bool.and_true, Bool.true_and]⟩
              gi_wp2_with (first | (gi_at_call 141; go_loud (refine (CallsIn.inRound l (spanI F _ h141 hro _ _ _ _ _)).mono ?_; (first | rw [s0] | rw [s1] | rw [s2] | rw [s3] | rw [s4]); rintro e wq ⟨rfl, hwq⟩; replace RB := Sd.mk (show wq.heap[W.heap.size]? = _ from by subst hwq; exact blk_alloc RB.out _); replace BW := Sd.mk (show Below Wb.heap.size Wb wq from by subst hwq; exact below_alloc BW.out _); clear hwq; have g0 : wq.cell? ⟨W.heap.size, 0, none⟩ = some (.int .i64 x.f0.f0) := (blk_cell RB.out 0).trans rfl; have g1 : wq.cell? ⟨W.heap.size, 0 + 1, none⟩ = some (.int .i64 x.f0.f1) := (blk_cell RB.out 1).trans rfl; have g2 : wq.cell? ⟨W.heap.size, 0 + 2, none⟩ = some (.int .i64 x.f1.f0) := (blk_cell RB.out 2).trans rfl; have g3 : wq.cell? ⟨W.heap.size, 0 + 3, none⟩ = some (.int .i64 x.f1.f1) := (blk_cell RB.out 3).trans rfl; have g4 : wq.cell? ⟨W.heap.size, 0 + 4, none⟩ = some (.int .i64 x.f2.f0) := (blk_cell RB.out 4).trans rfl; have g5 : wq.cell? ⟨W.heap.size, 0 + 5, none⟩ = some (.int .i64 x.f2.f1) := (blk_cell RB.out 5).trans rfl; have g6 : wq.cell? ⟨W.heap.size, 0 + 6, none⟩ = some (.int .i64 x.f3.f0) := (blk_cell RB.out 6).trans rfl; have g7 : wq.cell? ⟨W.heap.size, 0 + 7, none⟩ = some (.int .i64 x.f3.f1) := (blk_cell RB.out 7).trans rfl; have g8 : wq.cell? ⟨W.heap.size, 0 + 8, none⟩ = some (.int .i64 x.f4.f0) := (blk_cell RB.out 8).trans rfl; have g9 : wq.cell? ⟨W.heap.size, 0 + 9, none⟩ = some (.int .i64 x.f4.f1) := (blk_cell RB.out 9).trans rfl; have gl : wq.cell? ⟨w.heap.size + 1, 0, none⟩ = some (.int .i64 (sumLo zs k)) := (blk_cell (blk_below CK.out.lo BW.out) 0).trans rfl; have gl' := blk_frozen (blk_below CK.out.lo BW.out) 0; have gh : (wq.setCell ⟨w.heap.size + 1, 0, none⟩ (.int .i64 (wrap64 (sumLo zs k + x.f2.f0)))).cell? ⟨w.heap.size + 1 + 1, 0, none⟩ = some (.int .i64 (sumHi zs k)) := (blk_cell (blk_far (blk_below CK.out.hi BW.out) (p := ⟨w.heap.size + 1, 0, none⟩) (by simp) _) 0).trans rfl; have gh' : (wq.setCell ⟨w.heap.size + 1, 0, none⟩ (.int .i64 (wrap64 (sumLo zs k + x.f2.f0)))).frozen? ⟨w.heap.size + 1 + 1, 0, none⟩ = false := blk_frozen (blk_far (blk_below CK.out.hi BW.out) (p := ⟨w.heap.size + 1, 0, none⟩) (by simp) _) 0; have gr : (wq.setCell ⟨w.heap.size + 1, 0, none⟩ (.int .i64 (wrap64 (sumLo zs k + x.f2.f0)))).cell? ⟨W.heap.size, 5, none⟩ = some (.int .i64 x.f2.f1) := (blk_cell (blk_far RB.out (p := ⟨w.heap.size + 1, 0, none⟩) (by have := HW.out; have := HS.out; simp; omega) _) 5).trans rfl)) | (gi_at_call 91; (with_reducible refine (CallsIn.inRound l (demand_noI F _ h91 hro _ _)).mono ?_); rintro e w' ⟨rfl, rfl⟩) | (gi_at_call 91; (with_reducible refine (CallsIn.inRound l (demand_okI F _ h91 hro _ _)).mono ?_); rintro e w' ⟨rfl, rfl⟩))
              exact ⟨rfl, BW.out.size, fun j h1 h2 => BW.out.block j (by have := HW.out; have := WS.out; omega), rfl, ringsOk_mono zs (k + 1) _ (by simp [ringsOk, HX.out, HF.out]) HK.out, below_then CK.out.be CK.out.be.size BW.out⟩
            | true =>
              cases s3 : spanB x.f3.f0 x.f3.f1 0 10000 with
              | false =>
                have HF : Sd (ringB x = false) := ⟨by simp only [ringB, s0, s1, s2, s3, Bool.and_false, Bool.false_and, Bool.and_true, Bool.true_and]⟩
                gi_wp2_with (first | (gi_at_call 141; go_loud (refine (CallsIn.inRound l (spanI F _ h141 hro _ _ _ _ _)).mono ?_; (first | rw [s0] | rw [s1] | rw [s2] | rw [s3] | rw [s4]); rintro e wq ⟨rfl, hwq⟩; replace RB := Sd.mk (show wq.heap[W.heap.size]? = _ from by subst hwq; exact blk_alloc RB.out _); replace BW := Sd.mk (show Below Wb.heap.size Wb wq from by subst hwq; exact below_alloc BW.out _); clear hwq; have g0 : wq.cell? ⟨W.heap.size, 0, none⟩ = some (.int .i64 x.f0.f0) := (blk_cell RB.out 0).trans rfl; have g1 : wq.cell? ⟨W.heap.size, 0 + 1, none⟩ = some (.int .i64 x.f0.f1) := (blk_cell RB.out 1).trans rfl; have g2 : wq.cell? ⟨W.heap.size, 0 + 2, none⟩ = some (.int .i64 x.f1.f0) := (blk_cell RB.out 2).trans rfl; have g3 : wq.cell? ⟨W.heap.size, 0 + 3, none⟩ = some (.int .i64 x.f1.f1) := (blk_cell RB.out 3).trans rfl; have g4 : wq.cell? ⟨W.heap.size, 0 + 4, none⟩ = some (.int .i64 x.f2.f0) := (blk_cell RB.out 4).trans rfl; have g5 : wq.cell? ⟨W.heap.size, 0 + 5, none⟩ = some (.int .i64 x.f2.f1) := (blk_cell RB.out 5).trans rfl; have g6 : wq.cell? ⟨W.heap.size, 0 + 6, none⟩ = some (.int .i64 x.f3.f0) := (blk_cell RB.out 6).trans rfl; have g7 : wq.cell? ⟨W.heap.size, 0 + 7, none⟩ = some (.int .i64 x.f3.f1) := (blk_cell RB.out 7).trans rfl; have g8 : wq.cell? ⟨W.heap.size, 0 + 8, none⟩ = some (.int .i64 x.f4.f0) := (blk_cell RB.out 8).trans rfl; have g9 : wq.cell? ⟨W.heap.size, 0 + 9, none⟩ = some (.int .i64 x.f4.f1) := (blk_cell RB.out 9).trans rfl; have gl : wq.cell? ⟨w.heap.size + 1, 0, none⟩ = some (.int .i64 (sumLo zs k)) := (blk_cell (blk_below CK.out.lo BW.out) 0).trans rfl; have gl' := blk_frozen (blk_below CK.out.lo BW.out) 0; have gh : (wq.setCell ⟨w.heap.size + 1, 0, none⟩ (.int .i64 (wrap64 (sumLo zs k + x.f2.f0)))).cell? ⟨w.heap.size + 1 + 1, 0, none⟩ = some (.int .i64 (sumHi zs k)) := (blk_cell (blk_far (blk_below CK.out.hi BW.out) (p := ⟨w.heap.size + 1, 0, none⟩) (by simp) _) 0).trans rfl; have gh' : (wq.setCell ⟨w.heap.size + 1, 0, none⟩ (.int .i64 (wrap64 (sumLo zs k + x.f2.f0)))).frozen? ⟨w.heap.size + 1 + 1, 0, none⟩ = false := blk_frozen (blk_far (blk_below CK.out.hi BW.out) (p := ⟨w.heap.size + 1, 0, none⟩) (by simp) _) 0; have gr : (wq.setCell ⟨w.heap.size + 1, 0, none⟩ (.int .i64 (wrap64 (sumLo zs k + x.f2.f0)))).cell? ⟨W.heap.size, 5, none⟩ = some (.int .i64 x.f2.f1) := (blk_cell (blk_far RB.out (p := ⟨w.heap.size + 1, 0, none⟩) (by have := HW.out; have := HS.out; simp; omega) _) 5).trans rfl)) | (gi_at_call 91; (with_reducible refine (CallsIn.inRound l (demand_noI F _ h91 hro _ _)).mono ?_); rintro e w' ⟨rfl, rfl⟩) | (gi_at_call 91; (with_reducible refine (CallsIn.inRound l (demand_okI F _ h91 hro _ _)).mono ?_); rintro e w' ⟨rfl, rfl⟩))
                exact ⟨rfl, BW.out.size, fun j h1 h2 => BW.out.block j (by have := HW.out; have := WS.out; omega), rfl, ringsOk_mono zs (k + 1) _ (by simp [ringsOk, HX.out, HF.out]) HK.out, below_then CK.out.be CK.out.be.size BW.out⟩
              | true =>
                cases s4 : spanB x.f4.f0 x.f4.f1 0 10000 with
                | false =>
                  have HF : Sd (ringB x = false) := ⟨by simp only [ringB, s0, s1, s2, s3, s4, Bool.and_false, Bool.false_and, Bool.and_true, Bool.true_and]⟩
                  gi_wp2_with (first | (gi_at_call 141; go_loud (refine (CallsIn.inRound l (spanI F _ h141 hro _ _ _ _ _)).mono ?_; (first | rw [s0] | rw [s1] | rw [s2] | rw [s3] | rw [s4]); rintro e wq ⟨rfl, hwq⟩; replace RB := Sd.mk (show wq.heap[W.heap.size]? = _ from by subst hwq; exact blk_alloc RB.out _); replace BW := Sd.mk (show Below Wb.heap.size Wb wq from by subst hwq; exact below_alloc BW.out _); clear hwq; have g0 : wq.cell? ⟨W.heap.size, 0, none⟩ = some (.int .i64 x.f0.f0) := (blk_cell RB.out 0).trans rfl; have g1 : wq.cell? ⟨W.heap.size, 0 + 1, none⟩ = some (.int .i64 x.f0.f1) := (blk_cell RB.out 1).trans rfl; have g2 : wq.cell? ⟨W.heap.size, 0 + 2, none⟩ = some (.int .i64 x.f1.f0) := (blk_cell RB.out 2).trans rfl; have g3 : wq.cell? ⟨W.heap.size, 0 + 3, none⟩ = some (.int .i64 x.f1.f1) := (blk_cell RB.out 3).trans rfl; have g4 : wq.cell? ⟨W.heap.size, 0 + 4, none⟩ = some (.int .i64 x.f2.f0) := (blk_cell RB.out 4).trans rfl; have g5 : wq.cell? ⟨W.heap.size, 0 + 5, none⟩ = some (.int .i64 x.f2.f1) := (blk_cell RB.out 5).trans rfl; have g6 : wq.cell? ⟨W.heap.size, 0 + 6, none⟩ = some (.int .i64 x.f3.f0) := (blk_cell RB.out 6).trans rfl; have g7 : wq.cell? ⟨W.heap.size, 0 + 7, none⟩ = some (.int .i64 x.f3.f1) := (blk_cell RB.out 7).trans rfl; have g8 : wq.cell? ⟨W.heap.size, 0 + 8, none⟩ = some (.int .i64 x.f4.f0) := (blk_cell RB.out 8).trans rfl; have g9 : wq.cell? ⟨W.heap.size, 0 + 9, none⟩ = some (.int .i64 x.f4.f1) := (blk_cell RB.out 9).trans rfl; have gl : wq.cell? ⟨w.heap.size + 1, 0, none⟩ = some (.int .i64 (sumLo zs k)) := (blk_cell (blk_below CK.out.lo BW.out) 0).trans rfl; have gl' := blk_frozen (blk_below CK.out.lo BW.out) 0; have gh : (wq.setCell ⟨w.heap.size + 1, 0, none⟩ (.int .i64 (wrap64 (sumLo zs k + x.f2.f0)))).cell? ⟨w.heap.size + 1 + 1, 0, none⟩ = some (.int .i64 (sumHi zs k)) := (blk_cell (blk_far (blk_below CK.out.hi BW.out) (p := ⟨w.heap.size + 1, 0, none⟩) (by simp) _) 0).trans rfl; have gh' : (wq.setCell ⟨w.heap.size + 1, 0, none⟩ (.int .i64 (wrap64 (sumLo zs k + x.f2.f0)))).frozen? ⟨w.heap.size + 1 + 1, 0, none⟩ = false := blk_frozen (blk_far (blk_below CK.out.hi BW.out) (p := ⟨w.heap.size + 1, 0, none⟩) (by simp) _) 0; have gr : (wq.setCell ⟨w.heap.size + 1, 0, none⟩ (.int .i64 (wrap64 (sumLo zs k + x.f2.f0)))).cell? ⟨W.heap.size, 5, none⟩ = some (.int .i64 x.f2.f1) := (blk_cell (blk_far RB.out (p := ⟨w.heap.size + 1, 0, none⟩) (by have := HW.out; have := HS.out; simp; omega) _) 5).trans rfl)) | (gi_at_call 91; (with_reducible refine (CallsIn.inRound l (demand_noI F _ h91 hro _ _)).mono ?_); rintro e w' ⟨rfl, rfl⟩) | (gi_at_call 91; (with_reducible refine (CallsIn.inRound l (demand_okI F _ h91 hro _ _)).mono ?_); rintro e w' ⟨rfl, rfl⟩))
                  exact ⟨rfl, BW.out.size, fun j h1 h2 => BW.out.block j (by have := HW.out; have := WS.out; omega), rfl, ringsOk_mono zs (k + 1) _ (by simp [ringsOk, HX.out, HF.out]) HK.out, below_then CK.out.be CK.out.be.size BW.out⟩
                | true =>
                  have HT : Sd (ringB x = true) := ⟨by simp only [ringB, s0, s1, s2, s3, s4, Bool.and_true]⟩
                  gi_wp2_with (first | (gi_at_call 141; go_loud (refine (CallsIn.inRound l (spanI F _ h141 hro _ _ _ _ _)).mono ?_; (first | rw [s0] | rw [s1] | rw [s2] | rw [s3] | rw [s4]); rintro e wq ⟨rfl, hwq⟩; replace RB := Sd.mk (show wq.heap[W.heap.size]? = _ from by subst hwq; exact blk_alloc RB.out _); replace BW := Sd.mk (show Below Wb.heap.size Wb wq from by subst hwq; exact below_alloc BW.out _); clear hwq; have g0 : wq.cell? ⟨W.heap.size, 0, none⟩ = some (.int .i64 x.f0.f0) := (blk_cell RB.out 0).trans rfl; have g1 : wq.cell? ⟨W.heap.size, 0 + 1, none⟩ = some (.int .i64 x.f0.f1) := (blk_cell RB.out 1).trans rfl; have g2 : wq.cell? ⟨W.heap.size, 0 + 2, none⟩ = some (.int .i64 x.f1.f0) := (blk_cell RB.out 2).trans rfl; have g3 : wq.cell? ⟨W.heap.size, 0 + 3, none⟩ = some (.int .i64 x.f1.f1) := (blk_cell RB.out 3).trans rfl; have g4 : wq.cell? ⟨W.heap.size, 0 + 4, none⟩ = some (.int .i64 x.f2.f0) := (blk_cell RB.out 4).trans rfl; have g5 : wq.cell? ⟨W.heap.size, 0 + 5, none⟩ = some (.int .i64 x.f2.f1) := (blk_cell RB.out 5).trans rfl; have g6 : wq.cell? ⟨W.heap.size, 0 + 6, none⟩ = some (.int .i64 x.f3.f0) := (blk_cell RB.out 6).trans rfl; have g7 : wq.cell? ⟨W.heap.size, 0 + 7, none⟩ = some (.int .i64 x.f3.f1) := (blk_cell RB.out 7).trans rfl; have g8 : wq.cell? ⟨W.heap.size, 0 + 8, none⟩ = some (.int .i64 x.f4.f0) := (blk_cell RB.out 8).trans rfl; have g9 : wq.cell? ⟨W.heap.size, 0 + 9, none⟩ = some (.int .i64 x.f4.f1) := (blk_cell RB.out 9).trans rfl; have gl : wq.cell? ⟨w.heap.size + 1, 0, none⟩ = some (.int .i64 (sumLo zs k)) := (blk_cell (blk_below CK.out.lo BW.out) 0).trans rfl; have gl' := blk_frozen (blk_below CK.out.lo BW.out) 0; have gh : (wq.setCell ⟨w.heap.size + 1, 0, none⟩ (.int .i64 (wrap64 (sumLo zs k + x.f2.f0)))).cell? ⟨w.heap.size + 1 + 1, 0, none⟩ = some (.int .i64 (sumHi zs k)) := (blk_cell (blk_far (blk_below CK.out.hi BW.out) (p := ⟨w.heap.size + 1, 0, none⟩) (by simp) _) 0).trans rfl; have gh' : (wq.setCell ⟨w.heap.size + 1, 0, none⟩ (.int .i64 (wrap64 (sumLo zs k + x.f2.f0)))).frozen? ⟨w.heap.size + 1 + 1, 0, none⟩ = false := blk_frozen (blk_far (blk_below CK.out.hi BW.out) (p := ⟨w.heap.size + 1, 0, none⟩) (by simp) _) 0; have gr : (wq.setCell ⟨w.heap.size + 1, 0, none⟩ (.int .i64 (wrap64 (sumLo zs k + x.f2.f0)))).cell? ⟨W.heap.size, 5, none⟩ = some (.int .i64 x.f2.f1) := (blk_cell (blk_far RB.out (p := ⟨w.heap.size + 1, 0, none⟩) (by have := HW.out; have := HS.out; simp; omega) _) 5).trans rfl)) | (gi_at_call 91; (with_reducible refine (CallsIn.inRound l (demand_noI F _ h91 hro _ _)).mono ?_); rintro e w' ⟨rfl, rfl⟩) | (gi_at_call 91; (with_reducible refine (CallsIn.inRound l (demand_okI F _ h91 hro _ _)).mono ?_); rintro e w' ⟨rfl, rfl⟩))
                  have hk := HK.out
                  have hn24 := HN.out
                  have hsb := sum_bounds zs (k + 1) (by simp only [ringsOk, CK.out.ok, HX.out, HT.out, Bool.and_true])
                  have hlo : wrap64 (sumLo zs k + x.f2.f0) = sumLo zs (k + 1) := by simp only [sumLo, sumHi, HX.out] at hsb ⊢; unfold wrap64; omega
                  have hhi : wrap64 (sumHi zs k + x.f2.f1) = sumHi zs (k + 1) := by simp only [sumLo, sumHi, HX.out] at hsb ⊢; unfold wrap64; omega
                  rw [hlo, hhi]
                  refine ⟨by simpa using BW.out.size, fun j h1 h2 => ?_, ?_⟩
                  · refine ((grownBy_setCell' _ (w.heap.size + 1 + 1) _).block j (by simp; have := BW.out.size; have := HW.out; have := WS.out; omega) (by have := HS.out; simp; omega)).trans (((grownBy_setCell' _ (w.heap.size + 1) _).block j (by have := BW.out.size; have := HW.out; have := WS.out; omega) (by have := HS.out; simp; omega)).trans (BW.out.block j (by have := HW.out; have := WS.out; omega)))
                  · exact ⟨by simp only [ringsOk, CK.out.ok, HX.out, HT.out, Bool.and_true], blk_far (blk_far (blk_below CK.out.bx BW.out) (p := ⟨w.heap.size + 1, 0, none⟩) (by simp) _) (p := ⟨w.heap.size + 1 + 1, 0, none⟩) (by simp; omega) _, blk_far (blk_put (blk_below CK.out.lo BW.out) 0 _ rfl) (p := ⟨w.heap.size + 1 + 1, 0, none⟩) (by simp) _, blk_put (blk_far (blk_below CK.out.hi BW.out) (p := ⟨w.heap.size + 1, 0, none⟩) (by simp) _) 0 _ rfl, blk_far (blk_far (blk_below CK.out.rb BW.out) (p := ⟨w.heap.size + 1, 0, none⟩) (by simp; omega) _) (p := ⟨w.heap.size + 1 + 1, 0, none⟩) (by simp) _, below_set (below_set (below_then CK.out.be CK.out.be.size BW.out) (by omega)) (by omega)⟩
      case fn => exact fun _ => hfn
      case done =>
        clear b1 b2 b3 b4 hb
        intro W hI hD
        have HI := Sd.mk hI
        have HD := Sd.mk hD
        have HS := Sd.mk hsz
        clear hI hD hsz
        have g0 : W.cell? ⟨w.heap.size + 1, 0, none⟩ = some (.int .i64 (sumLo zs zs.length)) := (blk_cell HI.out.lo 0).trans rfl
        have g1 : W.cell? ⟨w.heap.size + 1 + 1, 0, none⟩ = some (.int .i64 (sumHi zs zs.length)) := (blk_cell HI.out.hi 0).trans rfl
        have g2 : W.cell? ⟨w.heap.size, 0 + 1, none⟩ = some (.int .i64 f1) := (blk_cell HI.out.bx 1).trans rfl
        have g3 : W.cell? ⟨w.heap.size, 0 + 2, none⟩ = some (.int .i64 f2) := (blk_cell HI.out.bx 2).trans rfl
        have HV1 : Sd (bottleV zs f1 f2 = if sumLo zs zs.length ≤ 1000 ∧ sumHi zs zs.length ≥ 1000 then (if inB f1 1 1000 = true ∧ inB f2 0 1000000000000000 = true then 0 else 1) else 12) := ⟨by rw [HV.out, if_pos HI.out.ok]⟩
        clear HV
        cases s1 : decide (sumLo zs zs.length ≤ 1000) with
        | false =>
          have HE : Sd (bottleV zs f1 f2 = 12) := ⟨by rw [HV1.out, if_neg (fun h => by have h1 := h.1; simp at s1; omega)]⟩
          clear HV1
          gi_wp2_with (first | (gi_at_call 91; (with_reducible refine (demand_noI F _ h91 hro _ _).mono ?_); rintro e w' ⟨rfl, rfl⟩) | (gi_at_call 91; (with_reducible refine (demand_okI F _ h91 hro _ _).mono ?_); rintro e w' ⟨rfl, rfl⟩) | (gi_at_call 92; (with_reducible refine (withinI F _ h92 hro _ _ _ _).mono ?_); (first | rw [s3] | rw [s4]); rintro e w' ⟨rfl, rfl⟩))
          refine ⟨by simp, .inl ⟨_, _, rfl, run_takeDeferred HD.out, ?_⟩⟩
          exact ⟨by rw [HE.out]; rfl, below_putObj HI.out.be (by have := HS.out; omega) (Array.getElem?_eq_some_iff.1 HD.out).1⟩
        | true =>
          cases s2 : decide (sumHi zs zs.length ≥ 1000) with
          | false =>
            have s2' : decide (1000 ≤ sumHi zs zs.length) = false := s2
            have HE : Sd (bottleV zs f1 f2 = 12) := ⟨by rw [HV1.out, if_neg (fun h => by have h1 := h.2; simp at s2; omega)]⟩
            clear HV1
            gi_wp2_with (first | (gi_at_call 91; (with_reducible refine (demand_noI F _ h91 hro _ _).mono ?_); rintro e w' ⟨rfl, rfl⟩) | (gi_at_call 91; (with_reducible refine (demand_okI F _ h91 hro _ _).mono ?_); rintro e w' ⟨rfl, rfl⟩) | (gi_at_call 92; (with_reducible refine (withinI F _ h92 hro _ _ _ _).mono ?_); (first | rw [s3] | rw [s4]); rintro e w' ⟨rfl, rfl⟩))
            refine ⟨by simp, .inl ⟨_, _, rfl, run_takeDeferred HD.out, ?_⟩⟩
            exact ⟨by rw [HE.out]; rfl, below_putObj HI.out.be (by have := HS.out; omega) (Array.getElem?_eq_some_iff.1 HD.out).1⟩
          | true =>
            have s2' : decide (1000 ≤ sumHi zs zs.length) = true := s2
            have HC : Sd (sumLo zs zs.length ≤ 1000 ∧ sumHi zs zs.length ≥ 1000) := ⟨⟨of_decide_eq_true s1, of_decide_eq_true s2⟩⟩
            cases s3 : inB f1 1 1000 with
            | false =>
              have HE : Sd (bottleV zs f1 f2 = 1) := ⟨by rw [HV1.out, if_pos HC.out, if_neg (fun h => by simp [s3] at h)]⟩
              clear HV1
              gi_wp2_with (first | (gi_at_call 91; (with_reducible refine (demand_noI F _ h91 hro _ _).mono ?_); rintro e w' ⟨rfl, rfl⟩) | (gi_at_call 91; (with_reducible refine (demand_okI F _ h91 hro _ _).mono ?_); rintro e w' ⟨rfl, rfl⟩) | (gi_at_call 92; (with_reducible refine (withinI F _ h92 hro _ _ _ _).mono ?_); (first | rw [s3] | rw [s4]); rintro e w' ⟨rfl, rfl⟩))
              refine ⟨by simp, .inl ⟨_, _, rfl, run_takeDeferred HD.out, ?_⟩⟩
              exact ⟨by rw [HE.out]; rfl, below_putObj HI.out.be (by have := HS.out; omega) (Array.getElem?_eq_some_iff.1 HD.out).1⟩
            | true =>
              cases s4 : inB f2 0 1000000000000000 with
              | false =>
                have HE : Sd (bottleV zs f1 f2 = 1) := ⟨by rw [HV1.out, if_pos HC.out, if_neg (fun h => by simp [s4] at h)]⟩
                clear HV1
                gi_wp2_with (first | (gi_at_call 91; (with_reducible refine (demand_noI F _ h91 hro _ _).mono ?_); rintro e w' ⟨rfl, rfl⟩) | (gi_at_call 91; (with_reducible refine (demand_okI F _ h91 hro _ _).mono ?_); rintro e w' ⟨rfl, rfl⟩) | (gi_at_call 92; (with_reducible refine (withinI F _ h92 hro _ _ _ _).mono ?_); (first | rw [s3] | rw [s4]); rintro e w' ⟨rfl, rfl⟩))
                refine ⟨by simp, .inl ⟨_, _, rfl, run_takeDeferred HD.out, ?_⟩⟩
                exact ⟨by rw [HE.out]; rfl, below_putObj HI.out.be (by have := HS.out; omega) (Array.getElem?_eq_some_iff.1 HD.out).1⟩
              | true =>
                have HE : Sd (bottleV zs f1 f2 = 0) := ⟨by rw [HV1.out, if_pos HC.out, if_pos ⟨s3, s4⟩]⟩
                clear HV1
                gi_wp2_with (first | (gi_at_call 91; (with_reducible refine (demand_noI F _ h91 hro _ _).mono ?_); rintro e w' ⟨rfl, rfl⟩) | (gi_at_call 91; (with_reducible refine (demand_okI F _ h91 hro _ _).mono ?_); rintro e w' ⟨rfl, rfl⟩) | (gi_at_call 92; (with_reducible refine (withinI F _ h92 hro _ _ _ _).mono ?_); (first | rw [s3] | rw [s4]); rintro e w' ⟨rfl, rfl⟩))
                refine ⟨by simp, .inl ⟨_, _, rfl, run_takeDeferred HD.out, ?_⟩⟩
                exact ⟨_, results_none rfl _ _ _, by rw [HE.out]; rfl, below_putObj HI.out.be (by have := HS.out; omega) (Array.getElem?_eq_some_iff.1 HD.out).1⟩
      case panic =>
        intro ch W hI hD
        obtain ⟨rfl, h2, h3⟩ := hI
        refine ⟨by simp, .inl ⟨_, _, rfl, run_takeDeferred hD, ?_⟩⟩
        exact ⟨by rw [HV.out, if_neg (by simp [h2])]; rfl, below_putObj h3 (by omega) (Array.getElem?_eq_some_iff.1 hD).1⟩
theorem bottle_calls (A : Option Addr) (c : Nat) (zs : List S170) (f1 f2 : Int) (w : World) (hr : Kd.C k170 w A zs.length zs) :
    Calls Try.prog 140 #[.agg #[.slice A zs.length c, .int .i64 f1, .int .i64 f2]] w fun en w' => en = endF (bottleV zs f1 f2) ∧ Below w.heap.size w w' :=
  (bottle_callsI Fc 9 (by simp [Fc]) (by simp [Fc]) (by simp [Fc]) (by simp [Fc]) (by simp [Fc]) (by simp [Fc]) rfl (fun g hg => by
    rcases hg with rfl | rfl | rfl | rfl | rfl | rfl
    · exact ⟨_, Try.func140⟩
    · exact ⟨_, Try.func91⟩
    · exact ⟨_, Try.func141⟩
    · exact ⟨_, Try.func142⟩
    · exact ⟨_, Try.func159⟩
    · exact ⟨_, Try.func92⟩) (by omega) A c zs f1 f2 w hr).calls (fun k d hd => by cases hd)
end Go.Proofs.Ytkjkokgbhepmoaa.PB

namespace Go.Proofs.Ytkjkokgbhepmoaa.PB
open Go.RowKit Go.Proofs.YtkjkokgbhepmoaaW.PrintWords Go.Proofs.YtkjkokgbhepmoaaW.PrintLast Go.Proofs.YtkjkokgbhepmoaaW.PrintMore
attribute [local go_sem] max2_int min2_int max_two min_two max_three min_three max_four min_four
def strength_down.f (a0 : Int) (a1 : Int) : Option (Int) := if a1 = 0 then (none) else (some (wrap64 (Int.tdiv a0 a1)))
set_option maxHeartbeats 8000000 in
set_option maxRecDepth 100000 in
theorem strength_down.calls (a0 : Int) (a1 : Int) (r : Int) (w : World) (h : strength_down.f a0 a1 = some r) :
  Calls Try.prog 160 #[.int .i64 a0, .int .i64 a1] w fun e w' => e = .returned (.int .i64 r) ∧ Drawn0 w w' := by
 have H : (if a1 = 0 then (none) else (some (wrap64 (Int.tdiv a0 a1)))) = some r := h
 clear h
 by_cases c3 : a1 = 0
 ·rw [if_pos c3] at H
  exact absurd H (by simp)
 ·rw [if_neg c3] at H
  have c3b0 : (a1 == 0) = false := beq_eq_false_iff_ne.mpr c3
  have c3b1 : (a1 != 0) = true := bne_iff_ne.mpr c3
  obtain rfl := Option.some.inj H
  go_enter Try.func160, Try.ntmps160
  go_wp2
  go_ret
  exact ⟨by first | rfl | (simp; done) | (simp [*]; done), by repeat (first | exact Drawn0.refl _ | apply Drawn0.step)⟩
end Go.Proofs.Ytkjkokgbhepmoaa.PB

namespace Go.Proofs.Ytkjkokgbhepmoaa.PB
open Go.RowKit Go.Proofs.YtkjkokgbhepmoaaW.PrintWords Go.Proofs.YtkjkokgbhepmoaaW.PrintLast Go.Proofs.YtkjkokgbhepmoaaW.PrintMore
attribute [local go_sem] max2_int min2_int max_two min_two max_three min_three max_four min_four
def strength_thickness.f (a0_0 : Int) (a0_1 : Int) (a0_2 : Int) (a0_3 : Int) (a0_4 : Int) (a0_5 : Int) (a0_6 : Int) (a0_7 : Int) (a0_8 : Int) (a0_9 : Int) (a1_0 : Int) (a1_1 : Int) : Option (Int × Int) := (strength_down.f (wrap64 ((wrap64 ((wrap64 (200 * a1_0)) * a0_4)) * 113)) (wrap64 ((wrap64 (355 * a0_1)) * a0_3))).bind fun t630 => ((strength_up.f (wrap64 ((wrap64 ((wrap64 (200 * a1_1)) * a0_5)) * 106)) (wrap64 ((wrap64 (333 * a0_0)) * a0_2))).bind fun t631 => (some (t630, t631)))
def strength_thickness.T1 : Bool × List (List Nat × List Nat) := (true, [([], []), ([0], [0]), ([1], [1]), ([], []), ([3], [3]), ([4], [4]), ([2, 5], [2, 5]), ([6], [6]), ([], []), ([8], [8]), ([9], [9]), ([10], [10]), ([], []), ([12], [12]), ([13], [13]), ([11, 14], [11, 14]), ([7, 15], [7, 15]), ([], []), ([17], [17]), ([18], [18]), ([], []), ([20], [20]), ([21], [21]), ([19, 22], [19, 22]), ([23], [23]), ([], []), ([25], [25]), ([26], [26]), ([27], [27]), ([], []), ([29], [29]), ([30], [30]), ([28, 31], [28, 31]), ([24, 32, 16], [24, 32]), ([16, 33], [16, 33]), ([34, 33, 0, 1, 2, 3, 4, 5, 6, 7, 8, 9, 10, 11, 12, 13, 14, 15, 16, 17, 18, 19, 20, 21, 22, 23, 24, 25, 26, 27, 28, 29, 30, 31, 32, 33, 34], [34])])
def strength_thickness.B1 : List Nat := [0, 1, 3, 0, 8, 24, 63, 127, 0, 256, 768, 1792, 0, 4096, 12288, 32512, 65535, 0, 131072, 393216, 0, 1048576, 3145728, 8257536, 16646144, 0, 33554432, 100663296, 234881024, 0, 536870912, 1610612736, 4261412864, 8589934591, 17179869183, 34359738367]
theorem strength_thickness.tab1 : rtab .any (opsOf Try.f143 1) = strength_thickness.T1 := by kernel_rfl
theorem strength_thickness.bits1 : waitsOk strength_thickness.T1.2 strength_thickness.B1 = true := by kernel_rfl
set_option maxHeartbeats 8000000 in
set_option maxRecDepth 100000 in
theorem strength_thickness.calls (a0_0 : Int) (a0_1 : Int) (a0_2 : Int) (a0_3 : Int) (a0_4 : Int) (a0_5 : Int) (a0_6 : Int) (a0_7 : Int) (a0_8 : Int) (a0_9 : Int) (a1_0 : Int) (a1_1 : Int) (r1 : Int) (r2 : Int) (w : World) (h : strength_thickness.f a0_0 a0_1 a0_2 a0_3 a0_4 a0_5 a0_6 a0_7 a0_8 a0_9 a1_0 a1_1 = some (r1, r2)) :
  Calls Try.prog 143 #[.agg #[.int .i64 a0_0, .int .i64 a0_1, .int .i64 a0_2, .int .i64 a0_3, .int .i64 a0_4, .int .i64 a0_5, .int .i64 a0_6, .int .i64 a0_7, .int .i64 a0_8, .int .i64 a0_9], .agg #[.int .i64 a1_0, .int .i64 a1_1]] w fun e w' => e = .returned (.agg #[.int .i64 r1, .int .i64 r2]) ∧ Below w.heap.size w w' := by
 have hu170 := Try.underlying170; have hu27 := Try.underlying27; have HB := Sd.mk (Below.refl w.heap.size w)
 have H : ((strength_down.f (wrap64 ((wrap64 ((wrap64 (200 * a1_0)) * a0_4)) * 113)) (wrap64 ((wrap64 (355 * a0_1)) * a0_3))).bind fun t630 => ((strength_up.f (wrap64 ((wrap64 ((wrap64 (200 * a1_1)) * a0_5)) * 106)) (wrap64 ((wrap64 (333 * a0_0)) * a0_2))).bind fun t631 => (some (t630, t631)))) = some (r1, r2) := h
 clear h; replace H := Option.bind_eq_some_iff.mp H; obtain ⟨t630, A30, H⟩ := H
 try dsimp only at H
 have A3 := Sd.mk A30; clear A30; replace H := Option.bind_eq_some_iff.mp H; obtain ⟨t631, A40, H⟩ := H
 try dsimp only at H
 have A4 := Sd.mk A40; clear A40
 simp only [Option.some.injEq, Prod.mk.injEq] at H
 obtain ⟨rfl, rfl⟩ := H
 go_enter Try.func143, Try.ntmps143
 try go_wp2_with (first | ((with_reducible refine gate_dst (N := 2) rfl ?_); refine box_event ?hg (N := 2) ?hd (cs := #[.int .i64 a0_0, .int .i64 a0_1, .int .i64 a0_2, .int .i64 a0_3, .int .i64 a0_4, .int .i64 a0_5, .int .i64 a0_6, .int .i64 a0_7, .int .i64 a0_8, .int .i64 a0_9]) (t := 170) ?hr ?_; (case hd => rfl); (case hg => rfl); (case hr => exact tG); intro gb627 hg w5 hbox hb; have BK627 := Sd.mk (hbox); have GW627 := Sd.mk (bSz hg (bBl HB.out)); have GE627 := Sd.mk (bSz hg (bBl HB.out)); replace HB := Sd.mk (below_step (bBl HB.out) hb); clear hb hbox hg) | ((with_reducible refine gate_dst (N := 3) rfl ?_); refine box_event ?hg (N := 3) ?hd (cs := #[.int .i64 a1_0, .int .i64 a1_1]) (t := 27) ?hr ?_; (case hd => rfl); (case hg => rfl); (case hr => exact tG); intro gb628 hg w6 hbox hb; have BK628 := Sd.mk (hbox); have GW628 := Sd.mk (bSz hg (bBl HB.out)); have GE628 := Sd.mk (bSz hg (bBl HB.out)); replace HB := Sd.mk (below_step (bBl HB.out) hb); have NB627_628 := Sd.mk (bNl hg (bkA BK627.out)); have NB628_627 := Sd.mk (bNg hg (bkA BK627.out)); replace BK627 := Sd.mk (blk_below (bkA BK627.out) hb); clear hb hbox hg) | ((with_reducible refine gate_dst (N := 4) rfl ?_); refine box_event ?hg (N := 4) ?hd (cs := #[.int .i64 0, .int .i64 0]) (t := 27) ?hr ?_; (case hd => rfl); (case hg => rfl); (case hr => exact tG); intro gb629 hg w7 hbox hb; have BK629 := Sd.mk (hbox); have GW629 := Sd.mk (bSz hg (bBl HB.out)); have GE629 := Sd.mk (bSz hg (bBl HB.out)); replace HB := Sd.mk (below_step (bBl HB.out) hb); have NB627_629 := Sd.mk (bNl hg (bkA BK627.out)); have NB629_627 := Sd.mk (bNg hg (bkA BK627.out)); replace BK627 := Sd.mk (blk_below (bkA BK627.out) hb); have NB628_629 := Sd.mk (bNl hg (bkA BK628.out)); have NB629_628 := Sd.mk (bNg hg (bkA BK628.out)); replace BK628 := Sd.mk (blk_below (bkA BK628.out) hb); clear hb hbox hg))
 replace BK627 := Sd.mk (blk_drew BK627.out); replace BK628 := Sd.mk (blk_drew BK628.out); replace BK629 := Sd.mk (blk_drew BK629.out); replace HB := Sd.mk (below_drew1 HB.out)
 refine start_ (n := 36) (S := fun w' => w'.cell? ⟨gb628, 0, none⟩ = some (.int .i64 a1_0) ∧ w'.cell? ⟨gb628, 1, none⟩ = some (.int .i64 a1_1) ∧ w'.cell? ⟨gb627, 0, none⟩ = some (.int .i64 a0_0) ∧ w'.cell? ⟨gb627, 1, none⟩ = some (.int .i64 a0_1) ∧ w'.cell? ⟨gb627, 2, none⟩ = some (.int .i64 a0_2) ∧ w'.cell? ⟨gb627, 3, none⟩ = some (.int .i64 a0_3) ∧ w'.cell? ⟨gb627, 4, none⟩ = some (.int .i64 a0_4) ∧ w'.cell? ⟨gb627, 5, none⟩ = some (.int .i64 a0_5) ∧ w'.cell? ⟨gb627, 6, none⟩ = some (.int .i64 a0_6) ∧ w'.cell? ⟨gb627, 7, none⟩ = some (.int .i64 a0_7) ∧ w'.cell? ⟨gb627, 8, none⟩ = some (.int .i64 a0_8) ∧ w'.cell? ⟨gb627, 9, none⟩ = some (.int .i64 a0_9)) (ds := []) #[false, false, false, false, false, false, false, false, false, false, false, false, false, false, false, false, false, false, false, false, false, false, false, false, false, false, false, false, false, false, false, false, false, false, false, false] (by kernel_rfl) rfl rfl ⟨(blk_cell BK628.out 0).trans rfl, (blk_cell BK628.out 1).trans rfl, (blk_cell BK627.out 0).trans rfl, (blk_cell BK627.out 1).trans rfl, (blk_cell BK627.out 2).trans rfl, (blk_cell BK627.out 3).trans rfl, (blk_cell BK627.out 4).trans rfl, (blk_cell BK627.out 5).trans rfl, (blk_cell BK627.out 6).trans rfl, (blk_cell BK627.out 7).trans rfl, (blk_cell BK627.out 8).trans rfl, (blk_cell BK627.out 9).trans rfl⟩ (fun hHeld => ?_); refine with_tabW strength_thickness.tab1 strength_thickness.bits1 (fun HT_ HW_ => ?_)
 generalize w7.drew = w8 at BK627 BK628 BK629 HB hHeld ⊢
 refine pure_ (i := 0) (N := some 5) (v := ?_) (a' := ?_) #[true, false, false, false, false, false, false, false, false, false, false, false, false, false, false, false, false, false, false, false, false, false, false, false, false, false, false, false, false, false, false, false, false, false, false, false] rfl rfl (any_of HT_.out (by kernel_rfl)) (fun _ _ _ h => h) (Or.inl ⟨by rfl, ?_⟩) ?_ ?_
 rotate_left
 ·exact tW
 rotate_left
 ·exact tP
 refine pure_ (i := 3) (N := some 8) (v := ?_) (a' := ?_) #[true, false, false, true, false, false, false, false, false, false, false, false, false, false, false, false, false, false, false, false, false, false, false, false, false, false, false, false, false, false, false, false, false, false, false, false] rfl rfl (any_of HT_.out (by kernel_rfl)) (fun _ _ _ h => h) (Or.inl ⟨by rfl, ?_⟩) ?_ ?_
 rotate_left
 ·exact tW
 rotate_left
 ·exact tP
 refine pure_ (i := 4) (N := some 9) (v := ?_) (a' := ?_) #[true, false, false, true, true, false, false, false, false, false, false, false, false, false, false, false, false, false, false, false, false, false, false, false, false, false, false, false, false, false, false, false, false, false, false, false] rfl rfl (any_of HT_.out (by kernel_rfl)) (fun _ _ _ h => h) (Or.inl ⟨by rfl, ?_⟩) ?_ ?_
 rotate_left
 ·exact tW
 rotate_left
 ·exact tP
 refine pure_ (i := 8) (N := some 13) (v := ?_) (a' := ?_) #[true, false, false, true, true, false, false, false, true, false, false, false, false, false, false, false, false, false, false, false, false, false, false, false, false, false, false, false, false, false, false, false, false, false, false, false] rfl rfl (any_of HT_.out (by kernel_rfl)) (fun _ _ _ h => h) (Or.inl ⟨by rfl, ?_⟩) ?_ ?_
 rotate_left
 ·exact tW
 rotate_left
 ·exact tP
 refine pure_ (i := 9) (N := some 14) (v := ?_) (a' := ?_) #[true, false, false, true, true, false, false, false, true, true, false, false, false, false, false, false, false, false, false, false, false, false, false, false, false, false, false, false, false, false, false, false, false, false, false, false] rfl rfl (any_of HT_.out (by kernel_rfl)) (fun _ _ _ h => h) (Or.inl ⟨by rfl, ?_⟩) ?_ ?_
 rotate_left
 ·exact tW
 rotate_left
 ·exact tP
 refine pure_ (i := 12) (N := some 17) (v := ?_) (a' := ?_) #[true, false, false, true, true, false, false, false, true, true, false, false, true, false, false, false, false, false, false, false, false, false, false, false, false, false, false, false, false, false, false, false, false, false, false, false] rfl rfl (any_of HT_.out (by kernel_rfl)) (fun _ _ _ h => h) (Or.inl ⟨by rfl, ?_⟩) ?_ ?_
 rotate_left
 ·exact tW
 rotate_left
 ·exact tP
 refine pure_ (i := 13) (N := some 18) (v := ?_) (a' := ?_) #[true, false, false, true, true, false, false, false, true, true, false, false, true, true, false, false, false, false, false, false, false, false, false, false, false, false, false, false, false, false, false, false, false, false, false, false] rfl rfl (any_of HT_.out (by kernel_rfl)) (fun _ _ _ h => h) (Or.inl ⟨by rfl, ?_⟩) ?_ ?_
 rotate_left
 ·exact tW
 rotate_left
 ·exact tP
 refine pure_ (i := 17) (N := some 22) (v := ?_) (a' := ?_) #[true, false, false, true, true, false, false, false, true, true, false, false, true, true, false, false, false, true, false, false, false, false, false, false, false, false, false, false, false, false, false, false, false, false, false, false] rfl rfl (any_of HT_.out (by kernel_rfl)) (fun _ _ _ h => h) (Or.inl ⟨by rfl, ?_⟩) ?_ ?_
 rotate_left
 ·exact tW
 rotate_left
 ·exact tP
 refine pure_ (i := 20) (N := some 25) (v := ?_) (a' := ?_) #[true, false, false, true, true, false, false, false, true, true, false, false, true, true, false, false, false, true, false, false, true, false, false, false, false, false, false, false, false, false, false, false, false, false, false, false] rfl rfl (any_of HT_.out (by kernel_rfl)) (fun _ _ _ h => h) (Or.inl ⟨by rfl, ?_⟩) ?_ ?_
 rotate_left
 ·exact tW
 rotate_left
 ·exact tP
 refine pure_ (i := 21) (N := some 26) (v := ?_) (a' := ?_) #[true, false, false, true, true, false, false, false, true, true, false, false, true, true, false, false, false, true, false, false, true, true, false, false, false, false, false, false, false, false, false, false, false, false, false, false] rfl rfl (any_of HT_.out (by kernel_rfl)) (fun _ _ _ h => h) (Or.inl ⟨by rfl, ?_⟩) ?_ ?_
 rotate_left
 ·exact tW
 rotate_left
 ·exact tP
 refine pure_ (i := 25) (N := some 30) (v := ?_) (a' := ?_) #[true, false, false, true, true, false, false, false, true, true, false, false, true, true, false, false, false, true, false, false, true, true, false, false, false, true, false, false, false, false, false, false, false, false, false, false] rfl rfl (any_of HT_.out (by kernel_rfl)) (fun _ _ _ h => h) (Or.inl ⟨by rfl, ?_⟩) ?_ ?_
 rotate_left
 ·exact tW
 rotate_left
 ·exact tP
 refine pure_ (i := 26) (N := some 31) (v := ?_) (a' := ?_) #[true, false, false, true, true, false, false, false, true, true, false, false, true, true, false, false, false, true, false, false, true, true, false, false, false, true, true, false, false, false, false, false, false, false, false, false] rfl rfl (any_of HT_.out (by kernel_rfl)) (fun _ _ _ h => h) (Or.inl ⟨by rfl, ?_⟩) ?_ ?_
 rotate_left
 ·exact tW
 rotate_left
 ·exact tP
 refine pure_ (i := 29) (N := some 34) (v := ?_) (a' := ?_) #[true, false, false, true, true, false, false, false, true, true, false, false, true, true, false, false, false, true, false, false, true, true, false, false, false, true, true, false, false, true, false, false, false, false, false, false] rfl rfl (any_of HT_.out (by kernel_rfl)) (fun _ _ _ h => h) (Or.inl ⟨by rfl, ?_⟩) ?_ ?_
 rotate_left
 ·exact tW
 rotate_left
 ·exact tP
 refine pure_ (i := 30) (N := some 35) (v := ?_) (a' := ?_) #[true, false, false, true, true, false, false, false, true, true, false, false, true, true, false, false, false, true, false, false, true, true, false, false, false, true, true, false, false, true, true, false, false, false, false, false] rfl rfl (any_of HT_.out (by kernel_rfl)) (fun _ _ _ h => h) (Or.inl ⟨by rfl, ?_⟩) ?_ ?_
 rotate_left
 ·exact tW
 rotate_left
 ·exact tP
 refine take_ (i := 1) (N := some 6) (v := ?_) (a' := ?_) #[true, true, false, true, true, false, false, false, true, true, false, false, true, true, false, false, false, true, false, false, true, true, false, false, false, true, true, false, false, true, true, false, false, false, false, false] rfl rfl (take_ofW HT_.out HW_.out (by kernel_rfl)) (fun _ _ _ h => h) (Or.inl ⟨by rfl, ?_⟩) hHeld ?_ ?_
 rotate_left
 ·rintro w' ⟨s0, s1, s2, s3, s4, s5, s6, s7, s8, s9, s10, s11⟩
  go_simp
  with_reducible rfl
 rotate_left
 ·exact tP
 refine pure_ (i := 2) (N := some 7) (v := ?_) (a' := ?_) #[true, true, true, true, true, false, false, false, true, true, false, false, true, true, false, false, false, true, false, false, true, true, false, false, false, true, true, false, false, true, true, false, false, false, false, false] rfl rfl (any_of HT_.out (by kernel_rfl)) (fun _ _ _ h => h) (Or.inl ⟨by rfl, ?_⟩) ?_ ?_
 rotate_left
 ·exact tW
 rotate_left
 ·exact tP
 refine take_ (i := 5) (N := some 10) (v := ?_) (a' := ?_) #[true, true, true, true, true, true, false, false, true, true, false, false, true, true, false, false, false, true, false, false, true, true, false, false, false, true, true, false, false, true, true, false, false, false, false, false] rfl rfl (take_ofW HT_.out HW_.out (by kernel_rfl)) (fun _ _ _ h => h) (Or.inl ⟨by rfl, ?_⟩) hHeld ?_ ?_
 rotate_left
 ·rintro w' ⟨s0, s1, s2, s3, s4, s5, s6, s7, s8, s9, s10, s11⟩
  go_simp
  with_reducible rfl
 rotate_left
 ·exact tP
 refine pure_ (i := 6) (N := some 11) (v := ?_) (a' := ?_) #[true, true, true, true, true, true, true, false, true, true, false, false, true, true, false, false, false, true, false, false, true, true, false, false, false, true, true, false, false, true, true, false, false, false, false, false] rfl rfl (any_of HT_.out (by kernel_rfl)) (fun _ _ _ h => h) (Or.inl ⟨by rfl, ?_⟩) ?_ ?_
 rotate_left
 ·exact tW
 rotate_left
 ·exact tP
 refine pure_ (i := 7) (N := some 12) (v := ?_) (a' := ?_) #[true, true, true, true, true, true, true, true, true, true, false, false, true, true, false, false, false, true, false, false, true, true, false, false, false, true, true, false, false, true, true, false, false, false, false, false] rfl rfl (any_of HT_.out (by kernel_rfl)) (fun _ _ _ h => h) (Or.inl ⟨by rfl, ?_⟩) ?_ ?_
 rotate_left
 ·exact tW
 rotate_left
 ·exact tP
 refine take_ (i := 10) (N := some 15) (v := ?_) (a' := ?_) #[true, true, true, true, true, true, true, true, true, true, true, false, true, true, false, false, false, true, false, false, true, true, false, false, false, true, true, false, false, true, true, false, false, false, false, false] rfl rfl (take_ofW HT_.out HW_.out (by kernel_rfl)) (fun _ _ _ h => h) (Or.inl ⟨by rfl, ?_⟩) hHeld ?_ ?_
 rotate_left
 ·rintro w' ⟨s0, s1, s2, s3, s4, s5, s6, s7, s8, s9, s10, s11⟩
  go_simp
  with_reducible rfl
 rotate_left
 ·exact tP
 refine pure_ (i := 11) (N := some 16) (v := ?_) (a' := ?_) #[true, true, true, true, true, true, true, true, true, true, true, true, true, true, false, false, false, true, false, false, true, true, false, false, false, true, true, false, false, true, true, false, false, false, false, false] rfl rfl (any_of HT_.out (by kernel_rfl)) (fun _ _ _ h => h) (Or.inl ⟨by rfl, ?_⟩) ?_ ?_
 rotate_left
 ·exact tW
 rotate_left
 ·exact tP
 refine take_ (i := 14) (N := some 19) (v := ?_) (a' := ?_) #[true, true, true, true, true, true, true, true, true, true, true, true, true, true, true, false, false, true, false, false, true, true, false, false, false, true, true, false, false, true, true, false, false, false, false, false] rfl rfl (take_ofW HT_.out HW_.out (by kernel_rfl)) (fun _ _ _ h => h) (Or.inl ⟨by rfl, ?_⟩) hHeld ?_ ?_
 rotate_left
 ·rintro w' ⟨s0, s1, s2, s3, s4, s5, s6, s7, s8, s9, s10, s11⟩
  go_simp
  with_reducible rfl
 rotate_left
 ·exact tP
 refine pure_ (i := 15) (N := some 20) (v := ?_) (a' := ?_) #[true, true, true, true, true, true, true, true, true, true, true, true, true, true, true, true, false, true, false, false, true, true, false, false, false, true, true, false, false, true, true, false, false, false, false, false] rfl rfl (any_of HT_.out (by kernel_rfl)) (fun _ _ _ h => h) (Or.inl ⟨by rfl, ?_⟩) ?_ ?_
 rotate_left
 ·exact tW
 rotate_left
 ·exact tP
 refine take_ (i := 18) (N := some 23) (v := ?_) (a' := ?_) #[true, true, true, true, true, true, true, true, true, true, true, true, true, true, true, true, false, true, true, false, true, true, false, false, false, true, true, false, false, true, true, false, false, false, false, false] rfl rfl (take_ofW HT_.out HW_.out (by kernel_rfl)) (fun _ _ _ h => h) (Or.inl ⟨by rfl, ?_⟩) hHeld ?_ ?_
 rotate_left
 ·rintro w' ⟨s0, s1, s2, s3, s4, s5, s6, s7, s8, s9, s10, s11⟩
  go_simp
  with_reducible rfl
 rotate_left
 ·exact tP
 refine pure_ (i := 19) (N := some 24) (v := ?_) (a' := ?_) #[true, true, true, true, true, true, true, true, true, true, true, true, true, true, true, true, false, true, true, true, true, true, false, false, false, true, true, false, false, true, true, false, false, false, false, false] rfl rfl (any_of HT_.out (by kernel_rfl)) (fun _ _ _ h => h) (Or.inl ⟨by rfl, ?_⟩) ?_ ?_
 rotate_left
 ·exact tW
 rotate_left
 ·exact tP
 refine take_ (i := 22) (N := some 27) (v := ?_) (a' := ?_) #[true, true, true, true, true, true, true, true, true, true, true, true, true, true, true, true, false, true, true, true, true, true, true, false, false, true, true, false, false, true, true, false, false, false, false, false] rfl rfl (take_ofW HT_.out HW_.out (by kernel_rfl)) (fun _ _ _ h => h) (Or.inl ⟨by rfl, ?_⟩) hHeld ?_ ?_
 rotate_left
 ·rintro w' ⟨s0, s1, s2, s3, s4, s5, s6, s7, s8, s9, s10, s11⟩
  go_simp
  with_reducible rfl
 rotate_left
 ·exact tP
 refine pure_ (i := 23) (N := some 28) (v := ?_) (a' := ?_) #[true, true, true, true, true, true, true, true, true, true, true, true, true, true, true, true, false, true, true, true, true, true, true, true, false, true, true, false, false, true, true, false, false, false, false, false] rfl rfl (any_of HT_.out (by kernel_rfl)) (fun _ _ _ h => h) (Or.inl ⟨by rfl, ?_⟩) ?_ ?_
 rotate_left
 ·exact tW
 rotate_left
 ·exact tP
 refine pure_ (i := 24) (N := some 29) (v := ?_) (a' := ?_) #[true, true, true, true, true, true, true, true, true, true, true, true, true, true, true, true, false, true, true, true, true, true, true, true, true, true, true, false, false, true, true, false, false, false, false, false] rfl rfl (any_of HT_.out (by kernel_rfl)) (fun _ _ _ h => h) (Or.inl ⟨by rfl, ?_⟩) ?_ ?_
 rotate_left
 ·exact tW
 rotate_left
 ·exact tP
 refine take_ (i := 27) (N := some 32) (v := ?_) (a' := ?_) #[true, true, true, true, true, true, true, true, true, true, true, true, true, true, true, true, false, true, true, true, true, true, true, true, true, true, true, true, false, true, true, false, false, false, false, false] rfl rfl (take_ofW HT_.out HW_.out (by kernel_rfl)) (fun _ _ _ h => h) (Or.inl ⟨by rfl, ?_⟩) hHeld ?_ ?_
 rotate_left
 ·rintro w' ⟨s0, s1, s2, s3, s4, s5, s6, s7, s8, s9, s10, s11⟩
  go_simp
  with_reducible rfl
 rotate_left
 ·exact tP
 refine pure_ (i := 28) (N := some 33) (v := ?_) (a' := ?_) #[true, true, true, true, true, true, true, true, true, true, true, true, true, true, true, true, false, true, true, true, true, true, true, true, true, true, true, true, true, true, true, false, false, false, false, false] rfl rfl (any_of HT_.out (by kernel_rfl)) (fun _ _ _ h => h) (Or.inl ⟨by rfl, ?_⟩) ?_ ?_
 rotate_left
 ·exact tW
 rotate_left
 ·exact tP
 refine take_ (i := 31) (N := some 36) (v := ?_) (a' := ?_) #[true, true, true, true, true, true, true, true, true, true, true, true, true, true, true, true, false, true, true, true, true, true, true, true, true, true, true, true, true, true, true, true, false, false, false, false] rfl rfl (take_ofW HT_.out HW_.out (by kernel_rfl)) (fun _ _ _ h => h) (Or.inl ⟨by rfl, ?_⟩) hHeld ?_ ?_
 rotate_left
 ·rintro w' ⟨s0, s1, s2, s3, s4, s5, s6, s7, s8, s9, s10, s11⟩
  go_simp
  with_reducible rfl
 rotate_left
 ·exact tP
 refine pure_ (i := 32) (N := some 37) (v := ?_) (a' := ?_) #[true, true, true, true, true, true, true, true, true, true, true, true, true, true, true, true, false, true, true, true, true, true, true, true, true, true, true, true, true, true, true, true, true, false, false, false] rfl rfl (any_of HT_.out (by kernel_rfl)) (fun _ _ _ h => h) (Or.inl ⟨by rfl, ?_⟩) ?_ ?_
 rotate_left
 ·exact tW
 rotate_left
 ·exact tP
 refine one_ (i := 16) (N := some 21) #[true, true, true, true, true, true, true, true, true, true, true, true, true, true, true, true, true, true, true, true, true, true, true, true, true, true, true, true, true, true, true, true, true, false, false, false] rfl rfl (one_of HT_.out (by kernel_rfl)) (by decide) (fun K hK => ?_)
 refine goes_ Try.func160 (by kernel_rfl) rfl #[.int .i64 (wrap64 ((wrap64 ((wrap64 (200 * a1_0)) * a0_4)) * 113)), .int .i64 (wrap64 ((wrap64 (355 * a0_1)) * a0_3))] (by rfl) rfl rfl tM ?_
 with_reducible refine (strength_down.calls (wrap64 ((wrap64 ((wrap64 (200 * a1_0)) * a0_4)) * 113)) (wrap64 ((wrap64 (355 * a0_1)) * a0_3)) t630 _ A3.out).mono ?_
 rintro e w' ⟨rfl, ⟨nd, rfl⟩⟩
 refine ⟨_, rfl, ?_⟩
 refine hK.out _ _ ⟨(blk_cell BK628.out 0).trans rfl, (blk_cell BK628.out 1).trans rfl, (blk_cell BK627.out 0).trans rfl, (blk_cell BK627.out 1).trans rfl, (blk_cell BK627.out 2).trans rfl, (blk_cell BK627.out 3).trans rfl, (blk_cell BK627.out 4).trans rfl, (blk_cell BK627.out 5).trans rfl, (blk_cell BK627.out 6).trans rfl, (blk_cell BK627.out 7).trans rfl, (blk_cell BK627.out 8).trans rfl, (blk_cell BK627.out 9).trans rfl⟩ (fun hHeld => ?_)
 clear hK K
 refine norm_ (a' := ?_) ?_ ?_
 rotate_left
 ·show Act.put _ (some 21) _ = _
  exact tP
 refine one_ (i := 33) (N := some 38) #[true, true, true, true, true, true, true, true, true, true, true, true, true, true, true, true, true, true, true, true, true, true, true, true, true, true, true, true, true, true, true, true, true, true, false, false] rfl rfl (one_of HT_.out (by kernel_rfl)) (by decide) (fun K hK => ?_)
 refine goes_ Try.func145 (by kernel_rfl) rfl #[.int .i64 (wrap64 ((wrap64 ((wrap64 (200 * a1_1)) * a0_5)) * 106)), .int .i64 (wrap64 ((wrap64 (333 * a0_0)) * a0_2))] (by rfl) rfl rfl tM ?_
 with_reducible refine (strength_up.calls (wrap64 ((wrap64 ((wrap64 (200 * a1_1)) * a0_5)) * 106)) (wrap64 ((wrap64 (333 * a0_0)) * a0_2)) t631 _ A4.out).mono ?_
 rintro e w' ⟨rfl, ⟨nd, rfl⟩⟩
 refine ⟨_, rfl, ?_⟩
 refine hK.out _ _ ⟨(blk_cell BK628.out 0).trans rfl, (blk_cell BK628.out 1).trans rfl, (blk_cell BK627.out 0).trans rfl, (blk_cell BK627.out 1).trans rfl, (blk_cell BK627.out 2).trans rfl, (blk_cell BK627.out 3).trans rfl, (blk_cell BK627.out 4).trans rfl, (blk_cell BK627.out 5).trans rfl, (blk_cell BK627.out 6).trans rfl, (blk_cell BK627.out 7).trans rfl, (blk_cell BK627.out 8).trans rfl, (blk_cell BK627.out 9).trans rfl⟩ (fun hHeld => ?_)
 clear hK K
 refine norm_ (a' := ?_) ?_ ?_
 rotate_left
 ·show Act.put _ (some 38) _ = _
  exact tP
 refine pure_ (i := 34) (N := some 39) (v := ?_) (a' := ?_) #[true, true, true, true, true, true, true, true, true, true, true, true, true, true, true, true, true, true, true, true, true, true, true, true, true, true, true, true, true, true, true, true, true, true, true, false] rfl rfl (any_of HT_.out (by kernel_rfl)) (fun _ _ _ h => h) (Or.inl ⟨by rfl, ?_⟩) ?_ ?_
 rotate_left
 ·exact tW
 rotate_left
 ·exact tP
 refine one_ (i := 35) (N := none) #[true, true, true, true, true, true, true, true, true, true, true, true, true, true, true, true, true, true, true, true, true, true, true, true, true, true, true, true, true, true, true, true, true, true, true, true] rfl rfl (one_of HT_.out (by kernel_rfl)) (by decide) (fun K hK => ?_)
 have hs9 : w8.cell? ⟨gb629, 0, none⟩ = some (.int .i64 0) := (blk_cell BK629.out 0).trans rfl
 have hfs9 := blk_frozen BK629.out 0; have hns9_0 := NB627_629.out; have hns9_1 := NB628_629.out; have hms9_0 := NB629_627.out; have hms9_1 := NB629_628.out
 have hs10 : w8.cell? ⟨gb629, 1, none⟩ = some (.int .i64 0) := (blk_cell BK629.out 1).trans rfl
 have hfs10 := blk_frozen BK629.out 1; have hns10_0 := NB627_629.out; have hns10_1 := NB628_629.out; have hms10_0 := NB629_627.out; have hms10_1 := NB629_628.out
 refine skip_ (w1 := ?_) (by rfl) rfl ?_ ?_
 rotate_left
 ·go_simp
  rfl
 refine hK.out _ _ ⟨((cell_far (p := ⟨gb629, _, none⟩) NB628_629.out _).trans (((cell_far (p := ⟨gb629, _, none⟩) NB628_629.out _).trans (hHeld.1)))), ((cell_far (p := ⟨gb629, _, none⟩) NB628_629.out _).trans (((cell_far (p := ⟨gb629, _, none⟩) NB628_629.out _).trans (hHeld.2.1)))), ((cell_far (p := ⟨gb629, _, none⟩) NB627_629.out _).trans (((cell_far (p := ⟨gb629, _, none⟩) NB627_629.out _).trans (hHeld.2.2.1)))), ((cell_far (p := ⟨gb629, _, none⟩) NB627_629.out _).trans (((cell_far (p := ⟨gb629, _, none⟩) NB627_629.out _).trans (hHeld.2.2.2.1)))), ((cell_far (p := ⟨gb629, _, none⟩) NB627_629.out _).trans (((cell_far (p := ⟨gb629, _, none⟩) NB627_629.out _).trans (hHeld.2.2.2.2.1)))), ((cell_far (p := ⟨gb629, _, none⟩) NB627_629.out _).trans (((cell_far (p := ⟨gb629, _, none⟩) NB627_629.out _).trans (hHeld.2.2.2.2.2.1)))), ((cell_far (p := ⟨gb629, _, none⟩) NB627_629.out _).trans (((cell_far (p := ⟨gb629, _, none⟩) NB627_629.out _).trans (hHeld.2.2.2.2.2.2.1)))), ((cell_far (p := ⟨gb629, _, none⟩) NB627_629.out _).trans (((cell_far (p := ⟨gb629, _, none⟩) NB627_629.out _).trans (hHeld.2.2.2.2.2.2.2.1)))), ((cell_far (p := ⟨gb629, _, none⟩) NB627_629.out _).trans (((cell_far (p := ⟨gb629, _, none⟩) NB627_629.out _).trans (hHeld.2.2.2.2.2.2.2.2.1)))), ((cell_far (p := ⟨gb629, _, none⟩) NB627_629.out _).trans (((cell_far (p := ⟨gb629, _, none⟩) NB627_629.out _).trans (hHeld.2.2.2.2.2.2.2.2.2.1)))), ((cell_far (p := ⟨gb629, _, none⟩) NB627_629.out _).trans (((cell_far (p := ⟨gb629, _, none⟩) NB627_629.out _).trans (hHeld.2.2.2.2.2.2.2.2.2.2.1)))), ((cell_far (p := ⟨gb629, _, none⟩) NB627_629.out _).trans (((cell_far (p := ⟨gb629, _, none⟩) NB627_629.out _).trans (hHeld.2.2.2.2.2.2.2.2.2.2.2))))⟩ (fun hHeld => ?_)
 clear hK K
 refine done_ (done_of HT_.out (by kernel_rfl)) ?_
 try go_wp2
 refine bodyPost_ret (results_cell_row rfl _ _ gb629 27 #[.int .i64 t630, .int .i64 t631] (0, 0) _ rfl (by (with_reducible repeat (first | refine blk_drewN ?_ _ | refine blk_drew ?_ | refine blk_alloc ?_ _)); refine blk_put (cs := #[.int .i64 t630, .int .i64 0]) ?_ 1 _ rfl; (with_reducible repeat (first | refine blk_drewN ?_ _ | refine blk_drew ?_ | refine blk_alloc ?_ _)); refine blk_put (cs := #[.int .i64 0, .int .i64 0]) ?_ 0 _ rfl; (with_reducible repeat (first | refine blk_drewN ?_ _ | refine blk_drew ?_ | refine blk_alloc ?_ _)); exact BK629.out) Try.underlying27 rfl (by kernel_rfl)) rfl ?_
 exact ⟨tE, bBl HB.out⟩
end Go.Proofs.Ytkjkokgbhepmoaa.PB

namespace Go.Proofs.Ytkjkokgbhepmoaa.PB
open Go.RowKit Go.Shelf Go.Proofs.YtkjkokgbhepmoaaW.PrintWords Go.Proofs.YtkjkokgbhepmoaaW.PrintLast Go.Proofs.YtkjkokgbhepmoaaW.PrintMore
attribute [local go_sem] Oper.semAt_some
def thick1 (x : S170) (lo hi : Int) : Option (Int × Int) := strength_thickness.f x.f0.f0 x.f0.f1 x.f1.f0 x.f1.f1 x.f2.f0 x.f2.f1 x.f3.f0 x.f3.f1 x.f4.f0 x.f4.f1 lo hi
def thickL (zs : List S170) (lo hi : Int) : Nat → Option (List S27)
  | 0 => some []
  | k + 1 => (thickL zs lo hi k).bind fun l => (thick1 (rd_T170 zs (k : Int)) lo hi).bind fun p => some (l ++ [⟨p.1, p.2⟩])
theorem thickL_some (zs : List S170) (lo hi : Int) : ∀ (n : Nat) (l : List S27), thickL zs lo hi n = some l → ∀ k, k < n → ∃ p, thick1 (rd_T170 zs (k : Int)) lo hi = some p
  | 0, l, h, k, hk => by omega
  | n + 1, l, h, k, hk => by
    simp only [thickL] at h
    obtain ⟨l', h1, h2⟩ := Option.bind_eq_some_iff.mp h
    obtain ⟨p, h3, _⟩ := Option.bind_eq_some_iff.mp h2
    by_cases e : k = n
    · subst e; exact ⟨p, h3⟩
    · exact thickL_some zs lo hi n l' h1 k (by omega)
theorem thickL_len (zs : List S170) (lo hi : Int) : ∀ (n : Nat) (l : List S27), thickL zs lo hi n = some l → l.length = n
  | 0, l, h => by simp [thickL] at h; subst h; rfl
  | n + 1, l, h => by
    simp only [thickL] at h
    obtain ⟨l', h1, h2⟩ := Option.bind_eq_some_iff.mp h
    obtain ⟨p, h3, h4⟩ := Option.bind_eq_some_iff.mp h2
    obtain rfl := Option.some.inj h4
    simp [thickL_len zs lo hi n l' h1]
def x_Thickness.f (l0_0 : List S170) (a0_1 a0_2 a1_0 a1_1 : Int) : Option (List S27 × Int) :=
  if bottleV l0_0 a0_1 a0_2 = 0 then (if spanB a1_0 a1_1 1 100000 = true then (thickL l0_0 a1_0 a1_1 l0_0.length).bind fun l => some (l, 0) else some ([], 1)) else some ([], bottleV l0_0 a0_1 a0_2)
theorem callsDIn_wide_of_wpS {P : Program} {n : Nat} {f : FuncId} {fn : Func} {c : Code} {args : Array Value} {u : FrameMode} {w : World} {R : Ending → FrameMode → World → Prop}
    (hf : P.funcs[f]? = some fn) (hb : fn.body = some c)
    (h : ∀ (c₀ : Frame) (cs : List Frame), c₀.mode = u →
      c.wpS P (bodyPostS P fn c₀ cs R) { tmps := args ++ Array.replicate (fn.ntmps - args.size) undef, defers := [] } (c₀ :: cs) w) :
    CallsDIn Fence.wide n P f args u w R := by
  refine ⟨trivial, fun c₀ cs hu _ => ?_⟩
  let b : Frame := { (default : Frame) with fn := f, kind := .deferred }
  have henter : Frame.enter P f args .deferred =
      b.at { tmps := args ++ Array.replicate (fn.ntmps - args.size) undef, defers := [] } [.code c] := by
    simp [Frame.enter, Frame.at, hf, hb, b]
  obtain ⟨e, a', cs', w', hq, harr⟩ := h c₀ cs hu b [] rfl rfl
  rw [← henter] at harr
  cases e with
  | normal =>
    obtain ⟨hd, u', rfl, v, hr, hR⟩ := hq
    exact ⟨.returned v, u', w', _, hR, comesIn_wide.2 (Steps.trans harr (.one step_end)), rfl, rfl, rfl, hd, fn, hf, hr⟩
  | ret =>
    obtain ⟨hd, u', rfl, v, hr, hR⟩ := hq
    obtain ⟨todo, hs⟩ := harr
    exact ⟨.returned v, u', w', _, hR, comesIn_wide.2 hs, rfl, rfl, rfl, hd, fn, hf, hr⟩
  | panic chain =>
    obtain ⟨hd, u', rfl, hR⟩ := hq
    obtain ⟨todo, hs⟩ := harr
    exact ⟨.panicked chain, u', w', _, hR, comesIn_wide.2 hs, rfl, rfl, rfl, hd, fn, hf⟩
  | exit id => exact hq.elim
  | goto l => exact hq.elim
  | outgrown =>
    obtain ⟨u', hR⟩ := hq
    exact ⟨.outgrown, u', w', b, hR, comesIn_wide.2 (harr.resolve_left (by simp [b])), rfl, rfl, trivial⟩
theorem door139I_fail (n : Nat) (B : Nat) (e x : Int) (older : List PanicEntry) (w : World) (hB : w.heap[B]? = some (.cells #[.int .i64 x] 38 (0, 0))) :
    CallsDIn Fence.wide n Try.prog 139 #[.pointer (some ⟨B, 0, none⟩)] (.panicking ({ v := failV e, recovered := false } :: older)) w fun en u' w' =>
      en = .returned (.tuple #[]) ∧ u' = .panicking ({ v := failV e, recovered := true } :: older) ∧ w' = (w.alloc (.cells #[.int .i64 e] 174)).setCell ⟨B, 0, none⟩ (.int .i64 e) := by
  refine callsDIn_wide_of_wpS Try.func139 rfl fun c₀ cs hu => ?_
  apply wpS_region
  simp [wpOpsS, go_sem, recoverD, hu, Try.ntmps139, Exit.thenS, failV]
  refine (caught_fail B e x w hB).mono ?_
  rintro e1 w1 ⟨rfl, rfl⟩
  simp [bodyPostS, results, Try.results139]
theorem door139I_ok (n : Nat) (B : Nat) (w : World) :
    CallsDIn Fence.wide n Try.prog 139 #[.pointer (some ⟨B, 0, none⟩)] .returning w fun en u' w' => en = .returned (.tuple #[]) ∧ u' = .returning ∧ w' = w := by
  refine callsDIn_wide_of_wpS Try.func139 rfl fun c₀ cs hu => ?_
  apply wpS_region
  simp [wpOpsS, go_sem, recoverD, hu, Try.ntmps139, Exit.thenS]
  refine (caught_nil ⟨B, 0, none⟩ w).mono ?_
  rintro e1 w1 ⟨rfl, rfl⟩
  cases c₀
  simp_all [bodyPostS, results, Try.results139]
theorem leavesInM_fn {P : Program} {n : Nat} {fn : Func} {tmps : Array Value} {R : Ending → World → Prop} {fv : Fn} {cap dargs : Array Value} {ds : List Deferred} {u : FrameMode}
    {w : World} {f : FuncId} {args : Array Value} (hu : u ≠ .run) (hi : (invoke (.fn fv cap) dargs).run P w = .ok (.enter f args) w)
    (h : CallsDIn Fence.wide (n - 1) P f args u w fun
      | .returned _, u', w' => LeavesInM Fence.wide n P fn tmps R ds (settle u') w'
      | .panicked chain, u', w' => LeavesInM Fence.wide n P fn tmps R ds (raised u' chain) w'
      | .outgrown, _, w' => R .outgrown w') :
    LeavesInM Fence.wide n P fn tmps R ({ target := .fn fv cap, args := dargs } :: ds) u w :=
  ⟨hu, .inr ⟨(fun h => nomatch h), fv, cap, f, args, rfl, hi, fun _ _ => trivial, h⟩⟩
theorem stepI_append_cells {F : Fence} {n : Nat} {P : Program} {ops : Array Oper} {o : Oper} {a : Act} {Q : Exit → Act → World → Prop} {K : Act → World → Prop} {w0 W : World} (base : Nat) {G : Prop} (hw : Region.wanted o (yielded ops a.tmps) = true) (s x : Operand) (t e : TypeId) (z : Value) (size bytes : Nat)
    (ho : o.op = .call { callee := .builtin .append, args := #[s, x], argTypes := #[t, t] })
    (ht : P.underlying t = some (.slice e)) (hinfo : (P.info? e).map (fun i => (i.zero, i.size, i.bytes)) = some (some z, size, bytes)) (hz : z.cells.size = size) (hs0 : 0 < size) (hb0 : 0 < bytes)
    (v : Value) (m : Nat) (xs ys : List Value) (hs : a.eval s = v) (hx : a.eval x = .slice (some ⟨W.heap.size, 0, none⟩) 1 1) (hys : ys.length = size) (h1 : ∀ u ∈ ys, u.oneCell' = true)
    (HO : W.ownsRow base e size v m xs) (HB : Below base w0 W) (hbase : base ≤ W.heap.size) (hl : (m + 1) * bytes ≤ 140737488355328)
    (h : ∀ v1 w1, w1.ownsRow base e size v1 (m + 1) (xs ++ ys) → Below base w0 w1 → W.grownBy w1 v.ownBlock → (v1.ownBlock = v.ownBlock ∨ ∃ b, v1.ownBlock = some b ∧ W.heap.size ≤ b) → K (a.put o.dst v1) w1) :
    if Region.wanted o (yielded ops a.tmps) = true then Oper.wpIn F n P o a (W.alloc (.cells ys.toArray e)) K Q else G := by
  obtain ⟨i0, hi, hzz⟩ := Option.map_eq_some_iff.1 hinfo
  simp only [Prod.mk.injEq] at hzz
  obtain ⟨hz0, hz1, hz2⟩ := hzz
  have hlen : m + 1 ≤ 140737488355328 := Nat.le_trans (Nat.le_mul_of_pos_right _ hb0) hl
  rw [if_pos hw]
  obtain ⟨v1, w1, hr, hown, hg, _, hat⟩ := run_append_own_at (P := P) (W.alloc (.cells ys.toArray e)) base t o.type e i0 z size bytes ht hi hz0 hz1 hz2 hz hs0 v m xs (HO.alloc _) ⟨W.heap.size, 0, none⟩ 1 1 ys (by rw [hys]; simp)
    (by simpa using World.news_of_block (cs := ys.toArray) (t := e) (fr := (0, 0)) (heap_alloc_new W (.cells ys.toArray e))) h1 (by simp only [maxLen]; omega) hl (by simp; omega)
  have hK : K (a.put o.dst v1) w1 := by
    refine h v1 w1 hown ((HB.alloc hbase _).grown hg (by simp; omega) (own_base HO)) (World.grownBy.trans (World.grownBy_alloc W _ _) hg) ?_
    rcases hat with hat | hat
    · exact .inl hat
    · exact .inr ⟨_, hat, by simp⟩
  unfold Oper.wpIn
  refine ⟨?_, ?_⟩
  · simp [Oper.about, ho, resolve, Target.leads, Sem.run_pure]
  · rw [Oper.semAt_plain F _ _ (by rw [ho]; intro c hc'; cases hc')]
    simp [execOp, ho, resolve, invoke, builtin, hs, hx, hr, Result.andThen]
    exact hK
structure ThI (A : Option Addr) (c : Nat) (zs : List S170) (f1 f2 lo hi : Int) (w : World) (g B : Nat) (k : Nat) (W : World) (v : Value) (l : List S27) : Prop where
  li : thickL zs lo hi k = some l
  bx : W.heap[w.heap.size]? = some (.cells #[.slice A zs.length c, .int .i64 f1, .int .i64 f2] 92 (0, 0))
  sp : W.heap[w.heap.size + 1]? = some (.cells #[.int .i64 lo, .int .i64 hi] 27 (0, 0))
  sl : W.heap[w.heap.size + 1 + 1]? = some (.cells #[v] 24 (0, 0))
  er : W.heap[w.heap.size + 1 + 1 + 1]? = some (.cells #[.int .i64 0] 38 (0, 0))
  rb : W.heap[g]? = some (.cells #[.slice A zs.length c, .int .i64 f1, .int .i64 f2] 92 (0, 0))
  be : Below w.heap.size w W
  ro : Kd.R k27 27 W (B + 2) (fun _ => True) v l
theorem R_put {W : World} {v : Value} {l : List S27} {B r : Nat} (h : Kd.R k27 27 W B (fun _ => True) v l) (hr : r < B) (o' : Obj) : Kd.R k27 27 (W.putObj r o') B (fun _ => True) v l := by
  refine Kd.R_mono (Kd.R_step (Kd.R_bound h) (fun k hk hlt => ?_)) (fun _ _ => trivial)
  exact World.putObj_heap_other (by have := hk.2.1; omega)
section
variable {A : Option Addr} {c : Nat} {zs : List S170} {f1 f2 lo hi : Int} {w : World} {g B k : Nat} {W : World} {v : Value} {l : List S27}
theorem ThI.alloc (h : ThI A c zs f1 f2 lo hi w g B k W v l) (o : Obj) : ThI A c zs f1 f2 lo hi w g B k (W.alloc o) v l :=
  ⟨h.li, blk_alloc h.bx o, blk_alloc h.sp o, blk_alloc h.sl o, blk_alloc h.er o, blk_alloc h.rb o, below_alloc h.be o, Kd.R_alloc h.ro o⟩
theorem ThI.put (h : ThI A c zs f1 f2 lo hi w g B k W v l) (o : Obj) (h1 : w.heap.size + 4 ≤ g) (h2 : g < B) (h3 : B + 1 < W.heap.size) : ThI A c zs f1 f2 lo hi w g B k (W.putObj (B + 1) o) v l :=
  ⟨h.li, putObj_heap_keep (by omega) h.bx, putObj_heap_keep (by omega) h.sp, putObj_heap_keep (by omega) h.sl, putObj_heap_keep (by omega) h.er, putObj_heap_keep (by omega) h.rb, below_putObj h.be (by omega) h3, R_put h.ro (by omega) o⟩
end
theorem stepI_R_append {F : Fence} {n : Nat} {P : Program} {ops : Array Oper} {o : Oper} {a : Act} {Q : Exit → Act → World → Prop} {K : Act → World → Prop} {α : Type} (d : Kd α) {w0 W : World} (base : Nat) {G : Prop} (hw : Region.wanted o (yielded ops a.tmps) = true) (s x : Operand) (t e : TypeId) (z : Value) (bytes : Nat)
    (ho : o.op = .call { callee := .builtin .append, args := #[s, x], argTypes := #[t, t] })
    (ht : P.underlying t = some (.slice e)) (hinfo : (P.info? e).map (fun i => (i.zero, i.size, i.bytes)) = some (some z, d.sz, bytes)) (hz : z.cells.size = d.sz) (hs0 : 0 < d.sz) (hb0 : 0 < bytes)
    (v : Value) (xs : List α) (p : α) (cs : List Value) (ok okp : Nat → Prop) (hs : a.eval s = v) (hx : a.eval x = .slice (some ⟨W.heap.size, 0, none⟩) 1 1) (hp : d.M W base okp p cs) (hokp : ∀ k, okp k → ok k ∧ some k ≠ v.ownBlock) (hfresh : ∀ k, W.heap.size ≤ k → ok k)
    (HO : d.R e W base ok v xs) (HB : Below base w0 W) (hbase : base ≤ W.heap.size) (hl : (xs.length + 1) * bytes ≤ 140737488355328)
    (h : ∀ v1 w1, d.R e w1 base ok v1 (xs ++ [p]) → Below base w0 w1 → K (a.put o.dst v1) w1) :
    if Region.wanted o (yielded ops a.tmps) = true then Oper.wpIn F n P o a (W.alloc (.cells cs.toArray e)) K Q else G := by
  obtain ⟨h0, inner, hown, hr⟩ := HO
  refine stepI_append_cells base hw s x t e z d.sz bytes ho ht hinfo hz hs0 hb0 v xs.length inner cs hs hx (d.K_len (d.K_of_M hp)) (d.K_one (d.K_of_M hp)) hown HB hbase hl ?_
  intro v1 w1 hown1 hb1 hg1 hat1
  exact h v1 w1 (Kd.R_appended h0 hr hp hokp hfresh hown1 hg1 hat1) hb1
theorem rings_b (v1 v2 v3 : Value) (w : World) :
    Calls Try.prog 142 #[.agg #[v1, v2, v3]] w fun e w' => ∃ g, e = .returned (.func (.func 159) #[] #[.pointer (some ⟨g, 0, none⟩)]) ∧ w.heap.size ≤ g ∧ w'.heap[g]? = some (.cells #[v1, v2, v3] 92 (0, 0)) ∧ Below w.heap.size w w' :=
  (callsIn_wide (n := 9)).1 ((rings_callsI Fence.wide 9 trivial rfl v1 v2 v3 w).mono fun e w' he => ⟨w.heap.size, he.1, Nat.le_refl _, by rw [he.2]; exact blk_new _ _, by rw [he.2]; exact below_alloc (Below.refl _ _) _⟩)
theorem Below5 {B : Nat} {w w1 : World} {g : Nat} {o : Obj} (hb : Below B w w1) (h : w.heap[g]? = some o) (hg : g < B) : w1.heap[g]? = some o := (hb.block g hg).trans h
theorem bottle_len {zs : List S170} {f1 f2 : Int} (h : bottleV zs f1 f2 = 0) : zs.length ≤ 24 := by
  unfold bottleV at h
  split at h
  · cases h
  · omega
theorem k27_E : k27.E = [] := rfl
theorem bottle_ok (A : Option Addr) (c : Nat) (zs : List S170) (f1 f2 : Int) (w : World) (hr : Kd.C k170 w A zs.length zs) (h : bottleV zs f1 f2 = 0) :
    Calls Try.prog 140 #[.agg #[.slice A zs.length c, .int .i64 f1, .int .i64 f2]] w fun en w' => en = .returned (.tuple #[]) ∧ Below w.heap.size w w' :=
  (bottle_calls A c zs f1 f2 w hr).mono fun e w' he => ⟨by rw [he.1, h]; rfl, he.2⟩
theorem bottle_no (A : Option Addr) (c : Nat) (zs : List S170) (f1 f2 : Int) (w : World) (hr : Kd.C k170 w A zs.length zs) (h : bottleV zs f1 f2 ≠ 0) :
    Calls Try.prog 140 #[.agg #[.slice A zs.length c, .int .i64 f1, .int .i64 f2]] w fun en w' => en = .panicked (failC (bottleV zs f1 f2)) ∧ Below w.heap.size w w' :=
  (bottle_calls A c zs f1 f2 w hr).mono fun e w' he => ⟨by rw [he.1, endF_ne h], he.2⟩
theorem run_var24 (w : World) (g : Nat) (v : Value) (h : w.heap[g]? = some (.cells #[v] 24 (0, 0))) : (loadVar 24 ⟨g, 0, none⟩).run Try.prog w = .ok v w := by
  have hc : w.cell? ⟨g, 0, none⟩ = some v := (blk_cell h 0).trans rfl
  simp [loadVar, go_sem, hc]
set_option maxHeartbeats 4000000 in
set_option maxRecDepth 100000 in
theorem x_Thickness.calls (A : Option Addr) (c : Nat) (zs : List S170) (f1 f2 lo hi : Int) (l2 : List S27) (r2 : Int) (w : World) (hr : Kd.C k170 w A zs.length zs) (hc : zs.length ≤ c) (h : x_Thickness.f zs f1 f2 lo hi = some (l2, r2)) :
    Calls Try.prog 85 #[.agg #[.slice A zs.length c, .int .i64 f1, .int .i64 f2], .agg #[.int .i64 lo, .int .i64 hi]] w fun e w' => ∃ v0_ : Value, e = .returned (.tuple #[v0_, .int .i64 r2]) ∧ Kd.R k27 27 w' w.heap.size (fun _ => True) v0_ l2 ∧ Below w.heap.size w w' := by
  have hmf := run_makeFunc_
  obtain ⟨b1, b2, b3, b4, hbl, hsz⟩ := blk_four w (.cells #[.slice A zs.length c, .int .i64 f1, .int .i64 f2] 92) (.cells #[.int .i64 lo, .int .i64 hi] 27) (.cells #[.slice none 0 0] 24) (.cells #[.int .i64 0] 38)
  have BX := Sd.mk b1
  have BS := Sd.mk b2
  have BL := Sd.mk b3
  have BE := Sd.mk b4
  have HSZ := Sd.mk hsz
  have HB := Sd.mk hbl
  have HR := Sd.mk (Kd.C_below hr hbl)
  have HR0 := Sd.mk hr
  have hb0 : ((((w.alloc (.cells #[.slice A zs.length c, .int .i64 f1, .int .i64 f2] 92)).alloc (.cells #[.int .i64 lo, .int .i64 hi] 27)).alloc (.cells #[.slice none 0 0] 24)).alloc (.cells #[.int .i64 0] 38)).cell? ⟨w.heap.size, 0, none⟩ = some (.slice A zs.length c) := (blk_cell b1 0).trans rfl
  have hb1 : ((((w.alloc (.cells #[.slice A zs.length c, .int .i64 f1, .int .i64 f2] 92)).alloc (.cells #[.int .i64 lo, .int .i64 hi] 27)).alloc (.cells #[.slice none 0 0] 24)).alloc (.cells #[.int .i64 0] 38)).cell? ⟨w.heap.size, 0 + 1, none⟩ = some (.int .i64 f1) := (blk_cell b1 1).trans rfl
  have hb2 : ((((w.alloc (.cells #[.slice A zs.length c, .int .i64 f1, .int .i64 f2] 92)).alloc (.cells #[.int .i64 lo, .int .i64 hi] 27)).alloc (.cells #[.slice none 0 0] 24)).alloc (.cells #[.int .i64 0] 38)).cell? ⟨w.heap.size, 0 + 2, none⟩ = some (.int .i64 f2) := (blk_cell b1 2).trans rfl
  clear b1 b2 b3 b4 hbl hsz hr
  unfold x_Thickness.f at h
  by_cases h0 : bottleV zs f1 f2 = 0
  · rw [if_pos h0] at h
    have H0 := Sd.mk h0
    clear h0
    cases hi' : spanB lo hi 1 100000 with
    | true =>
      rw [if_pos hi'] at h
      obtain ⟨l, hl, h⟩ := Option.bind_eq_some_iff.mp h
      simp only [Option.some.injEq, Prod.mk.injEq] at h
      obtain ⟨rfl, rfl⟩ := h
      have HI := Sd.mk hi'
      have HL := Sd.mk hl
      clear hi' hl
      refine (callsIn_wide (n := 9)).1 (callsIn_of_wp_marks Try.func85 rfl trivial ?_ rfl)
      simp only [Try.ntmps85, List.size_toArray, List.length_cons, List.length_nil, Nat.reduceAdd, Nat.reduceSub, Array.replicate_succ, Array.replicate_zero, List.push_toArray, List.append_toArray, List.nil_append, List.cons_append]
      gi_wp2_with (first | (refine ⟨trivial, ?_⟩; gi_at_call 140; refine (callsIn_wide.2 (bottle_ok A c zs f1 f2 _ HR.out H0.out)).mono ?_; rintro e w1 ⟨rfl, hw1⟩; have BX1 := Sd.mk (blk_below BX.out hw1); have BS1 := Sd.mk (blk_below BS.out hw1); have BL1 := Sd.mk (blk_below BL.out hw1); have BE1 := Sd.mk (blk_below BE.out hw1); have HB1 := Sd.mk (below_then HB.out (by have := HSZ.out; omega) hw1); have HSZ1 := Sd.mk (show w.heap.size + 4 ≤ w1.heap.size from Nat.le_trans (by have := HSZ.out; omega) hw1.size); clear hw1; have ht0 : w1.cell? ⟨w.heap.size + 1, 0, none⟩ = some (.int .i64 lo) := (blk_cell BS1.out 0).trans rfl; have ht1 : w1.cell? ⟨w.heap.size + 1, 0 + 1, none⟩ = some (.int .i64 hi) := (blk_cell BS1.out 1).trans rfl; have hb0 : w1.cell? ⟨w.heap.size, 0, none⟩ = some (.slice A zs.length c) := (blk_cell BX1.out 0).trans rfl; have hb1 : w1.cell? ⟨w.heap.size, 0 + 1, none⟩ = some (.int .i64 f1) := (blk_cell BX1.out 1).trans rfl; have hb2 : w1.cell? ⟨w.heap.size, 0 + 2, none⟩ = some (.int .i64 f2) := (blk_cell BX1.out 2).trans rfl) | (refine ⟨trivial, ?_⟩; gi_at_call 141; refine (callsIn_wide.2 (sspan_f _ _ _ _ _)).mono ?_; rw [HI.out]; rintro e w2 ⟨rfl, hw2⟩; have BX2 := BX1; have BS2 := BS1; clear BX1 BS1; have BX1 := Sd.mk (blk_below BX2.out hw2); have BS1 := Sd.mk (blk_below BS2.out hw2); have BL2 := Sd.mk (blk_below BL1.out hw2); have BE2 := Sd.mk (blk_below BE1.out hw2); have HB2 := Sd.mk (below_then HB1.out HB1.out.size hw2); have HSZ2 := Sd.mk (show w.heap.size + 4 ≤ w2.heap.size from Nat.le_trans HSZ1.out hw2.size); clear BX2 BS2 hw2; have hb0 : w2.cell? ⟨w.heap.size, 0, none⟩ = some (.slice A zs.length c) := (blk_cell BX1.out 0).trans rfl; have hb1 : w2.cell? ⟨w.heap.size, 0 + 1, none⟩ = some (.int .i64 f1) := (blk_cell BX1.out 1).trans rfl; have hb2 : w2.cell? ⟨w.heap.size, 0 + 2, none⟩ = some (.int .i64 f2) := (blk_cell BX1.out 2).trans rfl) | (refine ⟨trivial, ?_⟩; gi_at_call 91; (with_reducible refine (callsIn_wide.2 (demand_ok _ _)).mono ?_); rintro e w' ⟨rfl, rfl⟩) | (refine ⟨trivial, ?_⟩; gi_at_call 142; (with_reducible refine (callsIn_wide.2 (rings_b _ _ _ _)).mono ?_); rintro e w3 ⟨g, rfl, hg, hbk, hw3⟩; have RB3 := Sd.mk hbk; have HG := Sd.mk (show w.heap.size + 4 ≤ g from Nat.le_trans (by have := HSZ.out; have := BE2.out; have := HSZ2.out; omega) hg); have BX3 := Sd.mk (blk_below BX1.out hw3); have BS3 := Sd.mk (blk_below BS1.out hw3); have BL3 := Sd.mk (blk_below BL2.out hw3); have BE3 := Sd.mk (blk_below BE2.out hw3); have HB3 := Sd.mk (below_then HB2.out HB2.out.size hw3); have HG3 := Sd.mk (show g < w3.heap.size from blk_lt hbk); clear hbk hw3 hg))
      clear ht0 ht1 hb0 hb1 hb2
      have hll := thickL_some zs lo hi zs.length _ HL.out
      have HN := Sd.mk (bottle_len H0.out)
      refine wpIn_rangeFuncP (N := zs.length) (encs := fun k => #[.int .i64 (k : Int), ringV (rd_T170 zs k)]) rfl (by omega) (gf := 159) (lb := #[.pointer (some ⟨g, 0, none⟩)]) rfl trivial (enters_of Try.func159 (by kernel_rfl) rfl) (fun _ => rfl)
        (fun k W => ∃ v l, ThI A c zs f1 f2 lo hi w g w3.heap.size k W v l) (fun _ _ => False) (fun k W o ⟨v, l, h⟩ => ⟨v, l, h.alloc o⟩) (fun k W o r hl ⟨v, l, h⟩ => ⟨v, l, h.put o HG.out HG3.out (Array.getElem?_eq_some_iff.1 hl).1⟩) ⟨_, _, rfl, BX3.out, BS3.out, BL3.out, BE3.out, RB3.out, HB3.out, Kd.R_nil _ _ _ _ _⟩ ?seq ?round ?fn ?done ?panic
      case seq =>
        intro l1 J Jp W hJa hJI hY h0
        obtain ⟨v, l, hi0⟩ := hJI _ _ h0
        exact rings1_in Fence.wide (9 - 1) trivial rfl (by omega) l1 g A c _ _ zs J Jp W hi0.rb hJa (fun k W' h => by obtain ⟨v, l, h⟩ := hJI _ _ h; exact Kd.C_below HR0.out h.be) hY h0
      case round =>
        clear BX3 BS3 BL3 BE3 RB3 HB3 BX1 BS1 BL1 BE1 HB1 BL2 BE2 HB2 HB BX BS BL BE
        intro l k W hW _ hk hI st hst
        obtain ⟨v, l', hI⟩ := hI
        obtain ⟨p, hp⟩ := hll k hk
        generalize hx : rd_T170 zs (k : Int) = x at hp ⊢
        have HI1 := Sd.mk hI
        have HW := Sd.mk hW
        have HK := Sd.mk hk
        have HX := Sd.mk hx
        have HP := Sd.mk hp
        have HL1 := HL
        clear HL
        have HL := Sd.mk (thickL_len _ _ _ _ _ hI.li)
        clear hI hW hk hp hll
        clear hx
        unfold ringV
        simp only [List.zip_cons_cons, List.zip_nil_right, List.foldl_cons, List.foldl_nil]
        gi_wp2
        refine hst _ _ (by simp) (fun j h1 h2 => Below.heap_alloc W _ j (by have := HW.out; omega)) ?_
        clear hst
        intro o
        have hn2 : 1 ≤ 9 - 1 - 1 := by omega
        have CK : Sd (ThI A c zs f1 f2 lo hi w g w3.heap.size k ((W.alloc (.cells #[.int .i64 x.f0.f0, .int .i64 x.f0.f1, .int .i64 x.f1.f0, .int .i64 x.f1.f1, .int .i64 x.f2.f0, .int .i64 x.f2.f1, .int .i64 x.f3.f0, .int .i64 x.f3.f1, .int .i64 x.f4.f0, .int .i64 x.f4.f1] 170)).putObj (w3.heap.size + 1) o) v l') := ⟨(HI1.out.alloc _).put o HG.out HG3.out (by have := HW.out; simp; omega)⟩
        have RB : Sd (((W.alloc (.cells #[.int .i64 x.f0.f0, .int .i64 x.f0.f1, .int .i64 x.f1.f0, .int .i64 x.f1.f1, .int .i64 x.f2.f0, .int .i64 x.f2.f1, .int .i64 x.f3.f0, .int .i64 x.f3.f1, .int .i64 x.f4.f0, .int .i64 x.f4.f1] 170)).putObj (w3.heap.size + 1) o).heap[W.heap.size]? = some (.cells #[.int .i64 x.f0.f0, .int .i64 x.f0.f1, .int .i64 x.f1.f0, .int .i64 x.f1.f1, .int .i64 x.f2.f0, .int .i64 x.f2.f1, .int .i64 x.f3.f0, .int .i64 x.f3.f1, .int .i64 x.f4.f0, .int .i64 x.f4.f1] 170 (0, 0))) := ⟨putObj_heap_keep (by have := HW.out; omega) (blk_new _ _)⟩
        have WS : Sd (((W.alloc (.cells #[.int .i64 x.f0.f0, .int .i64 x.f0.f1, .int .i64 x.f1.f0, .int .i64 x.f1.f1, .int .i64 x.f2.f0, .int .i64 x.f2.f1, .int .i64 x.f3.f0, .int .i64 x.f3.f1, .int .i64 x.f4.f0, .int .i64 x.f4.f1] 170)).putObj (w3.heap.size + 1) o).heap.size = W.heap.size + 1) := ⟨by simp⟩
        generalize (W.alloc (.cells #[.int .i64 x.f0.f0, .int .i64 x.f0.f1, .int .i64 x.f1.f0, .int .i64 x.f1.f1, .int .i64 x.f2.f0, .int .i64 x.f2.f1, .int .i64 x.f3.f0, .int .i64 x.f3.f1, .int .i64 x.f4.f0, .int .i64 x.f4.f1] 170)).putObj (w3.heap.size + 1) o = Wb at CK RB WS ⊢
        have hmx : Try.prog.follows .mixedOrders = true := by kernel_rfl
        gi_wp2
        refine wpIn_region_any hmx ?_
        change wpAnyIn _ _ _ _ _ _ _ _ _ (World.drew _)
        have RBd : Sd (Wb.drew.heap[W.heap.size]? = some (.cells #[.int .i64 x.f0.f0, .int .i64 x.f0.f1, .int .i64 x.f1.f0, .int .i64 x.f1.f1, .int .i64 x.f2.f0, .int .i64 x.f2.f1, .int .i64 x.f3.f0, .int .i64 x.f3.f1, .int .i64 x.f4.f0, .int .i64 x.f4.f1] 170 (0, 0))) := ⟨RB.out⟩
        have SP : Sd (Wb.drew.heap[w.heap.size + 1]? = some (.cells #[.int .i64 lo, .int .i64 hi] 27 (0, 0))) := ⟨CK.out.sp⟩
        have SL : Sd (Wb.drew.heap[w.heap.size + 1 + 1]? = some (.cells #[v] 24 (0, 0))) := ⟨CK.out.sl⟩
        have RO : Sd (Kd.R k27 27 Wb.drew (w3.heap.size + 2) (fun _ => True) v l') := ⟨Kd.R_drew CK.out.ro⟩
        have HD2 : Sd (w3.heap.size + 2 ≤ Wb.drew.heap.size) := ⟨by have := HW.out; have := WS.out; show w3.heap.size + 2 ≤ Wb.heap.size; omega⟩
        have BD : Sd (Below (w3.heap.size + 2) Wb Wb.drew) := ⟨below_drew (Below.refl _ _)⟩
        have fin : ∀ (a' : Act) (w5 : World) (v1 : Value), Kd.R k27 27 w5 (w3.heap.size + 2) (fun _ => True) v1 (l' ++ [⟨p.1, p.2⟩]) → Below (w3.heap.size + 2) Wb.drew w5 → bodyPostP w3.heap.size (fun k W => ∃ v l, ThI A c zs f1 f2 lo hi w g w3.heap.size k W v l) (fun _ _ => False) (k + 1) Wb .normal a' (w5.setCell ⟨w.heap.size + 1 + 1, 0, none⟩ v1) := by
          intro a' w5 v1 hr5 hb5'
          have hb5 : Below (w3.heap.size + 2) Wb w5 := BD.out.trans hb5'
          have hg1 := HG.out
          have hg2 := HG3.out
          refine ⟨by simpa using hb5.size, fun j h1 h2 => (Below.heap_setCell _ _ _ j (by simp; omega)).trans (hb5.block j (by omega)), v1, l' ++ [⟨p.1, p.2⟩], ?_⟩
          have hp := HP.out
          exact ⟨by simp only [thickL, CK.out.li, HX.out]; rw [show thick1 x lo hi = some p from hp]; rfl, blk_far (Below5 hb5 CK.out.bx (by omega)) (p := ⟨w.heap.size + 1 + 1, 0, none⟩) (by simp; omega) _, blk_far (Below5 hb5 CK.out.sp (by omega)) (p := ⟨w.heap.size + 1 + 1, 0, none⟩) (by simp) _, blk_put (Below5 hb5 CK.out.sl (by omega)) 0 _ rfl, blk_far (Below5 hb5 CK.out.er (by omega)) (p := ⟨w.heap.size + 1 + 1, 0, none⟩) (by simp) _, blk_far (Below5 hb5 CK.out.rb (by omega)) (p := ⟨w.heap.size + 1 + 1, 0, none⟩) (by simp; omega) _, below_set (CK.out.be.trans (hb5.mono (by omega))) (by omega), Kd.R_set hr5 (Below5 hb5 CK.out.sl (by omega)) (by simp [k27_E]) 0 _⟩
        generalize Wb.drew = Wd at RBd SP SL RO HD2 BD fin ⊢
        clear RB
        have RB := RBd
        clear RBd
        have g0 : Wd.cell? ⟨W.heap.size, 0, none⟩ = some (.int .i64 x.f0.f0) := (blk_cell RB.out 0).trans rfl
        have g1 : Wd.cell? ⟨W.heap.size, 0 + 1, none⟩ = some (.int .i64 x.f0.f1) := (blk_cell RB.out 1).trans rfl
        have g2 : Wd.cell? ⟨W.heap.size, 0 + 2, none⟩ = some (.int .i64 x.f1.f0) := (blk_cell RB.out 2).trans rfl
        have g3 : Wd.cell? ⟨W.heap.size, 0 + 3, none⟩ = some (.int .i64 x.f1.f1) := (blk_cell RB.out 3).trans rfl
        have g4 : Wd.cell? ⟨W.heap.size, 0 + 4, none⟩ = some (.int .i64 x.f2.f0) := (blk_cell RB.out 4).trans rfl
        have g5 : Wd.cell? ⟨W.heap.size, 0 + 5, none⟩ = some (.int .i64 x.f2.f1) := (blk_cell RB.out 5).trans rfl
        have g6 : Wd.cell? ⟨W.heap.size, 0 + 6, none⟩ = some (.int .i64 x.f3.f0) := (blk_cell RB.out 6).trans rfl
        have g7 : Wd.cell? ⟨W.heap.size, 0 + 7, none⟩ = some (.int .i64 x.f3.f1) := (blk_cell RB.out 7).trans rfl
        have g8 : Wd.cell? ⟨W.heap.size, 0 + 8, none⟩ = some (.int .i64 x.f4.f0) := (blk_cell RB.out 8).trans rfl
        have g9 : Wd.cell? ⟨W.heap.size, 0 + 9, none⟩ = some (.int .i64 x.f4.f1) := (blk_cell RB.out 9).trans rfl
        have gt0 : Wd.cell? ⟨w.heap.size + 1, 0, none⟩ = some (.int .i64 lo) := (blk_cell SP.out 0).trans rfl
        have gt1 : Wd.cell? ⟨w.heap.size + 1, 0 + 1, none⟩ = some (.int .i64 hi) := (blk_cell SP.out 1).trans rfl
        have gv : Wd.cell? ⟨w.heap.size + 1 + 1, 0, none⟩ = some v := (blk_cell SL.out 0).trans rfl
        refine wpAnyIn_ready (rs := [0, 1, 2]) (by kernel_rfl) (by simp) ?_
        refine AllReadyIn.cons rfl (fun K hK => ?_) ?_
        · go_simp
          refine hK _ _ ?_
          clear hK K
          refine wpAnyIn_ready (rs := [1, 2]) (by kernel_rfl) (by simp) ?_
          refine AllReadyIn.cons rfl (fun K hK => ?_) ?_
          · go_simp
            refine hK _ _ ?_
            clear hK K
            refine wpAnyIn_ready (rs := [2]) (by kernel_rfl) (by simp) ?_
            refine AllReadyIn.cons rfl (fun K hK => ?_) ?_
            · go_simp
              refine hK _ _ ?_
              clear hK K
              refine wpAnyIn_ready (rs := [3]) (by kernel_rfl) (by simp) ?_
              refine AllReadyIn.cons rfl (fun K hK => ?_) ?_
              · go_simp
                gi_wp2_with (refine ⟨trivial, ?_⟩; gi_at_call 143; refine (CallsIn.inRound l (callsIn_wide.2 (strength_thickness.calls _ _ _ _ _ _ _ _ _ _ _ _ p.1 p.2 _ HP.out))).mono ?_; rintro e w4 ⟨rfl, hw4⟩; have BW4 := Sd.mk (show Below (w3.heap.size + 2) Wd w4 from hw4.mono HD2.out); have SZ4 := Sd.mk (show w3.heap.size + 2 ≤ w4.heap.size from Nat.le_trans HD2.out hw4.size); have RO4 := Sd.mk (Kd.R_below RO.out hw4); have SL4 := Sd.mk (blk_below SL.out hw4); clear hw4; have gv4 : w4.cell? ⟨w.heap.size + 1 + 1, 0, none⟩ = some v := (blk_cell SL4.out 0).trans rfl; have gv5 : (w4.alloc (.cells #[.int .i64 p.1, .int .i64 p.2] 27)).cell? ⟨w.heap.size + 1 + 1, 0, none⟩ = some v := (blk_cell (blk_alloc SL4.out _) 0).trans rfl)
                refine wpAnyIn_ready (rs := [4]) (by kernel_rfl) (by simp) ?_
                refine AllReadyIn.cons rfl (fun K hK => ?_) ?_
                · go_simp
                  refine hK _ _ ?_
                  clear hK K
                  refine wpAnyIn_ready (rs := [5]) (by kernel_rfl) (by simp) ?_
                  refine AllReadyIn.cons rfl (fun K hK => ?_) ?_
                  · refine stepI_R_append k27 (w0 := Wd) (W := w4) (w3.heap.size + 2) (by go_simp) _ _ 24 27 (.agg #[.int .i64 0, .int .i64 0]) 16 rfl Try.underlying24 info27 rfl (by decide) (by decide) v l' ⟨p.1, p.2⟩ [.int .i64 p.1, .int .i64 p.2] (fun _ => True) (fun _ => False) rfl rfl (k27_mkM _ _ _ _) (fun _ h => h.elim) (fun _ _ => trivial) RO4.out BW4.out SZ4.out (by rw [HL.out]; have := HN.out; have := HK.out; omega) ?_
                    intro v1 w5 r5 b5
                    obtain ⟨As, cs5, hv5⟩ := Kd.R_slice r5
                    rw [List.length_append, List.length_singleton] at hv5
                    subst hv5
                    have R5 := Sd.mk r5
                    have B5 := Sd.mk b5
                    clear r5 b5
                    have gs : w5.cell? ⟨w.heap.size + 1 + 1, 0, none⟩ = some v := (blk_cell (Below5 B5.out SL.out (by have := HG.out; have := HG3.out; omega)) 0).trans rfl
                    have gs' := blk_frozen (Below5 B5.out SL.out (by have := HG.out; have := HG3.out; omega)) 0
                    refine hK _ _ ?_
                    clear hK K
                    refine wpAnyIn_ready (rs := [6]) (by kernel_rfl) (by simp) ?_
                    refine AllReadyIn.cons rfl (fun K hK => ?_) ?_
                    · go_simp
                      refine hK _ _ ?_
                      clear hK K
                      refine wpAnyIn_done (by kernel_rfl) ?_ _
                      exact fin { tmps := #[], defers := [] } _ _ R5.out B5.out
                    exact AllReadyIn.nil
                  exact AllReadyIn.nil
                exact AllReadyIn.nil
              exact AllReadyIn.nil
            exact AllReadyIn.nil
          refine AllReadyIn.cons rfl (fun K hK => ?_) ?_
          · go_simp
            refine hK _ _ ?_
            clear hK K
            refine wpAnyIn_ready (rs := [1]) (by kernel_rfl) (by simp) ?_
            refine AllReadyIn.cons rfl (fun K hK => ?_) ?_
            · go_simp
              refine hK _ _ ?_
              clear hK K
              refine wpAnyIn_ready (rs := [3]) (by kernel_rfl) (by simp) ?_
              refine AllReadyIn.cons rfl (fun K hK => ?_) ?_
              · go_simp
                gi_wp2_with (refine ⟨trivial, ?_⟩; gi_at_call 143; refine (CallsIn.inRound l (callsIn_wide.2 (strength_thickness.calls _ _ _ _ _ _ _ _ _ _ _ _ p.1 p.2 _ HP.out))).mono ?_; rintro e w4 ⟨rfl, hw4⟩; have BW4 := Sd.mk (show Below (w3.heap.size + 2) Wd w4 from hw4.mono HD2.out); have SZ4 := Sd.mk (show w3.heap.size + 2 ≤ w4.heap.size from Nat.le_trans HD2.out hw4.size); have RO4 := Sd.mk (Kd.R_below RO.out hw4); have SL4 := Sd.mk (blk_below SL.out hw4); clear hw4; have gv4 : w4.cell? ⟨w.heap.size + 1 + 1, 0, none⟩ = some v := (blk_cell SL4.out 0).trans rfl; have gv5 : (w4.alloc (.cells #[.int .i64 p.1, .int .i64 p.2] 27)).cell? ⟨w.heap.size + 1 + 1, 0, none⟩ = some v := (blk_cell (blk_alloc SL4.out _) 0).trans rfl)
                refine wpAnyIn_ready (rs := [4]) (by kernel_rfl) (by simp) ?_
                refine AllReadyIn.cons rfl (fun K hK => ?_) ?_
                · go_simp
                  refine hK _ _ ?_
                  clear hK K
                  refine wpAnyIn_ready (rs := [5]) (by kernel_rfl) (by simp) ?_
                  refine AllReadyIn.cons rfl (fun K hK => ?_) ?_
                  · refine stepI_R_append k27 (w0 := Wd) (W := w4) (w3.heap.size + 2) (by go_simp) _ _ 24 27 (.agg #[.int .i64 0, .int .i64 0]) 16 rfl Try.underlying24 info27 rfl (by decide) (by decide) v l' ⟨p.1, p.2⟩ [.int .i64 p.1, .int .i64 p.2] (fun _ => True) (fun _ => False) rfl rfl (k27_mkM _ _ _ _) (fun _ h => h.elim) (fun _ _ => trivial) RO4.out BW4.out SZ4.out (by rw [HL.out]; have := HN.out; have := HK.out; omega) ?_
                    intro v1 w5 r5 b5
                    obtain ⟨As, cs5, hv5⟩ := Kd.R_slice r5
                    rw [List.length_append, List.length_singleton] at hv5
                    subst hv5
                    have R5 := Sd.mk r5
                    have B5 := Sd.mk b5
                    clear r5 b5
                    have gs : w5.cell? ⟨w.heap.size + 1 + 1, 0, none⟩ = some v := (blk_cell (Below5 B5.out SL.out (by have := HG.out; have := HG3.out; omega)) 0).trans rfl
                    have gs' := blk_frozen (Below5 B5.out SL.out (by have := HG.out; have := HG3.out; omega)) 0
                    refine hK _ _ ?_
                    clear hK K
                    refine wpAnyIn_ready (rs := [6]) (by kernel_rfl) (by simp) ?_
                    refine AllReadyIn.cons rfl (fun K hK => ?_) ?_
                    · go_simp
                      refine hK _ _ ?_
                      clear hK K
                      refine wpAnyIn_done (by kernel_rfl) ?_ _
                      exact fin { tmps := #[], defers := [] } _ _ R5.out B5.out
                    exact AllReadyIn.nil
                  exact AllReadyIn.nil
                exact AllReadyIn.nil
              exact AllReadyIn.nil
            exact AllReadyIn.nil
          exact AllReadyIn.nil
        refine AllReadyIn.cons rfl (fun K hK => ?_) ?_
        · go_simp
          refine hK _ _ ?_
          clear hK K
          refine wpAnyIn_ready (rs := [0, 2]) (by kernel_rfl) (by simp) ?_
          refine AllReadyIn.cons rfl (fun K hK => ?_) ?_
          · go_simp
            refine hK _ _ ?_
            clear hK K
            refine wpAnyIn_ready (rs := [2]) (by kernel_rfl) (by simp) ?_
            refine AllReadyIn.cons rfl (fun K hK => ?_) ?_
            · go_simp
              refine hK _ _ ?_
              clear hK K
              refine wpAnyIn_ready (rs := [3]) (by kernel_rfl) (by simp) ?_
              refine AllReadyIn.cons rfl (fun K hK => ?_) ?_
              · go_simp
                gi_wp2_with (refine ⟨trivial, ?_⟩; gi_at_call 143; refine (CallsIn.inRound l (callsIn_wide.2 (strength_thickness.calls _ _ _ _ _ _ _ _ _ _ _ _ p.1 p.2 _ HP.out))).mono ?_; rintro e w4 ⟨rfl, hw4⟩; have BW4 := Sd.mk (show Below (w3.heap.size + 2) Wd w4 from hw4.mono HD2.out); have SZ4 := Sd.mk (show w3.heap.size + 2 ≤ w4.heap.size from Nat.le_trans HD2.out hw4.size); have RO4 := Sd.mk (Kd.R_below RO.out hw4); have SL4 := Sd.mk (blk_below SL.out hw4); clear hw4; have gv4 : w4.cell? ⟨w.heap.size + 1 + 1, 0, none⟩ = some v := (blk_cell SL4.out 0).trans rfl; have gv5 : (w4.alloc (.cells #[.int .i64 p.1, .int .i64 p.2] 27)).cell? ⟨w.heap.size + 1 + 1, 0, none⟩ = some v := (blk_cell (blk_alloc SL4.out _) 0).trans rfl)
                refine wpAnyIn_ready (rs := [4]) (by kernel_rfl) (by simp) ?_
                refine AllReadyIn.cons rfl (fun K hK => ?_) ?_
                · go_simp
                  refine hK _ _ ?_
                  clear hK K
                  refine wpAnyIn_ready (rs := [5]) (by kernel_rfl) (by simp) ?_
                  refine AllReadyIn.cons rfl (fun K hK => ?_) ?_
                  · refine stepI_R_append k27 (w0 := Wd) (W := w4) (w3.heap.size + 2) (by go_simp) _ _ 24 27 (.agg #[.int .i64 0, .int .i64 0]) 16 rfl Try.underlying24 info27 rfl (by decide) (by decide) v l' ⟨p.1, p.2⟩ [.int .i64 p.1, .int .i64 p.2] (fun _ => True) (fun _ => False) rfl rfl (k27_mkM _ _ _ _) (fun _ h => h.elim) (fun _ _ => trivial) RO4.out BW4.out SZ4.out (by rw [HL.out]; have := HN.out; have := HK.out; omega) ?_
                    intro v1 w5 r5 b5
                    obtain ⟨As, cs5, hv5⟩ := Kd.R_slice r5
                    rw [List.length_append, List.length_singleton] at hv5
                    subst hv5
                    have R5 := Sd.mk r5
                    have B5 := Sd.mk b5
                    clear r5 b5
                    have gs : w5.cell? ⟨w.heap.size + 1 + 1, 0, none⟩ = some v := (blk_cell (Below5 B5.out SL.out (by have := HG.out; have := HG3.out; omega)) 0).trans rfl
                    have gs' := blk_frozen (Below5 B5.out SL.out (by have := HG.out; have := HG3.out; omega)) 0
                    refine hK _ _ ?_
                    clear hK K
                    refine wpAnyIn_ready (rs := [6]) (by kernel_rfl) (by simp) ?_
                    refine AllReadyIn.cons rfl (fun K hK => ?_) ?_
                    · go_simp
                      refine hK _ _ ?_
                      clear hK K
                      refine wpAnyIn_done (by kernel_rfl) ?_ _
                      exact fin { tmps := #[], defers := [] } _ _ R5.out B5.out
                    exact AllReadyIn.nil
                  exact AllReadyIn.nil
                exact AllReadyIn.nil
              exact AllReadyIn.nil
            exact AllReadyIn.nil
          refine AllReadyIn.cons rfl (fun K hK => ?_) ?_
          · go_simp
            refine hK _ _ ?_
            clear hK K
            refine wpAnyIn_ready (rs := [0, 3]) (by kernel_rfl) (by simp) ?_
            refine AllReadyIn.cons rfl (fun K hK => ?_) ?_
            · go_simp
              refine hK _ _ ?_
              clear hK K
              refine wpAnyIn_ready (rs := [3]) (by kernel_rfl) (by simp) ?_
              refine AllReadyIn.cons rfl (fun K hK => ?_) ?_
              · go_simp
                gi_wp2_with (refine ⟨trivial, ?_⟩; gi_at_call 143; refine (CallsIn.inRound l (callsIn_wide.2 (strength_thickness.calls _ _ _ _ _ _ _ _ _ _ _ _ p.1 p.2 _ HP.out))).mono ?_; rintro e w4 ⟨rfl, hw4⟩; have BW4 := Sd.mk (show Below (w3.heap.size + 2) Wd w4 from hw4.mono HD2.out); have SZ4 := Sd.mk (show w3.heap.size + 2 ≤ w4.heap.size from Nat.le_trans HD2.out hw4.size); have RO4 := Sd.mk (Kd.R_below RO.out hw4); have SL4 := Sd.mk (blk_below SL.out hw4); clear hw4; have gv4 : w4.cell? ⟨w.heap.size + 1 + 1, 0, none⟩ = some v := (blk_cell SL4.out 0).trans rfl; have gv5 : (w4.alloc (.cells #[.int .i64 p.1, .int .i64 p.2] 27)).cell? ⟨w.heap.size + 1 + 1, 0, none⟩ = some v := (blk_cell (blk_alloc SL4.out _) 0).trans rfl)
                refine wpAnyIn_ready (rs := [4]) (by kernel_rfl) (by simp) ?_
                refine AllReadyIn.cons rfl (fun K hK => ?_) ?_
                · go_simp
                  refine hK _ _ ?_
                  clear hK K
                  refine wpAnyIn_ready (rs := [5]) (by kernel_rfl) (by simp) ?_
                  refine AllReadyIn.cons rfl (fun K hK => ?_) ?_
                  · refine stepI_R_append k27 (w0 := Wd) (W := w4) (w3.heap.size + 2) (by go_simp) _ _ 24 27 (.agg #[.int .i64 0, .int .i64 0]) 16 rfl Try.underlying24 info27 rfl (by decide) (by decide) v l' ⟨p.1, p.2⟩ [.int .i64 p.1, .int .i64 p.2] (fun _ => True) (fun _ => False) rfl rfl (k27_mkM _ _ _ _) (fun _ h => h.elim) (fun _ _ => trivial) RO4.out BW4.out SZ4.out (by rw [HL.out]; have := HN.out; have := HK.out; omega) ?_
                    intro v1 w5 r5 b5
                    obtain ⟨As, cs5, hv5⟩ := Kd.R_slice r5
                    rw [List.length_append, List.length_singleton] at hv5
                    subst hv5
                    have R5 := Sd.mk r5
                    have B5 := Sd.mk b5
                    clear r5 b5
                    have gs : w5.cell? ⟨w.heap.size + 1 + 1, 0, none⟩ = some v := (blk_cell (Below5 B5.out SL.out (by have := HG.out; have := HG3.out; omega)) 0).trans rfl
                    have gs' := blk_frozen (Below5 B5.out SL.out (by have := HG.out; have := HG3.out; omega)) 0
                    refine hK _ _ ?_
                    clear hK K
                    refine wpAnyIn_ready (rs := [6]) (by kernel_rfl) (by simp) ?_
                    refine AllReadyIn.cons rfl (fun K hK => ?_) ?_
                    · go_simp
                      refine hK _ _ ?_
                      clear hK K
                      refine wpAnyIn_done (by kernel_rfl) ?_ _
                      exact fin { tmps := #[], defers := [] } _ _ R5.out B5.out
                    exact AllReadyIn.nil
                  exact AllReadyIn.nil
                exact AllReadyIn.nil
              exact AllReadyIn.nil
            refine AllReadyIn.cons rfl (fun K hK => ?_) ?_
            · go_simp
              gi_wp2_with (refine ⟨trivial, ?_⟩; gi_at_call 143; refine (CallsIn.inRound l (callsIn_wide.2 (strength_thickness.calls _ _ _ _ _ _ _ _ _ _ _ _ p.1 p.2 _ HP.out))).mono ?_; rintro e w4 ⟨rfl, hw4⟩; have BW4 := Sd.mk (show Below (w3.heap.size + 2) Wd w4 from hw4.mono HD2.out); have SZ4 := Sd.mk (show w3.heap.size + 2 ≤ w4.heap.size from Nat.le_trans HD2.out hw4.size); have RO4 := Sd.mk (Kd.R_below RO.out hw4); have SL4 := Sd.mk (blk_below SL.out hw4); clear hw4; have gv4 : w4.cell? ⟨w.heap.size + 1 + 1, 0, none⟩ = some v := (blk_cell SL4.out 0).trans rfl; have gv5 : (w4.alloc (.cells #[.int .i64 p.1, .int .i64 p.2] 27)).cell? ⟨w.heap.size + 1 + 1, 0, none⟩ = some v := (blk_cell (blk_alloc SL4.out _) 0).trans rfl)
              refine wpAnyIn_ready (rs := [0, 4]) (by kernel_rfl) (by simp) ?_
              refine AllReadyIn.cons rfl (fun K hK => ?_) ?_
              · go_simp
                refine hK _ _ ?_
                clear hK K
                refine wpAnyIn_ready (rs := [4]) (by kernel_rfl) (by simp) ?_
                refine AllReadyIn.cons rfl (fun K hK => ?_) ?_
                · go_simp
                  refine hK _ _ ?_
                  clear hK K
                  refine wpAnyIn_ready (rs := [5]) (by kernel_rfl) (by simp) ?_
                  refine AllReadyIn.cons rfl (fun K hK => ?_) ?_
                  · refine stepI_R_append k27 (w0 := Wd) (W := w4) (w3.heap.size + 2) (by go_simp) _ _ 24 27 (.agg #[.int .i64 0, .int .i64 0]) 16 rfl Try.underlying24 info27 rfl (by decide) (by decide) v l' ⟨p.1, p.2⟩ [.int .i64 p.1, .int .i64 p.2] (fun _ => True) (fun _ => False) rfl rfl (k27_mkM _ _ _ _) (fun _ h => h.elim) (fun _ _ => trivial) RO4.out BW4.out SZ4.out (by rw [HL.out]; have := HN.out; have := HK.out; omega) ?_
                    intro v1 w5 r5 b5
                    obtain ⟨As, cs5, hv5⟩ := Kd.R_slice r5
                    rw [List.length_append, List.length_singleton] at hv5
                    subst hv5
                    have R5 := Sd.mk r5
                    have B5 := Sd.mk b5
                    clear r5 b5
                    have gs : w5.cell? ⟨w.heap.size + 1 + 1, 0, none⟩ = some v := (blk_cell (Below5 B5.out SL.out (by have := HG.out; have := HG3.out; omega)) 0).trans rfl
                    have gs' := blk_frozen (Below5 B5.out SL.out (by have := HG.out; have := HG3.out; omega)) 0
                    refine hK _ _ ?_
                    clear hK K
                    refine wpAnyIn_ready (rs := [6]) (by kernel_rfl) (by simp) ?_
                    refine AllReadyIn.cons rfl (fun K hK => ?_) ?_
                    · go_simp
                      refine hK _ _ ?_
                      clear hK K
                      refine wpAnyIn_done (by kernel_rfl) ?_ _
                      exact fin { tmps := #[], defers := [] } _ _ R5.out B5.out
                    exact AllReadyIn.nil
                  exact AllReadyIn.nil
                exact AllReadyIn.nil
              refine AllReadyIn.cons rfl (fun K hK => ?_) ?_
              · go_simp
                refine hK _ _ ?_
                clear hK K
                refine wpAnyIn_ready (rs := [0]) (by kernel_rfl) (by simp) ?_
                refine AllReadyIn.cons rfl (fun K hK => ?_) ?_
                · go_simp
                  refine hK _ _ ?_
                  clear hK K
                  refine wpAnyIn_ready (rs := [5]) (by kernel_rfl) (by simp) ?_
                  refine AllReadyIn.cons rfl (fun K hK => ?_) ?_
                  · refine stepI_R_append k27 (w0 := Wd) (W := w4) (w3.heap.size + 2) (by go_simp) _ _ 24 27 (.agg #[.int .i64 0, .int .i64 0]) 16 rfl Try.underlying24 info27 rfl (by decide) (by decide) v l' ⟨p.1, p.2⟩ [.int .i64 p.1, .int .i64 p.2] (fun _ => True) (fun _ => False) rfl rfl (k27_mkM _ _ _ _) (fun _ h => h.elim) (fun _ _ => trivial) RO4.out BW4.out SZ4.out (by rw [HL.out]; have := HN.out; have := HK.out; omega) ?_
                    intro v1 w5 r5 b5
                    obtain ⟨As, cs5, hv5⟩ := Kd.R_slice r5
                    rw [List.length_append, List.length_singleton] at hv5
                    subst hv5
                    have R5 := Sd.mk r5
                    have B5 := Sd.mk b5
                    clear r5 b5
                    have gs : w5.cell? ⟨w.heap.size + 1 + 1, 0, none⟩ = some v := (blk_cell (Below5 B5.out SL.out (by have := HG.out; have := HG3.out; omega)) 0).trans rfl
                    have gs' := blk_frozen (Below5 B5.out SL.out (by have := HG.out; have := HG3.out; omega)) 0
                    refine hK _ _ ?_
                    clear hK K
                    refine wpAnyIn_ready (rs := [6]) (by kernel_rfl) (by simp) ?_
                    refine AllReadyIn.cons rfl (fun K hK => ?_) ?_
                    · go_simp
                      refine hK _ _ ?_
                      clear hK K
                      refine wpAnyIn_done (by kernel_rfl) ?_ _
                      exact fin { tmps := #[], defers := [] } _ _ R5.out B5.out
                    exact AllReadyIn.nil
                  exact AllReadyIn.nil
                exact AllReadyIn.nil
              exact AllReadyIn.nil
            exact AllReadyIn.nil
          exact AllReadyIn.nil
        refine AllReadyIn.cons rfl (fun K hK => ?_) ?_
        · go_simp
          refine hK _ _ ?_
          clear hK K
          refine wpAnyIn_ready (rs := [0, 1]) (by kernel_rfl) (by simp) ?_
          refine AllReadyIn.cons rfl (fun K hK => ?_) ?_
          · go_simp
            refine hK _ _ ?_
            clear hK K
            refine wpAnyIn_ready (rs := [1]) (by kernel_rfl) (by simp) ?_
            refine AllReadyIn.cons rfl (fun K hK => ?_) ?_
            · go_simp
              refine hK _ _ ?_
              clear hK K
              refine wpAnyIn_ready (rs := [3]) (by kernel_rfl) (by simp) ?_
              refine AllReadyIn.cons rfl (fun K hK => ?_) ?_
              · go_simp
                gi_wp2_with (refine ⟨trivial, ?_⟩; gi_at_call 143; refine (CallsIn.inRound l (callsIn_wide.2 (strength_thickness.calls _ _ _ _ _ _ _ _ _ _ _ _ p.1 p.2 _ HP.out))).mono ?_; rintro e w4 ⟨rfl, hw4⟩; have BW4 := Sd.mk (show Below (w3.heap.size + 2) Wd w4 from hw4.mono HD2.out); have SZ4 := Sd.mk (show w3.heap.size + 2 ≤ w4.heap.size from Nat.le_trans HD2.out hw4.size); have RO4 := Sd.mk (Kd.R_below RO.out hw4); have SL4 := Sd.mk (blk_below SL.out hw4); clear hw4; have gv4 : w4.cell? ⟨w.heap.size + 1 + 1, 0, none⟩ = some v := (blk_cell SL4.out 0).trans rfl; have gv5 : (w4.alloc (.cells #[.int .i64 p.1, .int .i64 p.2] 27)).cell? ⟨w.heap.size + 1 + 1, 0, none⟩ = some v := (blk_cell (blk_alloc SL4.out _) 0).trans rfl)
                refine wpAnyIn_ready (rs := [4]) (by kernel_rfl) (by simp) ?_
                refine AllReadyIn.cons rfl (fun K hK => ?_) ?_
                · go_simp
                  refine hK _ _ ?_
                  clear hK K
                  refine wpAnyIn_ready (rs := [5]) (by kernel_rfl) (by simp) ?_
                  refine AllReadyIn.cons rfl (fun K hK => ?_) ?_
                  · refine stepI_R_append k27 (w0 := Wd) (W := w4) (w3.heap.size + 2) (by go_simp) _ _ 24 27 (.agg #[.int .i64 0, .int .i64 0]) 16 rfl Try.underlying24 info27 rfl (by decide) (by decide) v l' ⟨p.1, p.2⟩ [.int .i64 p.1, .int .i64 p.2] (fun _ => True) (fun _ => False) rfl rfl (k27_mkM _ _ _ _) (fun _ h => h.elim) (fun _ _ => trivial) RO4.out BW4.out SZ4.out (by rw [HL.out]; have := HN.out; have := HK.out; omega) ?_
                    intro v1 w5 r5 b5
                    obtain ⟨As, cs5, hv5⟩ := Kd.R_slice r5
                    rw [List.length_append, List.length_singleton] at hv5
                    subst hv5
                    have R5 := Sd.mk r5
                    have B5 := Sd.mk b5
                    clear r5 b5
                    have gs : w5.cell? ⟨w.heap.size + 1 + 1, 0, none⟩ = some v := (blk_cell (Below5 B5.out SL.out (by have := HG.out; have := HG3.out; omega)) 0).trans rfl
                    have gs' := blk_frozen (Below5 B5.out SL.out (by have := HG.out; have := HG3.out; omega)) 0
                    refine hK _ _ ?_
                    clear hK K
                    refine wpAnyIn_ready (rs := [6]) (by kernel_rfl) (by simp) ?_
                    refine AllReadyIn.cons rfl (fun K hK => ?_) ?_
                    · go_simp
                      refine hK _ _ ?_
                      clear hK K
                      refine wpAnyIn_done (by kernel_rfl) ?_ _
                      exact fin { tmps := #[], defers := [] } _ _ R5.out B5.out
                    exact AllReadyIn.nil
                  exact AllReadyIn.nil
                exact AllReadyIn.nil
              exact AllReadyIn.nil
            exact AllReadyIn.nil
          refine AllReadyIn.cons rfl (fun K hK => ?_) ?_
          · go_simp
            refine hK _ _ ?_
            clear hK K
            refine wpAnyIn_ready (rs := [0, 3]) (by kernel_rfl) (by simp) ?_
            refine AllReadyIn.cons rfl (fun K hK => ?_) ?_
            · go_simp
              refine hK _ _ ?_
              clear hK K
              refine wpAnyIn_ready (rs := [3]) (by kernel_rfl) (by simp) ?_
              refine AllReadyIn.cons rfl (fun K hK => ?_) ?_
              · go_simp
                gi_wp2_with (refine ⟨trivial, ?_⟩; gi_at_call 143; refine (CallsIn.inRound l (callsIn_wide.2 (strength_thickness.calls _ _ _ _ _ _ _ _ _ _ _ _ p.1 p.2 _ HP.out))).mono ?_; rintro e w4 ⟨rfl, hw4⟩; have BW4 := Sd.mk (show Below (w3.heap.size + 2) Wd w4 from hw4.mono HD2.out); have SZ4 := Sd.mk (show w3.heap.size + 2 ≤ w4.heap.size from Nat.le_trans HD2.out hw4.size); have RO4 := Sd.mk (Kd.R_below RO.out hw4); have SL4 := Sd.mk (blk_below SL.out hw4); clear hw4; have gv4 : w4.cell? ⟨w.heap.size + 1 + 1, 0, none⟩ = some v := (blk_cell SL4.out 0).trans rfl; have gv5 : (w4.alloc (.cells #[.int .i64 p.1, .int .i64 p.2] 27)).cell? ⟨w.heap.size + 1 + 1, 0, none⟩ = some v := (blk_cell (blk_alloc SL4.out _) 0).trans rfl)
                refine wpAnyIn_ready (rs := [4]) (by kernel_rfl) (by simp) ?_
                refine AllReadyIn.cons rfl (fun K hK => ?_) ?_
                · go_simp
                  refine hK _ _ ?_
                  clear hK K
                  refine wpAnyIn_ready (rs := [5]) (by kernel_rfl) (by simp) ?_
                  refine AllReadyIn.cons rfl (fun K hK => ?_) ?_
                  · refine stepI_R_append k27 (w0 := Wd) (W := w4) (w3.heap.size + 2) (by go_simp) _ _ 24 27 (.agg #[.int .i64 0, .int .i64 0]) 16 rfl Try.underlying24 info27 rfl (by decide) (by decide) v l' ⟨p.1, p.2⟩ [.int .i64 p.1, .int .i64 p.2] (fun _ => True) (fun _ => False) rfl rfl (k27_mkM _ _ _ _) (fun _ h => h.elim) (fun _ _ => trivial) RO4.out BW4.out SZ4.out (by rw [HL.out]; have := HN.out; have := HK.out; omega) ?_
                    intro v1 w5 r5 b5
                    obtain ⟨As, cs5, hv5⟩ := Kd.R_slice r5
                    rw [List.length_append, List.length_singleton] at hv5
                    subst hv5
                    have R5 := Sd.mk r5
                    have B5 := Sd.mk b5
                    clear r5 b5
                    have gs : w5.cell? ⟨w.heap.size + 1 + 1, 0, none⟩ = some v := (blk_cell (Below5 B5.out SL.out (by have := HG.out; have := HG3.out; omega)) 0).trans rfl
                    have gs' := blk_frozen (Below5 B5.out SL.out (by have := HG.out; have := HG3.out; omega)) 0
                    refine hK _ _ ?_
                    clear hK K
                    refine wpAnyIn_ready (rs := [6]) (by kernel_rfl) (by simp) ?_
                    refine AllReadyIn.cons rfl (fun K hK => ?_) ?_
                    · go_simp
                      refine hK _ _ ?_
                      clear hK K
                      refine wpAnyIn_done (by kernel_rfl) ?_ _
                      exact fin { tmps := #[], defers := [] } _ _ R5.out B5.out
                    exact AllReadyIn.nil
                  exact AllReadyIn.nil
                exact AllReadyIn.nil
              exact AllReadyIn.nil
            refine AllReadyIn.cons rfl (fun K hK => ?_) ?_
            · go_simp
              gi_wp2_with (refine ⟨trivial, ?_⟩; gi_at_call 143; refine (CallsIn.inRound l (callsIn_wide.2 (strength_thickness.calls _ _ _ _ _ _ _ _ _ _ _ _ p.1 p.2 _ HP.out))).mono ?_; rintro e w4 ⟨rfl, hw4⟩; have BW4 := Sd.mk (show Below (w3.heap.size + 2) Wd w4 from hw4.mono HD2.out); have SZ4 := Sd.mk (show w3.heap.size + 2 ≤ w4.heap.size from Nat.le_trans HD2.out hw4.size); have RO4 := Sd.mk (Kd.R_below RO.out hw4); have SL4 := Sd.mk (blk_below SL.out hw4); clear hw4; have gv4 : w4.cell? ⟨w.heap.size + 1 + 1, 0, none⟩ = some v := (blk_cell SL4.out 0).trans rfl; have gv5 : (w4.alloc (.cells #[.int .i64 p.1, .int .i64 p.2] 27)).cell? ⟨w.heap.size + 1 + 1, 0, none⟩ = some v := (blk_cell (blk_alloc SL4.out _) 0).trans rfl)
              refine wpAnyIn_ready (rs := [0, 4]) (by kernel_rfl) (by simp) ?_
              refine AllReadyIn.cons rfl (fun K hK => ?_) ?_
              · go_simp
                refine hK _ _ ?_
                clear hK K
                refine wpAnyIn_ready (rs := [4]) (by kernel_rfl) (by simp) ?_
                refine AllReadyIn.cons rfl (fun K hK => ?_) ?_
                · go_simp
                  refine hK _ _ ?_
                  clear hK K
                  refine wpAnyIn_ready (rs := [5]) (by kernel_rfl) (by simp) ?_
                  refine AllReadyIn.cons rfl (fun K hK => ?_) ?_
                  · refine stepI_R_append k27 (w0 := Wd) (W := w4) (w3.heap.size + 2) (by go_simp) _ _ 24 27 (.agg #[.int .i64 0, .int .i64 0]) 16 rfl Try.underlying24 info27 rfl (by decide) (by decide) v l' ⟨p.1, p.2⟩ [.int .i64 p.1, .int .i64 p.2] (fun _ => True) (fun _ => False) rfl rfl (k27_mkM _ _ _ _) (fun _ h => h.elim) (fun _ _ => trivial) RO4.out BW4.out SZ4.out (by rw [HL.out]; have := HN.out; have := HK.out; omega) ?_
                    intro v1 w5 r5 b5
                    obtain ⟨As, cs5, hv5⟩ := Kd.R_slice r5
                    rw [List.length_append, List.length_singleton] at hv5
                    subst hv5
                    have R5 := Sd.mk r5
                    have B5 := Sd.mk b5
                    clear r5 b5
                    have gs : w5.cell? ⟨w.heap.size + 1 + 1, 0, none⟩ = some v := (blk_cell (Below5 B5.out SL.out (by have := HG.out; have := HG3.out; omega)) 0).trans rfl
                    have gs' := blk_frozen (Below5 B5.out SL.out (by have := HG.out; have := HG3.out; omega)) 0
                    refine hK _ _ ?_
                    clear hK K
                    refine wpAnyIn_ready (rs := [6]) (by kernel_rfl) (by simp) ?_
                    refine AllReadyIn.cons rfl (fun K hK => ?_) ?_
                    · go_simp
                      refine hK _ _ ?_
                      clear hK K
                      refine wpAnyIn_done (by kernel_rfl) ?_ _
                      exact fin { tmps := #[], defers := [] } _ _ R5.out B5.out
                    exact AllReadyIn.nil
                  exact AllReadyIn.nil
                exact AllReadyIn.nil
              refine AllReadyIn.cons rfl (fun K hK => ?_) ?_
              · go_simp
                refine hK _ _ ?_
                clear hK K
                refine wpAnyIn_ready (rs := [0]) (by kernel_rfl) (by simp) ?_
                refine AllReadyIn.cons rfl (fun K hK => ?_) ?_
                · go_simp
                  refine hK _ _ ?_
                  clear hK K
                  refine wpAnyIn_ready (rs := [5]) (by kernel_rfl) (by simp) ?_
                  refine AllReadyIn.cons rfl (fun K hK => ?_) ?_
                  · refine stepI_R_append k27 (w0 := Wd) (W := w4) (w3.heap.size + 2) (by go_simp) _ _ 24 27 (.agg #[.int .i64 0, .int .i64 0]) 16 rfl Try.underlying24 info27 rfl (by decide) (by decide) v l' ⟨p.1, p.2⟩ [.int .i64 p.1, .int .i64 p.2] (fun _ => True) (fun _ => False) rfl rfl (k27_mkM _ _ _ _) (fun _ h => h.elim) (fun _ _ => trivial) RO4.out BW4.out SZ4.out (by rw [HL.out]; have := HN.out; have := HK.out; omega) ?_
                    intro v1 w5 r5 b5
                    obtain ⟨As, cs5, hv5⟩ := Kd.R_slice r5
                    rw [List.length_append, List.length_singleton] at hv5
                    subst hv5
                    have R5 := Sd.mk r5
                    have B5 := Sd.mk b5
                    clear r5 b5
                    have gs : w5.cell? ⟨w.heap.size + 1 + 1, 0, none⟩ = some v := (blk_cell (Below5 B5.out SL.out (by have := HG.out; have := HG3.out; omega)) 0).trans rfl
                    have gs' := blk_frozen (Below5 B5.out SL.out (by have := HG.out; have := HG3.out; omega)) 0
                    refine hK _ _ ?_
                    clear hK K
                    refine wpAnyIn_ready (rs := [6]) (by kernel_rfl) (by simp) ?_
                    refine AllReadyIn.cons rfl (fun K hK => ?_) ?_
                    · go_simp
                      refine hK _ _ ?_
                      clear hK K
                      refine wpAnyIn_done (by kernel_rfl) ?_ _
                      exact fin { tmps := #[], defers := [] } _ _ R5.out B5.out
                    exact AllReadyIn.nil
                  exact AllReadyIn.nil
                exact AllReadyIn.nil
              exact AllReadyIn.nil
            exact AllReadyIn.nil
          exact AllReadyIn.nil
        exact AllReadyIn.nil
      case fn => intro ⟨_, _, h⟩; exact h.elim
      case panic => intro _ _ h; exact h.elim
      case done =>
        intro W hI hD
        obtain ⟨v, l9, hI⟩ := hI
        have hll' := hI.li
        rw [HL.out] at hll'
        have e9 := Option.some.inj hll'
        subst e9
        have HI2 := Sd.mk hI
        have HD := Sd.mk hD
        obtain ⟨As, cs5, rfl⟩ := Kd.R_slice hI.ro
        have gv : W.cell? ⟨w.heap.size + 1 + 1, 0, none⟩ = some (.slice As l.length cs5) := (blk_cell hI.sl 0).trans rfl
        have gv' := blk_frozen hI.sl 0
        have ge : (W.setCell ⟨w.heap.size + 1 + 1, 0, none⟩ (.slice As l.length cs5)).cell? ⟨w.heap.size + 1 + 1 + 1, 0, none⟩ = some (.int .i64 0) := (blk_cell (blk_far hI.er (p := ⟨w.heap.size + 1 + 1, 0, none⟩) (by simp) _) 0).trans rfl
        have ge' := blk_frozen (blk_far hI.er (p := ⟨w.heap.size + 1 + 1, 0, none⟩) (by simp) (.slice As l.length cs5)) 0
        clear hI hD BX3 BS3 BL3 BE3 RB3 HB3 BX1 BS1 BL1 BE1 HB1 BL2 BE2 HB2 HB BX BS BL BE
        gi_wp2
        have hg1 := HG.out
        have hg2 := HG3.out
        have hi2 := HI2.out
        refine ⟨by simp, .inl ⟨_, _, rfl, run_takeDeferred ((Below.heap_setCell _ _ _ _ (by simp; omega)).trans ((Below.heap_setCell _ _ _ _ (by simp; omega)).trans HD.out)), ?_⟩⟩
        refine leavesInM_fn (f := 139) (args := #[.pointer (some ⟨w.heap.size + 1 + 1 + 1, 0, none⟩)]) (by simp) (by simp [go_sem]) ?_
        refine (door139I_ok _ _ _).mono ?_
        rintro e u' w'' ⟨rfl, rfl, rfl⟩
        have hlt : w3.heap.size < W.heap.size := (Array.getElem?_eq_some_iff.1 HD.out).1
        refine ⟨_, results_ce rfl _ _ (w.heap.size + 1 + 1) (w.heap.size + 1 + 1 + 1) _ _ rfl (run_var24 _ _ _ (putObj_heap_keep (by omega) (blk_far (blk_put hi2.sl 0 _ rfl) (p := ⟨w.heap.size + 1 + 1 + 1, 0, none⟩) (by simp) _))) rfl (putObj_heap_keep (by omega) (blk_put (blk_far hi2.er (p := ⟨w.heap.size + 1 + 1, 0, none⟩) (by simp) _) 0 _ rfl)), _, rfl, ?_, below_putObj (below_set (below_set hi2.be (by omega)) (by omega)) (by omega) (by simpa using hlt)⟩
        exact Kd.R_lower (R_put (Kd.R_set (Kd.R_set hi2.ro hi2.sl (by simp [k27_E]) 0 _) (blk_far hi2.er (p := ⟨w.heap.size + 1 + 1, 0, none⟩) (by simp) _) (by simp [k27_E]) 0 _) (by omega) _) (by omega)
    | false =>
      rw [if_neg (by rw [hi']; simp)] at h
      simp only [Option.some.injEq, Prod.mk.injEq] at h
      obtain ⟨rfl, rfl⟩ := h
      have HI := Sd.mk hi'
      clear hi'
      refine (callsIn_wide (n := 9)).1 (callsIn_of_wp_marks Try.func85 rfl trivial ?_ rfl)
      simp only [Try.ntmps85, List.size_toArray, List.length_cons, List.length_nil, Nat.reduceAdd, Nat.reduceSub, Array.replicate_succ, Array.replicate_zero, List.push_toArray, List.append_toArray, List.nil_append, List.cons_append]
      gi_wp2_with (first | (refine ⟨trivial, ?_⟩; gi_at_call 140; refine (callsIn_wide.2 (bottle_ok A c zs f1 f2 _ HR.out H0.out)).mono ?_; rintro e w1 ⟨rfl, hw1⟩; have BX1 := Sd.mk (blk_below BX.out hw1); have BS1 := Sd.mk (blk_below BS.out hw1); have BL1 := Sd.mk (blk_below BL.out hw1); have BE1 := Sd.mk (blk_below BE.out hw1); have HB1 := Sd.mk (below_then HB.out (by have := HSZ.out; omega) hw1); have HSZ1 := Sd.mk (show w.heap.size + 4 ≤ w1.heap.size from Nat.le_trans (by have := HSZ.out; omega) hw1.size); clear hw1; have ht0 : w1.cell? ⟨w.heap.size + 1, 0, none⟩ = some (.int .i64 lo) := (blk_cell BS1.out 0).trans rfl; have ht1 : w1.cell? ⟨w.heap.size + 1, 0 + 1, none⟩ = some (.int .i64 hi) := (blk_cell BS1.out 1).trans rfl; have hb0 : w1.cell? ⟨w.heap.size, 0, none⟩ = some (.slice A zs.length c) := (blk_cell BX1.out 0).trans rfl; have hb1 : w1.cell? ⟨w.heap.size, 0 + 1, none⟩ = some (.int .i64 f1) := (blk_cell BX1.out 1).trans rfl; have hb2 : w1.cell? ⟨w.heap.size, 0 + 2, none⟩ = some (.int .i64 f2) := (blk_cell BX1.out 2).trans rfl) | (refine ⟨trivial, ?_⟩; gi_at_call 141; refine (callsIn_wide.2 (sspan_f _ _ _ _ _)).mono ?_; rw [HI.out]; rintro e w2 ⟨rfl, hw2⟩; have BX2 := BX1; have BS2 := BS1; clear BX1 BS1; have BX1 := Sd.mk (blk_below BX2.out hw2); have BS1 := Sd.mk (blk_below BS2.out hw2); have BL2 := Sd.mk (blk_below BL1.out hw2); have BE2 := Sd.mk (blk_below BE1.out hw2); have HB2 := Sd.mk (below_then HB1.out HB1.out.size hw2); have HSZ2 := Sd.mk (show w.heap.size + 4 ≤ w2.heap.size from Nat.le_trans HSZ1.out hw2.size); clear BX2 BS2 hw2; have hb0 : w2.cell? ⟨w.heap.size, 0, none⟩ = some (.slice A zs.length c) := (blk_cell BX1.out 0).trans rfl; have hb1 : w2.cell? ⟨w.heap.size, 0 + 1, none⟩ = some (.int .i64 f1) := (blk_cell BX1.out 1).trans rfl; have hb2 : w2.cell? ⟨w.heap.size, 0 + 2, none⟩ = some (.int .i64 f2) := (blk_cell BX1.out 2).trans rfl) | (refine ⟨trivial, ?_⟩; gi_at_call 91; (with_reducible refine (callsIn_wide.2 (demand_no _ _)).mono ?_); rintro e w' ⟨rfl, rfl⟩))
      refine leavesInM_fn (f := 139) (args := #[.pointer (some ⟨w.heap.size + 1 + 1 + 1, 0, none⟩)]) (by simp) (by simp [go_sem]) ?_
      refine (door139I_fail _ _ _ 0 [] _ BE2.out).mono ?_
      rintro e u' w'' ⟨rfl, rfl, rfl⟩
      exact ⟨_, results_ce rfl _ _ (w.heap.size + 1 + 1) (w.heap.size + 1 + 1 + 1) _ _ rfl (run_var24 _ _ _ (blk_far (blk_alloc BL2.out _) (p := ⟨w.heap.size + 1 + 1 + 1, 0, none⟩) (by simp) _)) rfl (blk_put (blk_alloc BE2.out _) 0 _ rfl), _, rfl, Kd.R_nil _ _ _ _ _, below_set (below_alloc HB2.out _) (by omega)⟩
  · rw [if_neg h0] at h
    simp only [Option.some.injEq, Prod.mk.injEq] at h
    obtain ⟨rfl, rfl⟩ := h
    have H0 := Sd.mk h0
    clear h0
    refine (callsIn_wide (n := 9)).1 (callsIn_of_wp_marks Try.func85 rfl trivial ?_ rfl)
    simp only [Try.ntmps85, List.size_toArray, List.length_cons, List.length_nil, Nat.reduceAdd, Nat.reduceSub, Array.replicate_succ, Array.replicate_zero, List.push_toArray, List.append_toArray, List.nil_append, List.cons_append]
    gi_wp2_with (first | (refine ⟨trivial, ?_⟩; gi_at_call 140; refine (callsIn_wide.2 (bottle_no A c zs f1 f2 _ HR.out H0.out)).mono ?_; rintro e w1 ⟨rfl, hw1⟩; have BX1 := Sd.mk (blk_below BX.out hw1); have BS1 := Sd.mk (blk_below BS.out hw1); have BL1 := Sd.mk (blk_below BL.out hw1); have BE1 := Sd.mk (blk_below BE.out hw1); have HB1 := Sd.mk (below_then HB.out (by have := HSZ.out; omega) hw1); have HSZ1 := Sd.mk (show w.heap.size + 4 ≤ w1.heap.size from Nat.le_trans (by have := HSZ.out; omega) hw1.size); clear hw1; have ht0 : w1.cell? ⟨w.heap.size + 1, 0, none⟩ = some (.int .i64 lo) := (blk_cell BS1.out 0).trans rfl; have ht1 : w1.cell? ⟨w.heap.size + 1, 0 + 1, none⟩ = some (.int .i64 hi) := (blk_cell BS1.out 1).trans rfl; have hb0 : w1.cell? ⟨w.heap.size, 0, none⟩ = some (.slice A zs.length c) := (blk_cell BX1.out 0).trans rfl; have hb1 : w1.cell? ⟨w.heap.size, 0 + 1, none⟩ = some (.int .i64 f1) := (blk_cell BX1.out 1).trans rfl; have hb2 : w1.cell? ⟨w.heap.size, 0 + 2, none⟩ = some (.int .i64 f2) := (blk_cell BX1.out 2).trans rfl))
    refine leavesInM_fn (f := 139) (args := #[.pointer (some ⟨w.heap.size + 1 + 1 + 1, 0, none⟩)]) (by simp) (by simp [go_sem]) ?_
    refine (door139I_fail _ _ _ 0 [] _ BE1.out).mono ?_
    rintro e u' w'' ⟨rfl, rfl, rfl⟩
    exact ⟨_, results_ce rfl _ _ (w.heap.size + 1 + 1) (w.heap.size + 1 + 1 + 1) _ _ rfl (run_var24 _ _ _ (blk_far (blk_alloc BL1.out _) (p := ⟨w.heap.size + 1 + 1 + 1, 0, none⟩) (by simp) _)) rfl (blk_put (blk_alloc BE1.out _) 0 _ rfl), _, rfl, Kd.R_nil _ _ _ _ _, below_set (below_alloc HB1.out _) (by omega)⟩
end Go.Proofs.Ytkjkokgbhepmoaa.PB

namespace Go.Proofs.Ytkjkokgbhepmoaa.PB
open Go.RowKit Go.Proofs.YtkjkokgbhepmoaaW.PrintWords Go.Proofs.YtkjkokgbhepmoaaW.PrintLast Go.Proofs.YtkjkokgbhepmoaaW.PrintMore
attribute [local go_sem] max2_int min2_int max_two min_two max_three min_three max_four min_four
def culletlaw05_exact.f (a0 : Int) : Option (Int × Int) := some (a0, a0)
set_option maxHeartbeats 8000000 in
set_option maxRecDepth 100000 in
theorem culletlaw05_exact.calls (a0 : Int) (r1 : Int) (r2 : Int) (w : World) (h : culletlaw05_exact.f a0 = some (r1, r2)) :
  Calls Try.prog 144 #[.int .i64 a0] w fun e w' => e = .returned (.agg #[.int .i64 r1, .int .i64 r2]) ∧ Below w.heap.size w w' := by
 have hu27 := Try.underlying27; have HB := Sd.mk (Below.refl w.heap.size w)
 have H : (some (a0, a0)) = some (r1, r2) := h
 clear h
 simp only [Option.some.injEq, Prod.mk.injEq] at H
 obtain ⟨rfl, rfl⟩ := H
 go_enter Try.func144, Try.ntmps144
 go_wp2_with (first | ((with_reducible refine gate_dst (N := 2) rfl ?_); refine box_event ?hg (N := 2) ?hd (cs := #[.int .i64 0, .int .i64 0]) (t := 27) ?hr ?_; (case hd => rfl); (case hg => rfl); (case hr => exact tG); intro gb634 hg w2 hbox hb; have BK634 := Sd.mk (hbox); have GW634 := Sd.mk (bSz hg (bBl HB.out)); have GE634 := Sd.mk (bSz hg (bBl HB.out)); replace HB := Sd.mk (below_step (bBl HB.out) hb); clear hb hbox hg; obtain ⟨u3_0, u3_1, o3_0, o3_1⟩ := bc2 (w := w2) BK634.out))
 refine bodyPost_ret (results_cell_row rfl _ _ gb634 27 #[.int .i64 a0, .int .i64 a0] (0, 0) _ rfl (by (with_reducible repeat (first | refine blk_drewN ?_ _ | refine blk_drew ?_ | refine blk_alloc ?_ _)); refine blk_put (cs := #[.int .i64 a0, .int .i64 0]) ?_ 1 _ rfl; (with_reducible repeat (first | refine blk_drewN ?_ _ | refine blk_drew ?_ | refine blk_alloc ?_ _)); refine blk_put (cs := #[.int .i64 0, .int .i64 0]) ?_ 0 _ rfl; (with_reducible repeat (first | refine blk_drewN ?_ _ | refine blk_drew ?_ | refine blk_alloc ?_ _)); exact BK634.out) Try.underlying27 rfl (by kernel_rfl)) rfl ?_
 exact ⟨tE, bBl HB.out⟩
end Go.Proofs.Ytkjkokgbhepmoaa.PB

namespace Go.Proofs.Ytkjkokgbhepmoaa.PB
open Go.RowKit Go.Proofs.YtkjkokgbhepmoaaW.PrintWords Go.Proofs.YtkjkokgbhepmoaaW.PrintLast Go.Proofs.YtkjkokgbhepmoaaW.PrintMore
attribute [local go_sem] max2_int min2_int max_two min_two max_three min_three max_four min_four
def culletlaw05_Example.f  : Option ((List (S170)) × Int × Int) := (culletlaw05_exact.f 300).bind fun bt636 => ((culletlaw05_exact.f 1000).bind fun bt638 => ((culletlaw05_exact.f 1000).bind fun bt640 => ((culletlaw05_exact.f 1000).bind fun bt642 => ((culletlaw05_exact.f 500).bind fun bt644 => (some ((([(⟨(⟨bt636.1, bt636.2⟩ : S27), (⟨bt638.1, bt638.2⟩ : S27), (⟨bt640.1, bt640.2⟩ : S27), (⟨bt642.1, bt642.2⟩ : S27), (⟨bt644.1, bt644.2⟩ : S27)⟩ : S170)] : List (S170))), 10, 40000000000))))))
set_option maxHeartbeats 8000000 in
set_option maxRecDepth 100000 in
theorem culletlaw05_Example.calls  (r1 : List (S170)) (r2 : Int) (r3 : Int) (w : World) (h : culletlaw05_Example.f  = some (r1, r2, r3)) :
  Calls Try.prog 86 #[] w fun e w' => ∃ v0_ : Value, e = .returned (.agg #[v0_, .int .i64 r2, .int .i64 r3]) ∧ Kd.R k170 170 w' w.heap.size (fun _ => True) v0_ r1 ∧ Below w.heap.size w w' := by
 have hu92 := Try.underlying92; have hu170 := Try.underlying170; have HB := Sd.mk (Below.refl w.heap.size w)
 have H : ((culletlaw05_exact.f 300).bind fun bt636 => ((culletlaw05_exact.f 1000).bind fun bt638 => ((culletlaw05_exact.f 1000).bind fun bt640 => ((culletlaw05_exact.f 1000).bind fun bt642 => ((culletlaw05_exact.f 500).bind fun bt644 => (some ((([(⟨(⟨bt636.1, bt636.2⟩ : S27), (⟨bt638.1, bt638.2⟩ : S27), (⟨bt640.1, bt640.2⟩ : S27), (⟨bt642.1, bt642.2⟩ : S27), (⟨bt644.1, bt644.2⟩ : S27)⟩ : S170)] : List (S170))), 10, 40000000000))))))) = some (r1, r2, r3) := h
 clear h; replace H := Option.bind_eq_some_iff.mp H
 obtain ⟨⟨t636, t637⟩, A10, H⟩ := H
 try dsimp only at H
 have A1 := Sd.mk A10; clear A10; replace H := Option.bind_eq_some_iff.mp H
 obtain ⟨⟨t638, t639⟩, A20, H⟩ := H
 try dsimp only at H
 have A2 := Sd.mk A20; clear A20; replace H := Option.bind_eq_some_iff.mp H
 obtain ⟨⟨t640, t641⟩, A30, H⟩ := H
 try dsimp only at H
 have A3 := Sd.mk A30; clear A30; replace H := Option.bind_eq_some_iff.mp H
 obtain ⟨⟨t642, t643⟩, A40, H⟩ := H
 try dsimp only at H
 have A4 := Sd.mk A40; clear A40; replace H := Option.bind_eq_some_iff.mp H
 obtain ⟨⟨t644, t645⟩, A50, H⟩ := H
 try dsimp only at H
 have A5 := Sd.mk A50; clear A50
 obtain ⟨y646, hy646⟩ : ∃ y_ : List (S170), y_ = (([(⟨(⟨t636, t637⟩ : S27), (⟨t638, t639⟩ : S27), (⟨t640, t641⟩ : S27), (⟨t642, t643⟩ : S27), (⟨t644, t645⟩ : S27)⟩ : S170)] : List (S170))) := ⟨_, rfl⟩
 replace H : (some (y646, 10, 40000000000)) = some (r1, r2, r3) := by first | (rw [hy646]; with_reducible exact H) | (have H2_ := (Option.bind_some _ _).symm.trans H; rw [hy646]; with_reducible exact H2_) | (have H2_ := (Option.bind_some _ _).symm.trans H; with_reducible exact H2_) | with_reducible exact H | (rw [hy646]; exact H) | exact H
 have Ny646 := Sd.mk hy646; clear hy646
 simp only [Option.some.injEq, Prod.mk.injEq] at H
 obtain ⟨rfl, rfl, rfl⟩ := H
 go_enter Try.func86, Try.ntmps86
 go_wp2_with (first | ((with_reducible refine gate_dst (N := 0) rfl ?_); refine box_event ?hg (N := 0) ?hd (cs := #[.slice none 0 0, .int .i64 0, .int .i64 0]) (t := 92) ?hr ?_; (case hd => rfl); (case hg => rfl); (case hr => exact tG); intro gb635 hg w6 hbox hb; have BK635 := Sd.mk (hbox); have GW635 := Sd.mk (bSz hg (bBl HB.out)); have GE635 := Sd.mk (bSz hg (bBl HB.out)); replace HB := Sd.mk (below_step (bBl HB.out) hb); clear hb hbox hg) | ((with_reducible refine gate_callee (f := 144) rfl ?_); refine goesL_ (some 1) rfl rfl Try.func144 (by kernel_rfl) rfl #[.int .i64 300] rfl tM ?_; (with_reducible refine (culletlaw05_exact.calls 300 t636 t637 _ A1.out).mono ?_); rintro e w7 ⟨rfl, hb⟩; refine ⟨_, rfl, ?_⟩; replace BK635 := Sd.mk (blk_below (bkA BK635.out) hb); replace HB := Sd.mk (below_step (bBl HB.out) hb); (try clear hb); (try clear hb2); (try clear hk); (try clear hi)) | ((with_reducible refine gate_callee (f := 144) rfl ?_); refine goesL_ (some 2) rfl rfl Try.func144 (by kernel_rfl) rfl #[.int .i64 1000] rfl tM ?_; (with_reducible refine (culletlaw05_exact.calls 1000 t638 t639 _ A2.out).mono ?_); rintro e w8 ⟨rfl, hb⟩; refine ⟨_, rfl, ?_⟩; replace BK635 := Sd.mk (blk_below (bkA BK635.out) hb); replace HB := Sd.mk (below_step (bBl HB.out) hb); (try clear hb); (try clear hb2); (try clear hk); (try clear hi)) | ((with_reducible refine gate_callee (f := 144) rfl ?_); refine goesL_ (some 3) rfl rfl Try.func144 (by kernel_rfl) rfl #[.int .i64 1000] rfl tM ?_; (with_reducible refine (culletlaw05_exact.calls 1000 t640 t641 _ A3.out).mono ?_); rintro e w9 ⟨rfl, hb⟩; refine ⟨_, rfl, ?_⟩; replace BK635 := Sd.mk (blk_below (bkA BK635.out) hb); replace HB := Sd.mk (below_step (bBl HB.out) hb); (try clear hb); (try clear hb2); (try clear hk); (try clear hi)) | ((with_reducible refine gate_callee (f := 144) rfl ?_); refine goesL_ (some 4) rfl rfl Try.func144 (by kernel_rfl) rfl #[.int .i64 1000] rfl tM ?_; (with_reducible refine (culletlaw05_exact.calls 1000 t642 t643 _ A4.out).mono ?_); rintro e w10 ⟨rfl, hb⟩; refine ⟨_, rfl, ?_⟩; replace BK635 := Sd.mk (blk_below (bkA BK635.out) hb); replace HB := Sd.mk (below_step (bBl HB.out) hb); (try clear hb); (try clear hb2); (try clear hk); (try clear hi)) | ((with_reducible refine gate_callee (f := 144) rfl ?_); refine goesL_ (some 5) rfl rfl Try.func144 (by kernel_rfl) rfl #[.int .i64 500] rfl tM ?_; (with_reducible refine (culletlaw05_exact.calls 500 t644 t645 _ A5.out).mono ?_); rintro e w11 ⟨rfl, hb⟩; refine ⟨_, rfl, ?_⟩; replace BK635 := Sd.mk (blk_below (bkA BK635.out) hb); replace HB := Sd.mk (below_step (bBl HB.out) hb); (try clear hb); (try clear hb2); (try clear hk); (try clear hi)) | ((with_reducible refine gate_dst (N := 7) rfl ?_); refine Kd.R_lit k170 _ 170 ?hg (N := 7) ?hd (xs := ([(⟨(⟨t636, t637⟩ : S27), (⟨t638, t639⟩ : S27), (⟨t640, t641⟩ : S27), (⟨t642, t643⟩ : S27), (⟨t644, t645⟩ : S27)⟩ : S170)] : List (S170))) (inner := [.int .i64 t636, .int .i64 t637, .int .i64 t638, .int .i64 t639, .int .i64 t640, .int .i64 t641, .int .i64 t642, .int .i64 t643, .int .i64 t644, .int .i64 t645]) (ok := fun _ => True) (okp := fun _ => True) ?hr ?hp (fun _ hk => hk) trivial (Below.refl _ _) (Nat.le_refl _) (by simp) ?_; (case hd => rfl); (case hg => rfl); (case hr => exact tG); (case hp => exact (Reps.c10 (show Kd.M k170 _ _ _ (⟨(⟨t636, t637⟩ : S27), (⟨t638, t639⟩ : S27), (⟨t640, t641⟩ : S27), (⟨t642, t643⟩ : S27), (⟨t644, t645⟩ : S27)⟩ : S170) [.int .i64 t636, .int .i64 t637, .int .i64 t638, .int .i64 t639, .int .i64 t640, .int .i64 t641, .int .i64 t642, .int .i64 t643, .int .i64 t644, .int .i64 t645] from (k170_mkM _ _ _ (⟨(⟨t636, t637⟩ : S27), (⟨t638, t639⟩ : S27), (⟨t640, t641⟩ : S27), (⟨t642, t643⟩ : S27), (⟨t644, t645⟩ : S27)⟩ : S170) )) (Reps.none _ _))); intro v647 w12 ho13 hb hg_ hnew_; clear hg_ hnew_; (first | rw [← Ny646.out] at ho13 | (simp only [Int.reduceToNat] at ho13; rw [← Ny646.out] at ho13)); have HO648 := Sd.mk (Kd.R_lower ho13 (below_size (bBl HB.out))); replace BK635 := Sd.mk (blk_below (bkA BK635.out) hb); replace HB := Sd.mk (below_step (bBl HB.out) hb); clear hb ho13; obtain ⟨Ao14, co14, eo14⟩ := Kd.R_slice HO648.out; subst eo14; obtain ⟨u15_0, u15_1, u15_2, o15_0, o15_1, o15_2⟩ := bc3 (w := w12) BK635.out))
 refine bodyPost_ret (results_cell_row rfl _ _ gb635 92 #[.slice Ao14 y646.length co14, .int .i64 10, .int .i64 40000000000] (0, 0) _ rfl (by (with_reducible repeat (first | refine blk_drewN ?_ _ | refine blk_drew ?_ | refine blk_alloc ?_ _)); refine blk_put (cs := #[.slice Ao14 y646.length co14, .int .i64 10, .int .i64 0]) ?_ 2 _ rfl; (with_reducible repeat (first | refine blk_drewN ?_ _ | refine blk_drew ?_ | refine blk_alloc ?_ _)); refine blk_put (cs := #[.slice Ao14 y646.length co14, .int .i64 0, .int .i64 0]) ?_ 1 _ rfl; (with_reducible repeat (first | refine blk_drewN ?_ _ | refine blk_drew ?_ | refine blk_alloc ?_ _)); refine blk_put (cs := #[.slice none 0 0, .int .i64 0, .int .i64 0]) ?_ 0 _ rfl; (with_reducible repeat (first | refine blk_drewN ?_ _ | refine blk_drew ?_ | refine blk_alloc ?_ _)); exact BK635.out) Try.underlying92 rfl (by kernel_rfl)) rfl ?_
 exact ⟨_, tE, by (with_reducible repeat (first | apply Kd.R_alloc | apply Kd.R_drewN | apply Kd.R_drew)); exact Kd.R_mono (Kd.R_far (p := ⟨gb635, 2, none⟩) (Kd.R_far (p := ⟨gb635, 1, none⟩) (Kd.R_far (p := ⟨gb635, 0, none⟩) (Kd.R_types HO648.out BK635.out (by decide)) (fun _ hk => hk.2) (.slice Ao14 y646.length co14)) (fun _ hk => hk.2) (.int .i64 10)) (fun _ hk => hk.2) (.int .i64 40000000000)) (fun _ hk => trivial), bBl HB.out⟩
end Go.Proofs.Ytkjkokgbhepmoaa.PB

namespace Go.Proofs.Ytkjkokgbhepmoaa.PB
open Go.RowKit Go.Proofs.YtkjkokgbhepmoaaW.PrintWords Go.Proofs.YtkjkokgbhepmoaaW.PrintLast Go.Proofs.YtkjkokgbhepmoaaW.PrintMore
attribute [local go_sem] max2_int min2_int max_two min_two max_three min_three max_four min_four
def culletlaw05_lives.f (k : Nat)  : Option (Bool) := (culletlaw05_Example.f).bind fun bt647 => ((x_Thickness.f bt647.1 bt647.2.1 bt647.2.2 1000 1000).bind fun bt652 => (if bt652.2 = 0 then ((lw_SameSpans.f k bt652.1 (([(⟨212, 213⟩ : S27)] : List (S27)))).bind fun t659 => (some t659)) else (some false)))
theorem culletlaw05_lives.mono : ∀ k, LeO (culletlaw05_lives.f k ) (culletlaw05_lives.f (k + 1) ) := by
  intro  k
  unfold culletlaw05_lives.f
  repeat' first
      | (with_reducible exact lw_SameSpans.mono _ _ _)
      | (with_reducible exact LeO.refl _)
      | (with_reducible exact LeO.none _)
      | (with_reducible refine LeO.ite ?_ ?_)
      | (with_reducible refine LeO.bind ?_ (fun _ => ?_))
      | exact lw_SameSpans.mono _ _ _
      | exact LeO.none _
      | refine LeO.ite ?_ ?_
      | refine LeO.bind ?_ (fun _ => ?_)
set_option maxHeartbeats 8000000 in
set_option maxRecDepth 100000 in
theorem culletlaw05_lives.calls (k : Nat)  (r : Bool) (w : World) (h : culletlaw05_lives.f k  = some r) :
    Calls Try.prog 36 #[] w fun e w' => e = .returned (.bool r) ∧ Below w.heap.size w w' := by
  have hu27 := Try.underlying27
  have HB := Sd.mk (Below.refl w.heap.size w)
  have H : ((culletlaw05_Example.f).bind fun bt647 => ((x_Thickness.f bt647.1 bt647.2.1 bt647.2.2 1000 1000).bind fun bt652 => (if bt652.2 = 0 then ((lw_SameSpans.f k bt652.1 (([(⟨212, 213⟩ : S27)] : List (S27)))).bind fun t659 => (some t659)) else (some false)))) = some r := h
  clear h
  replace H := Option.bind_eq_some_iff.mp H
  obtain ⟨⟨t647, t650, t651⟩, A10, H⟩ := H
  replace H : ((x_Thickness.f t647 t650 t651 1000 1000).bind fun bt652 => (if bt652.2 = 0 then ((lw_SameSpans.f k bt652.1 (([(⟨212, 213⟩ : S27)] : List (S27)))).bind fun t659 => (some t659)) else (some false))) = some r := H
  have A1 := Sd.mk A10
  clear A10
  replace H := Option.bind_eq_some_iff.mp H
  obtain ⟨⟨t652, t655⟩, A20, H⟩ := H
  replace H : (if t655 = 0 then ((lw_SameSpans.f k t652 (([(⟨212, 213⟩ : S27)] : List (S27)))).bind fun t659 => (some t659)) else (some false)) = some r := H
  have A2 := Sd.mk A20
  clear A20
  by_cases c3 : t655 = 0
  · rw [if_pos c3] at H
    have c3b0 : (t655 == 0) = true := beq_iff_eq.mpr c3
    have c3b1 : (t655 != 0) = false := bne_eq_false_iff_eq.mpr c3
    clear c3
    obtain ⟨y656, hy656⟩ : ∃ y_ : List (S27), y_ = (([(⟨212, 213⟩ : S27)] : List (S27))) := ⟨_, rfl⟩
    replace H : ((lw_SameSpans.f k t652 y656).bind fun t659 => (some t659)) = some r := by first | (rw [hy656]; with_reducible exact H) | (have H2_ := (Option.bind_some _ _).symm.trans H; rw [hy656]; with_reducible exact H2_) | (have H2_ := (Option.bind_some _ _).symm.trans H; with_reducible exact H2_) | with_reducible exact H | (rw [hy656]; exact H) | exact H
    have Ny656 := Sd.mk hy656
    clear hy656
    replace H := Option.bind_eq_some_iff.mp H
    obtain ⟨t659, A40, H⟩ := H
    replace H : (some t659) = some r := H
    have A4 := Sd.mk A40
    clear A40
    obtain rfl := Option.some.inj H
    go_enter Try.func36, Try.ntmps36
    go_wp2_with (first | ((with_reducible refine gate_callee (f := 86) rfl ?_); refine goesL_ (some 4) rfl rfl Try.func86 (by kernel_rfl) rfl #[] rfl (by (try simp only [List.map_toArray, List.map_cons, List.map_nil]); first | done | rfl | (simp only [List.length_drop, List.length_take]; rfl)) ?_; (with_reducible refine (culletlaw05_Example.calls  t647 t650 t651 _ A1.out).mono ?_); rintro e w5 ⟨v648, rfl, ho0, hb⟩; refine ⟨_, rfl, ?_⟩; have n0_ := Sd.mk (Kd.R_lower ho0 (below_size (by repeat (first | (with_reducible first | exact HB.out | apply below_alloc | apply pw_below_drewN | apply below_drew1) | exact HB.out)))); have n1_ := Sd.mk (below_step (by repeat (first | (with_reducible first | exact HB.out | apply below_alloc | apply pw_below_drewN | apply below_drew1) | exact HB.out)) hb); clear HB; have HO649 := n0_; have HB := n1_; clear n0_ n1_; (try clear hb); (try clear hb2); (try clear hk); (try clear hi); (try clear ho0); obtain ⟨Ao6, co6, eo6⟩ := Kd.R_slice HO649.out; subst eo6) | ((with_reducible refine gate_callee (f := 85) rfl ?_); refine goesL_ (some 6) rfl rfl Try.func85 (by kernel_rfl) rfl #[.agg #[.slice Ao6 t647.length co6, .int .i64 t650, .int .i64 t651], .agg #[.int .i64 1000, .int .i64 1000]] rfl (by (try simp only [List.map_toArray, List.map_cons, List.map_nil]); first | done | rfl | (simp only [List.length_drop, List.length_take]; rfl)) ?_; (with_reducible refine (x_Thickness.calls _ _ t647 t650 t651 1000 1000 t652 t655 _ ?side1 ?side2 A2.out).mono ?_); (case side1 => repeat (first | exact (Kd.R_reads' HO649.out).2.2 | (with_reducible refine Kd.C_alloc ?_ _) | (with_reducible refine Kd.C_drewN ?_ _) | (with_reducible refine Kd.C_drew ?_))); (case side2 => exact (Kd.R_reads' HO649.out).2.1); rintro e w7 ⟨v653, rfl, ho0, hb⟩; refine ⟨_, rfl, ?_⟩; have n0_ := Sd.mk (Kd.R_below (by (with_reducible repeat (first | apply Kd.R_alloc | apply Kd.R_drewN | apply Kd.R_drew)); exact HO649.out) hb); have n1_ := Sd.mk (Kd.R_lower ho0 (below_size (by repeat (first | (with_reducible first | exact HB.out | apply below_alloc | apply pw_below_drewN | apply below_drew1) | exact HB.out)))); have n2_ := Sd.mk (below_step (by repeat (first | (with_reducible first | exact HB.out | apply below_alloc | apply pw_below_drewN | apply below_drew1) | exact HB.out)) hb); clear HO649; clear HB; have HO649 := n0_; have HO654 := n1_; have HB := n2_; clear n0_ n1_ n2_; (try clear hb); (try clear hb2); (try clear hk); (try clear hi); (try clear ho0)) | ((with_reducible refine gate_dst (N := 14) rfl ?_); (try (refine gate_guard (by rfl) ?_; dsimp only)); refine Kd.R_lit k27 _ 27 ?hg (N := 14) ?hd (xs := ([(⟨212, 213⟩ : S27)] : List (S27))) (inner := [.int .i64 212, .int .i64 213]) (ok := fun _ => True) (okp := fun _ => True) ?hr ?hp (fun _ hk => hk) trivial (Below.refl _ _) (Nat.le_refl _) (by simp) ?_; (case hd => rfl); (case hg => rfl); (case hr => first | (go_simp; done) | (go_simp; rfl)); (case hp => exact (Reps.c2 (show Kd.M k27 _ _ _ (⟨212, 213⟩ : S27) [.int .i64 212, .int .i64 213] from (k27_mkM _ _ _ (⟨212, 213⟩ : S27) )) (Reps.none _ _))); intro v657 w8 ho9 hb hg_ hnew_; clear hg_ hnew_; (first | rw [← Ny656.out] at ho9 | (simp only [Int.reduceToNat] at ho9; rw [← Ny656.out] at ho9)); have n0_ := Sd.mk (Kd.R_below (by (with_reducible repeat (first | apply Kd.R_alloc | apply Kd.R_drewN | apply Kd.R_drew)); exact HO649.out) hb); have n1_ := Sd.mk (Kd.R_elder' (by (with_reducible repeat (first | apply Kd.R_alloc | apply Kd.R_drewN | apply Kd.R_drew)); exact HO654.out) (Kd.R_base ho9) hb); have n2_ := Sd.mk (Kd.R_lower (Kd.R_new' ho9 (Kd.R_lt (by (with_reducible repeat (first | apply Kd.R_alloc | apply Kd.R_drewN | apply Kd.R_drew)); exact HO654.out))) (below_size (by repeat (first | (with_reducible first | exact HB.out | apply below_alloc | apply pw_below_drewN | apply below_drew1) | exact HB.out)))); have n3_ := Sd.mk (below_step (by repeat (first | (with_reducible first | exact HB.out | apply below_alloc | apply pw_below_drewN | apply below_drew1) | exact HB.out)) hb); clear HO649; clear HO654; clear HB; have HO649 := n0_; have HO654 := n1_; have HO658 := n2_; have HB := n3_; clear n0_ n1_ n2_ n3_; clear hb ho9; obtain ⟨Ao10, co10, eo10⟩ := Kd.R_slice HO654.out; subst eo10; obtain ⟨Ao11, co11, eo11⟩ := Kd.R_slice HO658.out; subst eo11) | (go_at_call 17; (with_reducible refine (lw_SameSpans.calls k _ _ t652 _ _ y656 t659 _ ?side1 ?side2 ?side3 ?side4 A4.out).mono ?_); (case side1 => repeat (first | exact (Kd.R_reads' HO654.out).2.2 | (with_reducible refine Kd.C_alloc ?_ _) | (with_reducible refine Kd.C_drewN ?_ _) | (with_reducible refine Kd.C_drew ?_))); (case side2 => exact (Kd.R_reads' HO654.out).2.1); (case side3 => repeat (first | exact (Kd.R_reads' HO658.out).2.2 | (with_reducible refine Kd.C_alloc ?_ _) | (with_reducible refine Kd.C_drewN ?_ _) | (with_reducible refine Kd.C_drew ?_))); (case side4 => exact (Kd.R_reads' HO658.out).2.1); rintro e w' ⟨rfl, ⟨nd, rfl⟩⟩))
    go_ret
    exact ⟨by first | rfl | (simp [errW_none, errW_some] <;> rfl) | (simp [*, errW_none, errW_some] <;> rfl), by repeat (first | (with_reducible first | exact HB.out | apply below_alloc | apply pw_below_drewN | apply below_drew1) | exact HB.out)⟩
  · rw [if_neg c3] at H
    have c3b0 : (t655 == 0) = false := beq_eq_false_iff_ne.mpr c3
    have c3b1 : (t655 != 0) = true := bne_iff_ne.mpr c3
    obtain rfl := Option.some.inj H
    go_enter Try.func36, Try.ntmps36
    go_wp2_with (first | ((with_reducible refine gate_callee (f := 86) rfl ?_); refine goesL_ (some 4) rfl rfl Try.func86 (by kernel_rfl) rfl #[] rfl (by (try simp only [List.map_toArray, List.map_cons, List.map_nil]); first | done | rfl | (simp only [List.length_drop, List.length_take]; rfl)) ?_; (with_reducible refine (culletlaw05_Example.calls  t647 t650 t651 _ A1.out).mono ?_); rintro e w12 ⟨v648, rfl, ho0, hb⟩; refine ⟨_, rfl, ?_⟩; have n0_ := Sd.mk (Kd.R_lower ho0 (below_size (by repeat (first | (with_reducible first | exact HB.out | apply below_alloc | apply pw_below_drewN | apply below_drew1) | exact HB.out)))); have n1_ := Sd.mk (below_step (by repeat (first | (with_reducible first | exact HB.out | apply below_alloc | apply pw_below_drewN | apply below_drew1) | exact HB.out)) hb); clear HB; have HO649 := n0_; have HB := n1_; clear n0_ n1_; (try clear hb); (try clear hb2); (try clear hk); (try clear hi); (try clear ho0); obtain ⟨Ao13, co13, eo13⟩ := Kd.R_slice HO649.out; subst eo13) | ((with_reducible refine gate_callee (f := 85) rfl ?_); refine goesL_ (some 6) rfl rfl Try.func85 (by kernel_rfl) rfl #[.agg #[.slice Ao13 t647.length co13, .int .i64 t650, .int .i64 t651], .agg #[.int .i64 1000, .int .i64 1000]] rfl (by (try simp only [List.map_toArray, List.map_cons, List.map_nil]); first | done | rfl | (simp only [List.length_drop, List.length_take]; rfl)) ?_; (with_reducible refine (x_Thickness.calls _ _ t647 t650 t651 1000 1000 t652 t655 _ ?side1 ?side2 A2.out).mono ?_); (case side1 => repeat (first | exact (Kd.R_reads' HO649.out).2.2 | (with_reducible refine Kd.C_alloc ?_ _) | (with_reducible refine Kd.C_drewN ?_ _) | (with_reducible refine Kd.C_drew ?_))); (case side2 => exact (Kd.R_reads' HO649.out).2.1); rintro e w14 ⟨v653, rfl, ho0, hb⟩; refine ⟨_, rfl, ?_⟩; have n0_ := Sd.mk (Kd.R_below (by (with_reducible repeat (first | apply Kd.R_alloc | apply Kd.R_drewN | apply Kd.R_drew)); exact HO649.out) hb); have n1_ := Sd.mk (Kd.R_lower ho0 (below_size (by repeat (first | (with_reducible first | exact HB.out | apply below_alloc | apply pw_below_drewN | apply below_drew1) | exact HB.out)))); have n2_ := Sd.mk (below_step (by repeat (first | (with_reducible first | exact HB.out | apply below_alloc | apply pw_below_drewN | apply below_drew1) | exact HB.out)) hb); clear HO649; clear HB; have HO649 := n0_; have HO654 := n1_; have HB := n2_; clear n0_ n1_ n2_; (try clear hb); (try clear hb2); (try clear hk); (try clear hi); (try clear ho0)))
    go_ret
    exact ⟨by first | rfl | (simp [errW_none, errW_some] <;> rfl) | (simp [*, errW_none, errW_some] <;> rfl), by repeat (first | (with_reducible first | exact HB.out | apply below_alloc | apply pw_below_drewN | apply below_drew1) | exact HB.out)⟩
end Go.Proofs.Ytkjkokgbhepmoaa.PB

namespace Go.Proofs.Ytkjkokgbhepmoaa.PB
open Go.RowKit Go.Proofs.YtkjkokgbhepmoaaW.PrintWords Go.Proofs.YtkjkokgbhepmoaaW.PrintLast Go.Proofs.YtkjkokgbhepmoaaW.PrintMore
attribute [local go_sem] max2_int min2_int max_two min_two max_three min_three max_four min_four
def culletlaw03_Great.l0 : Nat → List (S165) → Int → Int → Option (Bool)
 | 0, _, _, _ => none
 | k + 1, x0, x3, x4 => if x4 < (x0.length : Int) then (if 0 ≤ x4 then (if (((rd_T165 x0 x4).f2).length : Int) > 250 then (some true) else (culletlaw03_Great.l0 k x0 (wrap64 (x3 + (((rd_T165 x0 x4).f2).length : Int))) (wrap64 (x4 + 1)))) else (none)) else (some (decide (x3 > 600)))
def culletlaw03_Great.f (k : Nat) (l0 : List (S165)) : Option (Bool) := if (l0.length : Int) > 500 then (some true) else (culletlaw03_Great.l0 k l0 0 0)
theorem culletlaw03_Great.mono_l : ∀ k, (∀ y0 y1 y2, LeO (culletlaw03_Great.l0 k y0 y1 y2) (culletlaw03_Great.l0 (k + 1) y0 y1 y2))
 | 0 => fun _ _ _ r h => by simp [culletlaw03_Great.l0] at h
 | k + 1 => by
  have ih0 := culletlaw03_Great.mono_l k
  ·intro y0 y1 y2
   unfold culletlaw03_Great.l0
   repeat' first
   | (with_reducible exact ih0 _ _ _)
   | (with_reducible exact LeO.refl _)
   | (with_reducible exact LeO.none _)
   | (with_reducible refine LeO.ite ?_ ?_)
   | (with_reducible refine LeO.bind ?_ (fun _ => ?_))
   | exact LeO.none _
   | refine LeO.ite ?_ ?_
   | refine LeO.bind ?_ (fun _ => ?_)
theorem culletlaw03_Great.mono : ∀ a0 k, LeO (culletlaw03_Great.f k a0) (culletlaw03_Great.f (k + 1) a0) := by
 intro a0 k
 have ih0 := culletlaw03_Great.mono_l k
 unfold culletlaw03_Great.f
 repeat' first
   | (with_reducible exact ih0 _ _ _)
   | (with_reducible exact LeO.refl _)
   | (with_reducible exact LeO.none _)
   | (with_reducible refine LeO.ite ?_ ?_)
   | (with_reducible refine LeO.bind ?_ (fun _ => ?_))
   | exact LeO.none _
   | refine LeO.ite ?_ ?_
   | refine LeO.bind ?_ (fun _ => ?_)
set_option maxHeartbeats 8000000 in
set_option maxRecDepth 100000 in
theorem culletlaw03_Great.calls (k : Nat) (A0 : Option Addr) (c0 : Nat) (l0 : List (S165)) (r : Bool) (w : World) (hr0 : Kd.C k165 w A0 l0.length l0) (hc0 : l0.length ≤ c0) (h : culletlaw03_Great.f k l0 = some r) :
  Calls Try.prog 84 #[.slice A0 l0.length c0] w fun e w' => e = .returned (.bool r) ∧ Drawn0 w w' := by
 have HR0 := Sd.mk hr0; have HC0 := Sd.mk hc0; clear hr0 hc0
 have H : (if (l0.length : Int) > 500 then (some true) else (culletlaw03_Great.l0 k l0 0 0)) = some r := h
 clear h
 by_cases c2 : (l0.length : Int) > 500
 ·rw [if_pos c2] at H
  have c2b0 : decide (500 < (l0.length : Int)) = true := decide_eq_true c2
  have c2b1 : decide (500 < l0.length) = true := decide_eq_true (by omega)
  clear c2; obtain rfl := Option.some.inj H
  go_enter Try.func84, Try.ntmps84
  go_wp2
  go_ret
  exact ⟨by first | rfl | (simp; done) | (simp [*]; done), by repeat (first | exact Drawn0.refl _ | apply Drawn0.step)⟩
 ·rw [if_neg c2] at H
  have c2b0 : decide (500 < (l0.length : Int)) = false := decide_eq_false c2
  have c2b1 : decide (500 < l0.length) = false := decide_eq_false (by omega)
  clear c2; have H' := Sd.mk H; clear H
  go_enter Try.func84, Try.ntmps84
  go_wp2
  go_loopg [3, 4] k (fun kq v3 v4 w' => ∃ (x3_1 : Int) (x4_1 : Int), v3 = .int .i64 x3_1 ∧ v4 = .int .i64 x4_1 ∧ Sd (culletlaw03_Great.l0 kq l0 x3_1 x4_1 = some r) ∧ Sd (kq ≤ k) ∧ Drawn0 w w')
  case atStart => exact ⟨(0), (0), tS, tS, H', ⟨Nat.le_refl _⟩, by repeat (first | exact Drawn0.refl _ | apply Drawn0.step)⟩
  case round =>
   clear H'; (try clear c2); (try clear c2b0); (try clear c2b1); (try clear p2)
   obtain ⟨x3_1, x4_1, rfl, rfl, HA, HK1, ⟨m1, rfl⟩⟩ := hrel
   cases gk with
   | zero => exact absurd HA.out (by simp [culletlaw03_Great.l0])
   | succ k1 =>
    have H := HA.out; clear HA
    simp only [culletlaw03_Great.l0] at H
    by_cases c3 : x4_1 < (l0.length : Int)
    ·rw [if_pos c3] at H
     have c3b0 : decide (x4_1 < (l0.length : Int)) = true := decide_eq_true c3
     clear c3
     by_cases c4 : 0 ≤ x4_1
     ·rw [if_pos c4] at H
      have c4b0 : decide (0 ≤ x4_1) = true := decide_eq_true c4
      clear c4
      by_cases c5 : (((rd_T165 l0 x4_1).f2).length : Int) > 250
      ·rw [if_pos c5] at H
       have c5b0 : decide (250 < (((rd_T165 l0 x4_1).f2).length : Int)) = true := decide_eq_true c5
       have c5b1 : decide (250 < ((rd_T165 l0 x4_1).f2).length) = true := decide_eq_true (by omega)
       clear c5; obtain rfl := Option.some.inj H
       have p621 : 0 ≤ (x4_1 : Int) := tB
       have q621 : x4_1 < (l0.length : Int) := tB
       obtain ⟨ad621, A621_2, c621_2, e621, hx621_0, hx621_1, hx621_2, hl621_2, hi621_2⟩ := at_T165 HR0.out x4_1 p621 q621; cases e621; have HR621_2 := Sd.mk hi621_2; have HC621_2 := Sd.mk hl621_2; clear hi621_2 hl621_2; replace p621 := eq_true p621; replace q621 := eq_true q621
       go_wp2
       go_ret
       exact ⟨by first | rfl | (simp; done) | (simp [*]; done), by repeat (first | exact Drawn0.refl _ | apply Drawn0.step)⟩
      ·rw [if_neg c5] at H
       have c5b0 : decide (250 < (((rd_T165 l0 x4_1).f2).length : Int)) = false := decide_eq_false c5
       have c5b1 : decide (250 < ((rd_T165 l0 x4_1).f2).length) = false := decide_eq_false (by omega)
       clear c5; have H' := Sd.mk H; clear H
       have p621 : 0 ≤ (x4_1 : Int) := tB
       have q621 : x4_1 < (l0.length : Int) := tB
       obtain ⟨ad621, A621_2, c621_2, e621, hx621_0, hx621_1, hx621_2, hl621_2, hi621_2⟩ := at_T165 HR0.out x4_1 p621 q621; cases e621; have HR621_2 := Sd.mk hi621_2; have HC621_2 := Sd.mk hl621_2; clear hi621_2 hl621_2; replace p621 := eq_true p621; replace q621 := eq_true q621
       have p622 : 0 ≤ (x4_1 : Int) := tB
       have q622 : x4_1 < (l0.length : Int) := tB
       obtain ⟨ad622, A622_2, c622_2, e622, hx622_0, hx622_1, hx622_2, hl622_2, hi622_2⟩ := at_T165 HR0.out x4_1 p622 q622
       obtain rfl : ad621 = ad622 := (by injection e622)
       have HR622_2 := Sd.mk hi622_2; have HC622_2 := Sd.mk hl622_2; clear hi622_2 hl622_2; replace p622 := eq_true p622; replace q622 := eq_true q622; have ea_ := Option.some.inj (hx621_2.symm.trans hx622_2)
       injection ea_ with ea_ en_ ec_
       subst ea_; subst ec_; clear en_
       go_wp2
       go_roundg k1
       case measure => have := HK1.out; omega
       case rel => exact ⟨(wrap64 (x3_1 + (((rd_T165 l0 x4_1).f2).length : Int))), (wrap64 (x4_1 + 1)), tS, tS, H', ⟨by have := HK1.out; omega⟩, by repeat (first | exact Drawn0.refl _ | apply Drawn0.step)⟩
     ·rw [if_neg c4] at H
      exact absurd H (by simp)
    ·rw [if_neg c3] at H
     have c3b0 : decide (x4_1 < (l0.length : Int)) = false := decide_eq_false c3
     clear c3; obtain rfl := Option.some.inj H
     go_wp2
     go_ret
     exact ⟨by first | rfl | (simp; done) | (simp [*]; done), by repeat (first | exact Drawn0.refl _ | apply Drawn0.step)⟩
end Go.Proofs.Ytkjkokgbhepmoaa.PB

namespace Go.Proofs.Ytkjkokgbhepmoaa.PB
open Go.RowKit Go.Proofs.YtkjkokgbhepmoaaW.PrintWords Go.Proofs.YtkjkokgbhepmoaaW.PrintLast Go.Proofs.YtkjkokgbhepmoaaW.PrintMore
attribute [local go_sem] max2_int min2_int max_two min_two max_three min_three max_four min_four
def culletlaw05_Wide.f (k : Nat) (l0_0 : List (S27)) (a0_1 : Int) (a0_2 : Int) (a0_3 : Int) (a0_4 : Int) (a0_5 : Int) (a0_6 : Int) (a0_7 : Int) (a0_8 : Int) (l0_9 : List Int) (a0_10 : Int) (a0_11 : Int) (a0_12 : Int) (a0_13 : Int) (a0_14 : Int) (a0_15 : Int) (a0_16 : Int) (a0_17 : Int) (a0_18 : Int) (l0_19 : List Int) (l0_20 : List (S165)) : Option (Bool) := if (l0_0.length : Int) > 40 then (some true) else (if (l0_9.length : Int) > 40 then (some true) else (if (l0_19.length : Int) > 40 then (some true) else ((culletlaw03_Great.f k l0_20).bind fun t624 => (some t624))))
theorem culletlaw05_Wide.mono : ∀ a0 a1 a2 a3 a4 a5 a6 a7 a8 a9 a10 a11 a12 a13 a14 a15 a16 a17 a18 a19 a20 k, LeO (culletlaw05_Wide.f k a0 a1 a2 a3 a4 a5 a6 a7 a8 a9 a10 a11 a12 a13 a14 a15 a16 a17 a18 a19 a20) (culletlaw05_Wide.f (k + 1) a0 a1 a2 a3 a4 a5 a6 a7 a8 a9 a10 a11 a12 a13 a14 a15 a16 a17 a18 a19 a20) := by
 intro a0 a1 a2 a3 a4 a5 a6 a7 a8 a9 a10 a11 a12 a13 a14 a15 a16 a17 a18 a19 a20 k
 unfold culletlaw05_Wide.f
 repeat' first
   | (with_reducible exact culletlaw03_Great.mono _ _)
   | (with_reducible exact LeO.refl _)
   | (with_reducible exact LeO.none _)
   | (with_reducible refine LeO.ite ?_ ?_)
   | (with_reducible refine LeO.bind ?_ (fun _ => ?_))
   | exact LeO.none _
   | refine LeO.ite ?_ ?_
   | refine LeO.bind ?_ (fun _ => ?_)
set_option maxHeartbeats 8000000 in
set_option maxRecDepth 100000 in
theorem culletlaw05_Wide.calls (k : Nat) (A0_0 : Option Addr) (c0_0 : Nat) (l0_0 : List (S27)) (a0_1 : Int) (a0_2 : Int) (a0_3 : Int) (a0_4 : Int) (a0_5 : Int) (a0_6 : Int) (a0_7 : Int) (a0_8 : Int) (A0_9 : Option Addr) (c0_9 : Nat) (l0_9 : List Int) (a0_10 : Int) (a0_11 : Int) (a0_12 : Int) (a0_13 : Int) (a0_14 : Int) (a0_15 : Int) (a0_16 : Int) (a0_17 : Int) (a0_18 : Int) (A0_19 : Option Addr) (c0_19 : Nat) (l0_19 : List Int) (A0_20 : Option Addr) (c0_20 : Nat) (l0_20 : List (S165)) (r : Bool) (w : World) (hr0_0 : Kd.C k27 w A0_0 l0_0.length l0_0) (hc0_0 : l0_0.length ≤ c0_0) (hr0_9 : Kd.C (Kd.int .i64) w A0_9 l0_9.length l0_9) (hc0_9 : l0_9.length ≤ c0_9) (hr0_19 : Kd.C (Kd.int .i64) w A0_19 l0_19.length l0_19) (hc0_19 : l0_19.length ≤ c0_19) (hr0_20 : Kd.C k165 w A0_20 l0_20.length l0_20) (hc0_20 : l0_20.length ≤ c0_20) (h : culletlaw05_Wide.f k l0_0 a0_1 a0_2 a0_3 a0_4 a0_5 a0_6 a0_7 a0_8 l0_9 a0_10 a0_11 a0_12 a0_13 a0_14 a0_15 a0_16 a0_17 a0_18 l0_19 l0_20 = some r) :
  Calls Try.prog 35 #[.agg #[.slice A0_0 l0_0.length c0_0, .int .i64 a0_1, .int .i64 a0_2, .int .i64 a0_3, .int .i64 a0_4, .int .i64 a0_5, .int .i64 a0_6, .int .i64 a0_7, .int .i64 a0_8, .slice A0_9 l0_9.length c0_9, .int .i64 a0_10, .int .i64 a0_11, .int .i64 a0_12, .int .i64 a0_13, .int .i64 a0_14, .int .i64 a0_15, .int .i64 a0_16, .int .i64 a0_17, .int .i64 a0_18, .slice A0_19 l0_19.length c0_19, .slice A0_20 l0_20.length c0_20]] w fun e w' => e = .returned (.bool r) ∧ Below w.heap.size w w' := by
 have hu76 := Try.underlying76; have HR0_0 := Sd.mk hr0_0; have HC0_0 := Sd.mk hc0_0; clear hr0_0 hc0_0; have HR0_9 := Sd.mk hr0_9; have HC0_9 := Sd.mk hc0_9; clear hr0_9 hc0_9; have HR0_19 := Sd.mk hr0_19; have HC0_19 := Sd.mk hc0_19; clear hr0_19 hc0_19; have HR0_20 := Sd.mk hr0_20; have HC0_20 := Sd.mk hc0_20; clear hr0_20 hc0_20; have HB := Sd.mk (Below.refl w.heap.size w)
 have H : (if (l0_0.length : Int) > 40 then (some true) else (if (l0_9.length : Int) > 40 then (some true) else (if (l0_19.length : Int) > 40 then (some true) else ((culletlaw03_Great.f k l0_20).bind fun t624 => (some t624))))) = some r := h
 clear h
 by_cases c2 : (l0_0.length : Int) > 40
 ·rw [if_pos c2] at H
  have c2b0 : decide (40 < (l0_0.length : Int)) = true := decide_eq_true c2
  have c2b1 : decide (40 < l0_0.length) = true := decide_eq_true (by omega)
  clear c2; obtain rfl := Option.some.inj H
  go_enter Try.func35, Try.ntmps35
  go_wp2_with (first | ((with_reducible refine gate_dst (N := 1) rfl ?_); (try (refine gate_guard (by rfl) ?_; dsimp only)); refine box_event ?hg (N := 1) ?hd (cs := #[.slice A0_0 l0_0.length c0_0, .int .i64 a0_1, .int .i64 a0_2, .int .i64 a0_3, .int .i64 a0_4, .int .i64 a0_5, .int .i64 a0_6, .int .i64 a0_7, .int .i64 a0_8, .slice A0_9 l0_9.length c0_9, .int .i64 a0_10, .int .i64 a0_11, .int .i64 a0_12, .int .i64 a0_13, .int .i64 a0_14, .int .i64 a0_15, .int .i64 a0_16, .int .i64 a0_17, .int .i64 a0_18, .slice A0_19 l0_19.length c0_19, .slice A0_20 l0_20.length c0_20]) (t := 76) ?hr ?_; (case hd => rfl); (case hg => rfl); (case hr => exact tG); intro gb623 hg w3 hbox hb; have BK623 := Sd.mk (hbox); have GW623 := Sd.mk (bSz hg (bBl HB.out)); have GE623 := Sd.mk (bSz hg (bBl HB.out)); replace HB := Sd.mk (below_step (bBl HB.out) hb); clear hb hbox hg; obtain ⟨u4_0, u4_1, u4_2, u4_3, u4_4, u4_5, u4_6, u4_7, u4_8, u4_9, u4_10, u4_11, u4_12, u4_13, u4_14, u4_15, u4_16, u4_17, u4_18, u4_19, u4_20, o4_0, o4_1, o4_2, o4_3, o4_4, o4_5, o4_6, o4_7, o4_8, o4_9, o4_10, o4_11, o4_12, o4_13, o4_14, o4_15, o4_16, o4_17, o4_18, o4_19, o4_20⟩ := bc21 (w := w3) BK623.out))
  go_ret
  exact ⟨tE, bBl HB.out⟩
 ·rw [if_neg c2] at H
  have c2b0 : decide (40 < (l0_0.length : Int)) = false := decide_eq_false c2
  have c2b1 : decide (40 < l0_0.length) = false := decide_eq_false (by omega)
  clear c2
  by_cases c5 : (l0_9.length : Int) > 40
  ·rw [if_pos c5] at H
   have c5b0 : decide (40 < (l0_9.length : Int)) = true := decide_eq_true c5
   have c5b1 : decide (40 < l0_9.length) = true := decide_eq_true (by omega)
   clear c5; obtain rfl := Option.some.inj H
   go_enter Try.func35, Try.ntmps35
   go_wp2_with (first | ((with_reducible refine gate_dst (N := 1) rfl ?_); (try (refine gate_guard (by rfl) ?_; dsimp only)); refine box_event ?hg (N := 1) ?hd (cs := #[.slice A0_0 l0_0.length c0_0, .int .i64 a0_1, .int .i64 a0_2, .int .i64 a0_3, .int .i64 a0_4, .int .i64 a0_5, .int .i64 a0_6, .int .i64 a0_7, .int .i64 a0_8, .slice A0_9 l0_9.length c0_9, .int .i64 a0_10, .int .i64 a0_11, .int .i64 a0_12, .int .i64 a0_13, .int .i64 a0_14, .int .i64 a0_15, .int .i64 a0_16, .int .i64 a0_17, .int .i64 a0_18, .slice A0_19 l0_19.length c0_19, .slice A0_20 l0_20.length c0_20]) (t := 76) ?hr ?_; (case hd => rfl); (case hg => rfl); (case hr => exact tG); intro gb623 hg w6 hbox hb; have BK623 := Sd.mk (hbox); have GW623 := Sd.mk (bSz hg (bBl HB.out)); have GE623 := Sd.mk (bSz hg (bBl HB.out)); replace HB := Sd.mk (below_step (bBl HB.out) hb); clear hb hbox hg; obtain ⟨u7_0, u7_1, u7_2, u7_3, u7_4, u7_5, u7_6, u7_7, u7_8, u7_9, u7_10, u7_11, u7_12, u7_13, u7_14, u7_15, u7_16, u7_17, u7_18, u7_19, u7_20, o7_0, o7_1, o7_2, o7_3, o7_4, o7_5, o7_6, o7_7, o7_8, o7_9, o7_10, o7_11, o7_12, o7_13, o7_14, o7_15, o7_16, o7_17, o7_18, o7_19, o7_20⟩ := bc21 (w := w6) BK623.out))
   go_ret
   exact ⟨tE, bBl HB.out⟩
  ·rw [if_neg c5] at H
   have c5b0 : decide (40 < (l0_9.length : Int)) = false := decide_eq_false c5
   have c5b1 : decide (40 < l0_9.length) = false := decide_eq_false (by omega)
   clear c5
   by_cases c8 : (l0_19.length : Int) > 40
   ·rw [if_pos c8] at H
    have c8b0 : decide (40 < (l0_19.length : Int)) = true := decide_eq_true c8
    have c8b1 : decide (40 < l0_19.length) = true := decide_eq_true (by omega)
    clear c8; obtain rfl := Option.some.inj H
    go_enter Try.func35, Try.ntmps35
    go_wp2_with (first | ((with_reducible refine gate_dst (N := 1) rfl ?_); (try (refine gate_guard (by rfl) ?_; dsimp only)); refine box_event ?hg (N := 1) ?hd (cs := #[.slice A0_0 l0_0.length c0_0, .int .i64 a0_1, .int .i64 a0_2, .int .i64 a0_3, .int .i64 a0_4, .int .i64 a0_5, .int .i64 a0_6, .int .i64 a0_7, .int .i64 a0_8, .slice A0_9 l0_9.length c0_9, .int .i64 a0_10, .int .i64 a0_11, .int .i64 a0_12, .int .i64 a0_13, .int .i64 a0_14, .int .i64 a0_15, .int .i64 a0_16, .int .i64 a0_17, .int .i64 a0_18, .slice A0_19 l0_19.length c0_19, .slice A0_20 l0_20.length c0_20]) (t := 76) ?hr ?_; (case hd => rfl); (case hg => rfl); (case hr => exact tG); intro gb623 hg w9 hbox hb; have BK623 := Sd.mk (hbox); have GW623 := Sd.mk (bSz hg (bBl HB.out)); have GE623 := Sd.mk (bSz hg (bBl HB.out)); replace HB := Sd.mk (below_step (bBl HB.out) hb); clear hb hbox hg; obtain ⟨u10_0, u10_1, u10_2, u10_3, u10_4, u10_5, u10_6, u10_7, u10_8, u10_9, u10_10, u10_11, u10_12, u10_13, u10_14, u10_15, u10_16, u10_17, u10_18, u10_19, u10_20, o10_0, o10_1, o10_2, o10_3, o10_4, o10_5, o10_6, o10_7, o10_8, o10_9, o10_10, o10_11, o10_12, o10_13, o10_14, o10_15, o10_16, o10_17, o10_18, o10_19, o10_20⟩ := bc21 (w := w9) BK623.out))
    go_ret
    exact ⟨tE, bBl HB.out⟩
   ·rw [if_neg c8] at H
    have c8b0 : decide (40 < (l0_19.length : Int)) = false := decide_eq_false c8
    have c8b1 : decide (40 < l0_19.length) = false := decide_eq_false (by omega)
    clear c8; replace H := Option.bind_eq_some_iff.mp H; obtain ⟨t624, A110, H⟩ := H
    try dsimp only at H
    have A11 := Sd.mk A110; clear A110; obtain rfl := Option.some.inj H
    go_enter Try.func35, Try.ntmps35
    go_wp2_with (first | ((with_reducible refine gate_dst (N := 1) rfl ?_); (try (refine gate_guard (by rfl) ?_; dsimp only)); refine box_event ?hg (N := 1) ?hd (cs := #[.slice A0_0 l0_0.length c0_0, .int .i64 a0_1, .int .i64 a0_2, .int .i64 a0_3, .int .i64 a0_4, .int .i64 a0_5, .int .i64 a0_6, .int .i64 a0_7, .int .i64 a0_8, .slice A0_9 l0_9.length c0_9, .int .i64 a0_10, .int .i64 a0_11, .int .i64 a0_12, .int .i64 a0_13, .int .i64 a0_14, .int .i64 a0_15, .int .i64 a0_16, .int .i64 a0_17, .int .i64 a0_18, .slice A0_19 l0_19.length c0_19, .slice A0_20 l0_20.length c0_20]) (t := 76) ?hr ?_; (case hd => rfl); (case hg => rfl); (case hr => exact tG); intro gb623 hg w12 hbox hb; have BK623 := Sd.mk (hbox); have GW623 := Sd.mk (bSz hg (bBl HB.out)); have GE623 := Sd.mk (bSz hg (bBl HB.out)); replace HB := Sd.mk (below_step (bBl HB.out) hb); clear hb hbox hg; obtain ⟨u13_0, u13_1, u13_2, u13_3, u13_4, u13_5, u13_6, u13_7, u13_8, u13_9, u13_10, u13_11, u13_12, u13_13, u13_14, u13_15, u13_16, u13_17, u13_18, u13_19, u13_20, o13_0, o13_1, o13_2, o13_3, o13_4, o13_5, o13_6, o13_7, o13_8, o13_9, o13_10, o13_11, o13_12, o13_13, o13_14, o13_15, o13_16, o13_17, o13_18, o13_19, o13_20⟩ := bc21 (w := w12) BK623.out) | (go_at_call 84; (with_reducible refine (culletlaw03_Great.calls k _ _ l0_20 t624 _ (cS (Kd.C_below HR0_20.out HB.out)) HC0_20.out A11.out).mono ?_); rintro e w' ⟨rfl, ⟨nd, rfl⟩⟩))
    go_ret
    exact ⟨tE, bBl HB.out⟩
end Go.Proofs.Ytkjkokgbhepmoaa.PB

namespace Go.Proofs.Ytkjkokgbhepmoaa.PB
open Go.RowKit Go.Proofs.YtkjkokgbhepmoaaW.PrintWords Go.Proofs.YtkjkokgbhepmoaaW.PrintLast Go.Proofs.YtkjkokgbhepmoaaW.PrintMore
set_option maxRecDepth 100000 in
theorem lives5_ev : Ev (fun k => culletlaw05_lives.f k) true := Ev.of_mono culletlaw05_lives.mono (K := 5) (by kernel_rfl)
theorem great3_l0 (l : List S165) : ∀ (m i : Nat) (x : Int), i + m = l.length → l.length ≤ 500 → ∃ b, Ev (fun k => culletlaw03_Great.l0 k l x (i : Int)) b
  | 0, i, x, h, hl => by
    refine ⟨decide (x > 600), Ev.step ?_⟩
    simp only [culletlaw03_Great.l0, if_neg (show ¬ (i : Int) < (l.length : Int) by omega)]
    exact Ev.const _
  | m + 1, i, x, h, hl => by
    obtain ⟨b, ih⟩ := great3_l0 l m (i + 1) (wrap64 (x + (((rd_T165 l (i : Int)).f2).length : Int))) (by omega) hl
    rw [show ((i + 1 : Nat) : Int) = (i : Int) + 1 by omega] at ih
    by_cases c : (((rd_T165 l (i : Int)).f2).length : Int) > 250
    · refine ⟨true, Ev.step ?_⟩
      simp only [culletlaw03_Great.l0, if_pos (show (i : Int) < (l.length : Int) by omega), if_pos (i_pos i), if_pos c]
      exact Ev.const _
    · refine ⟨b, Ev.step ?_⟩
      simp only [culletlaw03_Great.l0, if_pos (show (i : Int) < (l.length : Int) by omega), if_pos (i_pos i), if_neg c, wrap_succ (i_pos i) (show (i : Int) ≤ 1000000000 by omega)]
      exact ih
theorem great3 (l : List S165) : ∃ b, Ev (fun k => culletlaw03_Great.f k l) b := by
  unfold culletlaw03_Great.f
  by_cases h : (l.length : Int) > 500
  · simp only [if_pos h]; exact ⟨_, Ev.const _⟩
  · simp only [if_neg h]; exact great3_l0 l l.length 0 0 (by omega) (by omega)
theorem wide5 (y0 : List S27) (y1 y2 y3 y4 y5 y6 y7 y8 : Int) (y9 : List Int) (y10 y11 y12 y13 y14 y15 y16 y17 y18 : Int) (r : List Int) (y20 : List S165) : ∃ b, Ev (fun k => culletlaw05_Wide.f k y0 y1 y2 y3 y4 y5 y6 y7 y8 y9 y10 y11 y12 y13 y14 y15 y16 y17 y18 r y20) b := by
  unfold culletlaw05_Wide.f
  by_cases h1 : (y0.length : Int) > 40
  · simp only [if_pos h1]; exact ⟨_, Ev.const _⟩
  by_cases h2 : (y9.length : Int) > 40
  · simp only [if_neg h1, if_pos h2]; exact ⟨_, Ev.const _⟩
  by_cases h3 : (r.length : Int) > 40
  · simp only [if_neg h1, if_neg h2, if_pos h3]; exact ⟨_, Ev.const _⟩
  simp only [if_neg h1, if_neg h2, if_neg h3]
  obtain ⟨b, hb⟩ := great3 y20
  exact ⟨b, Ev.bind hb (Ev.const _)⟩
theorem xHeld_ev (kn : List S84) (fac t : Int) (h : lehrV kn fac = 0) (ht : inB t 0 10000 = true) : Ev (fun k => x_Held.f k kn fac t) (heldV kn t, 0) := by
  unfold x_Held.f
  simp only [if_pos h, if_pos ht]
  simp only [inB, Bool.and_eq_true, decide_eq_true_eq] at ht
  exact Ev.bind (held_ev (lehr_facts h).1 fac ht) (Ev.const _)
theorem xStrain_ev (kn : List S84) (fac t0 t1 th : Int) (h : lehrV kn fac = 0) (hs : spanB t0 t1 0 10000 = true) (ht : inB th 1 2000 = true) : Ev (fun k => x_Strain.f k kn fac t0 t1 th) (strainV kn fac t0 t1 th, 0) := by
  unfold x_Strain.f
  simp only [tempsV, if_pos h, if_pos hs, if_true, if_pos ht]
  simp only [inB, Bool.and_eq_true, decide_eq_true_eq] at ht
  exact Ev.bind (strain_ev (lehr_facts h).1 (lehr_facts h).2 ht t0 t1) (Ev.const _)
def annV (kn : List S84) (fac : Int) (V : Int × Int × Int) (below soak th limit : Int) : Bool × Int :=
  if lehrV kn fac = 0 then (if V.2.2 = 0 then (if annB below soak th limit = true then (if (decide (below ≤ V.1) && decide (V.2.1 ≤ 10000)) = true then (if soak ≤ heldV kn V.2.1 then (decide (strainV kn fac (V.1 - below) V.2.1 th ≤ limit), 0) else (false, 0)) else (false, 9)) else (false, 1)) else (false, V.2.2)) else (false, lehrV kn fac)
section
variable (o : List ByteArray) (mt : List S63) (s : List S27) (p : List S65) (a4 a5 a6 : Int) (r : List Int)
theorem ValV_le (n : Int) (h : (ValV o mt s p a4 a5 a6 r n).2.2 = 0) : (ValV o mt s p a4 a5 a6 r n).1 ≤ (ValV o mt s p a4 a5 a6 r n).2.1 := by
  revert h
  unfold ValV
  split
  · rename_i ha
    obtain ⟨H, hr⟩ := ask_ok ha
    split
    · rename_i h1
      split
      · intro h; cases h
      · rename_i h2
        intro _
        obtain ⟨C, hl⟩ := pro_cf H h1
        exact mean_le (meanOk_of (gramL_ok H hr) (by rw [gramL_len]; exact C) (lowW_pos H hr h2))
    · intro h; cases h
  · intro h; exact absurd h (by assumption)
theorem ann_ev (kn : List S84) (fac n below soak th limit : Int) : Ev (fun k => x_Anneals.f k kn fac o mt s p a4 a5 a6 r n below soak th limit) (annV kn fac (ValV o mt s p a4 a5 a6 r n) below soak th limit) := by
  unfold x_Anneals.f annV
  by_cases h : lehrV kn fac = 0
  · simp only [if_pos h]
    refine Ev.bind (bValue o mt s p a4 a5 a6 r n) ?_
    have hle := ValV_le o mt s p a4 a5 a6 r n
    generalize ValV o mt s p a4 a5 a6 r n = V at *
    by_cases h1 : V.2.2 = 0
    · simp only [if_pos h1]
      have hle := hle h1
      by_cases h2 : annB below soak th limit = true
      · simp only [if_pos h2]
        by_cases h3 : (decide (below ≤ V.1) && decide (V.2.1 ≤ 10000)) = true
        · simp only [if_pos h3]
          simp only [annB, inB, Bool.and_eq_true, decide_eq_true_eq] at h2 h3
          refine Ev.bind (held_ev (lehr_facts h).1 fac (by omega)) ?_
          by_cases h4 : soak ≤ heldV kn V.2.1
          · simp only [if_pos h4, wsmall (show -1000000000000000000 ≤ V.1 - below by omega) (show V.1 - below ≤ 1000000000000000000 by omega)]
            exact Ev.bind (strain_ev (lehr_facts h).1 (lehr_facts h).2 (by omega) _ _) (Ev.const _)
          · simp only [if_neg h4]; exact Ev.const _
        · simp only [if_neg h3]; exact Ev.const _
      · simp only [if_neg h2]; exact Ev.const _
    · simp only [if_neg h1]; exact Ev.const _
  · simp only [if_neg h]; exact Ev.const _
theorem ann_true {kn : List S84} {fac : Int} {V : Int × Int × Int} {below soak th limit : Int} (h : (annV kn fac V below soak th limit).1 = true) :
    lehrV kn fac = 0 ∧ V.2.2 = 0 ∧ annB below soak th limit = true ∧ below ≤ V.1 ∧ V.2.1 ≤ 10000 ∧ soak ≤ heldV kn V.2.1 ∧ strainV kn fac (V.1 - below) V.2.1 th ≤ limit := by
  revert h
  unfold annV
  split
  · split
    · split
      · split
        · split
          · rename_i h1 h2 h3 h4 h5
            intro h
            simp only [Bool.and_eq_true, decide_eq_true_eq] at h4 h
            exact ⟨h1, h2, h3, h4.1, h4.2, h5, h⟩
          · intro h; cases h
        · intro h; cases h
      · intro h; cases h
    · intro h; cases h
  · intro h; cases h
variable (kn : List S84) (fac : Int) (y0 : List S27) (y1 y2 y3 y4 y5 y6 y7 y8 : Int) (y9 : List Int) (y10 y11 y12 y13 y14 y15 y16 y17 y18 : Int) (y20 : List S165)
end
end Go.Proofs.Ytkjkokgbhepmoaa.PB

namespace Go.Proofs.Ytkjkokgbhepmoaa.PB
open Go.RowKit Go.Proofs.YtkjkokgbhepmoaaW.PrintWords Go.Proofs.YtkjkokgbhepmoaaW.PrintLast Go.Proofs.YtkjkokgbhepmoaaW.PrintMore
attribute [local go_sem] max2_int min2_int max_two min_two max_three min_three max_four min_four
mutual
def culletlaw05_StrengthRecipes.j0 : Nat → Bool → List (S84) → Int → List ByteArray → List (S63) → List (S27) → List (S65) → Int → Int → Int → List (S27) → Int → Int → Int → Int → Int → Int → Int → Int → List Int → Int → Int → Int → Int → Int → Int → Int → Int → Int → List Int → List (S165) → Option (Bool)
  | 0, _, _, _, _, _, _, _, _, _, _, _, _, _, _, _, _, _, _, _, _, _, _, _, _, _, _, _, _, _, _, _ => none
  | k + 1, x27, x687q0, x687q1, x688q0, x688q1, x688q2, x688q3, x688q4, x688q5, x688q6, x689q0, x689q1, x689q2, x689q3, x689q4, x689q5, x689q6, x689q7, x689q8, x689q9, x689010, x689011, x689012, x689013, x689014, x689015, x689016, x689017, x689018, x689019, x689020 => if x27 = true then ((culletlaw05_lives.f k).bind fun t691 => (some t691)) else ((x_Anneals.f k x687q0 x687q1 x688q0 x688q1 x688q2 x688q3 x688q4 x688q5 x688q6 x689019 x689014 x689015 x689016 x689012 x689017).bind fun bt692 => (if bt692.2 = 0 then (culletlaw05_StrengthRecipes.j1 k bt692.1 (!bt692.1) x687q0 x687q1 x688q0 x688q1 x688q2 x688q3 x688q4 x688q5 x688q6 x689q0 x689q1 x689q2 x689q3 x689q4 x689q5 x689q6 x689q7 x689q8 x689q9 x689010 x689011 x689012 x689013 x689014 x689015 x689016 x689017 x689018 x689019 x689020) else (culletlaw05_StrengthRecipes.j1 k bt692.1 true x687q0 x687q1 x688q0 x688q1 x688q2 x688q3 x688q4 x688q5 x688q6 x689q0 x689q1 x689q2 x689q3 x689q4 x689q5 x689q6 x689q7 x689q8 x689q9 x689010 x689011 x689012 x689013 x689014 x689015 x689016 x689017 x689018 x689019 x689020)))
def culletlaw05_StrengthRecipes.j1 : Nat → Bool → Bool → List (S84) → Int → List ByteArray → List (S63) → List (S27) → List (S65) → Int → Int → Int → List (S27) → Int → Int → Int → Int → Int → Int → Int → Int → List Int → Int → Int → Int → Int → Int → Int → Int → Int → Int → List Int → List (S165) → Option (Bool)
  | 0, _, _, _, _, _, _, _, _, _, _, _, _, _, _, _, _, _, _, _, _, _, _, _, _, _, _, _, _, _, _, _, _ => none
  | k + 1, x7, x52, x687q0, x687q1, x688q0, x688q1, x688q2, x688q3, x688q4, x688q5, x688q6, x689q0, x689q1, x689q2, x689q3, x689q4, x689q5, x689q6, x689q7, x689q8, x689q9, x689010, x689011, x689012, x689013, x689014, x689015, x689016, x689017, x689018, x689019, x689020 => if x52 = true then (if x7 = true then (some false) else ((culletlaw05_lives.f k).bind fun t694 => (some t694))) else ((x_Value.f k x688q0 x688q1 x688q2 x688q3 x688q4 x688q5 x688q6 x689019 x689014).bind fun bt695 => (if bt695.2.2 = 0 then ((some (([bt695.1, wrap64 (Int.tdiv (wrap64 (bt695.1 + bt695.2.1)) 2), bt695.2.1] : List Int) : List Int)).bind fun y699 => (culletlaw05_StrengthRecipes.l0 k y699 (y699.length : Int) 0 x687q0 x687q1 x689q0 x689q1 x689q2 x689q3 x689q4 x689q5 x689q6 x689q7 x689q8 x689q9 x689010 x689011 x689012 x689013 x689014 x689015 x689016 x689017 x689018 x689019 x689020)) else (some false)))
def culletlaw05_StrengthRecipes.l0 : Nat → List Int → Int → Int → List (S84) → Int → List (S27) → Int → Int → Int → Int → Int → Int → Int → Int → List Int → Int → Int → Int → Int → Int → Int → Int → Int → Int → List Int → List (S165) → Option (Bool)
  | 0, _, _, _, _, _, _, _, _, _, _, _, _, _, _, _, _, _, _, _, _, _, _, _, _, _, _ => none
  | k + 1, x79, x80, x81, x687q0, x687q1, x689q0, x689q1, x689q2, x689q3, x689q4, x689q5, x689q6, x689q7, x689q8, x689q9, x689010, x689011, x689012, x689013, x689014, x689015, x689016, x689017, x689018, x689019, x689020 => if x81 < x80 then (if 0 ≤ x81 then (if x81 < (x79.length : Int) then ((x_Held.f k x687q0 x687q1 (rd x79 x81)).bind fun bt704 => ((x_Strain.f k x687q0 x687q1 (wrap64 ((rd x79 x81) - x689015)) (rd x79 x81) x689012).bind fun bt706 => (if bt704.2 = 0 then (if bt706.2 = 0 then (if bt704.1 < x689016 then (some false) else (if bt706.1 > x689017 then (some false) else (culletlaw05_StrengthRecipes.l0 k x79 x80 (wrap64 (x81 + 1)) x687q0 x687q1 x689q0 x689q1 x689q2 x689q3 x689q4 x689q5 x689q6 x689q7 x689q8 x689q9 x689010 x689011 x689012 x689013 x689014 x689015 x689016 x689017 x689018 x689019 x689020))) else (some false)) else (some false)))) else (none)) else (none)) else ((culletlaw05_lives.f k).bind fun t702 => (some t702))
end
def culletlaw05_StrengthRecipes.f (k : Nat) (l0_0 : List (S84)) (a0_1 : Int) (l1_0 : List ByteArray) (l1_1 : List (S63)) (l1_2 : List (S27)) (l1_3 : List (S65)) (a1_4 : Int) (a1_5 : Int) (a1_6 : Int) (l2_0 : List (S27)) (a2_1 : Int) (a2_2 : Int) (a2_3 : Int) (a2_4 : Int) (a2_5 : Int) (a2_6 : Int) (a2_7 : Int) (a2_8 : Int) (l2_9 : List Int) (a2_10 : Int) (a2_11 : Int) (a2_12 : Int) (a2_13 : Int) (a2_14 : Int) (a2_15 : Int) (a2_16 : Int) (a2_17 : Int) (a2_18 : Int) (l2_19 : List Int) (l2_20 : List (S165)) : Option (Bool) := if (l0_0.length : Int) > 100 then (culletlaw05_StrengthRecipes.j0 k true l0_0 a0_1 l1_0 l1_1 l1_2 l1_3 a1_4 a1_5 a1_6 l2_0 a2_1 a2_2 a2_3 a2_4 a2_5 a2_6 a2_7 a2_8 l2_9 a2_10 a2_11 a2_12 a2_13 a2_14 a2_15 a2_16 a2_17 a2_18 l2_19 l2_20) else ((lw_Great.f k l1_0 l1_1 l1_2 l1_3 a1_4 a1_5 a1_6).bind fun t689 => (if t689 = true then (culletlaw05_StrengthRecipes.j0 k true l0_0 a0_1 l1_0 l1_1 l1_2 l1_3 a1_4 a1_5 a1_6 l2_0 a2_1 a2_2 a2_3 a2_4 a2_5 a2_6 a2_7 a2_8 l2_9 a2_10 a2_11 a2_12 a2_13 a2_14 a2_15 a2_16 a2_17 a2_18 l2_19 l2_20) else ((culletlaw05_Wide.f k l2_0 a2_1 a2_2 a2_3 a2_4 a2_5 a2_6 a2_7 a2_8 l2_9 a2_10 a2_11 a2_12 a2_13 a2_14 a2_15 a2_16 a2_17 a2_18 l2_19 l2_20).bind fun t690 => (culletlaw05_StrengthRecipes.j0 k t690 l0_0 a0_1 l1_0 l1_1 l1_2 l1_3 a1_4 a1_5 a1_6 l2_0 a2_1 a2_2 a2_3 a2_4 a2_5 a2_6 a2_7 a2_8 l2_9 a2_10 a2_11 a2_12 a2_13 a2_14 a2_15 a2_16 a2_17 a2_18 l2_19 l2_20))))
theorem culletlaw05_StrengthRecipes.mono_l : ∀ k, (∀ y0 y1 y2 y3 y4 y5 y6 y7 y8 y9 y10 y11 y12 y13 y14 y15 y16 y17 y18 y19 y20 y21 y22 y23 y24 y25 y26 y27 y28 y29 y30, LeO (culletlaw05_StrengthRecipes.j0 k y0 y1 y2 y3 y4 y5 y6 y7 y8 y9 y10 y11 y12 y13 y14 y15 y16 y17 y18 y19 y20 y21 y22 y23 y24 y25 y26 y27 y28 y29 y30) (culletlaw05_StrengthRecipes.j0 (k + 1) y0 y1 y2 y3 y4 y5 y6 y7 y8 y9 y10 y11 y12 y13 y14 y15 y16 y17 y18 y19 y20 y21 y22 y23 y24 y25 y26 y27 y28 y29 y30)) ∧ (∀ y0 y1 y2 y3 y4 y5 y6 y7 y8 y9 y10 y11 y12 y13 y14 y15 y16 y17 y18 y19 y20 y21 y22 y23 y24 y25 y26 y27 y28 y29 y30 y31, LeO (culletlaw05_StrengthRecipes.j1 k y0 y1 y2 y3 y4 y5 y6 y7 y8 y9 y10 y11 y12 y13 y14 y15 y16 y17 y18 y19 y20 y21 y22 y23 y24 y25 y26 y27 y28 y29 y30 y31) (culletlaw05_StrengthRecipes.j1 (k + 1) y0 y1 y2 y3 y4 y5 y6 y7 y8 y9 y10 y11 y12 y13 y14 y15 y16 y17 y18 y19 y20 y21 y22 y23 y24 y25 y26 y27 y28 y29 y30 y31)) ∧ (∀ y0 y1 y2 y3 y4 y5 y6 y7 y8 y9 y10 y11 y12 y13 y14 y15 y16 y17 y18 y19 y20 y21 y22 y23 y24 y25, LeO (culletlaw05_StrengthRecipes.l0 k y0 y1 y2 y3 y4 y5 y6 y7 y8 y9 y10 y11 y12 y13 y14 y15 y16 y17 y18 y19 y20 y21 y22 y23 y24 y25) (culletlaw05_StrengthRecipes.l0 (k + 1) y0 y1 y2 y3 y4 y5 y6 y7 y8 y9 y10 y11 y12 y13 y14 y15 y16 y17 y18 y19 y20 y21 y22 y23 y24 y25))
  | 0 => ⟨fun _ _ _ _ _ _ _ _ _ _ _ _ _ _ _ _ _ _ _ _ _ _ _ _ _ _ _ _ _ _ _ r h => by simp [culletlaw05_StrengthRecipes.j0] at h, fun _ _ _ _ _ _ _ _ _ _ _ _ _ _ _ _ _ _ _ _ _ _ _ _ _ _ _ _ _ _ _ _ r h => by simp [culletlaw05_StrengthRecipes.j1] at h, fun _ _ _ _ _ _ _ _ _ _ _ _ _ _ _ _ _ _ _ _ _ _ _ _ _ _ r h => by simp [culletlaw05_StrengthRecipes.l0] at h⟩
  | k + 1 => by
    obtain ⟨ih0, ih1, ih2⟩ := culletlaw05_StrengthRecipes.mono_l k
    refine ⟨?_, ?_, ?_⟩
    · intro y0 y1 y2 y3 y4 y5 y6 y7 y8 y9 y10 y11 y12 y13 y14 y15 y16 y17 y18 y19 y20 y21 y22 y23 y24 y25 y26 y27 y28 y29 y30
      unfold culletlaw05_StrengthRecipes.j0
      repeat' first
      | (with_reducible exact ih0 _ _ _ _ _ _ _ _ _ _ _ _ _ _ _ _ _ _ _ _ _ _ _ _ _ _ _ _ _ _ _)
      | (with_reducible exact ih1 _ _ _ _ _ _ _ _ _ _ _ _ _ _ _ _ _ _ _ _ _ _ _ _ _ _ _ _ _ _ _ _)
      | (with_reducible exact ih2 _ _ _ _ _ _ _ _ _ _ _ _ _ _ _ _ _ _ _ _ _ _ _ _ _ _)
      | (with_reducible exact lw_Great.mono _ _ _ _ _ _ _ _)
      | (with_reducible exact culletlaw05_Wide.mono _ _ _ _ _ _ _ _ _ _ _ _ _ _ _ _ _ _ _ _ _ _)
      | (with_reducible exact culletlaw05_lives.mono _)
      | (with_reducible exact x_Anneals.mono _ _ _ _ _ _ _ _ _ _ _ _ _ _ _ _)
      | (with_reducible exact x_Held.mono _ _ _ _)
      | (with_reducible exact x_Strain.mono _ _ _ _ _ _)
      | (with_reducible exact x_Value.mono _ _ _ _ _ _ _ _ _ _)
      | (with_reducible exact LeO.refl _)
      | (with_reducible exact LeO.none _)
      | (with_reducible refine LeO.ite ?_ ?_)
      | (with_reducible refine LeO.bind ?_ (fun _ => ?_))
      | exact ih0 _ _ _ _ _ _ _ _ _ _ _ _ _ _ _ _ _ _ _ _ _ _ _ _ _ _ _ _ _ _ _
      | exact ih1 _ _ _ _ _ _ _ _ _ _ _ _ _ _ _ _ _ _ _ _ _ _ _ _ _ _ _ _ _ _ _ _
      | exact ih2 _ _ _ _ _ _ _ _ _ _ _ _ _ _ _ _ _ _ _ _ _ _ _ _ _ _
      | exact lw_Great.mono _ _ _ _ _ _ _ _
      | exact culletlaw05_Wide.mono _ _ _ _ _ _ _ _ _ _ _ _ _ _ _ _ _ _ _ _ _ _
      | exact culletlaw05_lives.mono _
      | exact x_Anneals.mono _ _ _ _ _ _ _ _ _ _ _ _ _ _ _ _
      | exact x_Held.mono _ _ _ _
      | exact x_Strain.mono _ _ _ _ _ _
      | exact x_Value.mono _ _ _ _ _ _ _ _ _ _
      | exact LeO.none _
      | refine LeO.ite ?_ ?_
      | refine LeO.bind ?_ (fun _ => ?_)
    · intro y0 y1 y2 y3 y4 y5 y6 y7 y8 y9 y10 y11 y12 y13 y14 y15 y16 y17 y18 y19 y20 y21 y22 y23 y24 y25 y26 y27 y28 y29 y30 y31
      unfold culletlaw05_StrengthRecipes.j1
      repeat' first
      | (with_reducible exact ih0 _ _ _ _ _ _ _ _ _ _ _ _ _ _ _ _ _ _ _ _ _ _ _ _ _ _ _ _ _ _ _)
      | (with_reducible exact ih1 _ _ _ _ _ _ _ _ _ _ _ _ _ _ _ _ _ _ _ _ _ _ _ _ _ _ _ _ _ _ _ _)
      | (with_reducible exact ih2 _ _ _ _ _ _ _ _ _ _ _ _ _ _ _ _ _ _ _ _ _ _ _ _ _ _)
      | (with_reducible exact lw_Great.mono _ _ _ _ _ _ _ _)
      | (with_reducible exact culletlaw05_Wide.mono _ _ _ _ _ _ _ _ _ _ _ _ _ _ _ _ _ _ _ _ _ _)
      | (with_reducible exact culletlaw05_lives.mono _)
      | (with_reducible exact x_Anneals.mono _ _ _ _ _ _ _ _ _ _ _ _ _ _ _ _)
      | (with_reducible exact x_Held.mono _ _ _ _)
      | (with_reducible exact x_Strain.mono _ _ _ _ _ _)
      | (with_reducible exact x_Value.mono _ _ _ _ _ _ _ _ _ _)
      | (with_reducible exact LeO.refl _)
      | (with_reducible exact LeO.none _)
      | (with_reducible refine LeO.ite ?_ ?_)
      | (with_reducible refine LeO.bind ?_ (fun _ => ?_))
      | exact ih0 _ _ _ _ _ _ _ _ _ _ _ _ _ _ _ _ _ _ _ _ _ _ _ _ _ _ _ _ _ _ _
      | exact ih1 _ _ _ _ _ _ _ _ _ _ _ _ _ _ _ _ _ _ _ _ _ _ _ _ _ _ _ _ _ _ _ _
      | exact ih2 _ _ _ _ _ _ _ _ _ _ _ _ _ _ _ _ _ _ _ _ _ _ _ _ _ _
      | exact lw_Great.mono _ _ _ _ _ _ _ _
      | exact culletlaw05_Wide.mono _ _ _ _ _ _ _ _ _ _ _ _ _ _ _ _ _ _ _ _ _ _
      | exact culletlaw05_lives.mono _
      | exact x_Anneals.mono _ _ _ _ _ _ _ _ _ _ _ _ _ _ _ _
      | exact x_Held.mono _ _ _ _
      | exact x_Strain.mono _ _ _ _ _ _
      | exact x_Value.mono _ _ _ _ _ _ _ _ _ _
      | exact LeO.none _
      | refine LeO.ite ?_ ?_
      | refine LeO.bind ?_ (fun _ => ?_)
    · intro y0 y1 y2 y3 y4 y5 y6 y7 y8 y9 y10 y11 y12 y13 y14 y15 y16 y17 y18 y19 y20 y21 y22 y23 y24 y25
      unfold culletlaw05_StrengthRecipes.l0
      repeat' first
      | (with_reducible exact ih0 _ _ _ _ _ _ _ _ _ _ _ _ _ _ _ _ _ _ _ _ _ _ _ _ _ _ _ _ _ _ _)
      | (with_reducible exact ih1 _ _ _ _ _ _ _ _ _ _ _ _ _ _ _ _ _ _ _ _ _ _ _ _ _ _ _ _ _ _ _ _)
      | (with_reducible exact ih2 _ _ _ _ _ _ _ _ _ _ _ _ _ _ _ _ _ _ _ _ _ _ _ _ _ _)
      | (with_reducible exact lw_Great.mono _ _ _ _ _ _ _ _)
      | (with_reducible exact culletlaw05_Wide.mono _ _ _ _ _ _ _ _ _ _ _ _ _ _ _ _ _ _ _ _ _ _)
      | (with_reducible exact culletlaw05_lives.mono _)
      | (with_reducible exact x_Anneals.mono _ _ _ _ _ _ _ _ _ _ _ _ _ _ _ _)
      | (with_reducible exact x_Held.mono _ _ _ _)
      | (with_reducible exact x_Strain.mono _ _ _ _ _ _)
      | (with_reducible exact x_Value.mono _ _ _ _ _ _ _ _ _ _)
      | (with_reducible exact LeO.refl _)
      | (with_reducible exact LeO.none _)
      | (with_reducible refine LeO.ite ?_ ?_)
      | (with_reducible refine LeO.bind ?_ (fun _ => ?_))
      | exact ih0 _ _ _ _ _ _ _ _ _ _ _ _ _ _ _ _ _ _ _ _ _ _ _ _ _ _ _ _ _ _ _
      | exact ih1 _ _ _ _ _ _ _ _ _ _ _ _ _ _ _ _ _ _ _ _ _ _ _ _ _ _ _ _ _ _ _ _
      | exact ih2 _ _ _ _ _ _ _ _ _ _ _ _ _ _ _ _ _ _ _ _ _ _ _ _ _ _
      | exact lw_Great.mono _ _ _ _ _ _ _ _
      | exact culletlaw05_Wide.mono _ _ _ _ _ _ _ _ _ _ _ _ _ _ _ _ _ _ _ _ _ _
      | exact culletlaw05_lives.mono _
      | exact x_Anneals.mono _ _ _ _ _ _ _ _ _ _ _ _ _ _ _ _
      | exact x_Held.mono _ _ _ _
      | exact x_Strain.mono _ _ _ _ _ _
      | exact x_Value.mono _ _ _ _ _ _ _ _ _ _
      | exact LeO.none _
      | refine LeO.ite ?_ ?_
      | refine LeO.bind ?_ (fun _ => ?_)
theorem culletlaw05_StrengthRecipes.mono : ∀ a0 a1 a2 a3 a4 a5 a6 a7 a8 a9 a10 a11 a12 a13 a14 a15 a16 a17 a18 a19 a20 a21 a22 a23 a24 a25 a26 a27 a28 a29 k, LeO (culletlaw05_StrengthRecipes.f k a0 a1 a2 a3 a4 a5 a6 a7 a8 a9 a10 a11 a12 a13 a14 a15 a16 a17 a18 a19 a20 a21 a22 a23 a24 a25 a26 a27 a28 a29) (culletlaw05_StrengthRecipes.f (k + 1) a0 a1 a2 a3 a4 a5 a6 a7 a8 a9 a10 a11 a12 a13 a14 a15 a16 a17 a18 a19 a20 a21 a22 a23 a24 a25 a26 a27 a28 a29) := by
  intro a0 a1 a2 a3 a4 a5 a6 a7 a8 a9 a10 a11 a12 a13 a14 a15 a16 a17 a18 a19 a20 a21 a22 a23 a24 a25 a26 a27 a28 a29 k
  obtain ⟨ih0, ih1, ih2⟩ := culletlaw05_StrengthRecipes.mono_l k
  unfold culletlaw05_StrengthRecipes.f
  repeat' first
      | (with_reducible exact ih0 _ _ _ _ _ _ _ _ _ _ _ _ _ _ _ _ _ _ _ _ _ _ _ _ _ _ _ _ _ _ _)
      | (with_reducible exact ih1 _ _ _ _ _ _ _ _ _ _ _ _ _ _ _ _ _ _ _ _ _ _ _ _ _ _ _ _ _ _ _ _)
      | (with_reducible exact ih2 _ _ _ _ _ _ _ _ _ _ _ _ _ _ _ _ _ _ _ _ _ _ _ _ _ _)
      | (with_reducible exact lw_Great.mono _ _ _ _ _ _ _ _)
      | (with_reducible exact culletlaw05_Wide.mono _ _ _ _ _ _ _ _ _ _ _ _ _ _ _ _ _ _ _ _ _ _)
      | (with_reducible exact culletlaw05_lives.mono _)
      | (with_reducible exact x_Anneals.mono _ _ _ _ _ _ _ _ _ _ _ _ _ _ _ _)
      | (with_reducible exact x_Held.mono _ _ _ _)
      | (with_reducible exact x_Strain.mono _ _ _ _ _ _)
      | (with_reducible exact x_Value.mono _ _ _ _ _ _ _ _ _ _)
      | (with_reducible exact LeO.refl _)
      | (with_reducible exact LeO.none _)
      | (with_reducible refine LeO.ite ?_ ?_)
      | (with_reducible refine LeO.bind ?_ (fun _ => ?_))
      | exact ih0 _ _ _ _ _ _ _ _ _ _ _ _ _ _ _ _ _ _ _ _ _ _ _ _ _ _ _ _ _ _ _
      | exact ih1 _ _ _ _ _ _ _ _ _ _ _ _ _ _ _ _ _ _ _ _ _ _ _ _ _ _ _ _ _ _ _ _
      | exact ih2 _ _ _ _ _ _ _ _ _ _ _ _ _ _ _ _ _ _ _ _ _ _ _ _ _ _
      | exact lw_Great.mono _ _ _ _ _ _ _ _
      | exact culletlaw05_Wide.mono _ _ _ _ _ _ _ _ _ _ _ _ _ _ _ _ _ _ _ _ _ _
      | exact culletlaw05_lives.mono _
      | exact x_Anneals.mono _ _ _ _ _ _ _ _ _ _ _ _ _ _ _ _
      | exact x_Held.mono _ _ _ _
      | exact x_Strain.mono _ _ _ _ _ _
      | exact x_Value.mono _ _ _ _ _ _ _ _ _ _
      | exact LeO.none _
      | refine LeO.ite ?_ ?_
      | refine LeO.bind ?_ (fun _ => ?_)
end Go.Proofs.Ytkjkokgbhepmoaa.PB

namespace Go.Proofs.Ytkjkokgbhepmoaa.PB
open Go.RowKit Go.Proofs.YtkjkokgbhepmoaaW.PrintWords Go.Proofs.YtkjkokgbhepmoaaW.PrintLast Go.Proofs.YtkjkokgbhepmoaaW.PrintMore
section
variable {P : Program} {ops : Array Oper} {rest : List Oper} {o : Oper} {a : Act} {Q : Exit → Act → World → Prop} {w : World}
theorem wp_loadrow_g (t : TypeId) (x : Operand) (ad : Addr) (v : Value) (hw : Region.wanted o (yielded ops a.tmps) = true) (ho : o.op = .load t x) (hx : a.eval x = .pointer (some ad)) (hr : (loadVar t ad).run P w = .ok v w) (h : wpList P ops Q rest (a.put o.dst v) w) : wpList P ops Q (o :: rest) a w := by
  refine wpList_step fun K hK => ?_
  rw [if_pos hw]
  unfold Oper.wp execOp
  simp only [ho, hx]
  simp only [Instr.loadAt, Instr.sureAddr, asAddr, Sem.run_bind, Sem.run_pure, hr, Result.andThen]
  exact hK _ _ h
end
structure RW3 (oL oB oX : Obj) (w W : World) : Prop where
  bl : W.heap[w.heap.size]? = some oL
  bb : W.heap[w.heap.size + 1]? = some oB
  bx : W.heap[w.heap.size + 1 + 1]? = some oX
  be : Below w.heap.size w W
theorem RW3.step {oL oB oX : Obj} {w W W' : World} (h : RW3 oL oB oX w W) (hb : Below W.heap.size W W') : RW3 oL oB oX w W' :=
  ⟨blk_below h.bl hb, blk_below h.bb hb, blk_below h.bx hb, below_then h.be h.be.size hb⟩
theorem RW3.alloc {oL oB oX : Obj} {w W : World} (h : RW3 oL oB oX w W) (ob : Obj) : RW3 oL oB oX w (W.alloc ob) := h.step (below_alloc (Below.refl _ _) ob)
set_option maxHeartbeats 8000000 in
set_option maxRecDepth 100000 in
theorem recipes_walk (A0 : Option Addr) (c0 : Nat) (kn : List S84) (fac : Int) (Ao : Option Addr) (co : Nat) (o : List ByteArray) (Am : Option Addr) (cm : Nat) (mt : List S63) (As : Option Addr) (cs : Nat) (s : List S27) (Ap : Option Addr) (cp : Nat) (p : List S65) (a4 a5 a6 : Int) (B0 : Option Addr) (d0 : Nat) (y0 : List S27) (y1 y2 y3 y4 y5 y6 y7 y8 : Int) (B9 : Option Addr) (d9 : Nat) (y9 : List Int) (y10 y11 y12 y13 y14 y15 y16 y17 y18 : Int) (Br : Option Addr) (dr : Nat) (r : List Int) (B20 : Option Addr) (d20 : Nat) (y20 : List S165) (w : World) (hr0 : Kd.C k84 w A0 kn.length kn) (hc0 : kn.length ≤ c0) (hro : Kd.C Kd.string w Ao o.length o) (hco : o.length ≤ co) (hrm : Kd.C k63 w Am mt.length mt) (hcm : mt.length ≤ cm) (hrs : Kd.C k27 w As s.length s) (hcs : s.length ≤ cs) (hrp : Kd.C k65 w Ap p.length p) (hcp : p.length ≤ cp) (hr1 : Kd.C k27 w B0 y0.length y0) (hc1 : y0.length ≤ d0) (hr9 : Kd.C (Kd.int .i64) w B9 y9.length y9) (hc9 : y9.length ≤ d9) (hrr : Kd.C (Kd.int .i64) w Br r.length r) (hcr : r.length ≤ dr) (hr20 : Kd.C k165 w B20 y20.length y20) (hc20 : y20.length ≤ d20) (K : Nat) (b c A1 : Bool) (A2 V1 V2 mid : Int) (hh nn : Nat → Int) (hG : lw_Great.f K o mt s p a4 a5 a6 = some b) (hW : culletlaw05_Wide.f K y0 y1 y2 y3 y4 y5 y6 y7 y8 y9 y10 y11 y12 y13 y14 y15 y16 y17 y18 r y20 = some c) (hLV : culletlaw05_lives.f K = some true) (hA : x_Anneals.f K kn fac o mt s p a4 a5 a6 r y14 y15 y16 y12 y17 = some (A1, A2)) (hA2 : A1 = true → A2 = 0) (hV : A1 = true → x_Value.f K o mt s p a4 a5 a6 r y14 = some (V1, V2, 0)) (hmid : wrap64 (Int.tdiv (wrap64 (V1 + V2)) 2) = mid) (hH : A1 = true → ∀ j : Nat, j < 3 → x_Held.f K kn fac (rd [V1, mid, V2] (j : Int)) = some (hh j, 0) ∧ x_Strain.f K kn fac (wrap64 (rd [V1, mid, V2] (j : Int) - y15)) (rd [V1, mid, V2] (j : Int)) y12 = some (nn j, 0) ∧ decide (hh j < y16) = false ∧ decide (nn j > y17) = false) :
    Calls Try.prog 9 #[.agg #[.slice A0 kn.length c0, .int .i64 fac], .agg #[.slice Ao o.length co, .slice Am mt.length cm, .slice As s.length cs, .slice Ap p.length cp, .int .i64 a4, .int .i64 a5, .int .i64 a6], .agg #[.slice B0 y0.length d0, .int .i64 y1, .int .i64 y2, .int .i64 y3, .int .i64 y4, .int .i64 y5, .int .i64 y6, .int .i64 y7, .int .i64 y8, .slice B9 y9.length d9, .int .i64 y10, .int .i64 y11, .int .i64 y12, .int .i64 y13, .int .i64 y14, .int .i64 y15, .int .i64 y16, .int .i64 y17, .int .i64 y18, .slice Br r.length dr, .slice B20 y20.length d20]] w fun e w' => e = .returned (.bool true) ∧ Below w.heap.size w w' := by
  have HR0 := Sd.mk hr0
  have HC0 := Sd.mk hc0
  clear hr0 hc0
  have HRo := Sd.mk hro
  have HCo := Sd.mk hco
  clear hro hco
  have HRm := Sd.mk hrm
  have HCm := Sd.mk hcm
  clear hrm hcm
  have HRs := Sd.mk hrs
  have HCs := Sd.mk hcs
  clear hrs hcs
  have HRp := Sd.mk hrp
  have HCp := Sd.mk hcp
  clear hrp hcp
  have HR1 := Sd.mk hr1
  have HC1 := Sd.mk hc1
  clear hr1 hc1
  have HR9 := Sd.mk hr9
  have HC9 := Sd.mk hc9
  clear hr9 hc9
  have HRr := Sd.mk hrr
  have HCr := Sd.mk hcr
  clear hrr hcr
  have HR20 := Sd.mk hr20
  have HC20 := Sd.mk hc20
  clear hr20 hc20
  obtain ⟨b1, b2, b3, hb0, hsz⟩ := blk_three w (.cells #[.slice A0 kn.length c0, .int .i64 fac] 71) (.cells #[.slice Ao o.length co, .slice Am mt.length cm, .slice As s.length cs, .slice Ap p.length cp, .int .i64 a4, .int .i64 a5, .int .i64 a6] 29) (.cells #[.slice B0 y0.length d0, .int .i64 y1, .int .i64 y2, .int .i64 y3, .int .i64 y4, .int .i64 y5, .int .i64 y6, .int .i64 y7, .int .i64 y8, .slice B9 y9.length d9, .int .i64 y10, .int .i64 y11, .int .i64 y12, .int .i64 y13, .int .i64 y14, .int .i64 y15, .int .i64 y16, .int .i64 y17, .int .i64 y18, .slice Br r.length dr, .slice B20 y20.length d20] 76)
  have RW0 : Sd (RW3 (.cells #[.slice A0 kn.length c0, .int .i64 fac] 71 (0, 0)) (.cells #[.slice Ao o.length co, .slice Am mt.length cm, .slice As s.length cs, .slice Ap p.length cp, .int .i64 a4, .int .i64 a5, .int .i64 a6] 29 (0, 0)) (.cells #[.slice B0 y0.length d0, .int .i64 y1, .int .i64 y2, .int .i64 y3, .int .i64 y4, .int .i64 y5, .int .i64 y6, .int .i64 y7, .int .i64 y8, .slice B9 y9.length d9, .int .i64 y10, .int .i64 y11, .int .i64 y12, .int .i64 y13, .int .i64 y14, .int .i64 y15, .int .i64 y16, .int .i64 y17, .int .i64 y18, .slice Br r.length dr, .slice B20 y20.length d20] 76 (0, 0)) w (((w.alloc (.cells #[.slice A0 kn.length c0, .int .i64 fac] 71)).alloc (.cells #[.slice Ao o.length co, .slice Am mt.length cm, .slice As s.length cs, .slice Ap p.length cp, .int .i64 a4, .int .i64 a5, .int .i64 a6] 29)).alloc (.cells #[.slice B0 y0.length d0, .int .i64 y1, .int .i64 y2, .int .i64 y3, .int .i64 y4, .int .i64 y5, .int .i64 y6, .int .i64 y7, .int .i64 y8, .slice B9 y9.length d9, .int .i64 y10, .int .i64 y11, .int .i64 y12, .int .i64 y13, .int .i64 y14, .int .i64 y15, .int .i64 y16, .int .i64 y17, .int .i64 y18, .slice Br r.length dr, .slice B20 y20.length d20] 76))) := ⟨⟨b1, b2, b3, hb0⟩⟩
  have HG := Sd.mk hG
  have HW := Sd.mk hW
  have HLV := Sd.mk hLV
  have HA := Sd.mk hA
  have HA2 := Sd.mk hA2
  have HV := Sd.mk hV
  have HM := Sd.mk hmid
  have HH := Sd.mk hH
  clear b1 b2 b3 hb0 hsz hG hW hLV hA hA2 hV hmid hH
  go_enter Try.func9, Try.ntmps9
  go_upto_region 1 with (fail)
  generalize ((w.alloc (.cells #[.slice A0 kn.length c0, .int .i64 fac] 71)).alloc (.cells #[.slice Ao o.length co, .slice Am mt.length cm, .slice As s.length cs, .slice Ap p.length cp, .int .i64 a4, .int .i64 a5, .int .i64 a6] 29)).alloc (.cells #[.slice B0 y0.length d0, .int .i64 y1, .int .i64 y2, .int .i64 y3, .int .i64 y4, .int .i64 y5, .int .i64 y6, .int .i64 y7, .int .i64 y8, .slice B9 y9.length d9, .int .i64 y10, .int .i64 y11, .int .i64 y12, .int .i64 y13, .int .i64 y14, .int .i64 y15, .int .i64 y16, .int .i64 y17, .int .i64 y18, .slice Br r.length dr, .slice B20 y20.length d20] 76) = W0 at RW0 ⊢
  generalize Value.agg #[.slice A0 kn.length c0, .int .i64 fac] = uL
  generalize Value.agg #[.slice Ao o.length co, .slice Am mt.length cm, .slice As s.length cs, .slice Ap p.length cp, .int .i64 a4, .int .i64 a5, .int .i64 a6] = uB
  generalize Value.agg #[.slice B0 y0.length d0, .int .i64 y1, .int .i64 y2, .int .i64 y3, .int .i64 y4, .int .i64 y5, .int .i64 y6, .int .i64 y7, .int .i64 y8, .slice B9 y9.length d9, .int .i64 y10, .int .i64 y11, .int .i64 y12, .int .i64 y13, .int .i64 y14, .int .i64 y15, .int .i64 y16, .int .i64 y17, .int .i64 y18, .slice Br r.length dr, .slice B20 y20.length d20] = uX
  have gL0 : W0.cell? ⟨w.heap.size, 0, none⟩ = some (.slice A0 kn.length c0) := (blk_cell RW0.out.bl 0).trans rfl
  have HLB := Sd.mk (run_loadVar_row (P := Try.prog) _ _ 29 29 _ (0, 0) _ RW0.out.bb Try.underlying29 rfl (by kernel_rfl))
  have HLX := Sd.mk (run_loadVar_row (P := Try.prog) _ _ 76 76 _ (0, 0) _ RW0.out.bx Try.underlying76 rfl (by kernel_rfl))
  (try simp only [Act.put, List.setIfInBounds_toArray, List.set_cons_zero, List.set_cons_succ])
  go_cut [27] (fun v27 wc => ∃ bb : Bool, v27 = .bool bb ∧ Sd (RW3 (.cells #[.slice A0 kn.length c0, .int .i64 fac] 71 (0, 0)) (.cells #[.slice Ao o.length co, .slice Am mt.length cm, .slice As s.length cs, .slice Ap p.length cp, .int .i64 a4, .int .i64 a5, .int .i64 a6] 29 (0, 0)) (.cells #[.slice B0 y0.length d0, .int .i64 y1, .int .i64 y2, .int .i64 y3, .int .i64 y4, .int .i64 y5, .int .i64 y6, .int .i64 y7, .int .i64 y8, .slice B9 y9.length d9, .int .i64 y10, .int .i64 y11, .int .i64 y12, .int .i64 y13, .int .i64 y14, .int .i64 y15, .int .i64 y16, .int .i64 y17, .int .i64 y18, .slice Br r.length dr, .slice B20 y20.length d20] 76 (0, 0)) w wc))
  case first =>
    as_aux_lemma =>
      by_cases h1 : (kn.length : Int) > 100
      · have c1 : decide (100 < (kn.length : Int)) = true := decide_eq_true h1
        have c2 : decide (100 < kn.length) = true := decide_eq_true (by omega)
        clear h1
        go_wp2
        go_meet
        case rel => exact ⟨true, rfl, RW0⟩
      · have c1 : decide (100 < (kn.length : Int)) = false := decide_eq_false h1
        have c2 : decide (100 < kn.length) = false := decide_eq_false (by omega)
        clear h1
        cases b with
        | true =>
          go_wp2_with (first | (refine wp_loadrow_g 29 _ _ _ (by go_simp) rfl rfl HLB.out ?_) | (go_at_call 12; (with_reducible refine (lw_Great.calls K _ _ o _ _ mt _ _ s _ _ p a4 a5 a6 _ _ (Kd.C_below HRo.out RW0.out.be) HCo.out (Kd.C_below HRm.out RW0.out.be) HCm.out (Kd.C_below HRs.out RW0.out.be) HCs.out (Kd.C_below HRp.out RW0.out.be) HCp.out HG.out).mono ?_); rintro e w1 ⟨rfl, hb⟩; have RW1 := Sd.mk (RW0.out.step hb); clear hb; skip))
          go_meet
          case rel => exact ⟨true, rfl, RW1⟩
        | false =>
          go_wp2_with (first | (refine wp_loadrow_g 29 _ _ _ (by go_simp) rfl rfl HLB.out ?_) | (clear HLX; go_at_call 12; (with_reducible refine (lw_Great.calls K _ _ o _ _ mt _ _ s _ _ p a4 a5 a6 _ _ (Kd.C_below HRo.out RW0.out.be) HCo.out (Kd.C_below HRm.out RW0.out.be) HCm.out (Kd.C_below HRs.out RW0.out.be) HCs.out (Kd.C_below HRp.out RW0.out.be) HCp.out HG.out).mono ?_); rintro e w1 ⟨rfl, hb⟩; have RW1 := Sd.mk (RW0.out.step hb); clear hb; have HLX := Sd.mk (run_loadVar_row (P := Try.prog) _ _ 76 76 _ (0, 0) _ RW1.out.bx Try.underlying76 rfl (by kernel_rfl))) | (refine wp_loadrow_g 76 _ _ _ (by go_simp) rfl rfl HLX.out ?_) | (go_at_call 35; (with_reducible refine (culletlaw05_Wide.calls K _ _ y0 y1 y2 y3 y4 y5 y6 y7 y8 _ _ y9 y10 y11 y12 y13 y14 y15 y16 y17 y18 _ _ r _ _ y20 _ _ (Kd.C_below HR1.out RW1.out.be) HC1.out (Kd.C_below HR9.out RW1.out.be) HC9.out (Kd.C_below HRr.out RW1.out.be) HCr.out (Kd.C_below HR20.out RW1.out.be) HC20.out HW.out).mono ?_); rintro e w2 ⟨rfl, hb⟩; have RW2 := Sd.mk (RW1.out.step hb); clear hb; skip))
          go_meet
          case rel => exact ⟨c, rfl, RW2⟩
  case rest =>
    as_aux_lemma =>
      clear HLB HLX gL0 RW0
      obtain ⟨bb, rfl, RW1⟩ := hcut
      cases bb with
      | true =>
        go_wp2_with (first | (go_at_call 36; (with_reducible refine (culletlaw05_lives.calls K true _ HLV.out).mono ?_); rintro e wl ⟨rfl, hb⟩))
        go_ret
        exact ⟨rfl, below_then RW1.out.be RW1.out.be.size hb⟩
      | false =>
        have HLL := Sd.mk (run_loadVar_row (P := Try.prog) _ _ 71 71 _ (0, 0) _ RW1.out.bl Try.underlying71 rfl (by kernel_rfl))
        have HLB := Sd.mk (run_loadVar_row (P := Try.prog) _ _ 29 29 _ (0, 0) _ RW1.out.bb Try.underlying29 rfl (by kernel_rfl))
        have gX12 : wc.cell? ⟨w.heap.size + 1 + 1, 0 + 12, none⟩ = some (.int .i64 y12) := (blk_cell RW1.out.bx 12).trans rfl
        have gX14 : wc.cell? ⟨w.heap.size + 1 + 1, 0 + 14, none⟩ = some (.int .i64 y14) := (blk_cell RW1.out.bx 14).trans rfl
        have gX15 : wc.cell? ⟨w.heap.size + 1 + 1, 0 + 15, none⟩ = some (.int .i64 y15) := (blk_cell RW1.out.bx 15).trans rfl
        have gX16 : wc.cell? ⟨w.heap.size + 1 + 1, 0 + 16, none⟩ = some (.int .i64 y16) := (blk_cell RW1.out.bx 16).trans rfl
        have gX17 : wc.cell? ⟨w.heap.size + 1 + 1, 0 + 17, none⟩ = some (.int .i64 y17) := (blk_cell RW1.out.bx 17).trans rfl
        have gX19 : wc.cell? ⟨w.heap.size + 1 + 1, 0 + 19, none⟩ = some (.slice Br r.length dr) := (blk_cell RW1.out.bx 19).trans rfl
        cases A1 with
        | false =>
          by_cases h2 : A2 = 0
          · subst h2
            go_wp2_with (first | (refine wp_loadrow_g 71 _ _ _ (by go_simp) rfl rfl HLL.out ?_) | (refine wp_loadrow_g 29 _ _ _ (by go_simp) rfl rfl HLB.out ?_) | (go_at_call 37; (with_reducible refine (x_Anneals.calls K _ _ kn fac _ _ o _ _ mt _ _ s _ _ p a4 a5 a6 _ _ r y14 y15 y16 y12 y17 false 0 _ (Kd.C_below HR0.out RW1.out.be) HC0.out (Kd.C_below HRo.out RW1.out.be) HCo.out (Kd.C_below HRm.out RW1.out.be) HCm.out (Kd.C_below HRs.out RW1.out.be) HCs.out (Kd.C_below HRp.out RW1.out.be) HCp.out (Kd.C_below HRr.out RW1.out.be) HCr.out HA.out).mono ?_); rintro e w2 ⟨rfl, hb⟩; have RW2 := Sd.mk (RW1.out.step hb); clear hb) | (go_at_call 36; (with_reducible refine (culletlaw05_lives.calls K true _ HLV.out).mono ?_); rintro e wl ⟨rfl, hb⟩))
            go_ret
            exact ⟨rfl, below_then RW2.out.be RW2.out.be.size hb⟩
          · have d1 : decide (A2 = 0) = false := decide_eq_false h2
            have d2 : (A2 == 0) = false := beq_eq_false_iff_ne.mpr h2
            go_wp2_with (first | (refine wp_loadrow_g 71 _ _ _ (by go_simp) rfl rfl HLL.out ?_) | (refine wp_loadrow_g 29 _ _ _ (by go_simp) rfl rfl HLB.out ?_) | (go_at_call 37; (with_reducible refine (x_Anneals.calls K _ _ kn fac _ _ o _ _ mt _ _ s _ _ p a4 a5 a6 _ _ r y14 y15 y16 y12 y17 false A2 _ (Kd.C_below HR0.out RW1.out.be) HC0.out (Kd.C_below HRo.out RW1.out.be) HCo.out (Kd.C_below HRm.out RW1.out.be) HCm.out (Kd.C_below HRs.out RW1.out.be) HCs.out (Kd.C_below HRp.out RW1.out.be) HCp.out (Kd.C_below HRr.out RW1.out.be) HCr.out HA.out).mono ?_); rintro e w2 ⟨rfl, hb⟩; have RW2 := Sd.mk (RW1.out.step hb); clear hb) | (go_at_call 36; (with_reducible refine (culletlaw05_lives.calls K true _ HLV.out).mono ?_); rintro e wl ⟨rfl, hb⟩))
            go_ret
            exact ⟨rfl, below_then RW2.out.be RW2.out.be.size hb⟩
        | true =>
          obtain rfl := HA2.out rfl
          go_wp2_with (first | (refine wp_loadrow_g 71 _ _ _ (by go_simp) rfl rfl HLL.out ?_) | (refine wp_loadrow_g 29 _ _ _ (by go_simp) rfl rfl HLB.out ?_) | (go_at_call 37; (with_reducible refine (x_Anneals.calls K _ _ kn fac _ _ o _ _ mt _ _ s _ _ p a4 a5 a6 _ _ r y14 y15 y16 y12 y17 true 0 _ (Kd.C_below HR0.out RW1.out.be) HC0.out (Kd.C_below HRo.out RW1.out.be) HCo.out (Kd.C_below HRm.out RW1.out.be) HCm.out (Kd.C_below HRs.out RW1.out.be) HCs.out (Kd.C_below HRp.out RW1.out.be) HCp.out (Kd.C_below HRr.out RW1.out.be) HCr.out HA.out).mono ?_); rintro e w2 ⟨rfl, hb⟩; have RW2 := Sd.mk (RW1.out.step hb); clear hb; have gX14 : w2.cell? ⟨w.heap.size + 1 + 1, 0 + 14, none⟩ = some (.int .i64 y14) := (blk_cell RW2.out.bx 14).trans rfl; have gX19 : w2.cell? ⟨w.heap.size + 1 + 1, 0 + 19, none⟩ = some (.slice Br r.length dr) := (blk_cell RW2.out.bx 19).trans rfl; clear HLB; have HLB := Sd.mk (run_loadVar_row (P := Try.prog) _ _ 29 29 _ (0, 0) _ RW2.out.bb Try.underlying29 rfl (by kernel_rfl))) | (go_at_call 20; go_loud ((with_reducible refine (x_Value.calls K _ _ o _ _ mt _ _ s _ _ p a4 a5 a6 _ _ r y14 V1 V2 0 _ (Kd.C_below HRo.out RW2.out.be) HCo.out (Kd.C_below HRm.out RW2.out.be) HCm.out (Kd.C_below HRs.out RW2.out.be) HCs.out (Kd.C_below HRp.out RW2.out.be) HCp.out (Kd.C_below HRr.out RW2.out.be) HCr.out (HV.out (by simp))).mono ?_); rintro e w3 ⟨rfl, hb⟩; have RW3' := Sd.mk (RW2.out.step hb); clear hb; have gv0 : (w3.alloc (.cells #[.int .i64 V1, .int .i64 V2] 27)).cell? ⟨w3.heap.size, 0, none⟩ = some (.int .i64 V1) := (blk_cell (blk_new w3 _) 0).trans rfl; have gv1 : (w3.alloc (.cells #[.int .i64 V1, .int .i64 V2] 27)).cell? ⟨w3.heap.size, 0 + 1, none⟩ = some (.int .i64 V2) := (blk_cell (blk_new w3 _) 1).trans rfl)))
          rw [HM.out]
          have RW4 : Sd (RW3 (.cells #[.slice A0 kn.length c0, .int .i64 fac] 71 (0, 0)) (.cells #[.slice Ao o.length co, .slice Am mt.length cm, .slice As s.length cs, .slice Ap p.length cp, .int .i64 a4, .int .i64 a5, .int .i64 a6] 29 (0, 0)) (.cells #[.slice B0 y0.length d0, .int .i64 y1, .int .i64 y2, .int .i64 y3, .int .i64 y4, .int .i64 y5, .int .i64 y6, .int .i64 y7, .int .i64 y8, .slice B9 y9.length d9, .int .i64 y10, .int .i64 y11, .int .i64 y12, .int .i64 y13, .int .i64 y14, .int .i64 y15, .int .i64 y16, .int .i64 y17, .int .i64 y18, .slice Br r.length dr, .slice B20 y20.length d20] 76 (0, 0)) w ((w3.alloc (.cells #[.int .i64 V1, .int .i64 V2] 27)).alloc (.cells #[.int .i64 V1, .int .i64 mid, .int .i64 V2] 3))) := ⟨(RW3'.out.alloc _).alloc _⟩
          have BS : Sd (((w3.alloc (.cells #[.int .i64 V1, .int .i64 V2] 27)).alloc (.cells #[.int .i64 V1, .int .i64 mid, .int .i64 V2] 3)).heap[w3.heap.size + 1]? = some (.cells #[.int .i64 V1, .int .i64 mid, .int .i64 V2] 3 (0, 0))) := ⟨by simpa using blk_new (w3.alloc (.cells #[.int .i64 V1, .int .i64 V2] 27)) (.cells #[.int .i64 V1, .int .i64 mid, .int .i64 V2] 3)⟩
          generalize (w3.alloc (.cells #[.int .i64 V1, .int .i64 V2] 27)).alloc (.cells #[.int .i64 V1, .int .i64 mid, .int .i64 V2] 3) = w4 at RW4 BS ⊢
          go_loopg [81] 3 (fun gq v81 wr => ∃ k : Nat, v81 = .int .i64 k ∧ k ≤ 3 ∧ 3 - k ≤ gq ∧ Sd (RW3 (.cells #[.slice A0 kn.length c0, .int .i64 fac] 71 (0, 0)) (.cells #[.slice Ao o.length co, .slice Am mt.length cm, .slice As s.length cs, .slice Ap p.length cp, .int .i64 a4, .int .i64 a5, .int .i64 a6] 29 (0, 0)) (.cells #[.slice B0 y0.length d0, .int .i64 y1, .int .i64 y2, .int .i64 y3, .int .i64 y4, .int .i64 y5, .int .i64 y6, .int .i64 y7, .int .i64 y8, .slice B9 y9.length d9, .int .i64 y10, .int .i64 y11, .int .i64 y12, .int .i64 y13, .int .i64 y14, .int .i64 y15, .int .i64 y16, .int .i64 y17, .int .i64 y18, .slice Br r.length dr, .slice B20 y20.length d20] 76 (0, 0)) w wr) ∧ Sd (wr.heap[w3.heap.size + 1]? = some (.cells #[.int .i64 V1, .int .i64 mid, .int .i64 V2] 3 (0, 0))))
          case atStart => exact ⟨0, rfl, by omega, by omega, RW4, BS⟩
          case round =>
            as_aux_lemma =>
              clear RW4 BS HLL HLB gv0 gv1 gX12 gX14 gX15 gX16 gX17 gX19
              obtain ⟨k, rfl, hk, hgk, RW5, BS⟩ := hrel
              by_cases hlt : k < 3
              · obtain ⟨f1, f2, f3, f4⟩ := HH.out (by simp) k hlt
                have hy : wr.cell? ⟨w3.heap.size + 1, k, none⟩ = some (.int .i64 (rd [V1, mid, V2] (k : Int))) := by
                  refine (blk_cell BS.out k).trans ?_
                  match k, hlt with
                  | 0, _ => rfl
                  | 1, _ => rfl
                  | 2, _ => rfl
                generalize rd [V1, mid, V2] (k : Int) = t at f1 f2 f3 f4 hy
                have HF1 := Sd.mk f1
                have HF2 := Sd.mk f2
                have f5 : decide (nn k > y17) = false := f4
                have f6 : decide (y17 < nn k) = false := f4
                have hltz : (k : Int) < 3 := by omega
                have hwr : wrap64 ((k : Int) + 1) = (k : Int) + 1 := wrap_succ (by omega) (by omega)
                clear f1 f2 hlt
                have HLL := Sd.mk (run_loadVar_row (P := Try.prog) _ _ 71 71 _ (0, 0) _ RW5.out.bl Try.underlying71 rfl (by kernel_rfl))
                go_wp2_with (first | (refine wp_loadrow_g 71 _ _ _ (by go_simp) rfl rfl HLL.out ?_) | (go_at_call 38; (with_reducible refine (x_Held.calls K _ _ kn fac t (hh k) 0 _ (Kd.C_below HR0.out RW5.out.be) HC0.out HF1.out).mono ?_); rintro e w5 ⟨rfl, hb⟩; have RW6 := Sd.mk (RW5.out.step hb); have BS6 := Sd.mk (blk_below BS.out hb); clear hb HLL; have HLL := Sd.mk (run_loadVar_row (P := Try.prog) _ _ 71 71 _ (0, 0) _ RW6.out.bl Try.underlying71 rfl (by kernel_rfl)); have gX12 : w5.cell? ⟨w.heap.size + 1 + 1, 0 + 12, none⟩ = some (.int .i64 y12) := (blk_cell RW6.out.bx 12).trans rfl; have gX15 : w5.cell? ⟨w.heap.size + 1 + 1, 0 + 15, none⟩ = some (.int .i64 y15) := (blk_cell RW6.out.bx 15).trans rfl) | (go_at_call 39; (with_reducible refine (x_Strain.calls K _ _ kn fac (wrap64 (t - y15)) t y12 (nn k) 0 _ (Kd.C_below HR0.out RW6.out.be) HC0.out HF2.out).mono ?_); rintro e w6 ⟨rfl, hb⟩; have RW7 := Sd.mk (RW6.out.step hb); have BS7 := Sd.mk (blk_below BS6.out hb); clear hb; have gX16 : w6.cell? ⟨w.heap.size + 1 + 1, 0 + 16, none⟩ = some (.int .i64 y16) := (blk_cell RW7.out.bx 16).trans rfl; have gX17 : w6.cell? ⟨w.heap.size + 1 + 1, 0 + 17, none⟩ = some (.int .i64 y17) := (blk_cell RW7.out.bx 17).trans rfl))
                go_roundg (3 - (k + 1))
                case measure => omega
                case rel => exact ⟨k + 1, by go_num, by omega, by omega, RW7, BS7⟩
              · obtain rfl : k = 3 := by omega
                go_wp2_with (first | (go_at_call 36; (with_reducible refine (culletlaw05_lives.calls K true _ HLV.out).mono ?_); rintro e wl ⟨rfl, hb⟩))
                go_ret
                exact ⟨rfl, below_then RW5.out.be RW5.out.be.size hb⟩
end Go.Proofs.Ytkjkokgbhepmoaa.PB

namespace Go.Proofs.Ytkjkokgbhepmoaa.PB
open Go.RowKit Go.Proofs.YtkjkokgbhepmoaaW.PrintWords Go.Proofs.YtkjkokgbhepmoaaW.PrintLast Go.Proofs.YtkjkokgbhepmoaaW.PrintMore
theorem Ev.at {α : Type} {f : Nat → Option α} {v : α} (h : Ev f v) : ∃ K, ∀ k, K ≤ k → f k = some v := h
theorem StrengthRecipes_calls (A0 : Option Addr) (c0 : Nat) (kn : List S84) (fac : Int) (Ao : Option Addr) (co : Nat) (o : List ByteArray) (Am : Option Addr) (cm : Nat) (mt : List S63) (As : Option Addr) (cs : Nat) (s : List S27) (Ap : Option Addr) (cp : Nat) (p : List S65) (a4 a5 a6 : Int) (B0 : Option Addr) (d0 : Nat) (y0 : List S27) (y1 y2 y3 y4 y5 y6 y7 y8 : Int) (B9 : Option Addr) (d9 : Nat) (y9 : List Int) (y10 y11 y12 y13 y14 y15 y16 y17 y18 : Int) (Br : Option Addr) (dr : Nat) (r : List Int) (B20 : Option Addr) (d20 : Nat) (y20 : List S165) (w : World) (hr0 : Kd.C k84 w A0 kn.length kn) (hc0 : kn.length ≤ c0) (hro : Kd.C Kd.string w Ao o.length o) (hco : o.length ≤ co) (hrm : Kd.C k63 w Am mt.length mt) (hcm : mt.length ≤ cm) (hrs : Kd.C k27 w As s.length s) (hcs : s.length ≤ cs) (hrp : Kd.C k65 w Ap p.length p) (hcp : p.length ≤ cp) (hr1 : Kd.C k27 w B0 y0.length y0) (hc1 : y0.length ≤ d0) (hr9 : Kd.C (Kd.int .i64) w B9 y9.length y9) (hc9 : y9.length ≤ d9) (hrr : Kd.C (Kd.int .i64) w Br r.length r) (hcr : r.length ≤ dr) (hr20 : Kd.C k165 w B20 y20.length y20) (hc20 : y20.length ≤ d20) :
    Calls Try.prog 9 #[.agg #[.slice A0 kn.length c0, .int .i64 fac], .agg #[.slice Ao o.length co, .slice Am mt.length cm, .slice As s.length cs, .slice Ap p.length cp, .int .i64 a4, .int .i64 a5, .int .i64 a6], .agg #[.slice B0 y0.length d0, .int .i64 y1, .int .i64 y2, .int .i64 y3, .int .i64 y4, .int .i64 y5, .int .i64 y6, .int .i64 y7, .int .i64 y8, .slice B9 y9.length d9, .int .i64 y10, .int .i64 y11, .int .i64 y12, .int .i64 y13, .int .i64 y14, .int .i64 y15, .int .i64 y16, .int .i64 y17, .int .i64 y18, .slice Br r.length dr, .slice B20 y20.length d20]] w fun e w' => e = .returned (.bool true) ∧ Below w.heap.size w w' := by
  obtain ⟨b, Kb, hb⟩ := great o mt s p a4 a5 a6
  obtain ⟨c, Kc, hc⟩ := wide5 y0 y1 y2 y3 y4 y5 y6 y7 y8 y9 y10 y11 y12 y13 y14 y15 y16 y17 y18 r y20
  obtain ⟨Kl, hl⟩ := lives5_ev
  obtain ⟨Ka, ha⟩ := ann_ev o mt s p a4 a5 a6 r kn fac y14 y15 y16 y12 y17
  obtain ⟨Kv, hv⟩ := bValue o mt s p a4 a5 a6 r y14
  have hle := ValV_le o mt s p a4 a5 a6 r y14
  cases hA : (annV kn fac (ValV o mt s p a4 a5 a6 r y14) y15 y16 y12 y17).1 with
  | false =>
    refine recipes_walk A0 c0 kn fac Ao co o Am cm mt As cs s Ap cp p a4 a5 a6 B0 d0 y0 y1 y2 y3 y4 y5 y6 y7 y8 B9 d9 y9 y10 y11 y12 y13 y14 y15 y16 y17 y18 Br dr r B20 d20 y20 w hr0 hc0 hro hco hrm hcm hrs hcs hrp hcp hr1 hc1 hr9 hc9 hrr hcr hr20 hc20 (Kb + Kc + Kl + Ka) b c false (annV kn fac (ValV o mt s p a4 a5 a6 r y14) y15 y16 y12 y17).2 0 0 _ (fun _ => 0) (fun _ => 0) (hb _ (by omega)) (hc _ (by omega)) (hl _ (by omega)) ((ha _ (by omega)).trans (by rw [← hA])) (by simp) (by simp) rfl (by simp)
  | true =>
    obtain ⟨h0, hvv, hbb, h1, h2, h3, h4⟩ := ann_true hA
    have hA2 : annV kn fac (ValV o mt s p a4 a5 a6 r y14) y15 y16 y12 y17 = (true, 0) := by
      have e : (annV kn fac (ValV o mt s p a4 a5 a6 r y14) y15 y16 y12 y17).2 = 0 := by
        unfold annV
        rw [if_pos h0, if_pos hvv, if_pos hbb, if_pos (by simp [h1, h2]), if_pos h3]
      rw [← hA, ← e]
    have hle := hle hvv
    rw [hA2] at ha
    generalize ValV o mt s p a4 a5 a6 r y14 = V at *
    obtain ⟨H, hf⟩ := lehr_facts h0
    simp only [annB, Bool.and_eq_true, decide_eq_true_eq] at hbb
    obtain ⟨⟨⟨hb1, hb2⟩, hb3⟩, hb4⟩ := hbb
    have hb1' := hb1
    simp only [inB, Bool.and_eq_true, decide_eq_true_eq] at hb1'
    have hmid : wrap64 (Int.tdiv (wrap64 (V.1 + V.2.1)) 2) = (V.1 + V.2.1) / 2 := by
      rw [wsmall (x := V.1 + V.2.1) (by omega) (by omega), Int.tdiv_eq_ediv_of_nonneg (by omega), wsmall (by omega) (by omega)]
    have key : ∀ t, V.1 ≤ t → t ≤ V.2.1 → ∃ K, ∀ k, K ≤ k → x_Held.f k kn fac t = some (heldV kn t, 0) ∧ x_Strain.f k kn fac (wrap64 (t - y15)) t y12 = some (strainV kn fac (t - y15) t y12, 0) ∧ decide (heldV kn t < y16) = false ∧ decide (strainV kn fac (t - y15) t y12 > y17) = false := by
      intro t ht1 ht2
      have k1 := heldV_anti H ht2
      have k2 := strainV_mono H hf.1 y12 (t0 := t - y15) (t1 := t) (u0 := V.1 - y15) (u1 := V.2.1) (by omega) ht2
      obtain ⟨K1, e1⟩ := xHeld_ev kn fac t h0 (by simp only [inB, Bool.and_eq_true, decide_eq_true_eq]; omega)
      obtain ⟨K2, e2⟩ := xStrain_ev kn fac (t - y15) t y12 h0 (by simp only [spanB, Bool.and_eq_true, decide_eq_true_eq]; omega) hb3
      refine ⟨K1 + K2, fun k hk => ⟨e1 k (by omega), ?_, decide_eq_false (by omega), decide_eq_false (by omega)⟩⟩
      rw [wsmall (x := t - y15) (by omega) (by omega)]
      exact e2 k (by omega)
    obtain ⟨K1, e1⟩ := key V.1 (by omega) (by omega)
    obtain ⟨K2, e2⟩ := key ((V.1 + V.2.1) / 2) (by omega) (by omega)
    obtain ⟨K3, e3⟩ := key V.2.1 (by omega) (by omega)
    have hVe : V = (V.1, V.2.1, 0) := by rw [← hvv]
    refine recipes_walk A0 c0 kn fac Ao co o Am cm mt As cs s Ap cp p a4 a5 a6 B0 d0 y0 y1 y2 y3 y4 y5 y6 y7 y8 B9 d9 y9 y10 y11 y12 y13 y14 y15 y16 y17 y18 Br dr r B20 d20 y20 w hr0 hc0 hro hco hrm hcm hrs hcs hrp hcp hr1 hc1 hr9 hc9 hrr hcr hr20 hc20 (Kb + Kc + Kl + Ka + Kv + K1 + K2 + K3) b c true 0 V.1 V.2.1 ((V.1 + V.2.1) / 2) (fun j => heldV kn (rd [V.1, (V.1 + V.2.1) / 2, V.2.1] (j : Int))) (fun j => strainV kn fac (rd [V.1, (V.1 + V.2.1) / 2, V.2.1] (j : Int) - y15) (rd [V.1, (V.1 + V.2.1) / 2, V.2.1] (j : Int)) y12) (hb _ (by omega)) (hc _ (by omega)) (hl _ (by omega)) (ha _ (by omega)) (fun _ => rfl) (fun _ => (hv _ (by omega)).trans (by rw [← hVe])) hmid (fun _ j hj => ?_)
    match j, hj with
    | 0, _ => exact e1 _ (by omega)
    | 1, _ => exact e2 _ (by omega)
    | 2, _ => exact e3 _ (by omega)
    | j + 3, hj => omega
end Go.Proofs.Ytkjkokgbhepmoaa.PB

