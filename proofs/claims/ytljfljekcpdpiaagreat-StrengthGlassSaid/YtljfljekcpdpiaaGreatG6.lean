import Derived.Test.YtljfljekcpdpiaaGreatG5
set_option linter.unusedVariables false
set_option linter.unusedSimpArgs false
set_option maxHeartbeats 8000000
set_option maxRecDepth 1000000
namespace Go.Proofs.YtljfljekcpdpiaaGreat.PB
open Go.RowKit Go.Shelf Go.Proofs.YtljfljekcpdpiaaGreatW.PrintWords Go.Proofs.YtljfljekcpdpiaaGreatW.PrintLast Go.Proofs.YtljfljekcpdpiaaGreatW.PrintMore
section
attribute [local go_sem] Oper.semAt_some
def ringB (x : S92) : Bool := spanB x.f0.f0 x.f0.f1 1 1000 && (spanB x.f1.f0 x.f1.f1 1 5000 && (spanB x.f2.f0 x.f2.f1 0 1000 && (spanB x.f3.f0 x.f3.f1 0 10000 && spanB x.f4.f0 x.f4.f1 0 10000)))
def sumLo (zs : List S92) : Nat → Int
  | 0 => 0
  | k + 1 => sumLo zs k + (rd_T92 zs (k : Int)).f2.f0
def sumHi (zs : List S92) : Nat → Int
  | 0 => 0
  | k + 1 => sumHi zs k + (rd_T92 zs (k : Int)).f2.f1
def ringsOk (zs : List S92) : Nat → Bool
  | 0 => true
  | k + 1 => ringsOk zs k && ringB (rd_T92 zs (k : Int))
theorem ringB_f2 {x : S92} (h : ringB x = true) : 0 ≤ x.f2.f0 ∧ x.f2.f0 ≤ x.f2.f1 ∧ x.f2.f1 ≤ 1000 := by
  simp only [ringB, spanB, Bool.and_eq_true, decide_eq_true_eq] at h
  omega
theorem sum_bounds (zs : List S92) : ∀ k, ringsOk zs k = true → 0 ≤ sumLo zs k ∧ sumLo zs k ≤ 1000 * k ∧ 0 ≤ sumHi zs k ∧ sumHi zs k ≤ 1000 * k
  | 0, _ => by simp [sumLo, sumHi]
  | k + 1, h => by
    simp only [ringsOk, Bool.and_eq_true] at h
    have ih := sum_bounds zs k h.1
    have hb := ringB_f2 h.2
    simp only [sumLo, sumHi]
    omega
theorem ringsOk_mono (zs : List S92) : ∀ k j, ringsOk zs k = false → k ≤ j → ringsOk zs j = false
  | k, 0, h, hj => by obtain rfl : k = 0 := by omega
                      exact h
  | k, j + 1, h, hj => by
    by_cases e : k = j + 1
    · subst e; exact h
    · simp [ringsOk, ringsOk_mono zs k j h (by omega)]
def bottleV (zs : List S92) (f1 f2 : Int) : Int := if zs.length > 24 then 3 else if zs.length = 0 then 1 else if ringsOk zs zs.length = true then (if sumLo zs zs.length ≤ 1000 ∧ sumHi zs zs.length ≥ 1000 then (if inB f1 1 1000 = true ∧ inB f2 0 1000000000000000 = true then 0 else 1) else 12) else 1
theorem blk_four' (w : World) (o1 o2 o3 o4 : Obj) : ((((w.alloc o1).alloc o2).alloc o3).alloc o4).heap[w.heap.size]? = some o1 ∧ ((((w.alloc o1).alloc o2).alloc o3).alloc o4).heap[w.heap.size + 1]? = some o2 ∧ ((((w.alloc o1).alloc o2).alloc o3).alloc o4).heap[w.heap.size + 1 + 1]? = some o3 ∧ ((((w.alloc o1).alloc o2).alloc o3).alloc o4).heap[w.heap.size + 1 + 1 + 1]? = some o4 ∧ Below w.heap.size w ((((w.alloc o1).alloc o2).alloc o3).alloc o4) ∧ ((((w.alloc o1).alloc o2).alloc o3).alloc o4).heap.size = w.heap.size + 1 + 1 + 1 + 1 :=
  ⟨blk_alloc (blk_three w o1 o2 o3).1 o4, blk_alloc (blk_three w o1 o2 o3).2.1 o4, blk_alloc (blk_three w o1 o2 o3).2.2.1 o4, by simpa using blk_new (((w.alloc o1).alloc o2).alloc o3) o4, below_alloc (blk_three w o1 o2 o3).2.2.2.1 o4, by simp⟩
def Fc : Fence := { fn := fun g => g = 120 ∨ g = 65 ∨ g = 155 ∨ g = 111 ∨ g = 187 ∨ g = 66 }
theorem putObj_heap_keep {W : World} {r k : Nat} {o x : Obj} (hne : k ≠ r) (h : W.heap[k]? = some x) : (W.putObj r o).heap[k]? = some x := (World.putObj_heap_other hne).trans h
theorem below_putObj {w W : World} {r : Nat} {o : Obj} (h : Below w.heap.size w W) (hr : w.heap.size ≤ r) (hlt : r < W.heap.size) : Below w.heap.size w (W.putObj r o) :=
  h.grown (grownBy_putObj' W r o) (by have := h.size; omega) (fun k e => by cases e; exact hr)
structure CkI (A : Option Addr) (c : Nat) (zs : List S92) (f1 f2 : Int) (w : World) (k : Nat) (W : World) : Prop where
  ok : ringsOk zs k = true
  bx : W.heap[w.heap.size]? = some (.cells #[.slice A zs.length c, .int .i64 f1, .int .i64 f2] 73 (0, 0))
  lo : W.heap[w.heap.size + 1]? = some (.cells #[.int .i64 (sumLo zs k)] 3 (0, 0))
  hi : W.heap[w.heap.size + 1 + 1]? = some (.cells #[.int .i64 (sumHi zs k)] 3 (0, 0))
  rb : W.heap[w.heap.size + 1 + 1 + 1]? = some (.cells #[.slice A zs.length c, .int .i64 f1, .int .i64 f2] 73 (0, 0))
  be : Below w.heap.size w W
theorem CkI.alloc {A : Option Addr} {c : Nat} {zs : List S92} {f1 f2 : Int} {w : World} {k : Nat} {W : World} (h : CkI A c zs f1 f2 w k W) (o : Obj) : CkI A c zs f1 f2 w k (W.alloc o) :=
  ⟨h.ok, blk_alloc h.bx o, blk_alloc h.lo o, blk_alloc h.hi o, blk_alloc h.rb o, below_alloc h.be o⟩
theorem CkI.put {A : Option Addr} {c : Nat} {zs : List S92} {f1 f2 : Int} {w : World} {k : Nat} {W : World} (h : CkI A c zs f1 f2 w k W) {r : Nat} (o : Obj) (hr : w.heap.size + 4 ≤ r) (hlt : r < W.heap.size) : CkI A c zs f1 f2 w k (W.putObj r o) :=
  ⟨h.ok, putObj_heap_keep (by omega) h.bx, putObj_heap_keep (by omega) h.lo, putObj_heap_keep (by omega) h.hi, putObj_heap_keep (by omega) h.rb, below_putObj h.be (by omega) hlt⟩
def CkP (zs : List S92) (w : World) (ch : List PanicEntry) (W : World) : Prop := ch = failC 1 ∧ ringsOk zs zs.length = false ∧ Below w.heap.size w W
theorem bottle_callsI (F : Fence) (n : Nat) (h140 : F.fn 120) (h91 : F.fn 65) (h141 : F.fn 155) (h142 : F.fn 111) (h159 : F.fn 187) (h92 : F.fn 66) (hro : F.round = none) (hfn : ∀ g, F.fn g → ∃ c, Tryz.prog.funcs[g]? = some c) (hn : 9 ≤ n) (A : Option Addr) (c : Nat) (zs : List S92) (f1 f2 : Int) (w : World) (hr : Kd.C k92 w A zs.length zs) :
    CallsIn F n Tryz.prog 120 #[.agg #[.slice A zs.length c, .int .i64 f1, .int .i64 f2]] w fun en w' => en = endF (bottleV zs f1 f2) ∧ Below w.heap.size w w' := by
  have hb0 := below_alloc (Below.refl w.heap.size w) (.cells #[.slice A zs.length c, .int .i64 f1, .int .i64 f2] 73)
  have BX := Sd.mk (blk_new w (.cells #[.slice A zs.length c, .int .i64 f1, .int .i64 f2] 73))
  have hx0 : (w.alloc (.cells #[.slice A zs.length c, .int .i64 f1, .int .i64 f2] 73)).cell? ⟨w.heap.size, 0, none⟩ = some (.slice A zs.length c) := (blk_cell BX.out 0).trans rfl
  have HB0 := Sd.mk hb0
  have HR := Sd.mk hr
  clear hr hb0
  have hn1 : 1 ≤ n := by omega
  refine callsIn_of_wp_marks Tryz.func120 rfl h140 ?_ hro
  simp only [Tryz.ntmps120, List.size_toArray, List.length_cons, List.length_nil, Nat.reduceAdd, Nat.reduceSub, Array.replicate_succ, Array.replicate_zero, List.push_toArray, List.append_toArray, List.nil_append, List.cons_append]
  by_cases h24 : zs.length > 24
  · have hd : decide ((zs.length : Int) ≤ 24) = false := decide_eq_false (by omega)
    gi_wp2_with (first | (gi_at_call 65; (with_reducible refine (demand_noI F _ h91 hro _ _).mono ?_); rintro e w' ⟨rfl, rfl⟩) | (gi_at_call 65; (with_reducible refine (demand_okI F _ h91 hro _ _).mono ?_); rintro e w' ⟨rfl, rfl⟩))
    exact ⟨by rw [bottleV, if_pos h24]; rfl, HB0.out⟩
  · by_cases h0 : zs.length = 0
    · have hd : decide ((zs.length : Int) ≤ 24) = true := decide_eq_true (by omega)
      have hd2 : decide ((zs.length : Int) > 0) = false := decide_eq_false (by omega)
      have hd3 : decide (0 < zs.length) = false := decide_eq_false (by omega)
      have HV : Sd (bottleV zs f1 f2 = 1) := ⟨by rw [bottleV, if_neg h24, if_pos h0]⟩
      clear h0
      gi_wp2_with (first | (gi_at_call 65; (with_reducible refine (demand_noI F _ h91 hro _ _).mono ?_); rintro e w' ⟨rfl, rfl⟩) | (gi_at_call 65; (with_reducible refine (demand_okI F _ h91 hro _ _).mono ?_); rintro e w' ⟨rfl, rfl⟩))
      exact ⟨by rw [HV.out]; rfl, HB0.out⟩
    · have hd : decide ((zs.length : Int) ≤ 24) = true := decide_eq_true (by omega)
      have hd2 : decide ((zs.length : Int) > 0) = true := decide_eq_true (by omega)
      have hd3 : decide (0 < zs.length) = true := decide_eq_true (by omega)
      have HV : Sd (bottleV zs f1 f2 = if ringsOk zs zs.length = true then (if sumLo zs zs.length ≤ 1000 ∧ sumHi zs zs.length ≥ 1000 then (if inB f1 1 1000 = true ∧ inB f2 0 1000000000000000 = true then 0 else 1) else 12) else 1) := ⟨by rw [bottleV, if_neg h24, if_neg h0]⟩
      have HN : Sd (zs.length ≤ 24) := ⟨by omega⟩
      clear h24 h0
      have hx1 : (w.alloc (.cells #[.slice A zs.length c, .int .i64 f1, .int .i64 f2] 73)).cell? ⟨w.heap.size, 0 + 1, none⟩ = some (.int .i64 f1) := (blk_cell BX.out 1).trans rfl
      have hx2 : (w.alloc (.cells #[.slice A zs.length c, .int .i64 f1, .int .i64 f2] 73)).cell? ⟨w.heap.size, 0 + 2, none⟩ = some (.int .i64 f2) := (blk_cell BX.out 2).trans rfl
      gi_wp2_with (first | (gi_at_call 65; (with_reducible refine (demand_noI F _ h91 hro _ _).mono ?_); rintro e w' ⟨rfl, rfl⟩) | (gi_at_call 65; (with_reducible refine (demand_okI F _ h91 hro _ _).mono ?_); rintro e w' ⟨rfl, rfl⟩) | (gi_at_call 111; (with_reducible refine (rings_callsI F _ h142 hro _ _ _ _).mono ?_); rintro e w' ⟨rfl, rfl⟩))
      clear hd hd2 hd3 hx0 hx1 hx2 BX HB0
      obtain ⟨b1, b2, b3, b4, hb, hsz⟩ := blk_four' w (.cells #[.slice A zs.length c, .int .i64 f1, .int .i64 f2] 73) (.cells #[.int .i64 0] 3) (.cells #[.int .i64 0] 3) (.cells #[.slice A zs.length c, .int .i64 f1, .int .i64 f2] 73)
      generalize (((w.alloc (.cells #[.slice A zs.length c, .int .i64 f1, .int .i64 f2] 73)).alloc (.cells #[.int .i64 0] 3)).alloc (.cells #[.int .i64 0] 3)).alloc (.cells #[.slice A zs.length c, .int .i64 f1, .int .i64 f2] 73) = W0 at b1 b2 b3 b4 hb hsz ⊢
      refine wpIn_rangeFuncP (N := zs.length) (encs := fun k => #[.int .i64 (k : Int), ringV (rd_T92 zs k)]) hro (by omega) (gf := 187) (lb := #[.pointer (some ⟨w.heap.size + 1 + 1 + 1, 0, none⟩)]) rfl h159 (enters_of Tryz.func187 (by kernel_rfl) rfl) (fun _ => rfl)
        (CkI A c zs f1 f2 w) (CkP zs w) (fun k W o h => h.alloc o) (fun k W o r hl h => h.put o (by omega) (Array.getElem?_eq_some_iff.1 hl).1) ⟨rfl, b1, b2, b3, b4, hb⟩ ?seq ?round ?fn ?done ?panic
      case seq =>
        intro l J Jp W hJa hJI hY h0
        exact rings1_in F (n - 1) h159 hro (by omega) l (w.heap.size + 1 + 1 + 1) A c _ _ zs J Jp W (hJI _ _ h0).rb hJa (fun k W' h => Kd.C_below HR.out (hJI _ _ h).be) hY h0
      case round =>
        clear b1 b2 b3 b4 hb
        intro l k W hW _ hk hI st hst
        generalize hx : rd_T92 zs (k : Int) = x
        have HI := Sd.mk hI
        have HW := Sd.mk hW
        have HK := Sd.mk hk
        have HX := Sd.mk hx
        have HS := Sd.mk hsz
        clear hI hW hk hx hsz
        unfold ringV
        simp only [List.zip_cons_cons, List.zip_nil_right, List.foldl_cons, List.foldl_nil]
        gi_wp2
        refine hst _ _ (by simp) (fun j h1 h2 => Below.heap_alloc W _ j (by have := HW.out; omega)) ?_
        clear hst
        intro o
        have hn2 : 1 ≤ n - 1 - 1 := by omega
        have CK : Sd (CkI A c zs f1 f2 w k ((W.alloc (.cells #[.int .i64 x.f0.f0, .int .i64 x.f0.f1, .int .i64 x.f1.f0, .int .i64 x.f1.f1, .int .i64 x.f2.f0, .int .i64 x.f2.f1, .int .i64 x.f3.f0, .int .i64 x.f3.f1, .int .i64 x.f4.f0, .int .i64 x.f4.f1] 92)).putObj (W0.heap.size + 1) o)) := ⟨(HI.out.alloc _).put o (by have := HS.out; omega) (by have := HW.out; simp; omega)⟩
        have RB : Sd (((W.alloc (.cells #[.int .i64 x.f0.f0, .int .i64 x.f0.f1, .int .i64 x.f1.f0, .int .i64 x.f1.f1, .int .i64 x.f2.f0, .int .i64 x.f2.f1, .int .i64 x.f3.f0, .int .i64 x.f3.f1, .int .i64 x.f4.f0, .int .i64 x.f4.f1] 92)).putObj (W0.heap.size + 1) o).heap[W.heap.size]? = some (.cells #[.int .i64 x.f0.f0, .int .i64 x.f0.f1, .int .i64 x.f1.f0, .int .i64 x.f1.f1, .int .i64 x.f2.f0, .int .i64 x.f2.f1, .int .i64 x.f3.f0, .int .i64 x.f3.f1, .int .i64 x.f4.f0, .int .i64 x.f4.f1] 92 (0, 0))) := ⟨putObj_heap_keep (by have := HW.out; omega) (blk_new _ _)⟩
        have WS : Sd (((W.alloc (.cells #[.int .i64 x.f0.f0, .int .i64 x.f0.f1, .int .i64 x.f1.f0, .int .i64 x.f1.f1, .int .i64 x.f2.f0, .int .i64 x.f2.f1, .int .i64 x.f3.f0, .int .i64 x.f3.f1, .int .i64 x.f4.f0, .int .i64 x.f4.f1] 92)).putObj (W0.heap.size + 1) o).heap.size = W.heap.size + 1) := ⟨by simp⟩
        generalize (W.alloc (.cells #[.int .i64 x.f0.f0, .int .i64 x.f0.f1, .int .i64 x.f1.f0, .int .i64 x.f1.f1, .int .i64 x.f2.f0, .int .i64 x.f2.f1, .int .i64 x.f3.f0, .int .i64 x.f3.f1, .int .i64 x.f4.f0, .int .i64 x.f4.f1] 92)).putObj (W0.heap.size + 1) o = Wb at CK RB WS ⊢
        have BW := Sd.mk (Below.refl Wb.heap.size Wb)
        have g0 : Wb.cell? ⟨W.heap.size, 0, none⟩ = some (.int .i64 x.f0.f0) := (blk_cell RB.out 0).trans rfl
        have g1 : Wb.cell? ⟨W.heap.size, 0 + 1, none⟩ = some (.int .i64 x.f0.f1) := (blk_cell RB.out 1).trans rfl
        have g2 : Wb.cell? ⟨W.heap.size, 0 + 2, none⟩ = some (.int .i64 x.f1.f0) := (blk_cell RB.out 2).trans rfl
        have g3 : Wb.cell? ⟨W.heap.size, 0 + 3, none⟩ = some (.int .i64 x.f1.f1) := (blk_cell RB.out 3).trans rfl
        have g4 : Wb.cell? ⟨W.heap.size, 0 + 4, none⟩ = some (.int .i64 x.f2.f0) := (blk_cell RB.out 4).trans rfl
        have g5 : Wb.cell? ⟨W.heap.size, 0 + 5, none⟩ = some (.int .i64 x.f2.f1) := (blk_cell RB.out 5).trans rfl
        have g6 : Wb.cell? ⟨W.heap.size, 0 + 6, none⟩ = some (.int .i64 x.f3.f0) := (blk_cell RB.out 6).trans rfl
        have g7 : Wb.cell? ⟨W.heap.size, 0 + 7, none⟩ = some (.int .i64 x.f3.f1) := (blk_cell RB.out 7).trans rfl
        have g8 : Wb.cell? ⟨W.heap.size, 0 + 8, none⟩ = some (.int .i64 x.f4.f0) := (blk_cell RB.out 8).trans rfl
        have g9 : Wb.cell? ⟨W.heap.size, 0 + 9, none⟩ = some (.int .i64 x.f4.f1) := (blk_cell RB.out 9).trans rfl
        cases s0 : spanB x.f0.f0 x.f0.f1 1 1000 with
        | false =>
          have HF : Sd (ringB x = false) := ⟨by simp only [ringB, s0, Bool.and_false, Bool.false_and, Bool.and_true, Bool.true_and]⟩
          gi_wp2_with (first | (gi_at_call 155; go_loud (refine (CallsIn.inRound l (spanI F _ h141 hro _ _ _ _ _)).mono ?_; (first | rw [s0] | rw [s1] | rw [s2] | rw [s3] | rw [s4]); rintro e wq ⟨rfl, hwq⟩; replace RB := Sd.mk (show wq.heap[W.heap.size]? = _ from by subst hwq; exact blk_alloc RB.out _); replace BW := Sd.mk (show Below Wb.heap.size Wb wq from by subst hwq; exact below_alloc BW.out _); clear hwq; have g0 : wq.cell? ⟨W.heap.size, 0, none⟩ = some (.int .i64 x.f0.f0) := (blk_cell RB.out 0).trans rfl; have g1 : wq.cell? ⟨W.heap.size, 0 + 1, none⟩ = some (.int .i64 x.f0.f1) := (blk_cell RB.out 1).trans rfl; have g2 : wq.cell? ⟨W.heap.size, 0 + 2, none⟩ = some (.int .i64 x.f1.f0) := (blk_cell RB.out 2).trans rfl; have g3 : wq.cell? ⟨W.heap.size, 0 + 3, none⟩ = some (.int .i64 x.f1.f1) := (blk_cell RB.out 3).trans rfl; have g4 : wq.cell? ⟨W.heap.size, 0 + 4, none⟩ = some (.int .i64 x.f2.f0) := (blk_cell RB.out 4).trans rfl; have g5 : wq.cell? ⟨W.heap.size, 0 + 5, none⟩ = some (.int .i64 x.f2.f1) := (blk_cell RB.out 5).trans rfl; have g6 : wq.cell? ⟨W.heap.size, 0 + 6, none⟩ = some (.int .i64 x.f3.f0) := (blk_cell RB.out 6).trans rfl; have g7 : wq.cell? ⟨W.heap.size, 0 + 7, none⟩ = some (.int .i64 x.f3.f1) := (blk_cell RB.out 7).trans rfl; have g8 : wq.cell? ⟨W.heap.size, 0 + 8, none⟩ = some (.int .i64 x.f4.f0) := (blk_cell RB.out 8).trans rfl; have g9 : wq.cell? ⟨W.heap.size, 0 + 9, none⟩ = some (.int .i64 x.f4.f1) := (blk_cell RB.out 9).trans rfl; have gl : wq.cell? ⟨w.heap.size + 1, 0, none⟩ = some (.int .i64 (sumLo zs k)) := (blk_cell (blk_below CK.out.lo BW.out) 0).trans rfl; have gl' := blk_frozen (blk_below CK.out.lo BW.out) 0; have gh : (wq.setCell ⟨w.heap.size + 1, 0, none⟩ (.int .i64 (wrap64 (sumLo zs k + x.f2.f0)))).cell? ⟨w.heap.size + 1 + 1, 0, none⟩ = some (.int .i64 (sumHi zs k)) := (blk_cell (blk_far (blk_below CK.out.hi BW.out) (p := ⟨w.heap.size + 1, 0, none⟩) (by simp) _) 0).trans rfl; have gh' : (wq.setCell ⟨w.heap.size + 1, 0, none⟩ (.int .i64 (wrap64 (sumLo zs k + x.f2.f0)))).frozen? ⟨w.heap.size + 1 + 1, 0, none⟩ = false := blk_frozen (blk_far (blk_below CK.out.hi BW.out) (p := ⟨w.heap.size + 1, 0, none⟩) (by simp) _) 0; have gr : (wq.setCell ⟨w.heap.size + 1, 0, none⟩ (.int .i64 (wrap64 (sumLo zs k + x.f2.f0)))).cell? ⟨W.heap.size, 5, none⟩ = some (.int .i64 x.f2.f1) := (blk_cell (blk_far RB.out (p := ⟨w.heap.size + 1, 0, none⟩) (by have := HW.out; have := HS.out; simp; omega) _) 5).trans rfl)) | (gi_at_call 65; (with_reducible refine (CallsIn.inRound l (demand_noI F _ h91 hro _ _)).mono ?_); rintro e w' ⟨rfl, rfl⟩) | (gi_at_call 65; (with_reducible refine (CallsIn.inRound l (demand_okI F _ h91 hro _ _)).mono ?_); rintro e w' ⟨rfl, rfl⟩))
          exact ⟨rfl, BW.out.size, fun j h1 h2 => BW.out.block j (by have := HW.out; have := WS.out; omega), rfl, ringsOk_mono zs (k + 1) _ (by simp [ringsOk, HX.out, HF.out]) HK.out, below_then CK.out.be CK.out.be.size BW.out⟩
        | true =>
          cases s1 : spanB x.f1.f0 x.f1.f1 1 5000 with
          | false =>
            have HF : Sd (ringB x = false) := ⟨by simp only [ringB, s0, s1, Bool.and_false, Bool.false_and, Bool.and_true, Bool.true_and]⟩
            gi_wp2_with (first | (gi_at_call 155; go_loud (refine (CallsIn.inRound l (spanI F _ h141 hro _ _ _ _ _)).mono ?_; (first | rw [s0] | rw [s1] | rw [s2] | rw [s3] | rw [s4]); rintro e wq ⟨rfl, hwq⟩; replace RB := Sd.mk (show wq.heap[W.heap.size]? = _ from by subst hwq; exact blk_alloc RB.out _); replace BW := Sd.mk (show Below Wb.heap.size Wb wq from by subst hwq; exact below_alloc BW.out _); clear hwq; have g0 : wq.cell? ⟨W.heap.size, 0, none⟩ = some (.int .i64 x.f0.f0) := (blk_cell RB.out 0).trans rfl; have g1 : wq.cell? ⟨W.heap.size, 0 + 1, none⟩ = some (.int .i64 x.f0.f1) := (blk_cell RB.out 1).trans rfl; have g2 : wq.cell? ⟨W.heap.size, 0 + 2, none⟩ = some (.int .i64 x.f1.f0) := (blk_cell RB.out 2).trans rfl; have g3 : wq.cell? ⟨W.heap.size, 0 + 3, none⟩ = some (.int .i64 x.f1.f1) := (blk_cell RB.out 3).trans rfl; have g4 : wq.cell? ⟨W.heap.size, 0 + 4, none⟩ = some (.int .i64 x.f2.f0) := (blk_cell RB.out 4).trans rfl; have g5 : wq.cell? ⟨W.heap.size, 0 + 5, none⟩ = some (.int .i64 x.f2.f1) := (blk_cell RB.out 5).trans rfl; have g6 : wq.cell? ⟨W.heap.size, 0 + 6, none⟩ = some (.int .i64 x.f3.f0) := (blk_cell RB.out 6).trans rfl; have g7 : wq.cell? ⟨W.heap.size, 0 + 7, none⟩ = some (.int .i64 x.f3.f1) := (blk_cell RB.out 7).trans rfl; have g8 : wq.cell? ⟨W.heap.size, 0 + 8, none⟩ = some (.int .i64 x.f4.f0) := (blk_cell RB.out 8).trans rfl; have g9 : wq.cell? ⟨W.heap.size, 0 + 9, none⟩ = some (.int .i64 x.f4.f1) := (blk_cell RB.out 9).trans rfl; have gl : wq.cell? ⟨w.heap.size + 1, 0, none⟩ = some (.int .i64 (sumLo zs k)) := (blk_cell (blk_below CK.out.lo BW.out) 0).trans rfl; have gl' := blk_frozen (blk_below CK.out.lo BW.out) 0; have gh : (wq.setCell ⟨w.heap.size + 1, 0, none⟩ (.int .i64 (wrap64 (sumLo zs k + x.f2.f0)))).cell? ⟨w.heap.size + 1 + 1, 0, none⟩ = some (.int .i64 (sumHi zs k)) := (blk_cell (blk_far (blk_below CK.out.hi BW.out) (p := ⟨w.heap.size + 1, 0, none⟩) (by simp) _) 0).trans rfl; have gh' : (wq.setCell ⟨w.heap.size + 1, 0, none⟩ (.int .i64 (wrap64 (sumLo zs k + x.f2.f0)))).frozen? ⟨w.heap.size + 1 + 1, 0, none⟩ = false := blk_frozen (blk_far (blk_below CK.out.hi BW.out) (p := ⟨w.heap.size + 1, 0, none⟩) (by simp) _) 0; have gr : (wq.setCell ⟨w.heap.size + 1, 0, none⟩ (.int .i64 (wrap64 (sumLo zs k + x.f2.f0)))).cell? ⟨W.heap.size, 5, none⟩ = some (.int .i64 x.f2.f1) := (blk_cell (blk_far RB.out (p := ⟨w.heap.size + 1, 0, none⟩) (by have := HW.out; have := HS.out; simp; omega) _) 5).trans rfl)) | (gi_at_call 65; (with_reducible refine (CallsIn.inRound l (demand_noI F _ h91 hro _ _)).mono ?_); rintro e w' ⟨rfl, rfl⟩) | (gi_at_call 65; (with_reducible refine (CallsIn.inRound l (demand_okI F _ h91 hro _ _)).mono ?_); rintro e w' ⟨rfl, rfl⟩))
            exact ⟨rfl, BW.out.size, fun j h1 h2 => BW.out.block j (by have := HW.out; have := WS.out; omega), rfl, ringsOk_mono zs (k + 1) _ (by simp [ringsOk, HX.out, HF.out]) HK.out, below_then CK.out.be CK.out.be.size BW.out⟩
          | true =>
            cases s2 : spanB x.f2.f0 x.f2.f1 0 1000 with
            | false =>
              have HF : Sd (ringB x = false) := ⟨by simp only [ringB, s0, s1, s2, Bool.and_false, Bool.false_and, Bool.and_true, Bool.true_and]⟩
              gi_wp2_with (first | (gi_at_call 155; go_loud (refine (CallsIn.inRound l (spanI F _ h141 hro _ _ _ _ _)).mono ?_; (first | rw [s0] | rw [s1] | rw [s2] | rw [s3] | rw [s4]); rintro e wq ⟨rfl, hwq⟩; replace RB := Sd.mk (show wq.heap[W.heap.size]? = _ from by subst hwq; exact blk_alloc RB.out _); replace BW := Sd.mk (show Below Wb.heap.size Wb wq from by subst hwq; exact below_alloc BW.out _); clear hwq; have g0 : wq.cell? ⟨W.heap.size, 0, none⟩ = some (.int .i64 x.f0.f0) := (blk_cell RB.out 0).trans rfl; have g1 : wq.cell? ⟨W.heap.size, 0 + 1, none⟩ = some (.int .i64 x.f0.f1) := (blk_cell RB.out 1).trans rfl; have g2 : wq.cell? ⟨W.heap.size, 0 + 2, none⟩ = some (.int .i64 x.f1.f0) := (blk_cell RB.out 2).trans rfl; have g3 : wq.cell? ⟨W.heap.size, 0 + 3, none⟩ = some (.int .i64 x.f1.f1) := (blk_cell RB.out 3).trans rfl; have g4 : wq.cell? ⟨W.heap.size, 0 + 4, none⟩ = some (.int .i64 x.f2.f0) := (blk_cell RB.out 4).trans rfl; have g5 : wq.cell? ⟨W.heap.size, 0 + 5, none⟩ = some (.int .i64 x.f2.f1) := (blk_cell RB.out 5).trans rfl; have g6 : wq.cell? ⟨W.heap.size, 0 + 6, none⟩ = some (.int .i64 x.f3.f0) := (blk_cell RB.out 6).trans rfl; have g7 : wq.cell? ⟨W.heap.size, 0 + 7, none⟩ = some (.int .i64 x.f3.f1) := (blk_cell RB.out 7).trans rfl; have g8 : wq.cell? ⟨W.heap.size, 0 + 8, none⟩ = some (.int .i64 x.f4.f0) := (blk_cell RB.out 8).trans rfl; have g9 : wq.cell? ⟨W.heap.size, 0 + 9, none⟩ = some (.int .i64 x.f4.f1) := (blk_cell RB.out 9).trans rfl; have gl : wq.cell? ⟨w.heap.size + 1, 0, none⟩ = some (.int .i64 (sumLo zs k)) := (blk_cell (blk_below CK.out.lo BW.out) 0).trans rfl; have gl' := blk_frozen (blk_below CK.out.lo BW.out) 0; have gh : (wq.setCell ⟨w.heap.size + 1, 0, none⟩ (.int .i64 (wrap64 (sumLo zs k + x.f2.f0)))).cell? ⟨w.heap.size + 1 + 1, 0, none⟩ = some (.int .i64 (sumHi zs k)) := (blk_cell (blk_far (blk_below CK.out.hi BW.out) (p := ⟨w.heap.size + 1, 0, none⟩) (by simp) _) 0).trans rfl; have gh' : (wq.setCell ⟨w.heap.size + 1, 0, none⟩ (.int .i64 (wrap64 (sumLo zs k + x.f2.f0)))).frozen? ⟨w.heap.size + 1 + 1, 0, none⟩ = false := blk_frozen (blk_far (blk_below CK.out.hi BW.out) (p := ⟨w.heap.size + 1, 0, none⟩) (by simp) _) 0; have gr : (wq.setCell ⟨w.heap.size + 1, 0, none⟩ (.int .i64 (wrap64 (sumLo zs k + x.f2.f0)))).cell? ⟨W.heap.size, 5, none⟩ = some (.int .i64 x.f2.f1) := (blk_cell (blk_far RB.out (p := ⟨w.heap.size + 1, 0, none⟩) (by have := HW.out; have := HS.out; simp; omega) _) 5).trans rfl)) | (gi_at_call 65; (with_reducible refine (CallsIn.inRound l (demand_noI F _ h91 hro _ _)).mono ?_); rintro e w' ⟨rfl, rfl⟩) | (gi_at_call 65; (with_reducible refine (CallsIn.inRound l (demand_okI F _ h91 hro _ _)).mono ?_); rintro e w' ⟨rfl, rfl⟩))
              exact ⟨rfl, BW.out.size, fun j h1 h2 => BW.out.block j (by have := HW.out; have := WS.out; omega), rfl, ringsOk_mono zs (k + 1) _ (by simp [ringsOk, HX.out, HF.out]) HK.out, below_then CK.out.be CK.out.be.size BW.out⟩
            | true =>
              cases s3 : spanB x.f3.f0 x.f3.f1 0 10000 with
              | false =>
                have HF : Sd (ringB x = false) := ⟨by simp only [ringB, s0, s1, s2, s3, Bool.and_false, Bool.false_and, Bool.and_true, Bool.true_and]⟩
                gi_wp2_with (first | (gi_at_call 155; go_loud (refine (CallsIn.inRound l (spanI F _ h141 hro _ _ _ _ _)).mono ?_; (first | rw [s0] | rw [s1] | rw [s2] | rw [s3] | rw [s4]); rintro e wq ⟨rfl, hwq⟩; replace RB := Sd.mk (show wq.heap[W.heap.size]? = _ from by subst hwq; exact blk_alloc RB.out _); replace BW := Sd.mk (show Below Wb.heap.size Wb wq from by subst hwq; exact below_alloc BW.out _); clear hwq; have g0 : wq.cell? ⟨W.heap.size, 0, none⟩ = some (.int .i64 x.f0.f0) := (blk_cell RB.out 0).trans rfl; have g1 : wq.cell? ⟨W.heap.size, 0 + 1, none⟩ = some (.int .i64 x.f0.f1) := (blk_cell RB.out 1).trans rfl; have g2 : wq.cell? ⟨W.heap.size, 0 + 2, none⟩ = some (.int .i64 x.f1.f0) := (blk_cell RB.out 2).trans rfl; have g3 : wq.cell? ⟨W.heap.size, 0 + 3, none⟩ = some (.int .i64 x.f1.f1) := (blk_cell RB.out 3).trans rfl; have g4 : wq.cell? ⟨W.heap.size, 0 + 4, none⟩ = some (.int .i64 x.f2.f0) := (blk_cell RB.out 4).trans rfl; have g5 : wq.cell? ⟨W.heap.size, 0 + 5, none⟩ = some (.int .i64 x.f2.f1) := (blk_cell RB.out 5).trans rfl; have g6 : wq.cell? ⟨W.heap.size, 0 + 6, none⟩ = some (.int .i64 x.f3.f0) := (blk_cell RB.out 6).trans rfl; have g7 : wq.cell? ⟨W.heap.size, 0 + 7, none⟩ = some (.int .i64 x.f3.f1) := (blk_cell RB.out 7).trans rfl; have g8 : wq.cell? ⟨W.heap.size, 0 + 8, none⟩ = some (.int .i64 x.f4.f0) := (blk_cell RB.out 8).trans rfl; have g9 : wq.cell? ⟨W.heap.size, 0 + 9, none⟩ = some (.int .i64 x.f4.f1) := (blk_cell RB.out 9).trans rfl; have gl : wq.cell? ⟨w.heap.size + 1, 0, none⟩ = some (.int .i64 (sumLo zs k)) := (blk_cell (blk_below CK.out.lo BW.out) 0).trans rfl; have gl' := blk_frozen (blk_below CK.out.lo BW.out) 0; have gh : (wq.setCell ⟨w.heap.size + 1, 0, none⟩ (.int .i64 (wrap64 (sumLo zs k + x.f2.f0)))).cell? ⟨w.heap.size + 1 + 1, 0, none⟩ = some (.int .i64 (sumHi zs k)) := (blk_cell (blk_far (blk_below CK.out.hi BW.out) (p := ⟨w.heap.size + 1, 0, none⟩) (by simp) _) 0).trans rfl; have gh' : (wq.setCell ⟨w.heap.size + 1, 0, none⟩ (.int .i64 (wrap64 (sumLo zs k + x.f2.f0)))).frozen? ⟨w.heap.size + 1 + 1, 0, none⟩ = false := blk_frozen (blk_far (blk_below CK.out.hi BW.out) (p := ⟨w.heap.size + 1, 0, none⟩) (by simp) _) 0; have gr : (wq.setCell ⟨w.heap.size + 1, 0, none⟩ (.int .i64 (wrap64 (sumLo zs k + x.f2.f0)))).cell? ⟨W.heap.size, 5, none⟩ = some (.int .i64 x.f2.f1) := (blk_cell (blk_far RB.out (p := ⟨w.heap.size + 1, 0, none⟩) (by have := HW.out; have := HS.out; simp; omega) _) 5).trans rfl)) | (gi_at_call 65; (with_reducible refine (CallsIn.inRound l (demand_noI F _ h91 hro _ _)).mono ?_); rintro e w' ⟨rfl, rfl⟩) | (gi_at_call 65; (with_reducible refine (CallsIn.inRound l (demand_okI F _ h91 hro _ _)).mono ?_); rintro e w' ⟨rfl, rfl⟩))
                exact ⟨rfl, BW.out.size, fun j h1 h2 => BW.out.block j (by have := HW.out; have := WS.out; omega), rfl, ringsOk_mono zs (k + 1) _ (by simp [ringsOk, HX.out, HF.out]) HK.out, below_then CK.out.be CK.out.be.size BW.out⟩
              | true =>
                cases s4 : spanB x.f4.f0 x.f4.f1 0 10000 with
                | false =>
                  have HF : Sd (ringB x = false) := ⟨by simp only [ringB, s0, s1, s2, s3, s4, Bool.and_false, Bool.false_and, Bool.and_true, Bool.true_and]⟩
                  gi_wp2_with (first | (gi_at_call 155; go_loud (refine (CallsIn.inRound l (spanI F _ h141 hro _ _ _ _ _)).mono ?_; (first | rw [s0] | rw [s1] | rw [s2] | rw [s3] | rw [s4]); rintro e wq ⟨rfl, hwq⟩; replace RB := Sd.mk (show wq.heap[W.heap.size]? = _ from by subst hwq; exact blk_alloc RB.out _); replace BW := Sd.mk (show Below Wb.heap.size Wb wq from by subst hwq; exact below_alloc BW.out _); clear hwq; have g0 : wq.cell? ⟨W.heap.size, 0, none⟩ = some (.int .i64 x.f0.f0) := (blk_cell RB.out 0).trans rfl; have g1 : wq.cell? ⟨W.heap.size, 0 + 1, none⟩ = some (.int .i64 x.f0.f1) := (blk_cell RB.out 1).trans rfl; have g2 : wq.cell? ⟨W.heap.size, 0 + 2, none⟩ = some (.int .i64 x.f1.f0) := (blk_cell RB.out 2).trans rfl; have g3 : wq.cell? ⟨W.heap.size, 0 + 3, none⟩ = some (.int .i64 x.f1.f1) := (blk_cell RB.out 3).trans rfl; have g4 : wq.cell? ⟨W.heap.size, 0 + 4, none⟩ = some (.int .i64 x.f2.f0) := (blk_cell RB.out 4).trans rfl; have g5 : wq.cell? ⟨W.heap.size, 0 + 5, none⟩ = some (.int .i64 x.f2.f1) := (blk_cell RB.out 5).trans rfl; have g6 : wq.cell? ⟨W.heap.size, 0 + 6, none⟩ = some (.int .i64 x.f3.f0) := (blk_cell RB.out 6).trans rfl; have g7 : wq.cell? ⟨W.heap.size, 0 + 7, none⟩ = some (.int .i64 x.f3.f1) := (blk_cell RB.out 7).trans rfl; have g8 : wq.cell? ⟨W.heap.size, 0 + 8, none⟩ = some (.int .i64 x.f4.f0) := (blk_cell RB.out 8).trans rfl; have g9 : wq.cell? ⟨W.heap.size, 0 + 9, none⟩ = some (.int .i64 x.f4.f1) := (blk_cell RB.out 9).trans rfl; have gl : wq.cell? ⟨w.heap.size + 1, 0, none⟩ = some (.int .i64 (sumLo zs k)) := (blk_cell (blk_below CK.out.lo BW.out) 0).trans rfl; have gl' := blk_frozen (blk_below CK.out.lo BW.out) 0; have gh : (wq.setCell ⟨w.heap.size + 1, 0, none⟩ (.int .i64 (wrap64 (sumLo zs k + x.f2.f0)))).cell? ⟨w.heap.size + 1 + 1, 0, none⟩ = some (.int .i64 (sumHi zs k)) := (blk_cell (blk_far (blk_below CK.out.hi BW.out) (p := ⟨w.heap.size + 1, 0, none⟩) (by simp) _) 0).trans rfl; have gh' : (wq.setCell ⟨w.heap.size + 1, 0, none⟩ (.int .i64 (wrap64 (sumLo zs k + x.f2.f0)))).frozen? ⟨w.heap.size + 1 + 1, 0, none⟩ = false := blk_frozen (blk_far (blk_below CK.out.hi BW.out) (p := ⟨w.heap.size + 1, 0, none⟩) (by simp) _) 0; have gr : (wq.setCell ⟨w.heap.size + 1, 0, none⟩ (.int .i64 (wrap64 (sumLo zs k + x.f2.f0)))).cell? ⟨W.heap.size, 5, none⟩ = some (.int .i64 x.f2.f1) := (blk_cell (blk_far RB.out (p := ⟨w.heap.size + 1, 0, none⟩) (by have := HW.out; have := HS.out; simp; omega) _) 5).trans rfl)) | (gi_at_call 65; (with_reducible refine (CallsIn.inRound l (demand_noI F _ h91 hro _ _)).mono ?_); rintro e w' ⟨rfl, rfl⟩) | (gi_at_call 65; (with_reducible refine (CallsIn.inRound l (demand_okI F _ h91 hro _ _)).mono ?_); rintro e w' ⟨rfl, rfl⟩))
                  exact ⟨rfl, BW.out.size, fun j h1 h2 => BW.out.block j (by have := HW.out; have := WS.out; omega), rfl, ringsOk_mono zs (k + 1) _ (by simp [ringsOk, HX.out, HF.out]) HK.out, below_then CK.out.be CK.out.be.size BW.out⟩
                | true =>
                  have HT : Sd (ringB x = true) := ⟨by simp only [ringB, s0, s1, s2, s3, s4, Bool.and_true]⟩
                  gi_wp2_with (first | (gi_at_call 155; go_loud (refine (CallsIn.inRound l (spanI F _ h141 hro _ _ _ _ _)).mono ?_; (first | rw [s0] | rw [s1] | rw [s2] | rw [s3] | rw [s4]); rintro e wq ⟨rfl, hwq⟩; replace RB := Sd.mk (show wq.heap[W.heap.size]? = _ from by subst hwq; exact blk_alloc RB.out _); replace BW := Sd.mk (show Below Wb.heap.size Wb wq from by subst hwq; exact below_alloc BW.out _); clear hwq; have g0 : wq.cell? ⟨W.heap.size, 0, none⟩ = some (.int .i64 x.f0.f0) := (blk_cell RB.out 0).trans rfl; have g1 : wq.cell? ⟨W.heap.size, 0 + 1, none⟩ = some (.int .i64 x.f0.f1) := (blk_cell RB.out 1).trans rfl; have g2 : wq.cell? ⟨W.heap.size, 0 + 2, none⟩ = some (.int .i64 x.f1.f0) := (blk_cell RB.out 2).trans rfl; have g3 : wq.cell? ⟨W.heap.size, 0 + 3, none⟩ = some (.int .i64 x.f1.f1) := (blk_cell RB.out 3).trans rfl; have g4 : wq.cell? ⟨W.heap.size, 0 + 4, none⟩ = some (.int .i64 x.f2.f0) := (blk_cell RB.out 4).trans rfl; have g5 : wq.cell? ⟨W.heap.size, 0 + 5, none⟩ = some (.int .i64 x.f2.f1) := (blk_cell RB.out 5).trans rfl; have g6 : wq.cell? ⟨W.heap.size, 0 + 6, none⟩ = some (.int .i64 x.f3.f0) := (blk_cell RB.out 6).trans rfl; have g7 : wq.cell? ⟨W.heap.size, 0 + 7, none⟩ = some (.int .i64 x.f3.f1) := (blk_cell RB.out 7).trans rfl; have g8 : wq.cell? ⟨W.heap.size, 0 + 8, none⟩ = some (.int .i64 x.f4.f0) := (blk_cell RB.out 8).trans rfl; have g9 : wq.cell? ⟨W.heap.size, 0 + 9, none⟩ = some (.int .i64 x.f4.f1) := (blk_cell RB.out 9).trans rfl; have gl : wq.cell? ⟨w.heap.size + 1, 0, none⟩ = some (.int .i64 (sumLo zs k)) := (blk_cell (blk_below CK.out.lo BW.out) 0).trans rfl; have gl' := blk_frozen (blk_below CK.out.lo BW.out) 0; have gh : (wq.setCell ⟨w.heap.size + 1, 0, none⟩ (.int .i64 (wrap64 (sumLo zs k + x.f2.f0)))).cell? ⟨w.heap.size + 1 + 1, 0, none⟩ = some (.int .i64 (sumHi zs k)) := (blk_cell (blk_far (blk_below CK.out.hi BW.out) (p := ⟨w.heap.size + 1, 0, none⟩) (by simp) _) 0).trans rfl; have gh' : (wq.setCell ⟨w.heap.size + 1, 0, none⟩ (.int .i64 (wrap64 (sumLo zs k + x.f2.f0)))).frozen? ⟨w.heap.size + 1 + 1, 0, none⟩ = false := blk_frozen (blk_far (blk_below CK.out.hi BW.out) (p := ⟨w.heap.size + 1, 0, none⟩) (by simp) _) 0; have gr : (wq.setCell ⟨w.heap.size + 1, 0, none⟩ (.int .i64 (wrap64 (sumLo zs k + x.f2.f0)))).cell? ⟨W.heap.size, 5, none⟩ = some (.int .i64 x.f2.f1) := (blk_cell (blk_far RB.out (p := ⟨w.heap.size + 1, 0, none⟩) (by have := HW.out; have := HS.out; simp; omega) _) 5).trans rfl)) | (gi_at_call 65; (with_reducible refine (CallsIn.inRound l (demand_noI F _ h91 hro _ _)).mono ?_); rintro e w' ⟨rfl, rfl⟩) | (gi_at_call 65; (with_reducible refine (CallsIn.inRound l (demand_okI F _ h91 hro _ _)).mono ?_); rintro e w' ⟨rfl, rfl⟩))
                  have hk := HK.out
                  have hn24 := HN.out
                  have hsb := sum_bounds zs (k + 1) (by simp only [ringsOk, CK.out.ok, HX.out, HT.out, Bool.and_true])
                  have hlo : wrap64 (sumLo zs k + x.f2.f0) = sumLo zs (k + 1) := by simp only [sumLo, sumHi, HX.out] at hsb ⊢; unfold wrap64; omega
                  have hhi : wrap64 (sumHi zs k + x.f2.f1) = sumHi zs (k + 1) := by simp only [sumLo, sumHi, HX.out] at hsb ⊢; unfold wrap64; omega
                  rw [hlo, hhi]
                  refine ⟨by simpa using BW.out.size, fun j h1 h2 => ?_, ?_⟩
                  · refine ((grownBy_setCell' _ (w.heap.size + 1 + 1) _).block j (by simp; have := BW.out.size; have := HW.out; have := WS.out; omega) (by have := HS.out; simp; omega)).trans (((grownBy_setCell' _ (w.heap.size + 1) _).block j (by have := BW.out.size; have := HW.out; have := WS.out; omega) (by have := HS.out; simp; omega)).trans (BW.out.block j (by have := HW.out; have := WS.out; omega)))
                  · exact ⟨by simp only [ringsOk, CK.out.ok, HX.out, HT.out, Bool.and_true], blk_far (blk_far (blk_below CK.out.bx BW.out) (p := ⟨w.heap.size + 1, 0, none⟩) (by simp) _) (p := ⟨w.heap.size + 1 + 1, 0, none⟩) (by simp; omega) _, blk_far (blk_put (blk_below CK.out.lo BW.out) 0 _ rfl) (p := ⟨w.heap.size + 1 + 1, 0, none⟩) (by simp) _, blk_put (blk_far (blk_below CK.out.hi BW.out) (p := ⟨w.heap.size + 1, 0, none⟩) (by simp) _) 0 _ rfl, blk_far (blk_far (blk_below CK.out.rb BW.out) (p := ⟨w.heap.size + 1, 0, none⟩) (by simp; omega) _) (p := ⟨w.heap.size + 1 + 1, 0, none⟩) (by simp) _, below_set (below_set (below_then CK.out.be CK.out.be.size BW.out) (by omega)) (by omega)⟩
      case fn => exact fun _ => hfn
      case done =>
        clear b1 b2 b3 b4 hb
        intro W hI hD
        have HI := Sd.mk hI
        have HD := Sd.mk hD
        have HS := Sd.mk hsz
        clear hI hD hsz
        have g0 : W.cell? ⟨w.heap.size + 1, 0, none⟩ = some (.int .i64 (sumLo zs zs.length)) := (blk_cell HI.out.lo 0).trans rfl
        have g1 : W.cell? ⟨w.heap.size + 1 + 1, 0, none⟩ = some (.int .i64 (sumHi zs zs.length)) := (blk_cell HI.out.hi 0).trans rfl
        have g2 : W.cell? ⟨w.heap.size, 0 + 1, none⟩ = some (.int .i64 f1) := (blk_cell HI.out.bx 1).trans rfl
        have g3 : W.cell? ⟨w.heap.size, 0 + 2, none⟩ = some (.int .i64 f2) := (blk_cell HI.out.bx 2).trans rfl
        have HV1 : Sd (bottleV zs f1 f2 = if sumLo zs zs.length ≤ 1000 ∧ sumHi zs zs.length ≥ 1000 then (if inB f1 1 1000 = true ∧ inB f2 0 1000000000000000 = true then 0 else 1) else 12) := ⟨by rw [HV.out, if_pos HI.out.ok]⟩
        clear HV
        cases s1 : decide (sumLo zs zs.length ≤ 1000) with
        | false =>
          have HE : Sd (bottleV zs f1 f2 = 12) := ⟨by rw [HV1.out, if_neg (fun h => by have h1 := h.1; simp at s1; omega)]⟩
          clear HV1
          gi_wp2_with (first | (gi_at_call 65; (with_reducible refine (demand_noI F _ h91 hro _ _).mono ?_); rintro e w' ⟨rfl, rfl⟩) | (gi_at_call 65; (with_reducible refine (demand_okI F _ h91 hro _ _).mono ?_); rintro e w' ⟨rfl, rfl⟩) | (gi_at_call 66; (with_reducible refine (withinI F _ h92 hro _ _ _ _).mono ?_); (first | rw [s3] | rw [s4]); rintro e w' ⟨rfl, rfl⟩))
          refine ⟨by simp, .inl ⟨_, _, rfl, run_takeDeferred HD.out, ?_⟩⟩
          exact ⟨by rw [HE.out]; rfl, below_putObj HI.out.be (by have := HS.out; omega) (Array.getElem?_eq_some_iff.1 HD.out).1⟩
        | true =>
          cases s2 : decide (sumHi zs zs.length ≥ 1000) with
          | false =>
            have s2' : decide (1000 ≤ sumHi zs zs.length) = false := s2
            have HE : Sd (bottleV zs f1 f2 = 12) := ⟨by rw [HV1.out, if_neg (fun h => by have h1 := h.2; simp at s2; omega)]⟩
            clear HV1
            gi_wp2_with (first | (gi_at_call 65; (with_reducible refine (demand_noI F _ h91 hro _ _).mono ?_); rintro e w' ⟨rfl, rfl⟩) | (gi_at_call 65; (with_reducible refine (demand_okI F _ h91 hro _ _).mono ?_); rintro e w' ⟨rfl, rfl⟩) | (gi_at_call 66; (with_reducible refine (withinI F _ h92 hro _ _ _ _).mono ?_); (first | rw [s3] | rw [s4]); rintro e w' ⟨rfl, rfl⟩))
            refine ⟨by simp, .inl ⟨_, _, rfl, run_takeDeferred HD.out, ?_⟩⟩
            exact ⟨by rw [HE.out]; rfl, below_putObj HI.out.be (by have := HS.out; omega) (Array.getElem?_eq_some_iff.1 HD.out).1⟩
          | true =>
            have s2' : decide (1000 ≤ sumHi zs zs.length) = true := s2
            have HC : Sd (sumLo zs zs.length ≤ 1000 ∧ sumHi zs zs.length ≥ 1000) := ⟨⟨of_decide_eq_true s1, of_decide_eq_true s2⟩⟩
            cases s3 : inB f1 1 1000 with
            | false =>
              have HE : Sd (bottleV zs f1 f2 = 1) := ⟨by rw [HV1.out, if_pos HC.out, if_neg (fun h => by simp [s3] at h)]⟩
              clear HV1
              gi_wp2_with (first | (gi_at_call 65; (with_reducible refine (demand_noI F _ h91 hro _ _).mono ?_); rintro e w' ⟨rfl, rfl⟩) | (gi_at_call 65; (with_reducible refine (demand_okI F _ h91 hro _ _).mono ?_); rintro e w' ⟨rfl, rfl⟩) | (gi_at_call 66; (with_reducible refine (withinI F _ h92 hro _ _ _ _).mono ?_); (first | rw [s3] | rw [s4]); rintro e w' ⟨rfl, rfl⟩))
              refine ⟨by simp, .inl ⟨_, _, rfl, run_takeDeferred HD.out, ?_⟩⟩
              exact ⟨by rw [HE.out]; rfl, below_putObj HI.out.be (by have := HS.out; omega) (Array.getElem?_eq_some_iff.1 HD.out).1⟩
            | true =>
              cases s4 : inB f2 0 1000000000000000 with
              | false =>
                have HE : Sd (bottleV zs f1 f2 = 1) := ⟨by rw [HV1.out, if_pos HC.out, if_neg (fun h => by simp [s4] at h)]⟩
                clear HV1
                gi_wp2_with (first | (gi_at_call 65; (with_reducible refine (demand_noI F _ h91 hro _ _).mono ?_); rintro e w' ⟨rfl, rfl⟩) | (gi_at_call 65; (with_reducible refine (demand_okI F _ h91 hro _ _).mono ?_); rintro e w' ⟨rfl, rfl⟩) | (gi_at_call 66; (with_reducible refine (withinI F _ h92 hro _ _ _ _).mono ?_); (first | rw [s3] | rw [s4]); rintro e w' ⟨rfl, rfl⟩))
                refine ⟨by simp, .inl ⟨_, _, rfl, run_takeDeferred HD.out, ?_⟩⟩
                exact ⟨by rw [HE.out]; rfl, below_putObj HI.out.be (by have := HS.out; omega) (Array.getElem?_eq_some_iff.1 HD.out).1⟩
              | true =>
                have HE : Sd (bottleV zs f1 f2 = 0) := ⟨by rw [HV1.out, if_pos HC.out, if_pos ⟨s3, s4⟩]⟩
                clear HV1
                gi_wp2_with (first | (gi_at_call 65; (with_reducible refine (demand_noI F _ h91 hro _ _).mono ?_); rintro e w' ⟨rfl, rfl⟩) | (gi_at_call 65; (with_reducible refine (demand_okI F _ h91 hro _ _).mono ?_); rintro e w' ⟨rfl, rfl⟩) | (gi_at_call 66; (with_reducible refine (withinI F _ h92 hro _ _ _ _).mono ?_); (first | rw [s3] | rw [s4]); rintro e w' ⟨rfl, rfl⟩))
                refine ⟨by simp, .inl ⟨_, _, rfl, run_takeDeferred HD.out, ?_⟩⟩
                exact ⟨_, results_none rfl _ _ _, by rw [HE.out]; rfl, below_putObj HI.out.be (by have := HS.out; omega) (Array.getElem?_eq_some_iff.1 HD.out).1⟩
      case panic =>
        intro ch W hI hD
        obtain ⟨rfl, h2, h3⟩ := hI
        refine ⟨by simp, .inl ⟨_, _, rfl, run_takeDeferred hD, ?_⟩⟩
        exact ⟨by rw [HV.out, if_neg (by simp [h2])]; rfl, below_putObj h3 (by omega) (Array.getElem?_eq_some_iff.1 hD).1⟩
theorem bottle_calls (A : Option Addr) (c : Nat) (zs : List S92) (f1 f2 : Int) (w : World) (hr : Kd.C k92 w A zs.length zs) :
    Calls Tryz.prog 120 #[.agg #[.slice A zs.length c, .int .i64 f1, .int .i64 f2]] w fun en w' => en = endF (bottleV zs f1 f2) ∧ Below w.heap.size w w' :=
  (bottle_callsI Fc 9 (by simp [Fc]) (by simp [Fc]) (by simp [Fc]) (by simp [Fc]) (by simp [Fc]) (by simp [Fc]) rfl (fun g hg => by
    rcases hg with rfl | rfl | rfl | rfl | rfl | rfl
    · exact ⟨_, Tryz.func120⟩
    · exact ⟨_, Tryz.func65⟩
    · exact ⟨_, Tryz.func155⟩
    · exact ⟨_, Tryz.func111⟩
    · exact ⟨_, Tryz.func187⟩
    · exact ⟨_, Tryz.func66⟩) (by omega) A c zs f1 f2 w hr).calls (fun k d hd => by cases hd)
end
section
open Go.RowKit Go.Proofs.YtljfljekcpdpiaaGreatW.PrintWords Go.Proofs.YtljfljekcpdpiaaGreatW.PrintLast Go.Proofs.YtljfljekcpdpiaaGreatW.PrintMore
def st_down.f (a0 : Int) (a1 : Int) : Option (Int) := if a1 = 0 then (none) else (some (wrap64 (Int.tdiv a0 a1)))
theorem st_down.calls (a0 : Int) (a1 : Int) (r : Int) (w : World) (h : st_down.f a0 a1 = some r) :
  Calls Tryz.prog 198 #[.int .i64 a0, .int .i64 a1] w fun e w' => e = .returned (.int .i64 r) ∧ Drawn0 w w' := by
 have H : (if a1 = 0 then (none) else (some (wrap64 (Int.tdiv a0 a1)))) = some r := h
 clear h
 by_cases c3 : a1 = 0
 ·rw [if_pos c3] at H
  exact absurd H (by simp)
 ·rw [if_neg c3] at H
  have c3b0 : (a1 == 0) = false := beq_eq_false_iff_ne.mpr c3
  have c3b1 : (a1 != 0) = true := bne_iff_ne.mpr c3
  obtain rfl := Option.some.inj H
  go_enter Tryz.func198, Tryz.ntmps198
  go_wp2
  go_ret
  exact ⟨by first | rfl | (simp; done) | (simp [*]; done), by repeat (first | exact Drawn0.refl _ | apply Drawn0.step)⟩
end
section
open Go.RowKit Go.Proofs.YtljfljekcpdpiaaGreatW.PrintWords Go.Proofs.YtljfljekcpdpiaaGreatW.PrintLast Go.Proofs.YtljfljekcpdpiaaGreatW.PrintMore
def st_thickness.f (a0_0 : Int) (a0_1 : Int) (a0_2 : Int) (a0_3 : Int) (a0_4 : Int) (a0_5 : Int) (a0_6 : Int) (a0_7 : Int) (a0_8 : Int) (a0_9 : Int) (a1_0 : Int) (a1_1 : Int) : Option (Int × Int) := (st_down.f (wrap64 ((wrap64 ((wrap64 (200 * a1_0)) * a0_4)) * 113)) (wrap64 ((wrap64 (355 * a0_1)) * a0_3))).bind fun t363 => ((st_up.f (wrap64 ((wrap64 ((wrap64 (200 * a1_1)) * a0_5)) * 106)) (wrap64 ((wrap64 (333 * a0_0)) * a0_2))).bind fun t364 => (some (t363, t364)))
def st_thickness.T1 : Bool × List (List Nat × List Nat) := (true, [([], []), ([0], [0]), ([1], [1]), ([], []), ([3], [3]), ([4], [4]), ([2, 5], [2, 5]), ([6], [6]), ([], []), ([8], [8]), ([9], [9]), ([10], [10]), ([], []), ([12], [12]), ([13], [13]), ([11, 14], [11, 14]), ([7, 15], [7, 15]), ([], []), ([17], [17]), ([18], [18]), ([], []), ([20], [20]), ([21], [21]), ([19, 22], [19, 22]), ([23], [23]), ([], []), ([25], [25]), ([26], [26]), ([27], [27]), ([], []), ([29], [29]), ([30], [30]), ([28, 31], [28, 31]), ([24, 32, 16], [24, 32]), ([16, 33], [16, 33]), ([34, 33, 0, 1, 2, 3, 4, 5, 6, 7, 8, 9, 10, 11, 12, 13, 14, 15, 16, 17, 18, 19, 20, 21, 22, 23, 24, 25, 26, 27, 28, 29, 30, 31, 32, 33, 34], [34])])
def st_thickness.B1 : List Nat := [0, 1, 3, 0, 8, 24, 63, 127, 0, 256, 768, 1792, 0, 4096, 12288, 32512, 65535, 0, 131072, 393216, 0, 1048576, 3145728, 8257536, 16646144, 0, 33554432, 100663296, 234881024, 0, 536870912, 1610612736, 4261412864, 8589934591, 17179869183, 34359738367]
theorem st_thickness.tab1 : rtab .any (opsOf Tryz.f156 1) = st_thickness.T1 := by kernel_rfl
theorem st_thickness.bits1 : waitsOk st_thickness.T1.2 st_thickness.B1 = true := by kernel_rfl
theorem st_thickness.calls (a0_0 : Int) (a0_1 : Int) (a0_2 : Int) (a0_3 : Int) (a0_4 : Int) (a0_5 : Int) (a0_6 : Int) (a0_7 : Int) (a0_8 : Int) (a0_9 : Int) (a1_0 : Int) (a1_1 : Int) (r1 : Int) (r2 : Int) (w : World) (h : st_thickness.f a0_0 a0_1 a0_2 a0_3 a0_4 a0_5 a0_6 a0_7 a0_8 a0_9 a1_0 a1_1 = some (r1, r2)) :
  Calls Tryz.prog 156 #[.agg #[.int .i64 a0_0, .int .i64 a0_1, .int .i64 a0_2, .int .i64 a0_3, .int .i64 a0_4, .int .i64 a0_5, .int .i64 a0_6, .int .i64 a0_7, .int .i64 a0_8, .int .i64 a0_9], .agg #[.int .i64 a1_0, .int .i64 a1_1]] w fun e w' => e = .returned (.agg #[.int .i64 r1, .int .i64 r2]) ∧ Below w.heap.size w w' := by
 have hu92 := Tryz.underlying92; have hu27 := Tryz.underlying27; have HB := Sd.mk (Below.refl w.heap.size w)
 have H : ((st_down.f (wrap64 ((wrap64 ((wrap64 (200 * a1_0)) * a0_4)) * 113)) (wrap64 ((wrap64 (355 * a0_1)) * a0_3))).bind fun t363 => ((st_up.f (wrap64 ((wrap64 ((wrap64 (200 * a1_1)) * a0_5)) * 106)) (wrap64 ((wrap64 (333 * a0_0)) * a0_2))).bind fun t364 => (some (t363, t364)))) = some (r1, r2) := h
 clear h; replace H := Option.bind_eq_some_iff.mp H; obtain ⟨t363, A30, H⟩ := H
 try dsimp only at H
 have A3 := Sd.mk A30; clear A30; replace H := Option.bind_eq_some_iff.mp H; obtain ⟨t364, A40, H⟩ := H
 try dsimp only at H
 have A4 := Sd.mk A40; clear A40
 simp only [Option.some.injEq, Prod.mk.injEq] at H
 obtain ⟨rfl, rfl⟩ := H
 go_enter Tryz.func156, Tryz.ntmps156
 try go_wp2_with (first | ((with_reducible refine gate_dst (N := 2) rfl ?_); refine box_event ?hg (N := 2) ?hd (cs := #[.int .i64 a0_0, .int .i64 a0_1, .int .i64 a0_2, .int .i64 a0_3, .int .i64 a0_4, .int .i64 a0_5, .int .i64 a0_6, .int .i64 a0_7, .int .i64 a0_8, .int .i64 a0_9]) (t := 92) ?hr ?_; (case hd => rfl); (case hg => rfl); (case hr => exact tG); intro gb360 hg w5 hbox hb; have BK360 := Sd.mk (hbox); have GW360 := Sd.mk (bSz hg (bBl HB.out)); have GE360 := Sd.mk (bSz hg (bBl HB.out)); replace HB := Sd.mk (below_step (bBl HB.out) hb); clear hb hbox hg) | ((with_reducible refine gate_dst (N := 3) rfl ?_); refine box_event ?hg (N := 3) ?hd (cs := #[.int .i64 a1_0, .int .i64 a1_1]) (t := 27) ?hr ?_; (case hd => rfl); (case hg => rfl); (case hr => exact tG); intro gb361 hg w6 hbox hb; have BK361 := Sd.mk (hbox); have GW361 := Sd.mk (bSz hg (bBl HB.out)); have GE361 := Sd.mk (bSz hg (bBl HB.out)); replace HB := Sd.mk (below_step (bBl HB.out) hb); have NB360_361 := Sd.mk (bNl hg (bkA BK360.out)); have NB361_360 := Sd.mk (bNg hg (bkA BK360.out)); replace BK360 := Sd.mk (blk_below (bkA BK360.out) hb); clear hb hbox hg) | ((with_reducible refine gate_dst (N := 4) rfl ?_); refine box_event ?hg (N := 4) ?hd (cs := #[.int .i64 0, .int .i64 0]) (t := 27) ?hr ?_; (case hd => rfl); (case hg => rfl); (case hr => exact tG); intro gb362 hg w7 hbox hb; have BK362 := Sd.mk (hbox); have GW362 := Sd.mk (bSz hg (bBl HB.out)); have GE362 := Sd.mk (bSz hg (bBl HB.out)); replace HB := Sd.mk (below_step (bBl HB.out) hb); have NB360_362 := Sd.mk (bNl hg (bkA BK360.out)); have NB362_360 := Sd.mk (bNg hg (bkA BK360.out)); replace BK360 := Sd.mk (blk_below (bkA BK360.out) hb); have NB361_362 := Sd.mk (bNl hg (bkA BK361.out)); have NB362_361 := Sd.mk (bNg hg (bkA BK361.out)); replace BK361 := Sd.mk (blk_below (bkA BK361.out) hb); clear hb hbox hg))
 replace BK360 := Sd.mk (blk_drew BK360.out); replace BK361 := Sd.mk (blk_drew BK361.out); replace BK362 := Sd.mk (blk_drew BK362.out); replace HB := Sd.mk (below_drew1 HB.out)
 refine start_ (n := 36) (S := fun w' => w'.cell? ⟨gb361, 0, none⟩ = some (.int .i64 a1_0) ∧ w'.cell? ⟨gb361, 1, none⟩ = some (.int .i64 a1_1) ∧ w'.cell? ⟨gb360, 0, none⟩ = some (.int .i64 a0_0) ∧ w'.cell? ⟨gb360, 1, none⟩ = some (.int .i64 a0_1) ∧ w'.cell? ⟨gb360, 2, none⟩ = some (.int .i64 a0_2) ∧ w'.cell? ⟨gb360, 3, none⟩ = some (.int .i64 a0_3) ∧ w'.cell? ⟨gb360, 4, none⟩ = some (.int .i64 a0_4) ∧ w'.cell? ⟨gb360, 5, none⟩ = some (.int .i64 a0_5) ∧ w'.cell? ⟨gb360, 6, none⟩ = some (.int .i64 a0_6) ∧ w'.cell? ⟨gb360, 7, none⟩ = some (.int .i64 a0_7) ∧ w'.cell? ⟨gb360, 8, none⟩ = some (.int .i64 a0_8) ∧ w'.cell? ⟨gb360, 9, none⟩ = some (.int .i64 a0_9)) (ds := []) (bA 36 0) (by kernel_rfl) rfl rfl ⟨(blk_cell BK361.out 0).trans rfl, (blk_cell BK361.out 1).trans rfl, (blk_cell BK360.out 0).trans rfl, (blk_cell BK360.out 1).trans rfl, (blk_cell BK360.out 2).trans rfl, (blk_cell BK360.out 3).trans rfl, (blk_cell BK360.out 4).trans rfl, (blk_cell BK360.out 5).trans rfl, (blk_cell BK360.out 6).trans rfl, (blk_cell BK360.out 7).trans rfl, (blk_cell BK360.out 8).trans rfl, (blk_cell BK360.out 9).trans rfl⟩ (fun hHeld => ?_); refine with_tabW st_thickness.tab1 st_thickness.bits1 (fun HT_ HW_ => ?_)
 generalize w7.drew = w8 at BK360 BK361 BK362 HB hHeld ⊢
 refine pQ 0 (some 5) (bA 36 1) ?_
 refine pQ 3 (some 8) (bA 36 9) ?_
 refine pQ 4 (some 9) (bA 36 25) ?_
 refine pQ 8 (some 13) (bA 36 281) ?_
 refine pQ 9 (some 14) (bA 36 793) ?_
 refine pQ 12 (some 17) (bA 36 4889) ?_
 refine pQ 13 (some 18) (bA 36 13081) ?_
 refine pQ 17 (some 22) (bA 36 144153) ?_
 refine pQ 20 (some 25) (bA 36 1192729) ?_
 refine pQ 21 (some 26) (bA 36 3289881) ?_
 refine pQ 25 (some 30) (bA 36 36844313) ?_
 refine pQ 26 (some 31) (bA 36 103953177) ?_
 refine pQ 29 (some 34) (bA 36 640824089) ?_
 refine pQ 30 (some 35) (bA 36 1714565913) ?_
 refine tQ 1 (some 6) (bA 36 1714565915) ?_
 refine pQ 2 (some 7) (bA 36 1714565919) ?_
 refine tQ 5 (some 10) (bA 36 1714565951) ?_
 refine pQ 6 (some 11) (bA 36 1714566015) ?_
 refine pQ 7 (some 12) (bA 36 1714566143) ?_
 refine tQ 10 (some 15) (bA 36 1714567167) ?_
 refine pQ 11 (some 16) (bA 36 1714569215) ?_
 refine tQ 14 (some 19) (bA 36 1714585599) ?_
 refine pQ 15 (some 20) (bA 36 1714618367) ?_
 refine tQ 18 (some 23) (bA 36 1714880511) ?_
 refine pQ 19 (some 24) (bA 36 1715404799) ?_
 refine tQ 22 (some 27) (bA 36 1719599103) ?_
 refine pQ 23 (some 28) (bA 36 1727987711) ?_
 refine pQ 24 (some 29) (bA 36 1744764927) ?_
 refine tQ 27 (some 32) (bA 36 1878982655) ?_
 refine pQ 28 (some 33) (bA 36 2147418111) ?_
 refine tQ 31 (some 36) (bA 36 4294901759) ?_
 refine pQ 32 (some 37) (bA 36 8589869055) ?_
 refine one_ (i := 16) (N := some 21) (bA 36 8589934591) rfl rfl (one_of HT_.out (by kernel_rfl)) (by decide) (fun K hK => ?_)
 refine goes_ Tryz.func198 (by kernel_rfl) rfl #[.int .i64 (wrap64 ((wrap64 ((wrap64 (200 * a1_0)) * a0_4)) * 113)), .int .i64 (wrap64 ((wrap64 (355 * a0_1)) * a0_3))] (by rfl) rfl rfl tM ?_
 with_reducible refine (st_down.calls (wrap64 ((wrap64 ((wrap64 (200 * a1_0)) * a0_4)) * 113)) (wrap64 ((wrap64 (355 * a0_1)) * a0_3)) t363 _ A3.out).mono ?_
 rintro e w' ⟨rfl, ⟨nd, rfl⟩⟩
 refine ⟨_, rfl, ?_⟩
 refine hK.out _ _ ⟨(blk_cell BK361.out 0).trans rfl, (blk_cell BK361.out 1).trans rfl, (blk_cell BK360.out 0).trans rfl, (blk_cell BK360.out 1).trans rfl, (blk_cell BK360.out 2).trans rfl, (blk_cell BK360.out 3).trans rfl, (blk_cell BK360.out 4).trans rfl, (blk_cell BK360.out 5).trans rfl, (blk_cell BK360.out 6).trans rfl, (blk_cell BK360.out 7).trans rfl, (blk_cell BK360.out 8).trans rfl, (blk_cell BK360.out 9).trans rfl⟩ (fun hHeld => ?_)
 clear hK K
 refine norm_ (a' := ?_) ?_ ?_
 rotate_left
 ·show Act.put _ (some 21) _ = _
  exact tP
 refine one_ (i := 33) (N := some 38) (bA 36 17179869183) rfl rfl (one_of HT_.out (by kernel_rfl)) (by decide) (fun K hK => ?_)
 refine goes_ Tryz.func159 (by kernel_rfl) rfl #[.int .i64 (wrap64 ((wrap64 ((wrap64 (200 * a1_1)) * a0_5)) * 106)), .int .i64 (wrap64 ((wrap64 (333 * a0_0)) * a0_2))] (by rfl) rfl rfl tM ?_
 with_reducible refine (st_up.calls (wrap64 ((wrap64 ((wrap64 (200 * a1_1)) * a0_5)) * 106)) (wrap64 ((wrap64 (333 * a0_0)) * a0_2)) t364 _ A4.out).mono ?_
 rintro e w' ⟨rfl, ⟨nd, rfl⟩⟩
 refine ⟨_, rfl, ?_⟩
 refine hK.out _ _ ⟨(blk_cell BK361.out 0).trans rfl, (blk_cell BK361.out 1).trans rfl, (blk_cell BK360.out 0).trans rfl, (blk_cell BK360.out 1).trans rfl, (blk_cell BK360.out 2).trans rfl, (blk_cell BK360.out 3).trans rfl, (blk_cell BK360.out 4).trans rfl, (blk_cell BK360.out 5).trans rfl, (blk_cell BK360.out 6).trans rfl, (blk_cell BK360.out 7).trans rfl, (blk_cell BK360.out 8).trans rfl, (blk_cell BK360.out 9).trans rfl⟩ (fun hHeld => ?_)
 clear hK K
 refine norm_ (a' := ?_) ?_ ?_
 rotate_left
 ·show Act.put _ (some 38) _ = _
  exact tP
 refine pQ 34 (some 39) (bA 36 34359738367) ?_
 refine one_ (i := 35) (N := none) (bA 36 68719476735) rfl rfl (one_of HT_.out (by kernel_rfl)) (by decide) (fun K hK => ?_)
 have hs9 : w8.cell? ⟨gb362, 0, none⟩ = some (.int .i64 0) := (blk_cell BK362.out 0).trans rfl
 have hfs9 := blk_frozen BK362.out 0; have hns9_0 := NB360_362.out; have hns9_1 := NB361_362.out; have hms9_0 := NB362_360.out; have hms9_1 := NB362_361.out
 have hs10 : w8.cell? ⟨gb362, 1, none⟩ = some (.int .i64 0) := (blk_cell BK362.out 1).trans rfl
 have hfs10 := blk_frozen BK362.out 1; have hns10_0 := NB360_362.out; have hns10_1 := NB361_362.out; have hms10_0 := NB362_360.out; have hms10_1 := NB362_361.out
 refine skip_ (w1 := ?_) (by rfl) rfl ?_ ?_
 rotate_left
 ·go_simp
  rfl
 refine hK.out _ _ ⟨((cell_far (p := ⟨gb362, _, none⟩) NB361_362.out _).trans (((cell_far (p := ⟨gb362, _, none⟩) NB361_362.out _).trans (hHeld.1)))), ((cell_far (p := ⟨gb362, _, none⟩) NB361_362.out _).trans (((cell_far (p := ⟨gb362, _, none⟩) NB361_362.out _).trans (hHeld.2.1)))), ((cell_far (p := ⟨gb362, _, none⟩) NB360_362.out _).trans (((cell_far (p := ⟨gb362, _, none⟩) NB360_362.out _).trans (hHeld.2.2.1)))), ((cell_far (p := ⟨gb362, _, none⟩) NB360_362.out _).trans (((cell_far (p := ⟨gb362, _, none⟩) NB360_362.out _).trans (hHeld.2.2.2.1)))), ((cell_far (p := ⟨gb362, _, none⟩) NB360_362.out _).trans (((cell_far (p := ⟨gb362, _, none⟩) NB360_362.out _).trans (hHeld.2.2.2.2.1)))), ((cell_far (p := ⟨gb362, _, none⟩) NB360_362.out _).trans (((cell_far (p := ⟨gb362, _, none⟩) NB360_362.out _).trans (hHeld.2.2.2.2.2.1)))), ((cell_far (p := ⟨gb362, _, none⟩) NB360_362.out _).trans (((cell_far (p := ⟨gb362, _, none⟩) NB360_362.out _).trans (hHeld.2.2.2.2.2.2.1)))), ((cell_far (p := ⟨gb362, _, none⟩) NB360_362.out _).trans (((cell_far (p := ⟨gb362, _, none⟩) NB360_362.out _).trans (hHeld.2.2.2.2.2.2.2.1)))), ((cell_far (p := ⟨gb362, _, none⟩) NB360_362.out _).trans (((cell_far (p := ⟨gb362, _, none⟩) NB360_362.out _).trans (hHeld.2.2.2.2.2.2.2.2.1)))), ((cell_far (p := ⟨gb362, _, none⟩) NB360_362.out _).trans (((cell_far (p := ⟨gb362, _, none⟩) NB360_362.out _).trans (hHeld.2.2.2.2.2.2.2.2.2.1)))), ((cell_far (p := ⟨gb362, _, none⟩) NB360_362.out _).trans (((cell_far (p := ⟨gb362, _, none⟩) NB360_362.out _).trans (hHeld.2.2.2.2.2.2.2.2.2.2.1)))), ((cell_far (p := ⟨gb362, _, none⟩) NB360_362.out _).trans (((cell_far (p := ⟨gb362, _, none⟩) NB360_362.out _).trans (hHeld.2.2.2.2.2.2.2.2.2.2.2))))⟩ (fun hHeld => ?_)
 clear hK K
 refine done_ (done_of HT_.out (by kernel_rfl)) ?_
 try go_wp2
 refine bodyPost_ret (results_cell_row rfl _ _ gb362 27 #[.int .i64 t363, .int .i64 t364] (0, 0) _ rfl (by refine bkZ ?_; refine blk_put (cs := #[.int .i64 t363, .int .i64 0]) ?_ 1 _ rfl; refine bkZ ?_; refine blk_put (cs := #[.int .i64 0, .int .i64 0]) ?_ 0 _ rfl; refine bkZ ?_; exact BK362.out) Tryz.underlying27 rfl (by kernel_rfl)) rfl ?_
 exact ⟨tE, bBl HB.out⟩
end
section
attribute [local go_sem] Oper.semAt_some
def thick1 (x : S92) (lo hi : Int) : Option (Int × Int) := st_thickness.f x.f0.f0 x.f0.f1 x.f1.f0 x.f1.f1 x.f2.f0 x.f2.f1 x.f3.f0 x.f3.f1 x.f4.f0 x.f4.f1 lo hi
def thickL (zs : List S92) (lo hi : Int) : Nat → Option (List S27)
 | 0 => some []
 | k + 1 => (thickL zs lo hi k).bind fun l => (thick1 (rd_T92 zs (k : Int)) lo hi).bind fun p => some (l ++ [⟨p.1, p.2⟩])
theorem thickL_some (zs : List S92) (lo hi : Int) : ∀ (n : Nat) (l : List S27), thickL zs lo hi n = some l → ∀ k, k < n → ∃ p, thick1 (rd_T92 zs (k : Int)) lo hi = some p
 | 0, l, h, k, hk => by omega
 | n + 1, l, h, k, hk => by
  simp only [thickL] at h
  obtain ⟨l', h1, h2⟩ := Option.bind_eq_some_iff.mp h
  obtain ⟨p, h3, _⟩ := Option.bind_eq_some_iff.mp h2
  by_cases e : k = n
  ·subst e; exact ⟨p, h3⟩
  ·exact thickL_some zs lo hi n l' h1 k (by omega)
theorem thickL_len (zs : List S92) (lo hi : Int) : ∀ (n : Nat) (l : List S27), thickL zs lo hi n = some l → l.length = n
 | 0, l, h => by simp [thickL] at h; subst h; rfl
 | n + 1, l, h => by
  simp only [thickL] at h
  obtain ⟨l', h1, h2⟩ := Option.bind_eq_some_iff.mp h
  obtain ⟨p, h3, h4⟩ := Option.bind_eq_some_iff.mp h2
  obtain rfl := Option.some.inj h4
  simp [thickL_len zs lo hi n l' h1]
def x_Thickness.f (l0_0 : List S92) (a0_1 a0_2 a1_0 a1_1 : Int) : Option (List S27 × Int) :=
 if bottleV l0_0 a0_1 a0_2 = 0 then (if spanB a1_0 a1_1 1 100000 = true then (thickL l0_0 a1_0 a1_1 l0_0.length).bind fun l => some (l, 0) else some ([], 1)) else some ([], bottleV l0_0 a0_1 a0_2)
theorem callsDIn_wide_of_wpS {P : Program} {n : Nat} {f : FuncId} {fn : Func} {c : Code} {args : Array Value} {u : FrameMode} {w : World} {R : Ending → FrameMode → World → Prop}
  (hf : P.funcs[f]? = some fn) (hb : fn.body = some c)
  (h : ∀ (c₀ : Frame) (cs : List Frame), c₀.mode = u →
   c.wpS P (bodyPostS P fn c₀ cs R) { tmps := args ++ Array.replicate (fn.ntmps - args.size) undef, defers := [] } (c₀ :: cs) w) :
  CallsDIn Fence.wide n P f args u w R := by
 refine ⟨trivial, fun c₀ cs hu _ => ?_⟩
 let b : Frame := { (default : Frame) with fn := f, kind := .deferred }
 have henter : Frame.enter P f args .deferred =
   b.at { tmps := args ++ Array.replicate (fn.ntmps - args.size) undef, defers := [] } [.code c] := by
  simp [Frame.enter, Frame.at, hf, hb, b]
 obtain ⟨e, a', cs', w', hq, harr⟩ := h c₀ cs hu b [] rfl rfl
 rw [← henter] at harr
 cases e with
 | normal =>
  obtain ⟨hd, u', rfl, v, hr, hR⟩ := hq
  exact ⟨.returned v, u', w', _, hR, comesIn_wide.2 (Steps.trans harr (.one step_end)), rfl, rfl, rfl, hd, fn, hf, hr⟩
 | ret =>
  obtain ⟨hd, u', rfl, v, hr, hR⟩ := hq
  obtain ⟨todo, hs⟩ := harr
  exact ⟨.returned v, u', w', _, hR, comesIn_wide.2 hs, rfl, rfl, rfl, hd, fn, hf, hr⟩
 | panic chain =>
  obtain ⟨hd, u', rfl, hR⟩ := hq
  obtain ⟨todo, hs⟩ := harr
  exact ⟨.panicked chain, u', w', _, hR, comesIn_wide.2 hs, rfl, rfl, rfl, hd, fn, hf⟩
 | exit id => exact hq.elim
 | goto l => exact hq.elim
 | outgrown =>
  obtain ⟨u', hR⟩ := hq
  exact ⟨.outgrown, u', w', b, hR, comesIn_wide.2 (harr.resolve_left (by simp [b])), rfl, rfl, trivial⟩
theorem door139I_fail (n : Nat) (B : Nat) (e x : Int) (older : List PanicEntry) (w : World) (hB : w.heap[B]? = some (.cells #[.int .i64 x] 38 (0, 0))) :
  CallsDIn Fence.wide n Tryz.prog 154 #[.pointer (some ⟨B, 0, none⟩)] (.panicking ({ v := failV e, recovered := false } :: older)) w fun en u' w' =>
   en = .returned (.tuple #[]) ∧ u' = .panicking ({ v := failV e, recovered := true } :: older) ∧ w' = (w.alloc (.cells #[.int .i64 e] 183)).setCell ⟨B, 0, none⟩ (.int .i64 e) := by
 refine callsDIn_wide_of_wpS Tryz.func154 rfl fun c₀ cs hu => ?_
 apply wpS_region
 simp [wpOpsS, go_sem, recoverD, hu, Tryz.ntmps154, Exit.thenS, failV]
 refine (caught_fail B e x w hB).mono ?_
 rintro e1 w1 ⟨rfl, rfl⟩
 simp [bodyPostS, results, Tryz.results154]
theorem door139I_ok (n : Nat) (B : Nat) (w : World) :
  CallsDIn Fence.wide n Tryz.prog 154 #[.pointer (some ⟨B, 0, none⟩)] .returning w fun en u' w' => en = .returned (.tuple #[]) ∧ u' = .returning ∧ w' = w := by
 refine callsDIn_wide_of_wpS Tryz.func154 rfl fun c₀ cs hu => ?_
 apply wpS_region
 simp [wpOpsS, go_sem, recoverD, hu, Tryz.ntmps154, Exit.thenS]
 refine (caught_nil ⟨B, 0, none⟩ w).mono ?_
 rintro e1 w1 ⟨rfl, rfl⟩
 cases c₀
 simp_all [bodyPostS, results, Tryz.results154]
theorem leavesInM_fn {P : Program} {n : Nat} {fn : Func} {tmps : Array Value} {R : Ending → World → Prop} {fv : Fn} {cap dargs : Array Value} {ds : List Deferred} {u : FrameMode}
  {w : World} {f : FuncId} {args : Array Value} (hu : u ≠ .run) (hi : (invoke (.fn fv cap) dargs).run P w = .ok (.enter f args) w)
  (h : CallsDIn Fence.wide (n - 1) P f args u w fun
   | .returned _, u', w' => LeavesInM Fence.wide n P fn tmps R ds (settle u') w'
   | .panicked chain, u', w' => LeavesInM Fence.wide n P fn tmps R ds (raised u' chain) w'
   | .outgrown, _, w' => R .outgrown w') :
  LeavesInM Fence.wide n P fn tmps R ({ target := .fn fv cap, args := dargs } :: ds) u w :=
 ⟨hu, .inr ⟨(fun h => nomatch h), fv, cap, f, args, rfl, hi, fun _ _ => trivial, h⟩⟩
theorem stepI_append_cells {F : Fence} {n : Nat} {P : Program} {ops : Array Oper} {o : Oper} {a : Act} {Q : Exit → Act → World → Prop} {K : Act → World → Prop} {w0 W : World} (base : Nat) {G : Prop} (hw : Region.wanted o (yielded ops a.tmps) = true) (s x : Operand) (t e : TypeId) (z : Value) (size bytes : Nat)
  (ho : o.op = .call { callee := .builtin .append, args := #[s, x], argTypes := #[t, t] })
  (ht : P.underlying t = some (.slice e)) (hinfo : (P.info? e).map (fun i => (i.zero, i.size, i.bytes)) = some (some z, size, bytes)) (hz : z.cells.size = size) (hs0 : 0 < size) (hb0 : 0 < bytes)
  (v : Value) (m : Nat) (xs ys : List Value) (hs : a.eval s = v) (hx : a.eval x = .slice (some ⟨W.heap.size, 0, none⟩) 1 1) (hys : ys.length = size) (h1 : ∀ u ∈ ys, u.oneCell' = true)
  (HO : W.ownsRow base e size v m xs) (HB : Below base w0 W) (hbase : base ≤ W.heap.size) (hl : (m + 1) * bytes ≤ 140737488355328)
  (h : ∀ v1 w1, w1.ownsRow base e size v1 (m + 1) (xs ++ ys) → Below base w0 w1 → W.grownBy w1 v.ownBlock → (v1.ownBlock = v.ownBlock ∨ ∃ b, v1.ownBlock = some b ∧ W.heap.size ≤ b) → K (a.put o.dst v1) w1) :
  if Region.wanted o (yielded ops a.tmps) = true then Oper.wpIn F n P o a (W.alloc (.cells ys.toArray e)) K Q else G := by
 obtain ⟨i0, hi, hzz⟩ := Option.map_eq_some_iff.1 hinfo
 simp only [Prod.mk.injEq] at hzz
 obtain ⟨hz0, hz1, hz2⟩ := hzz
 have hlen : m + 1 ≤ 140737488355328 := Nat.le_trans (Nat.le_mul_of_pos_right _ hb0) hl
 rw [if_pos hw]
 obtain ⟨v1, w1, hr, hown, hg, _, hat⟩ := run_append_own_at (P := P) (W.alloc (.cells ys.toArray e)) base t o.type e i0 z size bytes ht hi hz0 hz1 hz2 hz hs0 v m xs (HO.alloc _) ⟨W.heap.size, 0, none⟩ 1 1 ys (by rw [hys]; simp)
  (by simpa using World.news_of_block (cs := ys.toArray) (t := e) (fr := (0, 0)) (heap_alloc_new W (.cells ys.toArray e))) h1 (by simp only [maxLen]; omega) hl (by simp; omega)
 have hK : K (a.put o.dst v1) w1 := by
  refine h v1 w1 hown ((HB.alloc hbase _).grown hg (by simp; omega) (own_base HO)) (World.grownBy.trans (World.grownBy_alloc W _ _) hg) ?_
  rcases hat with hat | hat
  ·exact .inl hat
  ·exact .inr ⟨_, hat, by simp⟩
 unfold Oper.wpIn
 refine ⟨?_, ?_⟩
 ·simp [Oper.about, ho, resolve, Target.leads, Sem.run_pure]
 ·rw [Oper.semAt_plain F _ _ (by rw [ho]; intro c hc'; cases hc')]
  simp [execOp, ho, resolve, invoke, builtin, hs, hx, hr, Result.andThen]
  exact hK
structure ThI (A : Option Addr) (c : Nat) (zs : List S92) (f1 f2 lo hi : Int) (w : World) (g B : Nat) (k : Nat) (W : World) (v : Value) (l : List S27) : Prop where
 li : thickL zs lo hi k = some l
 bx : W.heap[w.heap.size]? = some (.cells #[.slice A zs.length c, .int .i64 f1, .int .i64 f2] 73 (0, 0))
 sp : W.heap[w.heap.size + 1]? = some (.cells #[.int .i64 lo, .int .i64 hi] 27 (0, 0))
 sl : W.heap[w.heap.size + 1 + 1]? = some (.cells #[v] 24 (0, 0))
 er : W.heap[w.heap.size + 1 + 1 + 1]? = some (.cells #[.int .i64 0] 38 (0, 0))
 rb : W.heap[g]? = some (.cells #[.slice A zs.length c, .int .i64 f1, .int .i64 f2] 73 (0, 0))
 be : Below w.heap.size w W
 ro : Kd.R k27 27 W (B + 2) (fun _ => True) v l
theorem R_put {W : World} {v : Value} {l : List S27} {B r : Nat} (h : Kd.R k27 27 W B (fun _ => True) v l) (hr : r < B) (o' : Obj) : Kd.R k27 27 (W.putObj r o') B (fun _ => True) v l := by
 refine Kd.R_mono (Kd.R_step (Kd.R_bound h) (fun k hk hlt => ?_)) (fun _ _ => trivial)
 exact World.putObj_heap_other (by have := hk.2.1; omega)
section
variable {A : Option Addr} {c : Nat} {zs : List S92} {f1 f2 lo hi : Int} {w : World} {g B k : Nat} {W : World} {v : Value} {l : List S27}
theorem ThI.alloc (h : ThI A c zs f1 f2 lo hi w g B k W v l) (o : Obj) : ThI A c zs f1 f2 lo hi w g B k (W.alloc o) v l :=
 ⟨h.li, blk_alloc h.bx o, blk_alloc h.sp o, blk_alloc h.sl o, blk_alloc h.er o, blk_alloc h.rb o, below_alloc h.be o, Kd.R_alloc h.ro o⟩
theorem ThI.put (h : ThI A c zs f1 f2 lo hi w g B k W v l) (o : Obj) (h1 : w.heap.size + 4 ≤ g) (h2 : g < B) (h3 : B + 1 < W.heap.size) : ThI A c zs f1 f2 lo hi w g B k (W.putObj (B + 1) o) v l :=
 ⟨h.li, putObj_heap_keep (by omega) h.bx, putObj_heap_keep (by omega) h.sp, putObj_heap_keep (by omega) h.sl, putObj_heap_keep (by omega) h.er, putObj_heap_keep (by omega) h.rb, below_putObj h.be (by omega) h3, R_put h.ro (by omega) o⟩
end
theorem stepI_R_append {F : Fence} {n : Nat} {P : Program} {ops : Array Oper} {o : Oper} {a : Act} {Q : Exit → Act → World → Prop} {K : Act → World → Prop} {α : Type} (d : Kd α) {w0 W : World} (base : Nat) {G : Prop} (hw : Region.wanted o (yielded ops a.tmps) = true) (s x : Operand) (t e : TypeId) (z : Value) (bytes : Nat)
  (ho : o.op = .call { callee := .builtin .append, args := #[s, x], argTypes := #[t, t] })
  (ht : P.underlying t = some (.slice e)) (hinfo : (P.info? e).map (fun i => (i.zero, i.size, i.bytes)) = some (some z, d.sz, bytes)) (hz : z.cells.size = d.sz) (hs0 : 0 < d.sz) (hb0 : 0 < bytes)
  (v : Value) (xs : List α) (p : α) (cs : List Value) (ok okp : Nat → Prop) (hs : a.eval s = v) (hx : a.eval x = .slice (some ⟨W.heap.size, 0, none⟩) 1 1) (hp : d.M W base okp p cs) (hokp : ∀ k, okp k → ok k ∧ some k ≠ v.ownBlock) (hfresh : ∀ k, W.heap.size ≤ k → ok k)
  (HO : d.R e W base ok v xs) (HB : Below base w0 W) (hbase : base ≤ W.heap.size) (hl : (xs.length + 1) * bytes ≤ 140737488355328)
  (h : ∀ v1 w1, d.R e w1 base ok v1 (xs ++ [p]) → Below base w0 w1 → K (a.put o.dst v1) w1) :
  if Region.wanted o (yielded ops a.tmps) = true then Oper.wpIn F n P o a (W.alloc (.cells cs.toArray e)) K Q else G := by
 obtain ⟨h0, inner, hown, hr⟩ := HO
 refine stepI_append_cells base hw s x t e z d.sz bytes ho ht hinfo hz hs0 hb0 v xs.length inner cs hs hx (d.K_len (d.K_of_M hp)) (d.K_one (d.K_of_M hp)) hown HB hbase hl ?_
 intro v1 w1 hown1 hb1 hg1 hat1
 exact h v1 w1 (Kd.R_appended h0 hr hp hokp hfresh hown1 hg1 hat1) hb1
theorem rings_b (v1 v2 v3 : Value) (w : World) :
  Calls Tryz.prog 111 #[.agg #[v1, v2, v3]] w fun e w' => ∃ g, e = .returned (.func (.func 187) #[] #[.pointer (some ⟨g, 0, none⟩)]) ∧ w.heap.size ≤ g ∧ w'.heap[g]? = some (.cells #[v1, v2, v3] 73 (0, 0)) ∧ Below w.heap.size w w' :=
 (callsIn_wide (n := 9)).1 ((rings_callsI Fence.wide 9 trivial rfl v1 v2 v3 w).mono fun e w' he => ⟨w.heap.size, he.1, Nat.le_refl _, by rw [he.2]; exact blk_new _ _, by rw [he.2]; exact below_alloc (Below.refl _ _) _⟩)
theorem Below5 {B : Nat} {w w1 : World} {g : Nat} {o : Obj} (hb : Below B w w1) (h : w.heap[g]? = some o) (hg : g < B) : w1.heap[g]? = some o := (hb.block g hg).trans h
theorem bottle_len {zs : List S92} {f1 f2 : Int} (h : bottleV zs f1 f2 = 0) : zs.length ≤ 24 := by
 unfold bottleV at h
 split at h
 ·cases h
 ·omega
theorem k27_E : k27.E = [] := rfl
theorem bottle_ok (A : Option Addr) (c : Nat) (zs : List S92) (f1 f2 : Int) (w : World) (hr : Kd.C k92 w A zs.length zs) (h : bottleV zs f1 f2 = 0) :
  Calls Tryz.prog 120 #[.agg #[.slice A zs.length c, .int .i64 f1, .int .i64 f2]] w fun en w' => en = .returned (.tuple #[]) ∧ Below w.heap.size w w' :=
 (bottle_calls A c zs f1 f2 w hr).mono fun e w' he => ⟨by rw [he.1, h]; rfl, he.2⟩
theorem bottle_no (A : Option Addr) (c : Nat) (zs : List S92) (f1 f2 : Int) (w : World) (hr : Kd.C k92 w A zs.length zs) (h : bottleV zs f1 f2 ≠ 0) :
  Calls Tryz.prog 120 #[.agg #[.slice A zs.length c, .int .i64 f1, .int .i64 f2]] w fun en w' => en = .panicked (failC (bottleV zs f1 f2)) ∧ Below w.heap.size w w' :=
 (bottle_calls A c zs f1 f2 w hr).mono fun e w' he => ⟨by rw [he.1, endF_ne h], he.2⟩
theorem run_var24 (w : World) (g : Nat) (v : Value) (h : w.heap[g]? = some (.cells #[v] 24 (0, 0))) : (loadVar 24 ⟨g, 0, none⟩).run Tryz.prog w = .ok v w := by
 have hc : w.cell? ⟨g, 0, none⟩ = some v := (blk_cell h 0).trans rfl
 simp [loadVar, go_sem, hc]
theorem x_Thickness.calls (A : Option Addr) (c : Nat) (zs : List S92) (f1 f2 lo hi : Int) (l2 : List S27) (r2 : Int) (w : World) (hr : Kd.C k92 w A zs.length zs) (hc : zs.length ≤ c) (h : x_Thickness.f zs f1 f2 lo hi = some (l2, r2)) :
  Calls Tryz.prog 61 #[.agg #[.slice A zs.length c, .int .i64 f1, .int .i64 f2], .agg #[.int .i64 lo, .int .i64 hi]] w fun e w' => ∃ v0_ : Value, e = .returned (.tuple #[v0_, .int .i64 r2]) ∧ Kd.R k27 27 w' w.heap.size (fun _ => True) v0_ l2 ∧ Below w.heap.size w w' := by
 have hmf := run_makeFunc_
 obtain ⟨b1, b2, b3, b4, hbl, hsz⟩ := blk_four w (.cells #[.slice A zs.length c, .int .i64 f1, .int .i64 f2] 73) (.cells #[.int .i64 lo, .int .i64 hi] 27) (.cells #[.slice none 0 0] 24) (.cells #[.int .i64 0] 38)
 have BX := Sd.mk b1
 have BS := Sd.mk b2
 have BL := Sd.mk b3
 have BE := Sd.mk b4
 have HSZ := Sd.mk hsz
 have HB := Sd.mk hbl
 have HR := Sd.mk (Kd.C_below hr hbl)
 have HR0 := Sd.mk hr
 have hb0 : ((((w.alloc (.cells #[.slice A zs.length c, .int .i64 f1, .int .i64 f2] 73)).alloc (.cells #[.int .i64 lo, .int .i64 hi] 27)).alloc (.cells #[.slice none 0 0] 24)).alloc (.cells #[.int .i64 0] 38)).cell? ⟨w.heap.size, 0, none⟩ = some (.slice A zs.length c) := (blk_cell b1 0).trans rfl
 have hb1 : ((((w.alloc (.cells #[.slice A zs.length c, .int .i64 f1, .int .i64 f2] 73)).alloc (.cells #[.int .i64 lo, .int .i64 hi] 27)).alloc (.cells #[.slice none 0 0] 24)).alloc (.cells #[.int .i64 0] 38)).cell? ⟨w.heap.size, 0 + 1, none⟩ = some (.int .i64 f1) := (blk_cell b1 1).trans rfl
 have hb2 : ((((w.alloc (.cells #[.slice A zs.length c, .int .i64 f1, .int .i64 f2] 73)).alloc (.cells #[.int .i64 lo, .int .i64 hi] 27)).alloc (.cells #[.slice none 0 0] 24)).alloc (.cells #[.int .i64 0] 38)).cell? ⟨w.heap.size, 0 + 2, none⟩ = some (.int .i64 f2) := (blk_cell b1 2).trans rfl
 clear b1 b2 b3 b4 hbl hsz hr
 unfold x_Thickness.f at h
 by_cases h0 : bottleV zs f1 f2 = 0
 ·rw [if_pos h0] at h
  have H0 := Sd.mk h0
  clear h0
  cases hi' : spanB lo hi 1 100000 with
  | true =>
   rw [if_pos hi'] at h
   obtain ⟨l, hl, h⟩ := Option.bind_eq_some_iff.mp h
   simp only [Option.some.injEq, Prod.mk.injEq] at h
   obtain ⟨rfl, rfl⟩ := h
   have HI := Sd.mk hi'
   have HL := Sd.mk hl
   clear hi' hl
   refine (callsIn_wide (n := 9)).1 (callsIn_of_wp_marks Tryz.func61 rfl trivial ?_ rfl)
   simp only [Tryz.ntmps61, List.size_toArray, List.length_cons, List.length_nil, Nat.reduceAdd, Nat.reduceSub, Array.replicate_succ, Array.replicate_zero, List.push_toArray, List.append_toArray, List.nil_append, List.cons_append]
   gi_wp2_with (first | (refine ⟨trivial, ?_⟩; gi_at_call 120; refine (callsIn_wide.2 (bottle_ok A c zs f1 f2 _ HR.out H0.out)).mono ?_; rintro e w1 ⟨rfl, hw1⟩; have BX1 := Sd.mk (blk_below BX.out hw1); have BS1 := Sd.mk (blk_below BS.out hw1); have BL1 := Sd.mk (blk_below BL.out hw1); have BE1 := Sd.mk (blk_below BE.out hw1); have HB1 := Sd.mk (below_then HB.out (by have := HSZ.out; omega) hw1); have HSZ1 := Sd.mk (show w.heap.size + 4 ≤ w1.heap.size from Nat.le_trans (by have := HSZ.out; omega) hw1.size); clear hw1; have ht0 : w1.cell? ⟨w.heap.size + 1, 0, none⟩ = some (.int .i64 lo) := (blk_cell BS1.out 0).trans rfl; have ht1 : w1.cell? ⟨w.heap.size + 1, 0 + 1, none⟩ = some (.int .i64 hi) := (blk_cell BS1.out 1).trans rfl; have hb0 : w1.cell? ⟨w.heap.size, 0, none⟩ = some (.slice A zs.length c) := (blk_cell BX1.out 0).trans rfl; have hb1 : w1.cell? ⟨w.heap.size, 0 + 1, none⟩ = some (.int .i64 f1) := (blk_cell BX1.out 1).trans rfl; have hb2 : w1.cell? ⟨w.heap.size, 0 + 2, none⟩ = some (.int .i64 f2) := (blk_cell BX1.out 2).trans rfl) | (refine ⟨trivial, ?_⟩; gi_at_call 155; refine (callsIn_wide.2 (sspan_f _ _ _ _ _)).mono ?_; rw [HI.out]; rintro e w2 ⟨rfl, hw2⟩; have BX2 := BX1; have BS2 := BS1; clear BX1 BS1; have BX1 := Sd.mk (blk_below BX2.out hw2); have BS1 := Sd.mk (blk_below BS2.out hw2); have BL2 := Sd.mk (blk_below BL1.out hw2); have BE2 := Sd.mk (blk_below BE1.out hw2); have HB2 := Sd.mk (below_then HB1.out HB1.out.size hw2); have HSZ2 := Sd.mk (show w.heap.size + 4 ≤ w2.heap.size from Nat.le_trans HSZ1.out hw2.size); clear BX2 BS2 hw2; have hb0 : w2.cell? ⟨w.heap.size, 0, none⟩ = some (.slice A zs.length c) := (blk_cell BX1.out 0).trans rfl; have hb1 : w2.cell? ⟨w.heap.size, 0 + 1, none⟩ = some (.int .i64 f1) := (blk_cell BX1.out 1).trans rfl; have hb2 : w2.cell? ⟨w.heap.size, 0 + 2, none⟩ = some (.int .i64 f2) := (blk_cell BX1.out 2).trans rfl) | (refine ⟨trivial, ?_⟩; gi_at_call 65; (with_reducible refine (callsIn_wide.2 (demand_ok _ _)).mono ?_); rintro e w' ⟨rfl, rfl⟩) | (refine ⟨trivial, ?_⟩; gi_at_call 111; (with_reducible refine (callsIn_wide.2 (rings_b _ _ _ _)).mono ?_); rintro e w3 ⟨g, rfl, hg, hbk, hw3⟩; have RB3 := Sd.mk hbk; have HG := Sd.mk (show w.heap.size + 4 ≤ g from Nat.le_trans (by have := HSZ.out; have := BE2.out; have := HSZ2.out; omega) hg); have BX3 := Sd.mk (blk_below BX1.out hw3); have BS3 := Sd.mk (blk_below BS1.out hw3); have BL3 := Sd.mk (blk_below BL2.out hw3); have BE3 := Sd.mk (blk_below BE2.out hw3); have HB3 := Sd.mk (below_then HB2.out HB2.out.size hw3); have HG3 := Sd.mk (show g < w3.heap.size from blk_lt hbk); clear hbk hw3 hg))
   clear ht0 ht1 hb0 hb1 hb2
   have hll := thickL_some zs lo hi zs.length _ HL.out
   have HN := Sd.mk (bottle_len H0.out)
   refine wpIn_rangeFuncP (N := zs.length) (encs := fun k => #[.int .i64 (k : Int), ringV (rd_T92 zs k)]) rfl (by omega) (gf := 187) (lb := #[.pointer (some ⟨g, 0, none⟩)]) rfl trivial (enters_of Tryz.func187 (by kernel_rfl) rfl) (fun _ => rfl)
    (fun k W => ∃ v l, ThI A c zs f1 f2 lo hi w g w3.heap.size k W v l) (fun _ _ => False) (fun k W o ⟨v, l, h⟩ => ⟨v, l, h.alloc o⟩) (fun k W o r hl ⟨v, l, h⟩ => ⟨v, l, h.put o HG.out HG3.out (Array.getElem?_eq_some_iff.1 hl).1⟩) ⟨_, _, rfl, BX3.out, BS3.out, BL3.out, BE3.out, RB3.out, HB3.out, Kd.R_nil _ _ _ _ _⟩ ?seq ?round ?fn ?done ?panic
   case seq =>
    intro l1 J Jp W hJa hJI hY h0
    obtain ⟨v, l, hi0⟩ := hJI _ _ h0
    exact rings1_in Fence.wide (9 - 1) trivial rfl (by omega) l1 g A c _ _ zs J Jp W hi0.rb hJa (fun k W' h => by obtain ⟨v, l, h⟩ := hJI _ _ h; exact Kd.C_below HR0.out h.be) hY h0
   case round =>
    clear BX3 BS3 BL3 BE3 RB3 HB3 BX1 BS1 BL1 BE1 HB1 BL2 BE2 HB2 HB BX BS BL BE
    intro l k W hW _ hk hI st hst
    obtain ⟨v, l', hI⟩ := hI
    obtain ⟨p, hp⟩ := hll k hk
    generalize hx : rd_T92 zs (k : Int) = x at hp ⊢
    have HI1 := Sd.mk hI
    have HW := Sd.mk hW
    have HK := Sd.mk hk
    have HX := Sd.mk hx
    have HP := Sd.mk hp
    have HL1 := HL
    clear HL
    have HL := Sd.mk (thickL_len _ _ _ _ _ hI.li)
    clear hI hW hk hp hll
    clear hx
    unfold ringV
    simp only [List.zip_cons_cons, List.zip_nil_right, List.foldl_cons, List.foldl_nil]
    gi_wp2
    refine hst _ _ (by simp) (fun j h1 h2 => Below.heap_alloc W _ j (by have := HW.out; omega)) ?_
    clear hst
    intro o
    have hn2 : 1 ≤ 9 - 1 - 1 := by omega
    have CK : Sd (ThI A c zs f1 f2 lo hi w g w3.heap.size k ((W.alloc (.cells #[.int .i64 x.f0.f0, .int .i64 x.f0.f1, .int .i64 x.f1.f0, .int .i64 x.f1.f1, .int .i64 x.f2.f0, .int .i64 x.f2.f1, .int .i64 x.f3.f0, .int .i64 x.f3.f1, .int .i64 x.f4.f0, .int .i64 x.f4.f1] 92)).putObj (w3.heap.size + 1) o) v l') := ⟨(HI1.out.alloc _).put o HG.out HG3.out (by have := HW.out; simp; omega)⟩
    have RB : Sd (((W.alloc (.cells #[.int .i64 x.f0.f0, .int .i64 x.f0.f1, .int .i64 x.f1.f0, .int .i64 x.f1.f1, .int .i64 x.f2.f0, .int .i64 x.f2.f1, .int .i64 x.f3.f0, .int .i64 x.f3.f1, .int .i64 x.f4.f0, .int .i64 x.f4.f1] 92)).putObj (w3.heap.size + 1) o).heap[W.heap.size]? = some (.cells #[.int .i64 x.f0.f0, .int .i64 x.f0.f1, .int .i64 x.f1.f0, .int .i64 x.f1.f1, .int .i64 x.f2.f0, .int .i64 x.f2.f1, .int .i64 x.f3.f0, .int .i64 x.f3.f1, .int .i64 x.f4.f0, .int .i64 x.f4.f1] 92 (0, 0))) := ⟨putObj_heap_keep (by have := HW.out; omega) (blk_new _ _)⟩
    have WS : Sd (((W.alloc (.cells #[.int .i64 x.f0.f0, .int .i64 x.f0.f1, .int .i64 x.f1.f0, .int .i64 x.f1.f1, .int .i64 x.f2.f0, .int .i64 x.f2.f1, .int .i64 x.f3.f0, .int .i64 x.f3.f1, .int .i64 x.f4.f0, .int .i64 x.f4.f1] 92)).putObj (w3.heap.size + 1) o).heap.size = W.heap.size + 1) := ⟨by simp⟩
    generalize (W.alloc (.cells #[.int .i64 x.f0.f0, .int .i64 x.f0.f1, .int .i64 x.f1.f0, .int .i64 x.f1.f1, .int .i64 x.f2.f0, .int .i64 x.f2.f1, .int .i64 x.f3.f0, .int .i64 x.f3.f1, .int .i64 x.f4.f0, .int .i64 x.f4.f1] 92)).putObj (w3.heap.size + 1) o = Wb at CK RB WS ⊢
    have hmx : Tryz.prog.follows .mixedOrders = true := by kernel_rfl
    gi_wp2
    refine wpIn_region_any hmx ?_
    change wpAnyIn _ _ _ _ _ _ _ _ _ (World.drew _)
    have RBd : Sd (Wb.drew.heap[W.heap.size]? = some (.cells #[.int .i64 x.f0.f0, .int .i64 x.f0.f1, .int .i64 x.f1.f0, .int .i64 x.f1.f1, .int .i64 x.f2.f0, .int .i64 x.f2.f1, .int .i64 x.f3.f0, .int .i64 x.f3.f1, .int .i64 x.f4.f0, .int .i64 x.f4.f1] 92 (0, 0))) := ⟨RB.out⟩
    have SP : Sd (Wb.drew.heap[w.heap.size + 1]? = some (.cells #[.int .i64 lo, .int .i64 hi] 27 (0, 0))) := ⟨CK.out.sp⟩
    have SL : Sd (Wb.drew.heap[w.heap.size + 1 + 1]? = some (.cells #[v] 24 (0, 0))) := ⟨CK.out.sl⟩
    have RO : Sd (Kd.R k27 27 Wb.drew (w3.heap.size + 2) (fun _ => True) v l') := ⟨Kd.R_drew CK.out.ro⟩
    have HD2 : Sd (w3.heap.size + 2 ≤ Wb.drew.heap.size) := ⟨by have := HW.out; have := WS.out; show w3.heap.size + 2 ≤ Wb.heap.size; omega⟩
    have BD : Sd (Below (w3.heap.size + 2) Wb Wb.drew) := ⟨below_drew (Below.refl _ _)⟩
    have fin : ∀ (a' : Act) (w5 : World) (v1 : Value), Kd.R k27 27 w5 (w3.heap.size + 2) (fun _ => True) v1 (l' ++ [⟨p.1, p.2⟩]) → Below (w3.heap.size + 2) Wb.drew w5 → bodyPostP w3.heap.size (fun k W => ∃ v l, ThI A c zs f1 f2 lo hi w g w3.heap.size k W v l) (fun _ _ => False) (k + 1) Wb .normal a' (w5.setCell ⟨w.heap.size + 1 + 1, 0, none⟩ v1) := by
     intro a' w5 v1 hr5 hb5'
     have hb5 : Below (w3.heap.size + 2) Wb w5 := BD.out.trans hb5'
     have hg1 := HG.out
     have hg2 := HG3.out
     refine ⟨by simpa using hb5.size, fun j h1 h2 => (Below.heap_setCell _ _ _ j (by simp; omega)).trans (hb5.block j (by omega)), v1, l' ++ [⟨p.1, p.2⟩], ?_⟩
     have hp := HP.out
     exact ⟨by simp only [thickL, CK.out.li, HX.out]; rw [show thick1 x lo hi = some p from hp]; rfl, blk_far (Below5 hb5 CK.out.bx (by omega)) (p := ⟨w.heap.size + 1 + 1, 0, none⟩) (by simp; omega) _, blk_far (Below5 hb5 CK.out.sp (by omega)) (p := ⟨w.heap.size + 1 + 1, 0, none⟩) (by simp) _, blk_put (Below5 hb5 CK.out.sl (by omega)) 0 _ rfl, blk_far (Below5 hb5 CK.out.er (by omega)) (p := ⟨w.heap.size + 1 + 1, 0, none⟩) (by simp) _, blk_far (Below5 hb5 CK.out.rb (by omega)) (p := ⟨w.heap.size + 1 + 1, 0, none⟩) (by simp; omega) _, below_set (CK.out.be.trans (hb5.mono (by omega))) (by omega), Kd.R_set hr5 (Below5 hb5 CK.out.sl (by omega)) (by simp [k27_E]) 0 _⟩
    generalize Wb.drew = Wd at RBd SP SL RO HD2 BD fin ⊢
    clear RB
    have RB := RBd
    clear RBd
    have g0 : Wd.cell? ⟨W.heap.size, 0, none⟩ = some (.int .i64 x.f0.f0) := (blk_cell RB.out 0).trans rfl
    have g1 : Wd.cell? ⟨W.heap.size, 0 + 1, none⟩ = some (.int .i64 x.f0.f1) := (blk_cell RB.out 1).trans rfl
    have g2 : Wd.cell? ⟨W.heap.size, 0 + 2, none⟩ = some (.int .i64 x.f1.f0) := (blk_cell RB.out 2).trans rfl
    have g3 : Wd.cell? ⟨W.heap.size, 0 + 3, none⟩ = some (.int .i64 x.f1.f1) := (blk_cell RB.out 3).trans rfl
    have g4 : Wd.cell? ⟨W.heap.size, 0 + 4, none⟩ = some (.int .i64 x.f2.f0) := (blk_cell RB.out 4).trans rfl
    have g5 : Wd.cell? ⟨W.heap.size, 0 + 5, none⟩ = some (.int .i64 x.f2.f1) := (blk_cell RB.out 5).trans rfl
    have g6 : Wd.cell? ⟨W.heap.size, 0 + 6, none⟩ = some (.int .i64 x.f3.f0) := (blk_cell RB.out 6).trans rfl
    have g7 : Wd.cell? ⟨W.heap.size, 0 + 7, none⟩ = some (.int .i64 x.f3.f1) := (blk_cell RB.out 7).trans rfl
    have g8 : Wd.cell? ⟨W.heap.size, 0 + 8, none⟩ = some (.int .i64 x.f4.f0) := (blk_cell RB.out 8).trans rfl
    have g9 : Wd.cell? ⟨W.heap.size, 0 + 9, none⟩ = some (.int .i64 x.f4.f1) := (blk_cell RB.out 9).trans rfl
    have gt0 : Wd.cell? ⟨w.heap.size + 1, 0, none⟩ = some (.int .i64 lo) := (blk_cell SP.out 0).trans rfl
    have gt1 : Wd.cell? ⟨w.heap.size + 1, 0 + 1, none⟩ = some (.int .i64 hi) := (blk_cell SP.out 1).trans rfl
    have gv : Wd.cell? ⟨w.heap.size + 1 + 1, 0, none⟩ = some v := (blk_cell SL.out 0).trans rfl
    refine wpAnyIn_ready (rs := [0, 1, 2]) (by kernel_rfl) (by simp) ?_
    refine AllReadyIn.cons rfl (fun K hK => ?_) ?_
    ·go_simp
     refine hK _ _ ?_
     clear hK K
     refine wpAnyIn_ready (rs := [1, 2]) (by kernel_rfl) (by simp) ?_
     refine AllReadyIn.cons rfl (fun K hK => ?_) ?_
     ·go_simp
      refine hK _ _ ?_
      clear hK K
      refine wpAnyIn_ready (rs := [2]) (by kernel_rfl) (by simp) ?_
      refine AllReadyIn.cons rfl (fun K hK => ?_) ?_
      ·go_simp
       refine hK _ _ ?_
       clear hK K
       refine wpAnyIn_ready (rs := [3]) (by kernel_rfl) (by simp) ?_
       refine AllReadyIn.cons rfl (fun K hK => ?_) ?_
       ·go_simp
        gi_wp2_with (refine ⟨trivial, ?_⟩; gi_at_call 156; refine (CallsIn.inRound l (callsIn_wide.2 (st_thickness.calls _ _ _ _ _ _ _ _ _ _ _ _ p.1 p.2 _ HP.out))).mono ?_; rintro e w4 ⟨rfl, hw4⟩; have BW4 := Sd.mk (show Below (w3.heap.size + 2) Wd w4 from hw4.mono HD2.out); have SZ4 := Sd.mk (show w3.heap.size + 2 ≤ w4.heap.size from Nat.le_trans HD2.out hw4.size); have RO4 := Sd.mk (Kd.R_below RO.out hw4); have SL4 := Sd.mk (blk_below SL.out hw4); clear hw4; have gv4 : w4.cell? ⟨w.heap.size + 1 + 1, 0, none⟩ = some v := (blk_cell SL4.out 0).trans rfl; have gv5 : (w4.alloc (.cells #[.int .i64 p.1, .int .i64 p.2] 27)).cell? ⟨w.heap.size + 1 + 1, 0, none⟩ = some v := (blk_cell (blk_alloc SL4.out _) 0).trans rfl)
        refine wpAnyIn_ready (rs := [4]) (by kernel_rfl) (by simp) ?_
        refine AllReadyIn.cons rfl (fun K hK => ?_) ?_
        ·go_simp
         refine hK _ _ ?_
         clear hK K
         refine wpAnyIn_ready (rs := [5]) (by kernel_rfl) (by simp) ?_
         refine AllReadyIn.cons rfl (fun K hK => ?_) ?_
         ·refine stepI_R_append k27 (w0 := Wd) (W := w4) (w3.heap.size + 2) (by go_simp) _ _ 24 27 (.agg #[.int .i64 0, .int .i64 0]) 16 rfl Tryz.underlying24 info27 rfl (by decide) (by decide) v l' ⟨p.1, p.2⟩ [.int .i64 p.1, .int .i64 p.2] (fun _ => True) (fun _ => False) rfl rfl (k27_mkM _ _ _ _) (fun _ h => h.elim) (fun _ _ => trivial) RO4.out BW4.out SZ4.out (by rw [HL.out]; have := HN.out; have := HK.out; omega) ?_
          intro v1 w5 r5 b5
          obtain ⟨As, cs5, hv5⟩ := Kd.R_slice r5
          rw [List.length_append, List.length_singleton] at hv5
          subst hv5
          have R5 := Sd.mk r5
          have B5 := Sd.mk b5
          clear r5 b5
          have gs : w5.cell? ⟨w.heap.size + 1 + 1, 0, none⟩ = some v := (blk_cell (Below5 B5.out SL.out (by have := HG.out; have := HG3.out; omega)) 0).trans rfl
          have gs' := blk_frozen (Below5 B5.out SL.out (by have := HG.out; have := HG3.out; omega)) 0
          refine hK _ _ ?_
          clear hK K
          refine wpAnyIn_ready (rs := [6]) (by kernel_rfl) (by simp) ?_
          refine AllReadyIn.cons rfl (fun K hK => ?_) ?_
          ·go_simp
           refine hK _ _ ?_
           clear hK K
           refine wpAnyIn_done (by kernel_rfl) ?_ _
           exact fin { tmps := #[], defers := [] } _ _ R5.out B5.out
          exact AllReadyIn.nil
         exact AllReadyIn.nil
        exact AllReadyIn.nil
       exact AllReadyIn.nil
      exact AllReadyIn.nil
     refine AllReadyIn.cons rfl (fun K hK => ?_) ?_
     ·go_simp
      refine hK _ _ ?_
      clear hK K
      refine wpAnyIn_ready (rs := [1]) (by kernel_rfl) (by simp) ?_
      refine AllReadyIn.cons rfl (fun K hK => ?_) ?_
      ·go_simp
       refine hK _ _ ?_
       clear hK K
       refine wpAnyIn_ready (rs := [3]) (by kernel_rfl) (by simp) ?_
       refine AllReadyIn.cons rfl (fun K hK => ?_) ?_
       ·go_simp
        gi_wp2_with (refine ⟨trivial, ?_⟩; gi_at_call 156; refine (CallsIn.inRound l (callsIn_wide.2 (st_thickness.calls _ _ _ _ _ _ _ _ _ _ _ _ p.1 p.2 _ HP.out))).mono ?_; rintro e w4 ⟨rfl, hw4⟩; have BW4 := Sd.mk (show Below (w3.heap.size + 2) Wd w4 from hw4.mono HD2.out); have SZ4 := Sd.mk (show w3.heap.size + 2 ≤ w4.heap.size from Nat.le_trans HD2.out hw4.size); have RO4 := Sd.mk (Kd.R_below RO.out hw4); have SL4 := Sd.mk (blk_below SL.out hw4); clear hw4; have gv4 : w4.cell? ⟨w.heap.size + 1 + 1, 0, none⟩ = some v := (blk_cell SL4.out 0).trans rfl; have gv5 : (w4.alloc (.cells #[.int .i64 p.1, .int .i64 p.2] 27)).cell? ⟨w.heap.size + 1 + 1, 0, none⟩ = some v := (blk_cell (blk_alloc SL4.out _) 0).trans rfl)
        refine wpAnyIn_ready (rs := [4]) (by kernel_rfl) (by simp) ?_
        refine AllReadyIn.cons rfl (fun K hK => ?_) ?_
        ·go_simp
         refine hK _ _ ?_
         clear hK K
         refine wpAnyIn_ready (rs := [5]) (by kernel_rfl) (by simp) ?_
         refine AllReadyIn.cons rfl (fun K hK => ?_) ?_
         ·refine stepI_R_append k27 (w0 := Wd) (W := w4) (w3.heap.size + 2) (by go_simp) _ _ 24 27 (.agg #[.int .i64 0, .int .i64 0]) 16 rfl Tryz.underlying24 info27 rfl (by decide) (by decide) v l' ⟨p.1, p.2⟩ [.int .i64 p.1, .int .i64 p.2] (fun _ => True) (fun _ => False) rfl rfl (k27_mkM _ _ _ _) (fun _ h => h.elim) (fun _ _ => trivial) RO4.out BW4.out SZ4.out (by rw [HL.out]; have := HN.out; have := HK.out; omega) ?_
          intro v1 w5 r5 b5
          obtain ⟨As, cs5, hv5⟩ := Kd.R_slice r5
          rw [List.length_append, List.length_singleton] at hv5
          subst hv5
          have R5 := Sd.mk r5
          have B5 := Sd.mk b5
          clear r5 b5
          have gs : w5.cell? ⟨w.heap.size + 1 + 1, 0, none⟩ = some v := (blk_cell (Below5 B5.out SL.out (by have := HG.out; have := HG3.out; omega)) 0).trans rfl
          have gs' := blk_frozen (Below5 B5.out SL.out (by have := HG.out; have := HG3.out; omega)) 0
          refine hK _ _ ?_
          clear hK K
          refine wpAnyIn_ready (rs := [6]) (by kernel_rfl) (by simp) ?_
          refine AllReadyIn.cons rfl (fun K hK => ?_) ?_
          ·go_simp
           refine hK _ _ ?_
           clear hK K
           refine wpAnyIn_done (by kernel_rfl) ?_ _
           exact fin { tmps := #[], defers := [] } _ _ R5.out B5.out
          exact AllReadyIn.nil
         exact AllReadyIn.nil
        exact AllReadyIn.nil
       exact AllReadyIn.nil
      exact AllReadyIn.nil
     exact AllReadyIn.nil
    refine AllReadyIn.cons rfl (fun K hK => ?_) ?_
    ·go_simp
     refine hK _ _ ?_
     clear hK K
     refine wpAnyIn_ready (rs := [0, 2]) (by kernel_rfl) (by simp) ?_
     refine AllReadyIn.cons rfl (fun K hK => ?_) ?_
     ·go_simp
      refine hK _ _ ?_
      clear hK K
      refine wpAnyIn_ready (rs := [2]) (by kernel_rfl) (by simp) ?_
      refine AllReadyIn.cons rfl (fun K hK => ?_) ?_
      ·go_simp
       refine hK _ _ ?_
       clear hK K
       refine wpAnyIn_ready (rs := [3]) (by kernel_rfl) (by simp) ?_
       refine AllReadyIn.cons rfl (fun K hK => ?_) ?_
       ·go_simp
        gi_wp2_with (refine ⟨trivial, ?_⟩; gi_at_call 156; refine (CallsIn.inRound l (callsIn_wide.2 (st_thickness.calls _ _ _ _ _ _ _ _ _ _ _ _ p.1 p.2 _ HP.out))).mono ?_; rintro e w4 ⟨rfl, hw4⟩; have BW4 := Sd.mk (show Below (w3.heap.size + 2) Wd w4 from hw4.mono HD2.out); have SZ4 := Sd.mk (show w3.heap.size + 2 ≤ w4.heap.size from Nat.le_trans HD2.out hw4.size); have RO4 := Sd.mk (Kd.R_below RO.out hw4); have SL4 := Sd.mk (blk_below SL.out hw4); clear hw4; have gv4 : w4.cell? ⟨w.heap.size + 1 + 1, 0, none⟩ = some v := (blk_cell SL4.out 0).trans rfl; have gv5 : (w4.alloc (.cells #[.int .i64 p.1, .int .i64 p.2] 27)).cell? ⟨w.heap.size + 1 + 1, 0, none⟩ = some v := (blk_cell (blk_alloc SL4.out _) 0).trans rfl)
        refine wpAnyIn_ready (rs := [4]) (by kernel_rfl) (by simp) ?_
        refine AllReadyIn.cons rfl (fun K hK => ?_) ?_
        ·go_simp
         refine hK _ _ ?_
         clear hK K
         refine wpAnyIn_ready (rs := [5]) (by kernel_rfl) (by simp) ?_
         refine AllReadyIn.cons rfl (fun K hK => ?_) ?_
         ·refine stepI_R_append k27 (w0 := Wd) (W := w4) (w3.heap.size + 2) (by go_simp) _ _ 24 27 (.agg #[.int .i64 0, .int .i64 0]) 16 rfl Tryz.underlying24 info27 rfl (by decide) (by decide) v l' ⟨p.1, p.2⟩ [.int .i64 p.1, .int .i64 p.2] (fun _ => True) (fun _ => False) rfl rfl (k27_mkM _ _ _ _) (fun _ h => h.elim) (fun _ _ => trivial) RO4.out BW4.out SZ4.out (by rw [HL.out]; have := HN.out; have := HK.out; omega) ?_
          intro v1 w5 r5 b5
          obtain ⟨As, cs5, hv5⟩ := Kd.R_slice r5
          rw [List.length_append, List.length_singleton] at hv5
          subst hv5
          have R5 := Sd.mk r5
          have B5 := Sd.mk b5
          clear r5 b5
          have gs : w5.cell? ⟨w.heap.size + 1 + 1, 0, none⟩ = some v := (blk_cell (Below5 B5.out SL.out (by have := HG.out; have := HG3.out; omega)) 0).trans rfl
          have gs' := blk_frozen (Below5 B5.out SL.out (by have := HG.out; have := HG3.out; omega)) 0
          refine hK _ _ ?_
          clear hK K
          refine wpAnyIn_ready (rs := [6]) (by kernel_rfl) (by simp) ?_
          refine AllReadyIn.cons rfl (fun K hK => ?_) ?_
          ·go_simp
           refine hK _ _ ?_
           clear hK K
           refine wpAnyIn_done (by kernel_rfl) ?_ _
           exact fin { tmps := #[], defers := [] } _ _ R5.out B5.out
          exact AllReadyIn.nil
         exact AllReadyIn.nil
        exact AllReadyIn.nil
       exact AllReadyIn.nil
      exact AllReadyIn.nil
     refine AllReadyIn.cons rfl (fun K hK => ?_) ?_
     ·go_simp
      refine hK _ _ ?_
      clear hK K
      refine wpAnyIn_ready (rs := [0, 3]) (by kernel_rfl) (by simp) ?_
      refine AllReadyIn.cons rfl (fun K hK => ?_) ?_
      ·go_simp
       refine hK _ _ ?_
       clear hK K
       refine wpAnyIn_ready (rs := [3]) (by kernel_rfl) (by simp) ?_
       refine AllReadyIn.cons rfl (fun K hK => ?_) ?_
       ·go_simp
        gi_wp2_with (refine ⟨trivial, ?_⟩; gi_at_call 156; refine (CallsIn.inRound l (callsIn_wide.2 (st_thickness.calls _ _ _ _ _ _ _ _ _ _ _ _ p.1 p.2 _ HP.out))).mono ?_; rintro e w4 ⟨rfl, hw4⟩; have BW4 := Sd.mk (show Below (w3.heap.size + 2) Wd w4 from hw4.mono HD2.out); have SZ4 := Sd.mk (show w3.heap.size + 2 ≤ w4.heap.size from Nat.le_trans HD2.out hw4.size); have RO4 := Sd.mk (Kd.R_below RO.out hw4); have SL4 := Sd.mk (blk_below SL.out hw4); clear hw4; have gv4 : w4.cell? ⟨w.heap.size + 1 + 1, 0, none⟩ = some v := (blk_cell SL4.out 0).trans rfl; have gv5 : (w4.alloc (.cells #[.int .i64 p.1, .int .i64 p.2] 27)).cell? ⟨w.heap.size + 1 + 1, 0, none⟩ = some v := (blk_cell (blk_alloc SL4.out _) 0).trans rfl)
        refine wpAnyIn_ready (rs := [4]) (by kernel_rfl) (by simp) ?_
        refine AllReadyIn.cons rfl (fun K hK => ?_) ?_
        ·go_simp
         refine hK _ _ ?_
         clear hK K
         refine wpAnyIn_ready (rs := [5]) (by kernel_rfl) (by simp) ?_
         refine AllReadyIn.cons rfl (fun K hK => ?_) ?_
         ·refine stepI_R_append k27 (w0 := Wd) (W := w4) (w3.heap.size + 2) (by go_simp) _ _ 24 27 (.agg #[.int .i64 0, .int .i64 0]) 16 rfl Tryz.underlying24 info27 rfl (by decide) (by decide) v l' ⟨p.1, p.2⟩ [.int .i64 p.1, .int .i64 p.2] (fun _ => True) (fun _ => False) rfl rfl (k27_mkM _ _ _ _) (fun _ h => h.elim) (fun _ _ => trivial) RO4.out BW4.out SZ4.out (by rw [HL.out]; have := HN.out; have := HK.out; omega) ?_
          intro v1 w5 r5 b5
          obtain ⟨As, cs5, hv5⟩ := Kd.R_slice r5
          rw [List.length_append, List.length_singleton] at hv5
          subst hv5
          have R5 := Sd.mk r5
          have B5 := Sd.mk b5
          clear r5 b5
          have gs : w5.cell? ⟨w.heap.size + 1 + 1, 0, none⟩ = some v := (blk_cell (Below5 B5.out SL.out (by have := HG.out; have := HG3.out; omega)) 0).trans rfl
          have gs' := blk_frozen (Below5 B5.out SL.out (by have := HG.out; have := HG3.out; omega)) 0
          refine hK _ _ ?_
          clear hK K
          refine wpAnyIn_ready (rs := [6]) (by kernel_rfl) (by simp) ?_
          refine AllReadyIn.cons rfl (fun K hK => ?_) ?_
          ·go_simp
           refine hK _ _ ?_
           clear hK K
           refine wpAnyIn_done (by kernel_rfl) ?_ _
           exact fin { tmps := #[], defers := [] } _ _ R5.out B5.out
          exact AllReadyIn.nil
         exact AllReadyIn.nil
        exact AllReadyIn.nil
       exact AllReadyIn.nil
      refine AllReadyIn.cons rfl (fun K hK => ?_) ?_
      ·go_simp
       gi_wp2_with (refine ⟨trivial, ?_⟩; gi_at_call 156; refine (CallsIn.inRound l (callsIn_wide.2 (st_thickness.calls _ _ _ _ _ _ _ _ _ _ _ _ p.1 p.2 _ HP.out))).mono ?_; rintro e w4 ⟨rfl, hw4⟩; have BW4 := Sd.mk (show Below (w3.heap.size + 2) Wd w4 from hw4.mono HD2.out); have SZ4 := Sd.mk (show w3.heap.size + 2 ≤ w4.heap.size from Nat.le_trans HD2.out hw4.size); have RO4 := Sd.mk (Kd.R_below RO.out hw4); have SL4 := Sd.mk (blk_below SL.out hw4); clear hw4; have gv4 : w4.cell? ⟨w.heap.size + 1 + 1, 0, none⟩ = some v := (blk_cell SL4.out 0).trans rfl; have gv5 : (w4.alloc (.cells #[.int .i64 p.1, .int .i64 p.2] 27)).cell? ⟨w.heap.size + 1 + 1, 0, none⟩ = some v := (blk_cell (blk_alloc SL4.out _) 0).trans rfl)
       refine wpAnyIn_ready (rs := [0, 4]) (by kernel_rfl) (by simp) ?_
       refine AllReadyIn.cons rfl (fun K hK => ?_) ?_
       ·go_simp
        refine hK _ _ ?_
        clear hK K
        refine wpAnyIn_ready (rs := [4]) (by kernel_rfl) (by simp) ?_
        refine AllReadyIn.cons rfl (fun K hK => ?_) ?_
        ·go_simp
         refine hK _ _ ?_
         clear hK K
         refine wpAnyIn_ready (rs := [5]) (by kernel_rfl) (by simp) ?_
         refine AllReadyIn.cons rfl (fun K hK => ?_) ?_
         ·refine stepI_R_append k27 (w0 := Wd) (W := w4) (w3.heap.size + 2) (by go_simp) _ _ 24 27 (.agg #[.int .i64 0, .int .i64 0]) 16 rfl Tryz.underlying24 info27 rfl (by decide) (by decide) v l' ⟨p.1, p.2⟩ [.int .i64 p.1, .int .i64 p.2] (fun _ => True) (fun _ => False) rfl rfl (k27_mkM _ _ _ _) (fun _ h => h.elim) (fun _ _ => trivial) RO4.out BW4.out SZ4.out (by rw [HL.out]; have := HN.out; have := HK.out; omega) ?_
          intro v1 w5 r5 b5
          obtain ⟨As, cs5, hv5⟩ := Kd.R_slice r5
          rw [List.length_append, List.length_singleton] at hv5
          subst hv5
          have R5 := Sd.mk r5
          have B5 := Sd.mk b5
          clear r5 b5
          have gs : w5.cell? ⟨w.heap.size + 1 + 1, 0, none⟩ = some v := (blk_cell (Below5 B5.out SL.out (by have := HG.out; have := HG3.out; omega)) 0).trans rfl
          have gs' := blk_frozen (Below5 B5.out SL.out (by have := HG.out; have := HG3.out; omega)) 0
          refine hK _ _ ?_
          clear hK K
          refine wpAnyIn_ready (rs := [6]) (by kernel_rfl) (by simp) ?_
          refine AllReadyIn.cons rfl (fun K hK => ?_) ?_
          ·go_simp
           refine hK _ _ ?_
           clear hK K
           refine wpAnyIn_done (by kernel_rfl) ?_ _
           exact fin { tmps := #[], defers := [] } _ _ R5.out B5.out
          exact AllReadyIn.nil
         exact AllReadyIn.nil
        exact AllReadyIn.nil
       refine AllReadyIn.cons rfl (fun K hK => ?_) ?_
       ·go_simp
        refine hK _ _ ?_
        clear hK K
        refine wpAnyIn_ready (rs := [0]) (by kernel_rfl) (by simp) ?_
        refine AllReadyIn.cons rfl (fun K hK => ?_) ?_
        ·go_simp
         refine hK _ _ ?_
         clear hK K
         refine wpAnyIn_ready (rs := [5]) (by kernel_rfl) (by simp) ?_
         refine AllReadyIn.cons rfl (fun K hK => ?_) ?_
         ·refine stepI_R_append k27 (w0 := Wd) (W := w4) (w3.heap.size + 2) (by go_simp) _ _ 24 27 (.agg #[.int .i64 0, .int .i64 0]) 16 rfl Tryz.underlying24 info27 rfl (by decide) (by decide) v l' ⟨p.1, p.2⟩ [.int .i64 p.1, .int .i64 p.2] (fun _ => True) (fun _ => False) rfl rfl (k27_mkM _ _ _ _) (fun _ h => h.elim) (fun _ _ => trivial) RO4.out BW4.out SZ4.out (by rw [HL.out]; have := HN.out; have := HK.out; omega) ?_
          intro v1 w5 r5 b5
          obtain ⟨As, cs5, hv5⟩ := Kd.R_slice r5
          rw [List.length_append, List.length_singleton] at hv5
          subst hv5
          have R5 := Sd.mk r5
          have B5 := Sd.mk b5
          clear r5 b5
          have gs : w5.cell? ⟨w.heap.size + 1 + 1, 0, none⟩ = some v := (blk_cell (Below5 B5.out SL.out (by have := HG.out; have := HG3.out; omega)) 0).trans rfl
          have gs' := blk_frozen (Below5 B5.out SL.out (by have := HG.out; have := HG3.out; omega)) 0
          refine hK _ _ ?_
          clear hK K
          refine wpAnyIn_ready (rs := [6]) (by kernel_rfl) (by simp) ?_
          refine AllReadyIn.cons rfl (fun K hK => ?_) ?_
          ·go_simp
           refine hK _ _ ?_
           clear hK K
           refine wpAnyIn_done (by kernel_rfl) ?_ _
           exact fin { tmps := #[], defers := [] } _ _ R5.out B5.out
          exact AllReadyIn.nil
         exact AllReadyIn.nil
        exact AllReadyIn.nil
       exact AllReadyIn.nil
      exact AllReadyIn.nil
     exact AllReadyIn.nil
    refine AllReadyIn.cons rfl (fun K hK => ?_) ?_
    ·go_simp
     refine hK _ _ ?_
     clear hK K
     refine wpAnyIn_ready (rs := [0, 1]) (by kernel_rfl) (by simp) ?_
     refine AllReadyIn.cons rfl (fun K hK => ?_) ?_
     ·go_simp
      refine hK _ _ ?_
      clear hK K
      refine wpAnyIn_ready (rs := [1]) (by kernel_rfl) (by simp) ?_
      refine AllReadyIn.cons rfl (fun K hK => ?_) ?_
      ·go_simp
       refine hK _ _ ?_
       clear hK K
       refine wpAnyIn_ready (rs := [3]) (by kernel_rfl) (by simp) ?_
       refine AllReadyIn.cons rfl (fun K hK => ?_) ?_
       ·go_simp
        gi_wp2_with (refine ⟨trivial, ?_⟩; gi_at_call 156; refine (CallsIn.inRound l (callsIn_wide.2 (st_thickness.calls _ _ _ _ _ _ _ _ _ _ _ _ p.1 p.2 _ HP.out))).mono ?_; rintro e w4 ⟨rfl, hw4⟩; have BW4 := Sd.mk (show Below (w3.heap.size + 2) Wd w4 from hw4.mono HD2.out); have SZ4 := Sd.mk (show w3.heap.size + 2 ≤ w4.heap.size from Nat.le_trans HD2.out hw4.size); have RO4 := Sd.mk (Kd.R_below RO.out hw4); have SL4 := Sd.mk (blk_below SL.out hw4); clear hw4; have gv4 : w4.cell? ⟨w.heap.size + 1 + 1, 0, none⟩ = some v := (blk_cell SL4.out 0).trans rfl; have gv5 : (w4.alloc (.cells #[.int .i64 p.1, .int .i64 p.2] 27)).cell? ⟨w.heap.size + 1 + 1, 0, none⟩ = some v := (blk_cell (blk_alloc SL4.out _) 0).trans rfl)
        refine wpAnyIn_ready (rs := [4]) (by kernel_rfl) (by simp) ?_
        refine AllReadyIn.cons rfl (fun K hK => ?_) ?_
        ·go_simp
         refine hK _ _ ?_
         clear hK K
         refine wpAnyIn_ready (rs := [5]) (by kernel_rfl) (by simp) ?_
         refine AllReadyIn.cons rfl (fun K hK => ?_) ?_
         ·refine stepI_R_append k27 (w0 := Wd) (W := w4) (w3.heap.size + 2) (by go_simp) _ _ 24 27 (.agg #[.int .i64 0, .int .i64 0]) 16 rfl Tryz.underlying24 info27 rfl (by decide) (by decide) v l' ⟨p.1, p.2⟩ [.int .i64 p.1, .int .i64 p.2] (fun _ => True) (fun _ => False) rfl rfl (k27_mkM _ _ _ _) (fun _ h => h.elim) (fun _ _ => trivial) RO4.out BW4.out SZ4.out (by rw [HL.out]; have := HN.out; have := HK.out; omega) ?_
          intro v1 w5 r5 b5
          obtain ⟨As, cs5, hv5⟩ := Kd.R_slice r5
          rw [List.length_append, List.length_singleton] at hv5
          subst hv5
          have R5 := Sd.mk r5
          have B5 := Sd.mk b5
          clear r5 b5
          have gs : w5.cell? ⟨w.heap.size + 1 + 1, 0, none⟩ = some v := (blk_cell (Below5 B5.out SL.out (by have := HG.out; have := HG3.out; omega)) 0).trans rfl
          have gs' := blk_frozen (Below5 B5.out SL.out (by have := HG.out; have := HG3.out; omega)) 0
          refine hK _ _ ?_
          clear hK K
          refine wpAnyIn_ready (rs := [6]) (by kernel_rfl) (by simp) ?_
          refine AllReadyIn.cons rfl (fun K hK => ?_) ?_
          ·go_simp
           refine hK _ _ ?_
           clear hK K
           refine wpAnyIn_done (by kernel_rfl) ?_ _
           exact fin { tmps := #[], defers := [] } _ _ R5.out B5.out
          exact AllReadyIn.nil
         exact AllReadyIn.nil
        exact AllReadyIn.nil
       exact AllReadyIn.nil
      exact AllReadyIn.nil
     refine AllReadyIn.cons rfl (fun K hK => ?_) ?_
     ·go_simp
      refine hK _ _ ?_
      clear hK K
      refine wpAnyIn_ready (rs := [0, 3]) (by kernel_rfl) (by simp) ?_
      refine AllReadyIn.cons rfl (fun K hK => ?_) ?_
      ·go_simp
       refine hK _ _ ?_
       clear hK K
       refine wpAnyIn_ready (rs := [3]) (by kernel_rfl) (by simp) ?_
       refine AllReadyIn.cons rfl (fun K hK => ?_) ?_
       ·go_simp
        gi_wp2_with (refine ⟨trivial, ?_⟩; gi_at_call 156; refine (CallsIn.inRound l (callsIn_wide.2 (st_thickness.calls _ _ _ _ _ _ _ _ _ _ _ _ p.1 p.2 _ HP.out))).mono ?_; rintro e w4 ⟨rfl, hw4⟩; have BW4 := Sd.mk (show Below (w3.heap.size + 2) Wd w4 from hw4.mono HD2.out); have SZ4 := Sd.mk (show w3.heap.size + 2 ≤ w4.heap.size from Nat.le_trans HD2.out hw4.size); have RO4 := Sd.mk (Kd.R_below RO.out hw4); have SL4 := Sd.mk (blk_below SL.out hw4); clear hw4; have gv4 : w4.cell? ⟨w.heap.size + 1 + 1, 0, none⟩ = some v := (blk_cell SL4.out 0).trans rfl; have gv5 : (w4.alloc (.cells #[.int .i64 p.1, .int .i64 p.2] 27)).cell? ⟨w.heap.size + 1 + 1, 0, none⟩ = some v := (blk_cell (blk_alloc SL4.out _) 0).trans rfl)
        refine wpAnyIn_ready (rs := [4]) (by kernel_rfl) (by simp) ?_
        refine AllReadyIn.cons rfl (fun K hK => ?_) ?_
        ·go_simp
         refine hK _ _ ?_
         clear hK K
         refine wpAnyIn_ready (rs := [5]) (by kernel_rfl) (by simp) ?_
         refine AllReadyIn.cons rfl (fun K hK => ?_) ?_
         ·refine stepI_R_append k27 (w0 := Wd) (W := w4) (w3.heap.size + 2) (by go_simp) _ _ 24 27 (.agg #[.int .i64 0, .int .i64 0]) 16 rfl Tryz.underlying24 info27 rfl (by decide) (by decide) v l' ⟨p.1, p.2⟩ [.int .i64 p.1, .int .i64 p.2] (fun _ => True) (fun _ => False) rfl rfl (k27_mkM _ _ _ _) (fun _ h => h.elim) (fun _ _ => trivial) RO4.out BW4.out SZ4.out (by rw [HL.out]; have := HN.out; have := HK.out; omega) ?_
          intro v1 w5 r5 b5
          obtain ⟨As, cs5, hv5⟩ := Kd.R_slice r5
          rw [List.length_append, List.length_singleton] at hv5
          subst hv5
          have R5 := Sd.mk r5
          have B5 := Sd.mk b5
          clear r5 b5
          have gs : w5.cell? ⟨w.heap.size + 1 + 1, 0, none⟩ = some v := (blk_cell (Below5 B5.out SL.out (by have := HG.out; have := HG3.out; omega)) 0).trans rfl
          have gs' := blk_frozen (Below5 B5.out SL.out (by have := HG.out; have := HG3.out; omega)) 0
          refine hK _ _ ?_
          clear hK K
          refine wpAnyIn_ready (rs := [6]) (by kernel_rfl) (by simp) ?_
          refine AllReadyIn.cons rfl (fun K hK => ?_) ?_
          ·go_simp
           refine hK _ _ ?_
           clear hK K
           refine wpAnyIn_done (by kernel_rfl) ?_ _
           exact fin { tmps := #[], defers := [] } _ _ R5.out B5.out
          exact AllReadyIn.nil
         exact AllReadyIn.nil
        exact AllReadyIn.nil
       exact AllReadyIn.nil
      refine AllReadyIn.cons rfl (fun K hK => ?_) ?_
      ·go_simp
       gi_wp2_with (refine ⟨trivial, ?_⟩; gi_at_call 156; refine (CallsIn.inRound l (callsIn_wide.2 (st_thickness.calls _ _ _ _ _ _ _ _ _ _ _ _ p.1 p.2 _ HP.out))).mono ?_; rintro e w4 ⟨rfl, hw4⟩; have BW4 := Sd.mk (show Below (w3.heap.size + 2) Wd w4 from hw4.mono HD2.out); have SZ4 := Sd.mk (show w3.heap.size + 2 ≤ w4.heap.size from Nat.le_trans HD2.out hw4.size); have RO4 := Sd.mk (Kd.R_below RO.out hw4); have SL4 := Sd.mk (blk_below SL.out hw4); clear hw4; have gv4 : w4.cell? ⟨w.heap.size + 1 + 1, 0, none⟩ = some v := (blk_cell SL4.out 0).trans rfl; have gv5 : (w4.alloc (.cells #[.int .i64 p.1, .int .i64 p.2] 27)).cell? ⟨w.heap.size + 1 + 1, 0, none⟩ = some v := (blk_cell (blk_alloc SL4.out _) 0).trans rfl)
       refine wpAnyIn_ready (rs := [0, 4]) (by kernel_rfl) (by simp) ?_
       refine AllReadyIn.cons rfl (fun K hK => ?_) ?_
       ·go_simp
        refine hK _ _ ?_
        clear hK K
        refine wpAnyIn_ready (rs := [4]) (by kernel_rfl) (by simp) ?_
        refine AllReadyIn.cons rfl (fun K hK => ?_) ?_
        ·go_simp
         refine hK _ _ ?_
         clear hK K
         refine wpAnyIn_ready (rs := [5]) (by kernel_rfl) (by simp) ?_
         refine AllReadyIn.cons rfl (fun K hK => ?_) ?_
         ·refine stepI_R_append k27 (w0 := Wd) (W := w4) (w3.heap.size + 2) (by go_simp) _ _ 24 27 (.agg #[.int .i64 0, .int .i64 0]) 16 rfl Tryz.underlying24 info27 rfl (by decide) (by decide) v l' ⟨p.1, p.2⟩ [.int .i64 p.1, .int .i64 p.2] (fun _ => True) (fun _ => False) rfl rfl (k27_mkM _ _ _ _) (fun _ h => h.elim) (fun _ _ => trivial) RO4.out BW4.out SZ4.out (by rw [HL.out]; have := HN.out; have := HK.out; omega) ?_
          intro v1 w5 r5 b5
          obtain ⟨As, cs5, hv5⟩ := Kd.R_slice r5
          rw [List.length_append, List.length_singleton] at hv5
          subst hv5
          have R5 := Sd.mk r5
          have B5 := Sd.mk b5
          clear r5 b5
          have gs : w5.cell? ⟨w.heap.size + 1 + 1, 0, none⟩ = some v := (blk_cell (Below5 B5.out SL.out (by have := HG.out; have := HG3.out; omega)) 0).trans rfl
          have gs' := blk_frozen (Below5 B5.out SL.out (by have := HG.out; have := HG3.out; omega)) 0
          refine hK _ _ ?_
          clear hK K
          refine wpAnyIn_ready (rs := [6]) (by kernel_rfl) (by simp) ?_
          refine AllReadyIn.cons rfl (fun K hK => ?_) ?_
          ·go_simp
           refine hK _ _ ?_
           clear hK K
           refine wpAnyIn_done (by kernel_rfl) ?_ _
           exact fin { tmps := #[], defers := [] } _ _ R5.out B5.out
          exact AllReadyIn.nil
         exact AllReadyIn.nil
        exact AllReadyIn.nil
       refine AllReadyIn.cons rfl (fun K hK => ?_) ?_
       ·go_simp
        refine hK _ _ ?_
        clear hK K
        refine wpAnyIn_ready (rs := [0]) (by kernel_rfl) (by simp) ?_
        refine AllReadyIn.cons rfl (fun K hK => ?_) ?_
        ·go_simp
         refine hK _ _ ?_
         clear hK K
         refine wpAnyIn_ready (rs := [5]) (by kernel_rfl) (by simp) ?_
         refine AllReadyIn.cons rfl (fun K hK => ?_) ?_
         ·refine stepI_R_append k27 (w0 := Wd) (W := w4) (w3.heap.size + 2) (by go_simp) _ _ 24 27 (.agg #[.int .i64 0, .int .i64 0]) 16 rfl Tryz.underlying24 info27 rfl (by decide) (by decide) v l' ⟨p.1, p.2⟩ [.int .i64 p.1, .int .i64 p.2] (fun _ => True) (fun _ => False) rfl rfl (k27_mkM _ _ _ _) (fun _ h => h.elim) (fun _ _ => trivial) RO4.out BW4.out SZ4.out (by rw [HL.out]; have := HN.out; have := HK.out; omega) ?_
          intro v1 w5 r5 b5
          obtain ⟨As, cs5, hv5⟩ := Kd.R_slice r5
          rw [List.length_append, List.length_singleton] at hv5
          subst hv5
          have R5 := Sd.mk r5
          have B5 := Sd.mk b5
          clear r5 b5
          have gs : w5.cell? ⟨w.heap.size + 1 + 1, 0, none⟩ = some v := (blk_cell (Below5 B5.out SL.out (by have := HG.out; have := HG3.out; omega)) 0).trans rfl
          have gs' := blk_frozen (Below5 B5.out SL.out (by have := HG.out; have := HG3.out; omega)) 0
          refine hK _ _ ?_
          clear hK K
          refine wpAnyIn_ready (rs := [6]) (by kernel_rfl) (by simp) ?_
          refine AllReadyIn.cons rfl (fun K hK => ?_) ?_
          ·go_simp
           refine hK _ _ ?_
           clear hK K
           refine wpAnyIn_done (by kernel_rfl) ?_ _
           exact fin { tmps := #[], defers := [] } _ _ R5.out B5.out
          exact AllReadyIn.nil
         exact AllReadyIn.nil
        exact AllReadyIn.nil
       exact AllReadyIn.nil
      exact AllReadyIn.nil
     exact AllReadyIn.nil
    exact AllReadyIn.nil
   case fn => intro ⟨_, _, h⟩; exact h.elim
   case panic => intro _ _ h; exact h.elim
   case done =>
    intro W hI hD
    obtain ⟨v, l9, hI⟩ := hI
    have hll' := hI.li
    rw [HL.out] at hll'
    have e9 := Option.some.inj hll'
    subst e9
    have HI2 := Sd.mk hI
    have HD := Sd.mk hD
    obtain ⟨As, cs5, rfl⟩ := Kd.R_slice hI.ro
    have gv : W.cell? ⟨w.heap.size + 1 + 1, 0, none⟩ = some (.slice As l.length cs5) := (blk_cell hI.sl 0).trans rfl
    have gv' := blk_frozen hI.sl 0
    have ge : (W.setCell ⟨w.heap.size + 1 + 1, 0, none⟩ (.slice As l.length cs5)).cell? ⟨w.heap.size + 1 + 1 + 1, 0, none⟩ = some (.int .i64 0) := (blk_cell (blk_far hI.er (p := ⟨w.heap.size + 1 + 1, 0, none⟩) (by simp) _) 0).trans rfl
    have ge' := blk_frozen (blk_far hI.er (p := ⟨w.heap.size + 1 + 1, 0, none⟩) (by simp) (.slice As l.length cs5)) 0
    clear hI hD BX3 BS3 BL3 BE3 RB3 HB3 BX1 BS1 BL1 BE1 HB1 BL2 BE2 HB2 HB BX BS BL BE
    gi_wp2
    have hg1 := HG.out
    have hg2 := HG3.out
    have hi2 := HI2.out
    refine ⟨by simp, .inl ⟨_, _, rfl, run_takeDeferred ((Below.heap_setCell _ _ _ _ (by simp; omega)).trans ((Below.heap_setCell _ _ _ _ (by simp; omega)).trans HD.out)), ?_⟩⟩
    refine leavesInM_fn (f := 154) (args := #[.pointer (some ⟨w.heap.size + 1 + 1 + 1, 0, none⟩)]) (by simp) (by simp [go_sem]) ?_
    refine (door139I_ok _ _ _).mono ?_
    rintro e u' w'' ⟨rfl, rfl, rfl⟩
    have hlt : w3.heap.size < W.heap.size := (Array.getElem?_eq_some_iff.1 HD.out).1
    refine ⟨_, results_ce rfl _ _ (w.heap.size + 1 + 1) (w.heap.size + 1 + 1 + 1) _ _ rfl (run_var24 _ _ _ (putObj_heap_keep (by omega) (blk_far (blk_put hi2.sl 0 _ rfl) (p := ⟨w.heap.size + 1 + 1 + 1, 0, none⟩) (by simp) _))) rfl (putObj_heap_keep (by omega) (blk_put (blk_far hi2.er (p := ⟨w.heap.size + 1 + 1, 0, none⟩) (by simp) _) 0 _ rfl)), _, rfl, ?_, below_putObj (below_set (below_set hi2.be (by omega)) (by omega)) (by omega) (by simpa using hlt)⟩
    exact Kd.R_lower (R_put (Kd.R_set (Kd.R_set hi2.ro hi2.sl (by simp [k27_E]) 0 _) (blk_far hi2.er (p := ⟨w.heap.size + 1 + 1, 0, none⟩) (by simp) _) (by simp [k27_E]) 0 _) (by omega) _) (by omega)
  | false =>
   rw [if_neg (by rw [hi']; simp)] at h
   simp only [Option.some.injEq, Prod.mk.injEq] at h
   obtain ⟨rfl, rfl⟩ := h
   have HI := Sd.mk hi'
   clear hi'
   refine (callsIn_wide (n := 9)).1 (callsIn_of_wp_marks Tryz.func61 rfl trivial ?_ rfl)
   simp only [Tryz.ntmps61, List.size_toArray, List.length_cons, List.length_nil, Nat.reduceAdd, Nat.reduceSub, Array.replicate_succ, Array.replicate_zero, List.push_toArray, List.append_toArray, List.nil_append, List.cons_append]
   gi_wp2_with (first | (refine ⟨trivial, ?_⟩; gi_at_call 120; refine (callsIn_wide.2 (bottle_ok A c zs f1 f2 _ HR.out H0.out)).mono ?_; rintro e w1 ⟨rfl, hw1⟩; have BX1 := Sd.mk (blk_below BX.out hw1); have BS1 := Sd.mk (blk_below BS.out hw1); have BL1 := Sd.mk (blk_below BL.out hw1); have BE1 := Sd.mk (blk_below BE.out hw1); have HB1 := Sd.mk (below_then HB.out (by have := HSZ.out; omega) hw1); have HSZ1 := Sd.mk (show w.heap.size + 4 ≤ w1.heap.size from Nat.le_trans (by have := HSZ.out; omega) hw1.size); clear hw1; have ht0 : w1.cell? ⟨w.heap.size + 1, 0, none⟩ = some (.int .i64 lo) := (blk_cell BS1.out 0).trans rfl; have ht1 : w1.cell? ⟨w.heap.size + 1, 0 + 1, none⟩ = some (.int .i64 hi) := (blk_cell BS1.out 1).trans rfl; have hb0 : w1.cell? ⟨w.heap.size, 0, none⟩ = some (.slice A zs.length c) := (blk_cell BX1.out 0).trans rfl; have hb1 : w1.cell? ⟨w.heap.size, 0 + 1, none⟩ = some (.int .i64 f1) := (blk_cell BX1.out 1).trans rfl; have hb2 : w1.cell? ⟨w.heap.size, 0 + 2, none⟩ = some (.int .i64 f2) := (blk_cell BX1.out 2).trans rfl) | (refine ⟨trivial, ?_⟩; gi_at_call 155; refine (callsIn_wide.2 (sspan_f _ _ _ _ _)).mono ?_; rw [HI.out]; rintro e w2 ⟨rfl, hw2⟩; have BX2 := BX1; have BS2 := BS1; clear BX1 BS1; have BX1 := Sd.mk (blk_below BX2.out hw2); have BS1 := Sd.mk (blk_below BS2.out hw2); have BL2 := Sd.mk (blk_below BL1.out hw2); have BE2 := Sd.mk (blk_below BE1.out hw2); have HB2 := Sd.mk (below_then HB1.out HB1.out.size hw2); have HSZ2 := Sd.mk (show w.heap.size + 4 ≤ w2.heap.size from Nat.le_trans HSZ1.out hw2.size); clear BX2 BS2 hw2; have hb0 : w2.cell? ⟨w.heap.size, 0, none⟩ = some (.slice A zs.length c) := (blk_cell BX1.out 0).trans rfl; have hb1 : w2.cell? ⟨w.heap.size, 0 + 1, none⟩ = some (.int .i64 f1) := (blk_cell BX1.out 1).trans rfl; have hb2 : w2.cell? ⟨w.heap.size, 0 + 2, none⟩ = some (.int .i64 f2) := (blk_cell BX1.out 2).trans rfl) | (refine ⟨trivial, ?_⟩; gi_at_call 65; (with_reducible refine (callsIn_wide.2 (demand_no _ _)).mono ?_); rintro e w' ⟨rfl, rfl⟩))
   refine leavesInM_fn (f := 154) (args := #[.pointer (some ⟨w.heap.size + 1 + 1 + 1, 0, none⟩)]) (by simp) (by simp [go_sem]) ?_
   refine (door139I_fail _ _ _ 0 [] _ BE2.out).mono ?_
   rintro e u' w'' ⟨rfl, rfl, rfl⟩
   exact ⟨_, results_ce rfl _ _ (w.heap.size + 1 + 1) (w.heap.size + 1 + 1 + 1) _ _ rfl (run_var24 _ _ _ (blk_far (blk_alloc BL2.out _) (p := ⟨w.heap.size + 1 + 1 + 1, 0, none⟩) (by simp) _)) rfl (blk_put (blk_alloc BE2.out _) 0 _ rfl), _, rfl, Kd.R_nil _ _ _ _ _, below_set (below_alloc HB2.out _) (by omega)⟩
 ·rw [if_neg h0] at h
  simp only [Option.some.injEq, Prod.mk.injEq] at h
  obtain ⟨rfl, rfl⟩ := h
  have H0 := Sd.mk h0
  clear h0
  refine (callsIn_wide (n := 9)).1 (callsIn_of_wp_marks Tryz.func61 rfl trivial ?_ rfl)
  simp only [Tryz.ntmps61, List.size_toArray, List.length_cons, List.length_nil, Nat.reduceAdd, Nat.reduceSub, Array.replicate_succ, Array.replicate_zero, List.push_toArray, List.append_toArray, List.nil_append, List.cons_append]
  gi_wp2_with (first | (refine ⟨trivial, ?_⟩; gi_at_call 120; refine (callsIn_wide.2 (bottle_no A c zs f1 f2 _ HR.out H0.out)).mono ?_; rintro e w1 ⟨rfl, hw1⟩; have BX1 := Sd.mk (blk_below BX.out hw1); have BS1 := Sd.mk (blk_below BS.out hw1); have BL1 := Sd.mk (blk_below BL.out hw1); have BE1 := Sd.mk (blk_below BE.out hw1); have HB1 := Sd.mk (below_then HB.out (by have := HSZ.out; omega) hw1); have HSZ1 := Sd.mk (show w.heap.size + 4 ≤ w1.heap.size from Nat.le_trans (by have := HSZ.out; omega) hw1.size); clear hw1; have ht0 : w1.cell? ⟨w.heap.size + 1, 0, none⟩ = some (.int .i64 lo) := (blk_cell BS1.out 0).trans rfl; have ht1 : w1.cell? ⟨w.heap.size + 1, 0 + 1, none⟩ = some (.int .i64 hi) := (blk_cell BS1.out 1).trans rfl; have hb0 : w1.cell? ⟨w.heap.size, 0, none⟩ = some (.slice A zs.length c) := (blk_cell BX1.out 0).trans rfl; have hb1 : w1.cell? ⟨w.heap.size, 0 + 1, none⟩ = some (.int .i64 f1) := (blk_cell BX1.out 1).trans rfl; have hb2 : w1.cell? ⟨w.heap.size, 0 + 2, none⟩ = some (.int .i64 f2) := (blk_cell BX1.out 2).trans rfl))
  refine leavesInM_fn (f := 154) (args := #[.pointer (some ⟨w.heap.size + 1 + 1 + 1, 0, none⟩)]) (by simp) (by simp [go_sem]) ?_
  refine (door139I_fail _ _ _ 0 [] _ BE1.out).mono ?_
  rintro e u' w'' ⟨rfl, rfl, rfl⟩
  exact ⟨_, results_ce rfl _ _ (w.heap.size + 1 + 1) (w.heap.size + 1 + 1 + 1) _ _ rfl (run_var24 _ _ _ (blk_far (blk_alloc BL1.out _) (p := ⟨w.heap.size + 1 + 1 + 1, 0, none⟩) (by simp) _)) rfl (blk_put (blk_alloc BE1.out _) 0 _ rfl), _, rfl, Kd.R_nil _ _ _ _ _, below_set (below_alloc HB1.out _) (by omega)⟩
end
section
open Go.RowKit Go.Proofs.YtljfljekcpdpiaaGreatW.PrintWords Go.Proofs.YtljfljekcpdpiaaGreatW.PrintLast Go.Proofs.YtljfljekcpdpiaaGreatW.PrintMore
attribute [local go_sem] max2_int min2_int max_two min_two max_three min_three max_four min_four
def l5_lives.f (k : Nat)  : Option (Bool) := (l5_Example.f).bind fun bt365 => ((x_Thickness.f bt365.1 bt365.2.1 bt365.2.2 1000 1000).bind fun bt370 => (if bt370.2 = 0 then ((lw_SameSpans.f k bt370.1 (([(⟨212, 213⟩ : S27)] : List (S27)))).bind fun t377 => (some t377)) else (some false)))
theorem l5_lives.mono : ∀ k, LeO (l5_lives.f k ) (l5_lives.f (k + 1) ) := by
  intro  k
  unfold l5_lives.f
  repeat' first
      | (with_reducible exact lw_SameSpans.mono _ _ _)
      | (with_reducible exact LeO.refl _)
      | (with_reducible exact LeO.none _)
      | (with_reducible refine LeO.ite ?_ ?_)
      | (with_reducible refine LeO.bind ?_ (fun _ => ?_))
      | exact lw_SameSpans.mono _ _ _
      | exact LeO.none _
      | refine LeO.ite ?_ ?_
      | refine LeO.bind ?_ (fun _ => ?_)
theorem l5_lives.calls (k : Nat)  (r : Bool) (w : World) (h : l5_lives.f k  = some r) :
    Calls Tryz.prog 20 #[] w fun e w' => e = .returned (.bool r) ∧ Below w.heap.size w w' := by
  have hu27 := Tryz.underlying27
  have HB := Sd.mk (Below.refl w.heap.size w)
  have H : ((l5_Example.f).bind fun bt365 => ((x_Thickness.f bt365.1 bt365.2.1 bt365.2.2 1000 1000).bind fun bt370 => (if bt370.2 = 0 then ((lw_SameSpans.f k bt370.1 (([(⟨212, 213⟩ : S27)] : List (S27)))).bind fun t377 => (some t377)) else (some false)))) = some r := h
  clear h
  replace H := Option.bind_eq_some_iff.mp H
  obtain ⟨⟨t365, t368, t369⟩, A10, H⟩ := H
  replace H : ((x_Thickness.f t365 t368 t369 1000 1000).bind fun bt370 => (if bt370.2 = 0 then ((lw_SameSpans.f k bt370.1 (([(⟨212, 213⟩ : S27)] : List (S27)))).bind fun t377 => (some t377)) else (some false))) = some r := H
  have A1 := Sd.mk A10
  clear A10
  replace H := Option.bind_eq_some_iff.mp H
  obtain ⟨⟨t370, t373⟩, A20, H⟩ := H
  replace H : (if t373 = 0 then ((lw_SameSpans.f k t370 (([(⟨212, 213⟩ : S27)] : List (S27)))).bind fun t377 => (some t377)) else (some false)) = some r := H
  have A2 := Sd.mk A20
  clear A20
  by_cases c3 : t373 = 0
  · rw [if_pos c3] at H
    have c3b0 : (t373 == 0) = true := beq_iff_eq.mpr c3
    have c3b1 : (t373 != 0) = false := bne_eq_false_iff_eq.mpr c3
    clear c3
    obtain ⟨y374, hy374⟩ : ∃ y_ : List (S27), y_ = (([(⟨212, 213⟩ : S27)] : List (S27))) := ⟨_, rfl⟩
    replace H : ((lw_SameSpans.f k t370 y374).bind fun t377 => (some t377)) = some r := by first | (rw [hy374]; with_reducible exact H) | (have H2_ := (Option.bind_some _ _).symm.trans H; rw [hy374]; with_reducible exact H2_) | (have H2_ := (Option.bind_some _ _).symm.trans H; with_reducible exact H2_) | with_reducible exact H | (rw [hy374]; exact H) | exact H
    have Ny374 := Sd.mk hy374
    clear hy374
    replace H := Option.bind_eq_some_iff.mp H
    obtain ⟨t377, A40, H⟩ := H
    replace H : (some t377) = some r := H
    have A4 := Sd.mk A40
    clear A40
    obtain rfl := Option.some.inj H
    go_enter Tryz.func20, Tryz.ntmps20
    go_wp2_with (first | ((with_reducible refine gate_callee (f := 36) rfl ?_); refine goesL_ (some 4) rfl rfl Tryz.func36 (by kernel_rfl) rfl #[] rfl (by (try simp only [List.map_toArray, List.map_cons, List.map_nil]); first | done | rfl | (simp only [List.length_drop, List.length_take]; rfl)) ?_; (with_reducible refine (l5_Example.calls  t365 t368 t369 _ A1.out).mono ?_); rintro e w5 ⟨v366, rfl, ho0, hb⟩; refine ⟨_, rfl, ?_⟩; have n0_ := Sd.mk (Kd.R_lower ho0 (below_size (by repeat (first | (with_reducible first | exact HB.out | apply below_alloc | apply pw_below_drewN | apply below_drew1) | exact HB.out)))); have n1_ := Sd.mk (below_step (by repeat (first | (with_reducible first | exact HB.out | apply below_alloc | apply pw_below_drewN | apply below_drew1) | exact HB.out)) hb); clear HB; have HO367 := n0_; have HB := n1_; clear n0_ n1_; (try clear hb); (try clear hb2); (try clear hk); (try clear hi); (try clear ho0); obtain ⟨Ao6, co6, eo6⟩ := Kd.R_slice HO367.out; subst eo6) | ((with_reducible refine gate_callee (f := 61) rfl ?_); refine goesL_ (some 6) rfl rfl Tryz.func61 (by kernel_rfl) rfl #[.agg #[.slice Ao6 t365.length co6, .int .i64 t368, .int .i64 t369], .agg #[.int .i64 1000, .int .i64 1000]] rfl (by (try simp only [List.map_toArray, List.map_cons, List.map_nil]); first | done | rfl | (simp only [List.length_drop, List.length_take]; rfl)) ?_; (with_reducible refine (x_Thickness.calls _ _ t365 t368 t369 1000 1000 t370 t373 _ ?side1 ?side2 A2.out).mono ?_); (case side1 => repeat (first | exact (Kd.R_reads' HO367.out).2.2 | (with_reducible refine Kd.C_alloc ?_ _) | (with_reducible refine Kd.C_drewN ?_ _) | (with_reducible refine Kd.C_drew ?_))); (case side2 => exact (Kd.R_reads' HO367.out).2.1); rintro e w7 ⟨v371, rfl, ho0, hb⟩; refine ⟨_, rfl, ?_⟩; have n0_ := Sd.mk (Kd.R_below (by (with_reducible repeat (first | apply Kd.R_alloc | apply Kd.R_drewN | apply Kd.R_drew)); exact HO367.out) hb); have n1_ := Sd.mk (Kd.R_lower ho0 (below_size (by repeat (first | (with_reducible first | exact HB.out | apply below_alloc | apply pw_below_drewN | apply below_drew1) | exact HB.out)))); have n2_ := Sd.mk (below_step (by repeat (first | (with_reducible first | exact HB.out | apply below_alloc | apply pw_below_drewN | apply below_drew1) | exact HB.out)) hb); clear HO367; clear HB; have HO367 := n0_; have HO372 := n1_; have HB := n2_; clear n0_ n1_ n2_; (try clear hb); (try clear hb2); (try clear hk); (try clear hi); (try clear ho0)) | ((with_reducible refine gate_dst (N := 14) rfl ?_); (try (refine gate_guard (by rfl) ?_; dsimp only)); refine Kd.R_lit k27 _ 27 ?hg (N := 14) ?hd (xs := ([(⟨212, 213⟩ : S27)] : List (S27))) (inner := [.int .i64 212, .int .i64 213]) (ok := fun _ => True) (okp := fun _ => True) ?hr ?hp (fun _ hk => hk) trivial (Below.refl _ _) (Nat.le_refl _) (by simp) ?_; (case hd => rfl); (case hg => rfl); (case hr => first | (go_simp; done) | (go_simp; rfl)); (case hp => exact (Reps.c2 (show Kd.M k27 _ _ _ (⟨212, 213⟩ : S27) [.int .i64 212, .int .i64 213] from (k27_mkM _ _ _ (⟨212, 213⟩ : S27) )) (Reps.none _ _))); intro v375 w8 ho9 hb hg_ hnew_; clear hg_ hnew_; (first | rw [← Ny374.out] at ho9 | (simp only [Int.reduceToNat] at ho9; rw [← Ny374.out] at ho9)); have n0_ := Sd.mk (Kd.R_below (by (with_reducible repeat (first | apply Kd.R_alloc | apply Kd.R_drewN | apply Kd.R_drew)); exact HO367.out) hb); have n1_ := Sd.mk (Kd.R_elder' (by (with_reducible repeat (first | apply Kd.R_alloc | apply Kd.R_drewN | apply Kd.R_drew)); exact HO372.out) (Kd.R_base ho9) hb); have n2_ := Sd.mk (Kd.R_lower (Kd.R_new' ho9 (Kd.R_lt (by (with_reducible repeat (first | apply Kd.R_alloc | apply Kd.R_drewN | apply Kd.R_drew)); exact HO372.out))) (below_size (by repeat (first | (with_reducible first | exact HB.out | apply below_alloc | apply pw_below_drewN | apply below_drew1) | exact HB.out)))); have n3_ := Sd.mk (below_step (by repeat (first | (with_reducible first | exact HB.out | apply below_alloc | apply pw_below_drewN | apply below_drew1) | exact HB.out)) hb); clear HO367; clear HO372; clear HB; have HO367 := n0_; have HO372 := n1_; have HO376 := n2_; have HB := n3_; clear n0_ n1_ n2_ n3_; clear hb ho9; obtain ⟨Ao10, co10, eo10⟩ := Kd.R_slice HO372.out; subst eo10; obtain ⟨Ao11, co11, eo11⟩ := Kd.R_slice HO376.out; subst eo11) | (go_at_call 49; (with_reducible refine (lw_SameSpans.calls k _ _ t370 _ _ y374 t377 _ ?side1 ?side2 ?side3 ?side4 A4.out).mono ?_); (case side1 => repeat (first | exact (Kd.R_reads' HO372.out).2.2 | (with_reducible refine Kd.C_alloc ?_ _) | (with_reducible refine Kd.C_drewN ?_ _) | (with_reducible refine Kd.C_drew ?_))); (case side2 => exact (Kd.R_reads' HO372.out).2.1); (case side3 => repeat (first | exact (Kd.R_reads' HO376.out).2.2 | (with_reducible refine Kd.C_alloc ?_ _) | (with_reducible refine Kd.C_drewN ?_ _) | (with_reducible refine Kd.C_drew ?_))); (case side4 => exact (Kd.R_reads' HO376.out).2.1); rintro e w' ⟨rfl, ⟨nd, rfl⟩⟩))
    go_ret
    exact ⟨by first | rfl | (simp [errW_none, errW_some] <;> rfl) | (simp [*, errW_none, errW_some] <;> rfl), by repeat (first | (with_reducible first | exact HB.out | apply below_alloc | apply pw_below_drewN | apply below_drew1) | exact HB.out)⟩
  · rw [if_neg c3] at H
    have c3b0 : (t373 == 0) = false := beq_eq_false_iff_ne.mpr c3
    have c3b1 : (t373 != 0) = true := bne_iff_ne.mpr c3
    obtain rfl := Option.some.inj H
    go_enter Tryz.func20, Tryz.ntmps20
    go_wp2_with (first | ((with_reducible refine gate_callee (f := 36) rfl ?_); refine goesL_ (some 4) rfl rfl Tryz.func36 (by kernel_rfl) rfl #[] rfl (by (try simp only [List.map_toArray, List.map_cons, List.map_nil]); first | done | rfl | (simp only [List.length_drop, List.length_take]; rfl)) ?_; (with_reducible refine (l5_Example.calls  t365 t368 t369 _ A1.out).mono ?_); rintro e w12 ⟨v366, rfl, ho0, hb⟩; refine ⟨_, rfl, ?_⟩; have n0_ := Sd.mk (Kd.R_lower ho0 (below_size (by repeat (first | (with_reducible first | exact HB.out | apply below_alloc | apply pw_below_drewN | apply below_drew1) | exact HB.out)))); have n1_ := Sd.mk (below_step (by repeat (first | (with_reducible first | exact HB.out | apply below_alloc | apply pw_below_drewN | apply below_drew1) | exact HB.out)) hb); clear HB; have HO367 := n0_; have HB := n1_; clear n0_ n1_; (try clear hb); (try clear hb2); (try clear hk); (try clear hi); (try clear ho0); obtain ⟨Ao13, co13, eo13⟩ := Kd.R_slice HO367.out; subst eo13) | ((with_reducible refine gate_callee (f := 61) rfl ?_); refine goesL_ (some 6) rfl rfl Tryz.func61 (by kernel_rfl) rfl #[.agg #[.slice Ao13 t365.length co13, .int .i64 t368, .int .i64 t369], .agg #[.int .i64 1000, .int .i64 1000]] rfl (by (try simp only [List.map_toArray, List.map_cons, List.map_nil]); first | done | rfl | (simp only [List.length_drop, List.length_take]; rfl)) ?_; (with_reducible refine (x_Thickness.calls _ _ t365 t368 t369 1000 1000 t370 t373 _ ?side1 ?side2 A2.out).mono ?_); (case side1 => repeat (first | exact (Kd.R_reads' HO367.out).2.2 | (with_reducible refine Kd.C_alloc ?_ _) | (with_reducible refine Kd.C_drewN ?_ _) | (with_reducible refine Kd.C_drew ?_))); (case side2 => exact (Kd.R_reads' HO367.out).2.1); rintro e w14 ⟨v371, rfl, ho0, hb⟩; refine ⟨_, rfl, ?_⟩; have n0_ := Sd.mk (Kd.R_below (by (with_reducible repeat (first | apply Kd.R_alloc | apply Kd.R_drewN | apply Kd.R_drew)); exact HO367.out) hb); have n1_ := Sd.mk (Kd.R_lower ho0 (below_size (by repeat (first | (with_reducible first | exact HB.out | apply below_alloc | apply pw_below_drewN | apply below_drew1) | exact HB.out)))); have n2_ := Sd.mk (below_step (by repeat (first | (with_reducible first | exact HB.out | apply below_alloc | apply pw_below_drewN | apply below_drew1) | exact HB.out)) hb); clear HO367; clear HB; have HO367 := n0_; have HO372 := n1_; have HB := n2_; clear n0_ n1_ n2_; (try clear hb); (try clear hb2); (try clear hk); (try clear hi); (try clear ho0)))
    go_ret
    exact ⟨by first | rfl | (simp [errW_none, errW_some] <;> rfl) | (simp [*, errW_none, errW_some] <;> rfl), by repeat (first | (with_reducible first | exact HB.out | apply below_alloc | apply pw_below_drewN | apply below_drew1) | exact HB.out)⟩
end
section
open Go.RowKit Go.Proofs.YtljfljekcpdpiaaGreatW.PrintWords Go.Proofs.YtljfljekcpdpiaaGreatW.PrintLast Go.Proofs.YtljfljekcpdpiaaGreatW.PrintMore
section
variable {P : Program} {ops : Array Oper} {rest : List Oper} {o : Oper} {a : Act} {Q : Exit → Act → World → Prop} {w : World}
theorem wp_loadrow_g (t : TypeId) (x : Operand) (ad : Addr) (v : Value) (hw : Region.wanted o (yielded ops a.tmps) = true) (ho : o.op = .load t x) (hx : a.eval x = .pointer (some ad)) (hr : (loadVar t ad).run P w = .ok v w) (h : wpList P ops Q rest (a.put o.dst v) w) : wpList P ops Q (o :: rest) a w := by
  refine wpList_step fun K hK => ?_
  rw [if_pos hw]
  unfold Oper.wp execOp
  simp only [ho, hx]
  simp only [Instr.loadAt, Instr.sureAddr, asAddr, Sem.run_bind, Sem.run_pure, hr, Result.andThen]
  exact hK _ _ h
end
structure RW3 (oL oB oX : Obj) (w W : World) : Prop where
  bl : W.heap[w.heap.size]? = some oL
  bb : W.heap[w.heap.size + 1]? = some oB
  bx : W.heap[w.heap.size + 1 + 1]? = some oX
  be : Below w.heap.size w W
theorem RW3.step {oL oB oX : Obj} {w W W' : World} (h : RW3 oL oB oX w W) (hb : Below W.heap.size W W') : RW3 oL oB oX w W' :=
  ⟨blk_below h.bl hb, blk_below h.bb hb, blk_below h.bx hb, below_then h.be h.be.size hb⟩
theorem RW3.alloc {oL oB oX : Obj} {w W : World} (h : RW3 oL oB oX w W) (ob : Obj) : RW3 oL oB oX w (W.alloc ob) := h.step (below_alloc (Below.refl _ _) ob)
theorem glass_walk (A0 : Option Addr) (c0 : Nat) (kn : List S94) (fac : Int) (Ao : Option Addr) (co : Nat) (o : List ByteArray) (Am : Option Addr) (cm : Nat) (mt : List S70) (As : Option Addr) (cs : Nat) (s : List S27) (Ap : Option Addr) (cp : Nat) (p : List S89) (a4 a5 a6 : Int) (B0 : Option Addr) (d0 : Nat) (y0 : List S27) (y1 y2 y3 y4 y5 y6 y7 y8 : Int) (B9 : Option Addr) (d9 : Nat) (y9 : List Int) (y10 y11 y12 y13 y14 y15 y16 y17 y18 : Int) (Br : Option Addr) (dr : Nat) (r : List Int) (B20 : Option Addr) (d20 : Nat) (y20 : List S180) (w : World) (hr0 : Kd.C k94 w A0 kn.length kn) (hc0 : kn.length ≤ c0) (hro : Kd.C Kd.string w Ao o.length o) (hco : o.length ≤ co) (hrm : Kd.C k70 w Am mt.length mt) (hcm : mt.length ≤ cm) (hrs : Kd.C k27 w As s.length s) (hcs : s.length ≤ cs) (hrp : Kd.C k89 w Ap p.length p) (hcp : p.length ≤ cp) (hr1 : Kd.C k27 w B0 y0.length y0) (hc1 : y0.length ≤ d0) (hr9 : Kd.C (Kd.int .i64) w B9 y9.length y9) (hc9 : y9.length ≤ d9) (hrr : Kd.C (Kd.int .i64) w Br r.length r) (hcr : r.length ≤ dr) (hr20 : Kd.C k180 w B20 y20.length y20) (hc20 : y20.length ≤ d20) (K : Nat) (b c A1 : Bool) (A2 S1 S2 Se : Int) (hG : lw_Great.f K o mt s p a4 a5 a6 = some b) (hW : l5_Wide.f K y0 y1 y2 y3 y4 y5 y6 y7 y8 y9 y10 y11 y12 y13 y14 y15 y16 y17 y18 r y20 = some c) (hLV : l5_lives.f K = some true) (hS : x_Shock.f K o mt s p a4 a5 a6 r y14 y13 = some (S1, S2, Se)) (hT : r5_Shock.f K o mt s p a4 a5 a6 r y14 y13 = some (S1, S2, Se)) (hA : x_Anneals.f K kn fac o mt s p a4 a5 a6 r y14 y15 y16 y12 y17 = some (A1, A2)) (hB : r5_Anneals.f K kn fac o mt s p a4 a5 a6 r y14 y15 y16 y12 y17 = some (A1, A2)) :
    Calls Tryz.prog 4 #[.agg #[.slice A0 kn.length c0, .int .i64 fac], .agg #[.slice Ao o.length co, .slice Am mt.length cm, .slice As s.length cs, .slice Ap p.length cp, .int .i64 a4, .int .i64 a5, .int .i64 a6], .agg #[.slice B0 y0.length d0, .int .i64 y1, .int .i64 y2, .int .i64 y3, .int .i64 y4, .int .i64 y5, .int .i64 y6, .int .i64 y7, .int .i64 y8, .slice B9 y9.length d9, .int .i64 y10, .int .i64 y11, .int .i64 y12, .int .i64 y13, .int .i64 y14, .int .i64 y15, .int .i64 y16, .int .i64 y17, .int .i64 y18, .slice Br r.length dr, .slice B20 y20.length d20]] w fun e w' => e = .returned (.bool true) ∧ Below w.heap.size w w' := by
  have HR0 := Sd.mk hr0
  have HC0 := Sd.mk hc0
  clear hr0 hc0
  have HRo := Sd.mk hro
  have HCo := Sd.mk hco
  clear hro hco
  have HRm := Sd.mk hrm
  have HCm := Sd.mk hcm
  clear hrm hcm
  have HRs := Sd.mk hrs
  have HCs := Sd.mk hcs
  clear hrs hcs
  have HRp := Sd.mk hrp
  have HCp := Sd.mk hcp
  clear hrp hcp
  have HR1 := Sd.mk hr1
  have HC1 := Sd.mk hc1
  clear hr1 hc1
  have HR9 := Sd.mk hr9
  have HC9 := Sd.mk hc9
  clear hr9 hc9
  have HRr := Sd.mk hrr
  have HCr := Sd.mk hcr
  clear hrr hcr
  have HR20 := Sd.mk hr20
  have HC20 := Sd.mk hc20
  clear hr20 hc20
  obtain ⟨b1, b2, b3, hb0, hsz⟩ := blk_three w (.cells #[.slice A0 kn.length c0, .int .i64 fac] 46) (.cells #[.slice Ao o.length co, .slice Am mt.length cm, .slice As s.length cs, .slice Ap p.length cp, .int .i64 a4, .int .i64 a5, .int .i64 a6] 29) (.cells #[.slice B0 y0.length d0, .int .i64 y1, .int .i64 y2, .int .i64 y3, .int .i64 y4, .int .i64 y5, .int .i64 y6, .int .i64 y7, .int .i64 y8, .slice B9 y9.length d9, .int .i64 y10, .int .i64 y11, .int .i64 y12, .int .i64 y13, .int .i64 y14, .int .i64 y15, .int .i64 y16, .int .i64 y17, .int .i64 y18, .slice Br r.length dr, .slice B20 y20.length d20] 51)
  have RW0 : Sd (RW3 (.cells #[.slice A0 kn.length c0, .int .i64 fac] 46 (0, 0)) (.cells #[.slice Ao o.length co, .slice Am mt.length cm, .slice As s.length cs, .slice Ap p.length cp, .int .i64 a4, .int .i64 a5, .int .i64 a6] 29 (0, 0)) (.cells #[.slice B0 y0.length d0, .int .i64 y1, .int .i64 y2, .int .i64 y3, .int .i64 y4, .int .i64 y5, .int .i64 y6, .int .i64 y7, .int .i64 y8, .slice B9 y9.length d9, .int .i64 y10, .int .i64 y11, .int .i64 y12, .int .i64 y13, .int .i64 y14, .int .i64 y15, .int .i64 y16, .int .i64 y17, .int .i64 y18, .slice Br r.length dr, .slice B20 y20.length d20] 51 (0, 0)) w (((w.alloc (.cells #[.slice A0 kn.length c0, .int .i64 fac] 46)).alloc (.cells #[.slice Ao o.length co, .slice Am mt.length cm, .slice As s.length cs, .slice Ap p.length cp, .int .i64 a4, .int .i64 a5, .int .i64 a6] 29)).alloc (.cells #[.slice B0 y0.length d0, .int .i64 y1, .int .i64 y2, .int .i64 y3, .int .i64 y4, .int .i64 y5, .int .i64 y6, .int .i64 y7, .int .i64 y8, .slice B9 y9.length d9, .int .i64 y10, .int .i64 y11, .int .i64 y12, .int .i64 y13, .int .i64 y14, .int .i64 y15, .int .i64 y16, .int .i64 y17, .int .i64 y18, .slice Br r.length dr, .slice B20 y20.length d20] 51))) := ⟨⟨b1, b2, b3, hb0⟩⟩
  have HG := Sd.mk hG
  have HW := Sd.mk hW
  have HLV := Sd.mk hLV
  have HS := Sd.mk hS
  have HT := Sd.mk hT
  have HA := Sd.mk hA
  have HB := Sd.mk hB
  clear b1 b2 b3 hb0 hsz hG hW hLV hS hT hA hB
  go_enter Tryz.func4, Tryz.ntmps4
  go_upto_region 1 with (fail)
  generalize ((w.alloc (.cells #[.slice A0 kn.length c0, .int .i64 fac] 46)).alloc (.cells #[.slice Ao o.length co, .slice Am mt.length cm, .slice As s.length cs, .slice Ap p.length cp, .int .i64 a4, .int .i64 a5, .int .i64 a6] 29)).alloc (.cells #[.slice B0 y0.length d0, .int .i64 y1, .int .i64 y2, .int .i64 y3, .int .i64 y4, .int .i64 y5, .int .i64 y6, .int .i64 y7, .int .i64 y8, .slice B9 y9.length d9, .int .i64 y10, .int .i64 y11, .int .i64 y12, .int .i64 y13, .int .i64 y14, .int .i64 y15, .int .i64 y16, .int .i64 y17, .int .i64 y18, .slice Br r.length dr, .slice B20 y20.length d20] 51) = W0 at RW0 ⊢
  generalize Value.agg #[.slice A0 kn.length c0, .int .i64 fac] = uL
  generalize Value.agg #[.slice Ao o.length co, .slice Am mt.length cm, .slice As s.length cs, .slice Ap p.length cp, .int .i64 a4, .int .i64 a5, .int .i64 a6] = uB
  generalize Value.agg #[.slice B0 y0.length d0, .int .i64 y1, .int .i64 y2, .int .i64 y3, .int .i64 y4, .int .i64 y5, .int .i64 y6, .int .i64 y7, .int .i64 y8, .slice B9 y9.length d9, .int .i64 y10, .int .i64 y11, .int .i64 y12, .int .i64 y13, .int .i64 y14, .int .i64 y15, .int .i64 y16, .int .i64 y17, .int .i64 y18, .slice Br r.length dr, .slice B20 y20.length d20] = uX
  have gL0 : W0.cell? ⟨w.heap.size, 0, none⟩ = some (.slice A0 kn.length c0) := (blk_cell RW0.out.bl 0).trans rfl
  have HLB := Sd.mk (run_loadVar_row (P := Tryz.prog) _ _ 29 29 _ (0, 0) _ RW0.out.bb Tryz.underlying29 rfl (by kernel_rfl))
  have HLX := Sd.mk (run_loadVar_row (P := Tryz.prog) _ _ 51 51 _ (0, 0) _ RW0.out.bx Tryz.underlying51 rfl (by kernel_rfl))
  (try simp only [Act.put, List.setIfInBounds_toArray, List.set_cons_zero, List.set_cons_succ])
  go_cut [24] (fun v24 wc => ∃ bb : Bool, v24 = .bool bb ∧ Sd (RW3 (.cells #[.slice A0 kn.length c0, .int .i64 fac] 46 (0, 0)) (.cells #[.slice Ao o.length co, .slice Am mt.length cm, .slice As s.length cs, .slice Ap p.length cp, .int .i64 a4, .int .i64 a5, .int .i64 a6] 29 (0, 0)) (.cells #[.slice B0 y0.length d0, .int .i64 y1, .int .i64 y2, .int .i64 y3, .int .i64 y4, .int .i64 y5, .int .i64 y6, .int .i64 y7, .int .i64 y8, .slice B9 y9.length d9, .int .i64 y10, .int .i64 y11, .int .i64 y12, .int .i64 y13, .int .i64 y14, .int .i64 y15, .int .i64 y16, .int .i64 y17, .int .i64 y18, .slice Br r.length dr, .slice B20 y20.length d20] 51 (0, 0)) w wc))
  case first =>
    as_aux_lemma =>
      by_cases h1 : (kn.length : Int) > 100
      · have c1 : decide (100 < (kn.length : Int)) = true := decide_eq_true h1
        have c2 : decide (100 < kn.length) = true := decide_eq_true (by omega)
        clear h1
        go_wp2
        go_meet
        case rel => exact ⟨true, rfl, RW0⟩
      · have c1 : decide (100 < (kn.length : Int)) = false := decide_eq_false h1
        have c2 : decide (100 < kn.length) = false := decide_eq_false (by omega)
        clear h1
        cases b with
        | true =>
          go_wp2_with (first | (refine wp_loadrow_g 29 _ _ _ (by go_simp) rfl rfl HLB.out ?_) | (go_at_call 10; (with_reducible refine (lw_Great.calls K _ _ o _ _ mt _ _ s _ _ p a4 a5 a6 _ _ (Kd.C_below HRo.out RW0.out.be) HCo.out (Kd.C_below HRm.out RW0.out.be) HCm.out (Kd.C_below HRs.out RW0.out.be) HCs.out (Kd.C_below HRp.out RW0.out.be) HCp.out HG.out).mono ?_); rintro e w1 ⟨rfl, hb⟩; have RW1 := Sd.mk (RW0.out.step hb); clear hb; skip))
          go_meet
          case rel => exact ⟨true, rfl, RW1⟩
        | false =>
          go_wp2_with (first | (refine wp_loadrow_g 29 _ _ _ (by go_simp) rfl rfl HLB.out ?_) | (clear HLX; go_at_call 10; (with_reducible refine (lw_Great.calls K _ _ o _ _ mt _ _ s _ _ p a4 a5 a6 _ _ (Kd.C_below HRo.out RW0.out.be) HCo.out (Kd.C_below HRm.out RW0.out.be) HCm.out (Kd.C_below HRs.out RW0.out.be) HCs.out (Kd.C_below HRp.out RW0.out.be) HCp.out HG.out).mono ?_); rintro e w1 ⟨rfl, hb⟩; have RW1 := Sd.mk (RW0.out.step hb); clear hb; have HLX := Sd.mk (run_loadVar_row (P := Tryz.prog) _ _ 51 51 _ (0, 0) _ RW1.out.bx Tryz.underlying51 rfl (by kernel_rfl))) | (refine wp_loadrow_g 51 _ _ _ (by go_simp) rfl rfl HLX.out ?_) | (go_at_call 19; (with_reducible refine (l5_Wide.calls K _ _ y0 y1 y2 y3 y4 y5 y6 y7 y8 _ _ y9 y10 y11 y12 y13 y14 y15 y16 y17 y18 _ _ r _ _ y20 _ _ (Kd.C_below HR1.out RW1.out.be) HC1.out (Kd.C_below HR9.out RW1.out.be) HC9.out (Kd.C_below HRr.out RW1.out.be) HCr.out (Kd.C_below HR20.out RW1.out.be) HC20.out HW.out).mono ?_); rintro e w2 ⟨rfl, hb⟩; have RW2 := Sd.mk (RW1.out.step hb); clear hb; skip))
          go_meet
          case rel => exact ⟨c, rfl, RW2⟩
  case rest =>
    as_aux_lemma =>
      clear HLB HLX gL0 RW0
      obtain ⟨bb, rfl, RW1⟩ := hcut
      cases bb with
      | true =>
        go_wp2_with (first | (go_at_call 20; (with_reducible refine (l5_lives.calls K true _ HLV.out).mono ?_); rintro e wl ⟨rfl, hb⟩))
        go_ret
        exact ⟨rfl, below_then RW1.out.be RW1.out.be.size hb⟩
      | false =>
        have HLB := Sd.mk (run_loadVar_row (P := Tryz.prog) _ _ 29 29 _ (0, 0) _ RW1.out.bb Tryz.underlying29 rfl (by kernel_rfl))
        have gX13 : wc.cell? ⟨w.heap.size + 1 + 1, 0 + 13, none⟩ = some (.int .i64 y13) := (blk_cell RW1.out.bx 13).trans rfl
        have gX14 : wc.cell? ⟨w.heap.size + 1 + 1, 0 + 14, none⟩ = some (.int .i64 y14) := (blk_cell RW1.out.bx 14).trans rfl
        have gX19 : wc.cell? ⟨w.heap.size + 1 + 1, 0 + 19, none⟩ = some (.slice Br r.length dr) := (blk_cell RW1.out.bx 19).trans rfl
        go_wp2_with (first | (refine wp_loadrow_g 29 _ _ _ (by go_simp) rfl rfl HLB.out ?_) | (refine wp_loadrow_g 46 _ _ _ (by go_simp) rfl rfl HLL.out ?_) | (refine wp_loadrow_g 27 _ _ _ (by go_simp) rfl rfl HSA.out ?_) | (refine wp_loadrow_g 27 _ _ _ (by go_simp) rfl rfl HSB.out ?_) | (go_at_call 21; (with_reducible refine (x_Shock.calls K _ _ o _ _ mt _ _ s _ _ p a4 a5 a6 _ _ r y14 y13 S1 S2 Se _ (Kd.C_below HRo.out RW1.out.be) HCo.out (Kd.C_below HRm.out RW1.out.be) HCm.out (Kd.C_below HRs.out RW1.out.be) HCs.out (Kd.C_below HRp.out RW1.out.be) HCp.out (Kd.C_below HRr.out RW1.out.be) HCr.out HS.out).mono ?_); rintro e w2 ⟨rfl, hb⟩; have RW2 := Sd.mk (RW1.out.step hb); clear hb HLB; have RW21 := Sd.mk (RW2.out.alloc (.cells #[.int .i64 S1, .int .i64 S2] 27)); have HLB := Sd.mk (run_loadVar_row (P := Tryz.prog) _ _ 29 29 _ (0, 0) _ RW21.out.bb Tryz.underlying29 rfl (by kernel_rfl)); have gX13 : (w2.alloc (.cells #[.int .i64 S1, .int .i64 S2] 27)).cell? ⟨w.heap.size + 1 + 1, 0 + 13, none⟩ = some (.int .i64 y13) := (blk_cell RW21.out.bx 13).trans rfl; have gX14 : (w2.alloc (.cells #[.int .i64 S1, .int .i64 S2] 27)).cell? ⟨w.heap.size + 1 + 1, 0 + 14, none⟩ = some (.int .i64 y14) := (blk_cell RW21.out.bx 14).trans rfl; have gX19 : (w2.alloc (.cells #[.int .i64 S1, .int .i64 S2] 27)).cell? ⟨w.heap.size + 1 + 1, 0 + 19, none⟩ = some (.slice Br r.length dr) := (blk_cell RW21.out.bx 19).trans rfl; have BS1 := Sd.mk (blk_new w2 (.cells #[.int .i64 S1, .int .i64 S2] 27))) | (go_at_call 22; (with_reducible refine (r5_Shock.calls K _ _ o _ _ mt _ _ s _ _ p a4 a5 a6 _ _ r y14 y13 S1 S2 Se _ (Kd.C_below HRo.out RW21.out.be) HCo.out (Kd.C_below HRm.out RW21.out.be) HCm.out (Kd.C_below HRs.out RW21.out.be) HCs.out (Kd.C_below HRp.out RW21.out.be) HCp.out (Kd.C_below HRr.out RW21.out.be) HCr.out HT.out).mono ?_); rintro e w3 ⟨rfl, hb⟩; have RW3' := Sd.mk (RW21.out.step hb); have BS2 := Sd.mk (blk_alloc (blk_below BS1.out hb) (.cells #[.int .i64 S1, .int .i64 S2] 27)); clear hb HLB; have RW31 := Sd.mk (RW3'.out.alloc (.cells #[.int .i64 S1, .int .i64 S2] 27)); have HLB := Sd.mk (run_loadVar_row (P := Tryz.prog) _ _ 29 29 _ (0, 0) _ RW31.out.bb Tryz.underlying29 rfl (by kernel_rfl)); have HLL := Sd.mk (run_loadVar_row (P := Tryz.prog) _ _ 46 46 _ (0, 0) _ RW31.out.bl Tryz.underlying46 rfl (by kernel_rfl)); have gX12 : (w3.alloc (.cells #[.int .i64 S1, .int .i64 S2] 27)).cell? ⟨w.heap.size + 1 + 1, 0 + 12, none⟩ = some (.int .i64 y12) := (blk_cell RW31.out.bx 12).trans rfl; have gX14 : (w3.alloc (.cells #[.int .i64 S1, .int .i64 S2] 27)).cell? ⟨w.heap.size + 1 + 1, 0 + 14, none⟩ = some (.int .i64 y14) := (blk_cell RW31.out.bx 14).trans rfl; have gX15 : (w3.alloc (.cells #[.int .i64 S1, .int .i64 S2] 27)).cell? ⟨w.heap.size + 1 + 1, 0 + 15, none⟩ = some (.int .i64 y15) := (blk_cell RW31.out.bx 15).trans rfl; have gX16 : (w3.alloc (.cells #[.int .i64 S1, .int .i64 S2] 27)).cell? ⟨w.heap.size + 1 + 1, 0 + 16, none⟩ = some (.int .i64 y16) := (blk_cell RW31.out.bx 16).trans rfl; have gX17 : (w3.alloc (.cells #[.int .i64 S1, .int .i64 S2] 27)).cell? ⟨w.heap.size + 1 + 1, 0 + 17, none⟩ = some (.int .i64 y17) := (blk_cell RW31.out.bx 17).trans rfl; have gX19 : (w3.alloc (.cells #[.int .i64 S1, .int .i64 S2] 27)).cell? ⟨w.heap.size + 1 + 1, 0 + 19, none⟩ = some (.slice Br r.length dr) := (blk_cell RW31.out.bx 19).trans rfl; have HSA := Sd.mk (run_loadVar_row (P := Tryz.prog) _ _ 27 27 _ (0, 0) _ BS2.out Tryz.underlying27 rfl (by kernel_rfl)); have HSB := Sd.mk (run_loadVar_row (P := Tryz.prog) _ _ 27 27 _ (0, 0) _ (blk_new w3 (.cells #[.int .i64 S1, .int .i64 S2] 27)) Tryz.underlying27 rfl (by kernel_rfl))) | (go_at_call 23; (with_reducible refine (x_Anneals.calls K _ _ kn fac _ _ o _ _ mt _ _ s _ _ p a4 a5 a6 _ _ r y14 y15 y16 y12 y17 A1 A2 _ (Kd.C_below HR0.out RW31.out.be) HC0.out (Kd.C_below HRo.out RW31.out.be) HCo.out (Kd.C_below HRm.out RW31.out.be) HCm.out (Kd.C_below HRs.out RW31.out.be) HCs.out (Kd.C_below HRp.out RW31.out.be) HCp.out (Kd.C_below HRr.out RW31.out.be) HCr.out HA.out).mono ?_); rintro e w4 ⟨rfl, hb⟩; have RW4 := Sd.mk (RW31.out.step hb); clear hb HLB HLL; have HLB := Sd.mk (run_loadVar_row (P := Tryz.prog) _ _ 29 29 _ (0, 0) _ RW4.out.bb Tryz.underlying29 rfl (by kernel_rfl)); have HLL := Sd.mk (run_loadVar_row (P := Tryz.prog) _ _ 46 46 _ (0, 0) _ RW4.out.bl Tryz.underlying46 rfl (by kernel_rfl)); have gX12 : w4.cell? ⟨w.heap.size + 1 + 1, 0 + 12, none⟩ = some (.int .i64 y12) := (blk_cell RW4.out.bx 12).trans rfl; have gX14 : w4.cell? ⟨w.heap.size + 1 + 1, 0 + 14, none⟩ = some (.int .i64 y14) := (blk_cell RW4.out.bx 14).trans rfl; have gX15 : w4.cell? ⟨w.heap.size + 1 + 1, 0 + 15, none⟩ = some (.int .i64 y15) := (blk_cell RW4.out.bx 15).trans rfl; have gX16 : w4.cell? ⟨w.heap.size + 1 + 1, 0 + 16, none⟩ = some (.int .i64 y16) := (blk_cell RW4.out.bx 16).trans rfl; have gX17 : w4.cell? ⟨w.heap.size + 1 + 1, 0 + 17, none⟩ = some (.int .i64 y17) := (blk_cell RW4.out.bx 17).trans rfl; have gX19 : w4.cell? ⟨w.heap.size + 1 + 1, 0 + 19, none⟩ = some (.slice Br r.length dr) := (blk_cell RW4.out.bx 19).trans rfl) | (go_at_call 24; (with_reducible refine (r5_Anneals.calls K _ _ kn fac _ _ o _ _ mt _ _ s _ _ p a4 a5 a6 _ _ r y14 y15 y16 y12 y17 A1 A2 _ (Kd.C_below HR0.out RW4.out.be) HC0.out (Kd.C_below HRo.out RW4.out.be) HCo.out (Kd.C_below HRm.out RW4.out.be) HCm.out (Kd.C_below HRs.out RW4.out.be) HCs.out (Kd.C_below HRp.out RW4.out.be) HCp.out (Kd.C_below HRr.out RW4.out.be) HCr.out HB.out).mono ?_); rintro e w5 ⟨rfl, hb⟩; have RW5 := Sd.mk (RW4.out.step hb); clear hb HLB HLL) | (go_at_call 20; (with_reducible refine (l5_lives.calls K true _ HLV.out).mono ?_); rintro e wl ⟨rfl, hb⟩))
        go_ret
        exact ⟨by simp, below_then RW5.out.be RW5.out.be.size hb⟩
end
section
open Go.RowKit Go.Proofs.YtljfljekcpdpiaaGreatW.PrintWords Go.Proofs.YtljfljekcpdpiaaGreatW.PrintLast Go.Proofs.YtljfljekcpdpiaaGreatW.PrintMore
theorem lives5_ev : Ev (fun k => l5_lives.f k) true := Ev.of_mono l5_lives.mono (K := 5) (by kernel_rfl)
theorem StrengthGlass_calls (A0 : Option Addr) (c0 : Nat) (kn : List S94) (fac : Int) (Ao : Option Addr) (co : Nat) (o : List ByteArray) (Am : Option Addr) (cm : Nat) (mt : List S70) (As : Option Addr) (cs : Nat) (s : List S27) (Ap : Option Addr) (cp : Nat) (p : List S89) (a4 a5 a6 : Int) (B0 : Option Addr) (d0 : Nat) (y0 : List S27) (y1 y2 y3 y4 y5 y6 y7 y8 : Int) (B9 : Option Addr) (d9 : Nat) (y9 : List Int) (y10 y11 y12 y13 y14 y15 y16 y17 y18 : Int) (Br : Option Addr) (dr : Nat) (r : List Int) (B20 : Option Addr) (d20 : Nat) (y20 : List S180) (w : World) (hr0 : Kd.C k94 w A0 kn.length kn) (hc0 : kn.length ≤ c0) (hro : Kd.C Kd.string w Ao o.length o) (hco : o.length ≤ co) (hrm : Kd.C k70 w Am mt.length mt) (hcm : mt.length ≤ cm) (hrs : Kd.C k27 w As s.length s) (hcs : s.length ≤ cs) (hrp : Kd.C k89 w Ap p.length p) (hcp : p.length ≤ cp) (hr1 : Kd.C k27 w B0 y0.length y0) (hc1 : y0.length ≤ d0) (hr9 : Kd.C (Kd.int .i64) w B9 y9.length y9) (hc9 : y9.length ≤ d9) (hrr : Kd.C (Kd.int .i64) w Br r.length r) (hcr : r.length ≤ dr) (hr20 : Kd.C k180 w B20 y20.length y20) (hc20 : y20.length ≤ d20) :
    Calls Tryz.prog 4 #[.agg #[.slice A0 kn.length c0, .int .i64 fac], .agg #[.slice Ao o.length co, .slice Am mt.length cm, .slice As s.length cs, .slice Ap p.length cp, .int .i64 a4, .int .i64 a5, .int .i64 a6], .agg #[.slice B0 y0.length d0, .int .i64 y1, .int .i64 y2, .int .i64 y3, .int .i64 y4, .int .i64 y5, .int .i64 y6, .int .i64 y7, .int .i64 y8, .slice B9 y9.length d9, .int .i64 y10, .int .i64 y11, .int .i64 y12, .int .i64 y13, .int .i64 y14, .int .i64 y15, .int .i64 y16, .int .i64 y17, .int .i64 y18, .slice Br r.length dr, .slice B20 y20.length d20]] w fun e w' => e = .returned (.bool true) ∧ Below w.heap.size w w' := by
  obtain ⟨b, Kb, hb⟩ := great o mt s p a4 a5 a6
  obtain ⟨c, Kc, hc⟩ := wide5 y0 y1 y2 y3 y4 y5 y6 y7 y8 y9 y10 y11 y12 y13 y14 y15 y16 y17 y18 r y20
  obtain ⟨Kl, hl⟩ := lives5_ev
  obtain ⟨K1, h1⟩ := xShock_ev o mt s p a4 a5 a6 r y14 y13
  obtain ⟨K2, h2⟩ := rShock o mt s p a4 a5 a6 r y14 y13
  obtain ⟨K3, h3⟩ := ann_ev o mt s p a4 a5 a6 r kn fac y14 y15 y16 y12 y17
  obtain ⟨K4, h4⟩ := rAnn o mt s p a4 a5 a6 r kn fac y14 y15 y16 y12 y17
  exact glass_walk A0 c0 kn fac Ao co o Am cm mt As cs s Ap cp p a4 a5 a6 B0 d0 y0 y1 y2 y3 y4 y5 y6 y7 y8 B9 d9 y9 y10 y11 y12 y13 y14 y15 y16 y17 y18 Br dr r B20 d20 y20 w hr0 hc0 hro hco hrm hcm hrs hcs hrp hcp hr1 hc1 hr9 hc9 hrr hcr hr20 hc20 (Kb + Kc + Kl + K1 + K2 + K3 + K4) b c _ _ _ _ _ (hb _ (by omega)) (hc _ (by omega)) (hl _ (by omega)) (h1 _ (by omega)) (h2 _ (by omega)) (h3 _ (by omega)) (h4 _ (by omega))
end
end Go.Proofs.YtljfljekcpdpiaaGreat.PB
