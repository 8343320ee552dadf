import Derived.Test.YtkjkokgbhepmoaaS5
set_option linter.unusedVariables false
set_option linter.unusedSimpArgs false
namespace Go.Proofs.Ytkjkokgbhepmoaa.PB
open Go.RowKit Go.Proofs.YtkjkokgbhepmoaaW.PrintWords Go.Proofs.YtkjkokgbhepmoaaW.PrintLast Go.Proofs.YtkjkokgbhepmoaaW.PrintMore
theorem info84 : (Try.prog.info? 84).map (fun i => (i.zero, i.size, i.bytes)) = some (some (.agg #[(.int .i64 0), (.int .i64 0)]), 2, 16) := by kernel_rfl
def slower_T7 : Bool × List (List Nat × List Nat) := (true, [([], []), ([0], [0]), ([], []), ([2], [2]), ([], []), ([3, 4], [3, 4]), ([5], [5]), ([6], [6]), ([7], [7]), ([], []), ([9], [9]), ([], []), ([10, 11], [10, 11]), ([12], [12]), ([13], [13]), ([8, 14], [8, 14]), ([15], [15]), ([1, 16], [1, 16]), ([0, 1, 2, 3, 4, 5, 6, 7, 8, 9, 10, 11, 12, 13, 14, 15, 16, 17], []), ([18, 17, 17, 0, 1, 2, 3, 4, 5, 6, 7, 8, 9, 10, 11, 12, 13, 14, 15, 16, 17], [17, 18])])
def slower_B7 : List Nat := [0, 1, 0, 4, 0, 28, 60, 124, 252, 0, 512, 0, 3584, 7680, 15872, 32764, 65532, 131071, 262143, 524287]
theorem slower_tab7 : rtab .any (opsOf Try.f10 7) = slower_T7 := by kernel_rfl
theorem slower_bits7 : waitsOk slower_T7.2 slower_B7 = true := by kernel_rfl
theorem slow_take (kn : List S84) (k : Nat) (h : k < kn.length) : ((slowL kn).take k) ++ [(⟨wrap64 (2 * ((rd_T84 kn (k : Int)).f0)), (rd_T84 kn (k : Int)).f1⟩ : S84)] = (slowL kn).take (k + 1) := by
  rw [List.take_add_one]
  congr 1
  simp [slowL, rd_T84, slow1, h]
structure RW4 (oL oB oX oS : Obj) (gs : Nat) (As : Option Addr) (l : List S84) (w W : World) : Prop where
  r3 : RW3 oL oB oX w W
  sb : W.heap[gs]? = some oS
  sc : Kd.C k84 W As l.length l
theorem RW4.step {oL oB oX oS : Obj} {gs : Nat} {As : Option Addr} {l : List S84} {w W W' : World} (h : RW4 oL oB oX oS gs As l w W) (hb : Below W.heap.size W W') : RW4 oL oB oX oS gs As l w W' :=
  ⟨h.r3.step hb, blk_below h.sb hb, Kd.C_below h.sc hb⟩
set_option maxHeartbeats 8000000 in
set_option maxRecDepth 100000 in
theorem slower_walk (A0 : Option Addr) (c0 : Nat) (kn : List S84) (fac : Int) (Ao : Option Addr) (co : Nat) (o : List ByteArray) (Am : Option Addr) (cm : Nat) (mt : List S63) (As : Option Addr) (cs : Nat) (s : List S27) (Ap : Option Addr) (cp : Nat) (p : List S65) (a4 a5 a6 : Int) (B0 : Option Addr) (d0 : Nat) (y0 : List S27) (y1 y2 y3 y4 y5 y6 y7 y8 : Int) (B9 : Option Addr) (d9 : Nat) (y9 : List Int) (y10 y11 y12 y13 y14 y15 y16 y17 y18 : Int) (Br : Option Addr) (dr : Nat) (r : List Int) (B20 : Option Addr) (d20 : Nat) (y20 : List S165) (w : World) (hr0 : Kd.C k84 w A0 kn.length kn) (hc0 : kn.length ≤ c0) (hro : Kd.C Kd.string w Ao o.length o) (hco : o.length ≤ co) (hrm : Kd.C k63 w Am mt.length mt) (hcm : mt.length ≤ cm) (hrs : Kd.C k27 w As s.length s) (hcs : s.length ≤ cs) (hrp : Kd.C k65 w Ap p.length p) (hcp : p.length ≤ cp) (hr1 : Kd.C k27 w B0 y0.length y0) (hc1 : y0.length ≤ d0) (hr9 : Kd.C (Kd.int .i64) w B9 y9.length y9) (hc9 : y9.length ≤ d9) (hrr : Kd.C (Kd.int .i64) w Br r.length r) (hcr : r.length ≤ dr) (hr20 : Kd.C k165 w B20 y20.length y20) (hc20 : y20.length ≤ d20) (K : Nat) (b c : Bool) (hG : lw_Great.f K o mt s p a4 a5 a6 = some b) (hW : culletlaw05_Wide.f K y0 y1 y2 y3 y4 y5 y6 y7 y8 y9 y10 y11 y12 y13 y14 y15 y16 y17 y18 r y20 = some c) (hLV : culletlaw05_lives.f K = some true) (r1 r2 s1 s2 ee h1 h2 eh n1 n2 es ea : Int) (j1 j2 : Bool) (hS : lehrV kn fac = 0 → lehrV (slowL kn) fac = 0 → x_Steepest.f K kn fac y7 y8 = some (r1, r2, ee) ∧ x_Steepest.f K (slowL kn) fac y7 y8 = some (s1, s2, ee) ∧ (ee = 0 → decide (r2 < 1) = false ∧ decide (s2 < 1) = false ∧ wrap64 (wrap64 (2 * s1) * r2) = wrap64 (r1 * s2)) ∧ x_Held.f K kn fac y11 = some (h1, eh) ∧ x_Held.f K (slowL kn) fac y11 = some (h2, eh) ∧ decide (h2 < wrap64 (2 * h1)) = false ∧ x_Strain.f K kn fac y7 y8 y12 = some (n1, es) ∧ x_Strain.f K (slowL kn) fac y7 y8 y12 = some (n2, es) ∧ decide (n1 < n2) = false ∧ x_Anneals.f K kn fac o mt s p a4 a5 a6 r y14 y15 y16 y12 y17 = some (j1, ea) ∧ x_Anneals.f K (slowL kn) fac o mt s p a4 a5 a6 r y14 y15 y16 y12 y17 = some (j2, ea)) (hJ : lehrV kn fac = 0 → lehrV (slowL kn) fac = 0 → j1 = true → j2 = true) :
    Calls Try.prog 10 #[.agg #[.slice A0 kn.length c0, .int .i64 fac], .agg #[.slice Ao o.length co, .slice Am mt.length cm, .slice As s.length cs, .slice Ap p.length cp, .int .i64 a4, .int .i64 a5, .int .i64 a6], .agg #[.slice B0 y0.length d0, .int .i64 y1, .int .i64 y2, .int .i64 y3, .int .i64 y4, .int .i64 y5, .int .i64 y6, .int .i64 y7, .int .i64 y8, .slice B9 y9.length d9, .int .i64 y10, .int .i64 y11, .int .i64 y12, .int .i64 y13, .int .i64 y14, .int .i64 y15, .int .i64 y16, .int .i64 y17, .int .i64 y18, .slice Br r.length dr, .slice B20 y20.length d20]] w fun e w' => e = .returned (.bool true) ∧ Below w.heap.size w w' := by
  have HR0 := Sd.mk hr0
  have HC0 := Sd.mk hc0
  clear hr0 hc0
  have HRo := Sd.mk hro
  have HCo := Sd.mk hco
  clear hro hco
  have HRm := Sd.mk hrm
  have HCm := Sd.mk hcm
  clear hrm hcm
  have HRs := Sd.mk hrs
  have HCs := Sd.mk hcs
  clear hrs hcs
  have HRp := Sd.mk hrp
  have HCp := Sd.mk hcp
  clear hrp hcp
  have HR1 := Sd.mk hr1
  have HC1 := Sd.mk hc1
  clear hr1 hc1
  have HR9 := Sd.mk hr9
  have HC9 := Sd.mk hc9
  clear hr9 hc9
  have HRr := Sd.mk hrr
  have HCr := Sd.mk hcr
  clear hrr hcr
  have HR20 := Sd.mk hr20
  have HC20 := Sd.mk hc20
  clear hr20 hc20
  obtain ⟨b1, b2, b3, hb0, hsz⟩ := blk_three w (.cells #[.slice A0 kn.length c0, .int .i64 fac] 71) (.cells #[.slice Ao o.length co, .slice Am mt.length cm, .slice As s.length cs, .slice Ap p.length cp, .int .i64 a4, .int .i64 a5, .int .i64 a6] 29) (.cells #[.slice B0 y0.length d0, .int .i64 y1, .int .i64 y2, .int .i64 y3, .int .i64 y4, .int .i64 y5, .int .i64 y6, .int .i64 y7, .int .i64 y8, .slice B9 y9.length d9, .int .i64 y10, .int .i64 y11, .int .i64 y12, .int .i64 y13, .int .i64 y14, .int .i64 y15, .int .i64 y16, .int .i64 y17, .int .i64 y18, .slice Br r.length dr, .slice B20 y20.length d20] 76)
  have RW0 : Sd (RW3 (.cells #[.slice A0 kn.length c0, .int .i64 fac] 71 (0, 0)) (.cells #[.slice Ao o.length co, .slice Am mt.length cm, .slice As s.length cs, .slice Ap p.length cp, .int .i64 a4, .int .i64 a5, .int .i64 a6] 29 (0, 0)) (.cells #[.slice B0 y0.length d0, .int .i64 y1, .int .i64 y2, .int .i64 y3, .int .i64 y4, .int .i64 y5, .int .i64 y6, .int .i64 y7, .int .i64 y8, .slice B9 y9.length d9, .int .i64 y10, .int .i64 y11, .int .i64 y12, .int .i64 y13, .int .i64 y14, .int .i64 y15, .int .i64 y16, .int .i64 y17, .int .i64 y18, .slice Br r.length dr, .slice B20 y20.length d20] 76 (0, 0)) w (((w.alloc (.cells #[.slice A0 kn.length c0, .int .i64 fac] 71)).alloc (.cells #[.slice Ao o.length co, .slice Am mt.length cm, .slice As s.length cs, .slice Ap p.length cp, .int .i64 a4, .int .i64 a5, .int .i64 a6] 29)).alloc (.cells #[.slice B0 y0.length d0, .int .i64 y1, .int .i64 y2, .int .i64 y3, .int .i64 y4, .int .i64 y5, .int .i64 y6, .int .i64 y7, .int .i64 y8, .slice B9 y9.length d9, .int .i64 y10, .int .i64 y11, .int .i64 y12, .int .i64 y13, .int .i64 y14, .int .i64 y15, .int .i64 y16, .int .i64 y17, .int .i64 y18, .slice Br r.length dr, .slice B20 y20.length d20] 76))) := ⟨⟨b1, b2, b3, hb0⟩⟩
  have HSZ0 : Sd (w.heap.size + 3 ≤ (((w.alloc (.cells #[.slice A0 kn.length c0, .int .i64 fac] 71)).alloc (.cells #[.slice Ao o.length co, .slice Am mt.length cm, .slice As s.length cs, .slice Ap p.length cp, .int .i64 a4, .int .i64 a5, .int .i64 a6] 29)).alloc (.cells #[.slice B0 y0.length d0, .int .i64 y1, .int .i64 y2, .int .i64 y3, .int .i64 y4, .int .i64 y5, .int .i64 y6, .int .i64 y7, .int .i64 y8, .slice B9 y9.length d9, .int .i64 y10, .int .i64 y11, .int .i64 y12, .int .i64 y13, .int .i64 y14, .int .i64 y15, .int .i64 y16, .int .i64 y17, .int .i64 y18, .slice Br r.length dr, .slice B20 y20.length d20] 76)).heap.size) := ⟨by omega⟩
  have HG := Sd.mk hG
  have HW := Sd.mk hW
  have HLV := Sd.mk hLV
  clear b1 b2 b3 hb0 hsz hG hW hLV
  go_enter Try.func10, Try.ntmps10
  go_upto_region 1 with (fail)
  generalize ((w.alloc (.cells #[.slice A0 kn.length c0, .int .i64 fac] 71)).alloc (.cells #[.slice Ao o.length co, .slice Am mt.length cm, .slice As s.length cs, .slice Ap p.length cp, .int .i64 a4, .int .i64 a5, .int .i64 a6] 29)).alloc (.cells #[.slice B0 y0.length d0, .int .i64 y1, .int .i64 y2, .int .i64 y3, .int .i64 y4, .int .i64 y5, .int .i64 y6, .int .i64 y7, .int .i64 y8, .slice B9 y9.length d9, .int .i64 y10, .int .i64 y11, .int .i64 y12, .int .i64 y13, .int .i64 y14, .int .i64 y15, .int .i64 y16, .int .i64 y17, .int .i64 y18, .slice Br r.length dr, .slice B20 y20.length d20] 76) = W0 at RW0 HSZ0 ⊢
  generalize Value.agg #[.slice A0 kn.length c0, .int .i64 fac] = uL
  generalize Value.agg #[.slice Ao o.length co, .slice Am mt.length cm, .slice As s.length cs, .slice Ap p.length cp, .int .i64 a4, .int .i64 a5, .int .i64 a6] = uB
  generalize Value.agg #[.slice B0 y0.length d0, .int .i64 y1, .int .i64 y2, .int .i64 y3, .int .i64 y4, .int .i64 y5, .int .i64 y6, .int .i64 y7, .int .i64 y8, .slice B9 y9.length d9, .int .i64 y10, .int .i64 y11, .int .i64 y12, .int .i64 y13, .int .i64 y14, .int .i64 y15, .int .i64 y16, .int .i64 y17, .int .i64 y18, .slice Br r.length dr, .slice B20 y20.length d20] = uX
  have gL0 : W0.cell? ⟨w.heap.size, 0, none⟩ = some (.slice A0 kn.length c0) := (blk_cell RW0.out.bl 0).trans rfl
  have HLB := Sd.mk (run_loadVar_row (P := Try.prog) _ _ 29 29 _ (0, 0) _ RW0.out.bb Try.underlying29 rfl (by kernel_rfl))
  have HLX := Sd.mk (run_loadVar_row (P := Try.prog) _ _ 76 76 _ (0, 0) _ RW0.out.bx Try.underlying76 rfl (by kernel_rfl))
  (try simp only [Act.put, List.setIfInBounds_toArray, List.set_cons_zero, List.set_cons_succ])
  go_cut [30] (fun v30 wc => ∃ bb : Bool, v30 = .bool bb ∧ Sd (RW3 (.cells #[.slice A0 kn.length c0, .int .i64 fac] 71 (0, 0)) (.cells #[.slice Ao o.length co, .slice Am mt.length cm, .slice As s.length cs, .slice Ap p.length cp, .int .i64 a4, .int .i64 a5, .int .i64 a6] 29 (0, 0)) (.cells #[.slice B0 y0.length d0, .int .i64 y1, .int .i64 y2, .int .i64 y3, .int .i64 y4, .int .i64 y5, .int .i64 y6, .int .i64 y7, .int .i64 y8, .slice B9 y9.length d9, .int .i64 y10, .int .i64 y11, .int .i64 y12, .int .i64 y13, .int .i64 y14, .int .i64 y15, .int .i64 y16, .int .i64 y17, .int .i64 y18, .slice Br r.length dr, .slice B20 y20.length d20] 76 (0, 0)) w wc) ∧ Sd (bb = false → kn.length ≤ 100) ∧ Sd (w.heap.size + 3 ≤ wc.heap.size))
  case first =>
    as_aux_lemma =>
      by_cases h1 : (kn.length : Int) > 100
      · have c1 : decide (100 < (kn.length : Int)) = true := decide_eq_true h1
        have c2 : decide (100 < kn.length) = true := decide_eq_true (by omega)
        clear h1
        go_wp2
        go_meet
        case rel => exact ⟨true, rfl, RW0, ⟨by simp⟩, HSZ0⟩
      · have c1 : decide (100 < (kn.length : Int)) = false := decide_eq_false h1
        have c2 : decide (100 < kn.length) = false := decide_eq_false (by omega)
        have HN := Sd.mk h1
        clear h1
        cases b with
        | true =>
          go_wp2_with (first | (refine wp_loadrow_g 29 _ _ _ (by go_simp) rfl rfl HLB.out ?_) | (go_at_call 12; (with_reducible refine (lw_Great.calls K _ _ o _ _ mt _ _ s _ _ p a4 a5 a6 _ _ (Kd.C_below HRo.out RW0.out.be) HCo.out (Kd.C_below HRm.out RW0.out.be) HCm.out (Kd.C_below HRs.out RW0.out.be) HCs.out (Kd.C_below HRp.out RW0.out.be) HCp.out HG.out).mono ?_); rintro e w1 ⟨rfl, hb⟩; have RW1 := Sd.mk (RW0.out.step hb); have SZ1 := Sd.mk hb.size; clear hb; skip))
          go_meet
          case rel => exact ⟨true, rfl, RW1, ⟨by simp⟩, ⟨Nat.le_trans HSZ0.out SZ1.out⟩⟩
        | false =>
          go_wp2_with (first | (refine wp_loadrow_g 29 _ _ _ (by go_simp) rfl rfl HLB.out ?_) | (clear HLX; go_at_call 12; (with_reducible refine (lw_Great.calls K _ _ o _ _ mt _ _ s _ _ p a4 a5 a6 _ _ (Kd.C_below HRo.out RW0.out.be) HCo.out (Kd.C_below HRm.out RW0.out.be) HCm.out (Kd.C_below HRs.out RW0.out.be) HCs.out (Kd.C_below HRp.out RW0.out.be) HCp.out HG.out).mono ?_); rintro e w1 ⟨rfl, hb⟩; have RW1 := Sd.mk (RW0.out.step hb); have SZ1 := Sd.mk hb.size; clear hb; have HLX := Sd.mk (run_loadVar_row (P := Try.prog) _ _ 76 76 _ (0, 0) _ RW1.out.bx Try.underlying76 rfl (by kernel_rfl))) | (refine wp_loadrow_g 76 _ _ _ (by go_simp) rfl rfl HLX.out ?_) | (go_at_call 35; (with_reducible refine (culletlaw05_Wide.calls K _ _ y0 y1 y2 y3 y4 y5 y6 y7 y8 _ _ y9 y10 y11 y12 y13 y14 y15 y16 y17 y18 _ _ r _ _ y20 _ _ (Kd.C_below HR1.out RW1.out.be) HC1.out (Kd.C_below HR9.out RW1.out.be) HC9.out (Kd.C_below HRr.out RW1.out.be) HCr.out (Kd.C_below HR20.out RW1.out.be) HC20.out HW.out).mono ?_); rintro e w2 ⟨rfl, hb⟩; have RW2 := Sd.mk (RW1.out.step hb); have SZ2 := Sd.mk hb.size; clear hb; skip))
          go_meet
          case rel => exact ⟨c, rfl, RW2, ⟨fun _ => by have := HN.out; omega⟩, ⟨Nat.le_trans HSZ0.out (Nat.le_trans SZ1.out SZ2.out)⟩⟩
  case rest =>
    as_aux_lemma =>
      clear HLB HLX gL0 RW0 HSZ0
      obtain ⟨bb, rfl, RW1, HN0, HSZ1⟩ := hcut
      cases bb with
      | true =>
        go_wp2_with (first | (go_at_call 36; (with_reducible refine (culletlaw05_lives.calls K true _ HLV.out).mono ?_); rintro e wl ⟨rfl, hb⟩))
        go_ret
        exact ⟨rfl, below_then RW1.out.be RW1.out.be.size hb⟩
      | false =>
        have HN := Sd.mk (HN0.out rfl)
        clear HN0
        have gL1 : wc.cell? ⟨w.heap.size, 0 + 1, none⟩ = some (.int .i64 fac) := (blk_cell RW1.out.bl 1).trans rfl
        go_upto_region 4 with (fail)
        have RW2 := Sd.mk (RW1.out.alloc (.cells #[.slice none 0 0, .int .i64 fac] 71))
        have BS := Sd.mk (blk_new wc (.cells #[.slice none 0 0, .int .i64 fac] 71))
        have HGS : Sd (w.heap.size + 3 ≤ wc.heap.size) := HSZ1
        generalize wc.alloc (.cells #[.slice none 0 0, .int .i64 fac] 71) = w5 at RW2 BS ⊢
        generalize wc.heap.size = gs at BS HGS ⊢
        clear gL1 RW1 HSZ1
        go_wp2
        go_loopg [8] kn.length (fun gq v8 wr => ∃ (k : Nat) (v : Value), v8 = .int .i64 k ∧ k ≤ kn.length ∧ kn.length - k ≤ gq ∧ Sd (RW3 (.cells #[.slice A0 kn.length c0, .int .i64 fac] 71 (0, 0)) (.cells #[.slice Ao o.length co, .slice Am mt.length cm, .slice As s.length cs, .slice Ap p.length cp, .int .i64 a4, .int .i64 a5, .int .i64 a6] 29 (0, 0)) (.cells #[.slice B0 y0.length d0, .int .i64 y1, .int .i64 y2, .int .i64 y3, .int .i64 y4, .int .i64 y5, .int .i64 y6, .int .i64 y7, .int .i64 y8, .slice B9 y9.length d9, .int .i64 y10, .int .i64 y11, .int .i64 y12, .int .i64 y13, .int .i64 y14, .int .i64 y15, .int .i64 y16, .int .i64 y17, .int .i64 y18, .slice Br r.length dr, .slice B20 y20.length d20] 76 (0, 0)) w wr) ∧ Sd (wr.heap[gs]? = some (.cells #[v, .int .i64 fac] 71 (0, 0))) ∧ Sd (Kd.R k84 84 wr w.heap.size (fun _ => True) v ((slowL kn).take k)))
        case atStart => exact ⟨0, .slice none 0 0, rfl, by omega, by omega, RW2, BS, ⟨Kd.R_nil _ _ _ _ _⟩⟩
        case round =>
          as_aux_lemma =>
            clear RW2 BS
            obtain ⟨k, v, rfl, hk, hgk, RW5, BK716, HOk⟩ := hrel
            by_cases hlt : k < kn.length
            · have c40b0 : decide ((k : Int) < (kn.length : Int)) = true := decide_eq_true (by omega)
              have c40b1 : decide (k < kn.length) = true := decide_eq_true hlt
              have c41b0 : decide (0 ≤ (k : Int)) = true := decide_eq_true (by omega)
              have hk1 : (k : Int) + 1 ≤ 1000 := by have := HN.out; omega
              have hwr : wrap64 ((k : Int) + 1) = (k : Int) + 1 := wrap_succ (by omega) (by omega)
              have BK710 := Sd.mk RW5.out.bl
              have BK711 := Sd.mk RW5.out.bb
              have BK712 := Sd.mk RW5.out.bx
              have HB := Sd.mk RW5.out.be
              have HLk : Sd (((slowL kn).take k) ++ [(⟨wrap64 (2 * ((rd_T84 kn (k : Int)).f0)), (rd_T84 kn (k : Int)).f1⟩ : S84)] = (slowL kn).take (k + 1)) := ⟨slow_take kn k hlt⟩
              have HLn : Sd (((slowL kn).take k).length = k) := ⟨by simp [slowL]; omega⟩
              generalize (slowL kn).take k = Lk at HOk HLk HLn
              have LMc42 : Sd (Lk.length < 8796093022208) := ⟨by have := HLn.out; omega⟩
              obtain ⟨yk, hyk⟩ : ∃ y_ : List S84, y_ = (Lk ++ [(⟨wrap64 (2 * ((rd_T84 kn (k : Int)).f0)), (rd_T84 kn (k : Int)).f1⟩ : S84)]) := ⟨_, rfl⟩
              have Ny719 := Sd.mk hyk
              clear hyk RW5
              have NB710_716 : Sd (w.heap.size ≠ gs) := ⟨by have := HGS.out; omega⟩
              have NB711_716 : Sd (w.heap.size + 1 ≠ gs) := ⟨by have := HGS.out; omega⟩
              have NB712_716 : Sd (w.heap.size + 1 + 1 ≠ gs) := ⟨by have := HGS.out; omega⟩
              have NB716_710 : Sd (gs ≠ w.heap.size) := ⟨by have := HGS.out; omega⟩
              have NB716_711 : Sd (gs ≠ w.heap.size + 1) := ⟨by have := HGS.out; omega⟩
              have NB716_712 : Sd (gs ≠ w.heap.size + 1 + 1) := ⟨by have := HGS.out; omega⟩
              have hcz46_0 : wr.cell? ⟨w.heap.size, 0, none⟩ = some (.slice A0 kn.length c0) := (blk_cell BK710.out 0).trans rfl
              have hcz46_1 : wr.cell? ⟨w.heap.size, 0 + 1, none⟩ = some (.int .i64 fac) := (blk_cell BK710.out 1).trans rfl
              try go_wp2
              have n0_ := Sd.mk (Kd.R_drew HOk.out)
              have n1_ := Sd.mk (blk_drew BK710.out)
              have n2_ := Sd.mk (blk_drew BK711.out)
              have n3_ := Sd.mk (blk_drew BK712.out)
              have n4_ := Sd.mk (blk_drew BK716.out)
              have n5_ := Sd.mk (below_drew1 HB.out)
              clear HOk
              clear BK710
              clear BK711
              clear BK712
              clear BK716
              clear HB
              have HOk := n0_
              have BK710 := n1_
              have BK711 := n2_
              have BK712 := n3_
              have BK716 := n4_
              have HB := n5_
              clear n0_ n1_ n2_ n3_ n4_ n5_
              have p717 : 0 ≤ (k : Int) := of_decide_eq_true (by first | (with_reducible assumption) | assumption)
              have q717 : (k : Int) < (kn.length : Int) := of_decide_eq_true (by first | (with_reducible assumption) | assumption)
              obtain ⟨ad717, e717, hx717_0, hx717_1⟩ := at_T84 HR0.out (k : Int) p717 q717
              simp only [Int.toNat_natCast] at hx717_0 hx717_1
              have hw717_1 := hx717_1
              have hw717_0 := hx717_0
              cases e717
              replace hx717_0 := (HB.out.cell (World.block_lt_of_cell? w _ hx717_0)).trans hx717_0
              replace hx717_1 := (HB.out.cell (World.block_lt_of_cell? w _ hx717_1)).trans hx717_1
              replace p717 := eq_true p717
              replace q717 := eq_true q717
              have p718 : 0 ≤ (k : Int) := of_decide_eq_true (by first | (with_reducible assumption) | assumption)
              have q718 : (k : Int) < (kn.length : Int) := of_decide_eq_true (by first | (with_reducible assumption) | assumption)
              obtain ⟨ad718, e718, hx718_0, hx718_1⟩ := at_T84 HR0.out (k : Int) p718 q718
              simp only [Int.toNat_natCast] at hx718_0 hx718_1
              have hw718_1 := hx718_1
              have hw718_0 := hx718_0
              obtain rfl : ad717 = ad718 := (by injection e718)
              replace hx718_0 := (HB.out.cell (World.block_lt_of_cell? w _ hx718_0)).trans hx718_0
              replace hx718_1 := (HB.out.cell (World.block_lt_of_cell? w _ hx718_1)).trans hx718_1
              replace p718 := eq_true p718
              replace q718 := eq_true q718
              refine start_ (n := 20) (S := fun w' => w'.cell? ⟨gs, 0, none⟩ = some (v) ∧ w'.cell? ⟨gs, 1, none⟩ = some (.int .i64 fac) ∧ w'.cell? ⟨w.heap.size, 0, none⟩ = some (.slice (some ad717) kn.length c0) ∧ w'.cell? ⟨w.heap.size, 1, none⟩ = some (.int .i64 fac) ∧ w'.cell? (ad717.add (k * 2)) = some (.int .i64 ((rd_T84 kn (k : Int)).f0)) ∧ w'.cell? ⟨(ad717.add (k * 2)).block, (ad717.add (k * 2)).off + 1, none⟩ = some (.int .i64 ((rd_T84 kn (k : Int)).f1)) ∧ w'.cell? (ad717.add (k * 2)) = some (.int .i64 ((rd_T84 kn (k : Int)).f0)) ∧ w'.cell? ⟨(ad717.add (k * 2)).block, (ad717.add (k * 2)).off + 1, none⟩ = some (.int .i64 ((rd_T84 kn (k : Int)).f1))) (ds := [19]) #[false, false, false, false, false, false, false, false, false, false, false, false, false, false, false, false, false, false, false, false] (by kernel_rfl) rfl rfl ⟨(blk_cell BK716.out 0).trans rfl, (blk_cell BK716.out 1).trans rfl, (blk_cell BK710.out 0).trans rfl, (blk_cell BK710.out 1).trans rfl, ((HB.out.cell (World.block_lt_of_cell? w _ hw717_0)).trans hw717_0), ((HB.out.cell (World.block_lt_of_cell? w _ hw717_1)).trans hw717_1), ((HB.out.cell (World.block_lt_of_cell? w _ hw718_0)).trans hw718_0), ((HB.out.cell (World.block_lt_of_cell? w _ hw718_1)).trans hw718_1)⟩ (fun hHeld => ?_); refine with_tabW slower_tab7 slower_bits7 (fun HT_ HW_ => ?_)
              generalize wr.drew = w47 at HOk BK710 BK711 BK712 BK716 HB hx717_0 hx717_1 hx718_0 hx718_1 hHeld ⊢
              refine pure_ (i := 0) (N := some 42) (v := ?_) (a' := ?_) #[true, false, false, false, false, false, false, false, false, false, false, false, false, false, false, false, false, false, false, false] rfl rfl (any_of HT_.out (by kernel_rfl)) (fun _ _ _ h => h) (Or.inl ⟨by rfl, ?_⟩) ?_ ?_
              rotate_left
              · intro w'
                go_simp
                with_reducible rfl
              rotate_left
              · simp only [Act.put, List.setIfInBounds_toArray, List.set_cons_zero, List.set_cons_succ, i64_w, i32_w]
                rfl
              refine pure_ (i := 2) (N := some 44) (v := ?_) (a' := ?_) #[true, false, true, false, false, false, false, false, false, false, false, false, false, false, false, false, false, false, false, false] rfl rfl (any_of HT_.out (by kernel_rfl)) (fun _ _ _ h => h) (Or.inl ⟨by rfl, ?_⟩) ?_ ?_
              rotate_left
              · intro w'
                go_simp
                with_reducible rfl
              rotate_left
              · simp only [Act.put, List.setIfInBounds_toArray, List.set_cons_zero, List.set_cons_succ, i64_w, i32_w]
                rfl
              refine pure_ (i := 4) (N := some 46) (v := ?_) (a' := ?_) #[true, false, true, false, true, false, false, false, false, false, false, false, false, false, false, false, false, false, false, false] rfl rfl (any_of HT_.out (by kernel_rfl)) (fun _ _ _ h => h) (Or.inl ⟨by rfl, ?_⟩) ?_ ?_
              rotate_left
              · intro w'
                go_simp
                with_reducible rfl
              rotate_left
              · simp only [Act.put, List.setIfInBounds_toArray, List.set_cons_zero, List.set_cons_succ, i64_w, i32_w]
                rfl
              refine pure_ (i := 9) (N := some 51) (v := ?_) (a' := ?_) #[true, false, true, false, true, false, false, false, false, true, false, false, false, false, false, false, false, false, false, false] rfl rfl (any_of HT_.out (by kernel_rfl)) (fun _ _ _ h => h) (Or.inl ⟨by rfl, ?_⟩) ?_ ?_
              rotate_left
              · intro w'
                go_simp
                with_reducible rfl
              rotate_left
              · simp only [Act.put, List.setIfInBounds_toArray, List.set_cons_zero, List.set_cons_succ, i64_w, i32_w]
                rfl
              refine pure_ (i := 11) (N := some 53) (v := ?_) (a' := ?_) #[true, false, true, false, true, false, false, false, false, true, false, true, false, false, false, false, false, false, false, false] rfl rfl (any_of HT_.out (by kernel_rfl)) (fun _ _ _ h => h) (Or.inl ⟨by rfl, ?_⟩) ?_ ?_
              rotate_left
              · intro w'
                go_simp
                with_reducible rfl
              rotate_left
              · simp only [Act.put, List.setIfInBounds_toArray, List.set_cons_zero, List.set_cons_succ, i64_w, i32_w]
                rfl
              refine take_ (i := 1) (N := some 43) (v := ?_) (a' := ?_) #[true, true, true, false, true, false, false, false, false, true, false, true, false, false, false, false, false, false, false, false] rfl rfl (take_ofW HT_.out HW_.out (by kernel_rfl)) (fun _ _ _ h => h) (Or.inl ⟨by rfl, ?_⟩) hHeld ?_ ?_
              rotate_left
              · rintro w' ⟨s0, s1, s2, s3, s4, s5, s6, s7⟩
                go_simp
                with_reducible rfl
              rotate_left
              · simp only [Act.put, List.setIfInBounds_toArray, List.set_cons_zero, List.set_cons_succ, i64_w, i32_w]
                rfl
              refine take_ (i := 3) (N := some 45) (v := ?_) (a' := ?_) #[true, true, true, true, true, false, false, false, false, true, false, true, false, false, false, false, false, false, false, false] rfl rfl (take_ofW HT_.out HW_.out (by kernel_rfl)) (fun _ _ _ h => h) (Or.inl ⟨by rfl, ?_⟩) hHeld ?_ ?_
              rotate_left
              · rintro w' ⟨s0, s1, s2, s3, s4, s5, s6, s7⟩
                go_simp
                with_reducible rfl
              rotate_left
              · simp only [Act.put, List.setIfInBounds_toArray, List.set_cons_zero, List.set_cons_succ, i64_w, i32_w]
                rfl
              refine pure_ (i := 5) (N := some 47) (v := ?_) (a' := ?_) #[true, true, true, true, true, true, false, false, false, true, false, true, false, false, false, false, false, false, false, false] rfl rfl (any_of HT_.out (by kernel_rfl)) (fun _ _ _ h => h) (Or.inl ⟨by rfl, ?_⟩) ?_ ?_
              rotate_left
              · intro w'
                go_simp
                with_reducible rfl
              rotate_left
              · simp only [Act.put, List.setIfInBounds_toArray, List.set_cons_zero, List.set_cons_succ, i64_w, i32_w]
                rfl
              refine pure_ (i := 6) (N := some 48) (v := ?_) (a' := ?_) #[true, true, true, true, true, true, true, false, false, true, false, true, false, false, false, false, false, false, false, false] rfl rfl (any_of HT_.out (by kernel_rfl)) (fun _ _ _ h => h) (Or.inl ⟨by rfl, ?_⟩) ?_ ?_
              rotate_left
              · intro w'
                go_simp
                with_reducible rfl
              rotate_left
              · simp only [Act.put, List.setIfInBounds_toArray, List.set_cons_zero, List.set_cons_succ, i64_w, i32_w]
                rfl
              refine take_ (i := 7) (N := some 49) (v := ?_) (a' := ?_) #[true, true, true, true, true, true, true, true, false, true, false, true, false, false, false, false, false, false, false, false] rfl rfl (take_ofW HT_.out HW_.out (by kernel_rfl)) (fun _ _ _ h => h) (Or.inl ⟨by rfl, ?_⟩) hHeld ?_ ?_
              rotate_left
              · rintro w' ⟨s0, s1, s2, s3, s4, s5, s6, s7⟩
                go_simp
                with_reducible rfl
              rotate_left
              · simp only [Act.put, List.setIfInBounds_toArray, List.set_cons_zero, List.set_cons_succ, i64_w, i32_w]
                rfl
              refine pure_ (i := 8) (N := some 50) (v := ?_) (a' := ?_) #[true, true, true, true, true, true, true, true, true, true, false, true, false, false, false, false, false, false, false, false] rfl rfl (any_of HT_.out (by kernel_rfl)) (fun _ _ _ h => h) (Or.inl ⟨by rfl, ?_⟩) ?_ ?_
              rotate_left
              · intro w'
                go_simp
                with_reducible rfl
              rotate_left
              · simp only [Act.put, List.setIfInBounds_toArray, List.set_cons_zero, List.set_cons_succ, i64_w, i32_w]
                rfl
              refine take_ (i := 10) (N := some 52) (v := ?_) (a' := ?_) #[true, true, true, true, true, true, true, true, true, true, true, true, false, false, false, false, false, false, false, false] rfl rfl (take_ofW HT_.out HW_.out (by kernel_rfl)) (fun _ _ _ h => h) (Or.inl ⟨by rfl, ?_⟩) hHeld ?_ ?_
              rotate_left
              · rintro w' ⟨s0, s1, s2, s3, s4, s5, s6, s7⟩
                go_simp
                with_reducible rfl
              rotate_left
              · simp only [Act.put, List.setIfInBounds_toArray, List.set_cons_zero, List.set_cons_succ, i64_w, i32_w]
                rfl
              refine pure_ (i := 12) (N := some 54) (v := ?_) (a' := ?_) #[true, true, true, true, true, true, true, true, true, true, true, true, true, false, false, false, false, false, false, false] rfl rfl (any_of HT_.out (by kernel_rfl)) (fun _ _ _ h => h) (Or.inl ⟨by rfl, ?_⟩) ?_ ?_
              rotate_left
              · intro w'
                go_simp
                with_reducible rfl
              rotate_left
              · simp only [Act.put, List.setIfInBounds_toArray, List.set_cons_zero, List.set_cons_succ, i64_w, i32_w]
                rfl
              refine pure_ (i := 13) (N := some 55) (v := ?_) (a' := ?_) #[true, true, true, true, true, true, true, true, true, true, true, true, true, true, false, false, false, false, false, false] rfl rfl (any_of HT_.out (by kernel_rfl)) (fun _ _ _ h => h) (Or.inl ⟨by rfl, ?_⟩) ?_ ?_
              rotate_left
              · intro w'
                go_simp
                with_reducible rfl
              rotate_left
              · simp only [Act.put, List.setIfInBounds_toArray, List.set_cons_zero, List.set_cons_succ, i64_w, i32_w]
                rfl
              refine take_ (i := 14) (N := some 56) (v := ?_) (a' := ?_) #[true, true, true, true, true, true, true, true, true, true, true, true, true, true, true, false, false, false, false, false] rfl rfl (take_ofW HT_.out HW_.out (by kernel_rfl)) (fun _ _ _ h => h) (Or.inl ⟨by rfl, ?_⟩) hHeld ?_ ?_
              rotate_left
              · rintro w' ⟨s0, s1, s2, s3, s4, s5, s6, s7⟩
                go_simp
                with_reducible rfl
              rotate_left
              · simp only [Act.put, List.setIfInBounds_toArray, List.set_cons_zero, List.set_cons_succ, i64_w, i32_w]
                rfl
              refine pure_ (i := 15) (N := some 57) (v := ?_) (a' := ?_) #[true, true, true, true, true, true, true, true, true, true, true, true, true, true, true, true, false, false, false, false] rfl rfl (any_of HT_.out (by kernel_rfl)) (fun _ _ _ h => h) (Or.inl ⟨by rfl, ?_⟩) ?_ ?_
              rotate_left
              · intro w'
                go_simp
                with_reducible rfl
              rotate_left
              · simp only [Act.put, List.setIfInBounds_toArray, List.set_cons_zero, List.set_cons_succ, i64_w, i32_w]
                rfl
              refine one_ (i := 16) (N := some 58) #[true, true, true, true, true, true, true, true, true, true, true, true, true, true, true, true, true, false, false, false] rfl rfl (one_of HT_.out (by kernel_rfl)) (by decide) (fun K hK => ?_)
              refine value_ (w1 := ?_) (v := ?_) (by rfl) rfl ?_ ?_
              rotate_left 2
              · go_simp
                constructor
                · rfl
                · rfl
              refine hK.out _ _ ⟨(blk_cell (blk_alloc BK716.out _) 0).trans rfl, (blk_cell (blk_alloc BK716.out _) 1).trans rfl, (blk_cell (blk_alloc BK710.out _) 0).trans rfl, (blk_cell (blk_alloc BK710.out _) 1).trans rfl, (World.cell?_alloc_lt _ _ _ (World.block_lt_of_cell? _ _ (((HB.out.cell (World.block_lt_of_cell? w _ hw717_0)).trans hw717_0)))).trans (((HB.out.cell (World.block_lt_of_cell? w _ hw717_0)).trans hw717_0)), (World.cell?_alloc_lt _ _ _ (World.block_lt_of_cell? _ _ (((HB.out.cell (World.block_lt_of_cell? w _ hw717_1)).trans hw717_1)))).trans (((HB.out.cell (World.block_lt_of_cell? w _ hw717_1)).trans hw717_1)), (World.cell?_alloc_lt _ _ _ (World.block_lt_of_cell? _ _ (((HB.out.cell (World.block_lt_of_cell? w _ hw718_0)).trans hw718_0)))).trans (((HB.out.cell (World.block_lt_of_cell? w _ hw718_0)).trans hw718_0)), (World.cell?_alloc_lt _ _ _ (World.block_lt_of_cell? _ _ (((HB.out.cell (World.block_lt_of_cell? w _ hw718_1)).trans hw718_1)))).trans (((HB.out.cell (World.block_lt_of_cell? w _ hw718_1)).trans hw718_1))⟩ (fun hHeld => ?_)
              clear hK K
              refine norm_ (a' := ?_) ?_ ?_
              rotate_left
              · show Act.put _ (some 58) _ = _
                simp only [Act.put, List.setIfInBounds_toArray, List.set_cons_zero, List.set_cons_succ, i64_w, i32_w]
                rfl
              refine one_ (i := 17) (N := some 59) #[true, true, true, true, true, true, true, true, true, true, true, true, true, true, true, true, true, true, false, false] rfl rfl (one_of HT_.out (by kernel_rfl)) (by decide) (fun K hK => ?_)
              refine Kd.R_append_step k84 (w0 := w) w.heap.size (by rfl) (.tmp 43) (.tmp 58) 69 84 (.agg #[(.int .i64 0), (.int .i64 0)]) 16 rfl Try.underlying69 info84 rfl (by decide) (by omega) v Lk (⟨wrap64 (2 * ((rd_T84 kn (k : Int)).f0)), (rd_T84 kn (k : Int)).f1⟩ : S84) [.int .i64 (wrap64 (2 * ((rd_T84 kn (k : Int)).f0))), .int .i64 ((rd_T84 kn (k : Int)).f1)] (fun _ => True) (fun _ => False) rfl rfl ?aP (fun _ hk => hk.elim) ?aF ?aO ?aB ?aS ?aL ?_
              (case aP => exact k84_mkM _ _ _ (⟨wrap64 (2 * ((rd_T84 kn (k : Int)).f0)), (rd_T84 kn (k : Int)).f1⟩ : S84))
              (case aB => exact (by repeat (first | (with_reducible first | exact HB.out | apply below_alloc | apply pw_below_drewN | apply below_drew1 | refine below_set ?_ GE710.out | refine below_set ?_ GE711.out | refine below_set ?_ GE712.out | refine below_set ?_ GE716.out) | exact HB.out)))
              (case aF => exact (fun _ _ => trivial))
              (case aO => exact (by (with_reducible repeat (first | apply Kd.R_alloc | apply Kd.R_drewN | apply Kd.R_drew)); exact HOk.out))
              (case aS => exact (below_size (by repeat (first | (with_reducible first | exact HB.out | apply below_alloc | apply pw_below_drewN | apply below_drew1 | refine below_set ?_ GE710.out | refine below_set ?_ GE711.out | refine below_set ?_ GE712.out | refine below_set ?_ GE716.out) | exact HB.out))))
              (case aL => have := LMc42.out; omega)
              intro v720 w48 ho hb hg hat
              rw [← Ny719.out] at ho
              have n0_ := Sd.mk (blk_grown (g := w.heap.size) (o := .cells #[.slice (some ad717) kn.length c0, .int .i64 fac] 71 (0, 0)) (by (with_reducible repeat (first | refine blk_drewN ?_ _ | refine blk_drew ?_ | refine blk_alloc ?_ _)); exact BK710.out) hg (Kd.R_ne HOk.out BK710.out (by decide)))
              have n1_ := Sd.mk (blk_grown (g := (w.heap.size + 1)) (o := .cells #[.slice Ao o.length co, .slice Am mt.length cm, .slice As s.length cs, .slice Ap p.length cp, .int .i64 a4, .int .i64 a5, .int .i64 a6] 29 (0, 0)) (by (with_reducible repeat (first | refine blk_drewN ?_ _ | refine blk_drew ?_ | refine blk_alloc ?_ _)); exact BK711.out) hg (Kd.R_ne HOk.out BK711.out (by decide)))
              have n2_ := Sd.mk (blk_grown (g := (w.heap.size + 1 + 1)) (o := .cells #[.slice B0 y0.length d0, .int .i64 y1, .int .i64 y2, .int .i64 y3, .int .i64 y4, .int .i64 y5, .int .i64 y6, .int .i64 y7, .int .i64 y8, .slice B9 y9.length d9, .int .i64 y10, .int .i64 y11, .int .i64 y12, .int .i64 y13, .int .i64 y14, .int .i64 y15, .int .i64 y16, .int .i64 y17, .int .i64 y18, .slice Br r.length dr, .slice B20 y20.length d20] 76 (0, 0)) (by (with_reducible repeat (first | refine blk_drewN ?_ _ | refine blk_drew ?_ | refine blk_alloc ?_ _)); exact BK712.out) hg (Kd.R_ne HOk.out BK712.out (by decide)))
              have n3_ := Sd.mk (blk_grown (g := gs) (o := .cells #[v, .int .i64 fac] 71 (0, 0)) (by (with_reducible repeat (first | refine blk_drewN ?_ _ | refine blk_drew ?_ | refine blk_alloc ?_ _)); exact BK716.out) hg (Kd.R_ne HOk.out BK716.out (by decide)))
              have n4_ := Sd.mk (hb)
              have n5_ := Sd.mk (ho)
              clear BK710
              clear BK711
              clear BK712
              clear BK716
              clear HB
              clear HOk
              have BK710 := n0_
              have BK711 := n1_
              have BK712 := n2_
              have BK716 := n3_
              have HB := n4_
              have HO721 := n5_
              clear n0_ n1_ n2_ n3_ n4_ n5_
              clear ho hb hg hat
              obtain ⟨Ao49, co49, eo49⟩ := Kd.R_slice HO721.out
              (first | subst eo49 | (injection eo49 with f1_ f2_ f3_; have f4_ := f1_.symm; have f5_ := f3_.symm; clear f1_ f2_ f3_; subst f4_; subst f5_))
              refine hK.out _ _ ⟨(blk_cell BK716.out 0).trans rfl, (blk_cell BK716.out 1).trans rfl, (blk_cell BK710.out 0).trans rfl, (blk_cell BK710.out 1).trans rfl, ((HB.out.cell (World.block_lt_of_cell? w _ hw717_0)).trans hw717_0), ((HB.out.cell (World.block_lt_of_cell? w _ hw717_1)).trans hw717_1), ((HB.out.cell (World.block_lt_of_cell? w _ hw718_0)).trans hw718_0), ((HB.out.cell (World.block_lt_of_cell? w _ hw718_1)).trans hw718_1)⟩ (fun hHeld => ?_)
              clear hK K
              refine norm_ (a' := ?_) ?_ ?_
              rotate_left
              · show Act.put _ (some 59) _ = _
                simp only [Act.put, List.setIfInBounds_toArray, List.set_cons_zero, List.set_cons_succ, i64_w, i32_w]
                rfl
              refine pure_ (i := 18) (N := some 60) (v := ?_) (a' := ?_) #[true, true, true, true, true, true, true, true, true, true, true, true, true, true, true, true, true, true, true, false] rfl rfl (any_of HT_.out (by kernel_rfl)) (fun _ _ _ h => h) (Or.inl ⟨by rfl, ?_⟩) ?_ ?_
              rotate_left
              · intro w'
                go_simp
                with_reducible rfl
              rotate_left
              · simp only [Act.put, List.setIfInBounds_toArray, List.set_cons_zero, List.set_cons_succ, i64_w, i32_w]
                rfl
              refine last_ (i := 19) (N := none) #[true, true, true, true, true, true, true, true, true, true, true, true, true, true, true, true, true, true, true, true] rfl rfl (one_of HT_.out (by kernel_rfl)) (by decide) (fun K hK => ?_)
              have hs50 : w48.cell? ⟨gs, 0, none⟩ = some (v) := (blk_cell BK716.out 0).trans rfl
              have hfs50 := blk_frozen BK716.out 0
              have hns50_0 := NB710_716.out
              have hns50_1 := NB711_716.out
              have hns50_2 := NB712_716.out
              have hms50_0 := NB716_710.out
              have hms50_1 := NB716_711.out
              have hms50_2 := NB716_712.out
              refine skip_ (w1 := ?_) (by rfl) rfl ?_ ?_
              rotate_left
              · go_simp
                rfl
              refine hK.out _ _ ?_
              clear hK K
              refine done_ (done_of HT_.out (by kernel_rfl)) ?_
              try go_wp2
              go_roundg (kn.length - (k + 1))
              case measure => omega
              case rel => exact ⟨k + 1, .slice Ao49 yk.length co49, by go_num, by omega, by omega, ⟨⟨blk_far BK710.out NB710_716.out _, blk_far BK711.out NB711_716.out _, blk_far BK712.out NB712_716.out _, below_set HB.out (by have := HGS.out; omega)⟩⟩, ⟨blk_put BK716.out 0 _ rfl⟩, ⟨by rw [← HLk.out, ← Ny719.out]; exact Kd.R_mono (Kd.R_far (p := ⟨gs, 0, none⟩) (Kd.R_types HO721.out BK716.out (by decide)) (fun _ hk => hk.2) _) (fun _ _ => trivial)⟩⟩
            · obtain rfl : k = kn.length := by omega
              rw [show (slowL kn).take kn.length = slowL kn from by rw [← slowL_len, List.take_length]] at HOk
              obtain ⟨Az, cz, rfl, hlz, hCz⟩ := Kd.R_reads HOk.out
              have RW6 : Sd (RW4 (.cells #[.slice A0 kn.length c0, .int .i64 fac] 71 (0, 0)) (.cells #[.slice Ao o.length co, .slice Am mt.length cm, .slice As s.length cs, .slice Ap p.length cp, .int .i64 a4, .int .i64 a5, .int .i64 a6] 29 (0, 0)) (.cells #[.slice B0 y0.length d0, .int .i64 y1, .int .i64 y2, .int .i64 y3, .int .i64 y4, .int .i64 y5, .int .i64 y6, .int .i64 y7, .int .i64 y8, .slice B9 y9.length d9, .int .i64 y10, .int .i64 y11, .int .i64 y12, .int .i64 y13, .int .i64 y14, .int .i64 y15, .int .i64 y16, .int .i64 y17, .int .i64 y18, .slice Br r.length dr, .slice B20 y20.length d20] 76 (0, 0)) (.cells #[.slice Az (slowL kn).length cz, .int .i64 fac] 71 (0, 0)) gs Az (slowL kn) w wr) := ⟨⟨RW5.out, BK716.out, hCz⟩⟩
              have HCz := Sd.mk hlz
              have hcz46_0 : wr.cell? ⟨w.heap.size, 0, none⟩ = some (.slice A0 kn.length c0) := (blk_cell RW5.out.bl 0).trans rfl
              clear hlz hCz RW5 BK716 HOk HGS
              go_upto_region 8 with (fail)
              go_cut [68] (fun v68 wc => ∃ bb : Bool, v68 = .bool bb ∧ Sd (RW4 (.cells #[.slice A0 kn.length c0, .int .i64 fac] 71 (0, 0)) (.cells #[.slice Ao o.length co, .slice Am mt.length cm, .slice As s.length cs, .slice Ap p.length cp, .int .i64 a4, .int .i64 a5, .int .i64 a6] 29 (0, 0)) (.cells #[.slice B0 y0.length d0, .int .i64 y1, .int .i64 y2, .int .i64 y3, .int .i64 y4, .int .i64 y5, .int .i64 y6, .int .i64 y7, .int .i64 y8, .slice B9 y9.length d9, .int .i64 y10, .int .i64 y11, .int .i64 y12, .int .i64 y13, .int .i64 y14, .int .i64 y15, .int .i64 y16, .int .i64 y17, .int .i64 y18, .slice Br r.length dr, .slice B20 y20.length d20] 76 (0, 0)) (.cells #[.slice Az (slowL kn).length cz, .int .i64 fac] 71 (0, 0)) gs Az (slowL kn) w wc) ∧ Sd (bb = false → lehrV kn fac = 0 ∧ lehrV (slowL kn) fac = 0))
              case first =>
                as_aux_lemma =>
                  clear hcz46_0
                  have HLL := Sd.mk (run_loadVar_row (P := Try.prog) _ _ 71 71 _ (0, 0) _ RW6.out.r3.bl Try.underlying71 rfl (by kernel_rfl))
                  by_cases h1 : lehrV kn fac = 0
                  · have HE1 : Sd (x_CheckLehr.f kn fac = some 0) := ⟨by rw [x_CheckLehr.f, h1]⟩
                    by_cases h2 : lehrV (slowL kn) fac = 0
                    · have HE2 : Sd (x_CheckLehr.f (slowL kn) fac = some 0) := ⟨by rw [x_CheckLehr.f, h2]⟩
                      have HH := Sd.mk (And.intro h1 h2)
                      clear h1 h2
                      go_wp2_with (first | (refine wp_loadrow_g 71 _ _ _ (by go_simp) rfl rfl HLL.out ?_) | (refine wp_loadrow_g 71 _ _ _ (by go_simp) rfl rfl HLS.out ?_) | (go_at_call 40; (with_reducible refine (x_CheckLehr.calls A0 c0 kn fac 0 _ (Kd.C_below HR0.out RW6.out.r3.be) HC0.out HE1.out).mono ?_); rintro e w7 ⟨rfl, hb⟩; have RW7 := Sd.mk (RW6.out.step hb); clear hb HLL; have HLS := Sd.mk (run_loadVar_row (P := Try.prog) _ _ 71 71 _ (0, 0) _ RW7.out.sb Try.underlying71 rfl (by kernel_rfl))) | (go_at_call 40; (with_reducible refine (x_CheckLehr.calls Az cz (slowL kn) fac 0 _ RW7.out.sc HCz.out HE2.out).mono ?_); rintro e w8 ⟨rfl, hb⟩; have RW8 := Sd.mk (RW7.out.step hb); clear hb))
                      go_meet
                      case rel => exact ⟨false, rfl, RW8, ⟨fun _ => HH.out⟩⟩
                    · have d1 : decide (lehrV (slowL kn) fac = 0) = false := decide_eq_false h2
                      have d2 : (lehrV (slowL kn) fac != 0) = true := bne_iff_ne.mpr h2
                      have HE2 : Sd (x_CheckLehr.f (slowL kn) fac = some (lehrV (slowL kn) fac)) := ⟨rfl⟩
                      clear h1 h2
                      go_wp2_with (first | (refine wp_loadrow_g 71 _ _ _ (by go_simp) rfl rfl HLL.out ?_) | (refine wp_loadrow_g 71 _ _ _ (by go_simp) rfl rfl HLS.out ?_) | (go_at_call 40; (with_reducible refine (x_CheckLehr.calls A0 c0 kn fac 0 _ (Kd.C_below HR0.out RW6.out.r3.be) HC0.out HE1.out).mono ?_); rintro e w7 ⟨rfl, hb⟩; have RW7 := Sd.mk (RW6.out.step hb); clear hb HLL; have HLS := Sd.mk (run_loadVar_row (P := Try.prog) _ _ 71 71 _ (0, 0) _ RW7.out.sb Try.underlying71 rfl (by kernel_rfl))) | (go_at_call 40; (with_reducible refine (x_CheckLehr.calls Az cz (slowL kn) fac (lehrV (slowL kn) fac) _ RW7.out.sc HCz.out HE2.out).mono ?_); rintro e w8 ⟨rfl, hb⟩; have RW8 := Sd.mk (RW7.out.step hb); clear hb))
                      go_meet
                      case rel => exact ⟨true, rfl, RW8, ⟨by simp⟩⟩
                  · have d1 : decide (lehrV kn fac = 0) = false := decide_eq_false h1
                    have d2 : (lehrV kn fac != 0) = true := bne_iff_ne.mpr h1
                    have d3 : (lehrV kn fac == 0) = false := beq_eq_false_iff_ne.mpr h1
                    have HE1 : Sd (x_CheckLehr.f kn fac = some (lehrV kn fac)) := ⟨rfl⟩
                    clear h1
                    generalize lehrV kn fac = E1 at HE1 d1 d2 d3
                    go_wp2_with (first | (refine wp_loadrow_g 71 _ _ _ (by go_simp) rfl rfl HLL.out ?_) | (go_at_call 40; (with_reducible refine (x_CheckLehr.calls A0 c0 kn fac E1 _ (Kd.C_below HR0.out RW6.out.r3.be) HC0.out HE1.out).mono ?_); rintro e w7 ⟨rfl, hb⟩; have RW7 := Sd.mk (RW6.out.step hb); clear hb HLL; have HLS := Sd.mk (run_loadVar_row (P := Try.prog) _ _ 71 71 _ (0, 0) _ RW7.out.sb Try.underlying71 rfl (by kernel_rfl))))
                    go_meet
                    case rel => exact ⟨true, rfl, RW7, ⟨by simp⟩⟩
              case rest =>
                as_aux_lemma =>
                  clear RW6 hcz46_0
                  obtain ⟨bb, rfl, RW6, HOK⟩ := hcut
                  cases bb with
                  | true =>
                    go_wp2_with (first | (go_at_call 36; (with_reducible refine (culletlaw05_lives.calls K true _ HLV.out).mono ?_); rintro e wl ⟨rfl, hb⟩))
                    go_ret
                    exact ⟨rfl, below_then RW6.out.r3.be RW6.out.r3.be.size hb⟩
                  | false =>
                    obtain ⟨f1, f2, f3, f4, f5, f6, f7, f8, f9, f10, f11⟩ := hS (HOK.out rfl).1 (HOK.out rfl).2
                    have HS1 := Sd.mk f1
                    have HS2 := Sd.mk f2
                    have HX3 := Sd.mk f3
                    have HH1 := Sd.mk f4
                    have HH2 := Sd.mk f5
                    have HN1 := Sd.mk f7
                    have HN2 := Sd.mk f8
                    have HA1 := Sd.mk f10
                    have HA2 := Sd.mk f11
                    clear f1 f2 f3 f4 f5 f7 f8 f10 f11
                    have HLL := Sd.mk (run_loadVar_row (P := Try.prog) _ _ 71 71 _ (0, 0) _ RW6.out.r3.bl Try.underlying71 rfl (by kernel_rfl))
                    have HLS := Sd.mk (run_loadVar_row (P := Try.prog) _ _ 71 71 _ (0, 0) _ RW6.out.sb Try.underlying71 rfl (by kernel_rfl))
                    have gX7 : wc.cell? ⟨w.heap.size + 1 + 1, 0 + 7, none⟩ = some (.int .i64 y7) := (blk_cell RW6.out.r3.bx 7).trans rfl
                    have gX8 : wc.cell? ⟨w.heap.size + 1 + 1, 0 + 8, none⟩ = some (.int .i64 y8) := (blk_cell RW6.out.r3.bx 8).trans rfl
                    have HJ := hJ (HOK.out rfl).1 (HOK.out rfl).2
                    clear HOK hJ hS
                    go_upto_region 12 with (first | (refine wp_loadrow_g 71 _ _ _ (by go_simp) rfl rfl HLL.out ?_) | (refine wp_loadrow_g 71 _ _ _ (by go_simp) rfl rfl HLS.out ?_) | (go_at_call 41; (with_reducible refine (x_Steepest.calls K _ _ kn fac y7 y8 r1 r2 ee _ (Kd.C_below HR0.out RW6.out.r3.be) HC0.out HS1.out).mono ?_); rintro e w7 ⟨rfl, hb⟩; have RW7 := Sd.mk ((RW6.out.step hb).step (below_alloc (Below.refl _ _) (.cells #[.int .i64 r1, .int .i64 r2] 87))); have G9 := Sd.mk (blk_new w7 (.cells #[.int .i64 r1, .int .i64 r2] 87)); clear hb HLL HLS gX7 gX8; have HLS := Sd.mk (run_loadVar_row (P := Try.prog) _ _ 71 71 _ (0, 0) _ RW7.out.sb Try.underlying71 rfl (by kernel_rfl)); have gX7 : (w7.alloc (.cells #[.int .i64 r1, .int .i64 r2] 87)).cell? ⟨w.heap.size + 1 + 1, 0 + 7, none⟩ = some (.int .i64 y7) := (blk_cell RW7.out.r3.bx 7).trans rfl; have gX8 : (w7.alloc (.cells #[.int .i64 r1, .int .i64 r2] 87)).cell? ⟨w.heap.size + 1 + 1, 0 + 8, none⟩ = some (.int .i64 y8) := (blk_cell RW7.out.r3.bx 8).trans rfl) | (go_at_call 41; (with_reducible refine (x_Steepest.calls K _ _ (slowL kn) fac y7 y8 s1 s2 ee _ RW7.out.sc HCz.out HS2.out).mono ?_); rintro e w8 ⟨rfl, hb⟩; have RW8 := Sd.mk ((RW7.out.step hb).step (below_alloc (Below.refl _ _) (.cells #[.int .i64 s1, .int .i64 s2] 87))); have G9b := Sd.mk (blk_alloc (blk_below G9.out hb) (.cells #[.int .i64 s1, .int .i64 s2] 87)); have G11 := Sd.mk (blk_new w8 (.cells #[.int .i64 s1, .int .i64 s2] 87)); clear hb HLS gX7 gX8; have q0 : (w8.alloc (.cells #[.int .i64 s1, .int .i64 s2] 87)).cell? ⟨w7.heap.size, 0, none⟩ = some (.int .i64 r1) := (blk_cell G9b.out 0).trans rfl; have q1 : (w8.alloc (.cells #[.int .i64 s1, .int .i64 s2] 87)).cell? ⟨w7.heap.size, 0 + 1, none⟩ = some (.int .i64 r2) := (blk_cell G9b.out 1).trans rfl; have q2 : (w8.alloc (.cells #[.int .i64 s1, .int .i64 s2] 87)).cell? ⟨w8.heap.size, 0, none⟩ = some (.int .i64 s1) := (blk_cell G11.out 0).trans rfl; have q3 : (w8.alloc (.cells #[.int .i64 s1, .int .i64 s2] 87)).cell? ⟨w8.heap.size, 0 + 1, none⟩ = some (.int .i64 s2) := (blk_cell G11.out 1).trans rfl))
                    go_cut [114] (fun v114 wc => v114 = .bool false ∧ Sd (RW4 (.cells #[.slice A0 kn.length c0, .int .i64 fac] 71 (0, 0)) (.cells #[.slice Ao o.length co, .slice Am mt.length cm, .slice As s.length cs, .slice Ap p.length cp, .int .i64 a4, .int .i64 a5, .int .i64 a6] 29 (0, 0)) (.cells #[.slice B0 y0.length d0, .int .i64 y1, .int .i64 y2, .int .i64 y3, .int .i64 y4, .int .i64 y5, .int .i64 y6, .int .i64 y7, .int .i64 y8, .slice B9 y9.length d9, .int .i64 y10, .int .i64 y11, .int .i64 y12, .int .i64 y13, .int .i64 y14, .int .i64 y15, .int .i64 y16, .int .i64 y17, .int .i64 y18, .slice Br r.length dr, .slice B20 y20.length d20] 76 (0, 0)) (.cells #[.slice Az (slowL kn).length cz, .int .i64 fac] 71 (0, 0)) gs Az (slowL kn) w wc))
                    case first =>
                      as_aux_lemma =>
                        by_cases h0 : ee = 0
                        · obtain ⟨q4, q5, q6⟩ := HX3.out h0
                          clear HX3
                          subst h0
                          go_wp2
                          go_meet
                          case rel => exact ⟨rfl, RW8⟩
                        · have d3 : (ee == 0) = false := beq_eq_false_iff_ne.mpr h0
                          have d1 : decide (ee = 0) = false := decide_eq_false h0
                          clear h0
                          go_wp2
                          go_meet
                          case rel => exact ⟨rfl, RW8⟩
                    case rest =>
                      as_aux_lemma =>
                        clear RW6 RW7 RW8 q0 q1 q2 q3 G9 G9b G11
                        obtain ⟨rfl, RW6⟩ := hcut
                        clear HX3 HS1 HS2
                        have HLL := Sd.mk (run_loadVar_row (P := Try.prog) _ _ 71 71 _ (0, 0) _ RW6.out.r3.bl Try.underlying71 rfl (by kernel_rfl))
                        have HLS := Sd.mk (run_loadVar_row (P := Try.prog) _ _ 71 71 _ (0, 0) _ RW6.out.sb Try.underlying71 rfl (by kernel_rfl))
                        have gX11 : wc.cell? ⟨w.heap.size + 1 + 1, 0 + 11, none⟩ = some (.int .i64 y11) := (blk_cell RW6.out.r3.bx 11).trans rfl
                        go_upto_region 16 with (first | (refine wp_loadrow_g 71 _ _ _ (by go_simp) rfl rfl HLL.out ?_) | (refine wp_loadrow_g 71 _ _ _ (by go_simp) rfl rfl HLS.out ?_) | (go_at_call 38; (with_reducible refine (x_Held.calls K _ _ kn fac y11 h1 eh _ (Kd.C_below HR0.out RW6.out.r3.be) HC0.out HH1.out).mono ?_); rintro e w7 ⟨rfl, hb⟩; have RW7 := Sd.mk (RW6.out.step hb); clear hb HLL HLS gX11; have HLS := Sd.mk (run_loadVar_row (P := Try.prog) _ _ 71 71 _ (0, 0) _ RW7.out.sb Try.underlying71 rfl (by kernel_rfl)); have gX11 : w7.cell? ⟨w.heap.size + 1 + 1, 0 + 11, none⟩ = some (.int .i64 y11) := (blk_cell RW7.out.r3.bx 11).trans rfl) | (go_at_call 38; (with_reducible refine (x_Held.calls K _ _ (slowL kn) fac y11 h2 eh _ RW7.out.sc HCz.out HH2.out).mono ?_); rintro e w8 ⟨rfl, hb⟩; have RW8 := Sd.mk (RW7.out.step hb); clear hb HLS gX11))
                        go_cut [137] (fun v137 wc => v137 = .bool false ∧ Sd (RW4 (.cells #[.slice A0 kn.length c0, .int .i64 fac] 71 (0, 0)) (.cells #[.slice Ao o.length co, .slice Am mt.length cm, .slice As s.length cs, .slice Ap p.length cp, .int .i64 a4, .int .i64 a5, .int .i64 a6] 29 (0, 0)) (.cells #[.slice B0 y0.length d0, .int .i64 y1, .int .i64 y2, .int .i64 y3, .int .i64 y4, .int .i64 y5, .int .i64 y6, .int .i64 y7, .int .i64 y8, .slice B9 y9.length d9, .int .i64 y10, .int .i64 y11, .int .i64 y12, .int .i64 y13, .int .i64 y14, .int .i64 y15, .int .i64 y16, .int .i64 y17, .int .i64 y18, .slice Br r.length dr, .slice B20 y20.length d20] 76 (0, 0)) (.cells #[.slice Az (slowL kn).length cz, .int .i64 fac] 71 (0, 0)) gs Az (slowL kn) w wc))
                        case first =>
                          as_aux_lemma =>
                            go_wp2
                            go_meet
                            case rel => exact ⟨rfl, RW8⟩
                        case rest =>
                          as_aux_lemma =>
                            clear RW6 RW7 RW8 f6 HH1 HH2
                            obtain ⟨rfl, RW6⟩ := hcut
                            have HLL := Sd.mk (run_loadVar_row (P := Try.prog) _ _ 71 71 _ (0, 0) _ RW6.out.r3.bl Try.underlying71 rfl (by kernel_rfl))
                            have HLS := Sd.mk (run_loadVar_row (P := Try.prog) _ _ 71 71 _ (0, 0) _ RW6.out.sb Try.underlying71 rfl (by kernel_rfl))
                            have gX7 : wc.cell? ⟨w.heap.size + 1 + 1, 0 + 7, none⟩ = some (.int .i64 y7) := (blk_cell RW6.out.r3.bx 7).trans rfl
                            have gX8 : wc.cell? ⟨w.heap.size + 1 + 1, 0 + 8, none⟩ = some (.int .i64 y8) := (blk_cell RW6.out.r3.bx 8).trans rfl
                            have gX12 : wc.cell? ⟨w.heap.size + 1 + 1, 0 + 12, none⟩ = some (.int .i64 y12) := (blk_cell RW6.out.r3.bx 12).trans rfl
                            go_upto_region 20 with (first | (refine wp_loadrow_g 71 _ _ _ (by go_simp) rfl rfl HLL.out ?_) | (refine wp_loadrow_g 71 _ _ _ (by go_simp) rfl rfl HLS.out ?_) | (go_at_call 39; (with_reducible refine (x_Strain.calls K _ _ kn fac y7 y8 y12 n1 es _ (Kd.C_below HR0.out RW6.out.r3.be) HC0.out HN1.out).mono ?_); rintro e w7 ⟨rfl, hb⟩; have RW7 := Sd.mk (RW6.out.step hb); clear hb HLL HLS gX7 gX8 gX12; have HLS := Sd.mk (run_loadVar_row (P := Try.prog) _ _ 71 71 _ (0, 0) _ RW7.out.sb Try.underlying71 rfl (by kernel_rfl)); have gX7 : w7.cell? ⟨w.heap.size + 1 + 1, 0 + 7, none⟩ = some (.int .i64 y7) := (blk_cell RW7.out.r3.bx 7).trans rfl; have gX8 : w7.cell? ⟨w.heap.size + 1 + 1, 0 + 8, none⟩ = some (.int .i64 y8) := (blk_cell RW7.out.r3.bx 8).trans rfl; have gX12 : w7.cell? ⟨w.heap.size + 1 + 1, 0 + 12, none⟩ = some (.int .i64 y12) := (blk_cell RW7.out.r3.bx 12).trans rfl) | (go_at_call 39; (with_reducible refine (x_Strain.calls K _ _ (slowL kn) fac y7 y8 y12 n2 es _ RW7.out.sc HCz.out HN2.out).mono ?_); rintro e w8 ⟨rfl, hb⟩; have RW8 := Sd.mk (RW7.out.step hb); clear hb HLS gX7 gX8 gX12))
                            go_cut [163] (fun v163 wc => v163 = .bool false ∧ Sd (RW4 (.cells #[.slice A0 kn.length c0, .int .i64 fac] 71 (0, 0)) (.cells #[.slice Ao o.length co, .slice Am mt.length cm, .slice As s.length cs, .slice Ap p.length cp, .int .i64 a4, .int .i64 a5, .int .i64 a6] 29 (0, 0)) (.cells #[.slice B0 y0.length d0, .int .i64 y1, .int .i64 y2, .int .i64 y3, .int .i64 y4, .int .i64 y5, .int .i64 y6, .int .i64 y7, .int .i64 y8, .slice B9 y9.length d9, .int .i64 y10, .int .i64 y11, .int .i64 y12, .int .i64 y13, .int .i64 y14, .int .i64 y15, .int .i64 y16, .int .i64 y17, .int .i64 y18, .slice Br r.length dr, .slice B20 y20.length d20] 76 (0, 0)) (.cells #[.slice Az (slowL kn).length cz, .int .i64 fac] 71 (0, 0)) gs Az (slowL kn) w wc))
                            case first =>
                              as_aux_lemma =>
                                go_wp2
                                go_meet
                                case rel => exact ⟨rfl, RW8⟩
                            case rest =>
                              as_aux_lemma =>
                                clear RW6 RW7 RW8 f9 HN1 HN2
                                obtain ⟨rfl, RW6⟩ := hcut
                                have HLL := Sd.mk (run_loadVar_row (P := Try.prog) _ _ 71 71 _ (0, 0) _ RW6.out.r3.bl Try.underlying71 rfl (by kernel_rfl))
                                have HLS := Sd.mk (run_loadVar_row (P := Try.prog) _ _ 71 71 _ (0, 0) _ RW6.out.sb Try.underlying71 rfl (by kernel_rfl))
                                have HLB := Sd.mk (run_loadVar_row (P := Try.prog) _ _ 29 29 _ (0, 0) _ RW6.out.r3.bb Try.underlying29 rfl (by kernel_rfl))
                                have gX12 : wc.cell? ⟨w.heap.size + 1 + 1, 0 + 12, none⟩ = some (.int .i64 y12) := (blk_cell RW6.out.r3.bx 12).trans rfl
                                have gX14 : wc.cell? ⟨w.heap.size + 1 + 1, 0 + 14, none⟩ = some (.int .i64 y14) := (blk_cell RW6.out.r3.bx 14).trans rfl
                                have gX15 : wc.cell? ⟨w.heap.size + 1 + 1, 0 + 15, none⟩ = some (.int .i64 y15) := (blk_cell RW6.out.r3.bx 15).trans rfl
                                have gX16 : wc.cell? ⟨w.heap.size + 1 + 1, 0 + 16, none⟩ = some (.int .i64 y16) := (blk_cell RW6.out.r3.bx 16).trans rfl
                                have gX17 : wc.cell? ⟨w.heap.size + 1 + 1, 0 + 17, none⟩ = some (.int .i64 y17) := (blk_cell RW6.out.r3.bx 17).trans rfl
                                have gX19 : wc.cell? ⟨w.heap.size + 1 + 1, 0 + 19, none⟩ = some (.slice Br r.length dr) := (blk_cell RW6.out.r3.bx 19).trans rfl
                                cases j1 with
                                | false =>
                                  go_wp2_with (first | (refine wp_loadrow_g 71 _ _ _ (by go_simp) rfl rfl HLL.out ?_) | (refine wp_loadrow_g 71 _ _ _ (by go_simp) rfl rfl HLS.out ?_) | (refine wp_loadrow_g 29 _ _ _ (by go_simp) rfl rfl HLB.out ?_) | (go_at_call 37; (with_reducible refine (x_Anneals.calls K _ _ kn fac _ _ o _ _ mt _ _ s _ _ p a4 a5 a6 _ _ r y14 y15 y16 y12 y17 false ea _ (Kd.C_below HR0.out RW6.out.r3.be) HC0.out (Kd.C_below HRo.out RW6.out.r3.be) HCo.out (Kd.C_below HRm.out RW6.out.r3.be) HCm.out (Kd.C_below HRs.out RW6.out.r3.be) HCs.out (Kd.C_below HRp.out RW6.out.r3.be) HCp.out (Kd.C_below HRr.out RW6.out.r3.be) HCr.out HA1.out).mono ?_); rintro e w7 ⟨rfl, hb⟩; have RW7 := Sd.mk (RW6.out.step hb); clear hb HLL HLS gX12 gX14 gX15 gX16 gX17 gX19; have HLS := Sd.mk (run_loadVar_row (P := Try.prog) _ _ 71 71 _ (0, 0) _ RW7.out.sb Try.underlying71 rfl (by kernel_rfl)); have gX12 : w7.cell? ⟨w.heap.size + 1 + 1, 0 + 12, none⟩ = some (.int .i64 y12) := (blk_cell RW7.out.r3.bx 12).trans rfl; have gX14 : w7.cell? ⟨w.heap.size + 1 + 1, 0 + 14, none⟩ = some (.int .i64 y14) := (blk_cell RW7.out.r3.bx 14).trans rfl; have gX15 : w7.cell? ⟨w.heap.size + 1 + 1, 0 + 15, none⟩ = some (.int .i64 y15) := (blk_cell RW7.out.r3.bx 15).trans rfl; have gX16 : w7.cell? ⟨w.heap.size + 1 + 1, 0 + 16, none⟩ = some (.int .i64 y16) := (blk_cell RW7.out.r3.bx 16).trans rfl; have gX17 : w7.cell? ⟨w.heap.size + 1 + 1, 0 + 17, none⟩ = some (.int .i64 y17) := (blk_cell RW7.out.r3.bx 17).trans rfl; have gX19 : w7.cell? ⟨w.heap.size + 1 + 1, 0 + 19, none⟩ = some (.slice Br r.length dr) := (blk_cell RW7.out.r3.bx 19).trans rfl; clear HLB; have HLB := Sd.mk (run_loadVar_row (P := Try.prog) _ _ 29 29 _ (0, 0) _ RW7.out.r3.bb Try.underlying29 rfl (by kernel_rfl))) | (go_at_call 37; (with_reducible refine (x_Anneals.calls K _ _ (slowL kn) fac _ _ o _ _ mt _ _ s _ _ p a4 a5 a6 _ _ r y14 y15 y16 y12 y17 j2 ea _ RW7.out.sc HCz.out (Kd.C_below HRo.out RW7.out.r3.be) HCo.out (Kd.C_below HRm.out RW7.out.r3.be) HCm.out (Kd.C_below HRs.out RW7.out.r3.be) HCs.out (Kd.C_below HRp.out RW7.out.r3.be) HCp.out (Kd.C_below HRr.out RW7.out.r3.be) HCr.out HA2.out).mono ?_); rintro e w8 ⟨rfl, hb⟩; have RW8 := Sd.mk (RW7.out.step hb); clear hb HLS gX12 gX14 gX15 gX16 gX17 gX19 HLB) | (go_at_call 36; (with_reducible refine (culletlaw05_lives.calls K true _ HLV.out).mono ?_); rintro e wl ⟨rfl, hb⟩))
                                  go_ret
                                  exact ⟨rfl, below_then RW8.out.r3.be RW8.out.r3.be.size hb⟩
                                | true =>
                                  have hj := HJ rfl
                                  subst hj
                                  go_wp2_with (first | (refine wp_loadrow_g 71 _ _ _ (by go_simp) rfl rfl HLL.out ?_) | (refine wp_loadrow_g 71 _ _ _ (by go_simp) rfl rfl HLS.out ?_) | (refine wp_loadrow_g 29 _ _ _ (by go_simp) rfl rfl HLB.out ?_) | (go_at_call 37; (with_reducible refine (x_Anneals.calls K _ _ kn fac _ _ o _ _ mt _ _ s _ _ p a4 a5 a6 _ _ r y14 y15 y16 y12 y17 true ea _ (Kd.C_below HR0.out RW6.out.r3.be) HC0.out (Kd.C_below HRo.out RW6.out.r3.be) HCo.out (Kd.C_below HRm.out RW6.out.r3.be) HCm.out (Kd.C_below HRs.out RW6.out.r3.be) HCs.out (Kd.C_below HRp.out RW6.out.r3.be) HCp.out (Kd.C_below HRr.out RW6.out.r3.be) HCr.out HA1.out).mono ?_); rintro e w7 ⟨rfl, hb⟩; have RW7 := Sd.mk (RW6.out.step hb); clear hb HLL HLS gX12 gX14 gX15 gX16 gX17 gX19; have HLS := Sd.mk (run_loadVar_row (P := Try.prog) _ _ 71 71 _ (0, 0) _ RW7.out.sb Try.underlying71 rfl (by kernel_rfl)); have gX12 : w7.cell? ⟨w.heap.size + 1 + 1, 0 + 12, none⟩ = some (.int .i64 y12) := (blk_cell RW7.out.r3.bx 12).trans rfl; have gX14 : w7.cell? ⟨w.heap.size + 1 + 1, 0 + 14, none⟩ = some (.int .i64 y14) := (blk_cell RW7.out.r3.bx 14).trans rfl; have gX15 : w7.cell? ⟨w.heap.size + 1 + 1, 0 + 15, none⟩ = some (.int .i64 y15) := (blk_cell RW7.out.r3.bx 15).trans rfl; have gX16 : w7.cell? ⟨w.heap.size + 1 + 1, 0 + 16, none⟩ = some (.int .i64 y16) := (blk_cell RW7.out.r3.bx 16).trans rfl; have gX17 : w7.cell? ⟨w.heap.size + 1 + 1, 0 + 17, none⟩ = some (.int .i64 y17) := (blk_cell RW7.out.r3.bx 17).trans rfl; have gX19 : w7.cell? ⟨w.heap.size + 1 + 1, 0 + 19, none⟩ = some (.slice Br r.length dr) := (blk_cell RW7.out.r3.bx 19).trans rfl; clear HLB; have HLB := Sd.mk (run_loadVar_row (P := Try.prog) _ _ 29 29 _ (0, 0) _ RW7.out.r3.bb Try.underlying29 rfl (by kernel_rfl))) | (go_at_call 37; (with_reducible refine (x_Anneals.calls K _ _ (slowL kn) fac _ _ o _ _ mt _ _ s _ _ p a4 a5 a6 _ _ r y14 y15 y16 y12 y17 true ea _ RW7.out.sc HCz.out (Kd.C_below HRo.out RW7.out.r3.be) HCo.out (Kd.C_below HRm.out RW7.out.r3.be) HCm.out (Kd.C_below HRs.out RW7.out.r3.be) HCs.out (Kd.C_below HRp.out RW7.out.r3.be) HCp.out (Kd.C_below HRr.out RW7.out.r3.be) HCr.out HA2.out).mono ?_); rintro e w8 ⟨rfl, hb⟩; have RW8 := Sd.mk (RW7.out.step hb); clear hb HLS gX12 gX14 gX15 gX16 gX17 gX19 HLB) | (go_at_call 36; (with_reducible refine (culletlaw05_lives.calls K true _ HLV.out).mono ?_); rintro e wl ⟨rfl, hb⟩))
                                  go_ret
                                  exact ⟨rfl, below_then RW8.out.r3.be RW8.out.r3.be.size hb⟩
end Go.Proofs.Ytkjkokgbhepmoaa.PB

namespace Go.Proofs.Ytkjkokgbhepmoaa.PB
open Go.RowKit Go.Proofs.YtkjkokgbhepmoaaW.PrintWords Go.Proofs.YtkjkokgbhepmoaaW.PrintLast Go.Proofs.YtkjkokgbhepmoaaW.PrintMore
theorem xSteep_ev (kn : List S84) (fac t0 t1 : Int) (h : lehrV kn fac = 0) (hs : spanB t0 t1 0 10000 = true) : ∃ g : Int, 0 < g ∧ g ∣ (steepV kn t0 t1).1 ∧ g ∣ (steepV kn t0 t1).2 ∧ Ev (fun k => x_Steepest.f k kn fac t0 t1) ((steepV kn t0 t1).1 / g, (steepV kn t0 t1).2 / g, 0) := by
  obtain ⟨H, hf⟩ := lehr_facts h
  have hq := (steepV_spec H t0 t1).ok
  obtain ⟨g, g1, g2, g3, g4⟩ := lowest_ev (q := steepV kn t0 t1) ⟨hq.n0, hq.n1⟩ ⟨hq.d0, by have := hq.d1; omega⟩
  refine ⟨g, g1, g2, g3, ?_⟩
  unfold x_Steepest.f
  simp only [tempsV, if_pos h, if_pos hs, if_true]
  exact Ev.bind (steep_ev H fac t0 t1) (Ev.bind g4 (Ev.const _))
theorem xSteep_no (kn : List S84) (fac t0 t1 : Int) (h : lehrV kn fac = 0) (hs : ¬ spanB t0 t1 0 10000 = true) : Ev (fun k => x_Steepest.f k kn fac t0 t1) (0, 0, 1) := by
  unfold x_Steepest.f
  simp only [tempsV, if_pos h, if_neg hs, if_neg (show ¬ (1 : Int) = 0 by decide)]
  exact Ev.const _
theorem mul4 (a b c d : Int) : a * b * (c * d) = a * c * (b * d) := by
  rw [Int.mul_assoc, ← Int.mul_assoc b c d, Int.mul_comm b c, Int.mul_assoc c b d, ← Int.mul_assoc]
theorem lowest_twice {n d n' d' g g' : Int} (hg : 0 < g) (hg' : 0 < g') (a : g ∣ n) (b : g ∣ d) (a' : g' ∣ n') (b' : g' ∣ d') (h : 2 * n' * d = n * d') : 2 * (n' / g') * (d / g) = n / g * (d' / g') := by
  obtain ⟨x, rfl⟩ := a
  obtain ⟨z, rfl⟩ := b
  obtain ⟨x', rfl⟩ := a'
  obtain ⟨z', rfl⟩ := b'
  rw [Int.mul_ediv_cancel_left _ (by omega), Int.mul_ediv_cancel_left _ (by omega), Int.mul_ediv_cancel_left _ (by omega), Int.mul_ediv_cancel_left _ (by omega)]
  have hgg : 0 < g * g' := Int.mul_pos hg hg'
  apply Int.eq_of_mul_eq_mul_left (a := g * g') (by omega)
  have e1 : g * g' * (2 * x' * z) = 2 * (g' * x') * (g * z) := by
    rw [Int.mul_assoc 2 x' z, Int.mul_assoc 2 (g' * x') (g * z), mul4 g' x' g z, Int.mul_left_comm (g * g') 2 (x' * z), Int.mul_comm g g']
  have e2 : g * g' * (x * z') = g * x * (g' * z') := mul4 g g' x z'
  rw [e1, e2]
  exact h
theorem heldV_small {kn : List S84} (H : LehrOk kn) (t : Int) : 0 ≤ heldV kn t ∧ heldV kn t ≤ 50000 := by
  have n2 := H.n2
  have n24 := H.n24
  have := heldS_bounds H t (kn.length - 1) 1 (by omega) (by omega)
  unfold heldV
  omega
theorem StrengthSlower_calls (A0 : Option Addr) (c0 : Nat) (kn : List S84) (fac : Int) (Ao : Option Addr) (co : Nat) (o : List ByteArray) (Am : Option Addr) (cm : Nat) (mt : List S63) (As : Option Addr) (cs : Nat) (s : List S27) (Ap : Option Addr) (cp : Nat) (p : List S65) (a4 a5 a6 : Int) (B0 : Option Addr) (d0 : Nat) (y0 : List S27) (y1 y2 y3 y4 y5 y6 y7 y8 : Int) (B9 : Option Addr) (d9 : Nat) (y9 : List Int) (y10 y11 y12 y13 y14 y15 y16 y17 y18 : Int) (Br : Option Addr) (dr : Nat) (r : List Int) (B20 : Option Addr) (d20 : Nat) (y20 : List S165) (w : World) (hr0 : Kd.C k84 w A0 kn.length kn) (hc0 : kn.length ≤ c0) (hro : Kd.C Kd.string w Ao o.length o) (hco : o.length ≤ co) (hrm : Kd.C k63 w Am mt.length mt) (hcm : mt.length ≤ cm) (hrs : Kd.C k27 w As s.length s) (hcs : s.length ≤ cs) (hrp : Kd.C k65 w Ap p.length p) (hcp : p.length ≤ cp) (hr1 : Kd.C k27 w B0 y0.length y0) (hc1 : y0.length ≤ d0) (hr9 : Kd.C (Kd.int .i64) w B9 y9.length y9) (hc9 : y9.length ≤ d9) (hrr : Kd.C (Kd.int .i64) w Br r.length r) (hcr : r.length ≤ dr) (hr20 : Kd.C k165 w B20 y20.length y20) (hc20 : y20.length ≤ d20) :
    Calls Try.prog 10 #[.agg #[.slice A0 kn.length c0, .int .i64 fac], .agg #[.slice Ao o.length co, .slice Am mt.length cm, .slice As s.length cs, .slice Ap p.length cp, .int .i64 a4, .int .i64 a5, .int .i64 a6], .agg #[.slice B0 y0.length d0, .int .i64 y1, .int .i64 y2, .int .i64 y3, .int .i64 y4, .int .i64 y5, .int .i64 y6, .int .i64 y7, .int .i64 y8, .slice B9 y9.length d9, .int .i64 y10, .int .i64 y11, .int .i64 y12, .int .i64 y13, .int .i64 y14, .int .i64 y15, .int .i64 y16, .int .i64 y17, .int .i64 y18, .slice Br r.length dr, .slice B20 y20.length d20]] w fun e w' => e = .returned (.bool true) ∧ Below w.heap.size w w' := by
  obtain ⟨b, Kb, hb⟩ := great o mt s p a4 a5 a6
  obtain ⟨c, Kc, hc⟩ := wide5 y0 y1 y2 y3 y4 y5 y6 y7 y8 y9 y10 y11 y12 y13 y14 y15 y16 y17 y18 r y20
  obtain ⟨Kl, hl⟩ := lives5_ev
  by_cases h0 : lehrV kn fac = 0
  · by_cases h0' : lehrV (slowL kn) fac = 0
    · obtain ⟨H, hf⟩ := lehr_facts h0
      obtain ⟨H', _⟩ := lehr_facts h0'
      obtain ⟨Ka, ha⟩ := ann_ev o mt s p a4 a5 a6 r kn fac y14 y15 y16 y12 y17
      obtain ⟨Kz, hz⟩ := ann_ev o mt s p a4 a5 a6 r (slowL kn) fac y14 y15 y16 y12 y17
      obtain ⟨ae, aj⟩ := ann_slow h0 h0' (ValV o mt s p a4 a5 a6 r y14) y15 y16 y12 y17
      obtain ⟨r1, r2, s1, s2, ee, K1, hS1⟩ : ∃ r1 r2 s1 s2 ee : Int, ∃ K1, ∀ k, K1 ≤ k → x_Steepest.f k kn fac y7 y8 = some (r1, r2, ee) ∧ x_Steepest.f k (slowL kn) fac y7 y8 = some (s1, s2, ee) ∧ (ee = 0 → decide (r2 < 1) = false ∧ decide (s2 < 1) = false ∧ wrap64 (wrap64 (2 * s1) * r2) = wrap64 (r1 * s2)) := by
        by_cases hs : spanB y7 y8 0 10000 = true
        · obtain ⟨g, g1, g2, g3, Kg, g4⟩ := xSteep_ev kn fac y7 y8 h0 hs
          obtain ⟨g', g1', g2', g3', Kg', g4'⟩ := xSteep_ev (slowL kn) fac y7 y8 h0' hs
          have hq := (steepV_spec H y7 y8).ok
          have hq' := (steepV_spec H' y7 y8).ok
          have hst := steep_slow H H' y7 y8
          refine ⟨_, _, _, _, 0, Kg + Kg', fun k hk => ⟨g4 k (by omega), g4' k (by omega), fun _ => ?_⟩⟩
          generalize steepV kn y7 y8 = q at *
          generalize steepV (slowL kn) y7 y8 = q' at *
          have e := lowest_twice g1 g1' g2 g3 g2' g3' hst
          have d1 : 1 ≤ q.2 / g := by
            have := Int.le_of_dvd (by have := hq.d0; omega) g3
            have := (Int.le_ediv_iff_mul_le (a := 1) (b := q.2) g1).2 (by omega)
            omega
          have d2 : 1 ≤ q'.2 / g' := by
            have := Int.le_of_dvd (by have := hq'.d0; omega) g3'
            have := (Int.le_ediv_iff_mul_le (a := 1) (b := q'.2) g1').2 (by omega)
            omega
          have n1 : q'.1 / g' ≤ q'.1 := Int.ediv_le_self _ hq'.n0
          have n2 := Int.ediv_nonneg hq'.n0 (show 0 ≤ g' by omega)
          refine ⟨decide_eq_false (by omega), decide_eq_false (by omega), ?_⟩
          rw [wsmall (x := 2 * (q'.1 / g')) (by omega) (by have := hq'.n1; omega), e]
        · obtain ⟨Kg, g4⟩ := xSteep_no kn fac y7 y8 h0 hs
          obtain ⟨Kg', g4'⟩ := xSteep_no (slowL kn) fac y7 y8 h0' hs
          exact ⟨0, 0, 0, 0, 1, Kg + Kg', fun k hk => ⟨g4 k (by omega), g4' k (by omega), fun h => by cases h⟩⟩
      obtain ⟨h1, h2, eh, K2, hH⟩ : ∃ h1 h2 eh : Int, ∃ K2, ∀ k, K2 ≤ k → x_Held.f k kn fac y11 = some (h1, eh) ∧ x_Held.f k (slowL kn) fac y11 = some (h2, eh) ∧ decide (h2 < wrap64 (2 * h1)) = false := by
        by_cases ht : inB y11 0 10000 = true
        · obtain ⟨Kg, g4⟩ := xHeld_ev kn fac y11 h0 ht
          obtain ⟨Kg', g4'⟩ := xHeld_ev (slowL kn) fac y11 h0' ht
          refine ⟨_, _, 0, Kg + Kg', fun k hk => ⟨g4 k (by omega), g4' k (by omega), decide_eq_false ?_⟩⟩
          have := heldV_slow H y11
          have := heldV_small H y11
          rw [wsmall (x := 2 * heldV kn y11) (by omega) (by omega)]
          omega
        · refine ⟨0, 0, 1, 0, fun k hk => ⟨?_, ?_, by rw [wsmall (by omega) (by omega)]; rfl⟩⟩
          · unfold x_Held.f; rw [if_pos h0, if_neg ht]
          · unfold x_Held.f; rw [if_pos h0', if_neg ht]
      obtain ⟨n1, n2, es, K3, hN⟩ : ∃ n1 n2 es : Int, ∃ K3, ∀ k, K3 ≤ k → x_Strain.f k kn fac y7 y8 y12 = some (n1, es) ∧ x_Strain.f k (slowL kn) fac y7 y8 y12 = some (n2, es) ∧ decide (n1 < n2) = false := by
        by_cases hs : spanB y7 y8 0 10000 = true
        · by_cases ht : inB y12 1 2000 = true
          · obtain ⟨Kg, g4⟩ := xStrain_ev kn fac y7 y8 y12 h0 hs ht
            obtain ⟨Kg', g4'⟩ := xStrain_ev (slowL kn) fac y7 y8 y12 h0' hs ht
            refine ⟨_, _, 0, Kg + Kg', fun k hk => ⟨g4 k (by omega), g4' k (by omega), decide_eq_false ?_⟩⟩
            have := strain_slow H H' hf.1 y7 y8 y12
            omega
          · refine ⟨0, 0, 1, 0, fun k hk => ⟨?_, ?_, by decide⟩⟩
            · simp only [x_Strain.f, tempsV, if_pos h0, if_pos hs, if_true, if_neg ht]
            · simp only [x_Strain.f, tempsV, if_pos h0', if_pos hs, if_true, if_neg ht]
        · refine ⟨0, 0, 1, 0, fun k hk => ⟨?_, ?_, by decide⟩⟩
          · simp only [x_Strain.f, tempsV, if_pos h0, if_neg hs, if_neg (show ¬ (1 : Int) = 0 by decide)]
          · simp only [x_Strain.f, tempsV, if_pos h0', if_neg hs, if_neg (show ¬ (1 : Int) = 0 by decide)]
      refine slower_walk A0 c0 kn fac Ao co o Am cm mt As cs s Ap cp p a4 a5 a6 B0 d0 y0 y1 y2 y3 y4 y5 y6 y7 y8 B9 d9 y9 y10 y11 y12 y13 y14 y15 y16 y17 y18 Br dr r B20 d20 y20 w hr0 hc0 hro hco hrm hcm hrs hcs hrp hcp hr1 hc1 hr9 hc9 hrr hcr hr20 hc20 (Kb + Kc + Kl + Ka + Kz + K1 + K2 + K3) b c (hb _ (by omega)) (hc _ (by omega)) (hl _ (by omega)) r1 r2 s1 s2 ee h1 h2 eh n1 n2 es (annV kn fac (ValV o mt s p a4 a5 a6 r y14) y15 y16 y12 y17).2 (annV kn fac (ValV o mt s p a4 a5 a6 r y14) y15 y16 y12 y17).1 (annV (slowL kn) fac (ValV o mt s p a4 a5 a6 r y14) y15 y16 y12 y17).1 (fun _ _ => ?_) (fun _ _ => aj)
      obtain ⟨a1, a2, a3⟩ := hS1 (Kb + Kc + Kl + Ka + Kz + K1 + K2 + K3) (by omega)
      obtain ⟨b1, b2, b3⟩ := hH (Kb + Kc + Kl + Ka + Kz + K1 + K2 + K3) (by omega)
      obtain ⟨c1, c2, c3⟩ := hN (Kb + Kc + Kl + Ka + Kz + K1 + K2 + K3) (by omega)
      exact ⟨a1, a2, a3, b1, b2, b3, c1, c2, c3, ha _ (by omega), (hz _ (by omega)).trans (by rw [← ae])⟩
    · exact slower_walk A0 c0 kn fac Ao co o Am cm mt As cs s Ap cp p a4 a5 a6 B0 d0 y0 y1 y2 y3 y4 y5 y6 y7 y8 B9 d9 y9 y10 y11 y12 y13 y14 y15 y16 y17 y18 Br dr r B20 d20 y20 w hr0 hc0 hro hco hrm hcm hrs hcs hrp hcp hr1 hc1 hr9 hc9 hrr hcr hr20 hc20 (Kb + Kc + Kl) b c (hb _ (by omega)) (hc _ (by omega)) (hl _ (by omega)) 0 0 0 0 0 0 0 0 0 0 0 0 false false (fun _ h => absurd h h0') (fun _ h => absurd h h0')
  · exact slower_walk A0 c0 kn fac Ao co o Am cm mt As cs s Ap cp p a4 a5 a6 B0 d0 y0 y1 y2 y3 y4 y5 y6 y7 y8 B9 d9 y9 y10 y11 y12 y13 y14 y15 y16 y17 y18 Br dr r B20 d20 y20 w hr0 hc0 hro hco hrm hcm hrs hcs hrp hcp hr1 hc1 hr9 hc9 hrr hcr hr20 hc20 (Kb + Kc + Kl) b c (hb _ (by omega)) (hc _ (by omega)) (hl _ (by omega)) 0 0 0 0 0 0 0 0 0 0 0 0 false false (fun h => absurd h h0) (fun h => absurd h h0)
end Go.Proofs.Ytkjkokgbhepmoaa.PB

