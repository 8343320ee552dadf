import Derived.Test.YtkjkokgbhepmoaaS3
import Derived.Shelf.Abstract
set_option linter.unusedVariables false
set_option linter.unusedSimpArgs false
namespace Go.Proofs.Ytkjkokgbhepmoaa.PB
open Go.RowKit Go.Proofs.YtkjkokgbhepmoaaW.PrintWords Go.Proofs.YtkjkokgbhepmoaaW.PrintLast Go.Proofs.YtkjkokgbhepmoaaW.PrintMore
def x_lines.f (l0_0 : List ByteArray) (l0_1 : List (S63)) (l0_2 : List (S27)) (l0_3 : List (S65)) (a0_4 : Int) (a0_5 : Int) (a0_6 : Int) : Option (List S51) :=
  if checkV l0_0 l0_1 l0_2 l0_3 a0_4 a0_5 a0_6 = 0 then some (linesV l0_1 l0_2 l0_3 a0_4 a0_5 a0_6) else none
theorem x_lines.calls (A0_0 : Option Addr) (c0_0 : Nat) (l0_0 : List ByteArray) (A0_1 : Option Addr) (c0_1 : Nat) (l0_1 : List (S63)) (A0_2 : Option Addr) (c0_2 : Nat) (l0_2 : List (S27)) (A0_3 : Option Addr) (c0_3 : Nat) (l0_3 : List (S65)) (a0_4 : Int) (a0_5 : Int) (a0_6 : Int) (r : List S51) (w : World) (hr0_0 : Kd.C Kd.string w A0_0 l0_0.length l0_0) (hc0_0 : l0_0.length ≤ c0_0) (hr0_1 : Kd.C k63 w A0_1 l0_1.length l0_1) (hc0_1 : l0_1.length ≤ c0_1) (hr0_2 : Kd.C k27 w A0_2 l0_2.length l0_2) (hc0_2 : l0_2.length ≤ c0_2) (hr0_3 : Kd.C k65 w A0_3 l0_3.length l0_3) (hc0_3 : l0_3.length ≤ c0_3) (h : x_lines.f l0_0 l0_1 l0_2 l0_3 a0_4 a0_5 a0_6 = some r) :
    Calls Try.prog 63 #[.agg #[.slice A0_0 l0_0.length c0_0, .slice A0_1 l0_1.length c0_1, .slice A0_2 l0_2.length c0_2, .slice A0_3 l0_3.length c0_3, .int .i64 a0_4, .int .i64 a0_5, .int .i64 a0_6]] w fun e w' => ∃ v0_ : Value, e = .returned v0_ ∧ Kd.R k51 51 w' w.heap.size (fun _ => True) v0_ r ∧ Below w.heap.size w w' := by
  unfold x_lines.f at h
  by_cases hc : checkV l0_0 l0_1 l0_2 l0_3 a0_4 a0_5 a0_6 = 0
  · rw [if_pos hc] at h
    obtain rfl := Option.some.inj h
    exact lines_calls A0_0 c0_0 l0_0 A0_1 c0_1 l0_1 A0_2 c0_2 l0_2 A0_3 c0_3 l0_3 a0_4 a0_5 a0_6 w hr0_0 hc0_0 hr0_1 hc0_1 hr0_2 hc0_2 hr0_3 hc0_3 (check_ok hc)
  · rw [if_neg hc] at h; cases h
end Go.Proofs.Ytkjkokgbhepmoaa.PB

namespace Go.Proofs.Ytkjkokgbhepmoaa.PB
open Go.RowKit Go.Proofs.YtkjkokgbhepmoaaW.PrintWords Go.Proofs.YtkjkokgbhepmoaaW.PrintLast Go.Proofs.YtkjkokgbhepmoaaW.PrintMore
attribute [local go_sem] max2_int min2_int max_two min_two max_three min_three max_four min_four
def batch_value.l0 : Nat → List Int → Int → List Int → Int → Int → Option (Int)
 | 0, _, _, _, _, _ => none
 | k + 1, x1, x5, x9, x10, x11 => if x11 < x10 then (if 0 ≤ x11 then (if x11 < (x9.length : Int) then (if x11 < (x1.length : Int) then (batch_value.l0 k x1 (wrap64 (x5 + (wrap64 ((rd x1 x11) * (rd x9 x11))))) x9 x10 (wrap64 (x11 + 1))) else (none)) else (none)) else (none)) else (some x5)
def batch_value.f (k : Nat) (l0_0 : List Int) (a0_1 : Int) (l1 : List Int) : Option (Int) := batch_value.l0 k l1 0 l0_0 (l0_0.length : Int) 0
set_option maxHeartbeats 8000000 in
set_option maxRecDepth 100000 in
theorem batch_value.calls (k : Nat) (A0_0 : Option Addr) (c0_0 : Nat) (l0_0 : List Int) (a0_1 : Int) (A1 : Option Addr) (c1 : Nat) (l1 : List Int) (r : Int) (w : World) (hr0_0 : Kd.C (Kd.int .i64) w A0_0 l0_0.length l0_0) (hc0_0 : l0_0.length ≤ c0_0) (hr1 : Kd.C (Kd.int .i64) w A1 l1.length l1) (hc1 : l1.length ≤ c1) (h : batch_value.f k l0_0 a0_1 l1 = some r) :
  Calls Try.prog 137 #[.agg #[.slice A0_0 l0_0.length c0_0, .int .i64 a0_1], .slice A1 l1.length c1] w fun e w' => e = .returned (.int .i64 r) ∧ Below w.heap.size w w' := by
 have hu51 := Try.underlying51; have HR0_0 := Sd.mk hr0_0; have HC0_0 := Sd.mk hc0_0; clear hr0_0 hc0_0; have HR1 := Sd.mk hr1; have HC1 := Sd.mk hc1; clear hr1 hc1; have HB := Sd.mk (Below.refl w.heap.size w)
 have H : (batch_value.l0 k l1 0 l0_0 (l0_0.length : Int) 0) = some r := h
 clear h; have H' := Sd.mk H; clear H
 go_enter Try.func137, Try.ntmps137
 go_wp2_with (first | ((with_reducible refine gate_dst (N := 2) rfl ?_); refine box_event ?hg (N := 2) ?hd (cs := #[.slice A0_0 l0_0.length c0_0, .int .i64 a0_1]) (t := 51) ?hr ?_; (case hd => rfl); (case hg => rfl); (case hr => exact tG); intro gb624 hg w3 hbox hb; have BK624 := Sd.mk (hbox); have GW624 := Sd.mk (bSz hg (bBl HB.out)); have GE624 := Sd.mk (bSz hg (bBl HB.out)); replace HB := Sd.mk (below_step (bBl HB.out) hb); clear hb hbox hg; obtain ⟨u4_0, u4_1, o4_0, o4_1⟩ := bc2 (w := w3) BK624.out))
 go_loopg [5, 11] k (fun kq v5 v11 w' => ∃ (x5_1 : Int) (x11_1 : Int), v5 = .int .i64 x5_1 ∧ v11 = .int .i64 x11_1 ∧ Sd (batch_value.l0 kq l1 x5_1 l0_0 (l0_0.length : Int) x11_1 = some r) ∧ Sd (kq ≤ k) ∧ Sd (w'.heap[gb624]? = some (.cells #[(.slice A0_0 l0_0.length c0_0), .int .i64 a0_1] 51 (0, 0))) ∧ Sd (Below w.heap.size w w'))
 case atStart => exact ⟨(0), (0), tS, tS, H', ⟨Nat.le_refl _⟩, ⟨bkA BK624.out⟩, ⟨bBl HB.out⟩⟩
 case round =>
  clear H'; (try clear c1); (try clear p2); (try clear u4_0 u4_1); (try clear o4_0 o4_1); obtain ⟨x5_1, x11_1, rfl, rfl, HA, HK1, BK624, HB⟩ := hrel
  cases gk with
  | zero => exact absurd HA.out (by simp [batch_value.l0])
  | succ k1 =>
   have H := HA.out; clear HA
   simp only [batch_value.l0] at H
   by_cases c5 : x11_1 < (l0_0.length : Int)
   ·rw [if_pos c5] at H
    have c5b0 : decide (x11_1 < (l0_0.length : Int)) = true := decide_eq_true c5
    clear c5
    by_cases c6 : 0 ≤ x11_1
    ·rw [if_pos c6] at H
     have c6b0 : decide (0 ≤ x11_1) = true := decide_eq_true c6
     clear c6
     by_cases c7 : x11_1 < (l0_0.length : Int)
     ·rw [if_pos c7] at H
      have c7b0 : decide (x11_1 < (l0_0.length : Int)) = true := decide_eq_true c7
      clear c7
      by_cases c8 : x11_1 < (l1.length : Int)
      ·rw [if_pos c8] at H
       have c8b0 : decide (x11_1 < (l1.length : Int)) = true := decide_eq_true c8
       clear c8; have H' := Sd.mk H; clear H
       have p625 : 0 ≤ (x11_1 : Int) := tB
       have q625 : x11_1 < (l0_0.length : Int) := tB
       obtain ⟨ad625, e625, hx625_0⟩ := Kd.at_int HR0_0.out x11_1 p625 q625; cases e625; replace hx625_0 := cU HB hx625_0; replace p625 := eq_true p625; replace q625 := eq_true q625
       have p626 : 0 ≤ (x11_1 : Int) := tB
       have q626 : x11_1 < (l1.length : Int) := tB
       obtain ⟨ad626, e626, hx626_0⟩ := Kd.at_int HR1.out x11_1 p626 q626; cases e626; replace hx626_0 := cU HB hx626_0; replace p626 := eq_true p626; replace q626 := eq_true q626
       go_wp2
       go_roundg k1
       case measure => have := HK1.out; omega
       case rel => exact ⟨(wrap64 (x5_1 + (wrap64 ((rd l1 x11_1) * (rd l0_0 x11_1))))), (wrap64 (x11_1 + 1)), tS, tS, H', ⟨by have := HK1.out; omega⟩, ⟨bkA BK624.out⟩, ⟨bBl HB.out⟩⟩
      ·rw [if_neg c8] at H
       exact absurd H (by simp)
     ·rw [if_neg c7] at H
      exact absurd H (by simp)
    ·rw [if_neg c6] at H
     exact absurd H (by simp)
   ·rw [if_neg c5] at H
    have c5b0 : decide (x11_1 < (l0_0.length : Int)) = false := decide_eq_false c5
    clear c5; obtain rfl := Option.some.inj H
    go_wp2
    go_ret
    exact ⟨tE, bBl HB.out⟩
end Go.Proofs.Ytkjkokgbhepmoaa.PB

namespace Go.Proofs.Ytkjkokgbhepmoaa.PB
open Go.RowKit Go.Proofs.YtkjkokgbhepmoaaW.PrintWords Go.Proofs.YtkjkokgbhepmoaaW.PrintLast Go.Proofs.YtkjkokgbhepmoaaW.PrintMore
def vW (r fs : List Int) : Nat → Int
  | 0 => 0
  | i + 1 => wrap64 (vW r fs i + wrap64 (rd r (i : Int) * rd fs (i : Int)))
theorem value_l0 (r fs : List Int) (h1 : fs.length ≤ r.length) (h2 : fs.length ≤ 1000000) : ∀ (m i : Nat), i + m = fs.length → Ev (fun k => batch_value.l0 k r (vW r fs i) fs (fs.length : Int) (i : Int)) (vW r fs fs.length)
  | 0, i, hi => by
    apply Ev.step
    simp only [batch_value.l0, if_neg (show ¬ (i : Int) < (fs.length : Int) by omega)]
    rw [show i = fs.length by omega]
    exact Ev.const _
  | m + 1, i, hi => by
    have ih := value_l0 r fs h1 h2 m (i + 1) (by omega)
    apply Ev.step
    simp only [batch_value.l0, if_pos (show (i : Int) < (fs.length : Int) by omega), if_pos (i_pos i), if_pos (show (i : Int) < (r.length : Int) by omega), wrap_succ (i_pos i) (show (i : Int) ≤ 1000000000 by omega)]
    exact ih
theorem value_calls (x : S51) (r : List Int) (Ax A1 : Option Addr) (cx c1 : Nat) (w : World) (hx : Kd.C (Kd.int .i64) w Ax x.f0.length x.f0) (hcx : x.f0.length ≤ cx) (hr : Kd.C (Kd.int .i64) w A1 r.length r) (hc1 : r.length ≤ c1) (h1 : x.f0.length ≤ r.length) (h2 : x.f0.length ≤ 1000000) :
    Calls Try.prog 137 (#[.agg #[.slice Ax x.f0.length cx, .int .i64 x.f1]] ++ #[.slice A1 r.length c1]) w fun e w' => e = .returned (.int .i64 (vW r x.f0 x.f0.length)) ∧ Below w.heap.size w w' := by
  obtain ⟨K, hK⟩ := value_l0 r x.f0 h1 h2 x.f0.length 0 (by omega)
  exact batch_value.calls K Ax cx x.f0 x.f1 A1 c1 r _ w hx hcx hr hc1 (hK K (Nat.le_refl _))
def keepT : Bool × List (List Nat × List Nat) := (true, [([], []), ([], []), ([0, 1], [0, 1]), ([], []), ([], []), ([4], [4]), ([3, 5], [3, 5]), ([2, 6], [2, 6]), ([7, 2, 0, 1, 2, 3, 4, 5, 6, 7], [7])])
def keepB : List Nat := [0, 0, 3, 0, 0, 16, 56, 127, 255]
theorem keep_tab : rtab .any (opsOf Try.f136 1) = keepT := by kernel_rfl
theorem keep_bits : waitsOk keepT.2 keepB = true := by kernel_rfl
set_option maxHeartbeats 2000000 in
set_option maxRecDepth 100000 in
theorem k136_calls (x : S51) (r : List Int) (Ax A1 : Option Addr) (cx c1 R T_ : Nat) (t : Int) (w : World) (hx : Kd.C (Kd.int .i64) w Ax x.f0.length x.f0) (hcx : x.f0.length ≤ cx) (hr : Kd.C (Kd.int .i64) w A1 r.length r) (hc1 : r.length ≤ c1) (h1 : x.f0.length ≤ r.length) (h2 : x.f0.length ≤ 1000000)
    (hR : w.heap[R]? = some (.cells #[.slice A1 r.length c1] 30 (0, 0))) (hT : w.heap[T_]? = some (.cells #[.int .i64 t] 3 (0, 0))) :
    Calls Try.prog 136 #[.agg #[.slice Ax x.f0.length cx, .int .i64 x.f1], .pointer (some ⟨R, 0, none⟩), .pointer (some ⟨T_, 0, none⟩)] w fun e w' => e = .returned (.bool (decide (wrap64 (t * x.f1) < vW r x.f0 x.f0.length))) ∧ Below w.heap.size w w' := by
  have hb0 : Below w.heap.size w (w.alloc (.cells #[.slice Ax x.f0.length cx, .int .i64 x.f1] 51)) := below_alloc (Below.refl _ _) _
  have HB := Sd.mk hb0
  have BX := Sd.mk (blk_new w (.cells #[.slice Ax x.f0.length cx, .int .i64 x.f1] 51))
  have BR := Sd.mk (blk_below hR hb0)
  have BT := Sd.mk (blk_below hT hb0)
  have HX := Sd.mk (Kd.C_below hx hb0)
  have HR := Sd.mk (Kd.C_below hr hb0)
  have HCX := Sd.mk hcx
  have HC1 := Sd.mk hc1
  have H1 := Sd.mk h1
  have H2 := Sd.mk h2
  clear hx hcx hr hc1 h1 h2 hR hT hb0
  go_enter Try.func136, Try.ntmps136
  go_upto_region 1 with (fail)
  generalize w.alloc (.cells #[.slice Ax x.f0.length cx, .int .i64 x.f1] 51) = WX at *
  generalize hXX : w.heap.size = X at BX ⊢
  generalize hv : vW r x.f0 x.f0.length = v at *
  refine start_ (n := 9) (S := fun w' => w'.cell? ⟨X, 0, none⟩ = some (.slice Ax x.f0.length cx) ∧ w'.cell? ⟨X, 1, none⟩ = some (.int .i64 x.f1) ∧ w'.cell? ⟨R, 0, none⟩ = some (.slice A1 r.length c1) ∧ w'.cell? ⟨T_, 0, none⟩ = some (.int .i64 t)) (ds := []) #[false, false, false, false, false, false, false, false, false] (by kernel_rfl) rfl rfl ⟨(blk_cell BX.out 0).trans rfl, (blk_cell BX.out 1).trans rfl, (blk_cell BR.out 0).trans rfl, (blk_cell BT.out 0).trans rfl⟩ (fun hHeld => ?_); refine with_tabW keep_tab keep_bits (fun HT_ HW_ => ?_)
  replace BX := Sd.mk (blk_drew BX.out)
  replace BR := Sd.mk (blk_drew BR.out)
  replace BT := Sd.mk (blk_drew BT.out)
  replace HX := Sd.mk (Kd.C_drew HX.out)
  replace HR := Sd.mk (Kd.C_drew HR.out)
  replace HB := Sd.mk (below_drew1 HB.out)
  generalize WX.drew = W0 at BX BR BT HX HR HB hHeld ⊢
  refine take_ (i := 0) (N := some 5) (v := ?_) (a' := ?_) #[true, false, false, false, false, false, false, false, false] rfl rfl (take_ofW HT_.out HW_.out (by kernel_rfl)) (fun _ _ _ h => h) (Or.inl ⟨by rfl, ?_⟩) hHeld ?_ ?_
  rotate_left
  · rintro w' ⟨s0, s1, s2, s3⟩
    go_simp
    with_reducible rfl
  rotate_left
  · simp only [Act.put, List.setIfInBounds_toArray, List.set_cons_zero, List.set_cons_succ, i64_w, i32_w]
    rfl
  refine take_ (i := 1) (N := some 6) (v := ?_) (a' := ?_) #[true, true, false, false, false, false, false, false, false] rfl rfl (take_ofW HT_.out HW_.out (by kernel_rfl)) (fun _ _ _ h => h) (Or.inl ⟨by rfl, ?_⟩) hHeld ?_ ?_
  rotate_left
  · rintro w' ⟨s0, s1, s2, s3⟩
    go_simp
    with_reducible rfl
  rotate_left
  · simp only [Act.put, List.setIfInBounds_toArray, List.set_cons_zero, List.set_cons_succ, i64_w, i32_w]
    rfl
  refine take_ (i := 3) (N := some 8) (v := ?_) (a' := ?_) #[true, true, false, true, false, false, false, false, false] rfl rfl (take_ofW HT_.out HW_.out (by kernel_rfl)) (fun _ _ _ h => h) (Or.inl ⟨by rfl, ?_⟩) hHeld ?_ ?_
  rotate_left
  · rintro w' ⟨s0, s1, s2, s3⟩
    go_simp
    with_reducible rfl
  rotate_left
  · simp only [Act.put, List.setIfInBounds_toArray, List.set_cons_zero, List.set_cons_succ, i64_w, i32_w]
    rfl
  refine pure_ (i := 4) (N := some 9) (v := ?_) (a' := ?_) #[true, true, false, true, true, false, false, false, false] rfl rfl (any_of HT_.out (by kernel_rfl)) (fun _ _ _ h => h) (Or.inl ⟨by rfl, ?_⟩) ?_ ?_
  rotate_left
  · intro w'
    go_simp
    with_reducible rfl
  rotate_left
  · simp only [Act.put, List.setIfInBounds_toArray, List.set_cons_zero, List.set_cons_succ, i64_w, i32_w]
    rfl
  refine take_ (i := 5) (N := some 10) (v := ?_) (a' := ?_) #[true, true, false, true, true, true, false, false, false] rfl rfl (take_ofW HT_.out HW_.out (by kernel_rfl)) (fun _ _ _ h => h) (Or.inl ⟨by rfl, ?_⟩) hHeld ?_ ?_
  rotate_left
  · rintro w' ⟨s0, s1, s2, s3⟩
    go_simp
    with_reducible rfl
  rotate_left
  · simp only [Act.put, List.setIfInBounds_toArray, List.set_cons_zero, List.set_cons_succ, i64_w, i32_w]
    rfl
  refine pure_ (i := 6) (N := some 11) (v := ?_) (a' := ?_) #[true, true, false, true, true, true, true, false, false] rfl rfl (any_of HT_.out (by kernel_rfl)) (fun _ _ _ h => h) (Or.inl ⟨by rfl, ?_⟩) ?_ ?_
  rotate_left
  · intro w'
    go_simp
    with_reducible rfl
  rotate_left
  · simp only [Act.put, List.setIfInBounds_toArray, List.set_cons_zero, List.set_cons_succ, i64_w, i32_w]
    rfl
  refine one_ (i := 2) (N := some 7) #[true, true, true, true, true, true, true, false, false] rfl rfl (one_of HT_.out (by kernel_rfl)) (by decide) (fun K hK => ?_)
  refine goes_ Try.func137 (by kernel_rfl) rfl (#[.agg #[.slice Ax x.f0.length cx, .int .i64 x.f1]] ++ #[.slice A1 r.length c1]) (by rfl) rfl rfl (by (try simp only [List.map_toArray, List.map_cons, List.map_nil]); first | done | rfl) ?_
  refine (value_calls x r Ax A1 cx c1 W0 HX.out HCX.out HR.out HC1.out H1.out H2.out).mono ?_
  rintro e w4 ⟨rfl, hb⟩
  refine ⟨_, rfl, ?_⟩
  replace BX := Sd.mk (blk_below BX.out hb)
  replace BR := Sd.mk (blk_below BR.out hb)
  replace BT := Sd.mk (blk_below BT.out hb)
  replace HB := Sd.mk (below_step HB.out hb)
  clear hb HX HR
  refine hK.out _ _ ⟨(blk_cell BX.out 0).trans rfl, (blk_cell BX.out 1).trans rfl, (blk_cell BR.out 0).trans rfl, (blk_cell BT.out 0).trans rfl⟩ (fun hHeld => ?_)
  clear hK K
  refine norm_ (a' := ?_) ?_ ?_
  rotate_left
  · show Act.put _ (some 7) _ = _
    simp only [Act.put, List.setIfInBounds_toArray, List.set_cons_zero, List.set_cons_succ, i64_w, i32_w]
    rfl
  refine pure_ (i := 7) (N := some 12) (v := ?_) (a' := ?_) #[true, true, true, true, true, true, true, true, false] rfl rfl (any_of HT_.out (by kernel_rfl)) (fun _ _ _ h => h) (Or.inl ⟨by rfl, ?_⟩) ?_ ?_
  rotate_left
  · intro w'
    go_simp
    with_reducible rfl
  rotate_left
  · simp only [Act.put, List.setIfInBounds_toArray, List.set_cons_zero, List.set_cons_succ, i64_w, i32_w]
    rfl
  refine pure_ (i := 8) (N := some 4) (v := ?_) (a' := ?_) #[true, true, true, true, true, true, true, true, true] rfl rfl (any_of HT_.out (by kernel_rfl)) (fun _ _ _ h => h) (Or.inl ⟨by rfl, ?_⟩) ?_ ?_
  rotate_left
  · intro w'
    go_simp
    with_reducible rfl
  rotate_left
  · simp only [Act.put, List.setIfInBounds_toArray, List.set_cons_zero, List.set_cons_succ, i64_w, i32_w]
    rfl
  refine done_ (done_of HT_.out (by kernel_rfl)) ?_
  go_wp2
  go_ret
  subst hv
  exact ⟨by first | rfl | simp, HB.out⟩
def TellsL (g : Nat) (lb : Array Value) (x : S51) (b : Bool) (w : World) : Prop :=
  ∀ W, Below w.heap.size w W → ∀ (Ax : Option Addr) (cx : Nat), Kd.C (Kd.int .i64) W Ax x.f0.length x.f0 → x.f0.length ≤ cx →
    Calls Try.prog g (#[.agg #[.slice Ax x.f0.length cx, .int .i64 x.f1]] ++ lb) W fun e W' => e = .returned (.bool b) ∧ Below W.heap.size W W'
set_option maxHeartbeats 1000000 in
theorem indexFunc_line (p : S51 → Bool) (g : Nat) (lb : Array Value) (eg : ∀ args w, (callFunc g args).run Try.prog w = .ok (.enter g args) w)
    (A : Option Addr) (c : Nat) (l : List S51) (w : World) (hr : Kd.C k51 w A l.length l) (hg : ∀ x ∈ l, TellsL g lb x (p x) w) :
    Calls Try.prog 158 #[.slice A l.length c, .func (.func g) #[] lb] w fun e w' => e = .returned (.int .i64 (idxFrom p l 0)) ∧ Below w.heap.size w w' := by
  have HR := Sd.mk hr
  have HG := Sd.mk hg
  have hmax := Kd.C_max hr
  clear hr hg
  go_enter Try.func158, Try.ntmps158
  go_wp2
  go_loopg [5, 8] l.length (fun kq _ v8 w' => ∃ k : Nat, v8 = .int .i64 k ∧ k ≤ l.length ∧ Sd (l.length - k ≤ kq) ∧ Sd (idxFrom p l 0 = idxFrom p (l.drop k) k) ∧ Sd (Below w.heap.size w w'))
  case atStart => exact ⟨0, rfl, Nat.zero_le _, ⟨by omega⟩, ⟨rfl⟩, ⟨Below.refl _ _⟩⟩
  case round =>
    obtain ⟨k, rfl, hk, HM, HI, HB⟩ := hrel
    by_cases hlt : k < l.length
    · have hltz : (k : Int) < (l.length : Int) := by omega
      obtain ⟨ad, Ax, cx, e, hc0, hc1, hlx, hix⟩ := at_T51 (Kd.C_below HR.out HB.out) (k : Int) (by omega) hltz
      cases e
      have HD := idxFrom_drop p z51 l k hlt k
      have hx : rd_T51 l (k : Int) = l.getD k z51 := by simp [rd_T51]
      have hmem : l.getD k z51 ∈ l := by
        rw [List.getD_eq_getElem?_getD, List.getElem?_eq_getElem hlt]; exact List.getElem_mem hlt
      rw [hx] at hc0 hc1 hlx hix
      have hcall := HG.out _ hmem _ HB.out Ax cx hix hlx
      generalize hxx : l.getD k z51 = x at hc0 hc1 hcall HD
      have HX := Sd.mk hxx
      have HD' := Sd.mk HD
      clear hxx HD hx hmem hlx hix
      simp only [Int.toNat_natCast] at hc0 hc1
      cases hp : p x with
      | true =>
        rw [hp] at hcall
        have HP := Sd.mk hp
        clear hp
        go_wp2_with (go_at_fn g; refine (hcall).mono ?_; rintro e w1 ⟨rfl, hb1⟩)
        go_ret
        exact ⟨by rw [HI.out, HD'.out, if_pos HP.out]; rfl, below_trans' HB.out hb1⟩
      | false =>
        rw [hp] at hcall
        have HP := Sd.mk hp
        clear hp
        go_wp2_with (go_at_fn g; refine (hcall).mono ?_; rintro e w1 ⟨rfl, hb1⟩)
        go_roundg (l.length - (k + 1))
        case measure => have := HM.out; omega
        case rel =>
          exact ⟨k + 1, by go_num, by omega, ⟨by omega⟩, ⟨by rw [HI.out, HD'.out, if_neg (by rw [HP.out]; simp)]; simp⟩, ⟨below_trans' HB.out hb1⟩⟩
    · have hltz : ¬ (k : Int) < (l.length : Int) := by omega
      go_wp2
      go_ret
      exact ⟨by rw [HI.out, List.drop_eq_nil_of_le (by omega)]; rfl, HB.out⟩
set_option maxHeartbeats 400000 in
theorem containsFunc_line (p : S51 → Bool) (g : Nat) (lb : Array Value) (eg : ∀ args w, (callFunc g args).run Try.prog w = .ok (.enter g args) w)
    (A : Option Addr) (c : Nat) (l : List S51) (w : World) (hr : Kd.C k51 w A l.length l) (hg : ∀ x ∈ l, TellsL g lb x (p x) w) :
    Calls Try.prog 135 #[.slice A l.length c, .func (.func g) #[] lb] w fun e w' => e = .returned (.bool (l.any p)) ∧ Below w.heap.size w w' := by
  have H := indexFunc_line p g lb eg A c l w hr hg
  have HA := Sd.mk (idxFrom_any p l 0 (Int.le_refl 0))
  clear hr hg eg
  go_enter Try.func135, Try.ntmps135
  go_wp2_with (go_at_call 158; refine H.mono ?_; rintro e w1 ⟨rfl, hb1⟩)
  go_ret
  exact ⟨by rw [← HA.out]; rfl, hb1⟩
def x_keeps.f (l : List S51) (r : List Int) (t : Int) : Option Bool :=
  if (l.all fun x => decide (x.f0.length ≤ r.length) && decide (x.f0.length ≤ 1000000)) = true then some (!(l.any fun x => decide (wrap64 (t * x.f1) < vW r x.f0 x.f0.length))) else none
set_option maxHeartbeats 1000000 in
theorem x_keeps.calls (A0 : Option Addr) (c0 : Nat) (l0 : List S51) (A1 : Option Addr) (c1 : Nat) (l1 : List Int) (a2 : Int) (r : Bool) (w : World) (hr0 : Kd.C k51 w A0 l0.length l0) (hc0 : l0.length ≤ c0) (hr1 : Kd.C (Kd.int .i64) w A1 l1.length l1) (hc1 : l1.length ≤ c1) (h : x_keeps.f l0 l1 a2 = some r) :
    Calls Try.prog 79 #[.slice A0 l0.length c0, .slice A1 l1.length c1, .int .i64 a2] w fun e w' => e = .returned (.bool r) ∧ Below w.heap.size w w' := by
  unfold x_keeps.f at h
  by_cases hall : (l0.all fun x => decide (x.f0.length ≤ l1.length) && decide (x.f0.length ≤ 1000000)) = true
  · rw [if_pos hall] at h
    obtain rfl := Option.some.inj h
    have hb0 : Below w.heap.size w ((w.alloc (.cells #[.slice A1 l1.length c1] 30)).alloc (.cells #[.int .i64 a2] 3)) := below_alloc (below_alloc (Below.refl _ _) _) _
    have hR : ((w.alloc (.cells #[.slice A1 l1.length c1] 30)).alloc (.cells #[.int .i64 a2] 3)).heap[w.heap.size]? = some (.cells #[.slice A1 l1.length c1] 30 (0, 0)) := blk_alloc (blk_new w _) _
    have hT : ((w.alloc (.cells #[.slice A1 l1.length c1] 30)).alloc (.cells #[.int .i64 a2] 3)).heap[w.heap.size + 1]? = some (.cells #[.int .i64 a2] 3 (0, 0)) := by
      have := blk_new (w.alloc (.cells #[.slice A1 l1.length c1] 30)) (.cells #[.int .i64 a2] 3)
      simpa using this
    have hgo := containsFunc_line (fun x => decide (wrap64 (a2 * x.f1) < vW l1 x.f0 x.f0.length)) 136 #[.pointer (some ⟨w.heap.size, 0, none⟩), .pointer (some ⟨w.heap.size + 1, 0, none⟩)] (enters_of Try.func136 (by kernel_rfl) rfl) A0 c0 l0 _ (Kd.C_below hr0 hb0) (fun x hx W hW Ax cx hix hlx => by
      have hh := List.all_eq_true.1 hall x hx
      simp only [Bool.and_eq_true, decide_eq_true_eq] at hh
      exact k136_calls x l1 Ax A1 cx c1 w.heap.size (w.heap.size + 1) a2 W hix hlx (Kd.C_below (Kd.C_below hr1 hb0) hW) hc1 hh.1 hh.2 (blk_below hR hW) (blk_below hT hW))
    have HB := Sd.mk hb0
    clear hb0 hR hT hr0 hr1 hc0 hc1 h hall
    go_enter Try.func79, Try.ntmps79
    go_wp2_with (go_at_call 135; refine hgo.mono ?_; rintro e w1 ⟨rfl, hb1⟩)
    go_ret
    exact ⟨by first | rfl | simp, below_trans' HB.out hb1⟩
  · rw [if_neg hall] at h; cases h
end Go.Proofs.Ytkjkokgbhepmoaa.PB

namespace Go.Proofs.Ytkjkokgbhepmoaa.PB
open Go.RowKit Go.Proofs.YtkjkokgbhepmoaaW.PrintWords Go.Proofs.YtkjkokgbhepmoaaW.PrintLast Go.Proofs.YtkjkokgbhepmoaaW.PrintMore
attribute [local go_sem] max2_int min2_int max_two min_two max_three min_three max_four min_four
def batch_Passes.f (k : Nat) (l0_0 : List ByteArray) (l0_1 : List (S63)) (l0_2 : List (S27)) (l0_3 : List (S65)) (a0_4 : Int) (a0_5 : Int) (a0_6 : Int) (l1 : List Int) : Option (Bool × Int) := (batch_asked.f k l0_0 l0_1 l0_2 l0_3 a0_4 a0_5 a0_6 l1).bind fun t444 => (if t444 = 0 then ((x_lines.f l0_0 l0_1 l0_2 l0_3 a0_4 a0_5 a0_6).bind fun t445 => ((x_keeps.f t445 l1 1).bind fun t448 => (some (t448, 0)))) else (some (false, t444)))
set_option maxHeartbeats 8000000 in
set_option maxRecDepth 100000 in
theorem batch_Passes.calls (k : Nat) (A0_0 : Option Addr) (c0_0 : Nat) (l0_0 : List ByteArray) (A0_1 : Option Addr) (c0_1 : Nat) (l0_1 : List (S63)) (A0_2 : Option Addr) (c0_2 : Nat) (l0_2 : List (S27)) (A0_3 : Option Addr) (c0_3 : Nat) (l0_3 : List (S65)) (a0_4 : Int) (a0_5 : Int) (a0_6 : Int) (A1 : Option Addr) (c1 : Nat) (l1 : List Int) (r1 : Bool) (r2 : Int) (w : World) (hr0_0 : Kd.C Kd.string w A0_0 l0_0.length l0_0) (hc0_0 : l0_0.length ≤ c0_0) (hr0_1 : Kd.C k63 w A0_1 l0_1.length l0_1) (hc0_1 : l0_1.length ≤ c0_1) (hr0_2 : Kd.C k27 w A0_2 l0_2.length l0_2) (hc0_2 : l0_2.length ≤ c0_2) (hr0_3 : Kd.C k65 w A0_3 l0_3.length l0_3) (hc0_3 : l0_3.length ≤ c0_3) (hr1 : Kd.C (Kd.int .i64) w A1 l1.length l1) (hc1 : l1.length ≤ c1) (h : batch_Passes.f k l0_0 l0_1 l0_2 l0_3 a0_4 a0_5 a0_6 l1 = some (r1, r2)) :
  Calls Try.prog 29 #[.agg #[.slice A0_0 l0_0.length c0_0, .slice A0_1 l0_1.length c0_1, .slice A0_2 l0_2.length c0_2, .slice A0_3 l0_3.length c0_3, .int .i64 a0_4, .int .i64 a0_5, .int .i64 a0_6], .slice A1 l1.length c1] w fun e w' => e = .returned (.tuple #[.bool r1, .int .i64 r2]) ∧ Below w.heap.size w w' := by
 have hu29 := Try.underlying29; have HR0_0 := Sd.mk hr0_0; have HC0_0 := Sd.mk hc0_0; clear hr0_0 hc0_0; have HR0_1 := Sd.mk hr0_1; have HC0_1 := Sd.mk hc0_1; clear hr0_1 hc0_1; have HR0_2 := Sd.mk hr0_2; have HC0_2 := Sd.mk hc0_2; clear hr0_2 hc0_2; have HR0_3 := Sd.mk hr0_3; have HC0_3 := Sd.mk hc0_3; clear hr0_3 hc0_3; have HR1 := Sd.mk hr1; have HC1 := Sd.mk hc1; clear hr1 hc1; have HB := Sd.mk (Below.refl w.heap.size w)
 have H : ((batch_asked.f k l0_0 l0_1 l0_2 l0_3 a0_4 a0_5 a0_6 l1).bind fun t444 => (if t444 = 0 then ((x_lines.f l0_0 l0_1 l0_2 l0_3 a0_4 a0_5 a0_6).bind fun t445 => ((x_keeps.f t445 l1 1).bind fun t448 => (some (t448, 0)))) else (some (false, t444)))) = some (r1, r2) := h
 clear h; replace H := Option.bind_eq_some_iff.mp H; obtain ⟨t444, A30, H⟩ := H
 try dsimp only at H
 have A3 := Sd.mk A30; clear A30
 by_cases c4 : t444 = 0
 ·rw [if_pos c4] at H
  have c4b0 : (t444 == 0) = true := beq_iff_eq.mpr c4
  have c4b1 : (t444 != 0) = false := bne_eq_false_iff_eq.mpr c4
  clear c4; replace H := Option.bind_eq_some_iff.mp H; obtain ⟨t445, A50, H⟩ := H
  try dsimp only at H
  have A5 := Sd.mk A50; clear A50; replace H := Option.bind_eq_some_iff.mp H; obtain ⟨t448, A60, H⟩ := H
  try dsimp only at H
  have A6 := Sd.mk A60; clear A60
  simp only [Option.some.injEq, Prod.mk.injEq] at H
  obtain ⟨rfl, rfl⟩ := H
  go_enter Try.func29, Try.ntmps29
  go_wp2_with (first | ((with_reducible refine gate_dst (N := 2) rfl ?_); refine box_event ?hg (N := 2) ?hd (cs := #[.slice A0_0 l0_0.length c0_0, .slice A0_1 l0_1.length c0_1, .slice A0_2 l0_2.length c0_2, .slice A0_3 l0_3.length c0_3, .int .i64 a0_4, .int .i64 a0_5, .int .i64 a0_6]) (t := 29) ?hr ?_; (case hd => rfl); (case hg => rfl); (case hr => exact tG); intro gb443 hg w7 hbox hb; have BK443 := Sd.mk (hbox); have GW443 := Sd.mk (bSz hg (bBl HB.out)); have GE443 := Sd.mk (bSz hg (bBl HB.out)); replace HB := Sd.mk (below_step (bBl HB.out) hb); clear hb hbox hg; obtain ⟨u8_0, u8_1, u8_2, u8_3, u8_4, u8_5, u8_6, o8_0, o8_1, o8_2, o8_3, o8_4, o8_5, o8_6⟩ := bc7 (w := w7) BK443.out) | ((with_reducible refine gate_callee (f := 46) rfl ?_); refine goesL_ (some 9) rfl rfl Try.func46 (by kernel_rfl) rfl #[.agg #[.slice A0_0 l0_0.length c0_0, .slice A0_1 l0_1.length c0_1, .slice A0_2 l0_2.length c0_2, .slice A0_3 l0_3.length c0_3, .int .i64 a0_4, .int .i64 a0_5, .int .i64 a0_6], .slice A1 l1.length c1] rfl tM ?_; (with_reducible refine (batch_asked.calls k _ _ l0_0 _ _ l0_1 _ _ l0_2 _ _ l0_3 a0_4 a0_5 a0_6 _ _ l1 t444 _ (cS (Kd.C_below HR0_0.out HB.out)) HC0_0.out (cS (Kd.C_below HR0_1.out HB.out)) HC0_1.out (cS (Kd.C_below HR0_2.out HB.out)) HC0_2.out (cS (Kd.C_below HR0_3.out HB.out)) HC0_3.out (cS (Kd.C_below HR1.out HB.out)) HC1.out A3.out).mono ?_); rintro e w9 ⟨rfl, hb⟩; refine ⟨_, rfl, ?_⟩; replace BK443 := Sd.mk (blk_below (bkA BK443.out) hb); replace HB := Sd.mk (below_step (bBl HB.out) hb); (try clear hb); (try clear hb2); (try clear hk); (try clear hi); obtain ⟨u10_0, u10_1, u10_2, u10_3, u10_4, u10_5, u10_6, o10_0, o10_1, o10_2, o10_3, o10_4, o10_5, o10_6⟩ := bc7 (w := w9) BK443.out) | ((with_reducible refine gate_callee (f := 63) rfl ?_); refine goesL_ (some 14) rfl rfl Try.func63 (by kernel_rfl) rfl #[.agg #[.slice A0_0 l0_0.length c0_0, .slice A0_1 l0_1.length c0_1, .slice A0_2 l0_2.length c0_2, .slice A0_3 l0_3.length c0_3, .int .i64 a0_4, .int .i64 a0_5, .int .i64 a0_6]] rfl tM ?_; (with_reducible refine (x_lines.calls _ _ l0_0 _ _ l0_1 _ _ l0_2 _ _ l0_3 a0_4 a0_5 a0_6 t445 _ (cS (Kd.C_below HR0_0.out HB.out)) HC0_0.out (cS (Kd.C_below HR0_1.out HB.out)) HC0_1.out (cS (Kd.C_below HR0_2.out HB.out)) HC0_2.out (cS (Kd.C_below HR0_3.out HB.out)) HC0_3.out A5.out).mono ?_); rintro e w11 ⟨v446, rfl, ho0, hb⟩; refine ⟨_, rfl, ?_⟩; have HO447 := Sd.mk (Kd.R_lower ho0 (below_size (bBl HB.out))); replace BK443 := Sd.mk (blk_below (bkA BK443.out) hb); replace HB := Sd.mk (below_step (bBl HB.out) hb); (try clear hb); (try clear hb2); (try clear hk); (try clear hi); (try clear ho0); obtain ⟨Ao12, co12, eo12⟩ := Kd.R_slice HO447.out; subst eo12) | ((with_reducible refine gate_callee (f := 79) rfl ?_); refine goesL_ (some 16) rfl rfl Try.func79 (by kernel_rfl) rfl #[.slice Ao12 t445.length co12, .slice A1 l1.length c1, .int .i64 1] rfl tM ?_; (with_reducible refine (x_keeps.calls _ _ t445 _ _ l1 1 t448 _ (cS ((Kd.R_reads' HO447.out).2.2)) ((Kd.R_reads' HO447.out).2.1) (cS (Kd.C_below HR1.out HB.out)) HC1.out A6.out).mono ?_); rintro e w13 ⟨rfl, hb⟩; refine ⟨_, rfl, ?_⟩; replace HO447 := Sd.mk (Kd.R_below (by (with_reducible repeat (first | apply Kd.R_alloc | apply Kd.R_drewN | apply Kd.R_drew)); exact HO447.out) hb); replace BK443 := Sd.mk (blk_below (bkA BK443.out) hb); replace HB := Sd.mk (below_step (bBl HB.out) hb); (try clear hb); (try clear hb2); (try clear hk); (try clear hi)))
  go_ret2
  exact ⟨tE, bBl HB.out⟩
 ·rw [if_neg c4] at H
  have c4b0 : (t444 == 0) = false := beq_eq_false_iff_ne.mpr c4
  have c4b1 : (t444 != 0) = true := bne_iff_ne.mpr c4
  simp only [Option.some.injEq, Prod.mk.injEq] at H
  obtain ⟨rfl, rfl⟩ := H
  go_enter Try.func29, Try.ntmps29
  go_wp2_with (first | ((with_reducible refine gate_dst (N := 2) rfl ?_); refine box_event ?hg (N := 2) ?hd (cs := #[.slice A0_0 l0_0.length c0_0, .slice A0_1 l0_1.length c0_1, .slice A0_2 l0_2.length c0_2, .slice A0_3 l0_3.length c0_3, .int .i64 a0_4, .int .i64 a0_5, .int .i64 a0_6]) (t := 29) ?hr ?_; (case hd => rfl); (case hg => rfl); (case hr => exact tG); intro gb443 hg w14 hbox hb; have BK443 := Sd.mk (hbox); have GW443 := Sd.mk (bSz hg (bBl HB.out)); have GE443 := Sd.mk (bSz hg (bBl HB.out)); replace HB := Sd.mk (below_step (bBl HB.out) hb); clear hb hbox hg; obtain ⟨u15_0, u15_1, u15_2, u15_3, u15_4, u15_5, u15_6, o15_0, o15_1, o15_2, o15_3, o15_4, o15_5, o15_6⟩ := bc7 (w := w14) BK443.out) | ((with_reducible refine gate_callee (f := 46) rfl ?_); refine goesL_ (some 9) rfl rfl Try.func46 (by kernel_rfl) rfl #[.agg #[.slice A0_0 l0_0.length c0_0, .slice A0_1 l0_1.length c0_1, .slice A0_2 l0_2.length c0_2, .slice A0_3 l0_3.length c0_3, .int .i64 a0_4, .int .i64 a0_5, .int .i64 a0_6], .slice A1 l1.length c1] rfl tM ?_; (with_reducible refine (batch_asked.calls k _ _ l0_0 _ _ l0_1 _ _ l0_2 _ _ l0_3 a0_4 a0_5 a0_6 _ _ l1 t444 _ (cS (Kd.C_below HR0_0.out HB.out)) HC0_0.out (cS (Kd.C_below HR0_1.out HB.out)) HC0_1.out (cS (Kd.C_below HR0_2.out HB.out)) HC0_2.out (cS (Kd.C_below HR0_3.out HB.out)) HC0_3.out (cS (Kd.C_below HR1.out HB.out)) HC1.out A3.out).mono ?_); rintro e w16 ⟨rfl, hb⟩; refine ⟨_, rfl, ?_⟩; replace BK443 := Sd.mk (blk_below (bkA BK443.out) hb); replace HB := Sd.mk (below_step (bBl HB.out) hb); (try clear hb); (try clear hb2); (try clear hk); (try clear hi)))
  go_ret2
  exact ⟨tE, bBl HB.out⟩
end Go.Proofs.Ytkjkokgbhepmoaa.PB

namespace Go.Proofs.Ytkjkokgbhepmoaa.PB
open Go.RowKit Go.Proofs.YtkjkokgbhepmoaaW.PrintWords Go.Proofs.YtkjkokgbhepmoaaW.PrintLast Go.Proofs.YtkjkokgbhepmoaaW.PrintMore
theorem rd_map (mt : List S63) (fc : S63 → Int) (j : Nat) (h : j < mt.length) : rd (mt.map fc) (j : Int) = fc (rd_T63 mt (j : Int)) := by
  simp [rd, rd_T63, List.getD, h]
structure LineOk (n : Nat) (x : S51) : Prop where
  len : x.f0.length = n
  at_ : ∀ j : Nat, j < n → -50000000000000 ≤ rd x.f0 (j : Int) ∧ rd x.f0 (j : Int) ≤ 50000000000000
  b0 : x.f1 ≤ 0
  b1 : -10000000 ≤ x.f1
theorem line_ok {mt : List S63} {fc : S63 → Int} {b : Int} (h : ∀ i : Nat, i < mt.length → -50000000000000 ≤ fc (rd_T63 mt (i : Int)) ∧ fc (rd_T63 mt (i : Int)) ≤ 50000000000000) (h0 : b ≤ 0) (h1 : -10000000 ≤ b) : LineOk mt.length ⟨mt.map fc, b⟩ := by
  refine ⟨List.length_map _, fun j hj => ?_, h0, h1⟩
  show -50000000000000 ≤ rd (mt.map fc) (j : Int) ∧ rd (mt.map fc) (j : Int) ≤ 50000000000000
  rw [rd_map mt fc j hj]
  exact h j hj
theorem gTS_bound {df : Int → Int} {l : List S27} (H : GOk l) (C : DfOk df l.length) : -50000000000000 ≤ gTS df l l.length ∧ gTS df l l.length ≤ 50000000000000 := by
  have h := sumTo_bound (f := gT df l) (M := 3600000000000) (n := l.length) (gT_bound H C) l.length (Nat.le_refl _)
  have hn := H.n12
  unfold gTS
  omega
section
variable {o : List ByteArray} {mt : List S63} {s : List S27} {p : List S65} {a4 a5 a6 : Int}
theorem pair_ok (H : BatchOk o mt s p a4 a5 a6) {j : Nat} (hj : j < s.length + p.length) : ∀ x ∈ pairL mt s p j, LineOk mt.length x := by
  have T := tg_ok H hj
  have C := coef_cfok H hj
  intro x hx
  simp only [pairL, List.mem_cons, List.not_mem_nil, or_false] at hx
  rcases hx with rfl | rfl
  · refine line_ok (fun i hi => ?_) (by omega) (by omega)
    refine gTS_bound (mat_gok H hi) ⟨fun j' hj' => ?_⟩
    rw [(H.mats i hi).len] at hj'
    have := C.at_ j' hj'
    omega
  · refine line_ok (fun i hi => ?_) (by omega) (by omega)
    refine gTS_bound (mat_gok H hi) ⟨fun j' hj' => ?_⟩
    rw [(H.mats i hi).len] at hj'
    have := C.at_ j' hj'
    omega
theorem head_ok (H : BatchOk o mt s p a4 a5 a6) : ∀ n, n ≤ s.length + p.length → ∀ x ∈ headL mt s p a6 n, LineOk mt.length x := by
  intro n
  induction n with
  | zero =>
    intro _ x hx
    simp only [headL, List.mem_cons, List.not_mem_nil, or_false] at hx
    subst hx
    have hw := H.wanted
    refine line_ok (fun i hi => ?_) (by omega) (by omega)
    have := lowM_bound (mat_gok H hi)
    omega
  | succ n ih =>
    intro hn x hx
    simp only [headL, List.mem_append] at hx
    rcases hx with hx | hx
    · exact ih (by omega) x hx
    · exact pair_ok H (by omega) x hx
theorem red_ok (H : BatchOk o mt s p a4 a5 a6) {u : Int} (hu : -10000 ≤ u ∧ u ≤ 10000) {i : Nat} (hi : i < mt.length) :
    (-50000000000000 ≤ rUp u (rd_T63 mt (i : Int)) ∧ rUp u (rd_T63 mt (i : Int)) ≤ 50000000000000) ∧ -50000000000000 ≤ rDn u (rd_T63 mt (i : Int)) ∧ rDn u (rd_T63 mt (i : Int)) ≤ 50000000000000 := by
  have hl := lowM_bound (mat_gok H hi)
  have hr := (H.mats i hi).redox
  have h1 := mulr hu.1 hu.2 hl.1 (Int.le_trans hl.2.1 hl.2.2)
  have h2 := mulr hu.1 hu.2 (Int.le_trans hl.1 hl.2.1) hl.2.2
  unfold rUp rDn mn mx
  constructor <;> split <;> omega
theorem lines_ok (H : BatchOk o mt s p a4 a5 a6) : ∀ x ∈ linesV mt s p a4 a5 a6, LineOk mt.length x := by
  have hr := H.redox
  intro x hx
  simp only [linesV, List.mem_append, List.mem_cons, List.not_mem_nil, or_false] at hx
  rcases hx with hx | rfl | rfl
  · exact head_ok H _ (Nat.le_refl _) x hx
  · exact line_ok (fun i hi => (red_ok H (by omega) hi).1) (by omega) (by omega)
  · exact line_ok (fun i hi => (red_ok H (by omega) hi).2) (by omega) (by omega)
end
def tot (r fs : List Int) (i : Nat) : Int := sumTo (fun j => rd r (j : Int) * rd fs (j : Int)) i
theorem prod_bound {a b : Int} (h0 : 0 ≤ a) (h1 : a ≤ 10000) (h2 : -50000000000000 ≤ b) (h3 : b ≤ 50000000000000) : -500000000000000000 ≤ a * b ∧ a * b ≤ 500000000000000000 := by
  have e1 := Int.mul_le_mul_of_nonneg_left h2 h0
  have e2 := Int.mul_le_mul_of_nonneg_left h3 h0
  omega
theorem vW_tot {mt : List S63} {r : List Int} {x : S51} (hm : mt.length ≤ 12) (hr : RecOk mt r) (hx : LineOk mt.length x) : ∀ i, i ≤ mt.length → vW r x.f0 i = tot r x.f0 i := by
  have hb : ∀ j, j < mt.length → -500000000000000000 ≤ rd r (j : Int) * rd x.f0 (j : Int) ∧ rd r (j : Int) * rd x.f0 (j : Int) ≤ 500000000000000000 := fun j hj => prod_bound (hr.kilos j hj).1 (hr.kilos j hj).2 (hx.at_ j hj).1 (hx.at_ j hj).2
  intro i
  induction i with
  | zero => intro _; rfl
  | succ i ih =>
    intro hi
    have h1 := hb i (by omega)
    have h2 := sumTo_bound (f := fun j => rd r (j : Int) * rd x.f0 (j : Int)) (M := 500000000000000000) (n := mt.length) hb i (by omega)
    have h3 := ih (by omega)
    unfold tot at *
    simp only [vW, sumTo, h3]
    rw [wrap_id (x := rd r (i : Int) * rd x.f0 (i : Int)) (by omega) (by omega), wrap_id (by omega) (by omega)]
theorem not_any_all {α : Type} {l : List α} {f g : α → Bool} (h : ∀ x ∈ l, f x = !(g x)) : (!(l.any f)) = l.all g := by
  induction l with
  | nil => rfl
  | cons x l ih =>
    rw [List.any_cons, List.all_cons, ← ih fun y hy => h y (List.mem_cons_of_mem _ hy), h x List.mem_cons_self]
    cases g x <;> simp
section
variable (o : List ByteArray) (mt : List S63) (s : List S27) (p : List S65) (a4 a5 a6 : Int) (r : List Int)
def passB : Bool := (linesV mt s p a4 a5 a6).all fun x => decide (tot r x.f0 mt.length ≤ x.f1)
theorem keeps_f (H : BatchOk o mt s p a4 a5 a6) (hr : RecOk mt r) : x_keeps.f (linesV mt s p a4 a5 a6) r 1 = some (passB mt s p a4 a5 a6 r) := by
  have L := lines_ok H
  have hm := H.m12
  have hrl := hr.len
  unfold x_keeps.f passB
  rw [if_pos (List.all_eq_true.2 fun x hx => by have h := (L x hx).len; simp only [Bool.and_eq_true, decide_eq_true_eq]; omega)]
  congr 1
  refine not_any_all fun x hx => ?_
  have h := L x hx
  rw [h.len, vW_tot hm hr h mt.length (Nat.le_refl _), wrap_id (x := 1 * x.f1) (by have := h.b0; have := h.b1; omega) (by have := h.b0; omega), Int.one_mul]
  by_cases hc : tot r x.f0 mt.length ≤ x.f1
  · rw [decide_eq_true hc, decide_eq_false (by omega)]; rfl
  · rw [decide_eq_false hc, decide_eq_true (by omega)]; rfl
def PassV : Bool × Int := if askV o mt s p a4 a5 a6 r = 0 then (passB mt s p a4 a5 a6 r, 0) else (false, askV o mt s p a4 a5 a6 r)
theorem ask_check (h : askV o mt s p a4 a5 a6 r = 0) : checkV o mt s p a4 a5 a6 = 0 := by
  unfold askV at h
  by_cases hc : checkV o mt s p a4 a5 a6 = 0
  · exact hc
  · rw [if_neg hc] at h; exact absurd h hc
theorem bPasses : Ev (fun k => batch_Passes.f k o mt s p a4 a5 a6 r) (PassV o mt s p a4 a5 a6 r) := by
  unfold batch_Passes.f PassV
  refine Ev.bind (basked o mt s p a4 a5 a6 r) ?_
  by_cases h : askV o mt s p a4 a5 a6 r = 0
  · obtain ⟨H, hr⟩ := ask_ok h
    simp only [if_pos h, x_lines.f, if_pos (ask_check o mt s p a4 a5 a6 r h), Option.bind_some, keeps_f o mt s p a4 a5 a6 r H hr]
    exact Ev.const _
  · simp only [if_neg h]; exact Ev.const _
end
end Go.Proofs.Ytkjkokgbhepmoaa.PB

namespace Go.Proofs.Ytkjkokgbhepmoaa.PB
open Go.RowKit Go.Proofs.YtkjkokgbhepmoaaW.PrintWords Go.Proofs.YtkjkokgbhepmoaaW.PrintLast Go.Proofs.YtkjkokgbhepmoaaW.PrintMore
attribute [local go_sem] max2_int min2_int max_two min_two max_three min_three max_four min_four
mutual
def lw_BatchSums.j0 : Nat → Bool → List ByteArray → List (S63) → List (S27) → List (S65) → Int → Int → Int → List Int → List Int → Int → Int → Int → List Int → Option (Bool)
 | 0, _, _, _, _, _, _, _, _, _, _, _, _, _, _ => none
 | k + 1, x17, x450q0, x450q1, x450q2, x450q3, x450q4, x450q5, x450q6, x451q0, x451q1, x451q2, x451q3, x451q4, x451q5 => if x17 = true then ((lw_lives.f k).bind fun t453 => (some t453)) else ((batch_Passes.f k x450q0 x450q1 x450q2 x450q3 x450q4 x450q5 x450q6 x451q0).bind fun bt454 => ((batch_Passes.f k x450q0 x450q1 x450q2 x450q3 x450q4 x450q5 x450q6 x451q1).bind fun bt456 => (if bt454.2 = 0 then (if bt456.2 = 0 then (if bt454.1 = true then (lw_BatchSums.j1 k (!bt456.1) x450q0 x450q1 x450q2 x450q3 x450q4 x450q5 x450q6 x451q0 x451q1 x451q2 x451q3 x451q4 x451q5) else (lw_BatchSums.j1 k true x450q0 x450q1 x450q2 x450q3 x450q4 x450q5 x450q6 x451q0 x451q1 x451q2 x451q3 x451q4 x451q5)) else (lw_BatchSums.j1 k true x450q0 x450q1 x450q2 x450q3 x450q4 x450q5 x450q6 x451q0 x451q1 x451q2 x451q3 x451q4 x451q5)) else (lw_BatchSums.j1 k true x450q0 x450q1 x450q2 x450q3 x450q4 x450q5 x450q6 x451q0 x451q1 x451q2 x451q3 x451q4 x451q5))))
def lw_BatchSums.j1 : Nat → Bool → List ByteArray → List (S63) → List (S27) → List (S65) → Int → Int → Int → List Int → List Int → Int → Int → Int → List Int → Option (Bool)
 | 0, _, _, _, _, _, _, _, _, _, _, _, _, _, _ => none
 | k + 1, x46, x450q0, x450q1, x450q2, x450q3, x450q4, x450q5, x450q6, x451q0, x451q1, x451q2, x451q3, x451q4, x451q5 => if x46 = true then ((lw_lives.f k).bind fun t458 => (some t458)) else (lw_BatchSums.l0 k ([] : List Int) 0 x450q0 x450q1 x450q2 x450q3 x450q4 x450q5 x450q6 x451q0 x451q1 x451q2 x451q3 x451q4 x451q5)
def lw_BatchSums.l0 : Nat → List Int → Int → List ByteArray → List (S63) → List (S27) → List (S65) → Int → Int → Int → List Int → List Int → Int → Int → Int → List Int → Option (Bool)
 | 0, _, _, _, _, _, _, _, _, _, _, _, _, _, _, _ => none
 | k + 1, x9, x10, x450q0, x450q1, x450q2, x450q3, x450q4, x450q5, x450q6, x451q0, x451q1, x451q2, x451q3, x451q4, x451q5 => if x10 < (x451q0.length : Int) then (if 0 ≤ x10 then (if x10 < (x451q1.length : Int) then (if x9.length < 17592186044416 then (lw_BatchSums.l0 k (x9 ++ [wrap64 ((rd x451q0 x10) + (rd x451q1 x10))]) (wrap64 (x10 + 1)) x450q0 x450q1 x450q2 x450q3 x450q4 x450q5 x450q6 x451q0 x451q1 x451q2 x451q3 x451q4 x451q5) else (none)) else (none)) else (none)) else ((batch_Passes.f k x450q0 x450q1 x450q2 x450q3 x450q4 x450q5 x450q6 x9).bind fun bt464 => (if bt464.2 = 1 then ((lw_lives.f k).bind fun t466 => (some t466)) else (if bt464.2 = 0 then (if bt464.1 = true then ((lw_lives.f k).bind fun t467 => (some t467)) else (some false)) else (some false))))
end
def lw_BatchSums.f (k : Nat) (l0_0 : List ByteArray) (l0_1 : List (S63)) (l0_2 : List (S27)) (l0_3 : List (S65)) (a0_4 : Int) (a0_5 : Int) (a0_6 : Int) (l1_0 : List Int) (l1_1 : List Int) (a1_2 : Int) (a1_3 : Int) (a1_4 : Int) (l1_5 : List Int) : Option (Bool) := (lw_Great.f k l0_0 l0_1 l0_2 l0_3 a0_4 a0_5 a0_6).bind fun t451 => (if t451 = true then (lw_BatchSums.j0 k true l0_0 l0_1 l0_2 l0_3 a0_4 a0_5 a0_6 l1_0 l1_1 a1_2 a1_3 a1_4 l1_5) else ((lw_wide.f l1_0 l1_1 a1_2 a1_3 a1_4 l1_5).bind fun t452 => (lw_BatchSums.j0 k t452 l0_0 l0_1 l0_2 l0_3 a0_4 a0_5 a0_6 l1_0 l1_1 a1_2 a1_3 a1_4 l1_5)))
def lw_BatchSums.T11 : Bool × List (List Nat × List Nat) := (true, [([], []), ([], []), ([1], [1]), ([], []), ([2, 3], [2, 3]), ([4], [4]), ([], []), ([6], [6]), ([], []), ([7, 8], [7, 8]), ([9], [9]), ([5, 10], [5, 10]), ([11], [11]), ([0, 12], [0, 12]), ([13, 13, 0, 1, 2, 3, 4, 5, 6, 7, 8, 9, 10, 11, 12, 13], [0, 13])])
def lw_BatchSums.B11 : List Nat := [0, 0, 2, 0, 14, 30, 0, 64, 0, 448, 960, 2046, 4094, 8191, 16383]
theorem lw_BatchSums.tab11 : rtab .any (opsOf Try.f5 11) = lw_BatchSums.T11 := by kernel_rfl
theorem lw_BatchSums.bits11 : waitsOk lw_BatchSums.T11.2 lw_BatchSums.B11 = true := by kernel_rfl
set_option maxHeartbeats 8000000 in
set_option maxRecDepth 100000 in
theorem lw_BatchSums.calls (k : Nat) (A0_0 : Option Addr) (c0_0 : Nat) (l0_0 : List ByteArray) (A0_1 : Option Addr) (c0_1 : Nat) (l0_1 : List (S63)) (A0_2 : Option Addr) (c0_2 : Nat) (l0_2 : List (S27)) (A0_3 : Option Addr) (c0_3 : Nat) (l0_3 : List (S65)) (a0_4 : Int) (a0_5 : Int) (a0_6 : Int) (A1_0 : Option Addr) (c1_0 : Nat) (l1_0 : List Int) (A1_1 : Option Addr) (c1_1 : Nat) (l1_1 : List Int) (a1_2 : Int) (a1_3 : Int) (a1_4 : Int) (A1_5 : Option Addr) (c1_5 : Nat) (l1_5 : List Int) (r : Bool) (w : World) (hr0_0 : Kd.C Kd.string w A0_0 l0_0.length l0_0) (hc0_0 : l0_0.length ≤ c0_0) (hr0_1 : Kd.C k63 w A0_1 l0_1.length l0_1) (hc0_1 : l0_1.length ≤ c0_1) (hr0_2 : Kd.C k27 w A0_2 l0_2.length l0_2) (hc0_2 : l0_2.length ≤ c0_2) (hr0_3 : Kd.C k65 w A0_3 l0_3.length l0_3) (hc0_3 : l0_3.length ≤ c0_3) (hr1_0 : Kd.C (Kd.int .i64) w A1_0 l1_0.length l1_0) (hc1_0 : l1_0.length ≤ c1_0) (hr1_1 : Kd.C (Kd.int .i64) w A1_1 l1_1.length l1_1) (hc1_1 : l1_1.length ≤ c1_1) (hr1_5 : Kd.C (Kd.int .i64) w A1_5 l1_5.length l1_5) (hc1_5 : l1_5.length ≤ c1_5) (h : lw_BatchSums.f k l0_0 l0_1 l0_2 l0_3 a0_4 a0_5 a0_6 l1_0 l1_1 a1_2 a1_3 a1_4 l1_5 = some r) :
  Calls Try.prog 5 #[.agg #[.slice A0_0 l0_0.length c0_0, .slice A0_1 l0_1.length c0_1, .slice A0_2 l0_2.length c0_2, .slice A0_3 l0_3.length c0_3, .int .i64 a0_4, .int .i64 a0_5, .int .i64 a0_6], .agg #[.slice A1_0 l1_0.length c1_0, .slice A1_1 l1_1.length c1_1, .int .i64 a1_2, .int .i64 a1_3, .int .i64 a1_4, .slice A1_5 l1_5.length c1_5]] w fun e w' => e = .returned (.bool r) ∧ Below w.heap.size w w' := by
 have hu29 := Try.underlying29; have hu34 := Try.underlying34; have HR0_0 := Sd.mk hr0_0; have HC0_0 := Sd.mk hc0_0; clear hr0_0 hc0_0; have HR0_1 := Sd.mk hr0_1; have HC0_1 := Sd.mk hc0_1; clear hr0_1 hc0_1; have HR0_2 := Sd.mk hr0_2; have HC0_2 := Sd.mk hc0_2; clear hr0_2 hc0_2; have HR0_3 := Sd.mk hr0_3; have HC0_3 := Sd.mk hc0_3; clear hr0_3 hc0_3; have HR1_0 := Sd.mk hr1_0; have HC1_0 := Sd.mk hc1_0; clear hr1_0 hc1_0; have HR1_1 := Sd.mk hr1_1; have HC1_1 := Sd.mk hc1_1; clear hr1_1 hc1_1; have HR1_5 := Sd.mk hr1_5; have HC1_5 := Sd.mk hc1_5; clear hr1_5 hc1_5; have HB := Sd.mk (Below.refl w.heap.size w)
 have H : ((lw_Great.f k l0_0 l0_1 l0_2 l0_3 a0_4 a0_5 a0_6).bind fun t451 => (if t451 = true then (lw_BatchSums.j0 k true l0_0 l0_1 l0_2 l0_3 a0_4 a0_5 a0_6 l1_0 l1_1 a1_2 a1_3 a1_4 l1_5) else ((lw_wide.f l1_0 l1_1 a1_2 a1_3 a1_4 l1_5).bind fun t452 => (lw_BatchSums.j0 k t452 l0_0 l0_1 l0_2 l0_3 a0_4 a0_5 a0_6 l1_0 l1_1 a1_2 a1_3 a1_4 l1_5)))) = some r := h
 clear h; have HC3 := Sd.mk H; clear H
 go_enter Try.func5, Try.ntmps5
 go_upto_region 1 with (first | ((with_reducible refine gate_dst (N := 2) rfl ?_); refine box_event ?hg (N := 2) ?hd (cs := #[.slice A0_0 l0_0.length c0_0, .slice A0_1 l0_1.length c0_1, .slice A0_2 l0_2.length c0_2, .slice A0_3 l0_3.length c0_3, .int .i64 a0_4, .int .i64 a0_5, .int .i64 a0_6]) (t := 29) ?hr ?_; (case hd => rfl); (case hg => rfl); (case hr => exact tG); intro gb449 hg w4 hbox hb; have BK449 := Sd.mk (hbox); have GW449 := Sd.mk (bSz hg (bBl HB.out)); have GE449 := Sd.mk (bSz hg (bBl HB.out)); replace HB := Sd.mk (below_step (bBl HB.out) hb); clear hb hbox hg) | ((with_reducible refine gate_dst (N := 3) rfl ?_); refine box_event ?hg (N := 3) ?hd (cs := #[.slice A1_0 l1_0.length c1_0, .slice A1_1 l1_1.length c1_1, .int .i64 a1_2, .int .i64 a1_3, .int .i64 a1_4, .slice A1_5 l1_5.length c1_5]) (t := 34) ?hr ?_; (case hd => rfl); (case hg => rfl); (case hr => exact tG); intro gb450 hg w5 hbox hb; have BK450 := Sd.mk (hbox); have GW450 := Sd.mk (bSz hg (bBl HB.out)); have GE450 := Sd.mk (bSz hg (bBl HB.out)); replace HB := Sd.mk (below_step (bBl HB.out) hb); have NB449_450 := Sd.mk (bNl hg (bkA BK449.out)); have NB450_449 := Sd.mk (bNg hg (bkA BK449.out)); replace BK449 := Sd.mk (blk_below (bkA BK449.out) hb); clear hb hbox hg))
 (try simp only [Act.put, List.setIfInBounds_toArray, List.set_cons_zero, List.set_cons_succ])
 go_cut [17] (fun v17 wc => ∃ (kq : Nat) (x17_2 : Bool), v17 = .bool x17_2 ∧ Sd (lw_BatchSums.j0 kq x17_2 l0_0 l0_1 l0_2 l0_3 a0_4 a0_5 a0_6 l1_0 l1_1 a1_2 a1_3 a1_4 l1_5 = some r) ∧ Sd (kq ≤ k) ∧ Sd (wc.heap[gb449]? = some (.cells #[(.slice A0_0 l0_0.length c0_0), (.slice A0_1 l0_1.length c0_1), (.slice A0_2 l0_2.length c0_2), (.slice A0_3 l0_3.length c0_3), .int .i64 a0_4, .int .i64 a0_5, .int .i64 a0_6] 29 (0, 0))) ∧ Sd (wc.heap[gb450]? = some (.cells #[(.slice A1_0 l1_0.length c1_0), (.slice A1_1 l1_1.length c1_1), .int .i64 a1_2, .int .i64 a1_3, .int .i64 a1_4, (.slice A1_5 l1_5.length c1_5)] 34 (0, 0))) ∧ Sd (Below w.heap.size w wc))
 case first =>
  have H := HC3.out; clear HC3; replace H := Option.bind_eq_some_iff.mp H; obtain ⟨t451, A60, H⟩ := H
  try dsimp only at H
  have A6 := Sd.mk A60; clear A60
  by_cases c7 : t451 = true
  ·subst c7
   have H1 : (lw_BatchSums.j0 k true l0_0 l0_1 l0_2 l0_3 a0_4 a0_5 a0_6 l1_0 l1_1 a1_2 a1_3 a1_4 l1_5) = some r := by rw [if_pos rfl] at H; exact H
   clear H; have H := H1; clear H1; have H' := Sd.mk H; clear H; have hnb8 := NB449_450.out; have hnc8 := NB450_449.out; obtain ⟨u9_0, u9_1, u9_2, u9_3, u9_4, u9_5, u9_6, o9_0, o9_1, o9_2, o9_3, o9_4, o9_5, o9_6⟩ := bc7 (w := w5) BK449.out
   go_wp2_with (first | ((with_reducible refine gate_callee (f := 12) rfl ?_); refine goesL_ (some 13) rfl rfl Try.func12 (by kernel_rfl) rfl #[.agg #[.slice A0_0 l0_0.length c0_0, .slice A0_1 l0_1.length c0_1, .slice A0_2 l0_2.length c0_2, .slice A0_3 l0_3.length c0_3, .int .i64 a0_4, .int .i64 a0_5, .int .i64 a0_6]] rfl tM ?_; (with_reducible refine (lw_Great.calls k _ _ l0_0 _ _ l0_1 _ _ l0_2 _ _ l0_3 a0_4 a0_5 a0_6 true _ (cS (Kd.C_below HR0_0.out HB.out)) HC0_0.out (cS (Kd.C_below HR0_1.out HB.out)) HC0_1.out (cS (Kd.C_below HR0_2.out HB.out)) HC0_2.out (cS (Kd.C_below HR0_3.out HB.out)) HC0_3.out A6.out).mono ?_); rintro e w10 ⟨rfl, hb⟩; refine ⟨_, rfl, ?_⟩; replace BK449 := Sd.mk (blk_below (bkA BK449.out) hb); replace BK450 := Sd.mk (blk_below (bkA BK450.out) hb); replace HB := Sd.mk (below_step (bBl HB.out) hb); (try clear hb); (try clear hb2); (try clear hk); (try clear hi)))
   go_meet
   case rel => exact ⟨_, (true), tS, H', ⟨by first | omega | exact Nat.le_refl _⟩, ⟨bkA BK449.out⟩, ⟨bkA BK450.out⟩, ⟨bBl HB.out⟩⟩
  ·replace c7 := Bool.eq_false_iff.mpr c7
   subst c7
   have H1 : ((lw_wide.f l1_0 l1_1 a1_2 a1_3 a1_4 l1_5).bind fun t452 => (lw_BatchSums.j0 k t452 l0_0 l0_1 l0_2 l0_3 a0_4 a0_5 a0_6 l1_0 l1_1 a1_2 a1_3 a1_4 l1_5)) = some r := by rw [if_neg (show ¬ (false = true) by decide)] at H; exact H
   clear H; have H := H1; clear H1; replace H := Option.bind_eq_some_iff.mp H; obtain ⟨t452, A110, H⟩ := H
   try dsimp only at H
   have A11 := Sd.mk A110; clear A110; have H' := Sd.mk H; clear H; have hnb12 := NB449_450.out; have hnc12 := NB450_449.out; obtain ⟨u13_0, u13_1, u13_2, u13_3, u13_4, u13_5, u13_6, o13_0, o13_1, o13_2, o13_3, o13_4, o13_5, o13_6⟩ := bc7 (w := w5) BK449.out
   go_wp2_with (first | ((with_reducible refine gate_callee (f := 12) rfl ?_); refine goesL_ (some 13) rfl rfl Try.func12 (by kernel_rfl) rfl #[.agg #[.slice A0_0 l0_0.length c0_0, .slice A0_1 l0_1.length c0_1, .slice A0_2 l0_2.length c0_2, .slice A0_3 l0_3.length c0_3, .int .i64 a0_4, .int .i64 a0_5, .int .i64 a0_6]] rfl tM ?_; (with_reducible refine (lw_Great.calls k _ _ l0_0 _ _ l0_1 _ _ l0_2 _ _ l0_3 a0_4 a0_5 a0_6 false _ (cS (Kd.C_below HR0_0.out HB.out)) HC0_0.out (cS (Kd.C_below HR0_1.out HB.out)) HC0_1.out (cS (Kd.C_below HR0_2.out HB.out)) HC0_2.out (cS (Kd.C_below HR0_3.out HB.out)) HC0_3.out A6.out).mono ?_); rintro e w14 ⟨rfl, hb⟩; refine ⟨_, rfl, ?_⟩; replace BK449 := Sd.mk (blk_below (bkA BK449.out) hb); replace BK450 := Sd.mk (blk_below (bkA BK450.out) hb); replace HB := Sd.mk (below_step (bBl HB.out) hb); (try clear hb); (try clear hb2); (try clear hk); (try clear hi); obtain ⟨u15_0, u15_1, u15_2, u15_3, u15_4, u15_5, o15_0, o15_1, o15_2, o15_3, o15_4, o15_5⟩ := bc6 (w := w14) BK450.out) | (go_at_call 13; (with_reducible refine (lw_wide.calls _ _ l1_0 _ _ l1_1 a1_2 a1_3 a1_4 _ _ l1_5 t452 _ (cS (Kd.C_below HR1_0.out HB.out)) HC1_0.out (cS (Kd.C_below HR1_1.out HB.out)) HC1_1.out (cS (Kd.C_below HR1_5.out HB.out)) HC1_5.out A11.out).mono ?_); rintro e w16 ⟨rfl, hb⟩; replace BK449 := Sd.mk (blk_below (bkA BK449.out) hb); replace BK450 := Sd.mk (blk_below (bkA BK450.out) hb); replace HB := Sd.mk (below_step (bBl HB.out) hb); (try clear hb); (try clear hb2); (try clear hk); (try clear hi)))
   go_meet
   case rel => exact ⟨_, (t452), tS, H', ⟨by first | omega | exact Nat.le_refl _⟩, ⟨bkA BK449.out⟩, ⟨bkA BK450.out⟩, ⟨bBl HB.out⟩⟩
 case rest =>
  clear HC3; (try clear c1); (try clear p2); (try clear c5); (try clear c7); (try clear c8); (try clear c12); (try clear u13_0 u13_1 u13_2 u13_3 u13_4 u13_5 u13_6); (try clear u15_0 u15_1 u15_2 u15_3 u15_4 u15_5); (try clear u9_0 u9_1 u9_2 u9_3 u9_4 u9_5 u9_6); (try clear o13_0 o13_1 o13_2 o13_3 o13_4 o13_5 o13_6); (try clear o15_0 o15_1 o15_2 o15_3 o15_4 o15_5); (try clear o9_0 o9_1 o9_2 o9_3 o9_4 o9_5 o9_6); obtain ⟨kq, x17_2, rfl, HA, HJ2, BK449, BK450, HB⟩ := hcut
  cases kq with
  | zero => exact absurd HA.out (by simp [lw_BatchSums.j0])
  | succ kj2 =>
   have H := HA.out; clear HA
   simp only [lw_BatchSums.j0] at H
   by_cases c17 : x17_2 = true
   ·subst c17
    have H1 : ((lw_lives.f kj2).bind fun t453 => (some t453)) = some r := by rw [if_pos rfl] at H; exact H
    clear H; have H := H1; clear H1; replace H := Option.bind_eq_some_iff.mp H; obtain ⟨t453, A180, H⟩ := H
    try dsimp only at H
    have A18 := Sd.mk A180; clear A180; obtain rfl := Option.some.inj H
    go_wp2_with (first | ((with_reducible refine gate_callee (f := 14) rfl ?_); refine goesL_ (some 18) rfl rfl Try.func14 (by kernel_rfl) rfl #[] rfl tM ?_; (with_reducible refine (lw_lives.calls kj2  t453 _ A18.out).mono ?_); rintro e w19 ⟨rfl, hb⟩; refine ⟨_, rfl, ?_⟩; replace BK449 := Sd.mk (blk_below (bkA BK449.out) hb); replace BK450 := Sd.mk (blk_below (bkA BK450.out) hb); replace HB := Sd.mk (below_step (bBl HB.out) hb); (try clear hb); (try clear hb2); (try clear hk); (try clear hi)))
    go_ret
    exact ⟨tE, bBl HB.out⟩
   ·replace c17 := Bool.eq_false_iff.mpr c17
    subst c17
    have H1 : ((batch_Passes.f kj2 l0_0 l0_1 l0_2 l0_3 a0_4 a0_5 a0_6 l1_0).bind fun bt454 => ((batch_Passes.f kj2 l0_0 l0_1 l0_2 l0_3 a0_4 a0_5 a0_6 l1_1).bind fun bt456 => (if bt454.2 = 0 then (if bt456.2 = 0 then (if bt454.1 = true then (lw_BatchSums.j1 kj2 (!bt456.1) l0_0 l0_1 l0_2 l0_3 a0_4 a0_5 a0_6 l1_0 l1_1 a1_2 a1_3 a1_4 l1_5) else (lw_BatchSums.j1 kj2 true l0_0 l0_1 l0_2 l0_3 a0_4 a0_5 a0_6 l1_0 l1_1 a1_2 a1_3 a1_4 l1_5)) else (lw_BatchSums.j1 kj2 true l0_0 l0_1 l0_2 l0_3 a0_4 a0_5 a0_6 l1_0 l1_1 a1_2 a1_3 a1_4 l1_5)) else (lw_BatchSums.j1 kj2 true l0_0 l0_1 l0_2 l0_3 a0_4 a0_5 a0_6 l1_0 l1_1 a1_2 a1_3 a1_4 l1_5)))) = some r := by rw [if_neg (show ¬ (false = true) by decide)] at H; exact H
    clear H; have H := H1; clear H1; replace H := Option.bind_eq_some_iff.mp H
    obtain ⟨⟨t454, t455⟩, A200, H⟩ := H
    try dsimp only at H
    have A20 := Sd.mk A200; clear A200; replace H := Option.bind_eq_some_iff.mp H
    obtain ⟨⟨t456, t457⟩, A210, H⟩ := H
    try dsimp only at H
    have A21 := Sd.mk A210; clear A210; have HC22 := Sd.mk H; clear H; have hnb23 := NB449_450.out; have hnc23 := NB450_449.out; obtain ⟨u24_0, u24_1, u24_2, u24_3, u24_4, u24_5, u24_6, o24_0, o24_1, o24_2, o24_3, o24_4, o24_5, o24_6⟩ := bc7 (w := wc) BK449.out; obtain ⟨u25_0, u25_1, u25_2, u25_3, u25_4, u25_5, o25_0, o25_1, o25_2, o25_3, o25_4, o25_5⟩ := bc6 (w := wc) BK450.out
    go_upto_region 5 with (first | ((with_reducible refine gate_callee (f := 29) rfl ?_); refine goesL_ (some 23) rfl rfl Try.func29 (by kernel_rfl) rfl #[.agg #[.slice A0_0 l0_0.length c0_0, .slice A0_1 l0_1.length c0_1, .slice A0_2 l0_2.length c0_2, .slice A0_3 l0_3.length c0_3, .int .i64 a0_4, .int .i64 a0_5, .int .i64 a0_6], .slice A1_0 l1_0.length c1_0] rfl tM ?_; (with_reducible refine (batch_Passes.calls kj2 _ _ l0_0 _ _ l0_1 _ _ l0_2 _ _ l0_3 a0_4 a0_5 a0_6 _ _ l1_0 t454 t455 _ (cS (Kd.C_below HR0_0.out HB.out)) HC0_0.out (cS (Kd.C_below HR0_1.out HB.out)) HC0_1.out (cS (Kd.C_below HR0_2.out HB.out)) HC0_2.out (cS (Kd.C_below HR0_3.out HB.out)) HC0_3.out (cS (Kd.C_below HR1_0.out HB.out)) HC1_0.out A20.out).mono ?_); rintro e w26 ⟨rfl, hb⟩; refine ⟨_, rfl, ?_⟩; replace BK449 := Sd.mk (blk_below (bkA BK449.out) hb); replace BK450 := Sd.mk (blk_below (bkA BK450.out) hb); replace HB := Sd.mk (below_step (bBl HB.out) hb); (try clear hb); (try clear hb2); (try clear hk); (try clear hi); obtain ⟨u27_0, u27_1, u27_2, u27_3, u27_4, u27_5, u27_6, o27_0, o27_1, o27_2, o27_3, o27_4, o27_5, o27_6⟩ := bc7 (w := w26) BK449.out; obtain ⟨u28_0, u28_1, u28_2, u28_3, u28_4, u28_5, o28_0, o28_1, o28_2, o28_3, o28_4, o28_5⟩ := bc6 (w := w26) BK450.out) | ((with_reducible refine gate_callee (f := 29) rfl ?_); refine goesL_ (some 30) rfl rfl Try.func29 (by kernel_rfl) rfl #[.agg #[.slice A0_0 l0_0.length c0_0, .slice A0_1 l0_1.length c0_1, .slice A0_2 l0_2.length c0_2, .slice A0_3 l0_3.length c0_3, .int .i64 a0_4, .int .i64 a0_5, .int .i64 a0_6], .slice A1_1 l1_1.length c1_1] rfl tM ?_; (with_reducible refine (batch_Passes.calls kj2 _ _ l0_0 _ _ l0_1 _ _ l0_2 _ _ l0_3 a0_4 a0_5 a0_6 _ _ l1_1 t456 t457 _ (cS (Kd.C_below HR0_0.out HB.out)) HC0_0.out (cS (Kd.C_below HR0_1.out HB.out)) HC0_1.out (cS (Kd.C_below HR0_2.out HB.out)) HC0_2.out (cS (Kd.C_below HR0_3.out HB.out)) HC0_3.out (cS (Kd.C_below HR1_1.out HB.out)) HC1_1.out A21.out).mono ?_); rintro e w29 ⟨rfl, hb⟩; refine ⟨_, rfl, ?_⟩; replace BK449 := Sd.mk (blk_below (bkA BK449.out) hb); replace BK450 := Sd.mk (blk_below (bkA BK450.out) hb); replace HB := Sd.mk (below_step (bBl HB.out) hb); (try clear hb); (try clear hb2); (try clear hk); (try clear hi)))
    (try simp only [Act.put, List.setIfInBounds_toArray, List.set_cons_zero, List.set_cons_succ])
    go_cut [46] (fun v46 wc => ∃ (kq : Nat) (x46_21 : Bool), v46 = .bool x46_21 ∧ Sd (lw_BatchSums.j1 kq x46_21 l0_0 l0_1 l0_2 l0_3 a0_4 a0_5 a0_6 l1_0 l1_1 a1_2 a1_3 a1_4 l1_5 = some r) ∧ Sd (kq ≤ kj2) ∧ Sd (wc.heap[gb449]? = some (.cells #[(.slice A0_0 l0_0.length c0_0), (.slice A0_1 l0_1.length c0_1), (.slice A0_2 l0_2.length c0_2), (.slice A0_3 l0_3.length c0_3), .int .i64 a0_4, .int .i64 a0_5, .int .i64 a0_6] 29 (0, 0))) ∧ Sd (wc.heap[gb450]? = some (.cells #[(.slice A1_0 l1_0.length c1_0), (.slice A1_1 l1_1.length c1_1), .int .i64 a1_2, .int .i64 a1_3, .int .i64 a1_4, (.slice A1_5 l1_5.length c1_5)] 34 (0, 0))) ∧ Sd (Below w.heap.size w wc))
    case first =>
     have H := HC22.out; clear HC22
     by_cases c30 : t455 = 0
     ·rw [if_pos c30] at H
      have c30b0 : (t455 == 0) = true := beq_iff_eq.mpr c30
      have c30b1 : (t455 != 0) = false := bne_eq_false_iff_eq.mpr c30
      clear c30
      (first | rw [c30b0] | (simp only [i64_w, i32_w]; rw [c30b0]) | skip)
      by_cases c31 : t457 = 0
      ·rw [if_pos c31] at H
       have c31b0 : (t457 == 0) = true := beq_iff_eq.mpr c31
       have c31b1 : (t457 != 0) = false := bne_eq_false_iff_eq.mpr c31
       clear c31
       by_cases c32 : t454 = true
       ·subst c32
        have H1 : (lw_BatchSums.j1 kj2 (!t456) l0_0 l0_1 l0_2 l0_3 a0_4 a0_5 a0_6 l1_0 l1_1 a1_2 a1_3 a1_4 l1_5) = some r := by rw [if_pos rfl] at H; exact H
        clear H; have H := H1; clear H1; have H' := Sd.mk H; clear H
        go_wp2
        go_meet
        case rel => exact ⟨_, (!t456), tS, H', ⟨by have := HJ2.out; first | omega | exact Nat.le_refl _⟩, ⟨bkA BK449.out⟩, ⟨bkA BK450.out⟩, ⟨bBl HB.out⟩⟩
       ·replace c32 := Bool.eq_false_iff.mpr c32
        subst c32
        have H1 : (lw_BatchSums.j1 kj2 true l0_0 l0_1 l0_2 l0_3 a0_4 a0_5 a0_6 l1_0 l1_1 a1_2 a1_3 a1_4 l1_5) = some r := by rw [if_neg (show ¬ (false = true) by decide)] at H; exact H
        clear H; have H := H1; clear H1; have H' := Sd.mk H; clear H
        go_wp2
        go_meet
        case rel => exact ⟨_, (true), tS, H', ⟨by have := HJ2.out; first | omega | exact Nat.le_refl _⟩, ⟨bkA BK449.out⟩, ⟨bkA BK450.out⟩, ⟨bBl HB.out⟩⟩
      ·rw [if_neg c31] at H
       have c31b0 : (t457 == 0) = false := beq_eq_false_iff_ne.mpr c31
       have c31b1 : (t457 != 0) = true := bne_iff_ne.mpr c31
       have H' := Sd.mk H; clear H
       go_wp2
       go_meet
       case rel => exact ⟨_, (true), tS, H', ⟨by have := HJ2.out; first | omega | exact Nat.le_refl _⟩, ⟨bkA BK449.out⟩, ⟨bkA BK450.out⟩, ⟨bBl HB.out⟩⟩
     ·rw [if_neg c30] at H
      have c30b0 : (t455 == 0) = false := beq_eq_false_iff_ne.mpr c30
      have c30b1 : (t455 != 0) = true := bne_iff_ne.mpr c30
      (first | rw [c30b0] | (simp only [i64_w, i32_w]; rw [c30b0]) | skip)
      have H' := Sd.mk H; clear H
      go_wp2
      go_meet
      case rel => exact ⟨_, (true), tS, H', ⟨by have := HJ2.out; first | omega | exact Nat.le_refl _⟩, ⟨bkA BK449.out⟩, ⟨bkA BK450.out⟩, ⟨bBl HB.out⟩⟩
    case rest =>
     clear HC22; (try clear c1); (try clear c2); (try clear p2 p2); (try clear c3); (try clear c5); (try clear c7); (try clear c8); (try clear c12); (try clear c14); (try clear c17); (try clear c23); (try clear c29); (try clear c30); (try clear c30b0); (try clear c30b1); (try clear c31); (try clear c31b0); (try clear c31b1); (try clear c32); (try clear u13_0 u13_1 u13_2 u13_3 u13_4 u13_5 u13_6); (try clear u15_0 u15_1 u15_2 u15_3 u15_4 u15_5); (try clear u24_0 u24_1 u24_2 u24_3 u24_4 u24_5 u24_6); (try clear u25_0 u25_1 u25_2 u25_3 u25_4 u25_5); (try clear u27_0 u27_1 u27_2 u27_3 u27_4 u27_5 u27_6); (try clear u28_0 u28_1 u28_2 u28_3 u28_4 u28_5); (try clear u9_0 u9_1 u9_2 u9_3 u9_4 u9_5 u9_6); (try clear o13_0 o13_1 o13_2 o13_3 o13_4 o13_5 o13_6); (try clear o15_0 o15_1 o15_2 o15_3 o15_4 o15_5); (try clear o24_0 o24_1 o24_2 o24_3 o24_4 o24_5 o24_6); (try clear o25_0 o25_1 o25_2 o25_3 o25_4 o25_5); (try clear o27_0 o27_1 o27_2 o27_3 o27_4 o27_5 o27_6); (try clear o28_0 o28_1 o28_2 o28_3 o28_4 o28_5); (try clear o9_0 o9_1 o9_2 o9_3 o9_4 o9_5 o9_6); obtain ⟨kq, x46_21, rfl, HA, HJ21, BK449, BK450, HB⟩ := hcut
     cases kq with
     | zero => exact absurd HA.out (by simp [lw_BatchSums.j1])
     | succ kj21 =>
      have H := HA.out; clear HA
      simp only [lw_BatchSums.j1] at H
      by_cases c33 : x46_21 = true
      ·subst c33
       have H1 : ((lw_lives.f kj21).bind fun t458 => (some t458)) = some r := by rw [if_pos rfl] at H; exact H
       clear H; have H := H1; clear H1; replace H := Option.bind_eq_some_iff.mp H; obtain ⟨t458, A340, H⟩ := H
       try dsimp only at H
       have A34 := Sd.mk A340; clear A340; obtain rfl := Option.some.inj H
       go_wp2_with (first | ((with_reducible refine gate_callee (f := 14) rfl ?_); refine goesL_ (some 47) rfl rfl Try.func14 (by kernel_rfl) rfl #[] rfl tM ?_; (with_reducible refine (lw_lives.calls kj21  t458 _ A34.out).mono ?_); rintro e w35 ⟨rfl, hb⟩; refine ⟨_, rfl, ?_⟩; replace BK449 := Sd.mk (blk_below (bkA BK449.out) hb); replace BK450 := Sd.mk (blk_below (bkA BK450.out) hb); replace HB := Sd.mk (below_step (bBl HB.out) hb); (try clear hb); (try clear hb2); (try clear hk); (try clear hi)))
       go_ret
       exact ⟨tE, bBl HB.out⟩
      ·replace c33 := Bool.eq_false_iff.mpr c33
       subst c33
       have H1 : (lw_BatchSums.l0 kj21 ([] : List Int) 0 l0_0 l0_1 l0_2 l0_3 a0_4 a0_5 a0_6 l1_0 l1_1 a1_2 a1_3 a1_4 l1_5) = some r := by rw [if_neg (show ¬ (false = true) by decide)] at H; exact H
       clear H; have H := H1; clear H1; have H' := Sd.mk H; clear H
       go_wp2
       go_loopg [9, 10] kj21 (fun kq v9 v10 w' => ∃ (x9_3 : List Int) (x10_3 : Int), v10 = .int .i64 x10_3 ∧ Sd (lw_BatchSums.l0 kq x9_3 x10_3 l0_0 l0_1 l0_2 l0_3 a0_4 a0_5 a0_6 l1_0 l1_1 a1_2 a1_3 a1_4 l1_5 = some r) ∧ Sd (kq ≤ kj21) ∧ Sd (Kd.R (Kd.int .i64) 3 w' w.heap.size (fun _ => True) v9 x9_3) ∧ Sd (w'.heap[gb449]? = some (.cells #[(.slice A0_0 l0_0.length c0_0), (.slice A0_1 l0_1.length c0_1), (.slice A0_2 l0_2.length c0_2), (.slice A0_3 l0_3.length c0_3), .int .i64 a0_4, .int .i64 a0_5, .int .i64 a0_6] 29 (0, 0))) ∧ Sd (w'.heap[gb450]? = some (.cells #[(.slice A1_0 l1_0.length c1_0), (.slice A1_1 l1_1.length c1_1), .int .i64 a1_2, .int .i64 a1_3, .int .i64 a1_4, (.slice A1_5 l1_5.length c1_5)] 34 (0, 0))) ∧ Sd (Below w.heap.size w w'))
       case atStart => exact ⟨(([] : List Int)), (0), tS, H', ⟨Nat.le_refl _⟩, ⟨by first | exact Kd.R_nil _ _ _ _ _ | exact Kd.N_nil _ _ _ _ _ | exact Kd.V_nil _ _ _ _ _ | exact Kd.Q_nil _ _ _ _ _ | exact Kd.S_nil _ _ _ _ _⟩, ⟨bkA BK449.out⟩, ⟨bkA BK450.out⟩, ⟨bBl HB.out⟩⟩
       case round =>
        clear H'; (try clear c1); (try clear c2); (try clear p2 p2); (try clear c3); (try clear c5); (try clear c7); (try clear c8); (try clear c12); (try clear c14); (try clear c17); (try clear c23); (try clear c29); (try clear c30); (try clear c30b0); (try clear c30b1); (try clear c31); (try clear c31b0); (try clear c31b1); (try clear c32); (try clear c33); (try clear u13_0 u13_1 u13_2 u13_3 u13_4 u13_5 u13_6); (try clear u15_0 u15_1 u15_2 u15_3 u15_4 u15_5); (try clear u24_0 u24_1 u24_2 u24_3 u24_4 u24_5 u24_6); (try clear u25_0 u25_1 u25_2 u25_3 u25_4 u25_5); (try clear u27_0 u27_1 u27_2 u27_3 u27_4 u27_5 u27_6); (try clear u28_0 u28_1 u28_2 u28_3 u28_4 u28_5); (try clear u9_0 u9_1 u9_2 u9_3 u9_4 u9_5 u9_6); (try clear o13_0 o13_1 o13_2 o13_3 o13_4 o13_5 o13_6); (try clear o15_0 o15_1 o15_2 o15_3 o15_4 o15_5); (try clear o24_0 o24_1 o24_2 o24_3 o24_4 o24_5 o24_6); (try clear o25_0 o25_1 o25_2 o25_3 o25_4 o25_5); (try clear o27_0 o27_1 o27_2 o27_3 o27_4 o27_5 o27_6); (try clear o28_0 o28_1 o28_2 o28_3 o28_4 o28_5); (try clear o9_0 o9_1 o9_2 o9_3 o9_4 o9_5 o9_6); obtain ⟨x9_3, x10_3, rfl, HA, HK3, HO_9, BK449, BK450, HB⟩ := hrel
        cases gk with
        | zero => exact absurd HA.out (by simp [lw_BatchSums.l0])
        | succ k3 =>
         have H := HA.out; clear HA
         simp only [lw_BatchSums.l0] at H
         by_cases c36 : x10_3 < (l1_0.length : Int)
         ·rw [if_pos c36] at H
          have c36b0 : decide (x10_3 < (l1_0.length : Int)) = true := decide_eq_true c36
          clear c36
          by_cases c37 : 0 ≤ x10_3
          ·rw [if_pos c37] at H
           have c37b0 : decide (0 ≤ x10_3) = true := decide_eq_true c37
           clear c37
           by_cases c38 : x10_3 < (l1_1.length : Int)
           ·rw [if_pos c38] at H
            have c38b0 : decide (x10_3 < (l1_1.length : Int)) = true := decide_eq_true c38
            clear c38
            by_cases c39 : x9_3.length < 17592186044416
            ·rw [if_pos c39] at H
             have LMc39 := Sd.mk c39; clear c39
             obtain ⟨y461, hy461⟩ : ∃ y_ : List Int, y_ = (x9_3 ++ [wrap64 ((rd l1_0 x10_3) + (rd l1_1 x10_3))]) := ⟨_, rfl⟩
             replace H : (lw_BatchSums.l0 k3 y461 (wrap64 (x10_3 + 1)) l0_0 l0_1 l0_2 l0_3 a0_4 a0_5 a0_6 l1_0 l1_1 a1_2 a1_3 a1_4 l1_5) = some r := by first | (rw [hy461]; with_reducible exact H) | (have H2_ := (Option.bind_some _ _).symm.trans H; rw [hy461]; with_reducible exact H2_) | (have H2_ := (Option.bind_some _ _).symm.trans H; with_reducible exact H2_) | with_reducible exact H | (rw [hy461]; exact H) | exact H
             have Ny461 := Sd.mk hy461; clear hy461; have H' := Sd.mk H; clear H; have hnb40 := NB450_449.out; have hnc40 := NB449_450.out; obtain ⟨u41_0, u41_1, u41_2, u41_3, u41_4, u41_5, o41_0, o41_1, o41_2, o41_3, o41_4, o41_5⟩ := bc6 (w := wr) BK450.out
             try go_wp2
             replace HO_9 := Sd.mk (Kd.R_drew HO_9.out); replace BK449 := Sd.mk (blk_drew BK449.out); replace BK450 := Sd.mk (blk_drew BK450.out); replace HB := Sd.mk (below_drew1 HB.out)
             have p459 : 0 ≤ (x10_3 : Int) := tB
             have q459 : x10_3 < (l1_0.length : Int) := tB
             obtain ⟨ad459, e459, hx459_0⟩ := Kd.at_int HR1_0.out x10_3 p459 q459; have hw459_0 := hx459_0; cases e459; replace hx459_0 := cU HB hx459_0; replace p459 := eq_true p459; replace q459 := eq_true q459
             have p460 : 0 ≤ (x10_3 : Int) := tB
             have q460 : x10_3 < (l1_1.length : Int) := tB
             obtain ⟨ad460, e460, hx460_0⟩ := Kd.at_int HR1_1.out x10_3 p460 q460; have hw460_0 := hx460_0; cases e460; replace hx460_0 := cU HB hx460_0; replace p460 := eq_true p460; replace q460 := eq_true q460
             refine start_ (n := 15) (S := fun w' => w'.cell? ⟨gb450, 0, none⟩ = some (.slice (some ad459) l1_0.length c1_0) ∧ w'.cell? ⟨gb450, 1, none⟩ = some (.slice (some ad460) l1_1.length c1_1) ∧ w'.cell? ⟨gb450, 2, none⟩ = some (.int .i64 a1_2) ∧ w'.cell? ⟨gb450, 3, none⟩ = some (.int .i64 a1_3) ∧ w'.cell? ⟨gb450, 4, none⟩ = some (.int .i64 a1_4) ∧ w'.cell? ⟨gb450, 5, none⟩ = some (.slice A1_5 l1_5.length c1_5) ∧ w'.cell? (ad459.add (x10_3).toNat) = some (.int .i64 (rd l1_0 x10_3)) ∧ w'.cell? (ad460.add (x10_3).toNat) = some (.int .i64 (rd l1_1 x10_3))) (ds := []) #[false, false, false, false, false, false, false, false, false, false, false, false, false, false, false] (by kernel_rfl) rfl rfl ⟨(blk_cell BK450.out 0).trans rfl, (blk_cell BK450.out 1).trans rfl, (blk_cell BK450.out 2).trans rfl, (blk_cell BK450.out 3).trans rfl, (blk_cell BK450.out 4).trans rfl, (blk_cell BK450.out 5).trans rfl, ((HB.out.cell (World.block_lt_of_cell? w _ hw459_0)).trans hw459_0), ((HB.out.cell (World.block_lt_of_cell? w _ hw460_0)).trans hw460_0)⟩ (fun hHeld => ?_); refine with_tabW lw_BatchSums.tab11 lw_BatchSums.bits11 (fun HT_ HW_ => ?_)
             generalize wr.drew = w42 at HO_9 BK449 BK450 HB hx459_0 hx460_0 hHeld ⊢
             refine pure_ (i := 0) (N := some 55) (v := ?_) (a' := ?_) #[true, false, false, false, false, false, false, false, false, false, false, false, false, false, false] rfl rfl (any_of HT_.out (by kernel_rfl)) (fun _ _ _ h => h) (Or.inl ⟨by rfl, ?_⟩) ?_ ?_
             rotate_left
             ·exact tW
             rotate_left
             ·exact tP
             refine pure_ (i := 1) (N := some 56) (v := ?_) (a' := ?_) #[true, true, false, false, false, false, false, false, false, false, false, false, false, false, false] rfl rfl (any_of HT_.out (by kernel_rfl)) (fun _ _ _ h => h) (Or.inl ⟨by rfl, ?_⟩) ?_ ?_
             rotate_left
             ·exact tW
             rotate_left
             ·exact tP
             refine pure_ (i := 3) (N := some 58) (v := ?_) (a' := ?_) #[true, true, false, true, false, false, false, false, false, false, false, false, false, false, false] rfl rfl (any_of HT_.out (by kernel_rfl)) (fun _ _ _ h => h) (Or.inl ⟨by rfl, ?_⟩) ?_ ?_
             rotate_left
             ·exact tW
             rotate_left
             ·exact tP
             refine pure_ (i := 6) (N := some 61) (v := ?_) (a' := ?_) #[true, true, false, true, false, false, true, false, false, false, false, false, false, false, false] rfl rfl (any_of HT_.out (by kernel_rfl)) (fun _ _ _ h => h) (Or.inl ⟨by rfl, ?_⟩) ?_ ?_
             rotate_left
             ·exact tW
             rotate_left
             ·exact tP
             refine pure_ (i := 8) (N := some 63) (v := ?_) (a' := ?_) #[true, true, false, true, false, false, true, false, true, false, false, false, false, false, false] rfl rfl (any_of HT_.out (by kernel_rfl)) (fun _ _ _ h => h) (Or.inl ⟨by rfl, ?_⟩) ?_ ?_
             rotate_left
             ·exact tW
             rotate_left
             ·exact tP
             refine take_ (i := 2) (N := some 57) (v := ?_) (a' := ?_) #[true, true, true, true, false, false, true, false, true, false, false, false, false, false, false] rfl rfl (take_ofW HT_.out HW_.out (by kernel_rfl)) (fun _ _ _ h => h) (Or.inl ⟨by rfl, ?_⟩) hHeld ?_ ?_
             rotate_left
             ·rintro w' ⟨s0, s1, s2, s3, s4, s5, s6, s7⟩
              go_simp
              with_reducible rfl
             rotate_left
             ·exact tP
             refine pure_ (i := 4) (N := some 59) (v := ?_) (a' := ?_) #[true, true, true, true, true, false, true, false, true, false, false, false, false, false, false] rfl rfl (any_of HT_.out (by kernel_rfl)) (fun _ _ _ h => h) (Or.inl ⟨by rfl, ?_⟩) ?_ ?_
             rotate_left
             ·exact tW
             rotate_left
             ·exact tP
             refine take_ (i := 5) (N := some 60) (v := ?_) (a' := ?_) #[true, true, true, true, true, true, true, false, true, false, false, false, false, false, false] rfl rfl (take_ofW HT_.out HW_.out (by kernel_rfl)) (fun _ _ _ h => h) (Or.inl ⟨by rfl, ?_⟩) hHeld ?_ ?_
             rotate_left
             ·rintro w' ⟨s0, s1, s2, s3, s4, s5, s6, s7⟩
              go_simp
              with_reducible rfl
             rotate_left
             ·exact tP
             refine take_ (i := 7) (N := some 62) (v := ?_) (a' := ?_) #[true, true, true, true, true, true, true, true, true, false, false, false, false, false, false] rfl rfl (take_ofW HT_.out HW_.out (by kernel_rfl)) (fun _ _ _ h => h) (Or.inl ⟨by rfl, ?_⟩) hHeld ?_ ?_
             rotate_left
             ·rintro w' ⟨s0, s1, s2, s3, s4, s5, s6, s7⟩
              go_simp
              with_reducible rfl
             rotate_left
             ·exact tP
             refine pure_ (i := 9) (N := some 64) (v := ?_) (a' := ?_) #[true, true, true, true, true, true, true, true, true, true, false, false, false, false, false] rfl rfl (any_of HT_.out (by kernel_rfl)) (fun _ _ _ h => h) (Or.inl ⟨by rfl, ?_⟩) ?_ ?_
             rotate_left
             ·exact tW
             rotate_left
             ·exact tP
             refine take_ (i := 10) (N := some 65) (v := ?_) (a' := ?_) #[true, true, true, true, true, true, true, true, true, true, true, false, false, false, false] rfl rfl (take_ofW HT_.out HW_.out (by kernel_rfl)) (fun _ _ _ h => h) (Or.inl ⟨by rfl, ?_⟩) hHeld ?_ ?_
             rotate_left
             ·rintro w' ⟨s0, s1, s2, s3, s4, s5, s6, s7⟩
              go_simp
              with_reducible rfl
             rotate_left
             ·exact tP
             refine pure_ (i := 11) (N := some 66) (v := ?_) (a' := ?_) #[true, true, true, true, true, true, true, true, true, true, true, true, false, false, false] rfl rfl (any_of HT_.out (by kernel_rfl)) (fun _ _ _ h => h) (Or.inl ⟨by rfl, ?_⟩) ?_ ?_
             rotate_left
             ·exact tW
             rotate_left
             ·exact tP
             refine one_ (i := 12) (N := some 67) #[true, true, true, true, true, true, true, true, true, true, true, true, true, false, false] rfl rfl (one_of HT_.out (by kernel_rfl)) (by decide) (fun K hK => ?_)
             refine value_ (w1 := ?_) (v := ?_) (by rfl) rfl ?_ ?_
             rotate_left 2
             ·go_simp
              constructor
              ·rfl
              ·rfl
             refine hK.out _ _ ⟨(blk_cell (blk_alloc BK450.out _) 0).trans rfl, (blk_cell (blk_alloc BK450.out _) 1).trans rfl, (blk_cell (blk_alloc BK450.out _) 2).trans rfl, (blk_cell (blk_alloc BK450.out _) 3).trans rfl, (blk_cell (blk_alloc BK450.out _) 4).trans rfl, (blk_cell (blk_alloc BK450.out _) 5).trans rfl, (World.cell?_alloc_lt _ _ _ (World.block_lt_of_cell? _ _ (((HB.out.cell (World.block_lt_of_cell? w _ hw459_0)).trans hw459_0)))).trans (((HB.out.cell (World.block_lt_of_cell? w _ hw459_0)).trans hw459_0)), (World.cell?_alloc_lt _ _ _ (World.block_lt_of_cell? _ _ (((HB.out.cell (World.block_lt_of_cell? w _ hw460_0)).trans hw460_0)))).trans (((HB.out.cell (World.block_lt_of_cell? w _ hw460_0)).trans hw460_0))⟩ (fun hHeld => ?_)
             clear hK K
             refine norm_ (a' := ?_) ?_ ?_
             rotate_left
             ·show Act.put _ (some 67) _ = _
              exact tP
             refine one_ (i := 13) (N := some 68) #[true, true, true, true, true, true, true, true, true, true, true, true, true, true, false] rfl rfl (one_of HT_.out (by kernel_rfl)) (by decide) (fun K hK => ?_)
             refine Kd.R_append_step (Kd.int .i64) (w0 := w) w.heap.size (by rfl) (.tmp 55) (.tmp 67) 30 3 (.int .i64 0) 8 rfl Try.underlying30 info3 rfl (by decide) (by omega) u9 x9_3 (wrap64 ((rd l1_0 x10_3) + (rd l1_1 x10_3))) [.int .i64 (wrap64 ((rd l1_0 x10_3) + (rd l1_1 x10_3)))] (fun _ => True) (fun _ => False) rfl rfl ?aP (fun _ hk => hk.elim) ?aF ?aO ?aB ?aS ?aL ?_
             (case aP => exact rfl)
             (case aB => exact (bBl HB.out))
             (case aF => exact (fun _ _ => trivial))
             (case aO => exact (by (with_reducible repeat (first | apply Kd.R_alloc | apply Kd.R_drewN | apply Kd.R_drew)); exact HO_9.out))
             (case aS => exact (below_size (bBl HB.out)))
             (case aL => have := LMc39.out; omega)
             intro v462 w43 ho hb hg hat
             rw [← Ny461.out] at ho
             replace BK449 := Sd.mk (blk_grown (bkA BK449.out) hg (Kd.R_ne HO_9.out BK449.out (by decide)))
             replace BK450 := Sd.mk (blk_grown (bkA BK450.out) hg (Kd.R_ne HO_9.out BK450.out (by decide)))
             replace HB := Sd.mk (hb); have HO463 := Sd.mk (ho); clear HO_9; clear ho hb hg hat
             refine hK.out _ _ ⟨(blk_cell BK450.out 0).trans rfl, (blk_cell BK450.out 1).trans rfl, (blk_cell BK450.out 2).trans rfl, (blk_cell BK450.out 3).trans rfl, (blk_cell BK450.out 4).trans rfl, (blk_cell BK450.out 5).trans rfl, ((HB.out.cell (World.block_lt_of_cell? w _ hw459_0)).trans hw459_0), ((HB.out.cell (World.block_lt_of_cell? w _ hw460_0)).trans hw460_0)⟩ (fun hHeld => ?_)
             clear hK K
             refine norm_ (a' := ?_) ?_ ?_
             rotate_left
             ·show Act.put _ (some 68) _ = _
              exact tP
             refine pure_ (i := 14) (N := some 9) (v := ?_) (a' := ?_) #[true, true, true, true, true, true, true, true, true, true, true, true, true, true, true] rfl rfl (any_of HT_.out (by kernel_rfl)) (fun _ _ _ h => h) (Or.inl ⟨by rfl, ?_⟩) ?_ ?_
             rotate_left
             ·exact tW
             rotate_left
             ·exact tP
             refine done_ (done_of HT_.out (by kernel_rfl)) ?_
             try go_wp2
             go_roundg k3
             case measure => have := HJ2.out; have := HJ21.out; have := HK3.out; omega
             case rel => exact ⟨(y461), (wrap64 (x10_3 + 1)), tS, H', ⟨by have := HJ2.out; have := HJ21.out; have := HK3.out; omega⟩, ⟨by (with_reducible repeat (first | apply Kd.R_alloc | apply Kd.R_drewN | apply Kd.R_drew)); exact HO463.out⟩, ⟨bkA BK449.out⟩, ⟨bkA BK450.out⟩, ⟨bBl HB.out⟩⟩
            ·rw [if_neg c39] at H
             exact absurd H (by simp)
           ·rw [if_neg c38] at H
            exact absurd H (by simp)
          ·rw [if_neg c37] at H
           exact absurd H (by simp)
         ·rw [if_neg c36] at H
          have c36b0 : decide (x10_3 < (l1_0.length : Int)) = false := decide_eq_false c36
          clear c36; replace H := Option.bind_eq_some_iff.mp H
          obtain ⟨⟨t464, t465⟩, A440, H⟩ := H
          try dsimp only at H
          have A44 := Sd.mk A440; clear A440
          by_cases c45 : t465 = 1
          ·rw [if_pos c45] at H
           have c45b0 : (t465 == 1) = true := beq_iff_eq.mpr c45
           have c45b1 : (t465 != 1) = false := bne_eq_false_iff_eq.mpr c45
           clear c45; replace H := Option.bind_eq_some_iff.mp H; obtain ⟨t466, A460, H⟩ := H
           try dsimp only at H
           have A46 := Sd.mk A460; clear A460; obtain rfl := Option.some.inj H; have hnb47 := NB450_449.out; have hnc47 := NB449_450.out; obtain ⟨u48_0, u48_1, u48_2, u48_3, u48_4, u48_5, o48_0, o48_1, o48_2, o48_3, o48_4, o48_5⟩ := bc6 (w := wr) BK450.out; obtain ⟨u49_0, u49_1, u49_2, u49_3, u49_4, u49_5, u49_6, o49_0, o49_1, o49_2, o49_3, o49_4, o49_5, o49_6⟩ := bc7 (w := wr) BK449.out; obtain ⟨Ao50, co50, eo50⟩ := Kd.R_slice HO_9.out; subst eo50
           go_wp2_with (first | ((with_reducible refine gate_callee (f := 29) rfl ?_); refine goesL_ (some 72) rfl rfl Try.func29 (by kernel_rfl) rfl #[.agg #[.slice A0_0 l0_0.length c0_0, .slice A0_1 l0_1.length c0_1, .slice A0_2 l0_2.length c0_2, .slice A0_3 l0_3.length c0_3, .int .i64 a0_4, .int .i64 a0_5, .int .i64 a0_6], .slice Ao50 x9_3.length co50] rfl tM ?_; (with_reducible refine (batch_Passes.calls k3 _ _ l0_0 _ _ l0_1 _ _ l0_2 _ _ l0_3 a0_4 a0_5 a0_6 _ _ x9_3 t464 t465 _ (cS (Kd.C_below HR0_0.out HB.out)) HC0_0.out (cS (Kd.C_below HR0_1.out HB.out)) HC0_1.out (cS (Kd.C_below HR0_2.out HB.out)) HC0_2.out (cS (Kd.C_below HR0_3.out HB.out)) HC0_3.out (cS ((Kd.R_reads' HO_9.out).2.2)) ((Kd.R_reads' HO_9.out).2.1) A44.out).mono ?_); rintro e w51 ⟨rfl, hb⟩; refine ⟨_, rfl, ?_⟩; replace HO_9 := Sd.mk (Kd.R_below (by (with_reducible repeat (first | apply Kd.R_alloc | apply Kd.R_drewN | apply Kd.R_drew)); exact HO_9.out) hb); replace BK449 := Sd.mk (blk_below (bkA BK449.out) hb); replace BK450 := Sd.mk (blk_below (bkA BK450.out) hb); replace HB := Sd.mk (below_step (bBl HB.out) hb); (try clear hb); (try clear hb2); (try clear hk); (try clear hi)) | (go_at_call 14; (with_reducible refine (lw_lives.calls k3  t466 _ A46.out).mono ?_); rintro e w52 ⟨rfl, hb⟩; replace HO_9 := Sd.mk (Kd.R_below (by (with_reducible repeat (first | apply Kd.R_alloc | apply Kd.R_drewN | apply Kd.R_drew)); exact HO_9.out) hb); replace BK449 := Sd.mk (blk_below (bkA BK449.out) hb); replace BK450 := Sd.mk (blk_below (bkA BK450.out) hb); replace HB := Sd.mk (below_step (bBl HB.out) hb); (try clear hb); (try clear hb2); (try clear hk); (try clear hi)))
           go_ret
           exact ⟨tE, bBl HB.out⟩
          ·rw [if_neg c45] at H
           have c45b0 : (t465 == 1) = false := beq_eq_false_iff_ne.mpr c45
           have c45b1 : (t465 != 1) = true := bne_iff_ne.mpr c45
           by_cases c53 : t465 = 0
           ·rw [if_pos c53] at H
            have c53b0 : (t465 == 0) = true := beq_iff_eq.mpr c53
            have c53b1 : (t465 != 0) = false := bne_eq_false_iff_eq.mpr c53
            clear c53
            by_cases c54 : t464 = true
            ·subst c54
             have H1 : ((lw_lives.f k3).bind fun t467 => (some t467)) = some r := by rw [if_pos rfl] at H; exact H
             clear H; have H := H1; clear H1; replace H := Option.bind_eq_some_iff.mp H; obtain ⟨t467, A550, H⟩ := H
             try dsimp only at H
             have A55 := Sd.mk A550; clear A550; obtain rfl := Option.some.inj H; have hnb56 := NB450_449.out; have hnc56 := NB449_450.out; obtain ⟨u57_0, u57_1, u57_2, u57_3, u57_4, u57_5, o57_0, o57_1, o57_2, o57_3, o57_4, o57_5⟩ := bc6 (w := wr) BK450.out; obtain ⟨u58_0, u58_1, u58_2, u58_3, u58_4, u58_5, u58_6, o58_0, o58_1, o58_2, o58_3, o58_4, o58_5, o58_6⟩ := bc7 (w := wr) BK449.out; obtain ⟨Ao59, co59, eo59⟩ := Kd.R_slice HO_9.out; subst eo59
             go_wp2_with (first | ((with_reducible refine gate_callee (f := 29) rfl ?_); refine goesL_ (some 72) rfl rfl Try.func29 (by kernel_rfl) rfl #[.agg #[.slice A0_0 l0_0.length c0_0, .slice A0_1 l0_1.length c0_1, .slice A0_2 l0_2.length c0_2, .slice A0_3 l0_3.length c0_3, .int .i64 a0_4, .int .i64 a0_5, .int .i64 a0_6], .slice Ao59 x9_3.length co59] rfl tM ?_; (with_reducible refine (batch_Passes.calls k3 _ _ l0_0 _ _ l0_1 _ _ l0_2 _ _ l0_3 a0_4 a0_5 a0_6 _ _ x9_3 true t465 _ (cS (Kd.C_below HR0_0.out HB.out)) HC0_0.out (cS (Kd.C_below HR0_1.out HB.out)) HC0_1.out (cS (Kd.C_below HR0_2.out HB.out)) HC0_2.out (cS (Kd.C_below HR0_3.out HB.out)) HC0_3.out (cS ((Kd.R_reads' HO_9.out).2.2)) ((Kd.R_reads' HO_9.out).2.1) A44.out).mono ?_); rintro e w60 ⟨rfl, hb⟩; refine ⟨_, rfl, ?_⟩; replace HO_9 := Sd.mk (Kd.R_below (by (with_reducible repeat (first | apply Kd.R_alloc | apply Kd.R_drewN | apply Kd.R_drew)); exact HO_9.out) hb); replace BK449 := Sd.mk (blk_below (bkA BK449.out) hb); replace BK450 := Sd.mk (blk_below (bkA BK450.out) hb); replace HB := Sd.mk (below_step (bBl HB.out) hb); (try clear hb); (try clear hb2); (try clear hk); (try clear hi)) | (go_at_call 14; (with_reducible refine (lw_lives.calls k3  t467 _ A55.out).mono ?_); rintro e w61 ⟨rfl, hb⟩; replace HO_9 := Sd.mk (Kd.R_below (by (with_reducible repeat (first | apply Kd.R_alloc | apply Kd.R_drewN | apply Kd.R_drew)); exact HO_9.out) hb); replace BK449 := Sd.mk (blk_below (bkA BK449.out) hb); replace BK450 := Sd.mk (blk_below (bkA BK450.out) hb); replace HB := Sd.mk (below_step (bBl HB.out) hb); (try clear hb); (try clear hb2); (try clear hk); (try clear hi)))
             go_ret
             exact ⟨tE, bBl HB.out⟩
            ·replace c54 := Bool.eq_false_iff.mpr c54
             subst c54
             have H1 : (some false) = some r := by rw [if_neg (show ¬ (false = true) by decide)] at H; exact H
             clear H; have H := H1; clear H1; obtain rfl := Option.some.inj H; have hnb62 := NB450_449.out; have hnc62 := NB449_450.out; obtain ⟨u63_0, u63_1, u63_2, u63_3, u63_4, u63_5, o63_0, o63_1, o63_2, o63_3, o63_4, o63_5⟩ := bc6 (w := wr) BK450.out; obtain ⟨u64_0, u64_1, u64_2, u64_3, u64_4, u64_5, u64_6, o64_0, o64_1, o64_2, o64_3, o64_4, o64_5, o64_6⟩ := bc7 (w := wr) BK449.out; obtain ⟨Ao65, co65, eo65⟩ := Kd.R_slice HO_9.out; subst eo65
             go_wp2_with (first | ((with_reducible refine gate_callee (f := 29) rfl ?_); refine goesL_ (some 72) rfl rfl Try.func29 (by kernel_rfl) rfl #[.agg #[.slice A0_0 l0_0.length c0_0, .slice A0_1 l0_1.length c0_1, .slice A0_2 l0_2.length c0_2, .slice A0_3 l0_3.length c0_3, .int .i64 a0_4, .int .i64 a0_5, .int .i64 a0_6], .slice Ao65 x9_3.length co65] rfl tM ?_; (with_reducible refine (batch_Passes.calls k3 _ _ l0_0 _ _ l0_1 _ _ l0_2 _ _ l0_3 a0_4 a0_5 a0_6 _ _ x9_3 false t465 _ (cS (Kd.C_below HR0_0.out HB.out)) HC0_0.out (cS (Kd.C_below HR0_1.out HB.out)) HC0_1.out (cS (Kd.C_below HR0_2.out HB.out)) HC0_2.out (cS (Kd.C_below HR0_3.out HB.out)) HC0_3.out (cS ((Kd.R_reads' HO_9.out).2.2)) ((Kd.R_reads' HO_9.out).2.1) A44.out).mono ?_); rintro e w66 ⟨rfl, hb⟩; refine ⟨_, rfl, ?_⟩; replace HO_9 := Sd.mk (Kd.R_below (by (with_reducible repeat (first | apply Kd.R_alloc | apply Kd.R_drewN | apply Kd.R_drew)); exact HO_9.out) hb); replace BK449 := Sd.mk (blk_below (bkA BK449.out) hb); replace BK450 := Sd.mk (blk_below (bkA BK450.out) hb); replace HB := Sd.mk (below_step (bBl HB.out) hb); (try clear hb); (try clear hb2); (try clear hk); (try clear hi)))
             go_ret
             exact ⟨tE, bBl HB.out⟩
           ·rw [if_neg c53] at H
            have c53b0 : (t465 == 0) = false := beq_eq_false_iff_ne.mpr c53
            have c53b1 : (t465 != 0) = true := bne_iff_ne.mpr c53
            obtain rfl := Option.some.inj H; have hnb67 := NB450_449.out; have hnc67 := NB449_450.out; obtain ⟨u68_0, u68_1, u68_2, u68_3, u68_4, u68_5, o68_0, o68_1, o68_2, o68_3, o68_4, o68_5⟩ := bc6 (w := wr) BK450.out; obtain ⟨u69_0, u69_1, u69_2, u69_3, u69_4, u69_5, u69_6, o69_0, o69_1, o69_2, o69_3, o69_4, o69_5, o69_6⟩ := bc7 (w := wr) BK449.out; obtain ⟨Ao70, co70, eo70⟩ := Kd.R_slice HO_9.out; subst eo70
            go_wp2_with (first | ((with_reducible refine gate_callee (f := 29) rfl ?_); refine goesL_ (some 72) rfl rfl Try.func29 (by kernel_rfl) rfl #[.agg #[.slice A0_0 l0_0.length c0_0, .slice A0_1 l0_1.length c0_1, .slice A0_2 l0_2.length c0_2, .slice A0_3 l0_3.length c0_3, .int .i64 a0_4, .int .i64 a0_5, .int .i64 a0_6], .slice Ao70 x9_3.length co70] rfl tM ?_; (with_reducible refine (batch_Passes.calls k3 _ _ l0_0 _ _ l0_1 _ _ l0_2 _ _ l0_3 a0_4 a0_5 a0_6 _ _ x9_3 t464 t465 _ (cS (Kd.C_below HR0_0.out HB.out)) HC0_0.out (cS (Kd.C_below HR0_1.out HB.out)) HC0_1.out (cS (Kd.C_below HR0_2.out HB.out)) HC0_2.out (cS (Kd.C_below HR0_3.out HB.out)) HC0_3.out (cS ((Kd.R_reads' HO_9.out).2.2)) ((Kd.R_reads' HO_9.out).2.1) A44.out).mono ?_); rintro e w71 ⟨rfl, hb⟩; refine ⟨_, rfl, ?_⟩; replace HO_9 := Sd.mk (Kd.R_below (by (with_reducible repeat (first | apply Kd.R_alloc | apply Kd.R_drewN | apply Kd.R_drew)); exact HO_9.out) hb); replace BK449 := Sd.mk (blk_below (bkA BK449.out) hb); replace BK450 := Sd.mk (blk_below (bkA BK450.out) hb); replace HB := Sd.mk (below_step (bBl HB.out) hb); (try clear hb); (try clear hb2); (try clear hk); (try clear hi)))
            go_ret
            exact ⟨tE, bBl HB.out⟩
end Go.Proofs.Ytkjkokgbhepmoaa.PB

namespace Go.Proofs.Ytkjkokgbhepmoaa.PB
open Go.RowKit Go.Proofs.YtkjkokgbhepmoaaW.PrintWords Go.Proofs.YtkjkokgbhepmoaaW.PrintLast Go.Proofs.YtkjkokgbhepmoaaW.PrintMore
def sumL (r q : List Int) (i : Nat) : List Int := (List.range i).map fun j : Nat => wrap64 (rd r (j : Int) + rd q (j : Int))
theorem sumL_len (r q : List Int) (i : Nat) : (sumL r q i).length = i := by simp [sumL]
theorem sumL_succ (r q : List Int) (i : Nat) : sumL r q (i + 1) = sumL r q i ++ [wrap64 (rd r (i : Int) + rd q (i : Int))] := by simp [sumL, List.range_succ]
theorem sumL_rd (r q : List Int) (i j : Nat) (h : j < i) : rd (sumL r q i) (j : Int) = wrap64 (rd r (j : Int) + rd q (j : Int)) := by simp [rd, sumL, List.getD, h]
theorem tot_sum {mt : List S63} {r q : List Int} (hr : RecOk mt r) (hq : RecOk mt q) (fs : List Int) : ∀ i, i ≤ mt.length → tot (sumL r q mt.length) fs i = tot r fs i + tot q fs i := by
  intro i
  induction i with
  | zero => intro _; rfl
  | succ i ih =>
    intro hi
    have h1 := ih (by omega)
    have h2 := hr.kilos i (by omega)
    have h3 := hq.kilos i (by omega)
    unfold tot at *
    simp only [sumTo]
    rw [h1, sumL_rd _ _ _ _ (by omega), wrap_id (by omega) (by omega), Int.add_mul]
    omega
section
variable (o : List ByteArray) (mt : List S63) (s : List S27) (p : List S65) (a4 a5 a6 : Int) (r q : List Int) (n b3 b4 : Int) (l5 : List Int)
theorem sums_pass (H : BatchOk o mt s p a4 a5 a6) (hr : RecOk mt r) (hq : RecOk mt q) (h1 : passB mt s p a4 a5 a6 r = true) (h2 : passB mt s p a4 a5 a6 q = true) : passB mt s p a4 a5 a6 (sumL r q mt.length) = true := by
  have L := lines_ok H
  unfold passB at *
  rw [List.all_eq_true] at *
  intro x hx
  have a1 := h1 x hx
  have a2 := h2 x hx
  have b := (L x hx).b0
  simp only [decide_eq_true_eq] at *
  rw [tot_sum hr hq x.f0 mt.length (Nat.le_refl _)]
  omega
theorem ask_one (hc : checkV o mt s p a4 a5 a6 = 0) : askV o mt s p a4 a5 a6 r = 0 ∨ askV o mt s p a4 a5 a6 r = 1 := by
  unfold askV recV
  rw [if_pos hc]
  split
  · split <;> simp
  · simp
theorem sums_end (H : BatchOk o mt s p a4 a5 a6) (hr : RecOk mt r) (hq : RecOk mt q) (hc : checkV o mt s p a4 a5 a6 = 0) (h1 : passB mt s p a4 a5 a6 r = true) (h2 : passB mt s p a4 a5 a6 q = true) :
    Ev (fun k => (batch_Passes.f k o mt s p a4 a5 a6 (sumL r q mt.length)).bind fun bt464 => (if bt464.2 = 1 then ((lw_lives.f k).bind fun t466 => (some t466)) else (if bt464.2 = 0 then (if bt464.1 = true then ((lw_lives.f k).bind fun t467 => (some t467)) else (some false)) else (some false)))) true := by
  refine Ev.bind (bPasses o mt s p a4 a5 a6 (sumL r q mt.length)) ?_
  unfold PassV
  rcases ask_one o mt s p a4 a5 a6 (sumL r q mt.length) hc with h | h
  · simp only [if_pos h, sums_pass o mt s p a4 a5 a6 r q H hr hq h1 h2, if_neg (show ¬ (0 : Int) = 1 by decide), if_true]
    exact Ev.bind lives_ev (Ev.const _)
  · simp only [h, if_neg (show ¬ (1 : Int) = 0 by decide), if_true]
    exact Ev.bind lives_ev (Ev.const _)
theorem sums_l0 (H : BatchOk o mt s p a4 a5 a6) (hr : RecOk mt r) (hq : RecOk mt q) (hc : checkV o mt s p a4 a5 a6 = 0) (h1 : passB mt s p a4 a5 a6 r = true) (h2 : passB mt s p a4 a5 a6 q = true) :
    ∀ (m i : Nat), i + m = mt.length → Ev (fun k => lw_BatchSums.l0 k (sumL r q i) (i : Int) o mt s p a4 a5 a6 r q n b3 b4 l5) true
  | 0, i, hi => by
    have hrl := hr.len
    apply Ev.step
    simp only [lw_BatchSums.l0, if_neg (show ¬ (i : Int) < (r.length : Int) by omega)]
    rw [show i = mt.length by omega]
    exact sums_end o mt s p a4 a5 a6 r q H hr hq hc h1 h2
  | m + 1, i, hi => by
    have hrl := hr.len
    have hql := hq.len
    have hm := H.m12
    have hl := sumL_len r q i
    have ih := sums_l0 H hr hq hc h1 h2 m (i + 1) (by omega)
    apply Ev.step
    simp only [lw_BatchSums.l0, if_pos (show (i : Int) < (r.length : Int) by omega), if_pos (i_pos i), if_pos (show (i : Int) < (q.length : Int) by omega), if_pos (show (sumL r q i).length < 17592186044416 by omega), wrap_succ (i_pos i) (show (i : Int) ≤ 1000000000 by omega)]
    rw [sumL_succ] at ih
    exact ih
theorem sums_j1 (b : Bool) (hb : b = false → askV o mt s p a4 a5 a6 r = 0 ∧ askV o mt s p a4 a5 a6 q = 0 ∧ passB mt s p a4 a5 a6 r = true ∧ passB mt s p a4 a5 a6 q = true) :
    Ev (fun k => lw_BatchSums.j1 k b o mt s p a4 a5 a6 r q n b3 b4 l5) true := by
  apply Ev.step
  cases b with
  | true => simp only [lw_BatchSums.j1, if_true]; exact Ev.bind lives_ev (Ev.const _)
  | false =>
    obtain ⟨ha, hq, h1, h2⟩ := hb rfl
    simp only [lw_BatchSums.j1, Bool.false_eq_true, if_false]
    exact sums_l0 o mt s p a4 a5 a6 r q n b3 b4 l5 (ask_ok ha).1 (ask_ok ha).2 (ask_ok hq).2 (ask_check o mt s p a4 a5 a6 r ha) h1 h2 mt.length 0 (by omega)
theorem sums_j0 (b : Bool) : Ev (fun k => lw_BatchSums.j0 k b o mt s p a4 a5 a6 r q n b3 b4 l5) true := by
  apply Ev.step
  cases b with
  | true => simp only [lw_BatchSums.j0, if_true]; exact Ev.bind lives_ev (Ev.const _)
  | false =>
    simp only [lw_BatchSums.j0, Bool.false_eq_true, if_false]
    refine Ev.bind (bPasses o mt s p a4 a5 a6 r) (Ev.bind (bPasses o mt s p a4 a5 a6 q) ?_)
    have ht := sums_j1 o mt s p a4 a5 a6 r q n b3 b4 l5 true (by simp)
    unfold PassV
    by_cases h : askV o mt s p a4 a5 a6 r = 0
    · by_cases h' : askV o mt s p a4 a5 a6 q = 0
      · simp only [if_pos h, if_pos h', if_true]
        cases hp : passB mt s p a4 a5 a6 r with
        | false => simp only [Bool.false_eq_true, if_false]; exact ht
        | true =>
          simp only [if_true]
          refine sums_j1 o mt s p a4 a5 a6 r q n b3 b4 l5 _ (fun hb => ⟨h, h', hp, ?_⟩)
          simpa using hb
      · simp only [if_pos h, if_neg h', if_true]; exact ht
    · simp only [if_neg h]; exact ht
theorem BatchSums_true : ∃ k, lw_BatchSums.f k o mt s p a4 a5 a6 r q n b3 b4 l5 = some true := by
  obtain ⟨b, hb⟩ := great o mt s p a4 a5 a6
  obtain ⟨w, hw⟩ := wide_ev r q n b3 b4 l5
  have h : Ev (fun k => lw_BatchSums.f k o mt s p a4 a5 a6 r q n b3 b4 l5) true := by
    unfold lw_BatchSums.f
    refine Ev.bind hb ?_
    cases b with
    | true => simp only [if_true]; exact sums_j0 o mt s p a4 a5 a6 r q n b3 b4 l5 true
    | false =>
      simp only [Bool.false_eq_true, if_false, hw, Option.bind_some]
      exact sums_j0 o mt s p a4 a5 a6 r q n b3 b4 l5 w
  obtain ⟨K, hK⟩ := h
  exact ⟨K, hK K (Nat.le_refl _)⟩
end
end Go.Proofs.Ytkjkokgbhepmoaa.PB

