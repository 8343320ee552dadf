import Derived.Test.YtkjkokgbhepmoaaH1
set_option linter.unusedVariables false
set_option linter.unusedSimpArgs false
namespace Go.Proofs.Ytkjkokgbhepmoaa.PB
open Go.RowKit Go.Proofs.YtkjkokgbhepmoaaW.PrintWords Go.Proofs.YtkjkokgbhepmoaaW.PrintLast Go.Proofs.YtkjkokgbhepmoaaW.PrintMore
theorem bidx_l0 (l : List ByteArray) (x : ByteArray) (hl : l.length ≤ 1000) : ∀ (m : Nat) (i : Nat), i + m = l.length → ∃ r : Int, Ev (fun k => slices_Index_string_string.l0 k l x (l.length : Int) (i : Int)) r ∧ (decide (r ≥ 0) = (l.drop i).any fun y => y.toList == x.toList)
  | 0, i, hi => by
    refine ⟨-1, ?_, by rw [List.drop_eq_nil_of_le (by omega)]; rfl⟩
    apply Ev.step
    simp only [slices_Index_string_string.l0, if_neg (show ¬ (i : Int) < (l.length : Int) by omega)]
    exact Ev.const _
  | m + 1, i, hi => by
    obtain ⟨r, ih, hr'⟩ := bidx_l0 l x hl m (i + 1) (by omega)
    have hlt : i < l.length := by omega
    have hr : rdOf ByteArray.empty l (i : Int) = l[i] := by simp [rdOf, hlt]
    by_cases h : x.toList = l[i].toList
    · refine ⟨i, ?_, ?_⟩
      · apply Ev.step
        simp only [slices_Index_string_string.l0, if_pos (show (i : Int) < (l.length : Int) by omega), if_pos (show 0 ≤ (i : Int) by omega), hr, if_pos h]
        exact Ev.const _
      · rw [List.drop_eq_getElem_cons hlt, List.any_cons, h, beq_self_eq_true, Bool.true_or]; simp
    · refine ⟨r, ?_, ?_⟩
      · apply Ev.step
        simp only [slices_Index_string_string.l0, if_pos (show (i : Int) < (l.length : Int) by omega), if_pos (show 0 ≤ (i : Int) by omega), hr, if_neg h, wrap_succ (show 0 ≤ (i : Int) by omega) (show (i : Int) ≤ 1000000000 by omega)]
        exact ih
      · rw [List.drop_eq_getElem_cons hlt, hr']
        have h' : ¬ l[i].toList = x.toList := fun e => h e.symm
        rw [List.any_cons, beq_eq_false_iff_ne.mpr h', Bool.false_or]
theorem bcontains (l : List ByteArray) (x : ByteArray) (hl : l.length ≤ 1000) : Ev (fun k => slices_Contains_string_string.f k l x) (l.any fun y => y.toList == x.toList) := by
  unfold slices_Contains_string_string.f slices_Index_string_string.f
  obtain ⟨r, h, e⟩ := bidx_l0 l x hl l.length 0 (by omega)
  refine Ev.bind h ?_
  exact (Ev.const _).cast (by rw [e]; simp)
end Go.Proofs.Ytkjkokgbhepmoaa.PB

namespace Go.Proofs.Ytkjkokgbhepmoaa.PB
open Go.RowKit Go.Proofs.YtkjkokgbhepmoaaW.PrintWords Go.Proofs.YtkjkokgbhepmoaaW.PrintLast Go.Proofs.YtkjkokgbhepmoaaW.PrintMore
attribute [local go_sem] max2_int min2_int max_two min_two max_three min_three max_four min_four
def batch_span.f (a0_0 : Int) (a0_1 : Int) (a1 : Int) (a2 : Int) : Option (Bool) := if a0_0 ≥ a1 then (if a0_0 ≤ a0_1 then (some (decide (a0_1 ≤ a2))) else (some false)) else (some false)
set_option maxHeartbeats 8000000 in
set_option maxRecDepth 100000 in
theorem batch_span.calls (a0_0 : Int) (a0_1 : Int) (a1 : Int) (a2 : Int) (r : Bool) (w : World) (h : batch_span.f a0_0 a0_1 a1 a2 = some r) :
  Calls Try.prog 69 #[.agg #[.int .i64 a0_0, .int .i64 a0_1], .int .i64 a1, .int .i64 a2] w fun e w' => e = .returned (.bool r) ∧ Below w.heap.size w w' := by
 have hu27 := Try.underlying27; have HB := Sd.mk (Below.refl w.heap.size w)
 have H : (if a0_0 ≥ a1 then (if a0_0 ≤ a0_1 then (some (decide (a0_1 ≤ a2))) else (some false)) else (some false)) = some r := h
 clear h
 by_cases c4 : a0_0 ≥ a1
 ·rw [if_pos c4] at H
  have c4b0 : decide (a1 ≤ a0_0) = true := decide_eq_true c4
  clear c4
  by_cases c5 : a0_0 ≤ a0_1
  ·rw [if_pos c5] at H
   have c5b0 : decide (a0_0 ≤ a0_1) = true := decide_eq_true c5
   clear c5; obtain rfl := Option.some.inj H
   go_enter Try.func69, Try.ntmps69
   go_wp2_with (first | ((with_reducible refine gate_dst (N := 3) rfl ?_); refine box_event ?hg (N := 3) ?hd (cs := #[.int .i64 a0_0, .int .i64 a0_1]) (t := 27) ?hr ?_; (case hd => rfl); (case hg => rfl); (case hr => exact tG); intro gb117 hg w6 hbox hb; have BK117 := Sd.mk (hbox); have GW117 := Sd.mk (bSz hg (bBl HB.out)); have GE117 := Sd.mk (bSz hg (bBl HB.out)); replace HB := Sd.mk (below_step (bBl HB.out) hb); clear hb hbox hg; obtain ⟨u7_0, u7_1, o7_0, o7_1⟩ := bc2 (w := w6) BK117.out))
   go_ret
   exact ⟨tE, bBl HB.out⟩
  ·rw [if_neg c5] at H
   have c5b0 : decide (a0_0 ≤ a0_1) = false := decide_eq_false c5
   clear c5; obtain rfl := Option.some.inj H
   go_enter Try.func69, Try.ntmps69
   go_wp2_with (first | ((with_reducible refine gate_dst (N := 3) rfl ?_); refine box_event ?hg (N := 3) ?hd (cs := #[.int .i64 a0_0, .int .i64 a0_1]) (t := 27) ?hr ?_; (case hd => rfl); (case hg => rfl); (case hr => exact tG); intro gb117 hg w8 hbox hb; have BK117 := Sd.mk (hbox); have GW117 := Sd.mk (bSz hg (bBl HB.out)); have GE117 := Sd.mk (bSz hg (bBl HB.out)); replace HB := Sd.mk (below_step (bBl HB.out) hb); clear hb hbox hg; obtain ⟨u9_0, u9_1, o9_0, o9_1⟩ := bc2 (w := w8) BK117.out))
   go_ret
   exact ⟨tE, bBl HB.out⟩
 ·rw [if_neg c4] at H
  have c4b0 : decide (a1 ≤ a0_0) = false := decide_eq_false c4
  clear c4; obtain rfl := Option.some.inj H
  go_enter Try.func69, Try.ntmps69
  go_wp2_with (first | ((with_reducible refine gate_dst (N := 3) rfl ?_); refine box_event ?hg (N := 3) ?hd (cs := #[.int .i64 a0_0, .int .i64 a0_1]) (t := 27) ?hr ?_; (case hd => rfl); (case hg => rfl); (case hr => exact tG); intro gb117 hg w10 hbox hb; have BK117 := Sd.mk (hbox); have GW117 := Sd.mk (bSz hg (bBl HB.out)); have GE117 := Sd.mk (bSz hg (bBl HB.out)); replace HB := Sd.mk (below_step (bBl HB.out) hb); clear hb hbox hg; obtain ⟨u11_0, u11_1, o11_0, o11_1⟩ := bc2 (w := w10) BK117.out))
  go_ret
  exact ⟨tE, bBl HB.out⟩
end Go.Proofs.Ytkjkokgbhepmoaa.PB

namespace Go.Proofs.Ytkjkokgbhepmoaa.PB
open Go.RowKit Go.Proofs.YtkjkokgbhepmoaaW.PrintWords Go.Proofs.YtkjkokgbhepmoaaW.PrintLast Go.Proofs.YtkjkokgbhepmoaaW.PrintMore
attribute [local go_sem] max2_int min2_int max_two min_two max_three min_three max_four min_four
def batch_within.f (a0 : Int) (a1 : Int) (a2 : Int) : Option (Bool) := if a0 ≥ a1 then (some (decide (a0 ≤ a2))) else (some false)
set_option maxHeartbeats 8000000 in
set_option maxRecDepth 100000 in
theorem batch_within.calls (a0 : Int) (a1 : Int) (a2 : Int) (r : Bool) (w : World) (h : batch_within.f a0 a1 a2 = some r) :
  Calls Try.prog 55 #[.int .i64 a0, .int .i64 a1, .int .i64 a2] w fun e w' => e = .returned (.bool r) ∧ Drawn0 w w' := by
 have H : (if a0 ≥ a1 then (some (decide (a0 ≤ a2))) else (some false)) = some r := h
 clear h
 by_cases c4 : a0 ≥ a1
 ·rw [if_pos c4] at H
  have c4b0 : decide (a1 ≤ a0) = true := decide_eq_true c4
  clear c4; obtain rfl := Option.some.inj H
  go_enter Try.func55, Try.ntmps55
  go_wp2
  go_ret
  exact ⟨by first | rfl | (simp; done) | (simp [*]; done), by repeat (first | exact Drawn0.refl _ | apply Drawn0.step)⟩
 ·rw [if_neg c4] at H
  have c4b0 : decide (a1 ≤ a0) = false := decide_eq_false c4
  clear c4; obtain rfl := Option.some.inj H
  go_enter Try.func55, Try.ntmps55
  go_wp2
  go_ret
  exact ⟨by first | rfl | (simp; done) | (simp [*]; done), by repeat (first | exact Drawn0.refl _ | apply Drawn0.step)⟩
end Go.Proofs.Ytkjkokgbhepmoaa.PB

namespace Go.Proofs.Ytkjkokgbhepmoaa.PB
open Go.RowKit Go.Proofs.YtkjkokgbhepmoaaW.PrintWords Go.Proofs.YtkjkokgbhepmoaaW.PrintLast Go.Proofs.YtkjkokgbhepmoaaW.PrintMore
def outside (lo hi x : Int) : Bool := !(decide (lo ≤ x) && decide (x ≤ hi))
theorem within_f (a lo hi : Int) : batch_within.f a lo hi = some (decide (lo ≤ a) && decide (a ≤ hi)) := by
  unfold batch_within.f
  by_cases h : lo ≤ a <;> simp [h]
theorem span_f (a b lo hi : Int) : batch_span.f a b lo hi = some (decide (lo ≤ a) && decide (a ≤ b) && decide (b ≤ hi)) := by
  unfold batch_span.f
  by_cases h : lo ≤ a <;> by_cases h' : a ≤ b <;> simp [h, h']
theorem tells_coefs (x : Int) (w : World) : Tells 134 #[] (.int .i64 x) (outside (-10000) 10000 x) w := by
  intro W _
  have H := Sd.mk (batch_within.calls x (-10000) 10000 _ W (within_f _ _ _))
  show Calls Try.prog 134 #[.int .i64 x] W _
  unfold outside
  go_enter Try.func134, Try.ntmps134
  go_wp2_with (go_at_call 55; refine H.out.mono ?_; rintro e w1 ⟨rfl, hb⟩)
  go_ret
  exact ⟨by first | rfl | simp [Bool.not_and], Drawn0.below hb⟩
def x_coefs.f (l : List Int) : Option Bool := some (l.any (outside (-10000) 10000))
theorem x_coefs.calls (A0 : Option Addr) (c0 : Nat) (l0 : List Int) (r : Bool) (w : World) (hr0 : Kd.C (Kd.int .i64) w A0 l0.length l0) (hc0 : l0.length ≤ c0) (h : x_coefs.f l0 = some r) :
    Calls Try.prog 80 #[.slice A0 l0.length c0, .func (.func 134) #[] #[]] w fun e w' => e = .returned (.bool r) ∧ Below w.heap.size w w' := by
  obtain rfl := Option.some.inj h
  exact containsFunc_int _ 134 #[] (enters_of Try.func134 (by kernel_rfl) rfl) A0 c0 l0 w hr0 (fun x _ => tells_coefs x w)
theorem tells_kilos (x : Int) (w : World) : Tells 151 #[] (.int .i64 x) (outside (0) 10000 x) w := by
  intro W _
  have H := Sd.mk (batch_within.calls x (0) 10000 _ W (within_f _ _ _))
  show Calls Try.prog 151 #[.int .i64 x] W _
  unfold outside
  go_enter Try.func151, Try.ntmps151
  go_wp2_with (go_at_call 55; refine H.out.mono ?_; rintro e w1 ⟨rfl, hb⟩)
  go_ret
  exact ⟨by first | rfl | simp [Bool.not_and], Drawn0.below hb⟩
def x_kilos.f (l : List Int) : Option Bool := some (l.any (outside (0) 10000))
theorem x_kilos.calls (A0 : Option Addr) (c0 : Nat) (l0 : List Int) (r : Bool) (w : World) (hr0 : Kd.C (Kd.int .i64) w A0 l0.length l0) (hc0 : l0.length ≤ c0) (h : x_kilos.f l0 = some r) :
    Calls Try.prog 80 #[.slice A0 l0.length c0, .func (.func 151) #[] #[]] w fun e w' => e = .returned (.bool r) ∧ Below w.heap.size w w' := by
  obtain rfl := Option.some.inj h
  exact containsFunc_int _ 151 #[] (enters_of Try.func151 (by kernel_rfl) rfl) A0 c0 l0 w hr0 (fun x _ => tells_kilos x w)
def badSpan (s : S27) : Bool := !(decide (0 ≤ s.f0) && decide (s.f0 ≤ s.f1) && decide (s.f1 ≤ 1000))
theorem tells_spans (x : S27) (w : World) : Tells 68 #[] (.agg #[.int .i64 x.f0, .int .i64 x.f1]) (badSpan x) w := by
  intro W _
  have H := fun W => batch_span.calls x.f0 x.f1 0 1000 _ W (span_f _ _ _ _)
  have H' := Sd.mk H
  clear H
  show Calls Try.prog 68 #[.agg #[.int .i64 x.f0, .int .i64 x.f1]] W _
  unfold badSpan
  generalize x.f0 = a at *
  generalize x.f1 = b at *
  go_enter Try.func68, Try.ntmps68
  go_wp2_with (go_at_call 69; refine (H'.out _).mono ?_; rintro e w1 ⟨rfl, hb⟩)
  go_ret
  exact ⟨by first | rfl | simp [Bool.not_and], below_trans' (below_alloc (Below.refl _ _) _) hb⟩
def x_spans.f (l : List S27) : Option Bool := some (l.any badSpan)
theorem x_spans.calls (A0 : Option Addr) (c0 : Nat) (l0 : List S27) (r : Bool) (w : World) (hr0 : Kd.C k27 w A0 l0.length l0) (hc0 : l0.length ≤ c0) (h : x_spans.f l0 = some r) :
    Calls Try.prog 67 #[.slice A0 l0.length c0, .func (.func 68) #[] #[]] w fun e w' => e = .returned (.bool r) ∧ Below w.heap.size w w' := by
  obtain rfl := Option.some.inj h
  exact containsFunc_span _ 68 #[] (enters_of Try.func68 (by kernel_rfl) rfl) A0 c0 l0 w hr0 (fun x _ => tells_spans x w)
end Go.Proofs.Ytkjkokgbhepmoaa.PB

namespace Go.Proofs.Ytkjkokgbhepmoaa.PB
open Go.RowKit Go.Proofs.YtkjkokgbhepmoaaW.PrintWords Go.Proofs.YtkjkokgbhepmoaaW.PrintLast Go.Proofs.YtkjkokgbhepmoaaW.PrintMore
attribute [local go_sem] max2_int min2_int max_two min_two max_three min_three max_four min_four
mutual
def batch_checkMaterial.j0 : Nat → Bool → ByteArray → Int → Int → Int → Int → Int → List (S27) → Option (Int)
 | 0, _, _, _, _, _, _, _, _ => none
 | k + 1, x46, x120q0, x120q1, x120q2, x120q3, x120q4, x120q5, x120q6 => if x46 = true then (some 1) else (batch_checkMaterial.l0 k 0 x120q6 (x120q6.length : Int) 0)
def batch_checkMaterial.l0 : Nat → Int → List (S27) → Int → Int → Option (Int)
 | 0, _, _, _, _ => none
 | k + 1, x5, x48, x49, x50 => if x50 < x49 then (if 0 ≤ x50 then (if x50 < (x48.length : Int) then ((batch_span.f ((rd_T27 x48 x50).f0) ((rd_T27 x48 x50).f1) 0 1000).bind fun t127 => (if t127 = true then (batch_checkMaterial.l0 k (wrap64 (x5 + ((rd_T27 x48 x50).f0))) x48 x49 (wrap64 (x50 + 1))) else (some 1))) else (none)) else (none)) else (if x5 > 1000 then (some 12) else (some 0))
end
def batch_checkMaterial.f (k : Nat) (l0_0 : List ByteArray) (l0_1 : List (S63)) (l0_2 : List (S27)) (l0_3 : List (S65)) (a0_4 : Int) (a0_5 : Int) (a0_6 : Int) (a1_0 : ByteArray) (a1_1 : Int) (a1_2 : Int) (a1_3 : Int) (a1_4 : Int) (a1_5 : Int) (l1_6 : List (S27)) : Option (Int) := (batch_within.f a1_1 0 10000).bind fun t120 => (if t120 = true then ((batch_within.f a1_2 (-1000) 1000).bind fun t121 => (if t121 = true then ((batch_within.f a1_3 0 10000).bind fun t122 => (if t122 = true then ((batch_within.f a1_4 a1_3 10000).bind fun t123 => (if t123 = true then ((batch_within.f a1_5 1 10000).bind fun t124 => (if t124 = true then (batch_checkMaterial.j0 k ((l1_6.length : Int) != (l0_0.length : Int)) a1_0 a1_1 a1_2 a1_3 a1_4 a1_5 l1_6) else (batch_checkMaterial.j0 k true a1_0 a1_1 a1_2 a1_3 a1_4 a1_5 l1_6))) else (batch_checkMaterial.j0 k true a1_0 a1_1 a1_2 a1_3 a1_4 a1_5 l1_6))) else (batch_checkMaterial.j0 k true a1_0 a1_1 a1_2 a1_3 a1_4 a1_5 l1_6))) else (batch_checkMaterial.j0 k true a1_0 a1_1 a1_2 a1_3 a1_4 a1_5 l1_6))) else (batch_checkMaterial.j0 k true a1_0 a1_1 a1_2 a1_3 a1_4 a1_5 l1_6))
set_option maxHeartbeats 8000000 in
set_option maxRecDepth 100000 in
theorem batch_checkMaterial.calls (k : Nat) (A0_0 : Option Addr) (c0_0 : Nat) (l0_0 : List ByteArray) (A0_1 : Option Addr) (c0_1 : Nat) (l0_1 : List (S63)) (A0_2 : Option Addr) (c0_2 : Nat) (l0_2 : List (S27)) (A0_3 : Option Addr) (c0_3 : Nat) (l0_3 : List (S65)) (a0_4 : Int) (a0_5 : Int) (a0_6 : Int) (a1_0 : ByteArray) (a1_1 : Int) (a1_2 : Int) (a1_3 : Int) (a1_4 : Int) (a1_5 : Int) (A1_6 : Option Addr) (c1_6 : Nat) (l1_6 : List (S27)) (r : Int) (w : World) (hr0_0 : Kd.C Kd.string w A0_0 l0_0.length l0_0) (hc0_0 : l0_0.length ≤ c0_0) (hr0_1 : Kd.C k63 w A0_1 l0_1.length l0_1) (hc0_1 : l0_1.length ≤ c0_1) (hr0_2 : Kd.C k27 w A0_2 l0_2.length l0_2) (hc0_2 : l0_2.length ≤ c0_2) (hr0_3 : Kd.C k65 w A0_3 l0_3.length l0_3) (hc0_3 : l0_3.length ≤ c0_3) (hr1_6 : Kd.C k27 w A1_6 l1_6.length l1_6) (hc1_6 : l1_6.length ≤ c1_6) (h : batch_checkMaterial.f k l0_0 l0_1 l0_2 l0_3 a0_4 a0_5 a0_6 a1_0 a1_1 a1_2 a1_3 a1_4 a1_5 l1_6 = some r) :
  Calls Try.prog 130 #[.agg #[.slice A0_0 l0_0.length c0_0, .slice A0_1 l0_1.length c0_1, .slice A0_2 l0_2.length c0_2, .slice A0_3 l0_3.length c0_3, .int .i64 a0_4, .int .i64 a0_5, .int .i64 a0_6], .agg #[.string a1_0, .int .i64 a1_1, .int .i64 a1_2, .int .i64 a1_3, .int .i64 a1_4, .int .i64 a1_5, .slice A1_6 l1_6.length c1_6]] w fun e w' => e = .returned (.int .i64 r) ∧ Below w.heap.size w w' := by
 have hu29 := Try.underlying29; have hu63 := Try.underlying63; have hu27 := Try.underlying27; have HR0_0 := Sd.mk hr0_0; have HC0_0 := Sd.mk hc0_0; clear hr0_0 hc0_0; have HR0_1 := Sd.mk hr0_1; have HC0_1 := Sd.mk hc0_1; clear hr0_1 hc0_1; have HR0_2 := Sd.mk hr0_2; have HC0_2 := Sd.mk hc0_2; clear hr0_2 hc0_2; have HR0_3 := Sd.mk hr0_3; have HC0_3 := Sd.mk hc0_3; clear hr0_3 hc0_3; have HR1_6 := Sd.mk hr1_6; have HC1_6 := Sd.mk hc1_6; clear hr1_6 hc1_6; have HB := Sd.mk (Below.refl w.heap.size w)
 have H : ((batch_within.f a1_1 0 10000).bind fun t120 => (if t120 = true then ((batch_within.f a1_2 (-1000) 1000).bind fun t121 => (if t121 = true then ((batch_within.f a1_3 0 10000).bind fun t122 => (if t122 = true then ((batch_within.f a1_4 a1_3 10000).bind fun t123 => (if t123 = true then ((batch_within.f a1_5 1 10000).bind fun t124 => (if t124 = true then (batch_checkMaterial.j0 k ((l1_6.length : Int) != (l0_0.length : Int)) a1_0 a1_1 a1_2 a1_3 a1_4 a1_5 l1_6) else (batch_checkMaterial.j0 k true a1_0 a1_1 a1_2 a1_3 a1_4 a1_5 l1_6))) else (batch_checkMaterial.j0 k true a1_0 a1_1 a1_2 a1_3 a1_4 a1_5 l1_6))) else (batch_checkMaterial.j0 k true a1_0 a1_1 a1_2 a1_3 a1_4 a1_5 l1_6))) else (batch_checkMaterial.j0 k true a1_0 a1_1 a1_2 a1_3 a1_4 a1_5 l1_6))) else (batch_checkMaterial.j0 k true a1_0 a1_1 a1_2 a1_3 a1_4 a1_5 l1_6))) = some r := h
 clear h; have HC3 := Sd.mk H; clear H
 go_enter Try.func130, Try.ntmps130
 go_upto_region 1 with (first | ((with_reducible refine gate_dst (N := 2) rfl ?_); (try (refine gate_guard (by rfl) ?_; dsimp only)); refine box_event ?hg (N := 2) ?hd (cs := #[.slice A0_0 l0_0.length c0_0, .slice A0_1 l0_1.length c0_1, .slice A0_2 l0_2.length c0_2, .slice A0_3 l0_3.length c0_3, .int .i64 a0_4, .int .i64 a0_5, .int .i64 a0_6]) (t := 29) ?hr ?_; (case hd => rfl); (case hg => rfl); (case hr => exact tG); intro gb118 hg w4 hbox hb; have BK118 := Sd.mk (hbox); have GW118 := Sd.mk (bSz hg (bBl HB.out)); have GE118 := Sd.mk (bSz hg (bBl HB.out)); replace HB := Sd.mk (below_step (bBl HB.out) hb); clear hb hbox hg) | ((with_reducible refine gate_dst (N := 3) rfl ?_); (try (refine gate_guard (by rfl) ?_; dsimp only)); refine box_event ?hg (N := 3) ?hd (cs := #[.string a1_0, .int .i64 a1_1, .int .i64 a1_2, .int .i64 a1_3, .int .i64 a1_4, .int .i64 a1_5, .slice A1_6 l1_6.length c1_6]) (t := 63) ?hr ?_; (case hd => rfl); (case hg => rfl); (case hr => exact tG); intro gb119 hg w5 hbox hb; have BK119 := Sd.mk (hbox); have GW119 := Sd.mk (bSz hg (bBl HB.out)); have GE119 := Sd.mk (bSz hg (bBl HB.out)); replace HB := Sd.mk (below_step (bBl HB.out) hb); have NB118_119 := Sd.mk (bNl hg (bkA BK118.out)); have NB119_118 := Sd.mk (bNg hg (bkA BK118.out)); replace BK118 := Sd.mk (blk_below (bkA BK118.out) hb); clear hb hbox hg))
 (try simp only [Act.put, List.setIfInBounds_toArray, List.set_cons_zero, List.set_cons_succ])
 go_cut [46] (fun v46 wc => ∃ (kq : Nat) (x46_2 : Bool), v46 = .bool x46_2 ∧ Sd (batch_checkMaterial.j0 kq x46_2 a1_0 a1_1 a1_2 a1_3 a1_4 a1_5 l1_6 = some r) ∧ Sd (kq ≤ k) ∧ Sd (wc.heap[gb118]? = some (.cells #[(.slice A0_0 l0_0.length c0_0), (.slice A0_1 l0_1.length c0_1), (.slice A0_2 l0_2.length c0_2), (.slice A0_3 l0_3.length c0_3), .int .i64 a0_4, .int .i64 a0_5, .int .i64 a0_6] 29 (0, 0))) ∧ Sd (wc.heap[gb119]? = some (.cells #[.string a1_0, .int .i64 a1_1, .int .i64 a1_2, .int .i64 a1_3, .int .i64 a1_4, .int .i64 a1_5, (.slice A1_6 l1_6.length c1_6)] 63 (0, 0))) ∧ Sd (Below w.heap.size w wc))
 case first =>
  have H := HC3.out; clear HC3; replace H := Option.bind_eq_some_iff.mp H; obtain ⟨t120, A60, H⟩ := H
  try dsimp only at H
  have A6 := Sd.mk A60; clear A60
  by_cases c7 : t120 = true
  ·subst c7
   have H1 : ((batch_within.f a1_2 (-1000) 1000).bind fun t121 => (if t121 = true then ((batch_within.f a1_3 0 10000).bind fun t122 => (if t122 = true then ((batch_within.f a1_4 a1_3 10000).bind fun t123 => (if t123 = true then ((batch_within.f a1_5 1 10000).bind fun t124 => (if t124 = true then (batch_checkMaterial.j0 k ((l1_6.length : Int) != (l0_0.length : Int)) a1_0 a1_1 a1_2 a1_3 a1_4 a1_5 l1_6) else (batch_checkMaterial.j0 k true a1_0 a1_1 a1_2 a1_3 a1_4 a1_5 l1_6))) else (batch_checkMaterial.j0 k true a1_0 a1_1 a1_2 a1_3 a1_4 a1_5 l1_6))) else (batch_checkMaterial.j0 k true a1_0 a1_1 a1_2 a1_3 a1_4 a1_5 l1_6))) else (batch_checkMaterial.j0 k true a1_0 a1_1 a1_2 a1_3 a1_4 a1_5 l1_6))) = some r := by rw [if_pos rfl] at H; exact H
   clear H; have H := H1; clear H1; replace H := Option.bind_eq_some_iff.mp H; obtain ⟨t121, A80, H⟩ := H
   try dsimp only at H
   have A8 := Sd.mk A80; clear A80
   by_cases c9 : t121 = true
   ·subst c9
    have H1 : ((batch_within.f a1_3 0 10000).bind fun t122 => (if t122 = true then ((batch_within.f a1_4 a1_3 10000).bind fun t123 => (if t123 = true then ((batch_within.f a1_5 1 10000).bind fun t124 => (if t124 = true then (batch_checkMaterial.j0 k ((l1_6.length : Int) != (l0_0.length : Int)) a1_0 a1_1 a1_2 a1_3 a1_4 a1_5 l1_6) else (batch_checkMaterial.j0 k true a1_0 a1_1 a1_2 a1_3 a1_4 a1_5 l1_6))) else (batch_checkMaterial.j0 k true a1_0 a1_1 a1_2 a1_3 a1_4 a1_5 l1_6))) else (batch_checkMaterial.j0 k true a1_0 a1_1 a1_2 a1_3 a1_4 a1_5 l1_6))) = some r := by rw [if_pos rfl] at H; exact H
    clear H; have H := H1; clear H1; replace H := Option.bind_eq_some_iff.mp H; obtain ⟨t122, A100, H⟩ := H
    try dsimp only at H
    have A10 := Sd.mk A100; clear A100
    by_cases c11 : t122 = true
    ·subst c11
     have H1 : ((batch_within.f a1_4 a1_3 10000).bind fun t123 => (if t123 = true then ((batch_within.f a1_5 1 10000).bind fun t124 => (if t124 = true then (batch_checkMaterial.j0 k ((l1_6.length : Int) != (l0_0.length : Int)) a1_0 a1_1 a1_2 a1_3 a1_4 a1_5 l1_6) else (batch_checkMaterial.j0 k true a1_0 a1_1 a1_2 a1_3 a1_4 a1_5 l1_6))) else (batch_checkMaterial.j0 k true a1_0 a1_1 a1_2 a1_3 a1_4 a1_5 l1_6))) = some r := by rw [if_pos rfl] at H; exact H
     clear H; have H := H1; clear H1; replace H := Option.bind_eq_some_iff.mp H; obtain ⟨t123, A120, H⟩ := H
     try dsimp only at H
     have A12 := Sd.mk A120; clear A120
     by_cases c13 : t123 = true
     ·subst c13
      have H1 : ((batch_within.f a1_5 1 10000).bind fun t124 => (if t124 = true then (batch_checkMaterial.j0 k ((l1_6.length : Int) != (l0_0.length : Int)) a1_0 a1_1 a1_2 a1_3 a1_4 a1_5 l1_6) else (batch_checkMaterial.j0 k true a1_0 a1_1 a1_2 a1_3 a1_4 a1_5 l1_6))) = some r := by rw [if_pos rfl] at H; exact H
      clear H; have H := H1; clear H1; replace H := Option.bind_eq_some_iff.mp H; obtain ⟨t124, A140, H⟩ := H
      try dsimp only at H
      have A14 := Sd.mk A140; clear A140
      by_cases c15 : t124 = true
      ·subst c15
       have H1 : (batch_checkMaterial.j0 k ((l1_6.length : Int) != (l0_0.length : Int)) a1_0 a1_1 a1_2 a1_3 a1_4 a1_5 l1_6) = some r := by rw [if_pos rfl] at H; exact H
       clear H; have H := H1; clear H1; have H' := Sd.mk H; clear H; have hnb16 := NB119_118.out; have hnc16 := NB118_119.out; obtain ⟨u17_0, u17_1, u17_2, u17_3, u17_4, u17_5, u17_6, o17_0, o17_1, o17_2, o17_3, o17_4, o17_5, o17_6⟩ := bc7 (w := w5) BK119.out
       go_wp2_with (first | ((with_reducible refine gate_callee (f := 55) rfl ?_); refine goesL_ (some 10) rfl rfl Try.func55 (by kernel_rfl) rfl #[.int .i64 a1_1, .int .i64 0, .int .i64 10000] rfl tM ?_; (with_reducible refine (batch_within.calls a1_1 0 10000 true _ A6.out).mono ?_); rintro e w' ⟨rfl, ⟨nd, rfl⟩⟩; refine ⟨_, rfl, ?_⟩) | (go_at_call 55; (with_reducible refine (batch_within.calls a1_2 (-1000) 1000 true _ A8.out).mono ?_); rintro e w' ⟨rfl, ⟨nd, rfl⟩⟩) | (go_at_call 55; (with_reducible refine (batch_within.calls a1_3 0 10000 true _ A10.out).mono ?_); rintro e w' ⟨rfl, ⟨nd, rfl⟩⟩) | (go_at_call 55; (with_reducible refine (batch_within.calls a1_4 a1_3 10000 true _ A12.out).mono ?_); rintro e w' ⟨rfl, ⟨nd, rfl⟩⟩) | (go_at_call 55; (with_reducible refine (batch_within.calls a1_5 1 10000 true _ A14.out).mono ?_); rintro e w' ⟨rfl, ⟨nd, rfl⟩⟩; obtain ⟨u18_0, u18_1, u18_2, u18_3, u18_4, u18_5, u18_6, o18_0, o18_1, o18_2, o18_3, o18_4, o18_5, o18_6⟩ := bc7 (w := w5) BK118.out))
       go_meet
       case rel => exact ⟨_, (((l1_6.length : Int) != (l0_0.length : Int))), tS, H', ⟨by first | omega | exact Nat.le_refl _⟩, ⟨bkA BK118.out⟩, ⟨bkA BK119.out⟩, ⟨bBl HB.out⟩⟩
      ·replace c15 := Bool.eq_false_iff.mpr c15
       subst c15
       have H1 : (batch_checkMaterial.j0 k true a1_0 a1_1 a1_2 a1_3 a1_4 a1_5 l1_6) = some r := by rw [if_neg (show ¬ (false = true) by decide)] at H; exact H
       clear H; have H := H1; clear H1; have H' := Sd.mk H; clear H; have hnb19 := NB119_118.out; have hnc19 := NB118_119.out; obtain ⟨u20_0, u20_1, u20_2, u20_3, u20_4, u20_5, u20_6, o20_0, o20_1, o20_2, o20_3, o20_4, o20_5, o20_6⟩ := bc7 (w := w5) BK119.out
       go_wp2_with (first | ((with_reducible refine gate_callee (f := 55) rfl ?_); refine goesL_ (some 10) rfl rfl Try.func55 (by kernel_rfl) rfl #[.int .i64 a1_1, .int .i64 0, .int .i64 10000] rfl tM ?_; (with_reducible refine (batch_within.calls a1_1 0 10000 true _ A6.out).mono ?_); rintro e w' ⟨rfl, ⟨nd, rfl⟩⟩; refine ⟨_, rfl, ?_⟩) | (go_at_call 55; (with_reducible refine (batch_within.calls a1_2 (-1000) 1000 true _ A8.out).mono ?_); rintro e w' ⟨rfl, ⟨nd, rfl⟩⟩) | (go_at_call 55; (with_reducible refine (batch_within.calls a1_3 0 10000 true _ A10.out).mono ?_); rintro e w' ⟨rfl, ⟨nd, rfl⟩⟩) | (go_at_call 55; (with_reducible refine (batch_within.calls a1_4 a1_3 10000 true _ A12.out).mono ?_); rintro e w' ⟨rfl, ⟨nd, rfl⟩⟩) | (go_at_call 55; (with_reducible refine (batch_within.calls a1_5 1 10000 false _ A14.out).mono ?_); rintro e w' ⟨rfl, ⟨nd, rfl⟩⟩))
       go_meet
       case rel => exact ⟨_, (true), tS, H', ⟨by first | omega | exact Nat.le_refl _⟩, ⟨bkA BK118.out⟩, ⟨bkA BK119.out⟩, ⟨bBl HB.out⟩⟩
     ·replace c13 := Bool.eq_false_iff.mpr c13
      subst c13
      have H1 : (batch_checkMaterial.j0 k true a1_0 a1_1 a1_2 a1_3 a1_4 a1_5 l1_6) = some r := by rw [if_neg (show ¬ (false = true) by decide)] at H; exact H
      clear H; have H := H1; clear H1; have H' := Sd.mk H; clear H; have hnb21 := NB119_118.out; have hnc21 := NB118_119.out; obtain ⟨u22_0, u22_1, u22_2, u22_3, u22_4, u22_5, u22_6, o22_0, o22_1, o22_2, o22_3, o22_4, o22_5, o22_6⟩ := bc7 (w := w5) BK119.out
      go_wp2_with (first | ((with_reducible refine gate_callee (f := 55) rfl ?_); refine goesL_ (some 10) rfl rfl Try.func55 (by kernel_rfl) rfl #[.int .i64 a1_1, .int .i64 0, .int .i64 10000] rfl tM ?_; (with_reducible refine (batch_within.calls a1_1 0 10000 true _ A6.out).mono ?_); rintro e w' ⟨rfl, ⟨nd, rfl⟩⟩; refine ⟨_, rfl, ?_⟩) | (go_at_call 55; (with_reducible refine (batch_within.calls a1_2 (-1000) 1000 true _ A8.out).mono ?_); rintro e w' ⟨rfl, ⟨nd, rfl⟩⟩) | (go_at_call 55; (with_reducible refine (batch_within.calls a1_3 0 10000 true _ A10.out).mono ?_); rintro e w' ⟨rfl, ⟨nd, rfl⟩⟩) | (go_at_call 55; (with_reducible refine (batch_within.calls a1_4 a1_3 10000 false _ A12.out).mono ?_); rintro e w' ⟨rfl, ⟨nd, rfl⟩⟩))
      go_meet
      case rel => exact ⟨_, (true), tS, H', ⟨by first | omega | exact Nat.le_refl _⟩, ⟨bkA BK118.out⟩, ⟨bkA BK119.out⟩, ⟨bBl HB.out⟩⟩
    ·replace c11 := Bool.eq_false_iff.mpr c11
     subst c11
     have H1 : (batch_checkMaterial.j0 k true a1_0 a1_1 a1_2 a1_3 a1_4 a1_5 l1_6) = some r := by rw [if_neg (show ¬ (false = true) by decide)] at H; exact H
     clear H; have H := H1; clear H1; have H' := Sd.mk H; clear H; have hnb23 := NB119_118.out; have hnc23 := NB118_119.out; obtain ⟨u24_0, u24_1, u24_2, u24_3, u24_4, u24_5, u24_6, o24_0, o24_1, o24_2, o24_3, o24_4, o24_5, o24_6⟩ := bc7 (w := w5) BK119.out
     go_wp2_with (first | ((with_reducible refine gate_callee (f := 55) rfl ?_); refine goesL_ (some 10) rfl rfl Try.func55 (by kernel_rfl) rfl #[.int .i64 a1_1, .int .i64 0, .int .i64 10000] rfl tM ?_; (with_reducible refine (batch_within.calls a1_1 0 10000 true _ A6.out).mono ?_); rintro e w' ⟨rfl, ⟨nd, rfl⟩⟩; refine ⟨_, rfl, ?_⟩) | (go_at_call 55; (with_reducible refine (batch_within.calls a1_2 (-1000) 1000 true _ A8.out).mono ?_); rintro e w' ⟨rfl, ⟨nd, rfl⟩⟩) | (go_at_call 55; (with_reducible refine (batch_within.calls a1_3 0 10000 false _ A10.out).mono ?_); rintro e w' ⟨rfl, ⟨nd, rfl⟩⟩))
     go_meet
     case rel => exact ⟨_, (true), tS, H', ⟨by first | omega | exact Nat.le_refl _⟩, ⟨bkA BK118.out⟩, ⟨bkA BK119.out⟩, ⟨bBl HB.out⟩⟩
   ·replace c9 := Bool.eq_false_iff.mpr c9
    subst c9
    have H1 : (batch_checkMaterial.j0 k true a1_0 a1_1 a1_2 a1_3 a1_4 a1_5 l1_6) = some r := by rw [if_neg (show ¬ (false = true) by decide)] at H; exact H
    clear H; have H := H1; clear H1; have H' := Sd.mk H; clear H; have hnb25 := NB119_118.out; have hnc25 := NB118_119.out; obtain ⟨u26_0, u26_1, u26_2, u26_3, u26_4, u26_5, u26_6, o26_0, o26_1, o26_2, o26_3, o26_4, o26_5, o26_6⟩ := bc7 (w := w5) BK119.out
    go_wp2_with (first | ((with_reducible refine gate_callee (f := 55) rfl ?_); refine goesL_ (some 10) rfl rfl Try.func55 (by kernel_rfl) rfl #[.int .i64 a1_1, .int .i64 0, .int .i64 10000] rfl tM ?_; (with_reducible refine (batch_within.calls a1_1 0 10000 true _ A6.out).mono ?_); rintro e w' ⟨rfl, ⟨nd, rfl⟩⟩; refine ⟨_, rfl, ?_⟩) | (go_at_call 55; (with_reducible refine (batch_within.calls a1_2 (-1000) 1000 false _ A8.out).mono ?_); rintro e w' ⟨rfl, ⟨nd, rfl⟩⟩))
    go_meet
    case rel => exact ⟨_, (true), tS, H', ⟨by first | omega | exact Nat.le_refl _⟩, ⟨bkA BK118.out⟩, ⟨bkA BK119.out⟩, ⟨bBl HB.out⟩⟩
  ·replace c7 := Bool.eq_false_iff.mpr c7
   subst c7
   have H1 : (batch_checkMaterial.j0 k true a1_0 a1_1 a1_2 a1_3 a1_4 a1_5 l1_6) = some r := by rw [if_neg (show ¬ (false = true) by decide)] at H; exact H
   clear H; have H := H1; clear H1; have H' := Sd.mk H; clear H; have hnb27 := NB119_118.out; have hnc27 := NB118_119.out; obtain ⟨u28_0, u28_1, u28_2, u28_3, u28_4, u28_5, u28_6, o28_0, o28_1, o28_2, o28_3, o28_4, o28_5, o28_6⟩ := bc7 (w := w5) BK119.out
   go_wp2_with (first | ((with_reducible refine gate_callee (f := 55) rfl ?_); refine goesL_ (some 10) rfl rfl Try.func55 (by kernel_rfl) rfl #[.int .i64 a1_1, .int .i64 0, .int .i64 10000] rfl tM ?_; (with_reducible refine (batch_within.calls a1_1 0 10000 false _ A6.out).mono ?_); rintro e w' ⟨rfl, ⟨nd, rfl⟩⟩; refine ⟨_, rfl, ?_⟩))
   go_meet
   case rel => exact ⟨_, (true), tS, H', ⟨by first | omega | exact Nat.le_refl _⟩, ⟨bkA BK118.out⟩, ⟨bkA BK119.out⟩, ⟨bBl HB.out⟩⟩
 case rest =>
  clear HC3; (try clear c1); (try clear c2); (try clear p2); (try clear c5); (try clear c7); (try clear c9); (try clear c11); (try clear c13); (try clear c15); (try clear c16); (try clear c19); (try clear c21); (try clear c23); (try clear c25); (try clear c27); (try clear u17_0 u17_1 u17_2 u17_3 u17_4 u17_5 u17_6); (try clear u18_0 u18_1 u18_2 u18_3 u18_4 u18_5 u18_6); (try clear u20_0 u20_1 u20_2 u20_3 u20_4 u20_5 u20_6); (try clear u22_0 u22_1 u22_2 u22_3 u22_4 u22_5 u22_6); (try clear u24_0 u24_1 u24_2 u24_3 u24_4 u24_5 u24_6); (try clear u26_0 u26_1 u26_2 u26_3 u26_4 u26_5 u26_6); (try clear u28_0 u28_1 u28_2 u28_3 u28_4 u28_5 u28_6); (try clear o17_0 o17_1 o17_2 o17_3 o17_4 o17_5 o17_6); (try clear o18_0 o18_1 o18_2 o18_3 o18_4 o18_5 o18_6); (try clear o20_0 o20_1 o20_2 o20_3 o20_4 o20_5 o20_6); (try clear o22_0 o22_1 o22_2 o22_3 o22_4 o22_5 o22_6); (try clear o24_0 o24_1 o24_2 o24_3 o24_4 o24_5 o24_6); (try clear o26_0 o26_1 o26_2 o26_3 o26_4 o26_5 o26_6); (try clear o28_0 o28_1 o28_2 o28_3 o28_4 o28_5 o28_6); obtain ⟨kq, x46_2, rfl, HA, HJ2, BK118, BK119, HB⟩ := hcut
  cases kq with
  | zero => exact absurd HA.out (by simp [batch_checkMaterial.j0])
  | succ kj2 =>
   have H := HA.out; clear HA
   simp only [batch_checkMaterial.j0] at H
   by_cases c29 : x46_2 = true
   ·subst c29
    have H1 : (some 1) = some r := by rw [if_pos rfl] at H; exact H
    clear H; have H := H1; clear H1; obtain rfl := Option.some.inj H
    go_wp2
    go_ret
    exact ⟨tE, bBl HB.out⟩
   ·replace c29 := Bool.eq_false_iff.mpr c29
    subst c29
    have H1 : (batch_checkMaterial.l0 kj2 0 l1_6 (l1_6.length : Int) 0) = some r := by rw [if_neg (show ¬ (false = true) by decide)] at H; exact H
    clear H; have H := H1; clear H1; have H' := Sd.mk H; clear H; have hnb30 := NB119_118.out; have hnc30 := NB118_119.out; obtain ⟨u31_0, u31_1, u31_2, u31_3, u31_4, u31_5, u31_6, o31_0, o31_1, o31_2, o31_3, o31_4, o31_5, o31_6⟩ := bc7 (w := wc) BK119.out
    go_wp2
    go_loopg [5, 50] kj2 (fun kq v5 v50 w' => ∃ (x5_2 : Int) (x50_2 : Int), v5 = .int .i64 x5_2 ∧ v50 = .int .i64 x50_2 ∧ Sd (batch_checkMaterial.l0 kq x5_2 l1_6 (l1_6.length : Int) x50_2 = some r) ∧ Sd (kq ≤ kj2) ∧ Sd (w'.heap[gb118]? = some (.cells #[(.slice A0_0 l0_0.length c0_0), (.slice A0_1 l0_1.length c0_1), (.slice A0_2 l0_2.length c0_2), (.slice A0_3 l0_3.length c0_3), .int .i64 a0_4, .int .i64 a0_5, .int .i64 a0_6] 29 (0, 0))) ∧ Sd (w'.heap[gb119]? = some (.cells #[.string a1_0, .int .i64 a1_1, .int .i64 a1_2, .int .i64 a1_3, .int .i64 a1_4, .int .i64 a1_5, (.slice A1_6 l1_6.length c1_6)] 63 (0, 0))) ∧ Sd (Below w.heap.size w w'))
    case atStart => exact ⟨(0), (0), tS, tS, H', ⟨Nat.le_refl _⟩, ⟨bkA BK118.out⟩, ⟨bkA BK119.out⟩, ⟨bBl HB.out⟩⟩
    case round =>
     clear H'; (try clear c1); (try clear c2); (try clear p2 p2); (try clear c3); (try clear c5); (try clear c7); (try clear c9); (try clear c11); (try clear c13); (try clear c15); (try clear c16); (try clear c19); (try clear c21); (try clear c23); (try clear c25); (try clear c27); (try clear c29); (try clear c30); (try clear u17_0 u17_1 u17_2 u17_3 u17_4 u17_5 u17_6); (try clear u18_0 u18_1 u18_2 u18_3 u18_4 u18_5 u18_6); (try clear u20_0 u20_1 u20_2 u20_3 u20_4 u20_5 u20_6); (try clear u22_0 u22_1 u22_2 u22_3 u22_4 u22_5 u22_6); (try clear u24_0 u24_1 u24_2 u24_3 u24_4 u24_5 u24_6); (try clear u26_0 u26_1 u26_2 u26_3 u26_4 u26_5 u26_6); (try clear u28_0 u28_1 u28_2 u28_3 u28_4 u28_5 u28_6); (try clear u31_0 u31_1 u31_2 u31_3 u31_4 u31_5 u31_6); (try clear o17_0 o17_1 o17_2 o17_3 o17_4 o17_5 o17_6); (try clear o18_0 o18_1 o18_2 o18_3 o18_4 o18_5 o18_6); (try clear o20_0 o20_1 o20_2 o20_3 o20_4 o20_5 o20_6); (try clear o22_0 o22_1 o22_2 o22_3 o22_4 o22_5 o22_6); (try clear o24_0 o24_1 o24_2 o24_3 o24_4 o24_5 o24_6); (try clear o26_0 o26_1 o26_2 o26_3 o26_4 o26_5 o26_6); (try clear o28_0 o28_1 o28_2 o28_3 o28_4 o28_5 o28_6); (try clear o31_0 o31_1 o31_2 o31_3 o31_4 o31_5 o31_6); obtain ⟨x5_2, x50_2, rfl, rfl, HA, HK2, BK118, BK119, HB⟩ := hrel
     cases gk with
     | zero => exact absurd HA.out (by simp [batch_checkMaterial.l0])
     | succ k2 =>
      have H := HA.out; clear HA
      simp only [batch_checkMaterial.l0] at H
      by_cases c32 : x50_2 < (l1_6.length : Int)
      ·rw [if_pos c32] at H
       have c32b0 : decide (x50_2 < (l1_6.length : Int)) = true := decide_eq_true c32
       clear c32
       by_cases c33 : 0 ≤ x50_2
       ·rw [if_pos c33] at H
        have c33b0 : decide (0 ≤ x50_2) = true := decide_eq_true c33
        clear c33
        by_cases c34 : x50_2 < (l1_6.length : Int)
        ·rw [if_pos c34] at H
         have c34b0 : decide (x50_2 < (l1_6.length : Int)) = true := decide_eq_true c34
         clear c34; replace H := Option.bind_eq_some_iff.mp H; obtain ⟨t127, A350, H⟩ := H
         try dsimp only at H
         have A35 := Sd.mk A350; clear A350
         by_cases c36 : t127 = true
         ·subst c36
          have H1 : (batch_checkMaterial.l0 k2 (wrap64 (x5_2 + ((rd_T27 l1_6 x50_2).f0))) l1_6 (l1_6.length : Int) (wrap64 (x50_2 + 1))) = some r := by rw [if_pos rfl] at H; exact H
          clear H; have H := H1; clear H1; have H' := Sd.mk H; clear H
          have p125 : 0 ≤ (x50_2 : Int) := tB
          have q125 : x50_2 < (l1_6.length : Int) := tB
          obtain ⟨ad125, e125, hx125_0, hx125_1⟩ := at_T27 HR1_6.out x50_2 p125 q125; cases e125; replace hx125_0 := cU HB hx125_0; replace hx125_1 := cU HB hx125_1; replace p125 := eq_true p125; replace q125 := eq_true q125
          go_wp2_with (first | ((with_reducible refine gate_dst (N := 7) rfl ?_); (try (refine gate_guard (by rfl) ?_; dsimp only)); refine box_event ?hg (N := 7) ?hd (cs := #[.int .i64 0, .int .i64 0]) (t := 27) ?hr ?_; (case hd => rfl); (case hg => rfl); (case hr => exact tG); intro gb126 hg w37 hbox hb; have BK126 := Sd.mk (hbox); have GW126 := Sd.mk (bSz hg (bBl HB.out)); have GE126 := Sd.mk (bSz hg (bBl HB.out)); replace HB := Sd.mk (below_step (bBl HB.out) hb); have NB118_126 := Sd.mk (bNl hg (bkA BK118.out)); have NB126_118 := Sd.mk (bNg hg (bkA BK118.out)); replace BK118 := Sd.mk (blk_below (bkA BK118.out) hb); have NB119_126 := Sd.mk (bNl hg (bkA BK119.out)); have NB126_119 := Sd.mk (bNg hg (bkA BK119.out)); replace BK119 := Sd.mk (blk_below (bkA BK119.out) hb); clear hb hbox hg; have hnb38 := NB126_118.out; have hnc38 := NB118_126.out; have hnb39 := NB126_119.out; have hnc39 := NB119_126.out; obtain ⟨u40_0, u40_1, o40_0, o40_1⟩ := bc2 (w := w37) BK126.out) | ((with_reducible refine gate_callee (f := 69) rfl ?_); refine goesL_ (some 55) rfl rfl Try.func69 (by kernel_rfl) rfl #[.agg #[.int .i64 ((rd_T27 l1_6 x50_2).f0), .int .i64 ((rd_T27 l1_6 x50_2).f1)], .int .i64 0, .int .i64 1000] rfl tM ?_; (with_reducible refine (batch_span.calls ((rd_T27 l1_6 x50_2).f0) ((rd_T27 l1_6 x50_2).f1) 0 1000 true _ A35.out).mono ?_); rintro e w41 ⟨rfl, hb⟩; refine ⟨_, rfl, ?_⟩; replace BK118 := Sd.mk (blk_below (g := gb118) (o := .cells #[.slice A0_0 l0_0.length c0_0, .slice A0_1 l0_1.length c0_1, .slice A0_2 l0_2.length c0_2, .slice A0_3 l0_3.length c0_3, .int .i64 a0_4, .int .i64 a0_5, .int .i64 a0_6] 29 (0, 0)) (by (with_reducible repeat (first | refine blk_drewN ?_ _ | refine blk_drew ?_ | refine blk_alloc ?_ _)); refine blk_far ?_ NB118_126.out _; (with_reducible repeat (first | refine blk_drewN ?_ _ | refine blk_drew ?_ | refine blk_alloc ?_ _)); refine blk_far ?_ NB118_126.out _; (with_reducible repeat (first | refine blk_drewN ?_ _ | refine blk_drew ?_ | refine blk_alloc ?_ _)); exact BK118.out) hb); replace BK119 := Sd.mk (blk_below (g := gb119) (o := .cells #[.string a1_0, .int .i64 a1_1, .int .i64 a1_2, .int .i64 a1_3, .int .i64 a1_4, .int .i64 a1_5, .slice (some ad125) l1_6.length c1_6] 63 (0, 0)) (by (with_reducible repeat (first | refine blk_drewN ?_ _ | refine blk_drew ?_ | refine blk_alloc ?_ _)); refine blk_far ?_ NB119_126.out _; (with_reducible repeat (first | refine blk_drewN ?_ _ | refine blk_drew ?_ | refine blk_alloc ?_ _)); refine blk_far ?_ NB119_126.out _; (with_reducible repeat (first | refine blk_drewN ?_ _ | refine blk_drew ?_ | refine blk_alloc ?_ _)); exact BK119.out) hb); replace BK126 := Sd.mk (blk_below (g := gb126) (o := .cells #[.int .i64 ((rd_T27 l1_6 x50_2).f0), .int .i64 ((rd_T27 l1_6 x50_2).f1)] 27 (0, 0)) (by (with_reducible repeat (first | refine blk_drewN ?_ _ | refine blk_drew ?_ | refine blk_alloc ?_ _)); refine blk_put (cs := #[.int .i64 ((rd_T27 l1_6 x50_2).f0), .int .i64 0]) ?_ 1 _ rfl; (with_reducible repeat (first | refine blk_drewN ?_ _ | refine blk_drew ?_ | refine blk_alloc ?_ _)); refine blk_put (cs := #[.int .i64 0, .int .i64 0]) ?_ 0 _ rfl; (with_reducible repeat (first | refine blk_drewN ?_ _ | refine blk_drew ?_ | refine blk_alloc ?_ _)); exact BK126.out) hb); replace HB := Sd.mk (below_step (bBl HB.out) hb); (try clear hb); (try clear hb2); (try clear hk); (try clear hi); obtain ⟨u42_0, u42_1, o42_0, o42_1⟩ := bc2 (w := w41) BK126.out))
          go_roundg k2
          case measure => have := HJ2.out; have := HK2.out; omega
          case rel => exact ⟨(wrap64 (x5_2 + ((rd_T27 l1_6 x50_2).f0))), (wrap64 (x50_2 + 1)), tS, tS, H', ⟨by have := HJ2.out; have := HK2.out; omega⟩, ⟨bkA BK118.out⟩, ⟨bkA BK119.out⟩, ⟨bBl HB.out⟩⟩
         ·replace c36 := Bool.eq_false_iff.mpr c36
          subst c36
          have H1 : (some 1) = some r := by rw [if_neg (show ¬ (false = true) by decide)] at H; exact H
          clear H; have H := H1; clear H1; obtain rfl := Option.some.inj H
          have p125 : 0 ≤ (x50_2 : Int) := tB
          have q125 : x50_2 < (l1_6.length : Int) := tB
          obtain ⟨ad125, e125, hx125_0, hx125_1⟩ := at_T27 HR1_6.out x50_2 p125 q125; cases e125; replace hx125_0 := cU HB hx125_0; replace hx125_1 := cU HB hx125_1; replace p125 := eq_true p125; replace q125 := eq_true q125
          go_wp2_with (first | ((with_reducible refine gate_dst (N := 7) rfl ?_); (try (refine gate_guard (by rfl) ?_; dsimp only)); refine box_event ?hg (N := 7) ?hd (cs := #[.int .i64 0, .int .i64 0]) (t := 27) ?hr ?_; (case hd => rfl); (case hg => rfl); (case hr => exact tG); intro gb126 hg w43 hbox hb; have BK126 := Sd.mk (hbox); have GW126 := Sd.mk (bSz hg (bBl HB.out)); have GE126 := Sd.mk (bSz hg (bBl HB.out)); replace HB := Sd.mk (below_step (bBl HB.out) hb); have NB118_126 := Sd.mk (bNl hg (bkA BK118.out)); have NB126_118 := Sd.mk (bNg hg (bkA BK118.out)); replace BK118 := Sd.mk (blk_below (bkA BK118.out) hb); have NB119_126 := Sd.mk (bNl hg (bkA BK119.out)); have NB126_119 := Sd.mk (bNg hg (bkA BK119.out)); replace BK119 := Sd.mk (blk_below (bkA BK119.out) hb); clear hb hbox hg; have hnb44 := NB126_118.out; have hnc44 := NB118_126.out; have hnb45 := NB126_119.out; have hnc45 := NB119_126.out; obtain ⟨u46_0, u46_1, o46_0, o46_1⟩ := bc2 (w := w43) BK126.out) | ((with_reducible refine gate_callee (f := 69) rfl ?_); refine goesL_ (some 55) rfl rfl Try.func69 (by kernel_rfl) rfl #[.agg #[.int .i64 ((rd_T27 l1_6 x50_2).f0), .int .i64 ((rd_T27 l1_6 x50_2).f1)], .int .i64 0, .int .i64 1000] rfl tM ?_; (with_reducible refine (batch_span.calls ((rd_T27 l1_6 x50_2).f0) ((rd_T27 l1_6 x50_2).f1) 0 1000 false _ A35.out).mono ?_); rintro e w47 ⟨rfl, hb⟩; refine ⟨_, rfl, ?_⟩; replace BK118 := Sd.mk (blk_below (g := gb118) (o := .cells #[.slice A0_0 l0_0.length c0_0, .slice A0_1 l0_1.length c0_1, .slice A0_2 l0_2.length c0_2, .slice A0_3 l0_3.length c0_3, .int .i64 a0_4, .int .i64 a0_5, .int .i64 a0_6] 29 (0, 0)) (by (with_reducible repeat (first | refine blk_drewN ?_ _ | refine blk_drew ?_ | refine blk_alloc ?_ _)); refine blk_far ?_ NB118_126.out _; (with_reducible repeat (first | refine blk_drewN ?_ _ | refine blk_drew ?_ | refine blk_alloc ?_ _)); refine blk_far ?_ NB118_126.out _; (with_reducible repeat (first | refine blk_drewN ?_ _ | refine blk_drew ?_ | refine blk_alloc ?_ _)); exact BK118.out) hb); replace BK119 := Sd.mk (blk_below (g := gb119) (o := .cells #[.string a1_0, .int .i64 a1_1, .int .i64 a1_2, .int .i64 a1_3, .int .i64 a1_4, .int .i64 a1_5, .slice (some ad125) l1_6.length c1_6] 63 (0, 0)) (by (with_reducible repeat (first | refine blk_drewN ?_ _ | refine blk_drew ?_ | refine blk_alloc ?_ _)); refine blk_far ?_ NB119_126.out _; (with_reducible repeat (first | refine blk_drewN ?_ _ | refine blk_drew ?_ | refine blk_alloc ?_ _)); refine blk_far ?_ NB119_126.out _; (with_reducible repeat (first | refine blk_drewN ?_ _ | refine blk_drew ?_ | refine blk_alloc ?_ _)); exact BK119.out) hb); replace BK126 := Sd.mk (blk_below (g := gb126) (o := .cells #[.int .i64 ((rd_T27 l1_6 x50_2).f0), .int .i64 ((rd_T27 l1_6 x50_2).f1)] 27 (0, 0)) (by (with_reducible repeat (first | refine blk_drewN ?_ _ | refine blk_drew ?_ | refine blk_alloc ?_ _)); refine blk_put (cs := #[.int .i64 ((rd_T27 l1_6 x50_2).f0), .int .i64 0]) ?_ 1 _ rfl; (with_reducible repeat (first | refine blk_drewN ?_ _ | refine blk_drew ?_ | refine blk_alloc ?_ _)); refine blk_put (cs := #[.int .i64 0, .int .i64 0]) ?_ 0 _ rfl; (with_reducible repeat (first | refine blk_drewN ?_ _ | refine blk_drew ?_ | refine blk_alloc ?_ _)); exact BK126.out) hb); replace HB := Sd.mk (below_step (bBl HB.out) hb); (try clear hb); (try clear hb2); (try clear hk); (try clear hi)))
          go_ret
          exact ⟨tE, bBl HB.out⟩
        ·rw [if_neg c34] at H
         exact absurd H (by simp)
       ·rw [if_neg c33] at H
        exact absurd H (by simp)
      ·rw [if_neg c32] at H
       have c32b0 : decide (x50_2 < (l1_6.length : Int)) = false := decide_eq_false c32
       clear c32
       by_cases c48 : x5_2 > 1000
       ·rw [if_pos c48] at H
        have c48b0 : decide (1000 < x5_2) = true := decide_eq_true c48
        clear c48; obtain rfl := Option.some.inj H
        go_wp2
        go_ret
        exact ⟨tE, bBl HB.out⟩
       ·rw [if_neg c48] at H
        have c48b0 : decide (1000 < x5_2) = false := decide_eq_false c48
        clear c48; obtain rfl := Option.some.inj H
        go_wp2
        go_ret
        exact ⟨tE, bBl HB.out⟩
end Go.Proofs.Ytkjkokgbhepmoaa.PB

namespace Go.Proofs.Ytkjkokgbhepmoaa.PB
open Go.RowKit Go.Proofs.YtkjkokgbhepmoaaW.PrintWords Go.Proofs.YtkjkokgbhepmoaaW.PrintLast Go.Proofs.YtkjkokgbhepmoaaW.PrintMore
attribute [local go_sem] max2_int min2_int max_two min_two max_three min_three max_four min_four
end Go.Proofs.Ytkjkokgbhepmoaa.PB

namespace Go.Proofs.Ytkjkokgbhepmoaa.PB
open Go.RowKit Go.Proofs.YtkjkokgbhepmoaaW.PrintWords Go.Proofs.YtkjkokgbhepmoaaW.PrintLast Go.Proofs.YtkjkokgbhepmoaaW.PrintMore
attribute [local go_sem] max2_int min2_int max_two min_two max_three min_three max_four min_four
end Go.Proofs.Ytkjkokgbhepmoaa.PB

namespace Go.Proofs.Ytkjkokgbhepmoaa.PB
open Go.RowKit Go.Proofs.YtkjkokgbhepmoaaW.PrintWords Go.Proofs.YtkjkokgbhepmoaaW.PrintLast Go.Proofs.YtkjkokgbhepmoaaW.PrintMore
attribute [local go_sem] max2_int min2_int max_two min_two max_three min_three max_four min_four
end Go.Proofs.Ytkjkokgbhepmoaa.PB

namespace Go.Proofs.Ytkjkokgbhepmoaa.PB
open Go.RowKit Go.Proofs.YtkjkokgbhepmoaaW.PrintWords Go.Proofs.YtkjkokgbhepmoaaW.PrintLast Go.Proofs.YtkjkokgbhepmoaaW.PrintMore
attribute [local go_sem] max2_int min2_int max_two min_two max_three min_three max_four min_four
end Go.Proofs.Ytkjkokgbhepmoaa.PB

namespace Go.Proofs.Ytkjkokgbhepmoaa.PB
open Go.RowKit Go.Proofs.YtkjkokgbhepmoaaW.PrintWords Go.Proofs.YtkjkokgbhepmoaaW.PrintLast Go.Proofs.YtkjkokgbhepmoaaW.PrintMore
attribute [local go_sem] max2_int min2_int max_two min_two max_three min_three max_four min_four
def batch_checkOxides.l0 : Nat → List ByteArray → Int → Int → List ByteArray → List (S63) → List (S27) → List (S65) → Int → Int → Int → Option (Int)
 | 0, _, _, _, _, _, _, _, _, _, _ => none
 | k + 1, x16, x17, x18, x113q0, x113q1, x113q2, x113q3, x113q4, x113q5, x113q6 => if x18 < x17 then (if 0 ≤ x18 then (if x18 < (x16.length : Int) then ((batch_name.f k (rdOf ByteArray.empty x16 x18)).bind fun t114 => (if t114 = true then (if x18 ≤ (x113q0.length : Int) then ((slices_Contains_string_string.f k (x113q0.take (x18 : Int).toNat) (rdOf ByteArray.empty x16 x18)).bind fun t116 => (if t116 = true then (some 6) else (batch_checkOxides.l0 k x16 x17 (wrap64 (x18 + 1)) x113q0 x113q1 x113q2 x113q3 x113q4 x113q5 x113q6))) else (none)) else (some 5))) else (none)) else (none)) else (some 0)
def batch_checkOxides.f (k : Nat) (l0_0 : List ByteArray) (l0_1 : List (S63)) (l0_2 : List (S27)) (l0_3 : List (S65)) (a0_4 : Int) (a0_5 : Int) (a0_6 : Int) : Option (Int) := if (l0_0.length : Int) > 12 then (some 3) else (if (l0_0.length : Int) = 0 then (some 1) else (batch_checkOxides.l0 k l0_0 (l0_0.length : Int) 0 l0_0 l0_1 l0_2 l0_3 a0_4 a0_5 a0_6))
set_option maxHeartbeats 8000000 in
set_option maxRecDepth 100000 in
theorem batch_checkOxides.calls (k : Nat) (A0_0 : Option Addr) (c0_0 : Nat) (l0_0 : List ByteArray) (A0_1 : Option Addr) (c0_1 : Nat) (l0_1 : List (S63)) (A0_2 : Option Addr) (c0_2 : Nat) (l0_2 : List (S27)) (A0_3 : Option Addr) (c0_3 : Nat) (l0_3 : List (S65)) (a0_4 : Int) (a0_5 : Int) (a0_6 : Int) (r : Int) (w : World) (hr0_0 : Kd.C Kd.string w A0_0 l0_0.length l0_0) (hc0_0 : l0_0.length ≤ c0_0) (hr0_1 : Kd.C k63 w A0_1 l0_1.length l0_1) (hc0_1 : l0_1.length ≤ c0_1) (hr0_2 : Kd.C k27 w A0_2 l0_2.length l0_2) (hc0_2 : l0_2.length ≤ c0_2) (hr0_3 : Kd.C k65 w A0_3 l0_3.length l0_3) (hc0_3 : l0_3.length ≤ c0_3) (h : batch_checkOxides.f k l0_0 l0_1 l0_2 l0_3 a0_4 a0_5 a0_6 = some r) :
  Calls Try.prog 65 #[.agg #[.slice A0_0 l0_0.length c0_0, .slice A0_1 l0_1.length c0_1, .slice A0_2 l0_2.length c0_2, .slice A0_3 l0_3.length c0_3, .int .i64 a0_4, .int .i64 a0_5, .int .i64 a0_6]] w fun e w' => e = .returned (.int .i64 r) ∧ Below w.heap.size w w' := by
 have hu29 := Try.underlying29; have HR0_0 := Sd.mk hr0_0; have HC0_0 := Sd.mk hc0_0; clear hr0_0 hc0_0; have HR0_1 := Sd.mk hr0_1; have HC0_1 := Sd.mk hc0_1; clear hr0_1 hc0_1; have HR0_2 := Sd.mk hr0_2; have HC0_2 := Sd.mk hc0_2; clear hr0_2 hc0_2; have HR0_3 := Sd.mk hr0_3; have HC0_3 := Sd.mk hc0_3; clear hr0_3 hc0_3; have HB := Sd.mk (Below.refl w.heap.size w)
 have H : (if (l0_0.length : Int) > 12 then (some 3) else (if (l0_0.length : Int) = 0 then (some 1) else (batch_checkOxides.l0 k l0_0 (l0_0.length : Int) 0 l0_0 l0_1 l0_2 l0_3 a0_4 a0_5 a0_6))) = some r := h
 clear h
 by_cases c2 : (l0_0.length : Int) > 12
 ·rw [if_pos c2] at H
  have c2b0 : decide (12 < (l0_0.length : Int)) = true := decide_eq_true c2
  have c2b1 : decide (12 < l0_0.length) = true := decide_eq_true (by omega)
  clear c2; obtain rfl := Option.some.inj H
  go_enter Try.func65, Try.ntmps65
  go_wp2_with (first | ((with_reducible refine gate_dst (N := 1) rfl ?_); refine box_event ?hg (N := 1) ?hd (cs := #[.slice A0_0 l0_0.length c0_0, .slice A0_1 l0_1.length c0_1, .slice A0_2 l0_2.length c0_2, .slice A0_3 l0_3.length c0_3, .int .i64 a0_4, .int .i64 a0_5, .int .i64 a0_6]) (t := 29) ?hr ?_; (case hd => rfl); (case hg => rfl); (case hr => exact tG); intro gb112 hg w3 hbox hb; have BK112 := Sd.mk (hbox); have GW112 := Sd.mk (bSz hg (bBl HB.out)); have GE112 := Sd.mk (bSz hg (bBl HB.out)); replace HB := Sd.mk (below_step (bBl HB.out) hb); clear hb hbox hg; obtain ⟨u4_0, u4_1, u4_2, u4_3, u4_4, u4_5, u4_6, o4_0, o4_1, o4_2, o4_3, o4_4, o4_5, o4_6⟩ := bc7 (w := w3) BK112.out))
  go_ret
  exact ⟨tE, bBl HB.out⟩
 ·rw [if_neg c2] at H
  have c2b0 : decide (12 < (l0_0.length : Int)) = false := decide_eq_false c2
  have c2b1 : decide (12 < l0_0.length) = false := decide_eq_false (by omega)
  clear c2
  by_cases c5 : (l0_0.length : Int) = 0
  ·rw [if_pos c5] at H
   have c5b0 : ((l0_0.length : Int) == 0) = true := beq_iff_eq.mpr c5
   have c5b1 : ((l0_0.length : Int) != 0) = false := bne_eq_false_iff_eq.mpr c5
   clear c5; obtain rfl := Option.some.inj H
   go_enter Try.func65, Try.ntmps65
   go_wp2_with (first | ((with_reducible refine gate_dst (N := 1) rfl ?_); refine box_event ?hg (N := 1) ?hd (cs := #[.slice A0_0 l0_0.length c0_0, .slice A0_1 l0_1.length c0_1, .slice A0_2 l0_2.length c0_2, .slice A0_3 l0_3.length c0_3, .int .i64 a0_4, .int .i64 a0_5, .int .i64 a0_6]) (t := 29) ?hr ?_; (case hd => rfl); (case hg => rfl); (case hr => exact tG); intro gb112 hg w6 hbox hb; have BK112 := Sd.mk (hbox); have GW112 := Sd.mk (bSz hg (bBl HB.out)); have GE112 := Sd.mk (bSz hg (bBl HB.out)); replace HB := Sd.mk (below_step (bBl HB.out) hb); clear hb hbox hg; obtain ⟨u7_0, u7_1, u7_2, u7_3, u7_4, u7_5, u7_6, o7_0, o7_1, o7_2, o7_3, o7_4, o7_5, o7_6⟩ := bc7 (w := w6) BK112.out))
   go_ret
   exact ⟨tE, bBl HB.out⟩
  ·rw [if_neg c5] at H
   have c5b0 : ((l0_0.length : Int) == 0) = false := beq_eq_false_iff_ne.mpr c5
   have c5b1 : ((l0_0.length : Int) != 0) = true := bne_iff_ne.mpr c5
   have c5b2 : ¬ (l0_0 = []) := fun h_ => c5 (by rw [h_]; rfl)
   have H' := Sd.mk H; clear H
   go_enter Try.func65, Try.ntmps65
   go_wp2_with (first | ((with_reducible refine gate_dst (N := 1) rfl ?_); refine box_event ?hg (N := 1) ?hd (cs := #[.slice A0_0 l0_0.length c0_0, .slice A0_1 l0_1.length c0_1, .slice A0_2 l0_2.length c0_2, .slice A0_3 l0_3.length c0_3, .int .i64 a0_4, .int .i64 a0_5, .int .i64 a0_6]) (t := 29) ?hr ?_; (case hd => rfl); (case hg => rfl); (case hr => exact tG); intro gb112 hg w8 hbox hb; have BK112 := Sd.mk (hbox); have GW112 := Sd.mk (bSz hg (bBl HB.out)); have GE112 := Sd.mk (bSz hg (bBl HB.out)); replace HB := Sd.mk (below_step (bBl HB.out) hb); clear hb hbox hg; obtain ⟨u9_0, u9_1, u9_2, u9_3, u9_4, u9_5, u9_6, o9_0, o9_1, o9_2, o9_3, o9_4, o9_5, o9_6⟩ := bc7 (w := w8) BK112.out))
   go_loopg [18] k (fun kq v18 w' => ∃ (x18_1 : Int), v18 = .int .i64 x18_1 ∧ Sd (batch_checkOxides.l0 kq l0_0 (l0_0.length : Int) x18_1 l0_0 l0_1 l0_2 l0_3 a0_4 a0_5 a0_6 = some r) ∧ Sd (kq ≤ k) ∧ Sd (w'.heap[gb112]? = some (.cells #[(.slice A0_0 l0_0.length c0_0), (.slice A0_1 l0_1.length c0_1), (.slice A0_2 l0_2.length c0_2), (.slice A0_3 l0_3.length c0_3), .int .i64 a0_4, .int .i64 a0_5, .int .i64 a0_6] 29 (0, 0))) ∧ Sd (Below w.heap.size w w'))
   case atStart => exact ⟨(0), tS, H', ⟨Nat.le_refl _⟩, ⟨bkA BK112.out⟩, ⟨bBl HB.out⟩⟩
   case round =>
    clear H'; (try clear c2); (try clear c2b0); (try clear c2b1); (try clear p2); (try clear c5); (try clear c5b0); (try clear c5b1); (try clear c5b2); (try clear c6); (try clear u4_0 u4_1 u4_2 u4_3 u4_4 u4_5 u4_6); (try clear u7_0 u7_1 u7_2 u7_3 u7_4 u7_5 u7_6); (try clear u9_0 u9_1 u9_2 u9_3 u9_4 u9_5 u9_6); (try clear o4_0 o4_1 o4_2 o4_3 o4_4 o4_5 o4_6); (try clear o7_0 o7_1 o7_2 o7_3 o7_4 o7_5 o7_6); (try clear o9_0 o9_1 o9_2 o9_3 o9_4 o9_5 o9_6); obtain ⟨x18_1, rfl, HA, HK1, BK112, HB⟩ := hrel
    cases gk with
    | zero => exact absurd HA.out (by simp [batch_checkOxides.l0])
    | succ k1 =>
     have H := HA.out; clear HA
     simp only [batch_checkOxides.l0] at H
     by_cases c10 : x18_1 < (l0_0.length : Int)
     ·rw [if_pos c10] at H
      have c10b0 : decide (x18_1 < (l0_0.length : Int)) = true := decide_eq_true c10
      clear c10
      by_cases c11 : 0 ≤ x18_1
      ·rw [if_pos c11] at H
       have c11b0 : decide (0 ≤ x18_1) = true := decide_eq_true c11
       clear c11
       by_cases c12 : x18_1 < (l0_0.length : Int)
       ·rw [if_pos c12] at H
        have c12b0 : decide (x18_1 < (l0_0.length : Int)) = true := decide_eq_true c12
        clear c12; replace H := Option.bind_eq_some_iff.mp H; obtain ⟨t114, A130, H⟩ := H
        try dsimp only at H
        have A13 := Sd.mk A130; clear A130
        by_cases c14 : t114 = true
        ·subst c14
         have H1 : (if x18_1 ≤ (l0_0.length : Int) then ((slices_Contains_string_string.f k1 (l0_0.take (x18_1 : Int).toNat) (rdOf ByteArray.empty l0_0 x18_1)).bind fun t116 => (if t116 = true then (some 6) else (batch_checkOxides.l0 k1 l0_0 (l0_0.length : Int) (wrap64 (x18_1 + 1)) l0_0 l0_1 l0_2 l0_3 a0_4 a0_5 a0_6))) else (none)) = some r := by rw [if_pos rfl] at H; exact H
         clear H; have H := H1; clear H1; have c15b0 := eq_true (tB : 0 ≤ x18_1)
         by_cases c16 : x18_1 ≤ (l0_0.length : Int)
         ·rw [if_pos c16] at H
          have c16b0 := eq_true c16
          have c16b1 : decide (x18_1 ≤ (l0_0.length : Int)) = true := decide_eq_true c16
          clear c16; replace H := Option.bind_eq_some_iff.mp H; obtain ⟨t116, A170, H⟩ := H
          try dsimp only at H
          have A17 := Sd.mk A170; clear A170
          by_cases c18 : t116 = true
          ·subst c18
           have H1 : (some 6) = some r := by rw [if_pos rfl] at H; exact H
           clear H; have H := H1; clear H1; obtain rfl := Option.some.inj H
           have p113 : 0 ≤ (x18_1 : Int) := tB
           have q113 : x18_1 < (l0_0.length : Int) := tB
           obtain ⟨ad113, e113, hx113_0⟩ := Kd.at_string HR0_0.out x18_1 p113 q113; cases e113; replace hx113_0 := cU HB hx113_0; replace p113 := eq_true p113; replace q113 := eq_true q113
           go_wp2_with (first | ((with_reducible refine gate_callee (f := 70) rfl ?_); refine goesL_ (some 25) rfl rfl Try.func70 (by kernel_rfl) rfl #[.string (rdOf ByteArray.empty l0_0 x18_1)] rfl tM ?_; (with_reducible refine (batch_name.calls k1 (rdOf ByteArray.empty l0_0 x18_1) true _ A13.out).mono ?_); rintro e w' ⟨rfl, ⟨nd, rfl⟩⟩; refine ⟨_, rfl, ?_⟩; obtain ⟨u19_0, u19_1, u19_2, u19_3, u19_4, u19_5, u19_6, o19_0, o19_1, o19_2, o19_3, o19_4, o19_5, o19_6⟩ := bc7 (w := wr) BK112.out; obtain ⟨i020, hi020, _, hsz20, _⟩ := info_parts info9; obtain ⟨hcut20, hA20, hC20⟩ := print_take_of (P := Try.prog) Value.string (⟨#[]⟩ : ByteArray) 22 9 .i64 Try.underlying22 hi020 hsz20 (some ad113) c0_0 l0_0 x18_1 (tB) (tB) HC0_0.out; have HR115 := Sd.mk (Kd.C_of_reads (h1 := fun _ => rfl) (hA20 _ (Kd.reads_of_C HR0_0.out))); have HC115 := Sd.mk hC20; clear hA20 hC20 hi020 hsz20) | ((with_reducible refine gate_callee (f := 127) rfl ?_); refine goesL_ (some 33) rfl rfl Try.func127 (by kernel_rfl) rfl #[.slice (some ad113) (l0_0.take (x18_1 : Int).toNat).length c0_0, .string (rdOf ByteArray.empty l0_0 x18_1)] rfl (by (try simp only [List.map_toArray, List.map_cons, List.map_nil]); first | done | (rw [show (l0_0.take (x18_1 : Int).toNat).length = x18_1.toNat from (by rw [List.length_take]; have h_ : (x18_1 : Int) ≤ (l0_0.length : Int) := tB; omega)] <;> rfl) | rfl | (simp only [List.length_drop, List.length_take]; rfl)) ?_; (with_reducible refine (slices_Contains_string_string.calls k1 _ _ (l0_0.take (x18_1 : Int).toNat) (rdOf ByteArray.empty l0_0 x18_1) true _ ?side1 ?side2 A17.out).mono ?_); (case side1 => exact cS (Kd.C_below HR115.out (bBl HB.out))); (case side2 => exact HC115.out); rintro e w' ⟨rfl, ⟨nd, rfl⟩⟩; refine ⟨_, rfl, ?_⟩))
           go_ret
           exact ⟨tE, bBl HB.out⟩
          ·replace c18 := Bool.eq_false_iff.mpr c18
           subst c18
           have H1 : (batch_checkOxides.l0 k1 l0_0 (l0_0.length : Int) (wrap64 (x18_1 + 1)) l0_0 l0_1 l0_2 l0_3 a0_4 a0_5 a0_6) = some r := by rw [if_neg (show ¬ (false = true) by decide)] at H; exact H
           clear H; have H := H1; clear H1; have H' := Sd.mk H; clear H
           have p113 : 0 ≤ (x18_1 : Int) := tB
           have q113 : x18_1 < (l0_0.length : Int) := tB
           obtain ⟨ad113, e113, hx113_0⟩ := Kd.at_string HR0_0.out x18_1 p113 q113; cases e113; replace hx113_0 := cU HB hx113_0; replace p113 := eq_true p113; replace q113 := eq_true q113
           go_wp2_with (first | ((with_reducible refine gate_callee (f := 70) rfl ?_); refine goesL_ (some 25) rfl rfl Try.func70 (by kernel_rfl) rfl #[.string (rdOf ByteArray.empty l0_0 x18_1)] rfl tM ?_; (with_reducible refine (batch_name.calls k1 (rdOf ByteArray.empty l0_0 x18_1) true _ A13.out).mono ?_); rintro e w' ⟨rfl, ⟨nd, rfl⟩⟩; refine ⟨_, rfl, ?_⟩; obtain ⟨u21_0, u21_1, u21_2, u21_3, u21_4, u21_5, u21_6, o21_0, o21_1, o21_2, o21_3, o21_4, o21_5, o21_6⟩ := bc7 (w := wr) BK112.out; obtain ⟨i022, hi022, _, hsz22, _⟩ := info_parts info9; obtain ⟨hcut22, hA22, hC22⟩ := print_take_of (P := Try.prog) Value.string (⟨#[]⟩ : ByteArray) 22 9 .i64 Try.underlying22 hi022 hsz22 (some ad113) c0_0 l0_0 x18_1 (tB) (tB) HC0_0.out; have HR115 := Sd.mk (Kd.C_of_reads (h1 := fun _ => rfl) (hA22 _ (Kd.reads_of_C HR0_0.out))); have HC115 := Sd.mk hC22; clear hA22 hC22 hi022 hsz22) | ((with_reducible refine gate_callee (f := 127) rfl ?_); refine goesL_ (some 33) rfl rfl Try.func127 (by kernel_rfl) rfl #[.slice (some ad113) (l0_0.take (x18_1 : Int).toNat).length c0_0, .string (rdOf ByteArray.empty l0_0 x18_1)] rfl (by (try simp only [List.map_toArray, List.map_cons, List.map_nil]); first | done | (rw [show (l0_0.take (x18_1 : Int).toNat).length = x18_1.toNat from (by rw [List.length_take]; have h_ : (x18_1 : Int) ≤ (l0_0.length : Int) := tB; omega)] <;> rfl) | rfl | (simp only [List.length_drop, List.length_take]; rfl)) ?_; (with_reducible refine (slices_Contains_string_string.calls k1 _ _ (l0_0.take (x18_1 : Int).toNat) (rdOf ByteArray.empty l0_0 x18_1) false _ ?side1 ?side2 A17.out).mono ?_); (case side1 => exact cS (Kd.C_below HR115.out (bBl HB.out))); (case side2 => exact HC115.out); rintro e w' ⟨rfl, ⟨nd, rfl⟩⟩; refine ⟨_, rfl, ?_⟩))
           go_roundg k1
           case measure => have := HK1.out; omega
           case rel => exact ⟨(wrap64 (x18_1 + 1)), tS, H', ⟨by have := HK1.out; omega⟩, ⟨bkA BK112.out⟩, ⟨bBl HB.out⟩⟩
         ·rw [if_neg c16] at H
          exact absurd H (by simp)
        ·replace c14 := Bool.eq_false_iff.mpr c14
         subst c14
         have H1 : (some 5) = some r := by rw [if_neg (show ¬ (false = true) by decide)] at H; exact H
         clear H; have H := H1; clear H1; obtain rfl := Option.some.inj H
         have p113 : 0 ≤ (x18_1 : Int) := tB
         have q113 : x18_1 < (l0_0.length : Int) := tB
         obtain ⟨ad113, e113, hx113_0⟩ := Kd.at_string HR0_0.out x18_1 p113 q113; cases e113; replace hx113_0 := cU HB hx113_0; replace p113 := eq_true p113; replace q113 := eq_true q113
         go_wp2_with (first | ((with_reducible refine gate_callee (f := 70) rfl ?_); refine goesL_ (some 25) rfl rfl Try.func70 (by kernel_rfl) rfl #[.string (rdOf ByteArray.empty l0_0 x18_1)] rfl tM ?_; (with_reducible refine (batch_name.calls k1 (rdOf ByteArray.empty l0_0 x18_1) false _ A13.out).mono ?_); rintro e w' ⟨rfl, ⟨nd, rfl⟩⟩; refine ⟨_, rfl, ?_⟩))
         go_ret
         exact ⟨tE, bBl HB.out⟩
       ·rw [if_neg c12] at H
        exact absurd H (by simp)
      ·rw [if_neg c11] at H
       exact absurd H (by simp)
     ·rw [if_neg c10] at H
      have c10b0 : decide (x18_1 < (l0_0.length : Int)) = false := decide_eq_false c10
      clear c10; obtain rfl := Option.some.inj H
      go_wp2
      go_ret
      exact ⟨tE, bBl HB.out⟩
end Go.Proofs.Ytkjkokgbhepmoaa.PB

namespace Go.Proofs.Ytkjkokgbhepmoaa.PB
open Go.RowKit Go.Proofs.YtkjkokgbhepmoaaW.PrintWords Go.Proofs.YtkjkokgbhepmoaaW.PrintLast Go.Proofs.YtkjkokgbhepmoaaW.PrintMore
def oxE (o : List ByteArray) : Nat → Nat → Int
  | 0, _ => 0
  | m + 1, i => if nameOk (rdOf ByteArray.empty o (i : Int)) = true then (if ((o.take i).any fun y => y.toList == (rdOf ByteArray.empty o (i : Int)).toList) = true then 6 else oxE o m (i + 1)) else 5
theorem i_pos (i : Nat) : 0 ≤ (i : Int) := by omega
section
variable (o : List ByteArray) (mt : List S63) (s : List S27) (p : List S65) (a4 a5 a6 : Int)
theorem box_l0 (ho : o.length ≤ 12) : ∀ (m i : Nat), i + m = o.length → Ev (fun k => batch_checkOxides.l0 k o (o.length : Int) (i : Int) o mt s p a4 a5 a6) (oxE o m i)
  | 0, i, hi => by
    apply Ev.step
    simp only [batch_checkOxides.l0, if_neg (show ¬ (i : Int) < (o.length : Int) by omega)]
    exact Ev.const _
  | m + 1, i, hi => by
    have ih := box_l0 ho m (i + 1) (by omega)
    apply Ev.step
    simp only [batch_checkOxides.l0, if_pos (show (i : Int) < (o.length : Int) by omega), if_pos (i_pos i), if_pos (show (i : Int) ≤ (o.length : Int) by omega), wrap_succ (i_pos i) (show (i : Int) ≤ 1000000000 by omega), Int.toNat_natCast]
    refine Ev.bind (bname _) ?_
    unfold oxE
    by_cases h : nameOk (rdOf ByteArray.empty o (i : Int)) = true
    · simp only [if_pos h]
      refine Ev.bind (bcontains _ _ (by simp; omega)) ?_
      by_cases h' : ((o.take i).any fun y => y.toList == (rdOf ByteArray.empty o (i : Int)).toList) = true
      · simp only [if_pos h']; exact Ev.const _
      · simp only [if_neg h']; exact ih
    · simp only [if_neg h]; exact Ev.const _
theorem box_f : Ev (fun k => batch_checkOxides.f k o mt s p a4 a5 a6) (if o.length > 12 then 3 else if o.length = 0 then 1 else oxE o o.length 0) := by
  unfold batch_checkOxides.f
  by_cases h : o.length > 12
  · simp only [if_pos h, if_pos (show (o.length : Int) > 12 by omega)]; exact Ev.const _
  · by_cases h' : o.length = 0
    · simp only [if_neg h, if_neg (show ¬ (o.length : Int) > 12 by omega), if_pos h', if_pos (show (o.length : Int) = 0 by omega)]; exact Ev.const _
    · simp only [if_neg h, if_neg (show ¬ (o.length : Int) > 12 by omega), if_neg h', if_neg (show ¬ (o.length : Int) = 0 by omega)]
      exact box_l0 o mt s p a4 a5 a6 (by omega) o.length 0 (by omega)
def conE (l : List S27) : Nat → Nat → Int → Int
  | 0, _, acc => if acc > 1000 then 12 else 0
  | m + 1, i, acc => if badSpan (rd_T27 l (i : Int)) = true then 1 else conE l m (i + 1) (acc + (rd_T27 l (i : Int)).f0)
def matC (n : Nat) (x : S63) : Int :=
  if (0 ≤ x.f1 ∧ x.f1 ≤ 10000) ∧ (-1000 ≤ x.f2 ∧ x.f2 ≤ 1000) ∧ (0 ≤ x.f3 ∧ x.f3 ≤ 10000) ∧ (x.f3 ≤ x.f4 ∧ x.f4 ≤ 10000) ∧ (1 ≤ x.f5 ∧ x.f5 ≤ 10000) ∧ x.f6.length = n then conE x.f6 x.f6.length 0 0 else 1
theorem span_bad (x : S27) : batch_span.f x.f0 x.f1 0 1000 = some (!badSpan x) := by
  rw [span_f]; unfold badSpan; simp
theorem bad_false {x : S27} (h : badSpan x = false) : 0 ≤ x.f0 ∧ x.f0 ≤ x.f1 ∧ x.f1 ≤ 1000 := by
  simp [badSpan] at h; omega
theorem bcon_l0 (l : List S27) (hl : l.length ≤ 12) : ∀ (m i : Nat) (acc : Int), i + m = l.length → 0 ≤ acc → acc ≤ 1000 * i → Ev (fun k => batch_checkMaterial.l0 k acc l (l.length : Int) (i : Int)) (conE l m i acc)
  | 0, i, acc, hi, h0, h1 => by
    apply Ev.step
    simp only [batch_checkMaterial.l0, if_neg (show ¬ (i : Int) < (l.length : Int) by omega)]
    unfold conE
    by_cases h : acc > 1000
    · simp only [if_pos h]; exact Ev.const _
    · simp only [if_neg h]; exact Ev.const _
  | m + 1, i, acc, hi, h0, h1 => by
    apply Ev.step
    simp only [batch_checkMaterial.l0, if_pos (show (i : Int) < (l.length : Int) by omega), if_pos (i_pos i), wrap_succ (i_pos i) (show (i : Int) ≤ 1000000000 by omega), span_bad, Option.bind_some]
    unfold conE
    by_cases h : badSpan (rd_T27 l (i : Int)) = true
    · simp only [h, Bool.not_true, Bool.false_eq_true, if_false, if_true]; exact Ev.const _
    · have hb := bad_false (Bool.not_eq_true _ ▸ h)
      have ih := bcon_l0 l hl m (i + 1) (acc + (rd_T27 l (i : Int)).f0) (by omega) (by omega) (by omega)
      simp only [h, Bool.not_false, Bool.false_eq_true, if_true, if_false, wrap_id (x := acc + (rd_T27 l (i : Int)).f0) (by omega) (by omega)]
      exact ih
theorem bmat (ho : o.length ≤ 12) (x : S63) : Ev (fun k => batch_checkMaterial.f k o mt s p a4 a5 a6 x.f0 x.f1 x.f2 x.f3 x.f4 x.f5 x.f6) (matC o.length x) := by
  have hj1 : Ev (fun k => batch_checkMaterial.j0 k true x.f0 x.f1 x.f2 x.f3 x.f4 x.f5 x.f6) 1 := by
    apply Ev.step; simp only [batch_checkMaterial.j0, if_true]; exact Ev.const _
  have hj0 : x.f6.length = o.length → Ev (fun k => batch_checkMaterial.j0 k false x.f0 x.f1 x.f2 x.f3 x.f4 x.f5 x.f6) (conE x.f6 x.f6.length 0 0) := by
    intro hh
    apply Ev.step; simp only [batch_checkMaterial.j0, Bool.false_eq_true, if_false]
    exact bcon_l0 x.f6 (by omega) x.f6.length 0 0 (by omega) (by omega) (by omega)
  unfold batch_checkMaterial.f
  simp only [within_f, Option.bind_some, Bool.and_eq_true, decide_eq_true_eq]
  unfold matC
  by_cases h1 : 0 ≤ x.f1 ∧ x.f1 ≤ 10000
  · by_cases h2 : -1000 ≤ x.f2 ∧ x.f2 ≤ 1000
    · by_cases h3 : 0 ≤ x.f3 ∧ x.f3 ≤ 10000
      · by_cases h4 : x.f3 ≤ x.f4 ∧ x.f4 ≤ 10000
        · by_cases h5 : 1 ≤ x.f5 ∧ x.f5 ≤ 10000
          · by_cases h6 : x.f6.length = o.length
            · simp only [if_pos h1, if_pos h2, if_pos h3, if_pos h4, if_pos h5, h1, h2, h3, h4, h5, h6, and_self, if_true, bne_self_eq_false]
              exact (hj0 h6).cast (by rw [h6])
            · have hb : ((x.f6.length : Int) != (o.length : Int)) = true := by simp; omega
              simp only [if_pos h1, if_pos h2, if_pos h3, if_pos h4, if_pos h5, hb]
              exact hj1.cast (by rw [if_neg (fun hh => h6 hh.2.2.2.2.2)])
          · simp only [if_pos h1, if_pos h2, if_pos h3, if_pos h4, if_neg h5]
            exact hj1.cast (by rw [if_neg (fun hh => h5 hh.2.2.2.2.1)])
        · simp only [if_pos h1, if_pos h2, if_pos h3, if_neg h4]
          exact hj1.cast (by rw [if_neg (fun hh => h4 hh.2.2.2.1)])
      · simp only [if_pos h1, if_pos h2, if_neg h3]
        exact hj1.cast (by rw [if_neg (fun hh => h3 hh.2.2.1)])
    · simp only [if_pos h1, if_neg h2]
      exact hj1.cast (by rw [if_neg (fun hh => h2 hh.2.1)])
  · simp only [if_neg h1]
    exact hj1.cast (by rw [if_neg (fun hh => h1 hh.1)])
end
end Go.Proofs.Ytkjkokgbhepmoaa.PB

namespace Go.Proofs.Ytkjkokgbhepmoaa.PB
open Go.RowKit Go.Proofs.YtkjkokgbhepmoaaW.PrintWords Go.Proofs.YtkjkokgbhepmoaaW.PrintLast Go.Proofs.YtkjkokgbhepmoaaW.PrintMore
theorem name_prop (s : ByteArray) (v1 v2 v3 : Value) (w : World) : Calls Try.prog 72 #[.agg #[.string s, v1, v2, v3]] w fun e w' => e = .returned (.string s) ∧ Below w.heap.size w w' := by
  go_enter Try.func72, Try.ntmps72
  go_wp2
  go_ret
  exact ⟨rfl, below_alloc (Below.refl _ _) _⟩
set_option maxHeartbeats 2000000 in
theorem same_prop (B1 B2 B3 : Nat) (A : Option Addr) (c : Nat) (l : List S65) (i : Int) (x : S65) (Ax : Option Addr) (cx : Nat) (W : World)
    (h1 : W.cell? ⟨B1, 0, none⟩ = some (.func (.func 72) #[] #[])) (h2 : W.cell? ⟨B2, 0, none⟩ = some (.slice A l.length c)) (h3 : W.cell? ⟨B3, 0, none⟩ = some (.int .i64 i))
    (hr : Kd.C k65 W A l.length l) (hi0 : 0 ≤ i) (hi1 : i < l.length) :
    Calls Try.prog 133 #[.agg #[.string x.f0, .slice Ax x.f1.length cx, .int .i64 x.f2.f0, .int .i64 x.f2.f1], .pointer (some ⟨B1, 0, none⟩), .pointer (some ⟨B2, 0, none⟩), .pointer (some ⟨B3, 0, none⟩)] W fun e W' => e = .returned (.bool (x.f0.toList == (rd_T65 l i).f0.toList)) ∧ Below W.heap.size W W' := by
  obtain ⟨ad, Ay, cy, e, hc0, hc1, hc2, hc3, _, _⟩ := at_T65 hr i hi0 hi1
  cases e
  generalize rd_T65 l i = y at hc0 hc1 hc2 hc3 ⊢
  have b1 := World.block_lt_of_cell? W _ h1
  have b2 := World.block_lt_of_cell? W _ h2
  have b3 := World.block_lt_of_cell? W _ h3
  have b4 := World.block_lt_of_cell? W _ hc0
  simp only at b1 b2 b3 b4
  go_enter Try.func133, Try.ntmps133
  go_wp2_with fail
  go_region_held3 (fun w' => w'.cell? ⟨B1, 0, none⟩ = some (.func (.func 72) #[] #[]) ∧ w'.cell? ⟨B2, 0, none⟩ = some (.slice (some ad) l.length c) ∧ w'.cell? ⟨B3, 0, none⟩ = some (.int .i64 i) ∧ w'.cell? ⟨W.heap.size, 0, none⟩ = some (.string x.f0) ∧ w'.cell? ⟨W.heap.size, 1, none⟩ = some (.slice Ax x.f1.length cx) ∧ w'.cell? ⟨W.heap.size, 2, none⟩ = some (.int .i64 x.f2.f0) ∧ w'.cell? ⟨W.heap.size, 3, none⟩ = some (.int .i64 x.f2.f1) ∧ w'.cell? (ad.add (i.toNat * 4)) = some (.string y.f0) ∧ w'.cell? ⟨(ad.add (i.toNat * 4)).block, (ad.add (i.toNat * 4)).off + 1, none⟩ = some (.slice Ay y.f1.length cy) ∧ w'.cell? ⟨(ad.add (i.toNat * 4)).block, (ad.add (i.toNat * 4)).off + 2, none⟩ = some (.int .i64 y.f2.f0) ∧ w'.cell? ⟨(ad.add (i.toNat * 4)).block, (ad.add (i.toNat * 4)).off + 3, none⟩ = some (.int .i64 y.f2.f1)) (first | (simp [*, go_sem]; done) | (go_split_ands; refine ⟨?_, ?_, ?_, ?_, ?_, ?_, ?_, ?_, ?_, ?_, ?_⟩ <;> first | assumption | exact pw_cell_below hb (by assumption)))
    (first | (go_at_call 72; refine (name_prop _ _ _ _ _).mono ?_; rintro e w' ⟨rfl, hb⟩))
  all_goals
    go_wp2
    go_ret
    refine ⟨rfl, ?_⟩
    repeat (first | exact below_drew (below_alloc (Below.refl _ _) _) | refine below_trans' ?_ (by assumption))
def x_twiceP.f (l : List S65) (i : Int) : Option Bool := if 0 ≤ i then if i < l.length then some ((l.take i.toNat).any fun x => x.f0.toList == (rd_T65 l i).f0.toList) else none else none
set_option maxHeartbeats 1000000 in
theorem x_twiceP.calls (A0 : Option Addr) (c0 : Nat) (l0 : List S65) (a1 : Int) (r : Bool) (w : World) (hr0 : Kd.C k65 w A0 l0.length l0) (hc0 : l0.length ≤ c0) (h : x_twiceP.f l0 a1 = some r) :
    Calls Try.prog 71 #[.slice A0 l0.length c0, .int .i64 a1, .func (.func 72) #[] #[]] w fun e w' => e = .returned (.bool r) ∧ Below w.heap.size w w' := by
  unfold x_twiceP.f at h
  by_cases hi0 : 0 ≤ a1
  · rw [if_pos hi0] at h
    by_cases hi1 : a1 < l0.length
    · rw [if_pos hi1] at h
      have HR := Sd.mk (Option.some.inj h)
      have HC := Sd.mk hr0
      clear h hr0
      obtain ⟨i, rfl⟩ := Int.eq_ofNat_of_zero_le hi0
      have hi2 : i < l0.length := by omega
      have hi3 : ¬ (i : Int) > (c0 : Int) := by omega
      have hlen : (l0.take i).length = i := by simp; omega
      have HL := Sd.mk hlen
      have HK := fun (W : World) (B1 B2 B3 : Nat) (h1 : W.cell? ⟨B1, 0, none⟩ = some (.func (.func 72) #[] #[])) (h2 : W.cell? ⟨B2, 0, none⟩ = some (.slice A0 l0.length c0)) (h3 : W.cell? ⟨B3, 0, none⟩ = some (.int .i64 (i : Int))) (hb : Below w.heap.size w W) =>
        containsFunc_prop (fun x => x.f0.toList == (rd_T65 l0 (i : Int)).f0.toList) 133 #[.pointer (some ⟨B1, 0, none⟩), .pointer (some ⟨B2, 0, none⟩), .pointer (some ⟨B3, 0, none⟩)] (enters_of Try.func133 (by kernel_rfl) rfl)
          A0 c0 (l0.take i) W (Kd.C_below (Kd.C_take HC.out (by omega)) hb)
          (fun x _ Ax cx W' hb' => same_prop B1 B2 B3 A0 c0 l0 (i : Int) x Ax cx W' (pw_cell_below hb' h1) (pw_cell_below hb' h2) (pw_cell_below hb' h3) (Kd.C_below (Kd.C_below HC.out hb) hb') hi0 hi1)
      have HK' := Sd.mk HK
      clear HK hlen
      go_enter Try.func71, Try.ntmps71
      go_wp2_with fail
      have hc := HK'.out (((w.alloc (.cells #[.slice A0 l0.length c0] 25)).alloc (.cells #[.int .i64 (i : Int)] 3)).alloc (.cells #[.func (.func 72) #[] #[]] 120)) (w.heap.size + 1 + 1) w.heap.size (w.heap.size + 1) (by simp [go_sem]) (by simp [go_sem]) (by simp [go_sem]) (below_alloc (below_alloc (below_alloc (Below.refl _ _) _) _) _)
      rw [HL.out] at hc
      refine hc.mono ?_
      clear hc HK'
      rintro e w1 ⟨rfl, hb⟩
      go_wp2
      go_ret
      exact ⟨by rw [← HR.out]; rfl, below_trans' (below_alloc (below_alloc (below_alloc (Below.refl _ _) _) _) _) hb⟩
    · rw [if_neg hi1] at h; cases h
  · rw [if_neg hi0] at h; cases h
theorem name_mat (s : ByteArray) (v1 v2 v3 v4 v5 v6 : Value) (w : World) : Calls Try.prog 129 #[.agg #[.string s, v1, v2, v3, v4, v5, v6]] w fun e w' => e = .returned (.string s) ∧ Below w.heap.size w w' := by
  go_enter Try.func129, Try.ntmps129
  go_wp2
  go_ret
  exact ⟨rfl, below_alloc (Below.refl _ _) _⟩
set_option maxHeartbeats 2000000 in
theorem same_mat (B1 B2 B3 : Nat) (A : Option Addr) (c : Nat) (l : List S63) (i : Int) (x : S63) (Ax : Option Addr) (cx : Nat) (W : World)
    (h1 : W.cell? ⟨B1, 0, none⟩ = some (.func (.func 129) #[] #[])) (h2 : W.cell? ⟨B2, 0, none⟩ = some (.slice A l.length c)) (h3 : W.cell? ⟨B3, 0, none⟩ = some (.int .i64 i))
    (hr : Kd.C k63 W A l.length l) (hi0 : 0 ≤ i) (hi1 : i < l.length) :
    Calls Try.prog 156 #[.agg #[.string x.f0, .int .i64 x.f1, .int .i64 x.f2, .int .i64 x.f3, .int .i64 x.f4, .int .i64 x.f5, .slice Ax x.f6.length cx], .pointer (some ⟨B1, 0, none⟩), .pointer (some ⟨B2, 0, none⟩), .pointer (some ⟨B3, 0, none⟩)] W fun e W' => e = .returned (.bool (x.f0.toList == (rd_T63 l i).f0.toList)) ∧ Below W.heap.size W W' := by
  obtain ⟨ad, Ay, cy, e, hc0, hc1, hc2, hc3, hc4, hc5, hc6, _, _⟩ := at_T63 hr i hi0 hi1
  cases e
  generalize rd_T63 l i = y at hc0 hc1 hc2 hc3 hc4 hc5 hc6 ⊢
  have b1 := World.block_lt_of_cell? W _ h1
  have b2 := World.block_lt_of_cell? W _ h2
  have b3 := World.block_lt_of_cell? W _ h3
  have b4 := World.block_lt_of_cell? W _ hc0
  simp only at b1 b2 b3 b4
  go_enter Try.func156, Try.ntmps156
  go_wp2_with fail
  go_region_held3 (fun w' => w'.cell? ⟨B1, 0, none⟩ = some (.func (.func 129) #[] #[]) ∧ w'.cell? ⟨B2, 0, none⟩ = some (.slice (some ad) l.length c) ∧ w'.cell? ⟨B3, 0, none⟩ = some (.int .i64 i) ∧ w'.cell? ⟨W.heap.size, 0, none⟩ = some (.string x.f0) ∧ w'.cell? ⟨W.heap.size, 1, none⟩ = some (.int .i64 x.f1) ∧ w'.cell? ⟨W.heap.size, 2, none⟩ = some (.int .i64 x.f2) ∧ w'.cell? ⟨W.heap.size, 3, none⟩ = some (.int .i64 x.f3) ∧ w'.cell? ⟨W.heap.size, 4, none⟩ = some (.int .i64 x.f4) ∧ w'.cell? ⟨W.heap.size, 5, none⟩ = some (.int .i64 x.f5) ∧ w'.cell? ⟨W.heap.size, 6, none⟩ = some (.slice Ax x.f6.length cx) ∧ w'.cell? (ad.add (i.toNat * 7)) = some (.string y.f0) ∧ w'.cell? ⟨(ad.add (i.toNat * 7)).block, (ad.add (i.toNat * 7)).off + 1, none⟩ = some (.int .i64 y.f1) ∧ w'.cell? ⟨(ad.add (i.toNat * 7)).block, (ad.add (i.toNat * 7)).off + 2, none⟩ = some (.int .i64 y.f2) ∧ w'.cell? ⟨(ad.add (i.toNat * 7)).block, (ad.add (i.toNat * 7)).off + 3, none⟩ = some (.int .i64 y.f3) ∧ w'.cell? ⟨(ad.add (i.toNat * 7)).block, (ad.add (i.toNat * 7)).off + 4, none⟩ = some (.int .i64 y.f4) ∧ w'.cell? ⟨(ad.add (i.toNat * 7)).block, (ad.add (i.toNat * 7)).off + 5, none⟩ = some (.int .i64 y.f5) ∧ w'.cell? ⟨(ad.add (i.toNat * 7)).block, (ad.add (i.toNat * 7)).off + 6, none⟩ = some (.slice Ay y.f6.length cy)) (first | (simp [*, go_sem]; done) | (go_split_ands; refine ⟨?_, ?_, ?_, ?_, ?_, ?_, ?_, ?_, ?_, ?_, ?_, ?_, ?_, ?_, ?_, ?_, ?_⟩ <;> first | assumption | exact pw_cell_below hb (by assumption)))
    (first | (go_at_call 129; refine (name_mat _ _ _ _ _ _ _ _).mono ?_; rintro e w' ⟨rfl, hb⟩))
  all_goals
    go_wp2
    go_ret
    refine ⟨rfl, ?_⟩
    repeat (first | exact below_drew (below_alloc (Below.refl _ _) _) | refine below_trans' ?_ (by assumption))
def x_twiceM.f (l : List S63) (i : Int) : Option Bool := if 0 ≤ i then if i < l.length then some ((l.take i.toNat).any fun x => x.f0.toList == (rd_T63 l i).f0.toList) else none else none
set_option maxHeartbeats 1000000 in
theorem x_twiceM.calls (A0 : Option Addr) (c0 : Nat) (l0 : List S63) (a1 : Int) (r : Bool) (w : World) (hr0 : Kd.C k63 w A0 l0.length l0) (hc0 : l0.length ≤ c0) (h : x_twiceM.f l0 a1 = some r) :
    Calls Try.prog 128 #[.slice A0 l0.length c0, .int .i64 a1, .func (.func 129) #[] #[]] w fun e w' => e = .returned (.bool r) ∧ Below w.heap.size w w' := by
  unfold x_twiceM.f at h
  by_cases hi0 : 0 ≤ a1
  · rw [if_pos hi0] at h
    by_cases hi1 : a1 < l0.length
    · rw [if_pos hi1] at h
      have HR := Sd.mk (Option.some.inj h)
      have HC := Sd.mk hr0
      clear h hr0
      obtain ⟨i, rfl⟩ := Int.eq_ofNat_of_zero_le hi0
      have hi2 : i < l0.length := by omega
      have hi3 : ¬ (i : Int) > (c0 : Int) := by omega
      have hlen : (l0.take i).length = i := by simp; omega
      have HL := Sd.mk hlen
      have HK := fun (W : World) (B1 B2 B3 : Nat) (h1 : W.cell? ⟨B1, 0, none⟩ = some (.func (.func 129) #[] #[])) (h2 : W.cell? ⟨B2, 0, none⟩ = some (.slice A0 l0.length c0)) (h3 : W.cell? ⟨B3, 0, none⟩ = some (.int .i64 (i : Int))) (hb : Below w.heap.size w W) =>
        containsFunc_mat (fun x => x.f0.toList == (rd_T63 l0 (i : Int)).f0.toList) 156 #[.pointer (some ⟨B1, 0, none⟩), .pointer (some ⟨B2, 0, none⟩), .pointer (some ⟨B3, 0, none⟩)] (enters_of Try.func156 (by kernel_rfl) rfl)
          A0 c0 (l0.take i) W (Kd.C_below (Kd.C_take HC.out (by omega)) hb)
          (fun x _ Ax cx W' hb' => same_mat B1 B2 B3 A0 c0 l0 (i : Int) x Ax cx W' (pw_cell_below hb' h1) (pw_cell_below hb' h2) (pw_cell_below hb' h3) (Kd.C_below (Kd.C_below HC.out hb) hb') hi0 hi1)
      have HK' := Sd.mk HK
      clear HK hlen
      go_enter Try.func128, Try.ntmps128
      go_wp2_with fail
      have hc := HK'.out (((w.alloc (.cells #[.slice A0 l0.length c0] 23)).alloc (.cells #[.int .i64 (i : Int)] 3)).alloc (.cells #[.func (.func 129) #[] #[]] 156)) (w.heap.size + 1 + 1) w.heap.size (w.heap.size + 1) (by simp [go_sem]) (by simp [go_sem]) (by simp [go_sem]) (below_alloc (below_alloc (below_alloc (Below.refl _ _) _) _) _)
      rw [HL.out] at hc
      refine hc.mono ?_
      clear hc HK'
      rintro e w1 ⟨rfl, hb⟩
      go_wp2
      go_ret
      exact ⟨by rw [← HR.out]; rfl, below_trans' (below_alloc (below_alloc (below_alloc (Below.refl _ _) _) _) _) hb⟩
    · rw [if_neg hi1] at h; cases h
  · rw [if_neg hi0] at h; cases h
end Go.Proofs.Ytkjkokgbhepmoaa.PB

namespace Go.Proofs.Ytkjkokgbhepmoaa.PB
open Go.RowKit Go.Proofs.YtkjkokgbhepmoaaW.PrintWords Go.Proofs.YtkjkokgbhepmoaaW.PrintLast Go.Proofs.YtkjkokgbhepmoaaW.PrintMore
attribute [local go_sem] max2_int min2_int max_two min_two max_three min_three max_four min_four
def batch_checkMaterials.l0 : Nat → List (S63) → Int → Int → List ByteArray → List (S63) → List (S27) → List (S65) → Int → Int → Int → Option (Int)
 | 0, _, _, _, _, _, _, _, _, _, _ => none
 | k + 1, x17, x18, x19, x129q0, x129q1, x129q2, x129q3, x129q4, x129q5, x129q6 => if x19 < x18 then (if 0 ≤ x19 then (if x19 < (x17.length : Int) then ((batch_name.f k ((rd_T63 x17 x19).f0)).bind fun t131 => (if t131 = true then ((x_twiceM.f x129q1 x19).bind fun t132 => (if t132 = true then (some 6) else ((batch_checkMaterial.f k x129q0 x129q1 x129q2 x129q3 x129q4 x129q5 x129q6 ((rd_T63 x17 x19).f0) ((rd_T63 x17 x19).f1) ((rd_T63 x17 x19).f2) ((rd_T63 x17 x19).f3) ((rd_T63 x17 x19).f4) ((rd_T63 x17 x19).f5) ((rd_T63 x17 x19).f6)).bind fun t133 => (if t133 = 0 then (batch_checkMaterials.l0 k x17 x18 (wrap64 (x19 + 1)) x129q0 x129q1 x129q2 x129q3 x129q4 x129q5 x129q6) else (some t133))))) else (some 5))) else (none)) else (none)) else (some 0)
def batch_checkMaterials.f (k : Nat) (l0_0 : List ByteArray) (l0_1 : List (S63)) (l0_2 : List (S27)) (l0_3 : List (S65)) (a0_4 : Int) (a0_5 : Int) (a0_6 : Int) : Option (Int) := if (l0_1.length : Int) > 12 then (some 3) else (if (l0_1.length : Int) = 0 then (some 1) else (batch_checkMaterials.l0 k l0_1 (l0_1.length : Int) 0 l0_0 l0_1 l0_2 l0_3 a0_4 a0_5 a0_6))
set_option maxHeartbeats 8000000 in
set_option maxRecDepth 100000 in
theorem batch_checkMaterials.calls (k : Nat) (A0_0 : Option Addr) (c0_0 : Nat) (l0_0 : List ByteArray) (A0_1 : Option Addr) (c0_1 : Nat) (l0_1 : List (S63)) (A0_2 : Option Addr) (c0_2 : Nat) (l0_2 : List (S27)) (A0_3 : Option Addr) (c0_3 : Nat) (l0_3 : List (S65)) (a0_4 : Int) (a0_5 : Int) (a0_6 : Int) (r : Int) (w : World) (hr0_0 : Kd.C Kd.string w A0_0 l0_0.length l0_0) (hc0_0 : l0_0.length ≤ c0_0) (hr0_1 : Kd.C k63 w A0_1 l0_1.length l0_1) (hc0_1 : l0_1.length ≤ c0_1) (hr0_2 : Kd.C k27 w A0_2 l0_2.length l0_2) (hc0_2 : l0_2.length ≤ c0_2) (hr0_3 : Kd.C k65 w A0_3 l0_3.length l0_3) (hc0_3 : l0_3.length ≤ c0_3) (h : batch_checkMaterials.f k l0_0 l0_1 l0_2 l0_3 a0_4 a0_5 a0_6 = some r) :
  Calls Try.prog 66 #[.agg #[.slice A0_0 l0_0.length c0_0, .slice A0_1 l0_1.length c0_1, .slice A0_2 l0_2.length c0_2, .slice A0_3 l0_3.length c0_3, .int .i64 a0_4, .int .i64 a0_5, .int .i64 a0_6]] w fun e w' => e = .returned (.int .i64 r) ∧ Below w.heap.size w w' := by
 have hu29 := Try.underlying29; have hu63 := Try.underlying63; have HR0_0 := Sd.mk hr0_0; have HC0_0 := Sd.mk hc0_0; clear hr0_0 hc0_0; have HR0_1 := Sd.mk hr0_1; have HC0_1 := Sd.mk hc0_1; clear hr0_1 hc0_1; have HR0_2 := Sd.mk hr0_2; have HC0_2 := Sd.mk hc0_2; clear hr0_2 hc0_2; have HR0_3 := Sd.mk hr0_3; have HC0_3 := Sd.mk hc0_3; clear hr0_3 hc0_3; have HB := Sd.mk (Below.refl w.heap.size w)
 have H : (if (l0_1.length : Int) > 12 then (some 3) else (if (l0_1.length : Int) = 0 then (some 1) else (batch_checkMaterials.l0 k l0_1 (l0_1.length : Int) 0 l0_0 l0_1 l0_2 l0_3 a0_4 a0_5 a0_6))) = some r := h
 clear h
 by_cases c2 : (l0_1.length : Int) > 12
 ·rw [if_pos c2] at H
  have c2b0 : decide (12 < (l0_1.length : Int)) = true := decide_eq_true c2
  have c2b1 : decide (12 < l0_1.length) = true := decide_eq_true (by omega)
  clear c2; obtain rfl := Option.some.inj H
  go_enter Try.func66, Try.ntmps66
  go_wp2_with (first | ((with_reducible refine gate_dst (N := 1) rfl ?_); refine box_event ?hg (N := 1) ?hd (cs := #[.slice A0_0 l0_0.length c0_0, .slice A0_1 l0_1.length c0_1, .slice A0_2 l0_2.length c0_2, .slice A0_3 l0_3.length c0_3, .int .i64 a0_4, .int .i64 a0_5, .int .i64 a0_6]) (t := 29) ?hr ?_; (case hd => rfl); (case hg => rfl); (case hr => exact tG); intro gb128 hg w3 hbox hb; have BK128 := Sd.mk (hbox); have GW128 := Sd.mk (bSz hg (bBl HB.out)); have GE128 := Sd.mk (bSz hg (bBl HB.out)); replace HB := Sd.mk (below_step (bBl HB.out) hb); clear hb hbox hg; obtain ⟨u4_0, u4_1, u4_2, u4_3, u4_4, u4_5, u4_6, o4_0, o4_1, o4_2, o4_3, o4_4, o4_5, o4_6⟩ := bc7 (w := w3) BK128.out))
  go_ret
  exact ⟨tE, bBl HB.out⟩
 ·rw [if_neg c2] at H
  have c2b0 : decide (12 < (l0_1.length : Int)) = false := decide_eq_false c2
  have c2b1 : decide (12 < l0_1.length) = false := decide_eq_false (by omega)
  clear c2
  by_cases c5 : (l0_1.length : Int) = 0
  ·rw [if_pos c5] at H
   have c5b0 : ((l0_1.length : Int) == 0) = true := beq_iff_eq.mpr c5
   have c5b1 : ((l0_1.length : Int) != 0) = false := bne_eq_false_iff_eq.mpr c5
   clear c5; obtain rfl := Option.some.inj H
   go_enter Try.func66, Try.ntmps66
   go_wp2_with (first | ((with_reducible refine gate_dst (N := 1) rfl ?_); refine box_event ?hg (N := 1) ?hd (cs := #[.slice A0_0 l0_0.length c0_0, .slice A0_1 l0_1.length c0_1, .slice A0_2 l0_2.length c0_2, .slice A0_3 l0_3.length c0_3, .int .i64 a0_4, .int .i64 a0_5, .int .i64 a0_6]) (t := 29) ?hr ?_; (case hd => rfl); (case hg => rfl); (case hr => exact tG); intro gb128 hg w6 hbox hb; have BK128 := Sd.mk (hbox); have GW128 := Sd.mk (bSz hg (bBl HB.out)); have GE128 := Sd.mk (bSz hg (bBl HB.out)); replace HB := Sd.mk (below_step (bBl HB.out) hb); clear hb hbox hg; obtain ⟨u7_0, u7_1, u7_2, u7_3, u7_4, u7_5, u7_6, o7_0, o7_1, o7_2, o7_3, o7_4, o7_5, o7_6⟩ := bc7 (w := w6) BK128.out))
   go_ret
   exact ⟨tE, bBl HB.out⟩
  ·rw [if_neg c5] at H
   have c5b0 : ((l0_1.length : Int) == 0) = false := beq_eq_false_iff_ne.mpr c5
   have c5b1 : ((l0_1.length : Int) != 0) = true := bne_iff_ne.mpr c5
   have c5b2 : ¬ (l0_1 = []) := fun h_ => c5 (by rw [h_]; rfl)
   have H' := Sd.mk H; clear H
   go_enter Try.func66, Try.ntmps66
   go_wp2_with (first | ((with_reducible refine gate_dst (N := 1) rfl ?_); refine box_event ?hg (N := 1) ?hd (cs := #[.slice A0_0 l0_0.length c0_0, .slice A0_1 l0_1.length c0_1, .slice A0_2 l0_2.length c0_2, .slice A0_3 l0_3.length c0_3, .int .i64 a0_4, .int .i64 a0_5, .int .i64 a0_6]) (t := 29) ?hr ?_; (case hd => rfl); (case hg => rfl); (case hr => exact tG); intro gb128 hg w8 hbox hb; have BK128 := Sd.mk (hbox); have GW128 := Sd.mk (bSz hg (bBl HB.out)); have GE128 := Sd.mk (bSz hg (bBl HB.out)); replace HB := Sd.mk (below_step (bBl HB.out) hb); clear hb hbox hg; obtain ⟨u9_0, u9_1, u9_2, u9_3, u9_4, u9_5, u9_6, o9_0, o9_1, o9_2, o9_3, o9_4, o9_5, o9_6⟩ := bc7 (w := w8) BK128.out))
   go_loopg [19] k (fun kq v19 w' => ∃ (x19_1 : Int), v19 = .int .i64 x19_1 ∧ Sd (batch_checkMaterials.l0 kq l0_1 (l0_1.length : Int) x19_1 l0_0 l0_1 l0_2 l0_3 a0_4 a0_5 a0_6 = some r) ∧ Sd (kq ≤ k) ∧ Sd (w'.heap[gb128]? = some (.cells #[(.slice A0_0 l0_0.length c0_0), (.slice A0_1 l0_1.length c0_1), (.slice A0_2 l0_2.length c0_2), (.slice A0_3 l0_3.length c0_3), .int .i64 a0_4, .int .i64 a0_5, .int .i64 a0_6] 29 (0, 0))) ∧ Sd (Below w.heap.size w w'))
   case atStart => exact ⟨(0), tS, H', ⟨Nat.le_refl _⟩, ⟨bkA BK128.out⟩, ⟨bBl HB.out⟩⟩
   case round =>
    clear H'; (try clear c2); (try clear c2b0); (try clear c2b1); (try clear p2); (try clear c5); (try clear c5b0); (try clear c5b1); (try clear c5b2); (try clear c6); (try clear u4_0 u4_1 u4_2 u4_3 u4_4 u4_5 u4_6); (try clear u7_0 u7_1 u7_2 u7_3 u7_4 u7_5 u7_6); (try clear u9_0 u9_1 u9_2 u9_3 u9_4 u9_5 u9_6); (try clear o4_0 o4_1 o4_2 o4_3 o4_4 o4_5 o4_6); (try clear o7_0 o7_1 o7_2 o7_3 o7_4 o7_5 o7_6); (try clear o9_0 o9_1 o9_2 o9_3 o9_4 o9_5 o9_6); obtain ⟨x19_1, rfl, HA, HK1, BK128, HB⟩ := hrel
    cases gk with
    | zero => exact absurd HA.out (by simp [batch_checkMaterials.l0])
    | succ k1 =>
     have H := HA.out; clear HA
     simp only [batch_checkMaterials.l0] at H
     by_cases c10 : x19_1 < (l0_1.length : Int)
     ·rw [if_pos c10] at H
      have c10b0 : decide (x19_1 < (l0_1.length : Int)) = true := decide_eq_true c10
      clear c10
      by_cases c11 : 0 ≤ x19_1
      ·rw [if_pos c11] at H
       have c11b0 : decide (0 ≤ x19_1) = true := decide_eq_true c11
       clear c11
       by_cases c12 : x19_1 < (l0_1.length : Int)
       ·rw [if_pos c12] at H
        have c12b0 : decide (x19_1 < (l0_1.length : Int)) = true := decide_eq_true c12
        clear c12; replace H := Option.bind_eq_some_iff.mp H; obtain ⟨t131, A130, H⟩ := H
        try dsimp only at H
        have A13 := Sd.mk A130; clear A130
        by_cases c14 : t131 = true
        ·subst c14
         have H1 : ((x_twiceM.f l0_1 x19_1).bind fun t132 => (if t132 = true then (some 6) else ((batch_checkMaterial.f k1 l0_0 l0_1 l0_2 l0_3 a0_4 a0_5 a0_6 ((rd_T63 l0_1 x19_1).f0) ((rd_T63 l0_1 x19_1).f1) ((rd_T63 l0_1 x19_1).f2) ((rd_T63 l0_1 x19_1).f3) ((rd_T63 l0_1 x19_1).f4) ((rd_T63 l0_1 x19_1).f5) ((rd_T63 l0_1 x19_1).f6)).bind fun t133 => (if t133 = 0 then (batch_checkMaterials.l0 k1 l0_1 (l0_1.length : Int) (wrap64 (x19_1 + 1)) l0_0 l0_1 l0_2 l0_3 a0_4 a0_5 a0_6) else (some t133))))) = some r := by rw [if_pos rfl] at H; exact H
         clear H; have H := H1; clear H1; replace H := Option.bind_eq_some_iff.mp H; obtain ⟨t132, A150, H⟩ := H
         try dsimp only at H
         have A15 := Sd.mk A150; clear A150
         by_cases c16 : t132 = true
         ·subst c16
          have H1 : (some 6) = some r := by rw [if_pos rfl] at H; exact H
          clear H; have H := H1; clear H1; obtain rfl := Option.some.inj H
          have p129 : 0 ≤ (x19_1 : Int) := tB
          have q129 : x19_1 < (l0_1.length : Int) := tB
          obtain ⟨ad129, A129_6, c129_6, e129, hx129_0, hx129_1, hx129_2, hx129_3, hx129_4, hx129_5, hx129_6, hl129_6, hi129_6⟩ := at_T63 HR0_1.out x19_1 p129 q129; cases e129; replace hx129_0 := cU HB hx129_0; replace hx129_1 := cU HB hx129_1; replace hx129_2 := cU HB hx129_2; replace hx129_3 := cU HB hx129_3; replace hx129_4 := cU HB hx129_4; replace hx129_5 := cU HB hx129_5; replace hx129_6 := cU HB hx129_6; have HR129_6 := Sd.mk hi129_6; have HC129_6 := Sd.mk hl129_6; clear hi129_6 hl129_6; replace p129 := eq_true p129; replace q129 := eq_true q129
          go_wp2_with (first | ((with_reducible refine gate_dst (N := 4) rfl ?_); refine box_event ?hg (N := 4) ?hd (cs := #[.string (⟨#[]⟩ : ByteArray), .int .i64 0, .int .i64 0, .int .i64 0, .int .i64 0, .int .i64 0, .slice none 0 0]) (t := 63) ?hr ?_; (case hd => rfl); (case hg => rfl); (case hr => exact tG); intro gb130 hg w17 hbox hb; have BK130 := Sd.mk (hbox); have GW130 := Sd.mk (bSz hg (bBl HB.out)); have GE130 := Sd.mk (bSz hg (bBl HB.out)); replace HB := Sd.mk (below_step (bBl HB.out) hb); have NB128_130 := Sd.mk (bNl hg (bkA BK128.out)); have NB130_128 := Sd.mk (bNg hg (bkA BK128.out)); replace BK128 := Sd.mk (blk_below (bkA BK128.out) hb); clear hb hbox hg; have hnb18 := NB130_128.out; have hnc18 := NB128_130.out; obtain ⟨u19_0, u19_1, u19_2, u19_3, u19_4, u19_5, u19_6, o19_0, o19_1, o19_2, o19_3, o19_4, o19_5, o19_6⟩ := bc7 (w := w17) BK130.out) | ((with_reducible refine gate_callee (f := 70) rfl ?_); refine goesL_ (some 27) rfl rfl Try.func70 (by kernel_rfl) rfl #[.string ((rd_T63 l0_1 x19_1).f0)] rfl tM ?_; (with_reducible refine (batch_name.calls k1 ((rd_T63 l0_1 x19_1).f0) true _ A13.out).mono ?_); rintro e w' ⟨rfl, ⟨nd, rfl⟩⟩; refine ⟨_, rfl, ?_⟩; obtain ⟨u20_0, u20_1, u20_2, u20_3, u20_4, u20_5, u20_6, o20_0, o20_1, o20_2, o20_3, o20_4, o20_5, o20_6⟩ := bc7 (w := w17) BK128.out) | ((with_reducible refine gate_callee (f := 128) rfl ?_); refine goesL_ (some 33) rfl rfl Try.func128 (by kernel_rfl) rfl #[.slice (some ad129) l0_1.length c0_1, .int .i64 x19_1, .func (.func 129) #[] #[]] rfl tM ?_; (with_reducible refine (x_twiceM.calls _ _ l0_1 x19_1 true _ (Kd.C_below HR0_1.out (bBl HB.out)) HC0_1.out A15.out).mono ?_); rintro e w21 ⟨rfl, hb⟩; refine ⟨_, rfl, ?_⟩; replace BK128 := Sd.mk (blk_below (g := gb128) (o := .cells #[.slice A0_0 l0_0.length c0_0, .slice (some ad129) l0_1.length c0_1, .slice A0_2 l0_2.length c0_2, .slice A0_3 l0_3.length c0_3, .int .i64 a0_4, .int .i64 a0_5, .int .i64 a0_6] 29 (0, 0)) (by (with_reducible repeat (first | refine blk_drewN ?_ _ | refine blk_drew ?_ | refine blk_alloc ?_ _)); refine blk_far ?_ NB128_130.out _; (with_reducible repeat (first | refine blk_drewN ?_ _ | refine blk_drew ?_ | refine blk_alloc ?_ _)); refine blk_far ?_ NB128_130.out _; (with_reducible repeat (first | refine blk_drewN ?_ _ | refine blk_drew ?_ | refine blk_alloc ?_ _)); refine blk_far ?_ NB128_130.out _; (with_reducible repeat (first | refine blk_drewN ?_ _ | refine blk_drew ?_ | refine blk_alloc ?_ _)); refine blk_far ?_ NB128_130.out _; (with_reducible repeat (first | refine blk_drewN ?_ _ | refine blk_drew ?_ | refine blk_alloc ?_ _)); refine blk_far ?_ NB128_130.out _; (with_reducible repeat (first | refine blk_drewN ?_ _ | refine blk_drew ?_ | refine blk_alloc ?_ _)); refine blk_far ?_ NB128_130.out _; (with_reducible repeat (first | refine blk_drewN ?_ _ | refine blk_drew ?_ | refine blk_alloc ?_ _)); refine blk_far ?_ NB128_130.out _; (with_reducible repeat (first | refine blk_drewN ?_ _ | refine blk_drew ?_ | refine blk_alloc ?_ _)); exact BK128.out) hb); replace BK130 := Sd.mk (blk_below (g := gb130) (o := .cells #[.string ((rd_T63 l0_1 x19_1).f0), .int .i64 ((rd_T63 l0_1 x19_1).f1), .int .i64 ((rd_T63 l0_1 x19_1).f2), .int .i64 ((rd_T63 l0_1 x19_1).f3), .int .i64 ((rd_T63 l0_1 x19_1).f4), .int .i64 ((rd_T63 l0_1 x19_1).f5), .slice A129_6 ((rd_T63 l0_1 x19_1).f6).length c129_6] 63 (0, 0)) (by (with_reducible repeat (first | refine blk_drewN ?_ _ | refine blk_drew ?_ | refine blk_alloc ?_ _)); refine blk_put (cs := #[.string ((rd_T63 l0_1 x19_1).f0), .int .i64 ((rd_T63 l0_1 x19_1).f1), .int .i64 ((rd_T63 l0_1 x19_1).f2), .int .i64 ((rd_T63 l0_1 x19_1).f3), .int .i64 ((rd_T63 l0_1 x19_1).f4), .int .i64 ((rd_T63 l0_1 x19_1).f5), .slice none 0 0]) ?_ 6 _ rfl; (with_reducible repeat (first | refine blk_drewN ?_ _ | refine blk_drew ?_ | refine blk_alloc ?_ _)); refine blk_put (cs := #[.string ((rd_T63 l0_1 x19_1).f0), .int .i64 ((rd_T63 l0_1 x19_1).f1), .int .i64 ((rd_T63 l0_1 x19_1).f2), .int .i64 ((rd_T63 l0_1 x19_1).f3), .int .i64 ((rd_T63 l0_1 x19_1).f4), .int .i64 0, .slice none 0 0]) ?_ 5 _ rfl; (with_reducible repeat (first | refine blk_drewN ?_ _ | refine blk_drew ?_ | refine blk_alloc ?_ _)); refine blk_put (cs := #[.string ((rd_T63 l0_1 x19_1).f0), .int .i64 ((rd_T63 l0_1 x19_1).f1), .int .i64 ((rd_T63 l0_1 x19_1).f2), .int .i64 ((rd_T63 l0_1 x19_1).f3), .int .i64 0, .int .i64 0, .slice none 0 0]) ?_ 4 _ rfl; (with_reducible repeat (first | refine blk_drewN ?_ _ | refine blk_drew ?_ | refine blk_alloc ?_ _)); refine blk_put (cs := #[.string ((rd_T63 l0_1 x19_1).f0), .int .i64 ((rd_T63 l0_1 x19_1).f1), .int .i64 ((rd_T63 l0_1 x19_1).f2), .int .i64 0, .int .i64 0, .int .i64 0, .slice none 0 0]) ?_ 3 _ rfl; (with_reducible repeat (first | refine blk_drewN ?_ _ | refine blk_drew ?_ | refine blk_alloc ?_ _)); refine blk_put (cs := #[.string ((rd_T63 l0_1 x19_1).f0), .int .i64 ((rd_T63 l0_1 x19_1).f1), .int .i64 0, .int .i64 0, .int .i64 0, .int .i64 0, .slice none 0 0]) ?_ 2 _ rfl; (with_reducible repeat (first | refine blk_drewN ?_ _ | refine blk_drew ?_ | refine blk_alloc ?_ _)); refine blk_put (cs := #[.string ((rd_T63 l0_1 x19_1).f0), .int .i64 0, .int .i64 0, .int .i64 0, .int .i64 0, .int .i64 0, .slice none 0 0]) ?_ 1 _ rfl; (with_reducible repeat (first | refine blk_drewN ?_ _ | refine blk_drew ?_ | refine blk_alloc ?_ _)); refine blk_put (cs := #[.string (⟨#[]⟩ : ByteArray), .int .i64 0, .int .i64 0, .int .i64 0, .int .i64 0, .int .i64 0, .slice none 0 0]) ?_ 0 _ rfl; (with_reducible repeat (first | refine blk_drewN ?_ _ | refine blk_drew ?_ | refine blk_alloc ?_ _)); exact BK130.out) hb); replace HB := Sd.mk (below_step (bBl HB.out) hb); (try clear hb); (try clear hb2); (try clear hk); (try clear hi)))
          go_ret
          exact ⟨tE, bBl HB.out⟩
         ·replace c16 := Bool.eq_false_iff.mpr c16
          subst c16
          have H1 : ((batch_checkMaterial.f k1 l0_0 l0_1 l0_2 l0_3 a0_4 a0_5 a0_6 ((rd_T63 l0_1 x19_1).f0) ((rd_T63 l0_1 x19_1).f1) ((rd_T63 l0_1 x19_1).f2) ((rd_T63 l0_1 x19_1).f3) ((rd_T63 l0_1 x19_1).f4) ((rd_T63 l0_1 x19_1).f5) ((rd_T63 l0_1 x19_1).f6)).bind fun t133 => (if t133 = 0 then (batch_checkMaterials.l0 k1 l0_1 (l0_1.length : Int) (wrap64 (x19_1 + 1)) l0_0 l0_1 l0_2 l0_3 a0_4 a0_5 a0_6) else (some t133))) = some r := by rw [if_neg (show ¬ (false = true) by decide)] at H; exact H
          clear H; have H := H1; clear H1; replace H := Option.bind_eq_some_iff.mp H; obtain ⟨t133, A220, H⟩ := H
          try dsimp only at H
          have A22 := Sd.mk A220; clear A220
          by_cases c23 : t133 = 0
          ·rw [if_pos c23] at H
           have c23b0 : (t133 == 0) = true := beq_iff_eq.mpr c23
           have c23b1 : (t133 != 0) = false := bne_eq_false_iff_eq.mpr c23
           clear c23; have H' := Sd.mk H; clear H
           have p129 : 0 ≤ (x19_1 : Int) := tB
           have q129 : x19_1 < (l0_1.length : Int) := tB
           obtain ⟨ad129, A129_6, c129_6, e129, hx129_0, hx129_1, hx129_2, hx129_3, hx129_4, hx129_5, hx129_6, hl129_6, hi129_6⟩ := at_T63 HR0_1.out x19_1 p129 q129; cases e129; replace hx129_0 := cU HB hx129_0; replace hx129_1 := cU HB hx129_1; replace hx129_2 := cU HB hx129_2; replace hx129_3 := cU HB hx129_3; replace hx129_4 := cU HB hx129_4; replace hx129_5 := cU HB hx129_5; replace hx129_6 := cU HB hx129_6; have HR129_6 := Sd.mk hi129_6; have HC129_6 := Sd.mk hl129_6; clear hi129_6 hl129_6; replace p129 := eq_true p129; replace q129 := eq_true q129
           go_wp2_with (first | ((with_reducible refine gate_dst (N := 4) rfl ?_); refine box_event ?hg (N := 4) ?hd (cs := #[.string (⟨#[]⟩ : ByteArray), .int .i64 0, .int .i64 0, .int .i64 0, .int .i64 0, .int .i64 0, .slice none 0 0]) (t := 63) ?hr ?_; (case hd => rfl); (case hg => rfl); (case hr => exact tG); intro gb130 hg w24 hbox hb; have BK130 := Sd.mk (hbox); have GW130 := Sd.mk (bSz hg (bBl HB.out)); have GE130 := Sd.mk (bSz hg (bBl HB.out)); replace HB := Sd.mk (below_step (bBl HB.out) hb); have NB128_130 := Sd.mk (bNl hg (bkA BK128.out)); have NB130_128 := Sd.mk (bNg hg (bkA BK128.out)); replace BK128 := Sd.mk (blk_below (bkA BK128.out) hb); clear hb hbox hg; have hnb25 := NB130_128.out; have hnc25 := NB128_130.out; obtain ⟨u26_0, u26_1, u26_2, u26_3, u26_4, u26_5, u26_6, o26_0, o26_1, o26_2, o26_3, o26_4, o26_5, o26_6⟩ := bc7 (w := w24) BK130.out) | ((with_reducible refine gate_callee (f := 70) rfl ?_); refine goesL_ (some 27) rfl rfl Try.func70 (by kernel_rfl) rfl #[.string ((rd_T63 l0_1 x19_1).f0)] rfl tM ?_; (with_reducible refine (batch_name.calls k1 ((rd_T63 l0_1 x19_1).f0) true _ A13.out).mono ?_); rintro e w' ⟨rfl, ⟨nd, rfl⟩⟩; refine ⟨_, rfl, ?_⟩; obtain ⟨u27_0, u27_1, u27_2, u27_3, u27_4, u27_5, u27_6, o27_0, o27_1, o27_2, o27_3, o27_4, o27_5, o27_6⟩ := bc7 (w := w24) BK128.out) | ((with_reducible refine gate_callee (f := 128) rfl ?_); refine goesL_ (some 33) rfl rfl Try.func128 (by kernel_rfl) rfl #[.slice (some ad129) l0_1.length c0_1, .int .i64 x19_1, .func (.func 129) #[] #[]] rfl tM ?_; (with_reducible refine (x_twiceM.calls _ _ l0_1 x19_1 false _ (Kd.C_below HR0_1.out (bBl HB.out)) HC0_1.out A15.out).mono ?_); rintro e w28 ⟨rfl, hb⟩; refine ⟨_, rfl, ?_⟩; replace BK128 := Sd.mk (blk_below (g := gb128) (o := .cells #[.slice A0_0 l0_0.length c0_0, .slice (some ad129) l0_1.length c0_1, .slice A0_2 l0_2.length c0_2, .slice A0_3 l0_3.length c0_3, .int .i64 a0_4, .int .i64 a0_5, .int .i64 a0_6] 29 (0, 0)) (by (with_reducible repeat (first | refine blk_drewN ?_ _ | refine blk_drew ?_ | refine blk_alloc ?_ _)); refine blk_far ?_ NB128_130.out _; (with_reducible repeat (first | refine blk_drewN ?_ _ | refine blk_drew ?_ | refine blk_alloc ?_ _)); refine blk_far ?_ NB128_130.out _; (with_reducible repeat (first | refine blk_drewN ?_ _ | refine blk_drew ?_ | refine blk_alloc ?_ _)); refine blk_far ?_ NB128_130.out _; (with_reducible repeat (first | refine blk_drewN ?_ _ | refine blk_drew ?_ | refine blk_alloc ?_ _)); refine blk_far ?_ NB128_130.out _; (with_reducible repeat (first | refine blk_drewN ?_ _ | refine blk_drew ?_ | refine blk_alloc ?_ _)); refine blk_far ?_ NB128_130.out _; (with_reducible repeat (first | refine blk_drewN ?_ _ | refine blk_drew ?_ | refine blk_alloc ?_ _)); refine blk_far ?_ NB128_130.out _; (with_reducible repeat (first | refine blk_drewN ?_ _ | refine blk_drew ?_ | refine blk_alloc ?_ _)); refine blk_far ?_ NB128_130.out _; (with_reducible repeat (first | refine blk_drewN ?_ _ | refine blk_drew ?_ | refine blk_alloc ?_ _)); exact BK128.out) hb); replace BK130 := Sd.mk (blk_below (g := gb130) (o := .cells #[.string ((rd_T63 l0_1 x19_1).f0), .int .i64 ((rd_T63 l0_1 x19_1).f1), .int .i64 ((rd_T63 l0_1 x19_1).f2), .int .i64 ((rd_T63 l0_1 x19_1).f3), .int .i64 ((rd_T63 l0_1 x19_1).f4), .int .i64 ((rd_T63 l0_1 x19_1).f5), .slice A129_6 ((rd_T63 l0_1 x19_1).f6).length c129_6] 63 (0, 0)) (by (with_reducible repeat (first | refine blk_drewN ?_ _ | refine blk_drew ?_ | refine blk_alloc ?_ _)); refine blk_put (cs := #[.string ((rd_T63 l0_1 x19_1).f0), .int .i64 ((rd_T63 l0_1 x19_1).f1), .int .i64 ((rd_T63 l0_1 x19_1).f2), .int .i64 ((rd_T63 l0_1 x19_1).f3), .int .i64 ((rd_T63 l0_1 x19_1).f4), .int .i64 ((rd_T63 l0_1 x19_1).f5), .slice none 0 0]) ?_ 6 _ rfl; (with_reducible repeat (first | refine blk_drewN ?_ _ | refine blk_drew ?_ | refine blk_alloc ?_ _)); refine blk_put (cs := #[.string ((rd_T63 l0_1 x19_1).f0), .int .i64 ((rd_T63 l0_1 x19_1).f1), .int .i64 ((rd_T63 l0_1 x19_1).f2), .int .i64 ((rd_T63 l0_1 x19_1).f3), .int .i64 ((rd_T63 l0_1 x19_1).f4), .int .i64 0, .slice none 0 0]) ?_ 5 _ rfl; (with_reducible repeat (first | refine blk_drewN ?_ _ | refine blk_drew ?_ | refine blk_alloc ?_ _)); refine blk_put (cs := #[.string ((rd_T63 l0_1 x19_1).f0), .int .i64 ((rd_T63 l0_1 x19_1).f1), .int .i64 ((rd_T63 l0_1 x19_1).f2), .int .i64 ((rd_T63 l0_1 x19_1).f3), .int .i64 0, .int .i64 0, .slice none 0 0]) ?_ 4 _ rfl; (with_reducible repeat (first | refine blk_drewN ?_ _ | refine blk_drew ?_ | refine blk_alloc ?_ _)); refine blk_put (cs := #[.string ((rd_T63 l0_1 x19_1).f0), .int .i64 ((rd_T63 l0_1 x19_1).f1), .int .i64 ((rd_T63 l0_1 x19_1).f2), .int .i64 0, .int .i64 0, .int .i64 0, .slice none 0 0]) ?_ 3 _ rfl; (with_reducible repeat (first | refine blk_drewN ?_ _ | refine blk_drew ?_ | refine blk_alloc ?_ _)); refine blk_put (cs := #[.string ((rd_T63 l0_1 x19_1).f0), .int .i64 ((rd_T63 l0_1 x19_1).f1), .int .i64 0, .int .i64 0, .int .i64 0, .int .i64 0, .slice none 0 0]) ?_ 2 _ rfl; (with_reducible repeat (first | refine blk_drewN ?_ _ | refine blk_drew ?_ | refine blk_alloc ?_ _)); refine blk_put (cs := #[.string ((rd_T63 l0_1 x19_1).f0), .int .i64 0, .int .i64 0, .int .i64 0, .int .i64 0, .int .i64 0, .slice none 0 0]) ?_ 1 _ rfl; (with_reducible repeat (first | refine blk_drewN ?_ _ | refine blk_drew ?_ | refine blk_alloc ?_ _)); refine blk_put (cs := #[.string (⟨#[]⟩ : ByteArray), .int .i64 0, .int .i64 0, .int .i64 0, .int .i64 0, .int .i64 0, .slice none 0 0]) ?_ 0 _ rfl; (with_reducible repeat (first | refine blk_drewN ?_ _ | refine blk_drew ?_ | refine blk_alloc ?_ _)); exact BK130.out) hb); replace HB := Sd.mk (below_step (bBl HB.out) hb); (try clear hb); (try clear hb2); (try clear hk); (try clear hi); obtain ⟨u29_0, u29_1, u29_2, u29_3, u29_4, u29_5, u29_6, o29_0, o29_1, o29_2, o29_3, o29_4, o29_5, o29_6⟩ := bc7 (w := w28) BK128.out; obtain ⟨u30_0, u30_1, u30_2, u30_3, u30_4, u30_5, u30_6, o30_0, o30_1, o30_2, o30_3, o30_4, o30_5, o30_6⟩ := bc7 (w := w28) BK130.out) | ((with_reducible refine gate_callee (f := 130) rfl ?_); refine goesL_ (some 36) rfl rfl Try.func130 (by kernel_rfl) rfl #[.agg #[.slice A0_0 l0_0.length c0_0, .slice (some ad129) l0_1.length c0_1, .slice A0_2 l0_2.length c0_2, .slice A0_3 l0_3.length c0_3, .int .i64 a0_4, .int .i64 a0_5, .int .i64 a0_6], .agg #[.string ((rd_T63 l0_1 x19_1).f0), .int .i64 ((rd_T63 l0_1 x19_1).f1), .int .i64 ((rd_T63 l0_1 x19_1).f2), .int .i64 ((rd_T63 l0_1 x19_1).f3), .int .i64 ((rd_T63 l0_1 x19_1).f4), .int .i64 ((rd_T63 l0_1 x19_1).f5), .slice A129_6 ((rd_T63 l0_1 x19_1).f6).length c129_6]] rfl tM ?_; (with_reducible refine (batch_checkMaterial.calls k1 _ _ l0_0 _ _ l0_1 _ _ l0_2 _ _ l0_3 a0_4 a0_5 a0_6 ((rd_T63 l0_1 x19_1).f0) ((rd_T63 l0_1 x19_1).f1) ((rd_T63 l0_1 x19_1).f2) ((rd_T63 l0_1 x19_1).f3) ((rd_T63 l0_1 x19_1).f4) ((rd_T63 l0_1 x19_1).f5) _ _ ((rd_T63 l0_1 x19_1).f6) t133 _ (cS (Kd.C_below HR0_0.out HB.out)) HC0_0.out (cS (Kd.C_below HR0_1.out HB.out)) HC0_1.out (cS (Kd.C_below HR0_2.out HB.out)) HC0_2.out (cS (Kd.C_below HR0_3.out HB.out)) HC0_3.out (cS (Kd.C_below HR129_6.out HB.out)) HC129_6.out A22.out).mono ?_); rintro e w31 ⟨rfl, hb⟩; refine ⟨_, rfl, ?_⟩; replace BK128 := Sd.mk (blk_below (bkA BK128.out) hb); replace BK130 := Sd.mk (blk_below (bkA BK130.out) hb); replace HB := Sd.mk (below_step (bBl HB.out) hb); (try clear hb); (try clear hb2); (try clear hk); (try clear hi)))
           go_roundg k1
           case measure => have := HK1.out; omega
           case rel => exact ⟨(wrap64 (x19_1 + 1)), tS, H', ⟨by have := HK1.out; omega⟩, ⟨bkA BK128.out⟩, ⟨bBl HB.out⟩⟩
          ·rw [if_neg c23] at H
           have c23b0 : (t133 == 0) = false := beq_eq_false_iff_ne.mpr c23
           have c23b1 : (t133 != 0) = true := bne_iff_ne.mpr c23
           obtain rfl := Option.some.inj H
           have p129 : 0 ≤ (x19_1 : Int) := tB
           have q129 : x19_1 < (l0_1.length : Int) := tB
           obtain ⟨ad129, A129_6, c129_6, e129, hx129_0, hx129_1, hx129_2, hx129_3, hx129_4, hx129_5, hx129_6, hl129_6, hi129_6⟩ := at_T63 HR0_1.out x19_1 p129 q129; cases e129; replace hx129_0 := cU HB hx129_0; replace hx129_1 := cU HB hx129_1; replace hx129_2 := cU HB hx129_2; replace hx129_3 := cU HB hx129_3; replace hx129_4 := cU HB hx129_4; replace hx129_5 := cU HB hx129_5; replace hx129_6 := cU HB hx129_6; have HR129_6 := Sd.mk hi129_6; have HC129_6 := Sd.mk hl129_6; clear hi129_6 hl129_6; replace p129 := eq_true p129; replace q129 := eq_true q129
           go_wp2_with (first | ((with_reducible refine gate_dst (N := 4) rfl ?_); refine box_event ?hg (N := 4) ?hd (cs := #[.string (⟨#[]⟩ : ByteArray), .int .i64 0, .int .i64 0, .int .i64 0, .int .i64 0, .int .i64 0, .slice none 0 0]) (t := 63) ?hr ?_; (case hd => rfl); (case hg => rfl); (case hr => exact tG); intro gb130 hg w32 hbox hb; have BK130 := Sd.mk (hbox); have GW130 := Sd.mk (bSz hg (bBl HB.out)); have GE130 := Sd.mk (bSz hg (bBl HB.out)); replace HB := Sd.mk (below_step (bBl HB.out) hb); have NB128_130 := Sd.mk (bNl hg (bkA BK128.out)); have NB130_128 := Sd.mk (bNg hg (bkA BK128.out)); replace BK128 := Sd.mk (blk_below (bkA BK128.out) hb); clear hb hbox hg; have hnb33 := NB130_128.out; have hnc33 := NB128_130.out; obtain ⟨u34_0, u34_1, u34_2, u34_3, u34_4, u34_5, u34_6, o34_0, o34_1, o34_2, o34_3, o34_4, o34_5, o34_6⟩ := bc7 (w := w32) BK130.out) | ((with_reducible refine gate_callee (f := 70) rfl ?_); refine goesL_ (some 27) rfl rfl Try.func70 (by kernel_rfl) rfl #[.string ((rd_T63 l0_1 x19_1).f0)] rfl tM ?_; (with_reducible refine (batch_name.calls k1 ((rd_T63 l0_1 x19_1).f0) true _ A13.out).mono ?_); rintro e w' ⟨rfl, ⟨nd, rfl⟩⟩; refine ⟨_, rfl, ?_⟩; obtain ⟨u35_0, u35_1, u35_2, u35_3, u35_4, u35_5, u35_6, o35_0, o35_1, o35_2, o35_3, o35_4, o35_5, o35_6⟩ := bc7 (w := w32) BK128.out) | ((with_reducible refine gate_callee (f := 128) rfl ?_); refine goesL_ (some 33) rfl rfl Try.func128 (by kernel_rfl) rfl #[.slice (some ad129) l0_1.length c0_1, .int .i64 x19_1, .func (.func 129) #[] #[]] rfl tM ?_; (with_reducible refine (x_twiceM.calls _ _ l0_1 x19_1 false _ (Kd.C_below HR0_1.out (bBl HB.out)) HC0_1.out A15.out).mono ?_); rintro e w36 ⟨rfl, hb⟩; refine ⟨_, rfl, ?_⟩; replace BK128 := Sd.mk (blk_below (g := gb128) (o := .cells #[.slice A0_0 l0_0.length c0_0, .slice (some ad129) l0_1.length c0_1, .slice A0_2 l0_2.length c0_2, .slice A0_3 l0_3.length c0_3, .int .i64 a0_4, .int .i64 a0_5, .int .i64 a0_6] 29 (0, 0)) (by (with_reducible repeat (first | refine blk_drewN ?_ _ | refine blk_drew ?_ | refine blk_alloc ?_ _)); refine blk_far ?_ NB128_130.out _; (with_reducible repeat (first | refine blk_drewN ?_ _ | refine blk_drew ?_ | refine blk_alloc ?_ _)); refine blk_far ?_ NB128_130.out _; (with_reducible repeat (first | refine blk_drewN ?_ _ | refine blk_drew ?_ | refine blk_alloc ?_ _)); refine blk_far ?_ NB128_130.out _; (with_reducible repeat (first | refine blk_drewN ?_ _ | refine blk_drew ?_ | refine blk_alloc ?_ _)); refine blk_far ?_ NB128_130.out _; (with_reducible repeat (first | refine blk_drewN ?_ _ | refine blk_drew ?_ | refine blk_alloc ?_ _)); refine blk_far ?_ NB128_130.out _; (with_reducible repeat (first | refine blk_drewN ?_ _ | refine blk_drew ?_ | refine blk_alloc ?_ _)); refine blk_far ?_ NB128_130.out _; (with_reducible repeat (first | refine blk_drewN ?_ _ | refine blk_drew ?_ | refine blk_alloc ?_ _)); refine blk_far ?_ NB128_130.out _; (with_reducible repeat (first | refine blk_drewN ?_ _ | refine blk_drew ?_ | refine blk_alloc ?_ _)); exact BK128.out) hb); replace BK130 := Sd.mk (blk_below (g := gb130) (o := .cells #[.string ((rd_T63 l0_1 x19_1).f0), .int .i64 ((rd_T63 l0_1 x19_1).f1), .int .i64 ((rd_T63 l0_1 x19_1).f2), .int .i64 ((rd_T63 l0_1 x19_1).f3), .int .i64 ((rd_T63 l0_1 x19_1).f4), .int .i64 ((rd_T63 l0_1 x19_1).f5), .slice A129_6 ((rd_T63 l0_1 x19_1).f6).length c129_6] 63 (0, 0)) (by (with_reducible repeat (first | refine blk_drewN ?_ _ | refine blk_drew ?_ | refine blk_alloc ?_ _)); refine blk_put (cs := #[.string ((rd_T63 l0_1 x19_1).f0), .int .i64 ((rd_T63 l0_1 x19_1).f1), .int .i64 ((rd_T63 l0_1 x19_1).f2), .int .i64 ((rd_T63 l0_1 x19_1).f3), .int .i64 ((rd_T63 l0_1 x19_1).f4), .int .i64 ((rd_T63 l0_1 x19_1).f5), .slice none 0 0]) ?_ 6 _ rfl; (with_reducible repeat (first | refine blk_drewN ?_ _ | refine blk_drew ?_ | refine blk_alloc ?_ _)); refine blk_put (cs := #[.string ((rd_T63 l0_1 x19_1).f0), .int .i64 ((rd_T63 l0_1 x19_1).f1), .int .i64 ((rd_T63 l0_1 x19_1).f2), .int .i64 ((rd_T63 l0_1 x19_1).f3), .int .i64 ((rd_T63 l0_1 x19_1).f4), .int .i64 0, .slice none 0 0]) ?_ 5 _ rfl; (with_reducible repeat (first | refine blk_drewN ?_ _ | refine blk_drew ?_ | refine blk_alloc ?_ _)); refine blk_put (cs := #[.string ((rd_T63 l0_1 x19_1).f0), .int .i64 ((rd_T63 l0_1 x19_1).f1), .int .i64 ((rd_T63 l0_1 x19_1).f2), .int .i64 ((rd_T63 l0_1 x19_1).f3), .int .i64 0, .int .i64 0, .slice none 0 0]) ?_ 4 _ rfl; (with_reducible repeat (first | refine blk_drewN ?_ _ | refine blk_drew ?_ | refine blk_alloc ?_ _)); refine blk_put (cs := #[.string ((rd_T63 l0_1 x19_1).f0), .int .i64 ((rd_T63 l0_1 x19_1).f1), .int .i64 ((rd_T63 l0_1 x19_1).f2), .int .i64 0, .int .i64 0, .int .i64 0, .slice none 0 0]) ?_ 3 _ rfl; (with_reducible repeat (first | refine blk_drewN ?_ _ | refine blk_drew ?_ | refine blk_alloc ?_ _)); refine blk_put (cs := #[.string ((rd_T63 l0_1 x19_1).f0), .int .i64 ((rd_T63 l0_1 x19_1).f1), .int .i64 0, .int .i64 0, .int .i64 0, .int .i64 0, .slice none 0 0]) ?_ 2 _ rfl; (with_reducible repeat (first | refine blk_drewN ?_ _ | refine blk_drew ?_ | refine blk_alloc ?_ _)); refine blk_put (cs := #[.string ((rd_T63 l0_1 x19_1).f0), .int .i64 0, .int .i64 0, .int .i64 0, .int .i64 0, .int .i64 0, .slice none 0 0]) ?_ 1 _ rfl; (with_reducible repeat (first | refine blk_drewN ?_ _ | refine blk_drew ?_ | refine blk_alloc ?_ _)); refine blk_put (cs := #[.string (⟨#[]⟩ : ByteArray), .int .i64 0, .int .i64 0, .int .i64 0, .int .i64 0, .int .i64 0, .slice none 0 0]) ?_ 0 _ rfl; (with_reducible repeat (first | refine blk_drewN ?_ _ | refine blk_drew ?_ | refine blk_alloc ?_ _)); exact BK130.out) hb); replace HB := Sd.mk (below_step (bBl HB.out) hb); (try clear hb); (try clear hb2); (try clear hk); (try clear hi); obtain ⟨u37_0, u37_1, u37_2, u37_3, u37_4, u37_5, u37_6, o37_0, o37_1, o37_2, o37_3, o37_4, o37_5, o37_6⟩ := bc7 (w := w36) BK128.out; obtain ⟨u38_0, u38_1, u38_2, u38_3, u38_4, u38_5, u38_6, o38_0, o38_1, o38_2, o38_3, o38_4, o38_5, o38_6⟩ := bc7 (w := w36) BK130.out) | ((with_reducible refine gate_callee (f := 130) rfl ?_); refine goesL_ (some 36) rfl rfl Try.func130 (by kernel_rfl) rfl #[.agg #[.slice A0_0 l0_0.length c0_0, .slice (some ad129) l0_1.length c0_1, .slice A0_2 l0_2.length c0_2, .slice A0_3 l0_3.length c0_3, .int .i64 a0_4, .int .i64 a0_5, .int .i64 a0_6], .agg #[.string ((rd_T63 l0_1 x19_1).f0), .int .i64 ((rd_T63 l0_1 x19_1).f1), .int .i64 ((rd_T63 l0_1 x19_1).f2), .int .i64 ((rd_T63 l0_1 x19_1).f3), .int .i64 ((rd_T63 l0_1 x19_1).f4), .int .i64 ((rd_T63 l0_1 x19_1).f5), .slice A129_6 ((rd_T63 l0_1 x19_1).f6).length c129_6]] rfl tM ?_; (with_reducible refine (batch_checkMaterial.calls k1 _ _ l0_0 _ _ l0_1 _ _ l0_2 _ _ l0_3 a0_4 a0_5 a0_6 ((rd_T63 l0_1 x19_1).f0) ((rd_T63 l0_1 x19_1).f1) ((rd_T63 l0_1 x19_1).f2) ((rd_T63 l0_1 x19_1).f3) ((rd_T63 l0_1 x19_1).f4) ((rd_T63 l0_1 x19_1).f5) _ _ ((rd_T63 l0_1 x19_1).f6) t133 _ (cS (Kd.C_below HR0_0.out HB.out)) HC0_0.out (cS (Kd.C_below HR0_1.out HB.out)) HC0_1.out (cS (Kd.C_below HR0_2.out HB.out)) HC0_2.out (cS (Kd.C_below HR0_3.out HB.out)) HC0_3.out (cS (Kd.C_below HR129_6.out HB.out)) HC129_6.out A22.out).mono ?_); rintro e w39 ⟨rfl, hb⟩; refine ⟨_, rfl, ?_⟩; replace BK128 := Sd.mk (blk_below (bkA BK128.out) hb); replace BK130 := Sd.mk (blk_below (bkA BK130.out) hb); replace HB := Sd.mk (below_step (bBl HB.out) hb); (try clear hb); (try clear hb2); (try clear hk); (try clear hi)))
           go_ret
           exact ⟨tE, bBl HB.out⟩
        ·replace c14 := Bool.eq_false_iff.mpr c14
         subst c14
         have H1 : (some 5) = some r := by rw [if_neg (show ¬ (false = true) by decide)] at H; exact H
         clear H; have H := H1; clear H1; obtain rfl := Option.some.inj H
         have p129 : 0 ≤ (x19_1 : Int) := tB
         have q129 : x19_1 < (l0_1.length : Int) := tB
         obtain ⟨ad129, A129_6, c129_6, e129, hx129_0, hx129_1, hx129_2, hx129_3, hx129_4, hx129_5, hx129_6, hl129_6, hi129_6⟩ := at_T63 HR0_1.out x19_1 p129 q129; cases e129; replace hx129_0 := cU HB hx129_0; replace hx129_1 := cU HB hx129_1; replace hx129_2 := cU HB hx129_2; replace hx129_3 := cU HB hx129_3; replace hx129_4 := cU HB hx129_4; replace hx129_5 := cU HB hx129_5; replace hx129_6 := cU HB hx129_6; have HR129_6 := Sd.mk hi129_6; have HC129_6 := Sd.mk hl129_6; clear hi129_6 hl129_6; replace p129 := eq_true p129; replace q129 := eq_true q129
         go_wp2_with (first | ((with_reducible refine gate_dst (N := 4) rfl ?_); refine box_event ?hg (N := 4) ?hd (cs := #[.string (⟨#[]⟩ : ByteArray), .int .i64 0, .int .i64 0, .int .i64 0, .int .i64 0, .int .i64 0, .slice none 0 0]) (t := 63) ?hr ?_; (case hd => rfl); (case hg => rfl); (case hr => exact tG); intro gb130 hg w40 hbox hb; have BK130 := Sd.mk (hbox); have GW130 := Sd.mk (bSz hg (bBl HB.out)); have GE130 := Sd.mk (bSz hg (bBl HB.out)); replace HB := Sd.mk (below_step (bBl HB.out) hb); have NB128_130 := Sd.mk (bNl hg (bkA BK128.out)); have NB130_128 := Sd.mk (bNg hg (bkA BK128.out)); replace BK128 := Sd.mk (blk_below (bkA BK128.out) hb); clear hb hbox hg; have hnb41 := NB130_128.out; have hnc41 := NB128_130.out; obtain ⟨u42_0, u42_1, u42_2, u42_3, u42_4, u42_5, u42_6, o42_0, o42_1, o42_2, o42_3, o42_4, o42_5, o42_6⟩ := bc7 (w := w40) BK130.out) | ((with_reducible refine gate_callee (f := 70) rfl ?_); refine goesL_ (some 27) rfl rfl Try.func70 (by kernel_rfl) rfl #[.string ((rd_T63 l0_1 x19_1).f0)] rfl tM ?_; (with_reducible refine (batch_name.calls k1 ((rd_T63 l0_1 x19_1).f0) false _ A13.out).mono ?_); rintro e w' ⟨rfl, ⟨nd, rfl⟩⟩; refine ⟨_, rfl, ?_⟩))
         go_ret
         exact ⟨tE, bBl HB.out⟩
       ·rw [if_neg c12] at H
        exact absurd H (by simp)
      ·rw [if_neg c11] at H
       exact absurd H (by simp)
     ·rw [if_neg c10] at H
      have c10b0 : decide (x19_1 < (l0_1.length : Int)) = false := decide_eq_false c10
      clear c10; obtain rfl := Option.some.inj H
      go_wp2
      go_ret
      exact ⟨tE, bBl HB.out⟩
end Go.Proofs.Ytkjkokgbhepmoaa.PB

namespace Go.Proofs.Ytkjkokgbhepmoaa.PB
open Go.RowKit Go.Proofs.YtkjkokgbhepmoaaW.PrintWords Go.Proofs.YtkjkokgbhepmoaaW.PrintLast Go.Proofs.YtkjkokgbhepmoaaW.PrintMore
attribute [local go_sem] max2_int min2_int max_two min_two max_three min_three max_four min_four
def batch_checkProperty.f (l0_0 : List ByteArray) (l0_1 : List (S63)) (l0_2 : List (S27)) (l0_3 : List (S65)) (a0_4 : Int) (a0_5 : Int) (a0_6 : Int) (a1_0 : ByteArray) (l1_1 : List Int) (a1_2 : Int) (a1_3 : Int) : Option (Int) := if (l1_1.length : Int) = (l0_0.length : Int) then ((x_coefs.f l1_1).bind fun t136 => (if t136 = true then (some 1) else ((batch_span.f a1_2 a1_3 (-10000) 10000).bind fun t137 => (if t137 = true then (some 0) else (some 1))))) else (some 1)
set_option maxHeartbeats 8000000 in
set_option maxRecDepth 100000 in
theorem batch_checkProperty.calls (A0_0 : Option Addr) (c0_0 : Nat) (l0_0 : List ByteArray) (A0_1 : Option Addr) (c0_1 : Nat) (l0_1 : List (S63)) (A0_2 : Option Addr) (c0_2 : Nat) (l0_2 : List (S27)) (A0_3 : Option Addr) (c0_3 : Nat) (l0_3 : List (S65)) (a0_4 : Int) (a0_5 : Int) (a0_6 : Int) (a1_0 : ByteArray) (A1_1 : Option Addr) (c1_1 : Nat) (l1_1 : List Int) (a1_2 : Int) (a1_3 : Int) (r : Int) (w : World) (hr0_0 : Kd.C Kd.string w A0_0 l0_0.length l0_0) (hc0_0 : l0_0.length ≤ c0_0) (hr0_1 : Kd.C k63 w A0_1 l0_1.length l0_1) (hc0_1 : l0_1.length ≤ c0_1) (hr0_2 : Kd.C k27 w A0_2 l0_2.length l0_2) (hc0_2 : l0_2.length ≤ c0_2) (hr0_3 : Kd.C k65 w A0_3 l0_3.length l0_3) (hc0_3 : l0_3.length ≤ c0_3) (hr1_1 : Kd.C (Kd.int .i64) w A1_1 l1_1.length l1_1) (hc1_1 : l1_1.length ≤ c1_1) (h : batch_checkProperty.f l0_0 l0_1 l0_2 l0_3 a0_4 a0_5 a0_6 a1_0 l1_1 a1_2 a1_3 = some r) :
  Calls Try.prog 73 #[.agg #[.slice A0_0 l0_0.length c0_0, .slice A0_1 l0_1.length c0_1, .slice A0_2 l0_2.length c0_2, .slice A0_3 l0_3.length c0_3, .int .i64 a0_4, .int .i64 a0_5, .int .i64 a0_6], .agg #[.string a1_0, .slice A1_1 l1_1.length c1_1, .int .i64 a1_2, .int .i64 a1_3]] w fun e w' => e = .returned (.int .i64 r) ∧ Below w.heap.size w w' := by
 have hu29 := Try.underlying29; have hu65 := Try.underlying65; have hu27 := Try.underlying27; have HR0_0 := Sd.mk hr0_0; have HC0_0 := Sd.mk hc0_0; clear hr0_0 hc0_0; have HR0_1 := Sd.mk hr0_1; have HC0_1 := Sd.mk hc0_1; clear hr0_1 hc0_1; have HR0_2 := Sd.mk hr0_2; have HC0_2 := Sd.mk hc0_2; clear hr0_2 hc0_2; have HR0_3 := Sd.mk hr0_3; have HC0_3 := Sd.mk hc0_3; clear hr0_3 hc0_3; have HR1_1 := Sd.mk hr1_1; have HC1_1 := Sd.mk hc1_1; clear hr1_1 hc1_1; have HB := Sd.mk (Below.refl w.heap.size w)
 have H : (if (l1_1.length : Int) = (l0_0.length : Int) then ((x_coefs.f l1_1).bind fun t136 => (if t136 = true then (some 1) else ((batch_span.f a1_2 a1_3 (-10000) 10000).bind fun t137 => (if t137 = true then (some 0) else (some 1))))) else (some 1)) = some r := h
 clear h
 by_cases c3 : (l1_1.length : Int) = (l0_0.length : Int)
 ·rw [if_pos c3] at H
  have c3b0 : ((l1_1.length : Int) == (l0_0.length : Int)) = true := beq_iff_eq.mpr c3
  have c3b1 : ((l1_1.length : Int) != (l0_0.length : Int)) = false := bne_eq_false_iff_eq.mpr c3
  have c3b2 : (l1_1.length == l0_0.length) = true := by first | simpa using c3 | (simp at c3 ⊢; omega)
  clear c3; replace H := Option.bind_eq_some_iff.mp H; obtain ⟨t136, A40, H⟩ := H
  try dsimp only at H
  have A4 := Sd.mk A40; clear A40
  by_cases c5 : t136 = true
  ·subst c5
   have H1 : (some 1) = some r := by rw [if_pos rfl] at H; exact H
   clear H; have H := H1; clear H1; obtain rfl := Option.some.inj H
   go_enter Try.func73, Try.ntmps73
   go_wp2_with (first | ((with_reducible refine gate_dst (N := 2) rfl ?_); refine box_event ?hg (N := 2) ?hd (cs := #[.slice A0_0 l0_0.length c0_0, .slice A0_1 l0_1.length c0_1, .slice A0_2 l0_2.length c0_2, .slice A0_3 l0_3.length c0_3, .int .i64 a0_4, .int .i64 a0_5, .int .i64 a0_6]) (t := 29) ?hr ?_; (case hd => rfl); (case hg => rfl); (case hr => exact tG); intro gb134 hg w6 hbox hb; have BK134 := Sd.mk (hbox); have GW134 := Sd.mk (bSz hg (bBl HB.out)); have GE134 := Sd.mk (bSz hg (bBl HB.out)); replace HB := Sd.mk (below_step (bBl HB.out) hb); clear hb hbox hg) | ((with_reducible refine gate_dst (N := 3) rfl ?_); refine box_event ?hg (N := 3) ?hd (cs := #[.string a1_0, .slice A1_1 l1_1.length c1_1, .int .i64 a1_2, .int .i64 a1_3]) (t := 65) ?hr ?_; (case hd => rfl); (case hg => rfl); (case hr => exact tG); intro gb135 hg w7 hbox hb; have BK135 := Sd.mk (hbox); have GW135 := Sd.mk (bSz hg (bBl HB.out)); have GE135 := Sd.mk (bSz hg (bBl HB.out)); replace HB := Sd.mk (below_step (bBl HB.out) hb); have NB134_135 := Sd.mk (bNl hg (bkA BK134.out)); have NB135_134 := Sd.mk (bNg hg (bkA BK134.out)); replace BK134 := Sd.mk (blk_below (bkA BK134.out) hb); clear hb hbox hg; have hnb8 := NB135_134.out; have hnc8 := NB134_135.out; obtain ⟨u9_0, u9_1, u9_2, u9_3, o9_0, o9_1, o9_2, o9_3⟩ := bc4 (w := w7) BK135.out; obtain ⟨u10_0, u10_1, u10_2, u10_3, u10_4, u10_5, u10_6, o10_0, o10_1, o10_2, o10_3, o10_4, o10_5, o10_6⟩ := bc7 (w := w7) BK134.out) | (go_at_call 80; (with_reducible refine (x_coefs.calls _ _ l1_1 true _ (cS (Kd.C_below HR1_1.out HB.out)) HC1_1.out A4.out).mono ?_); rintro e w11 ⟨rfl, hb⟩; replace BK134 := Sd.mk (blk_below (bkA BK134.out) hb); replace BK135 := Sd.mk (blk_below (bkA BK135.out) hb); replace HB := Sd.mk (below_step (bBl HB.out) hb); (try clear hb); (try clear hb2); (try clear hk); (try clear hi)))
   go_ret
   exact ⟨tE, bBl HB.out⟩
  ·replace c5 := Bool.eq_false_iff.mpr c5
   subst c5
   have H1 : ((batch_span.f a1_2 a1_3 (-10000) 10000).bind fun t137 => (if t137 = true then (some 0) else (some 1))) = some r := by rw [if_neg (show ¬ (false = true) by decide)] at H; exact H
   clear H; have H := H1; clear H1; replace H := Option.bind_eq_some_iff.mp H; obtain ⟨t137, A120, H⟩ := H
   try dsimp only at H
   have A12 := Sd.mk A120; clear A120
   by_cases c13 : t137 = true
   ·subst c13
    have H1 : (some 0) = some r := by rw [if_pos rfl] at H; exact H
    clear H; have H := H1; clear H1; obtain rfl := Option.some.inj H
    go_enter Try.func73, Try.ntmps73
    go_wp2_with (first | ((with_reducible refine gate_dst (N := 2) rfl ?_); refine box_event ?hg (N := 2) ?hd (cs := #[.slice A0_0 l0_0.length c0_0, .slice A0_1 l0_1.length c0_1, .slice A0_2 l0_2.length c0_2, .slice A0_3 l0_3.length c0_3, .int .i64 a0_4, .int .i64 a0_5, .int .i64 a0_6]) (t := 29) ?hr ?_; (case hd => rfl); (case hg => rfl); (case hr => exact tG); intro gb134 hg w14 hbox hb; have BK134 := Sd.mk (hbox); have GW134 := Sd.mk (bSz hg (bBl HB.out)); have GE134 := Sd.mk (bSz hg (bBl HB.out)); replace HB := Sd.mk (below_step (bBl HB.out) hb); clear hb hbox hg) | ((with_reducible refine gate_dst (N := 3) rfl ?_); refine box_event ?hg (N := 3) ?hd (cs := #[.string a1_0, .slice A1_1 l1_1.length c1_1, .int .i64 a1_2, .int .i64 a1_3]) (t := 65) ?hr ?_; (case hd => rfl); (case hg => rfl); (case hr => exact tG); intro gb135 hg w15 hbox hb; have BK135 := Sd.mk (hbox); have GW135 := Sd.mk (bSz hg (bBl HB.out)); have GE135 := Sd.mk (bSz hg (bBl HB.out)); replace HB := Sd.mk (below_step (bBl HB.out) hb); have NB134_135 := Sd.mk (bNl hg (bkA BK134.out)); have NB135_134 := Sd.mk (bNg hg (bkA BK134.out)); replace BK134 := Sd.mk (blk_below (bkA BK134.out) hb); clear hb hbox hg; have hnb16 := NB135_134.out; have hnc16 := NB134_135.out; obtain ⟨u17_0, u17_1, u17_2, u17_3, o17_0, o17_1, o17_2, o17_3⟩ := bc4 (w := w15) BK135.out; obtain ⟨u18_0, u18_1, u18_2, u18_3, u18_4, u18_5, u18_6, o18_0, o18_1, o18_2, o18_3, o18_4, o18_5, o18_6⟩ := bc7 (w := w15) BK134.out) | (go_at_call 80; (with_reducible refine (x_coefs.calls _ _ l1_1 false _ (cS (Kd.C_below HR1_1.out HB.out)) HC1_1.out A4.out).mono ?_); rintro e w19 ⟨rfl, hb⟩; replace BK134 := Sd.mk (blk_below (bkA BK134.out) hb); replace BK135 := Sd.mk (blk_below (bkA BK135.out) hb); replace HB := Sd.mk (below_step (bBl HB.out) hb); (try clear hb); (try clear hb2); (try clear hk); (try clear hi); obtain ⟨u20_0, u20_1, u20_2, u20_3, o20_0, o20_1, o20_2, o20_3⟩ := bc4 (w := w19) BK135.out) | (go_at_call 69; (with_reducible refine (batch_span.calls a1_2 a1_3 (-10000) 10000 true _ A12.out).mono ?_); rintro e w21 ⟨rfl, hb⟩; replace BK134 := Sd.mk (blk_below (bkA BK134.out) hb); replace BK135 := Sd.mk (blk_below (bkA BK135.out) hb); replace HB := Sd.mk (below_step (bBl HB.out) hb); (try clear hb); (try clear hb2); (try clear hk); (try clear hi)))
    go_ret
    exact ⟨tE, bBl HB.out⟩
   ·replace c13 := Bool.eq_false_iff.mpr c13
    subst c13
    have H1 : (some 1) = some r := by rw [if_neg (show ¬ (false = true) by decide)] at H; exact H
    clear H; have H := H1; clear H1; obtain rfl := Option.some.inj H
    go_enter Try.func73, Try.ntmps73
    go_wp2_with (first | ((with_reducible refine gate_dst (N := 2) rfl ?_); refine box_event ?hg (N := 2) ?hd (cs := #[.slice A0_0 l0_0.length c0_0, .slice A0_1 l0_1.length c0_1, .slice A0_2 l0_2.length c0_2, .slice A0_3 l0_3.length c0_3, .int .i64 a0_4, .int .i64 a0_5, .int .i64 a0_6]) (t := 29) ?hr ?_; (case hd => rfl); (case hg => rfl); (case hr => exact tG); intro gb134 hg w22 hbox hb; have BK134 := Sd.mk (hbox); have GW134 := Sd.mk (bSz hg (bBl HB.out)); have GE134 := Sd.mk (bSz hg (bBl HB.out)); replace HB := Sd.mk (below_step (bBl HB.out) hb); clear hb hbox hg) | ((with_reducible refine gate_dst (N := 3) rfl ?_); refine box_event ?hg (N := 3) ?hd (cs := #[.string a1_0, .slice A1_1 l1_1.length c1_1, .int .i64 a1_2, .int .i64 a1_3]) (t := 65) ?hr ?_; (case hd => rfl); (case hg => rfl); (case hr => exact tG); intro gb135 hg w23 hbox hb; have BK135 := Sd.mk (hbox); have GW135 := Sd.mk (bSz hg (bBl HB.out)); have GE135 := Sd.mk (bSz hg (bBl HB.out)); replace HB := Sd.mk (below_step (bBl HB.out) hb); have NB134_135 := Sd.mk (bNl hg (bkA BK134.out)); have NB135_134 := Sd.mk (bNg hg (bkA BK134.out)); replace BK134 := Sd.mk (blk_below (bkA BK134.out) hb); clear hb hbox hg; have hnb24 := NB135_134.out; have hnc24 := NB134_135.out; obtain ⟨u25_0, u25_1, u25_2, u25_3, o25_0, o25_1, o25_2, o25_3⟩ := bc4 (w := w23) BK135.out; obtain ⟨u26_0, u26_1, u26_2, u26_3, u26_4, u26_5, u26_6, o26_0, o26_1, o26_2, o26_3, o26_4, o26_5, o26_6⟩ := bc7 (w := w23) BK134.out) | (go_at_call 80; (with_reducible refine (x_coefs.calls _ _ l1_1 false _ (cS (Kd.C_below HR1_1.out HB.out)) HC1_1.out A4.out).mono ?_); rintro e w27 ⟨rfl, hb⟩; replace BK134 := Sd.mk (blk_below (bkA BK134.out) hb); replace BK135 := Sd.mk (blk_below (bkA BK135.out) hb); replace HB := Sd.mk (below_step (bBl HB.out) hb); (try clear hb); (try clear hb2); (try clear hk); (try clear hi); obtain ⟨u28_0, u28_1, u28_2, u28_3, o28_0, o28_1, o28_2, o28_3⟩ := bc4 (w := w27) BK135.out) | (go_at_call 69; (with_reducible refine (batch_span.calls a1_2 a1_3 (-10000) 10000 false _ A12.out).mono ?_); rintro e w29 ⟨rfl, hb⟩; replace BK134 := Sd.mk (blk_below (bkA BK134.out) hb); replace BK135 := Sd.mk (blk_below (bkA BK135.out) hb); replace HB := Sd.mk (below_step (bBl HB.out) hb); (try clear hb); (try clear hb2); (try clear hk); (try clear hi)))
    go_ret
    exact ⟨tE, bBl HB.out⟩
 ·rw [if_neg c3] at H
  have c3b0 : ((l1_1.length : Int) == (l0_0.length : Int)) = false := beq_eq_false_iff_ne.mpr c3
  have c3b1 : ((l1_1.length : Int) != (l0_0.length : Int)) = true := bne_iff_ne.mpr c3
  have c3b2 : (l1_1.length == l0_0.length) = false := by first | simpa using c3 | (simp at c3 ⊢; omega)
  obtain rfl := Option.some.inj H
  go_enter Try.func73, Try.ntmps73
  go_wp2_with (first | ((with_reducible refine gate_dst (N := 2) rfl ?_); refine box_event ?hg (N := 2) ?hd (cs := #[.slice A0_0 l0_0.length c0_0, .slice A0_1 l0_1.length c0_1, .slice A0_2 l0_2.length c0_2, .slice A0_3 l0_3.length c0_3, .int .i64 a0_4, .int .i64 a0_5, .int .i64 a0_6]) (t := 29) ?hr ?_; (case hd => rfl); (case hg => rfl); (case hr => exact tG); intro gb134 hg w30 hbox hb; have BK134 := Sd.mk (hbox); have GW134 := Sd.mk (bSz hg (bBl HB.out)); have GE134 := Sd.mk (bSz hg (bBl HB.out)); replace HB := Sd.mk (below_step (bBl HB.out) hb); clear hb hbox hg) | ((with_reducible refine gate_dst (N := 3) rfl ?_); refine box_event ?hg (N := 3) ?hd (cs := #[.string a1_0, .slice A1_1 l1_1.length c1_1, .int .i64 a1_2, .int .i64 a1_3]) (t := 65) ?hr ?_; (case hd => rfl); (case hg => rfl); (case hr => exact tG); intro gb135 hg w31 hbox hb; have BK135 := Sd.mk (hbox); have GW135 := Sd.mk (bSz hg (bBl HB.out)); have GE135 := Sd.mk (bSz hg (bBl HB.out)); replace HB := Sd.mk (below_step (bBl HB.out) hb); have NB134_135 := Sd.mk (bNl hg (bkA BK134.out)); have NB135_134 := Sd.mk (bNg hg (bkA BK134.out)); replace BK134 := Sd.mk (blk_below (bkA BK134.out) hb); clear hb hbox hg; have hnb32 := NB135_134.out; have hnc32 := NB134_135.out; obtain ⟨u33_0, u33_1, u33_2, u33_3, o33_0, o33_1, o33_2, o33_3⟩ := bc4 (w := w31) BK135.out; obtain ⟨u34_0, u34_1, u34_2, u34_3, u34_4, u34_5, u34_6, o34_0, o34_1, o34_2, o34_3, o34_4, o34_5, o34_6⟩ := bc7 (w := w31) BK134.out))
  go_ret
  exact ⟨tE, bBl HB.out⟩
end Go.Proofs.Ytkjkokgbhepmoaa.PB

namespace Go.Proofs.Ytkjkokgbhepmoaa.PB
open Go.RowKit Go.Proofs.YtkjkokgbhepmoaaW.PrintWords Go.Proofs.YtkjkokgbhepmoaaW.PrintLast Go.Proofs.YtkjkokgbhepmoaaW.PrintMore
attribute [local go_sem] max2_int min2_int max_two min_two max_three min_three max_four min_four
mutual
def batch_Check.j0 : Nat → Bool → List ByteArray → List (S63) → List (S27) → List (S65) → Int → Int → Int → Option (Int)
 | 0, _, _, _, _, _, _, _, _ => none
 | k + 1, x29, x139q0, x139q1, x139q2, x139q3, x139q4, x139q5, x139q6 => if x29 = true then (some 1) else (if (x139q3.length : Int) > 6 then (some 3) else (batch_Check.l0 k x139q3 (x139q3.length : Int) 0 x139q0 x139q1 x139q2 x139q3 x139q4 x139q5 x139q6))
def batch_Check.l0 : Nat → List (S65) → Int → Int → List ByteArray → List (S63) → List (S27) → List (S65) → Int → Int → Int → Option (Int)
 | 0, _, _, _, _, _, _, _, _, _, _ => none
 | k + 1, x35, x36, x37, x139q0, x139q1, x139q2, x139q3, x139q4, x139q5, x139q6 => if x37 < x36 then (if 0 ≤ x37 then (if x37 < (x35.length : Int) then ((batch_name.f k ((rd_T65 x35 x37).f0)).bind fun t144 => (if t144 = true then ((x_twiceP.f x139q3 x37).bind fun t145 => (if t145 = true then (some 6) else ((batch_checkProperty.f x139q0 x139q1 x139q2 x139q3 x139q4 x139q5 x139q6 ((rd_T65 x35 x37).f0) ((rd_T65 x35 x37).f1) ((rd_T65 x35 x37).f2.f0) ((rd_T65 x35 x37).f2.f1)).bind fun t146 => (if t146 = 0 then (batch_Check.l0 k x35 x36 (wrap64 (x37 + 1)) x139q0 x139q1 x139q2 x139q3 x139q4 x139q5 x139q6) else (some t146))))) else (some 5))) else (none)) else (none)) else ((batch_span.f x139q4 x139q5 (-10000) 10000).bind fun t147 => (if t147 = true then ((batch_within.f x139q6 1 10000).bind fun t148 => (if t148 = true then (some 0) else (some 1))) else (some 1)))
end
def batch_Check.f (k : Nat) (l0_0 : List ByteArray) (l0_1 : List (S63)) (l0_2 : List (S27)) (l0_3 : List (S65)) (a0_4 : Int) (a0_5 : Int) (a0_6 : Int) : Option (Int) := (batch_checkOxides.f k l0_0 l0_1 l0_2 l0_3 a0_4 a0_5 a0_6).bind fun t139 => (if t139 = 0 then ((batch_checkMaterials.f k l0_0 l0_1 l0_2 l0_3 a0_4 a0_5 a0_6).bind fun t140 => (if t140 = 0 then (if (l0_2.length : Int) = (l0_0.length : Int) then ((x_spans.f l0_2).bind fun t141 => (batch_Check.j0 k t141 l0_0 l0_1 l0_2 l0_3 a0_4 a0_5 a0_6)) else (batch_Check.j0 k true l0_0 l0_1 l0_2 l0_3 a0_4 a0_5 a0_6)) else (some t140))) else (some t139))
set_option maxHeartbeats 8000000 in
set_option maxRecDepth 100000 in
theorem batch_Check.calls (k : Nat) (A0_0 : Option Addr) (c0_0 : Nat) (l0_0 : List ByteArray) (A0_1 : Option Addr) (c0_1 : Nat) (l0_1 : List (S63)) (A0_2 : Option Addr) (c0_2 : Nat) (l0_2 : List (S27)) (A0_3 : Option Addr) (c0_3 : Nat) (l0_3 : List (S65)) (a0_4 : Int) (a0_5 : Int) (a0_6 : Int) (r : Int) (w : World) (hr0_0 : Kd.C Kd.string w A0_0 l0_0.length l0_0) (hc0_0 : l0_0.length ≤ c0_0) (hr0_1 : Kd.C k63 w A0_1 l0_1.length l0_1) (hc0_1 : l0_1.length ≤ c0_1) (hr0_2 : Kd.C k27 w A0_2 l0_2.length l0_2) (hc0_2 : l0_2.length ≤ c0_2) (hr0_3 : Kd.C k65 w A0_3 l0_3.length l0_3) (hc0_3 : l0_3.length ≤ c0_3) (h : batch_Check.f k l0_0 l0_1 l0_2 l0_3 a0_4 a0_5 a0_6 = some r) :
  Calls Try.prog 26 #[.agg #[.slice A0_0 l0_0.length c0_0, .slice A0_1 l0_1.length c0_1, .slice A0_2 l0_2.length c0_2, .slice A0_3 l0_3.length c0_3, .int .i64 a0_4, .int .i64 a0_5, .int .i64 a0_6]] w fun e w' => e = .returned (.int .i64 r) ∧ Below w.heap.size w w' := by
 have hu29 := Try.underlying29; have hu65 := Try.underlying65; have hu27 := Try.underlying27; have HR0_0 := Sd.mk hr0_0; have HC0_0 := Sd.mk hc0_0; clear hr0_0 hc0_0; have HR0_1 := Sd.mk hr0_1; have HC0_1 := Sd.mk hc0_1; clear hr0_1 hc0_1; have HR0_2 := Sd.mk hr0_2; have HC0_2 := Sd.mk hc0_2; clear hr0_2 hc0_2; have HR0_3 := Sd.mk hr0_3; have HC0_3 := Sd.mk hc0_3; clear hr0_3 hc0_3; have HB := Sd.mk (Below.refl w.heap.size w)
 have H : ((batch_checkOxides.f k l0_0 l0_1 l0_2 l0_3 a0_4 a0_5 a0_6).bind fun t139 => (if t139 = 0 then ((batch_checkMaterials.f k l0_0 l0_1 l0_2 l0_3 a0_4 a0_5 a0_6).bind fun t140 => (if t140 = 0 then (if (l0_2.length : Int) = (l0_0.length : Int) then ((x_spans.f l0_2).bind fun t141 => (batch_Check.j0 k t141 l0_0 l0_1 l0_2 l0_3 a0_4 a0_5 a0_6)) else (batch_Check.j0 k true l0_0 l0_1 l0_2 l0_3 a0_4 a0_5 a0_6)) else (some t140))) else (some t139))) = some r := h
 clear h; replace H := Option.bind_eq_some_iff.mp H; obtain ⟨t139, A20, H⟩ := H
 try dsimp only at H
 have A2 := Sd.mk A20; clear A20
 by_cases c3 : t139 = 0
 ·rw [if_pos c3] at H
  have c3b0 : (t139 == 0) = true := beq_iff_eq.mpr c3
  have c3b1 : (t139 != 0) = false := bne_eq_false_iff_eq.mpr c3
  clear c3; replace H := Option.bind_eq_some_iff.mp H; obtain ⟨t140, A40, H⟩ := H
  try dsimp only at H
  have A4 := Sd.mk A40; clear A40
  by_cases c5 : t140 = 0
  ·rw [if_pos c5] at H
   have c5b0 : (t140 == 0) = true := beq_iff_eq.mpr c5
   have c5b1 : (t140 != 0) = false := bne_eq_false_iff_eq.mpr c5
   clear c5; have HC6 := Sd.mk H; clear H
   go_enter Try.func26, Try.ntmps26
   go_upto_region 7 with (first | ((with_reducible refine gate_dst (N := 1) rfl ?_); refine box_event ?hg (N := 1) ?hd (cs := #[.slice A0_0 l0_0.length c0_0, .slice A0_1 l0_1.length c0_1, .slice A0_2 l0_2.length c0_2, .slice A0_3 l0_3.length c0_3, .int .i64 a0_4, .int .i64 a0_5, .int .i64 a0_6]) (t := 29) ?hr ?_; (case hd => rfl); (case hg => rfl); (case hr => exact tG); intro gb138 hg w7 hbox hb; have BK138 := Sd.mk (hbox); have GW138 := Sd.mk (bSz hg (bBl HB.out)); have GE138 := Sd.mk (bSz hg (bBl HB.out)); replace HB := Sd.mk (below_step (bBl HB.out) hb); clear hb hbox hg; obtain ⟨u8_0, u8_1, u8_2, u8_3, u8_4, u8_5, u8_6, o8_0, o8_1, o8_2, o8_3, o8_4, o8_5, o8_6⟩ := bc7 (w := w7) BK138.out) | ((with_reducible refine gate_callee (f := 65) rfl ?_); refine goesL_ (some 9) rfl rfl Try.func65 (by kernel_rfl) rfl #[.agg #[.slice A0_0 l0_0.length c0_0, .slice A0_1 l0_1.length c0_1, .slice A0_2 l0_2.length c0_2, .slice A0_3 l0_3.length c0_3, .int .i64 a0_4, .int .i64 a0_5, .int .i64 a0_6]] rfl tM ?_; (with_reducible refine (batch_checkOxides.calls k _ _ l0_0 _ _ l0_1 _ _ l0_2 _ _ l0_3 a0_4 a0_5 a0_6 t139 _ (cS (Kd.C_below HR0_0.out HB.out)) HC0_0.out (cS (Kd.C_below HR0_1.out HB.out)) HC0_1.out (cS (Kd.C_below HR0_2.out HB.out)) HC0_2.out (cS (Kd.C_below HR0_3.out HB.out)) HC0_3.out A2.out).mono ?_); rintro e w9 ⟨rfl, hb⟩; refine ⟨_, rfl, ?_⟩; replace BK138 := Sd.mk (blk_below (bkA BK138.out) hb); replace HB := Sd.mk (below_step (bBl HB.out) hb); (try clear hb); (try clear hb2); (try clear hk); (try clear hi); obtain ⟨u10_0, u10_1, u10_2, u10_3, u10_4, u10_5, u10_6, o10_0, o10_1, o10_2, o10_3, o10_4, o10_5, o10_6⟩ := bc7 (w := w9) BK138.out) | ((with_reducible refine gate_callee (f := 66) rfl ?_); refine goesL_ (some 14) rfl rfl Try.func66 (by kernel_rfl) rfl #[.agg #[.slice A0_0 l0_0.length c0_0, .slice A0_1 l0_1.length c0_1, .slice A0_2 l0_2.length c0_2, .slice A0_3 l0_3.length c0_3, .int .i64 a0_4, .int .i64 a0_5, .int .i64 a0_6]] rfl tM ?_; (with_reducible refine (batch_checkMaterials.calls k _ _ l0_0 _ _ l0_1 _ _ l0_2 _ _ l0_3 a0_4 a0_5 a0_6 t140 _ (cS (Kd.C_below HR0_0.out HB.out)) HC0_0.out (cS (Kd.C_below HR0_1.out HB.out)) HC0_1.out (cS (Kd.C_below HR0_2.out HB.out)) HC0_2.out (cS (Kd.C_below HR0_3.out HB.out)) HC0_3.out A4.out).mono ?_); rintro e w11 ⟨rfl, hb⟩; refine ⟨_, rfl, ?_⟩; replace BK138 := Sd.mk (blk_below (bkA BK138.out) hb); replace HB := Sd.mk (below_step (bBl HB.out) hb); (try clear hb); (try clear hb2); (try clear hk); (try clear hi)))
   (try simp only [Act.put, List.setIfInBounds_toArray, List.set_cons_zero, List.set_cons_succ])
   go_cut [29] (fun v29 wc => ∃ (kq : Nat) (x29_5 : Bool), v29 = .bool x29_5 ∧ Sd (batch_Check.j0 kq x29_5 l0_0 l0_1 l0_2 l0_3 a0_4 a0_5 a0_6 = some r) ∧ Sd (kq ≤ k) ∧ Sd (wc.heap[gb138]? = some (.cells #[(.slice A0_0 l0_0.length c0_0), (.slice A0_1 l0_1.length c0_1), (.slice A0_2 l0_2.length c0_2), (.slice A0_3 l0_3.length c0_3), .int .i64 a0_4, .int .i64 a0_5, .int .i64 a0_6] 29 (0, 0))) ∧ Sd (Below w.heap.size w wc))
   case first =>
    have H := HC6.out; clear HC6
    by_cases c12 : (l0_2.length : Int) = (l0_0.length : Int)
    ·rw [if_pos c12] at H
     have c12b0 : ((l0_2.length : Int) == (l0_0.length : Int)) = true := beq_iff_eq.mpr c12
     have c12b1 : ((l0_2.length : Int) != (l0_0.length : Int)) = false := bne_eq_false_iff_eq.mpr c12
     have c12b2 : (l0_2.length == l0_0.length) = true := by first | simpa using c12 | (simp at c12 ⊢; omega)
     clear c12
     (first | rw [c12b0] | (simp only [i64_w, i32_w]; rw [c12b0]) | skip)
     replace H := Option.bind_eq_some_iff.mp H; obtain ⟨t141, A130, H⟩ := H
     try dsimp only at H
     have A13 := Sd.mk A130; clear A130; have H' := Sd.mk H; clear H; obtain ⟨u14_0, u14_1, u14_2, u14_3, u14_4, u14_5, u14_6, o14_0, o14_1, o14_2, o14_3, o14_4, o14_5, o14_6⟩ := bc7 (w := w11) BK138.out
     go_wp2_with (first | (go_at_call 67; (with_reducible refine (x_spans.calls _ _ l0_2 t141 _ (cS (Kd.C_below HR0_2.out HB.out)) HC0_2.out A13.out).mono ?_); rintro e w15 ⟨rfl, hb⟩; replace BK138 := Sd.mk (blk_below (bkA BK138.out) hb); replace HB := Sd.mk (below_step (bBl HB.out) hb); (try clear hb); (try clear hb2); (try clear hk); (try clear hi)))
     go_meet
     case rel => exact ⟨_, (t141), tS, H', ⟨by first | omega | exact Nat.le_refl _⟩, ⟨bkA BK138.out⟩, ⟨bBl HB.out⟩⟩
    ·rw [if_neg c12] at H
     have c12b0 : ((l0_2.length : Int) == (l0_0.length : Int)) = false := beq_eq_false_iff_ne.mpr c12
     have c12b1 : ((l0_2.length : Int) != (l0_0.length : Int)) = true := bne_iff_ne.mpr c12
     have c12b2 : (l0_2.length == l0_0.length) = false := by first | simpa using c12 | (simp at c12 ⊢; omega)
     (first | rw [c12b0] | (simp only [i64_w, i32_w]; rw [c12b0]) | skip)
     have H' := Sd.mk H; clear H; obtain ⟨u16_0, u16_1, u16_2, u16_3, u16_4, u16_5, u16_6, o16_0, o16_1, o16_2, o16_3, o16_4, o16_5, o16_6⟩ := bc7 (w := w11) BK138.out
     go_wp2
     go_meet
     case rel => exact ⟨_, (true), tS, H', ⟨by first | omega | exact Nat.le_refl _⟩, ⟨bkA BK138.out⟩, ⟨bBl HB.out⟩⟩
   case rest =>
    clear HC6; (try clear c1); (try clear c2); (try clear p2); (try clear c3); (try clear c3b0); (try clear c3b1); (try clear c5); (try clear c5b0); (try clear c5b1); (try clear c6); (try clear c12); (try clear c12b0); (try clear c12b1); (try clear c12b2); (try clear u10_0 u10_1 u10_2 u10_3 u10_4 u10_5 u10_6); (try clear u14_0 u14_1 u14_2 u14_3 u14_4 u14_5 u14_6); (try clear u16_0 u16_1 u16_2 u16_3 u16_4 u16_5 u16_6); (try clear u8_0 u8_1 u8_2 u8_3 u8_4 u8_5 u8_6); (try clear o10_0 o10_1 o10_2 o10_3 o10_4 o10_5 o10_6); (try clear o14_0 o14_1 o14_2 o14_3 o14_4 o14_5 o14_6); (try clear o16_0 o16_1 o16_2 o16_3 o16_4 o16_5 o16_6); (try clear o8_0 o8_1 o8_2 o8_3 o8_4 o8_5 o8_6); obtain ⟨kq, x29_5, rfl, HA, HJ5, BK138, HB⟩ := hcut
    cases kq with
    | zero => exact absurd HA.out (by simp [batch_Check.j0])
    | succ kj5 =>
     have H := HA.out; clear HA
     simp only [batch_Check.j0] at H
     by_cases c17 : x29_5 = true
     ·subst c17
      have H1 : (some 1) = some r := by rw [if_pos rfl] at H; exact H
      clear H; have H := H1; clear H1; obtain rfl := Option.some.inj H
      go_wp2
      go_ret
      exact ⟨tE, bBl HB.out⟩
     ·replace c17 := Bool.eq_false_iff.mpr c17
      subst c17
      have H1 : (if (l0_3.length : Int) > 6 then (some 3) else (batch_Check.l0 kj5 l0_3 (l0_3.length : Int) 0 l0_0 l0_1 l0_2 l0_3 a0_4 a0_5 a0_6)) = some r := by rw [if_neg (show ¬ (false = true) by decide)] at H; exact H
      clear H; have H := H1; clear H1
      by_cases c18 : (l0_3.length : Int) > 6
      ·rw [if_pos c18] at H
       have c18b0 : decide (6 < (l0_3.length : Int)) = true := decide_eq_true c18
       have c18b1 : decide (6 < l0_3.length) = true := decide_eq_true (by omega)
       clear c18; obtain rfl := Option.some.inj H; obtain ⟨u19_0, u19_1, u19_2, u19_3, u19_4, u19_5, u19_6, o19_0, o19_1, o19_2, o19_3, o19_4, o19_5, o19_6⟩ := bc7 (w := wc) BK138.out
       go_wp2
       go_ret
       exact ⟨tE, bBl HB.out⟩
      ·rw [if_neg c18] at H
       have c18b0 : decide (6 < (l0_3.length : Int)) = false := decide_eq_false c18
       have c18b1 : decide (6 < l0_3.length) = false := decide_eq_false (by omega)
       clear c18; have H' := Sd.mk H; clear H; obtain ⟨u20_0, u20_1, u20_2, u20_3, u20_4, u20_5, u20_6, o20_0, o20_1, o20_2, o20_3, o20_4, o20_5, o20_6⟩ := bc7 (w := wc) BK138.out
       go_wp2
       go_loopg [37] kj5 (fun kq v37 w' => ∃ (x37_2 : Int), v37 = .int .i64 x37_2 ∧ Sd (batch_Check.l0 kq l0_3 (l0_3.length : Int) x37_2 l0_0 l0_1 l0_2 l0_3 a0_4 a0_5 a0_6 = some r) ∧ Sd (kq ≤ kj5) ∧ Sd (w'.heap[gb138]? = some (.cells #[(.slice A0_0 l0_0.length c0_0), (.slice A0_1 l0_1.length c0_1), (.slice A0_2 l0_2.length c0_2), (.slice A0_3 l0_3.length c0_3), .int .i64 a0_4, .int .i64 a0_5, .int .i64 a0_6] 29 (0, 0))) ∧ Sd (Below w.heap.size w w'))
       case atStart => exact ⟨(0), tS, H', ⟨Nat.le_refl _⟩, ⟨bkA BK138.out⟩, ⟨bBl HB.out⟩⟩
       case round =>
        clear H'; (try clear c1); (try clear c2); (try clear p2 p2); (try clear c3); (try clear c3b0); (try clear c3b1); (try clear c5); (try clear c5b0); (try clear c5b1); (try clear c6); (try clear c12); (try clear c12b0); (try clear c12b1); (try clear c12b2); (try clear c17); (try clear c18); (try clear c18b0); (try clear c18b1); (try clear u10_0 u10_1 u10_2 u10_3 u10_4 u10_5 u10_6); (try clear u14_0 u14_1 u14_2 u14_3 u14_4 u14_5 u14_6); (try clear u16_0 u16_1 u16_2 u16_3 u16_4 u16_5 u16_6); (try clear u19_0 u19_1 u19_2 u19_3 u19_4 u19_5 u19_6); (try clear u20_0 u20_1 u20_2 u20_3 u20_4 u20_5 u20_6); (try clear u8_0 u8_1 u8_2 u8_3 u8_4 u8_5 u8_6); (try clear o10_0 o10_1 o10_2 o10_3 o10_4 o10_5 o10_6); (try clear o14_0 o14_1 o14_2 o14_3 o14_4 o14_5 o14_6); (try clear o16_0 o16_1 o16_2 o16_3 o16_4 o16_5 o16_6); (try clear o19_0 o19_1 o19_2 o19_3 o19_4 o19_5 o19_6); (try clear o20_0 o20_1 o20_2 o20_3 o20_4 o20_5 o20_6); (try clear o8_0 o8_1 o8_2 o8_3 o8_4 o8_5 o8_6); obtain ⟨x37_2, rfl, HA, HK2, BK138, HB⟩ := hrel
        cases gk with
        | zero => exact absurd HA.out (by simp [batch_Check.l0])
        | succ k2 =>
         have H := HA.out; clear HA
         simp only [batch_Check.l0] at H
         by_cases c21 : x37_2 < (l0_3.length : Int)
         ·rw [if_pos c21] at H
          have c21b0 : decide (x37_2 < (l0_3.length : Int)) = true := decide_eq_true c21
          clear c21
          by_cases c22 : 0 ≤ x37_2
          ·rw [if_pos c22] at H
           have c22b0 : decide (0 ≤ x37_2) = true := decide_eq_true c22
           clear c22
           by_cases c23 : x37_2 < (l0_3.length : Int)
           ·rw [if_pos c23] at H
            have c23b0 : decide (x37_2 < (l0_3.length : Int)) = true := decide_eq_true c23
            clear c23; replace H := Option.bind_eq_some_iff.mp H; obtain ⟨t144, A240, H⟩ := H
            try dsimp only at H
            have A24 := Sd.mk A240; clear A240
            by_cases c25 : t144 = true
            ·subst c25
             have H1 : ((x_twiceP.f l0_3 x37_2).bind fun t145 => (if t145 = true then (some 6) else ((batch_checkProperty.f l0_0 l0_1 l0_2 l0_3 a0_4 a0_5 a0_6 ((rd_T65 l0_3 x37_2).f0) ((rd_T65 l0_3 x37_2).f1) ((rd_T65 l0_3 x37_2).f2.f0) ((rd_T65 l0_3 x37_2).f2.f1)).bind fun t146 => (if t146 = 0 then (batch_Check.l0 k2 l0_3 (l0_3.length : Int) (wrap64 (x37_2 + 1)) l0_0 l0_1 l0_2 l0_3 a0_4 a0_5 a0_6) else (some t146))))) = some r := by rw [if_pos rfl] at H; exact H
             clear H; have H := H1; clear H1; replace H := Option.bind_eq_some_iff.mp H; obtain ⟨t145, A260, H⟩ := H
             try dsimp only at H
             have A26 := Sd.mk A260; clear A260
             by_cases c27 : t145 = true
             ·subst c27
              have H1 : (some 6) = some r := by rw [if_pos rfl] at H; exact H
              clear H; have H := H1; clear H1; obtain rfl := Option.some.inj H
              have p142 : 0 ≤ (x37_2 : Int) := tB
              have q142 : x37_2 < (l0_3.length : Int) := tB
              obtain ⟨ad142, A142_1, c142_1, e142, hx142_0, hx142_1, hx142_2, hx142_3, hl142_1, hi142_1⟩ := at_T65 HR0_3.out x37_2 p142 q142; cases e142; replace hx142_0 := cU HB hx142_0; replace hx142_1 := cU HB hx142_1; replace hx142_2 := cU HB hx142_2; replace hx142_3 := cU HB hx142_3; have HR142_1 := Sd.mk hi142_1; have HC142_1 := Sd.mk hl142_1; clear hi142_1 hl142_1; replace p142 := eq_true p142; replace q142 := eq_true q142
              go_wp2_with (first | ((with_reducible refine gate_dst (N := 6) rfl ?_); refine box_event ?hg (N := 6) ?hd (cs := #[.string (⟨#[]⟩ : ByteArray), .slice none 0 0, .int .i64 0, .int .i64 0]) (t := 65) ?hr ?_; (case hd => rfl); (case hg => rfl); (case hr => exact tG); intro gb143 hg w28 hbox hb; have BK143 := Sd.mk (hbox); have GW143 := Sd.mk (bSz hg (bBl HB.out)); have GE143 := Sd.mk (bSz hg (bBl HB.out)); replace HB := Sd.mk (below_step (bBl HB.out) hb); have NB138_143 := Sd.mk (bNl hg (bkA BK138.out)); have NB143_138 := Sd.mk (bNg hg (bkA BK138.out)); replace BK138 := Sd.mk (blk_below (bkA BK138.out) hb); clear hb hbox hg; have hnb29 := NB143_138.out; have hnc29 := NB138_143.out; obtain ⟨u30_0, u30_1, u30_2, u30_3, o30_0, o30_1, o30_2, o30_3⟩ := bc4 (w := w28) BK143.out) | ((with_reducible refine gate_callee (f := 70) rfl ?_); refine goesL_ (some 45) rfl rfl Try.func70 (by kernel_rfl) rfl #[.string ((rd_T65 l0_3 x37_2).f0)] rfl tM ?_; (with_reducible refine (batch_name.calls k2 ((rd_T65 l0_3 x37_2).f0) true _ A24.out).mono ?_); rintro e w' ⟨rfl, ⟨nd, rfl⟩⟩; refine ⟨_, rfl, ?_⟩; obtain ⟨u31_0, u31_1, u31_2, u31_3, u31_4, u31_5, u31_6, o31_0, o31_1, o31_2, o31_3, o31_4, o31_5, o31_6⟩ := bc7 (w := w28) BK138.out) | ((with_reducible refine gate_callee (f := 71) rfl ?_); refine goesL_ (some 51) rfl rfl Try.func71 (by kernel_rfl) rfl #[.slice (some ad142) l0_3.length c0_3, .int .i64 x37_2, .func (.func 72) #[] #[]] rfl tM ?_; (with_reducible refine (x_twiceP.calls _ _ l0_3 x37_2 true _ (Kd.C_below HR0_3.out (bBl HB.out)) HC0_3.out A26.out).mono ?_); rintro e w32 ⟨rfl, hb⟩; refine ⟨_, rfl, ?_⟩; replace BK138 := Sd.mk (blk_below (g := gb138) (o := .cells #[.slice A0_0 l0_0.length c0_0, .slice A0_1 l0_1.length c0_1, .slice A0_2 l0_2.length c0_2, .slice (some ad142) l0_3.length c0_3, .int .i64 a0_4, .int .i64 a0_5, .int .i64 a0_6] 29 (0, 0)) (by (with_reducible repeat (first | refine blk_drewN ?_ _ | refine blk_drew ?_ | refine blk_alloc ?_ _)); refine blk_far ?_ NB138_143.out _; (with_reducible repeat (first | refine blk_drewN ?_ _ | refine blk_drew ?_ | refine blk_alloc ?_ _)); refine blk_far ?_ NB138_143.out _; (with_reducible repeat (first | refine blk_drewN ?_ _ | refine blk_drew ?_ | refine blk_alloc ?_ _)); refine blk_far ?_ NB138_143.out _; (with_reducible repeat (first | refine blk_drewN ?_ _ | refine blk_drew ?_ | refine blk_alloc ?_ _)); refine blk_far ?_ NB138_143.out _; (with_reducible repeat (first | refine blk_drewN ?_ _ | refine blk_drew ?_ | refine blk_alloc ?_ _)); exact BK138.out) hb); replace BK143 := Sd.mk (blk_below (g := gb143) (o := .cells #[.string ((rd_T65 l0_3 x37_2).f0), .slice A142_1 ((rd_T65 l0_3 x37_2).f1).length c142_1, .int .i64 ((rd_T65 l0_3 x37_2).f2.f0), .int .i64 ((rd_T65 l0_3 x37_2).f2.f1)] 65 (0, 0)) (by (with_reducible repeat (first | refine blk_drewN ?_ _ | refine blk_drew ?_ | refine blk_alloc ?_ _)); refine blk_put (cs := #[.string ((rd_T65 l0_3 x37_2).f0), .slice A142_1 ((rd_T65 l0_3 x37_2).f1).length c142_1, .int .i64 ((rd_T65 l0_3 x37_2).f2.f0), .int .i64 0]) ?_ 3 _ rfl; (with_reducible repeat (first | refine blk_drewN ?_ _ | refine blk_drew ?_ | refine blk_alloc ?_ _)); refine blk_put (cs := #[.string ((rd_T65 l0_3 x37_2).f0), .slice A142_1 ((rd_T65 l0_3 x37_2).f1).length c142_1, .int .i64 0, .int .i64 0]) ?_ 2 _ rfl; (with_reducible repeat (first | refine blk_drewN ?_ _ | refine blk_drew ?_ | refine blk_alloc ?_ _)); refine blk_put (cs := #[.string ((rd_T65 l0_3 x37_2).f0), .slice none 0 0, .int .i64 0, .int .i64 0]) ?_ 1 _ rfl; (with_reducible repeat (first | refine blk_drewN ?_ _ | refine blk_drew ?_ | refine blk_alloc ?_ _)); refine blk_put (cs := #[.string (⟨#[]⟩ : ByteArray), .slice none 0 0, .int .i64 0, .int .i64 0]) ?_ 0 _ rfl; (with_reducible repeat (first | refine blk_drewN ?_ _ | refine blk_drew ?_ | refine blk_alloc ?_ _)); exact BK143.out) hb); replace HB := Sd.mk (below_step (bBl HB.out) hb); (try clear hb); (try clear hb2); (try clear hk); (try clear hi)))
              go_ret
              exact ⟨tE, bBl HB.out⟩
             ·replace c27 := Bool.eq_false_iff.mpr c27
              subst c27
              have H1 : ((batch_checkProperty.f l0_0 l0_1 l0_2 l0_3 a0_4 a0_5 a0_6 ((rd_T65 l0_3 x37_2).f0) ((rd_T65 l0_3 x37_2).f1) ((rd_T65 l0_3 x37_2).f2.f0) ((rd_T65 l0_3 x37_2).f2.f1)).bind fun t146 => (if t146 = 0 then (batch_Check.l0 k2 l0_3 (l0_3.length : Int) (wrap64 (x37_2 + 1)) l0_0 l0_1 l0_2 l0_3 a0_4 a0_5 a0_6) else (some t146))) = some r := by rw [if_neg (show ¬ (false = true) by decide)] at H; exact H
              clear H; have H := H1; clear H1; replace H := Option.bind_eq_some_iff.mp H; obtain ⟨t146, A330, H⟩ := H
              try dsimp only at H
              have A33 := Sd.mk A330; clear A330
              by_cases c34 : t146 = 0
              ·rw [if_pos c34] at H
               have c34b0 : (t146 == 0) = true := beq_iff_eq.mpr c34
               have c34b1 : (t146 != 0) = false := bne_eq_false_iff_eq.mpr c34
               clear c34; have H' := Sd.mk H; clear H
               have p142 : 0 ≤ (x37_2 : Int) := tB
               have q142 : x37_2 < (l0_3.length : Int) := tB
               obtain ⟨ad142, A142_1, c142_1, e142, hx142_0, hx142_1, hx142_2, hx142_3, hl142_1, hi142_1⟩ := at_T65 HR0_3.out x37_2 p142 q142; cases e142; replace hx142_0 := cU HB hx142_0; replace hx142_1 := cU HB hx142_1; replace hx142_2 := cU HB hx142_2; replace hx142_3 := cU HB hx142_3; have HR142_1 := Sd.mk hi142_1; have HC142_1 := Sd.mk hl142_1; clear hi142_1 hl142_1; replace p142 := eq_true p142; replace q142 := eq_true q142
               go_wp2_with (first | ((with_reducible refine gate_dst (N := 6) rfl ?_); refine box_event ?hg (N := 6) ?hd (cs := #[.string (⟨#[]⟩ : ByteArray), .slice none 0 0, .int .i64 0, .int .i64 0]) (t := 65) ?hr ?_; (case hd => rfl); (case hg => rfl); (case hr => exact tG); intro gb143 hg w35 hbox hb; have BK143 := Sd.mk (hbox); have GW143 := Sd.mk (bSz hg (bBl HB.out)); have GE143 := Sd.mk (bSz hg (bBl HB.out)); replace HB := Sd.mk (below_step (bBl HB.out) hb); have NB138_143 := Sd.mk (bNl hg (bkA BK138.out)); have NB143_138 := Sd.mk (bNg hg (bkA BK138.out)); replace BK138 := Sd.mk (blk_below (bkA BK138.out) hb); clear hb hbox hg; have hnb36 := NB143_138.out; have hnc36 := NB138_143.out; obtain ⟨u37_0, u37_1, u37_2, u37_3, o37_0, o37_1, o37_2, o37_3⟩ := bc4 (w := w35) BK143.out) | ((with_reducible refine gate_callee (f := 70) rfl ?_); refine goesL_ (some 45) rfl rfl Try.func70 (by kernel_rfl) rfl #[.string ((rd_T65 l0_3 x37_2).f0)] rfl tM ?_; (with_reducible refine (batch_name.calls k2 ((rd_T65 l0_3 x37_2).f0) true _ A24.out).mono ?_); rintro e w' ⟨rfl, ⟨nd, rfl⟩⟩; refine ⟨_, rfl, ?_⟩; obtain ⟨u38_0, u38_1, u38_2, u38_3, u38_4, u38_5, u38_6, o38_0, o38_1, o38_2, o38_3, o38_4, o38_5, o38_6⟩ := bc7 (w := w35) BK138.out) | ((with_reducible refine gate_callee (f := 71) rfl ?_); refine goesL_ (some 51) rfl rfl Try.func71 (by kernel_rfl) rfl #[.slice (some ad142) l0_3.length c0_3, .int .i64 x37_2, .func (.func 72) #[] #[]] rfl tM ?_; (with_reducible refine (x_twiceP.calls _ _ l0_3 x37_2 false _ (Kd.C_below HR0_3.out (bBl HB.out)) HC0_3.out A26.out).mono ?_); rintro e w39 ⟨rfl, hb⟩; refine ⟨_, rfl, ?_⟩; replace BK138 := Sd.mk (blk_below (g := gb138) (o := .cells #[.slice A0_0 l0_0.length c0_0, .slice A0_1 l0_1.length c0_1, .slice A0_2 l0_2.length c0_2, .slice (some ad142) l0_3.length c0_3, .int .i64 a0_4, .int .i64 a0_5, .int .i64 a0_6] 29 (0, 0)) (by (with_reducible repeat (first | refine blk_drewN ?_ _ | refine blk_drew ?_ | refine blk_alloc ?_ _)); refine blk_far ?_ NB138_143.out _; (with_reducible repeat (first | refine blk_drewN ?_ _ | refine blk_drew ?_ | refine blk_alloc ?_ _)); refine blk_far ?_ NB138_143.out _; (with_reducible repeat (first | refine blk_drewN ?_ _ | refine blk_drew ?_ | refine blk_alloc ?_ _)); refine blk_far ?_ NB138_143.out _; (with_reducible repeat (first | refine blk_drewN ?_ _ | refine blk_drew ?_ | refine blk_alloc ?_ _)); refine blk_far ?_ NB138_143.out _; (with_reducible repeat (first | refine blk_drewN ?_ _ | refine blk_drew ?_ | refine blk_alloc ?_ _)); exact BK138.out) hb); replace BK143 := Sd.mk (blk_below (g := gb143) (o := .cells #[.string ((rd_T65 l0_3 x37_2).f0), .slice A142_1 ((rd_T65 l0_3 x37_2).f1).length c142_1, .int .i64 ((rd_T65 l0_3 x37_2).f2.f0), .int .i64 ((rd_T65 l0_3 x37_2).f2.f1)] 65 (0, 0)) (by (with_reducible repeat (first | refine blk_drewN ?_ _ | refine blk_drew ?_ | refine blk_alloc ?_ _)); refine blk_put (cs := #[.string ((rd_T65 l0_3 x37_2).f0), .slice A142_1 ((rd_T65 l0_3 x37_2).f1).length c142_1, .int .i64 ((rd_T65 l0_3 x37_2).f2.f0), .int .i64 0]) ?_ 3 _ rfl; (with_reducible repeat (first | refine blk_drewN ?_ _ | refine blk_drew ?_ | refine blk_alloc ?_ _)); refine blk_put (cs := #[.string ((rd_T65 l0_3 x37_2).f0), .slice A142_1 ((rd_T65 l0_3 x37_2).f1).length c142_1, .int .i64 0, .int .i64 0]) ?_ 2 _ rfl; (with_reducible repeat (first | refine blk_drewN ?_ _ | refine blk_drew ?_ | refine blk_alloc ?_ _)); refine blk_put (cs := #[.string ((rd_T65 l0_3 x37_2).f0), .slice none 0 0, .int .i64 0, .int .i64 0]) ?_ 1 _ rfl; (with_reducible repeat (first | refine blk_drewN ?_ _ | refine blk_drew ?_ | refine blk_alloc ?_ _)); refine blk_put (cs := #[.string (⟨#[]⟩ : ByteArray), .slice none 0 0, .int .i64 0, .int .i64 0]) ?_ 0 _ rfl; (with_reducible repeat (first | refine blk_drewN ?_ _ | refine blk_drew ?_ | refine blk_alloc ?_ _)); exact BK143.out) hb); replace HB := Sd.mk (below_step (bBl HB.out) hb); (try clear hb); (try clear hb2); (try clear hk); (try clear hi); obtain ⟨u40_0, u40_1, u40_2, u40_3, u40_4, u40_5, u40_6, o40_0, o40_1, o40_2, o40_3, o40_4, o40_5, o40_6⟩ := bc7 (w := w39) BK138.out; obtain ⟨u41_0, u41_1, u41_2, u41_3, o41_0, o41_1, o41_2, o41_3⟩ := bc4 (w := w39) BK143.out) | ((with_reducible refine gate_callee (f := 73) rfl ?_); refine goesL_ (some 54) rfl rfl Try.func73 (by kernel_rfl) rfl #[.agg #[.slice A0_0 l0_0.length c0_0, .slice A0_1 l0_1.length c0_1, .slice A0_2 l0_2.length c0_2, .slice (some ad142) l0_3.length c0_3, .int .i64 a0_4, .int .i64 a0_5, .int .i64 a0_6], .agg #[.string ((rd_T65 l0_3 x37_2).f0), .slice A142_1 ((rd_T65 l0_3 x37_2).f1).length c142_1, .int .i64 ((rd_T65 l0_3 x37_2).f2.f0), .int .i64 ((rd_T65 l0_3 x37_2).f2.f1)]] rfl tM ?_; (with_reducible refine (batch_checkProperty.calls _ _ l0_0 _ _ l0_1 _ _ l0_2 _ _ l0_3 a0_4 a0_5 a0_6 ((rd_T65 l0_3 x37_2).f0) _ _ ((rd_T65 l0_3 x37_2).f1) ((rd_T65 l0_3 x37_2).f2.f0) ((rd_T65 l0_3 x37_2).f2.f1) t146 _ (cS (Kd.C_below HR0_0.out HB.out)) HC0_0.out (cS (Kd.C_below HR0_1.out HB.out)) HC0_1.out (cS (Kd.C_below HR0_2.out HB.out)) HC0_2.out (cS (Kd.C_below HR0_3.out HB.out)) HC0_3.out (cS (Kd.C_below HR142_1.out HB.out)) HC142_1.out A33.out).mono ?_); rintro e w42 ⟨rfl, hb⟩; refine ⟨_, rfl, ?_⟩; replace BK138 := Sd.mk (blk_below (bkA BK138.out) hb); replace BK143 := Sd.mk (blk_below (bkA BK143.out) hb); replace HB := Sd.mk (below_step (bBl HB.out) hb); (try clear hb); (try clear hb2); (try clear hk); (try clear hi)))
               go_roundg k2
               case measure => have := HJ5.out; have := HK2.out; omega
               case rel => exact ⟨(wrap64 (x37_2 + 1)), tS, H', ⟨by have := HJ5.out; have := HK2.out; omega⟩, ⟨bkA BK138.out⟩, ⟨bBl HB.out⟩⟩
              ·rw [if_neg c34] at H
               have c34b0 : (t146 == 0) = false := beq_eq_false_iff_ne.mpr c34
               have c34b1 : (t146 != 0) = true := bne_iff_ne.mpr c34
               obtain rfl := Option.some.inj H
               have p142 : 0 ≤ (x37_2 : Int) := tB
               have q142 : x37_2 < (l0_3.length : Int) := tB
               obtain ⟨ad142, A142_1, c142_1, e142, hx142_0, hx142_1, hx142_2, hx142_3, hl142_1, hi142_1⟩ := at_T65 HR0_3.out x37_2 p142 q142; cases e142; replace hx142_0 := cU HB hx142_0; replace hx142_1 := cU HB hx142_1; replace hx142_2 := cU HB hx142_2; replace hx142_3 := cU HB hx142_3; have HR142_1 := Sd.mk hi142_1; have HC142_1 := Sd.mk hl142_1; clear hi142_1 hl142_1; replace p142 := eq_true p142; replace q142 := eq_true q142
               go_wp2_with (first | ((with_reducible refine gate_dst (N := 6) rfl ?_); refine box_event ?hg (N := 6) ?hd (cs := #[.string (⟨#[]⟩ : ByteArray), .slice none 0 0, .int .i64 0, .int .i64 0]) (t := 65) ?hr ?_; (case hd => rfl); (case hg => rfl); (case hr => exact tG); intro gb143 hg w43 hbox hb; have BK143 := Sd.mk (hbox); have GW143 := Sd.mk (bSz hg (bBl HB.out)); have GE143 := Sd.mk (bSz hg (bBl HB.out)); replace HB := Sd.mk (below_step (bBl HB.out) hb); have NB138_143 := Sd.mk (bNl hg (bkA BK138.out)); have NB143_138 := Sd.mk (bNg hg (bkA BK138.out)); replace BK138 := Sd.mk (blk_below (bkA BK138.out) hb); clear hb hbox hg; have hnb44 := NB143_138.out; have hnc44 := NB138_143.out; obtain ⟨u45_0, u45_1, u45_2, u45_3, o45_0, o45_1, o45_2, o45_3⟩ := bc4 (w := w43) BK143.out) | ((with_reducible refine gate_callee (f := 70) rfl ?_); refine goesL_ (some 45) rfl rfl Try.func70 (by kernel_rfl) rfl #[.string ((rd_T65 l0_3 x37_2).f0)] rfl tM ?_; (with_reducible refine (batch_name.calls k2 ((rd_T65 l0_3 x37_2).f0) true _ A24.out).mono ?_); rintro e w' ⟨rfl, ⟨nd, rfl⟩⟩; refine ⟨_, rfl, ?_⟩; obtain ⟨u46_0, u46_1, u46_2, u46_3, u46_4, u46_5, u46_6, o46_0, o46_1, o46_2, o46_3, o46_4, o46_5, o46_6⟩ := bc7 (w := w43) BK138.out) | ((with_reducible refine gate_callee (f := 71) rfl ?_); refine goesL_ (some 51) rfl rfl Try.func71 (by kernel_rfl) rfl #[.slice (some ad142) l0_3.length c0_3, .int .i64 x37_2, .func (.func 72) #[] #[]] rfl tM ?_; (with_reducible refine (x_twiceP.calls _ _ l0_3 x37_2 false _ (Kd.C_below HR0_3.out (bBl HB.out)) HC0_3.out A26.out).mono ?_); rintro e w47 ⟨rfl, hb⟩; refine ⟨_, rfl, ?_⟩; replace BK138 := Sd.mk (blk_below (g := gb138) (o := .cells #[.slice A0_0 l0_0.length c0_0, .slice A0_1 l0_1.length c0_1, .slice A0_2 l0_2.length c0_2, .slice (some ad142) l0_3.length c0_3, .int .i64 a0_4, .int .i64 a0_5, .int .i64 a0_6] 29 (0, 0)) (by (with_reducible repeat (first | refine blk_drewN ?_ _ | refine blk_drew ?_ | refine blk_alloc ?_ _)); refine blk_far ?_ NB138_143.out _; (with_reducible repeat (first | refine blk_drewN ?_ _ | refine blk_drew ?_ | refine blk_alloc ?_ _)); refine blk_far ?_ NB138_143.out _; (with_reducible repeat (first | refine blk_drewN ?_ _ | refine blk_drew ?_ | refine blk_alloc ?_ _)); refine blk_far ?_ NB138_143.out _; (with_reducible repeat (first | refine blk_drewN ?_ _ | refine blk_drew ?_ | refine blk_alloc ?_ _)); refine blk_far ?_ NB138_143.out _; (with_reducible repeat (first | refine blk_drewN ?_ _ | refine blk_drew ?_ | refine blk_alloc ?_ _)); exact BK138.out) hb); replace BK143 := Sd.mk (blk_below (g := gb143) (o := .cells #[.string ((rd_T65 l0_3 x37_2).f0), .slice A142_1 ((rd_T65 l0_3 x37_2).f1).length c142_1, .int .i64 ((rd_T65 l0_3 x37_2).f2.f0), .int .i64 ((rd_T65 l0_3 x37_2).f2.f1)] 65 (0, 0)) (by (with_reducible repeat (first | refine blk_drewN ?_ _ | refine blk_drew ?_ | refine blk_alloc ?_ _)); refine blk_put (cs := #[.string ((rd_T65 l0_3 x37_2).f0), .slice A142_1 ((rd_T65 l0_3 x37_2).f1).length c142_1, .int .i64 ((rd_T65 l0_3 x37_2).f2.f0), .int .i64 0]) ?_ 3 _ rfl; (with_reducible repeat (first | refine blk_drewN ?_ _ | refine blk_drew ?_ | refine blk_alloc ?_ _)); refine blk_put (cs := #[.string ((rd_T65 l0_3 x37_2).f0), .slice A142_1 ((rd_T65 l0_3 x37_2).f1).length c142_1, .int .i64 0, .int .i64 0]) ?_ 2 _ rfl; (with_reducible repeat (first | refine blk_drewN ?_ _ | refine blk_drew ?_ | refine blk_alloc ?_ _)); refine blk_put (cs := #[.string ((rd_T65 l0_3 x37_2).f0), .slice none 0 0, .int .i64 0, .int .i64 0]) ?_ 1 _ rfl; (with_reducible repeat (first | refine blk_drewN ?_ _ | refine blk_drew ?_ | refine blk_alloc ?_ _)); refine blk_put (cs := #[.string (⟨#[]⟩ : ByteArray), .slice none 0 0, .int .i64 0, .int .i64 0]) ?_ 0 _ rfl; (with_reducible repeat (first | refine blk_drewN ?_ _ | refine blk_drew ?_ | refine blk_alloc ?_ _)); exact BK143.out) hb); replace HB := Sd.mk (below_step (bBl HB.out) hb); (try clear hb); (try clear hb2); (try clear hk); (try clear hi); obtain ⟨u48_0, u48_1, u48_2, u48_3, u48_4, u48_5, u48_6, o48_0, o48_1, o48_2, o48_3, o48_4, o48_5, o48_6⟩ := bc7 (w := w47) BK138.out; obtain ⟨u49_0, u49_1, u49_2, u49_3, o49_0, o49_1, o49_2, o49_3⟩ := bc4 (w := w47) BK143.out) | ((with_reducible refine gate_callee (f := 73) rfl ?_); refine goesL_ (some 54) rfl rfl Try.func73 (by kernel_rfl) rfl #[.agg #[.slice A0_0 l0_0.length c0_0, .slice A0_1 l0_1.length c0_1, .slice A0_2 l0_2.length c0_2, .slice (some ad142) l0_3.length c0_3, .int .i64 a0_4, .int .i64 a0_5, .int .i64 a0_6], .agg #[.string ((rd_T65 l0_3 x37_2).f0), .slice A142_1 ((rd_T65 l0_3 x37_2).f1).length c142_1, .int .i64 ((rd_T65 l0_3 x37_2).f2.f0), .int .i64 ((rd_T65 l0_3 x37_2).f2.f1)]] rfl tM ?_; (with_reducible refine (batch_checkProperty.calls _ _ l0_0 _ _ l0_1 _ _ l0_2 _ _ l0_3 a0_4 a0_5 a0_6 ((rd_T65 l0_3 x37_2).f0) _ _ ((rd_T65 l0_3 x37_2).f1) ((rd_T65 l0_3 x37_2).f2.f0) ((rd_T65 l0_3 x37_2).f2.f1) t146 _ (cS (Kd.C_below HR0_0.out HB.out)) HC0_0.out (cS (Kd.C_below HR0_1.out HB.out)) HC0_1.out (cS (Kd.C_below HR0_2.out HB.out)) HC0_2.out (cS (Kd.C_below HR0_3.out HB.out)) HC0_3.out (cS (Kd.C_below HR142_1.out HB.out)) HC142_1.out A33.out).mono ?_); rintro e w50 ⟨rfl, hb⟩; refine ⟨_, rfl, ?_⟩; replace BK138 := Sd.mk (blk_below (bkA BK138.out) hb); replace BK143 := Sd.mk (blk_below (bkA BK143.out) hb); replace HB := Sd.mk (below_step (bBl HB.out) hb); (try clear hb); (try clear hb2); (try clear hk); (try clear hi)))
               go_ret
               exact ⟨tE, bBl HB.out⟩
            ·replace c25 := Bool.eq_false_iff.mpr c25
             subst c25
             have H1 : (some 5) = some r := by rw [if_neg (show ¬ (false = true) by decide)] at H; exact H
             clear H; have H := H1; clear H1; obtain rfl := Option.some.inj H
             have p142 : 0 ≤ (x37_2 : Int) := tB
             have q142 : x37_2 < (l0_3.length : Int) := tB
             obtain ⟨ad142, A142_1, c142_1, e142, hx142_0, hx142_1, hx142_2, hx142_3, hl142_1, hi142_1⟩ := at_T65 HR0_3.out x37_2 p142 q142; cases e142; replace hx142_0 := cU HB hx142_0; replace hx142_1 := cU HB hx142_1; replace hx142_2 := cU HB hx142_2; replace hx142_3 := cU HB hx142_3; have HR142_1 := Sd.mk hi142_1; have HC142_1 := Sd.mk hl142_1; clear hi142_1 hl142_1; replace p142 := eq_true p142; replace q142 := eq_true q142
             go_wp2_with (first | ((with_reducible refine gate_dst (N := 6) rfl ?_); refine box_event ?hg (N := 6) ?hd (cs := #[.string (⟨#[]⟩ : ByteArray), .slice none 0 0, .int .i64 0, .int .i64 0]) (t := 65) ?hr ?_; (case hd => rfl); (case hg => rfl); (case hr => exact tG); intro gb143 hg w51 hbox hb; have BK143 := Sd.mk (hbox); have GW143 := Sd.mk (bSz hg (bBl HB.out)); have GE143 := Sd.mk (bSz hg (bBl HB.out)); replace HB := Sd.mk (below_step (bBl HB.out) hb); have NB138_143 := Sd.mk (bNl hg (bkA BK138.out)); have NB143_138 := Sd.mk (bNg hg (bkA BK138.out)); replace BK138 := Sd.mk (blk_below (bkA BK138.out) hb); clear hb hbox hg; have hnb52 := NB143_138.out; have hnc52 := NB138_143.out; obtain ⟨u53_0, u53_1, u53_2, u53_3, o53_0, o53_1, o53_2, o53_3⟩ := bc4 (w := w51) BK143.out) | ((with_reducible refine gate_callee (f := 70) rfl ?_); refine goesL_ (some 45) rfl rfl Try.func70 (by kernel_rfl) rfl #[.string ((rd_T65 l0_3 x37_2).f0)] rfl tM ?_; (with_reducible refine (batch_name.calls k2 ((rd_T65 l0_3 x37_2).f0) false _ A24.out).mono ?_); rintro e w' ⟨rfl, ⟨nd, rfl⟩⟩; refine ⟨_, rfl, ?_⟩))
             go_ret
             exact ⟨tE, bBl HB.out⟩
           ·rw [if_neg c23] at H
            exact absurd H (by simp)
          ·rw [if_neg c22] at H
           exact absurd H (by simp)
         ·rw [if_neg c21] at H
          have c21b0 : decide (x37_2 < (l0_3.length : Int)) = false := decide_eq_false c21
          clear c21; replace H := Option.bind_eq_some_iff.mp H; obtain ⟨t147, A540, H⟩ := H
          try dsimp only at H
          have A54 := Sd.mk A540; clear A540
          by_cases c55 : t147 = true
          ·subst c55
           have H1 : ((batch_within.f a0_6 1 10000).bind fun t148 => (if t148 = true then (some 0) else (some 1))) = some r := by rw [if_pos rfl] at H; exact H
           clear H; have H := H1; clear H1; replace H := Option.bind_eq_some_iff.mp H; obtain ⟨t148, A560, H⟩ := H
           try dsimp only at H
           have A56 := Sd.mk A560; clear A560
           by_cases c57 : t148 = true
           ·subst c57
            have H1 : (some 0) = some r := by rw [if_pos rfl] at H; exact H
            clear H; have H := H1; clear H1; obtain rfl := Option.some.inj H; obtain ⟨u58_0, u58_1, u58_2, u58_3, u58_4, u58_5, u58_6, o58_0, o58_1, o58_2, o58_3, o58_4, o58_5, o58_6⟩ := bc7 (w := wr) BK138.out
            go_wp2_with (first | ((with_reducible refine gate_callee (f := 69) rfl ?_); refine goesL_ (some 61) rfl rfl Try.func69 (by kernel_rfl) rfl #[.agg #[.int .i64 a0_4, .int .i64 a0_5], .int .i64 (-10000), .int .i64 10000] rfl tM ?_; (with_reducible refine (batch_span.calls a0_4 a0_5 (-10000) 10000 true _ A54.out).mono ?_); rintro e w59 ⟨rfl, hb⟩; refine ⟨_, rfl, ?_⟩; replace BK138 := Sd.mk (blk_below (bkA BK138.out) hb); replace HB := Sd.mk (below_step (bBl HB.out) hb); (try clear hb); (try clear hb2); (try clear hk); (try clear hi); obtain ⟨u60_0, u60_1, u60_2, u60_3, u60_4, u60_5, u60_6, o60_0, o60_1, o60_2, o60_3, o60_4, o60_5, o60_6⟩ := bc7 (w := w59) BK138.out) | (go_at_call 55; (with_reducible refine (batch_within.calls a0_6 1 10000 true _ A56.out).mono ?_); rintro e w' ⟨rfl, ⟨nd, rfl⟩⟩))
            go_ret
            exact ⟨tE, bBl HB.out⟩
           ·replace c57 := Bool.eq_false_iff.mpr c57
            subst c57
            have H1 : (some 1) = some r := by rw [if_neg (show ¬ (false = true) by decide)] at H; exact H
            clear H; have H := H1; clear H1; obtain rfl := Option.some.inj H; obtain ⟨u61_0, u61_1, u61_2, u61_3, u61_4, u61_5, u61_6, o61_0, o61_1, o61_2, o61_3, o61_4, o61_5, o61_6⟩ := bc7 (w := wr) BK138.out
            go_wp2_with (first | ((with_reducible refine gate_callee (f := 69) rfl ?_); refine goesL_ (some 61) rfl rfl Try.func69 (by kernel_rfl) rfl #[.agg #[.int .i64 a0_4, .int .i64 a0_5], .int .i64 (-10000), .int .i64 10000] rfl tM ?_; (with_reducible refine (batch_span.calls a0_4 a0_5 (-10000) 10000 true _ A54.out).mono ?_); rintro e w62 ⟨rfl, hb⟩; refine ⟨_, rfl, ?_⟩; replace BK138 := Sd.mk (blk_below (bkA BK138.out) hb); replace HB := Sd.mk (below_step (bBl HB.out) hb); (try clear hb); (try clear hb2); (try clear hk); (try clear hi); obtain ⟨u63_0, u63_1, u63_2, u63_3, u63_4, u63_5, u63_6, o63_0, o63_1, o63_2, o63_3, o63_4, o63_5, o63_6⟩ := bc7 (w := w62) BK138.out) | (go_at_call 55; (with_reducible refine (batch_within.calls a0_6 1 10000 false _ A56.out).mono ?_); rintro e w' ⟨rfl, ⟨nd, rfl⟩⟩))
            go_ret
            exact ⟨tE, bBl HB.out⟩
          ·replace c55 := Bool.eq_false_iff.mpr c55
           subst c55
           have H1 : (some 1) = some r := by rw [if_neg (show ¬ (false = true) by decide)] at H; exact H
           clear H; have H := H1; clear H1; obtain rfl := Option.some.inj H; obtain ⟨u64_0, u64_1, u64_2, u64_3, u64_4, u64_5, u64_6, o64_0, o64_1, o64_2, o64_3, o64_4, o64_5, o64_6⟩ := bc7 (w := wr) BK138.out
           go_wp2_with (first | ((with_reducible refine gate_callee (f := 69) rfl ?_); refine goesL_ (some 61) rfl rfl Try.func69 (by kernel_rfl) rfl #[.agg #[.int .i64 a0_4, .int .i64 a0_5], .int .i64 (-10000), .int .i64 10000] rfl tM ?_; (with_reducible refine (batch_span.calls a0_4 a0_5 (-10000) 10000 false _ A54.out).mono ?_); rintro e w65 ⟨rfl, hb⟩; refine ⟨_, rfl, ?_⟩; replace BK138 := Sd.mk (blk_below (bkA BK138.out) hb); replace HB := Sd.mk (below_step (bBl HB.out) hb); (try clear hb); (try clear hb2); (try clear hk); (try clear hi)))
           go_ret
           exact ⟨tE, bBl HB.out⟩
  ·rw [if_neg c5] at H
   have c5b0 : (t140 == 0) = false := beq_eq_false_iff_ne.mpr c5
   have c5b1 : (t140 != 0) = true := bne_iff_ne.mpr c5
   obtain rfl := Option.some.inj H
   go_enter Try.func26, Try.ntmps26
   go_wp2_with (first | ((with_reducible refine gate_dst (N := 1) rfl ?_); refine box_event ?hg (N := 1) ?hd (cs := #[.slice A0_0 l0_0.length c0_0, .slice A0_1 l0_1.length c0_1, .slice A0_2 l0_2.length c0_2, .slice A0_3 l0_3.length c0_3, .int .i64 a0_4, .int .i64 a0_5, .int .i64 a0_6]) (t := 29) ?hr ?_; (case hd => rfl); (case hg => rfl); (case hr => exact tG); intro gb138 hg w66 hbox hb; have BK138 := Sd.mk (hbox); have GW138 := Sd.mk (bSz hg (bBl HB.out)); have GE138 := Sd.mk (bSz hg (bBl HB.out)); replace HB := Sd.mk (below_step (bBl HB.out) hb); clear hb hbox hg; obtain ⟨u67_0, u67_1, u67_2, u67_3, u67_4, u67_5, u67_6, o67_0, o67_1, o67_2, o67_3, o67_4, o67_5, o67_6⟩ := bc7 (w := w66) BK138.out) | ((with_reducible refine gate_callee (f := 65) rfl ?_); refine goesL_ (some 9) rfl rfl Try.func65 (by kernel_rfl) rfl #[.agg #[.slice A0_0 l0_0.length c0_0, .slice A0_1 l0_1.length c0_1, .slice A0_2 l0_2.length c0_2, .slice A0_3 l0_3.length c0_3, .int .i64 a0_4, .int .i64 a0_5, .int .i64 a0_6]] rfl tM ?_; (with_reducible refine (batch_checkOxides.calls k _ _ l0_0 _ _ l0_1 _ _ l0_2 _ _ l0_3 a0_4 a0_5 a0_6 t139 _ (cS (Kd.C_below HR0_0.out HB.out)) HC0_0.out (cS (Kd.C_below HR0_1.out HB.out)) HC0_1.out (cS (Kd.C_below HR0_2.out HB.out)) HC0_2.out (cS (Kd.C_below HR0_3.out HB.out)) HC0_3.out A2.out).mono ?_); rintro e w68 ⟨rfl, hb⟩; refine ⟨_, rfl, ?_⟩; replace BK138 := Sd.mk (blk_below (bkA BK138.out) hb); replace HB := Sd.mk (below_step (bBl HB.out) hb); (try clear hb); (try clear hb2); (try clear hk); (try clear hi); obtain ⟨u69_0, u69_1, u69_2, u69_3, u69_4, u69_5, u69_6, o69_0, o69_1, o69_2, o69_3, o69_4, o69_5, o69_6⟩ := bc7 (w := w68) BK138.out) | ((with_reducible refine gate_callee (f := 66) rfl ?_); refine goesL_ (some 14) rfl rfl Try.func66 (by kernel_rfl) rfl #[.agg #[.slice A0_0 l0_0.length c0_0, .slice A0_1 l0_1.length c0_1, .slice A0_2 l0_2.length c0_2, .slice A0_3 l0_3.length c0_3, .int .i64 a0_4, .int .i64 a0_5, .int .i64 a0_6]] rfl tM ?_; (with_reducible refine (batch_checkMaterials.calls k _ _ l0_0 _ _ l0_1 _ _ l0_2 _ _ l0_3 a0_4 a0_5 a0_6 t140 _ (cS (Kd.C_below HR0_0.out HB.out)) HC0_0.out (cS (Kd.C_below HR0_1.out HB.out)) HC0_1.out (cS (Kd.C_below HR0_2.out HB.out)) HC0_2.out (cS (Kd.C_below HR0_3.out HB.out)) HC0_3.out A4.out).mono ?_); rintro e w70 ⟨rfl, hb⟩; refine ⟨_, rfl, ?_⟩; replace BK138 := Sd.mk (blk_below (bkA BK138.out) hb); replace HB := Sd.mk (below_step (bBl HB.out) hb); (try clear hb); (try clear hb2); (try clear hk); (try clear hi)))
   go_ret
   exact ⟨tE, bBl HB.out⟩
 ·rw [if_neg c3] at H
  have c3b0 : (t139 == 0) = false := beq_eq_false_iff_ne.mpr c3
  have c3b1 : (t139 != 0) = true := bne_iff_ne.mpr c3
  obtain rfl := Option.some.inj H
  go_enter Try.func26, Try.ntmps26
  go_wp2_with (first | ((with_reducible refine gate_dst (N := 1) rfl ?_); refine box_event ?hg (N := 1) ?hd (cs := #[.slice A0_0 l0_0.length c0_0, .slice A0_1 l0_1.length c0_1, .slice A0_2 l0_2.length c0_2, .slice A0_3 l0_3.length c0_3, .int .i64 a0_4, .int .i64 a0_5, .int .i64 a0_6]) (t := 29) ?hr ?_; (case hd => rfl); (case hg => rfl); (case hr => exact tG); intro gb138 hg w71 hbox hb; have BK138 := Sd.mk (hbox); have GW138 := Sd.mk (bSz hg (bBl HB.out)); have GE138 := Sd.mk (bSz hg (bBl HB.out)); replace HB := Sd.mk (below_step (bBl HB.out) hb); clear hb hbox hg; obtain ⟨u72_0, u72_1, u72_2, u72_3, u72_4, u72_5, u72_6, o72_0, o72_1, o72_2, o72_3, o72_4, o72_5, o72_6⟩ := bc7 (w := w71) BK138.out) | ((with_reducible refine gate_callee (f := 65) rfl ?_); refine goesL_ (some 9) rfl rfl Try.func65 (by kernel_rfl) rfl #[.agg #[.slice A0_0 l0_0.length c0_0, .slice A0_1 l0_1.length c0_1, .slice A0_2 l0_2.length c0_2, .slice A0_3 l0_3.length c0_3, .int .i64 a0_4, .int .i64 a0_5, .int .i64 a0_6]] rfl tM ?_; (with_reducible refine (batch_checkOxides.calls k _ _ l0_0 _ _ l0_1 _ _ l0_2 _ _ l0_3 a0_4 a0_5 a0_6 t139 _ (cS (Kd.C_below HR0_0.out HB.out)) HC0_0.out (cS (Kd.C_below HR0_1.out HB.out)) HC0_1.out (cS (Kd.C_below HR0_2.out HB.out)) HC0_2.out (cS (Kd.C_below HR0_3.out HB.out)) HC0_3.out A2.out).mono ?_); rintro e w73 ⟨rfl, hb⟩; refine ⟨_, rfl, ?_⟩; replace BK138 := Sd.mk (blk_below (bkA BK138.out) hb); replace HB := Sd.mk (below_step (bBl HB.out) hb); (try clear hb); (try clear hb2); (try clear hk); (try clear hi)))
  go_ret
  exact ⟨tE, bBl HB.out⟩
end Go.Proofs.Ytkjkokgbhepmoaa.PB

namespace Go.Proofs.Ytkjkokgbhepmoaa.PB
open Go.RowKit Go.Proofs.YtkjkokgbhepmoaaW.PrintWords Go.Proofs.YtkjkokgbhepmoaaW.PrintLast Go.Proofs.YtkjkokgbhepmoaaW.PrintMore
def proC (n : Nat) (x : S65) : Int := if x.f1.length = n then (if x.f1.any (outside (-10000) 10000) = true then 1 else if -10000 ≤ x.f2.f0 ∧ x.f2.f0 ≤ x.f2.f1 ∧ x.f2.f1 ≤ 10000 then 0 else 1) else 1
def proE (p : List S65) (n : Nat) : Nat → Nat → Int
  | 0, _ => 0
  | m + 1, i => if nameOk (rd_T65 p (i : Int)).f0 = true then (if ((p.take i).any fun x => x.f0.toList == (rd_T65 p (i : Int)).f0.toList) = true then 6 else (if proC n (rd_T65 p (i : Int)) = 0 then proE p n m (i + 1) else proC n (rd_T65 p (i : Int)))) else 5
def matE (mt : List S63) (n : Nat) : Nat → Nat → Int
  | 0, _ => 0
  | m + 1, i => if nameOk (rd_T63 mt (i : Int)).f0 = true then (if ((mt.take i).any fun x => x.f0.toList == (rd_T63 mt (i : Int)).f0.toList) = true then 6 else (if matC n (rd_T63 mt (i : Int)) = 0 then matE mt n m (i + 1) else matC n (rd_T63 mt (i : Int)))) else 5
section
variable (o : List ByteArray) (mt : List S63) (s : List S27) (p : List S65) (a4 a5 a6 : Int)
theorem bpro (x : S65) : Ev (fun _ => batch_checkProperty.f o mt s p a4 a5 a6 x.f0 x.f1 x.f2.f0 x.f2.f1) (proC o.length x) := by
  unfold batch_checkProperty.f proC
  by_cases h : x.f1.length = o.length
  · simp only [if_pos h, if_pos (show (x.f1.length : Int) = (o.length : Int) by omega), x_coefs.f, Option.bind_some, span_f, Bool.and_eq_true, decide_eq_true_eq]
    by_cases h' : x.f1.any (outside (-10000) 10000) = true
    · simp only [if_pos h']; exact Ev.const _
    · simp only [if_neg h']
      by_cases h2 : -10000 ≤ x.f2.f0 ∧ x.f2.f0 ≤ x.f2.f1 ∧ x.f2.f1 ≤ 10000
      · rw [if_pos (by omega), if_pos h2]; exact Ev.const _
      · rw [if_neg (by omega), if_neg h2]; exact Ev.const _
  · simp only [if_neg h, if_neg (show ¬ (x.f1.length : Int) = (o.length : Int) by omega)]; exact Ev.const _
theorem bmats_l0 (ho : o.length ≤ 12) (hm : mt.length ≤ 12) : ∀ (m i : Nat), i + m = mt.length → Ev (fun k => batch_checkMaterials.l0 k mt (mt.length : Int) (i : Int) o mt s p a4 a5 a6) (matE mt o.length m i)
  | 0, i, hi => by
    apply Ev.step
    simp only [batch_checkMaterials.l0, if_neg (show ¬ (i : Int) < (mt.length : Int) by omega)]
    exact Ev.const _
  | m + 1, i, hi => by
    have ih := bmats_l0 ho hm m (i + 1) (by omega)
    apply Ev.step
    simp only [batch_checkMaterials.l0, if_pos (show (i : Int) < (mt.length : Int) by omega), if_pos (i_pos i), wrap_succ (i_pos i) (show (i : Int) ≤ 1000000000 by omega), x_twiceM.f, Int.toNat_natCast, Option.bind_some]
    refine Ev.bind (bname _) ?_
    unfold matE
    by_cases h : nameOk (rd_T63 mt (i : Int)).f0 = true
    · simp only [if_pos h]
      by_cases h' : ((mt.take i).any fun x => x.f0.toList == (rd_T63 mt (i : Int)).f0.toList) = true
      · simp only [if_pos h']; exact Ev.const _
      · simp only [if_neg h']
        refine Ev.bind (bmat o mt s p a4 a5 a6 ho _) ?_
        by_cases h2 : matC o.length (rd_T63 mt (i : Int)) = 0
        · simp only [if_pos h2]; exact ih
        · simp only [if_neg h2]; exact Ev.const _
    · simp only [if_neg h]; exact Ev.const _
theorem bmats (ho : o.length ≤ 12) : Ev (fun k => batch_checkMaterials.f k o mt s p a4 a5 a6) (if mt.length > 12 then 3 else if mt.length = 0 then 1 else matE mt o.length mt.length 0) := by
  unfold batch_checkMaterials.f
  by_cases h : mt.length > 12
  · simp only [if_pos h, if_pos (show (mt.length : Int) > 12 by omega)]; exact Ev.const _
  · by_cases h' : mt.length = 0
    · simp only [if_neg h, if_neg (show ¬ (mt.length : Int) > 12 by omega), if_pos h', if_pos (show (mt.length : Int) = 0 by omega)]; exact Ev.const _
    · simp only [if_neg h, if_neg (show ¬ (mt.length : Int) > 12 by omega), if_neg h', if_neg (show ¬ (mt.length : Int) = 0 by omega)]
      exact bmats_l0 o mt s p a4 a5 a6 ho (by omega) mt.length 0 (by omega)
theorem bpros_l0 (hp : p.length ≤ 6) (R : Int) (hR : Ev (fun _ => (batch_span.f a4 a5 (-10000) 10000).bind fun t147 => (if t147 = true then ((batch_within.f a6 1 10000).bind fun t148 => (if t148 = true then (some 0) else (some 1))) else (some 1))) R) :
    ∀ (m i : Nat), i + m = p.length → Ev (fun k => batch_Check.l0 k p (p.length : Int) (i : Int) o mt s p a4 a5 a6) (if proE p o.length m i = 0 then R else proE p o.length m i)
  | 0, i, hi => by
    apply Ev.step
    simp only [batch_Check.l0, if_neg (show ¬ (i : Int) < (p.length : Int) by omega)]
    exact hR.cast (by simp [proE])
  | m + 1, i, hi => by
    have ih := bpros_l0 hp R hR m (i + 1) (by omega)
    apply Ev.step
    simp only [batch_Check.l0, if_pos (show (i : Int) < (p.length : Int) by omega), if_pos (i_pos i), wrap_succ (i_pos i) (show (i : Int) ≤ 1000000000 by omega), x_twiceP.f, Int.toNat_natCast, Option.bind_some]
    refine Ev.bind (bname _) ?_
    unfold proE
    by_cases h : nameOk (rd_T65 p (i : Int)).f0 = true
    · simp only [if_pos h]
      by_cases h' : ((p.take i).any fun x => x.f0.toList == (rd_T65 p (i : Int)).f0.toList) = true
      · simp only [if_pos h']; exact (Ev.const _).cast (by simp)
      · simp only [if_neg h']
        refine Ev.bind (bpro o mt s p a4 a5 a6 _) ?_
        by_cases h2 : proC o.length (rd_T65 p (i : Int)) = 0
        · simp only [if_pos h2]; exact ih
        · simp only [if_neg h2]; exact Ev.const _
    · simp only [if_neg h]; exact (Ev.const _).cast (by simp)
end
end Go.Proofs.Ytkjkokgbhepmoaa.PB

namespace Go.Proofs.Ytkjkokgbhepmoaa.PB
open Go.RowKit Go.Proofs.YtkjkokgbhepmoaaW.PrintWords Go.Proofs.YtkjkokgbhepmoaaW.PrintLast Go.Proofs.YtkjkokgbhepmoaaW.PrintMore
section
variable (o : List ByteArray) (mt : List S63) (s : List S27) (p : List S65) (a4 a5 a6 : Int)
def endV : Int := if -10000 ≤ a4 ∧ a4 ≤ a5 ∧ a5 ≤ 10000 then (if 1 ≤ a6 ∧ a6 ≤ 10000 then 0 else 1) else 1
def proV : Int := if p.length > 6 then 3 else if proE p o.length p.length 0 = 0 then endV a4 a5 a6 else proE p o.length p.length 0
def shaV : Int := if s.length = o.length then (if s.any badSpan = true then 1 else proV o p a4 a5 a6) else 1
def matV : Int := if mt.length > 12 then 3 else if mt.length = 0 then 1 else if matE mt o.length mt.length 0 = 0 then shaV o s p a4 a5 a6 else matE mt o.length mt.length 0
def checkV : Int := if o.length > 12 then 3 else if o.length = 0 then 1 else if oxE o o.length 0 = 0 then matV o mt s p a4 a5 a6 else oxE o o.length 0
theorem bend : Ev (fun _ => (batch_span.f a4 a5 (-10000) 10000).bind fun t147 => (if t147 = true then ((batch_within.f a6 1 10000).bind fun t148 => (if t148 = true then (some 0) else (some 1))) else (some 1))) (endV a4 a5 a6) := by
  simp only [span_f, within_f, Option.bind_some, Bool.and_eq_true, decide_eq_true_eq]
  unfold endV
  by_cases h2 : -10000 ≤ a4 ∧ a4 ≤ a5 ∧ a5 ≤ 10000
  · have h2' : (-10000 ≤ a4 ∧ a4 ≤ a5) ∧ a5 ≤ 10000 := by omega
    simp only [if_pos h2', if_pos h2]
    by_cases h3 : 1 ≤ a6 ∧ a6 ≤ 10000
    · simp only [if_pos h3]; exact Ev.const _
    · simp only [if_neg h3]; exact Ev.const _
  · have h2' : ¬ ((-10000 ≤ a4 ∧ a4 ≤ a5) ∧ a5 ≤ 10000) := by omega
    simp only [if_neg h2', if_neg h2]; exact Ev.const _
theorem bj0 (b : Bool) : Ev (fun k => batch_Check.j0 k b o mt s p a4 a5 a6) (if b = true then 1 else proV o p a4 a5 a6) := by
  apply Ev.step
  simp only [batch_Check.j0]
  cases b with
  | true => simp only [if_true]; exact Ev.const _
  | false =>
    simp only [Bool.false_eq_true, if_false]
    unfold proV
    by_cases h : p.length > 6
    · simp only [if_pos h, if_pos (show (p.length : Int) > 6 by omega)]; exact Ev.const _
    · simp only [if_neg h, if_neg (show ¬ (p.length : Int) > 6 by omega)]
      exact bpros_l0 o mt s p a4 a5 a6 (by omega) _ (bend a4 a5 a6) p.length 0 (by omega)
theorem bcheck : Ev (fun k => batch_Check.f k o mt s p a4 a5 a6) (checkV o mt s p a4 a5 a6) := by
  unfold batch_Check.f
  refine Ev.bind (box_f o mt s p a4 a5 a6) ?_
  unfold checkV
  by_cases h : o.length > 12
  · simp only [if_pos h]; exact Ev.const _
  · by_cases h' : o.length = 0
    · simp only [if_neg h, if_pos h']; exact Ev.const _
    · simp only [if_neg h, if_neg h']
      by_cases h2 : oxE o o.length 0 = 0
      · simp only [if_pos h2]
        refine Ev.bind (bmats o mt s p a4 a5 a6 (by omega)) ?_
        unfold matV
        by_cases h3 : mt.length > 12
        · simp only [if_pos h3]; exact Ev.const _
        · by_cases h4 : mt.length = 0
          · simp only [if_neg h3, if_pos h4]; exact Ev.const _
          · simp only [if_neg h3, if_neg h4]
            by_cases h5 : matE mt o.length mt.length 0 = 0
            · simp only [if_pos h5]
              unfold shaV
              by_cases h6 : s.length = o.length
              · simp only [if_pos h6, if_pos (show (s.length : Int) = (o.length : Int) by omega), x_spans.f, Option.bind_some]
                exact bj0 o mt s p a4 a5 a6 _
              · simp only [if_neg h6, if_neg (show ¬ (s.length : Int) = (o.length : Int) by omega)]
                exact (bj0 o mt s p a4 a5 a6 true).cast (by simp)
            · simp only [if_neg h5]; exact Ev.const _
      · simp only [if_neg h2]; exact Ev.const _
end
theorem conE_ok (l : List S27) : ∀ (m i : Nat) (acc : Int), i + m = l.length → conE l m i acc = 0 → ∀ j : Nat, i ≤ j → j < l.length → badSpan (rd_T27 l (j : Int)) = false
  | 0, i, acc, hi, h, j, h1, h2 => by omega
  | m + 1, i, acc, hi, h, j, h1, h2 => by
    unfold conE at h
    by_cases hb : badSpan (rd_T27 l (i : Int)) = true
    · rw [if_pos hb] at h; omega
    · rw [if_neg hb] at h
      by_cases hj : j = i
      · subst hj; simpa using hb
      · exact conE_ok l m (i + 1) _ (by omega) h j (by omega) h2
structure MatOk (n : Nat) (x : S63) : Prop where
  price : 0 ≤ x.f1 ∧ x.f1 ≤ 10000
  redox : -1000 ≤ x.f2 ∧ x.f2 ≤ 1000
  least : 0 ≤ x.f3 ∧ x.f3 ≤ 10000
  most : x.f3 ≤ x.f4 ∧ x.f4 ≤ 10000
  step : 1 ≤ x.f5 ∧ x.f5 ≤ 10000
  len : x.f6.length = n
  con : ∀ j : Nat, j < n → 0 ≤ (rd_T27 x.f6 (j : Int)).f0 ∧ (rd_T27 x.f6 (j : Int)).f0 ≤ (rd_T27 x.f6 (j : Int)).f1 ∧ (rd_T27 x.f6 (j : Int)).f1 ≤ 1000
theorem matC_ok {n : Nat} {x : S63} (h : matC n x = 0) : MatOk n x := by
  unfold matC at h
  by_cases hc : (0 ≤ x.f1 ∧ x.f1 ≤ 10000) ∧ (-1000 ≤ x.f2 ∧ x.f2 ≤ 1000) ∧ (0 ≤ x.f3 ∧ x.f3 ≤ 10000) ∧ (x.f3 ≤ x.f4 ∧ x.f4 ≤ 10000) ∧ (1 ≤ x.f5 ∧ x.f5 ≤ 10000) ∧ x.f6.length = n
  · rw [if_pos hc] at h
    obtain ⟨h1, h2, h3, h4, h5, h6⟩ := hc
    exact ⟨h1, h2, h3, h4, h5, h6, fun j hj => bad_false (conE_ok x.f6 _ 0 0 (by omega) h j (by omega) (by omega))⟩
  · rw [if_neg hc] at h; omega
theorem matE_ok (mt : List S63) (n : Nat) : ∀ (m i : Nat), matE mt n m i = 0 → ∀ j : Nat, i ≤ j → j < i + m → MatOk n (rd_T63 mt (j : Int))
  | 0, i, h, j, h1, h2 => by omega
  | m + 1, i, h, j, h1, h2 => by
    unfold matE at h
    by_cases ha : nameOk (rd_T63 mt (i : Int)).f0 = true
    · rw [if_pos ha] at h
      by_cases hb : ((mt.take i).any fun x => x.f0.toList == (rd_T63 mt (i : Int)).f0.toList) = true
      · rw [if_pos hb] at h; omega
      · rw [if_neg hb] at h
        by_cases hc : matC n (rd_T63 mt (i : Int)) = 0
        · rw [if_pos hc] at h
          by_cases hj : j = i
          · subst hj; exact matC_ok hc
          · exact matE_ok mt n m (i + 1) h j (by omega) (by omega)
        · rw [if_neg hc] at h; exact absurd h hc
    · rw [if_neg ha] at h; omega
structure ProOk (n : Nat) (x : S65) : Prop where
  len : x.f1.length = n
  coef : ∀ j : Nat, j < n → -10000 ≤ rd x.f1 (j : Int) ∧ rd x.f1 (j : Int) ≤ 10000
  target : -10000 ≤ x.f2.f0 ∧ x.f2.f0 ≤ x.f2.f1 ∧ x.f2.f1 ≤ 10000
theorem proC_ok {n : Nat} {x : S65} (h : proC n x = 0) : ProOk n x := by
  unfold proC at h
  by_cases h1 : x.f1.length = n
  · rw [if_pos h1] at h
    by_cases h2 : x.f1.any (outside (-10000) 10000) = true
    · rw [if_pos h2] at h; omega
    · rw [if_neg h2] at h
      by_cases h3 : -10000 ≤ x.f2.f0 ∧ x.f2.f0 ≤ x.f2.f1 ∧ x.f2.f1 ≤ 10000
      · refine ⟨h1, fun j hj => ?_, h3⟩
        have hm : rd x.f1 (j : Int) ∈ x.f1 := by
          have hlt : j < x.f1.length := by omega
          have : rd x.f1 (j : Int) = x.f1[j] := by simp [rd, hlt]
          rw [this]; exact List.getElem_mem hlt
        have hn : outside (-10000) 10000 (rd x.f1 (j : Int)) = false := by
          cases ho : outside (-10000) 10000 (rd x.f1 (j : Int)) with
          | false => rfl
          | true => exact absurd (List.any_eq_true.mpr ⟨_, hm, ho⟩) h2
        simp [outside] at hn; omega
      · rw [if_neg h3] at h; omega
  · rw [if_neg h1] at h; omega
theorem proE_ok (p : List S65) (n : Nat) : ∀ (m i : Nat), proE p n m i = 0 → ∀ j : Nat, i ≤ j → j < i + m → ProOk n (rd_T65 p (j : Int))
  | 0, i, h, j, h1, h2 => by omega
  | m + 1, i, h, j, h1, h2 => by
    unfold proE at h
    by_cases ha : nameOk (rd_T65 p (i : Int)).f0 = true
    · rw [if_pos ha] at h
      by_cases hb : ((p.take i).any fun x => x.f0.toList == (rd_T65 p (i : Int)).f0.toList) = true
      · rw [if_pos hb] at h; omega
      · rw [if_neg hb] at h
        by_cases hc : proC n (rd_T65 p (i : Int)) = 0
        · rw [if_pos hc] at h
          by_cases hj : j = i
          · subst hj; exact proC_ok hc
          · exact proE_ok p n m (i + 1) h j (by omega) (by omega)
        · rw [if_neg hc] at h; exact absurd h hc
    · rw [if_neg ha] at h; omega
structure BatchOk (o : List ByteArray) (mt : List S63) (s : List S27) (p : List S65) (a4 a5 a6 : Int) : Prop where
  o12 : o.length ≤ 12
  o1 : o.length ≠ 0
  m12 : mt.length ≤ 12
  m1 : mt.length ≠ 0
  mats : ∀ j : Nat, j < mt.length → MatOk o.length (rd_T63 mt (j : Int))
  slen : s.length = o.length
  shares : ∀ j : Nat, j < s.length → 0 ≤ (rd_T27 s (j : Int)).f0 ∧ (rd_T27 s (j : Int)).f0 ≤ (rd_T27 s (j : Int)).f1 ∧ (rd_T27 s (j : Int)).f1 ≤ 1000
  p6 : p.length ≤ 6
  pros : ∀ j : Nat, j < p.length → ProOk o.length (rd_T65 p (j : Int))
  redox : -10000 ≤ a4 ∧ a4 ≤ a5 ∧ a5 ≤ 10000
  wanted : 1 ≤ a6 ∧ a6 ≤ 10000
theorem check_ok {o : List ByteArray} {mt : List S63} {s : List S27} {p : List S65} {a4 a5 a6 : Int} (h : checkV o mt s p a4 a5 a6 = 0) : BatchOk o mt s p a4 a5 a6 := by
  unfold checkV at h
  by_cases h1 : o.length > 12
  · rw [if_pos h1] at h; omega
  rw [if_neg h1] at h
  by_cases h2 : o.length = 0
  · rw [if_pos h2] at h; omega
  rw [if_neg h2] at h
  by_cases h3 : oxE o o.length 0 = 0
  rotate_left
  · rw [if_neg h3] at h; exact absurd h h3
  rw [if_pos h3] at h
  unfold matV at h
  by_cases h4 : mt.length > 12
  · rw [if_pos h4] at h; omega
  rw [if_neg h4] at h
  by_cases h5 : mt.length = 0
  · rw [if_pos h5] at h; omega
  rw [if_neg h5] at h
  by_cases h6 : matE mt o.length mt.length 0 = 0
  rotate_left
  · rw [if_neg h6] at h; exact absurd h h6
  rw [if_pos h6] at h
  unfold shaV at h
  by_cases h7 : s.length = o.length
  rotate_left
  · rw [if_neg h7] at h; omega
  rw [if_pos h7] at h
  by_cases h8 : s.any badSpan = true
  · rw [if_pos h8] at h; omega
  rw [if_neg h8] at h
  unfold proV at h
  by_cases h9 : p.length > 6
  · rw [if_pos h9] at h; omega
  rw [if_neg h9] at h
  by_cases h10 : proE p o.length p.length 0 = 0
  rotate_left
  · rw [if_neg h10] at h; exact absurd h h10
  rw [if_pos h10] at h
  unfold endV at h
  by_cases h11 : -10000 ≤ a4 ∧ a4 ≤ a5 ∧ a5 ≤ 10000
  rotate_left
  · rw [if_neg h11] at h; omega
  rw [if_pos h11] at h
  by_cases h12 : 1 ≤ a6 ∧ a6 ≤ 10000
  rotate_left
  · rw [if_neg h12] at h; omega
  refine ⟨by omega, h2, by omega, h5, fun j hj => matE_ok mt _ _ 0 h6 j (by omega) (by omega), h7, fun j hj => ?_, by omega, fun j hj => proE_ok p _ _ 0 h10 j (by omega) (by omega), h11, h12⟩
  have hlt : j < s.length := hj
  have hr : rd_T27 s (j : Int) = s[j] := by simp [rd_T27, hlt]
  rw [hr]
  apply bad_false
  cases hb : badSpan s[j] with
  | false => rfl
  | true => exact absurd (List.any_eq_true.mpr ⟨_, List.getElem_mem hlt, hb⟩) h8
end Go.Proofs.Ytkjkokgbhepmoaa.PB

namespace Go.Proofs.Ytkjkokgbhepmoaa.PB
open Go.RowKit Go.Proofs.YtkjkokgbhepmoaaW.PrintWords Go.Proofs.YtkjkokgbhepmoaaW.PrintLast Go.Proofs.YtkjkokgbhepmoaaW.PrintMore
attribute [local go_sem] max2_int min2_int max_two min_two max_three min_three max_four min_four
def batch_checkRecipe.f (l0_0 : List ByteArray) (l0_1 : List (S63)) (l0_2 : List (S27)) (l0_3 : List (S65)) (a0_4 : Int) (a0_5 : Int) (a0_6 : Int) (l1 : List Int) : Option (Int) := if (l1.length : Int) = (l0_1.length : Int) then ((x_kilos.f l1).bind fun t150 => (if t150 = true then (some 1) else (some 0))) else (some 1)
set_option maxHeartbeats 8000000 in
set_option maxRecDepth 100000 in
theorem batch_checkRecipe.calls (A0_0 : Option Addr) (c0_0 : Nat) (l0_0 : List ByteArray) (A0_1 : Option Addr) (c0_1 : Nat) (l0_1 : List (S63)) (A0_2 : Option Addr) (c0_2 : Nat) (l0_2 : List (S27)) (A0_3 : Option Addr) (c0_3 : Nat) (l0_3 : List (S65)) (a0_4 : Int) (a0_5 : Int) (a0_6 : Int) (A1 : Option Addr) (c1 : Nat) (l1 : List Int) (r : Int) (w : World) (hr0_0 : Kd.C Kd.string w A0_0 l0_0.length l0_0) (hc0_0 : l0_0.length ≤ c0_0) (hr0_1 : Kd.C k63 w A0_1 l0_1.length l0_1) (hc0_1 : l0_1.length ≤ c0_1) (hr0_2 : Kd.C k27 w A0_2 l0_2.length l0_2) (hc0_2 : l0_2.length ≤ c0_2) (hr0_3 : Kd.C k65 w A0_3 l0_3.length l0_3) (hc0_3 : l0_3.length ≤ c0_3) (hr1 : Kd.C (Kd.int .i64) w A1 l1.length l1) (hc1 : l1.length ≤ c1) (h : batch_checkRecipe.f l0_0 l0_1 l0_2 l0_3 a0_4 a0_5 a0_6 l1 = some r) :
  Calls Try.prog 108 #[.agg #[.slice A0_0 l0_0.length c0_0, .slice A0_1 l0_1.length c0_1, .slice A0_2 l0_2.length c0_2, .slice A0_3 l0_3.length c0_3, .int .i64 a0_4, .int .i64 a0_5, .int .i64 a0_6], .slice A1 l1.length c1] w fun e w' => e = .returned (.int .i64 r) ∧ Below w.heap.size w w' := by
 have hu29 := Try.underlying29; have HR0_0 := Sd.mk hr0_0; have HC0_0 := Sd.mk hc0_0; clear hr0_0 hc0_0; have HR0_1 := Sd.mk hr0_1; have HC0_1 := Sd.mk hc0_1; clear hr0_1 hc0_1; have HR0_2 := Sd.mk hr0_2; have HC0_2 := Sd.mk hc0_2; clear hr0_2 hc0_2; have HR0_3 := Sd.mk hr0_3; have HC0_3 := Sd.mk hc0_3; clear hr0_3 hc0_3; have HR1 := Sd.mk hr1; have HC1 := Sd.mk hc1; clear hr1 hc1; have HB := Sd.mk (Below.refl w.heap.size w)
 have H : (if (l1.length : Int) = (l0_1.length : Int) then ((x_kilos.f l1).bind fun t150 => (if t150 = true then (some 1) else (some 0))) else (some 1)) = some r := h
 clear h
 by_cases c3 : (l1.length : Int) = (l0_1.length : Int)
 ·rw [if_pos c3] at H
  have c3b0 : ((l1.length : Int) == (l0_1.length : Int)) = true := beq_iff_eq.mpr c3
  have c3b1 : ((l1.length : Int) != (l0_1.length : Int)) = false := bne_eq_false_iff_eq.mpr c3
  have c3b2 : (l1.length == l0_1.length) = true := by first | simpa using c3 | (simp at c3 ⊢; omega)
  clear c3; replace H := Option.bind_eq_some_iff.mp H; obtain ⟨t150, A40, H⟩ := H
  try dsimp only at H
  have A4 := Sd.mk A40; clear A40
  by_cases c5 : t150 = true
  ·subst c5
   have H1 : (some 1) = some r := by rw [if_pos rfl] at H; exact H
   clear H; have H := H1; clear H1; obtain rfl := Option.some.inj H
   go_enter Try.func108, Try.ntmps108
   go_wp2_with (first | ((with_reducible refine gate_dst (N := 2) rfl ?_); refine box_event ?hg (N := 2) ?hd (cs := #[.slice A0_0 l0_0.length c0_0, .slice A0_1 l0_1.length c0_1, .slice A0_2 l0_2.length c0_2, .slice A0_3 l0_3.length c0_3, .int .i64 a0_4, .int .i64 a0_5, .int .i64 a0_6]) (t := 29) ?hr ?_; (case hd => rfl); (case hg => rfl); (case hr => exact tG); intro gb149 hg w6 hbox hb; have BK149 := Sd.mk (hbox); have GW149 := Sd.mk (bSz hg (bBl HB.out)); have GE149 := Sd.mk (bSz hg (bBl HB.out)); replace HB := Sd.mk (below_step (bBl HB.out) hb); clear hb hbox hg; obtain ⟨u7_0, u7_1, u7_2, u7_3, u7_4, u7_5, u7_6, o7_0, o7_1, o7_2, o7_3, o7_4, o7_5, o7_6⟩ := bc7 (w := w6) BK149.out) | (go_at_call 80; (with_reducible refine (x_kilos.calls _ _ l1 true _ (cS (Kd.C_below HR1.out HB.out)) HC1.out A4.out).mono ?_); rintro e w8 ⟨rfl, hb⟩; replace BK149 := Sd.mk (blk_below (bkA BK149.out) hb); replace HB := Sd.mk (below_step (bBl HB.out) hb); (try clear hb); (try clear hb2); (try clear hk); (try clear hi)))
   go_ret
   exact ⟨tE, bBl HB.out⟩
  ·replace c5 := Bool.eq_false_iff.mpr c5
   subst c5
   have H1 : (some 0) = some r := by rw [if_neg (show ¬ (false = true) by decide)] at H; exact H
   clear H; have H := H1; clear H1; obtain rfl := Option.some.inj H
   go_enter Try.func108, Try.ntmps108
   go_wp2_with (first | ((with_reducible refine gate_dst (N := 2) rfl ?_); refine box_event ?hg (N := 2) ?hd (cs := #[.slice A0_0 l0_0.length c0_0, .slice A0_1 l0_1.length c0_1, .slice A0_2 l0_2.length c0_2, .slice A0_3 l0_3.length c0_3, .int .i64 a0_4, .int .i64 a0_5, .int .i64 a0_6]) (t := 29) ?hr ?_; (case hd => rfl); (case hg => rfl); (case hr => exact tG); intro gb149 hg w9 hbox hb; have BK149 := Sd.mk (hbox); have GW149 := Sd.mk (bSz hg (bBl HB.out)); have GE149 := Sd.mk (bSz hg (bBl HB.out)); replace HB := Sd.mk (below_step (bBl HB.out) hb); clear hb hbox hg; obtain ⟨u10_0, u10_1, u10_2, u10_3, u10_4, u10_5, u10_6, o10_0, o10_1, o10_2, o10_3, o10_4, o10_5, o10_6⟩ := bc7 (w := w9) BK149.out) | (go_at_call 80; (with_reducible refine (x_kilos.calls _ _ l1 false _ (cS (Kd.C_below HR1.out HB.out)) HC1.out A4.out).mono ?_); rintro e w11 ⟨rfl, hb⟩; replace BK149 := Sd.mk (blk_below (bkA BK149.out) hb); replace HB := Sd.mk (below_step (bBl HB.out) hb); (try clear hb); (try clear hb2); (try clear hk); (try clear hi)))
   go_ret
   exact ⟨tE, bBl HB.out⟩
 ·rw [if_neg c3] at H
  have c3b0 : ((l1.length : Int) == (l0_1.length : Int)) = false := beq_eq_false_iff_ne.mpr c3
  have c3b1 : ((l1.length : Int) != (l0_1.length : Int)) = true := bne_iff_ne.mpr c3
  have c3b2 : (l1.length == l0_1.length) = false := by first | simpa using c3 | (simp at c3 ⊢; omega)
  obtain rfl := Option.some.inj H
  go_enter Try.func108, Try.ntmps108
  go_wp2_with (first | ((with_reducible refine gate_dst (N := 2) rfl ?_); refine box_event ?hg (N := 2) ?hd (cs := #[.slice A0_0 l0_0.length c0_0, .slice A0_1 l0_1.length c0_1, .slice A0_2 l0_2.length c0_2, .slice A0_3 l0_3.length c0_3, .int .i64 a0_4, .int .i64 a0_5, .int .i64 a0_6]) (t := 29) ?hr ?_; (case hd => rfl); (case hg => rfl); (case hr => exact tG); intro gb149 hg w12 hbox hb; have BK149 := Sd.mk (hbox); have GW149 := Sd.mk (bSz hg (bBl HB.out)); have GE149 := Sd.mk (bSz hg (bBl HB.out)); replace HB := Sd.mk (below_step (bBl HB.out) hb); clear hb hbox hg; obtain ⟨u13_0, u13_1, u13_2, u13_3, u13_4, u13_5, u13_6, o13_0, o13_1, o13_2, o13_3, o13_4, o13_5, o13_6⟩ := bc7 (w := w12) BK149.out))
  go_ret
  exact ⟨tE, bBl HB.out⟩
end Go.Proofs.Ytkjkokgbhepmoaa.PB

namespace Go.Proofs.Ytkjkokgbhepmoaa.PB
open Go.RowKit Go.Proofs.YtkjkokgbhepmoaaW.PrintWords Go.Proofs.YtkjkokgbhepmoaaW.PrintLast Go.Proofs.YtkjkokgbhepmoaaW.PrintMore
attribute [local go_sem] max2_int min2_int max_two min_two max_three min_three max_four min_four
def batch_asked.f (k : Nat) (l0_0 : List ByteArray) (l0_1 : List (S63)) (l0_2 : List (S27)) (l0_3 : List (S65)) (a0_4 : Int) (a0_5 : Int) (a0_6 : Int) (l1 : List Int) : Option (Int) := (batch_Check.f k l0_0 l0_1 l0_2 l0_3 a0_4 a0_5 a0_6).bind fun t152 => (if t152 = 0 then ((batch_checkRecipe.f l0_0 l0_1 l0_2 l0_3 a0_4 a0_5 a0_6 l1).bind fun t153 => (some t153)) else (some t152))
set_option maxHeartbeats 8000000 in
set_option maxRecDepth 100000 in
theorem batch_asked.calls (k : Nat) (A0_0 : Option Addr) (c0_0 : Nat) (l0_0 : List ByteArray) (A0_1 : Option Addr) (c0_1 : Nat) (l0_1 : List (S63)) (A0_2 : Option Addr) (c0_2 : Nat) (l0_2 : List (S27)) (A0_3 : Option Addr) (c0_3 : Nat) (l0_3 : List (S65)) (a0_4 : Int) (a0_5 : Int) (a0_6 : Int) (A1 : Option Addr) (c1 : Nat) (l1 : List Int) (r : Int) (w : World) (hr0_0 : Kd.C Kd.string w A0_0 l0_0.length l0_0) (hc0_0 : l0_0.length ≤ c0_0) (hr0_1 : Kd.C k63 w A0_1 l0_1.length l0_1) (hc0_1 : l0_1.length ≤ c0_1) (hr0_2 : Kd.C k27 w A0_2 l0_2.length l0_2) (hc0_2 : l0_2.length ≤ c0_2) (hr0_3 : Kd.C k65 w A0_3 l0_3.length l0_3) (hc0_3 : l0_3.length ≤ c0_3) (hr1 : Kd.C (Kd.int .i64) w A1 l1.length l1) (hc1 : l1.length ≤ c1) (h : batch_asked.f k l0_0 l0_1 l0_2 l0_3 a0_4 a0_5 a0_6 l1 = some r) :
  Calls Try.prog 46 #[.agg #[.slice A0_0 l0_0.length c0_0, .slice A0_1 l0_1.length c0_1, .slice A0_2 l0_2.length c0_2, .slice A0_3 l0_3.length c0_3, .int .i64 a0_4, .int .i64 a0_5, .int .i64 a0_6], .slice A1 l1.length c1] w fun e w' => e = .returned (.int .i64 r) ∧ Below w.heap.size w w' := by
 have hu29 := Try.underlying29; have HR0_0 := Sd.mk hr0_0; have HC0_0 := Sd.mk hc0_0; clear hr0_0 hc0_0; have HR0_1 := Sd.mk hr0_1; have HC0_1 := Sd.mk hc0_1; clear hr0_1 hc0_1; have HR0_2 := Sd.mk hr0_2; have HC0_2 := Sd.mk hc0_2; clear hr0_2 hc0_2; have HR0_3 := Sd.mk hr0_3; have HC0_3 := Sd.mk hc0_3; clear hr0_3 hc0_3; have HR1 := Sd.mk hr1; have HC1 := Sd.mk hc1; clear hr1 hc1; have HB := Sd.mk (Below.refl w.heap.size w)
 have H : ((batch_Check.f k l0_0 l0_1 l0_2 l0_3 a0_4 a0_5 a0_6).bind fun t152 => (if t152 = 0 then ((batch_checkRecipe.f l0_0 l0_1 l0_2 l0_3 a0_4 a0_5 a0_6 l1).bind fun t153 => (some t153)) else (some t152))) = some r := h
 clear h; replace H := Option.bind_eq_some_iff.mp H; obtain ⟨t152, A30, H⟩ := H
 try dsimp only at H
 have A3 := Sd.mk A30; clear A30
 by_cases c4 : t152 = 0
 ·rw [if_pos c4] at H
  have c4b0 : (t152 == 0) = true := beq_iff_eq.mpr c4
  have c4b1 : (t152 != 0) = false := bne_eq_false_iff_eq.mpr c4
  clear c4; replace H := Option.bind_eq_some_iff.mp H; obtain ⟨t153, A50, H⟩ := H
  try dsimp only at H
  have A5 := Sd.mk A50; clear A50; obtain rfl := Option.some.inj H
  go_enter Try.func46, Try.ntmps46
  go_wp2_with (first | ((with_reducible refine gate_dst (N := 2) rfl ?_); refine box_event ?hg (N := 2) ?hd (cs := #[.slice A0_0 l0_0.length c0_0, .slice A0_1 l0_1.length c0_1, .slice A0_2 l0_2.length c0_2, .slice A0_3 l0_3.length c0_3, .int .i64 a0_4, .int .i64 a0_5, .int .i64 a0_6]) (t := 29) ?hr ?_; (case hd => rfl); (case hg => rfl); (case hr => exact tG); intro gb151 hg w6 hbox hb; have BK151 := Sd.mk (hbox); have GW151 := Sd.mk (bSz hg (bBl HB.out)); have GE151 := Sd.mk (bSz hg (bBl HB.out)); replace HB := Sd.mk (below_step (bBl HB.out) hb); clear hb hbox hg; obtain ⟨u7_0, u7_1, u7_2, u7_3, u7_4, u7_5, u7_6, o7_0, o7_1, o7_2, o7_3, o7_4, o7_5, o7_6⟩ := bc7 (w := w6) BK151.out) | ((with_reducible refine gate_callee (f := 26) rfl ?_); refine goesL_ (some 7) rfl rfl Try.func26 (by kernel_rfl) rfl #[.agg #[.slice A0_0 l0_0.length c0_0, .slice A0_1 l0_1.length c0_1, .slice A0_2 l0_2.length c0_2, .slice A0_3 l0_3.length c0_3, .int .i64 a0_4, .int .i64 a0_5, .int .i64 a0_6]] rfl tM ?_; (with_reducible refine (batch_Check.calls k _ _ l0_0 _ _ l0_1 _ _ l0_2 _ _ l0_3 a0_4 a0_5 a0_6 t152 _ (cS (Kd.C_below HR0_0.out HB.out)) HC0_0.out (cS (Kd.C_below HR0_1.out HB.out)) HC0_1.out (cS (Kd.C_below HR0_2.out HB.out)) HC0_2.out (cS (Kd.C_below HR0_3.out HB.out)) HC0_3.out A3.out).mono ?_); rintro e w8 ⟨rfl, hb⟩; refine ⟨_, rfl, ?_⟩; replace BK151 := Sd.mk (blk_below (bkA BK151.out) hb); replace HB := Sd.mk (below_step (bBl HB.out) hb); (try clear hb); (try clear hb2); (try clear hk); (try clear hi); obtain ⟨u9_0, u9_1, u9_2, u9_3, u9_4, u9_5, u9_6, o9_0, o9_1, o9_2, o9_3, o9_4, o9_5, o9_6⟩ := bc7 (w := w8) BK151.out) | ((with_reducible refine gate_callee (f := 108) rfl ?_); refine goesL_ (some 13) rfl rfl Try.func108 (by kernel_rfl) rfl #[.agg #[.slice A0_0 l0_0.length c0_0, .slice A0_1 l0_1.length c0_1, .slice A0_2 l0_2.length c0_2, .slice A0_3 l0_3.length c0_3, .int .i64 a0_4, .int .i64 a0_5, .int .i64 a0_6], .slice A1 l1.length c1] rfl tM ?_; (with_reducible refine (batch_checkRecipe.calls _ _ l0_0 _ _ l0_1 _ _ l0_2 _ _ l0_3 a0_4 a0_5 a0_6 _ _ l1 t153 _ (cS (Kd.C_below HR0_0.out HB.out)) HC0_0.out (cS (Kd.C_below HR0_1.out HB.out)) HC0_1.out (cS (Kd.C_below HR0_2.out HB.out)) HC0_2.out (cS (Kd.C_below HR0_3.out HB.out)) HC0_3.out (cS (Kd.C_below HR1.out HB.out)) HC1.out A5.out).mono ?_); rintro e w10 ⟨rfl, hb⟩; refine ⟨_, rfl, ?_⟩; replace BK151 := Sd.mk (blk_below (bkA BK151.out) hb); replace HB := Sd.mk (below_step (bBl HB.out) hb); (try clear hb); (try clear hb2); (try clear hk); (try clear hi)))
  go_ret
  exact ⟨tE, bBl HB.out⟩
 ·rw [if_neg c4] at H
  have c4b0 : (t152 == 0) = false := beq_eq_false_iff_ne.mpr c4
  have c4b1 : (t152 != 0) = true := bne_iff_ne.mpr c4
  obtain rfl := Option.some.inj H
  go_enter Try.func46, Try.ntmps46
  go_wp2_with (first | ((with_reducible refine gate_dst (N := 2) rfl ?_); refine box_event ?hg (N := 2) ?hd (cs := #[.slice A0_0 l0_0.length c0_0, .slice A0_1 l0_1.length c0_1, .slice A0_2 l0_2.length c0_2, .slice A0_3 l0_3.length c0_3, .int .i64 a0_4, .int .i64 a0_5, .int .i64 a0_6]) (t := 29) ?hr ?_; (case hd => rfl); (case hg => rfl); (case hr => exact tG); intro gb151 hg w11 hbox hb; have BK151 := Sd.mk (hbox); have GW151 := Sd.mk (bSz hg (bBl HB.out)); have GE151 := Sd.mk (bSz hg (bBl HB.out)); replace HB := Sd.mk (below_step (bBl HB.out) hb); clear hb hbox hg; obtain ⟨u12_0, u12_1, u12_2, u12_3, u12_4, u12_5, u12_6, o12_0, o12_1, o12_2, o12_3, o12_4, o12_5, o12_6⟩ := bc7 (w := w11) BK151.out) | ((with_reducible refine gate_callee (f := 26) rfl ?_); refine goesL_ (some 7) rfl rfl Try.func26 (by kernel_rfl) rfl #[.agg #[.slice A0_0 l0_0.length c0_0, .slice A0_1 l0_1.length c0_1, .slice A0_2 l0_2.length c0_2, .slice A0_3 l0_3.length c0_3, .int .i64 a0_4, .int .i64 a0_5, .int .i64 a0_6]] rfl tM ?_; (with_reducible refine (batch_Check.calls k _ _ l0_0 _ _ l0_1 _ _ l0_2 _ _ l0_3 a0_4 a0_5 a0_6 t152 _ (cS (Kd.C_below HR0_0.out HB.out)) HC0_0.out (cS (Kd.C_below HR0_1.out HB.out)) HC0_1.out (cS (Kd.C_below HR0_2.out HB.out)) HC0_2.out (cS (Kd.C_below HR0_3.out HB.out)) HC0_3.out A3.out).mono ?_); rintro e w13 ⟨rfl, hb⟩; refine ⟨_, rfl, ?_⟩; replace BK151 := Sd.mk (blk_below (bkA BK151.out) hb); replace HB := Sd.mk (below_step (bBl HB.out) hb); (try clear hb); (try clear hb2); (try clear hk); (try clear hi)))
  go_ret
  exact ⟨tE, bBl HB.out⟩
end Go.Proofs.Ytkjkokgbhepmoaa.PB

namespace Go.Proofs.Ytkjkokgbhepmoaa.PB
open Go.RowKit Go.Proofs.YtkjkokgbhepmoaaW.PrintWords Go.Proofs.YtkjkokgbhepmoaaW.PrintLast Go.Proofs.YtkjkokgbhepmoaaW.PrintMore
attribute [local go_sem] max2_int min2_int max_two min_two max_three min_three max_four min_four
mutual
def batch_grams.l0 : Nat → List Int → List (S27) → List (S63) → Int → Int → Option ((List (S27)))
 | 0, _, _, _, _, _ => none
 | k + 1, x1, x5, x15, x16, x17 => if x17 < x16 then (if 0 ≤ x17 then (if x17 < (x15.length : Int) then (batch_grams.l1 k x1 x5 x17 x15 x16 x17 ((rd_T63 x15 x17).f6) (((rd_T63 x15 x17).f6).length : Int) 0) else (none)) else (none)) else (some x5)
def batch_grams.l1 : Nat → List Int → List (S27) → Int → List (S63) → Int → Int → List (S27) → Int → Int → Option ((List (S27)))
 | 0, _, _, _, _, _, _, _, _, _ => none
 | k + 1, x1, x5, x6, x15, x16, x17, x23, x24, x25 => if x25 < x24 then (if 0 ≤ x25 then (if x25 < (x23.length : Int) then (if x25 < (x5.length : Int) then (if 0 ≤ x6 then (if x6 < (x1.length : Int) then ((some (x5.set (x25 : Int).toNat (⟨wrap64 (((rd_T27 x5 x25).f0) + (wrap64 ((rd x1 x6) * ((rd_T27 x23 x25).f0)))), (rd_T27 x5 x25).f1⟩ : S27) : List (S27))).bind fun y164 => (batch_grams.l1 k x1 (y164.set (x25 : Int).toNat (⟨(rd_T27 y164 x25).f0, wrap64 (((rd_T27 y164 x25).f1) + (wrap64 ((rd x1 x6) * ((rd_T27 x23 x25).f1))))⟩ : S27)) x6 x15 x16 x17 x23 x24 (wrap64 (x25 + 1)))) else (none)) else (none)) else (none)) else (none)) else (none)) else (batch_grams.l0 k x1 x5 x15 x16 (wrap64 (x17 + 1)))
end
def batch_grams.f (k : Nat) (l0_0 : List ByteArray) (l0_1 : List (S63)) (l0_2 : List (S27)) (l0_3 : List (S65)) (a0_4 : Int) (a0_5 : Int) (a0_6 : Int) (l1 : List Int) : Option ((List (S27))) := if 0 ≤ (l0_0.length : Int) then (if ((l0_0.length : Int) : Int).toNat ≤ 17592186044416 then (batch_grams.l0 k l1 (List.replicate ((l0_0.length : Int) : Int).toNat z27) l0_1 (l0_1.length : Int) 0) else (none)) else (none)
def batch_grams.T8 : Bool × List (List Nat × List Nat) := (true, [([], []), ([], []), ([0, 1], [0, 1]), ([2], [2]), ([3], [3]), ([], []), ([], []), ([5, 6], [5, 6]), ([7], [7]), ([], []), ([9], [9]), ([8, 10], [8, 10]), ([4, 11], [4, 11]), ([0, 1, 0, 1, 2, 3, 4, 5, 6, 7, 8, 9, 10, 11, 12], [0, 1]), ([13, 0, 1, 2, 3, 4, 5, 6, 7, 8, 9, 10, 11, 12], [13]), ([14, 12, 0, 1, 2, 3, 4, 5, 6, 7, 8, 9, 10, 11, 12], [12, 14])])
def batch_grams.B8 : List Nat := [0, 0, 3, 7, 15, 0, 0, 96, 224, 0, 512, 2016, 4095, 8191, 16383, 32767]
theorem batch_grams.tab8 : rtab .any (opsOf Try.f47 8) = batch_grams.T8 := by kernel_rfl
theorem batch_grams.bits8 : waitsOk batch_grams.T8.2 batch_grams.B8 = true := by kernel_rfl
def batch_grams.T9 : Bool × List (List Nat × List Nat) := (true, [([], []), ([], []), ([0, 1], [0, 1]), ([2], [2]), ([3], [3]), ([], []), ([], []), ([5, 6], [5, 6]), ([7], [7]), ([], []), ([9], [9]), ([8, 10], [8, 10]), ([4, 11], [4, 11]), ([0, 1, 0, 1, 2, 3, 4, 5, 6, 7, 8, 9, 10, 11, 12], [0, 1]), ([13, 0, 1, 2, 3, 4, 5, 6, 7, 8, 9, 10, 11, 12], [13]), ([14, 12, 0, 1, 2, 3, 4, 5, 6, 7, 8, 9, 10, 11, 12], [12, 14])])
def batch_grams.B9 : List Nat := [0, 0, 3, 7, 15, 0, 0, 96, 224, 0, 512, 2016, 4095, 8191, 16383, 32767]
theorem batch_grams.tab9 : rtab .any (opsOf Try.f47 9) = batch_grams.T9 := by kernel_rfl
theorem batch_grams.bits9 : waitsOk batch_grams.T9.2 batch_grams.B9 = true := by kernel_rfl
set_option maxHeartbeats 8000000 in
set_option maxRecDepth 100000 in
theorem batch_grams.calls (k : Nat) (A0_0 : Option Addr) (c0_0 : Nat) (l0_0 : List ByteArray) (A0_1 : Option Addr) (c0_1 : Nat) (l0_1 : List (S63)) (A0_2 : Option Addr) (c0_2 : Nat) (l0_2 : List (S27)) (A0_3 : Option Addr) (c0_3 : Nat) (l0_3 : List (S65)) (a0_4 : Int) (a0_5 : Int) (a0_6 : Int) (A1 : Option Addr) (c1 : Nat) (l1 : List Int) (r : List (S27)) (w : World) (hr0_0 : Kd.C Kd.string w A0_0 l0_0.length l0_0) (hc0_0 : l0_0.length ≤ c0_0) (hr0_1 : Kd.C k63 w A0_1 l0_1.length l0_1) (hc0_1 : l0_1.length ≤ c0_1) (hr0_2 : Kd.C k27 w A0_2 l0_2.length l0_2) (hc0_2 : l0_2.length ≤ c0_2) (hr0_3 : Kd.C k65 w A0_3 l0_3.length l0_3) (hc0_3 : l0_3.length ≤ c0_3) (hr1 : Kd.C (Kd.int .i64) w A1 l1.length l1) (hc1 : l1.length ≤ c1) (h : batch_grams.f k l0_0 l0_1 l0_2 l0_3 a0_4 a0_5 a0_6 l1 = some r) :
  Calls Try.prog 47 #[.agg #[.slice A0_0 l0_0.length c0_0, .slice A0_1 l0_1.length c0_1, .slice A0_2 l0_2.length c0_2, .slice A0_3 l0_3.length c0_3, .int .i64 a0_4, .int .i64 a0_5, .int .i64 a0_6], .slice A1 l1.length c1] w fun e w' => ∃ v0_ : Value, e = .returned (v0_) ∧ Kd.R k27 27 w' w.heap.size (fun _ => True) v0_ r ∧ Below w.heap.size w w' := by
 have hu29 := Try.underlying29; have hu63 := Try.underlying63; have hu27 := Try.underlying27; have HR0_0 := Sd.mk hr0_0; have HC0_0 := Sd.mk hc0_0; clear hr0_0 hc0_0; have HR0_1 := Sd.mk hr0_1; have HC0_1 := Sd.mk hc0_1; clear hr0_1 hc0_1; have HR0_2 := Sd.mk hr0_2; have HC0_2 := Sd.mk hc0_2; clear hr0_2 hc0_2; have HR0_3 := Sd.mk hr0_3; have HC0_3 := Sd.mk hc0_3; clear hr0_3 hc0_3; have HR1 := Sd.mk hr1; have HC1 := Sd.mk hc1; clear hr1 hc1; have HB := Sd.mk (Below.refl w.heap.size w)
 have H : (if 0 ≤ (l0_0.length : Int) then (if ((l0_0.length : Int) : Int).toNat ≤ 17592186044416 then (batch_grams.l0 k l1 (List.replicate ((l0_0.length : Int) : Int).toNat z27) l0_1 (l0_1.length : Int) 0) else (none)) else (none)) = some r := h
 clear h
 by_cases c3 : 0 ≤ (l0_0.length : Int)
 ·rw [if_pos c3] at H
  have c3b0 := eq_true c3
  have c3b1 : decide (0 ≤ (l0_0.length : Int)) = true := decide_eq_true c3
  clear c3
  by_cases c4 : ((l0_0.length : Int) : Int).toNat ≤ 17592186044416
  ·rw [if_pos c4] at H
   have c4b0 := eq_true c4
   have c4b1 : decide (((l0_0.length : Int) : Int).toNat ≤ 17592186044416) = true := decide_eq_true c4
   clear c4
   obtain ⟨y155, hy155⟩ : ∃ y_ : List (S27), y_ = (List.replicate ((l0_0.length : Int) : Int).toNat z27) := ⟨_, rfl⟩
   replace H : (batch_grams.l0 k l1 y155 l0_1 (l0_1.length : Int) 0) = some r := by first | (rw [hy155]; with_reducible exact H) | (have H2_ := (Option.bind_some _ _).symm.trans H; rw [hy155]; with_reducible exact H2_) | (have H2_ := (Option.bind_some _ _).symm.trans H; with_reducible exact H2_) | with_reducible exact H | (rw [hy155]; exact H) | exact H
   have Ny155 := Sd.mk hy155; clear hy155; have H' := Sd.mk H; clear H
   go_enter Try.func47, Try.ntmps47
   go_wp2_with (first | ((with_reducible refine gate_dst (N := 2) rfl ?_); refine box_event ?hg (N := 2) ?hd (cs := #[.slice A0_0 l0_0.length c0_0, .slice A0_1 l0_1.length c0_1, .slice A0_2 l0_2.length c0_2, .slice A0_3 l0_3.length c0_3, .int .i64 a0_4, .int .i64 a0_5, .int .i64 a0_6]) (t := 29) ?hr ?_; (case hd => rfl); (case hg => rfl); (case hr => exact tG); intro gb154 hg w5 hbox hb; have BK154 := Sd.mk (hbox); have GW154 := Sd.mk (bSz hg (bBl HB.out)); have GE154 := Sd.mk (bSz hg (bBl HB.out)); replace HB := Sd.mk (below_step (bBl HB.out) hb); clear hb hbox hg; obtain ⟨u6_0, u6_1, u6_2, u6_3, u6_4, u6_5, u6_6, o6_0, o6_1, o6_2, o6_3, o6_4, o6_5, o6_6⟩ := bc7 (w := w5) BK154.out) | ((with_reducible refine gate_dst (N := 13) rfl ?_); refine Kd.R_make k27 _ 27 rfl (N := 13) rfl 24 _ _ rfl (l0_0.length : Int) rfl rfl Try.underlying24 (.agg #[(.int .i64 0), (.int .i64 0)]) 16 info27 rfl (by decide) (by omega) z27 (ok := fun _ => True) (okp := fun _ => True) (k27_mkM _ _ _ z27 ) (fun _ hk => hk) trivial (tB) (Nat.le_trans (Nat.mul_le_mul_right _ (tB : (l0_0.length : Int).toNat ≤ 17592186044416)) (by omega)) (Below.refl _ _) (Nat.le_refl _) ?_; intro v156 w7 ho8 hb hg_ hnew_; clear hg_ hnew_; (first | rw [← Ny155.out] at ho8 | (simp only [Int.reduceToNat] at ho8; rw [← Ny155.out] at ho8)); have HO157 := Sd.mk (Kd.R_lower ho8 (below_size (bBl HB.out))); replace BK154 := Sd.mk (blk_below (bkA BK154.out) hb); replace HB := Sd.mk (below_step (bBl HB.out) hb); clear hb ho8; obtain ⟨u9_0, u9_1, u9_2, u9_3, u9_4, u9_5, u9_6, o9_0, o9_1, o9_2, o9_3, o9_4, o9_5, o9_6⟩ := bc7 (w := w7) BK154.out))
   go_loopg [17] k (fun kq v17 w' => ∃ (x5_1 : List (S27)) (x17_1 : Int), v17 = .int .i64 x17_1 ∧ Sd (batch_grams.l0 kq l1 x5_1 l0_1 (l0_1.length : Int) x17_1 = some r) ∧ Sd (kq ≤ k) ∧ Sd (Kd.R k27 27 w' w.heap.size (fun _ => True) v156 x5_1) ∧ Sd (w'.heap[gb154]? = some (.cells #[(.slice A0_0 l0_0.length c0_0), (.slice A0_1 l0_1.length c0_1), (.slice A0_2 l0_2.length c0_2), (.slice A0_3 l0_3.length c0_3), .int .i64 a0_4, .int .i64 a0_5, .int .i64 a0_6] 29 (0, 0))) ∧ Sd (Below w.heap.size w w'))
   case atStart => exact ⟨(y155), (0), tS, H', ⟨Nat.le_refl _⟩, ⟨by (with_reducible repeat (first | apply Kd.R_alloc | apply Kd.R_drewN | apply Kd.R_drew)); exact HO157.out⟩, ⟨bkA BK154.out⟩, ⟨bBl HB.out⟩⟩
   case round =>
    clear H'; (try clear c1); (try clear p2); (try clear c3); (try clear c3b0); (try clear c3b1); (try clear c4); (try clear c4b0); (try clear c4b1); (try clear u6_0 u6_1 u6_2 u6_3 u6_4 u6_5 u6_6); (try clear u9_0 u9_1 u9_2 u9_3 u9_4 u9_5 u9_6); (try clear o6_0 o6_1 o6_2 o6_3 o6_4 o6_5 o6_6); (try clear o9_0 o9_1 o9_2 o9_3 o9_4 o9_5 o9_6); obtain ⟨x5_1, x17_1, rfl, HA, HK1, HO_5, BK154, HB⟩ := hrel
    cases gk with
    | zero => exact absurd HA.out (by simp [batch_grams.l0])
    | succ k1 =>
     have H := HA.out; clear HA
     simp only [batch_grams.l0] at H
     by_cases c10 : x17_1 < (l0_1.length : Int)
     ·rw [if_pos c10] at H
      have c10b0 : decide (x17_1 < (l0_1.length : Int)) = true := decide_eq_true c10
      clear c10
      by_cases c11 : 0 ≤ x17_1
      ·rw [if_pos c11] at H
       have c11b0 : decide (0 ≤ x17_1) = true := decide_eq_true c11
       clear c11
       by_cases c12 : x17_1 < (l0_1.length : Int)
       ·rw [if_pos c12] at H
        have c12b0 : decide (x17_1 < (l0_1.length : Int)) = true := decide_eq_true c12
        clear c12; have H' := Sd.mk H; clear H
        have p158 : 0 ≤ (x17_1 : Int) := tB
        have q158 : x17_1 < (l0_1.length : Int) := tB
        obtain ⟨ad158, A158_6, c158_6, e158, hx158_0, hx158_1, hx158_2, hx158_3, hx158_4, hx158_5, hx158_6, hl158_6, hi158_6⟩ := at_T63 HR0_1.out x17_1 p158 q158; cases e158; replace hx158_0 := cU HB hx158_0; replace hx158_1 := cU HB hx158_1; replace hx158_2 := cU HB hx158_2; replace hx158_3 := cU HB hx158_3; replace hx158_4 := cU HB hx158_4; replace hx158_5 := cU HB hx158_5; replace hx158_6 := cU HB hx158_6; have HR158_6 := Sd.mk hi158_6; have HC158_6 := Sd.mk hl158_6; clear hi158_6 hl158_6; replace p158 := eq_true p158; replace q158 := eq_true q158
        go_wp2_with (first | ((with_reducible refine gate_dst (N := 7) rfl ?_); refine box_event ?hg (N := 7) ?hd (cs := #[.string (⟨#[]⟩ : ByteArray), .int .i64 0, .int .i64 0, .int .i64 0, .int .i64 0, .int .i64 0, .slice none 0 0]) (t := 63) ?hr ?_; (case hd => rfl); (case hg => rfl); (case hr => exact tG); intro gb159 hg w13 hbox hb; replace HO_5 := Sd.mk (Kd.R_below (by (with_reducible repeat (first | apply Kd.R_alloc | apply Kd.R_drewN | apply Kd.R_drew)); exact HO_5.out) hb); have BK159 := Sd.mk (hbox); have GW159 := Sd.mk (bSz hg (bBl HB.out)); have GE159 := Sd.mk (bSz hg (bBl HB.out)); replace HB := Sd.mk (below_step (bBl HB.out) hb); have NB154_159 := Sd.mk (bNl hg (bkA BK154.out)); have NB159_154 := Sd.mk (bNg hg (bkA BK154.out)); replace BK154 := Sd.mk (blk_below (bkA BK154.out) hb); clear hb hbox hg; have hnb14 := NB159_154.out; have hnc14 := NB154_159.out; obtain ⟨u15_0, u15_1, u15_2, u15_3, u15_4, u15_5, u15_6, o15_0, o15_1, o15_2, o15_3, o15_4, o15_5, o15_6⟩ := bc7 (w := w13) BK159.out))
        go_loopg [25] k1 (fun kq v25 w' => ∃ (x5_2 : List (S27)) (x25_2 : Int), v25 = .int .i64 x25_2 ∧ Sd (batch_grams.l1 kq l1 x5_2 x17_1 l0_1 (l0_1.length : Int) x17_1 ((rd_T63 l0_1 x17_1).f6) (((rd_T63 l0_1 x17_1).f6).length : Int) x25_2 = some r) ∧ Sd (kq ≤ k1) ∧ Sd (Kd.R k27 27 w' w.heap.size (fun _ => True) v156 x5_2) ∧ Sd (w'.heap[gb154]? = some (.cells #[(.slice A0_0 l0_0.length c0_0), (.slice (some ad158) l0_1.length c0_1), (.slice A0_2 l0_2.length c0_2), (.slice A0_3 l0_3.length c0_3), .int .i64 a0_4, .int .i64 a0_5, .int .i64 a0_6] 29 (0, 0))) ∧ Sd (w'.heap[gb159]? = some (.cells #[.string ((rd_T63 l0_1 x17_1).f0), .int .i64 ((rd_T63 l0_1 x17_1).f1), .int .i64 ((rd_T63 l0_1 x17_1).f2), .int .i64 ((rd_T63 l0_1 x17_1).f3), .int .i64 ((rd_T63 l0_1 x17_1).f4), .int .i64 ((rd_T63 l0_1 x17_1).f5), (.slice A158_6 ((rd_T63 l0_1 x17_1).f6).length c158_6)] 63 (0, 0))) ∧ Sd (Below w.heap.size w w'))
        case atStart => exact ⟨(x5_1), (0), tS, H', ⟨Nat.le_refl _⟩, ⟨by (with_reducible repeat (first | apply Kd.R_alloc | apply Kd.R_drewN | apply Kd.R_drew)); exact Kd.R_mono (Kd.R_far (p := ⟨gb159, 6, none⟩) (Kd.R_far (p := ⟨gb159, 5, none⟩) (Kd.R_far (p := ⟨gb159, 4, none⟩) (Kd.R_far (p := ⟨gb159, 3, none⟩) (Kd.R_far (p := ⟨gb159, 2, none⟩) (Kd.R_far (p := ⟨gb159, 1, none⟩) (Kd.R_far (p := ⟨gb159, 0, none⟩) (Kd.R_types HO_5.out BK159.out (by decide)) (fun _ hk => hk.2) (.string ((rd_T63 l0_1 x17_1).f0))) (fun _ hk => hk.2) (.int .i64 ((rd_T63 l0_1 x17_1).f1))) (fun _ hk => hk.2) (.int .i64 ((rd_T63 l0_1 x17_1).f2))) (fun _ hk => hk.2) (.int .i64 ((rd_T63 l0_1 x17_1).f3))) (fun _ hk => hk.2) (.int .i64 ((rd_T63 l0_1 x17_1).f4))) (fun _ hk => hk.2) (.int .i64 ((rd_T63 l0_1 x17_1).f5))) (fun _ hk => hk.2) (.slice A158_6 ((rd_T63 l0_1 x17_1).f6).length c158_6)) (fun _ hk => trivial)⟩, ⟨by (with_reducible repeat (first | refine blk_drewN ?_ _ | refine blk_drew ?_ | refine blk_alloc ?_ _)); refine blk_far ?_ NB154_159.out _; (with_reducible repeat (first | refine blk_drewN ?_ _ | refine blk_drew ?_ | refine blk_alloc ?_ _)); refine blk_far ?_ NB154_159.out _; (with_reducible repeat (first | refine blk_drewN ?_ _ | refine blk_drew ?_ | refine blk_alloc ?_ _)); refine blk_far ?_ NB154_159.out _; (with_reducible repeat (first | refine blk_drewN ?_ _ | refine blk_drew ?_ | refine blk_alloc ?_ _)); refine blk_far ?_ NB154_159.out _; (with_reducible repeat (first | refine blk_drewN ?_ _ | refine blk_drew ?_ | refine blk_alloc ?_ _)); refine blk_far ?_ NB154_159.out _; (with_reducible repeat (first | refine blk_drewN ?_ _ | refine blk_drew ?_ | refine blk_alloc ?_ _)); refine blk_far ?_ NB154_159.out _; (with_reducible repeat (first | refine blk_drewN ?_ _ | refine blk_drew ?_ | refine blk_alloc ?_ _)); refine blk_far ?_ NB154_159.out _; (with_reducible repeat (first | refine blk_drewN ?_ _ | refine blk_drew ?_ | refine blk_alloc ?_ _)); exact BK154.out⟩, ⟨by (with_reducible repeat (first | refine blk_drewN ?_ _ | refine blk_drew ?_ | refine blk_alloc ?_ _)); refine blk_put (cs := #[.string ((rd_T63 l0_1 x17_1).f0), .int .i64 ((rd_T63 l0_1 x17_1).f1), .int .i64 ((rd_T63 l0_1 x17_1).f2), .int .i64 ((rd_T63 l0_1 x17_1).f3), .int .i64 ((rd_T63 l0_1 x17_1).f4), .int .i64 ((rd_T63 l0_1 x17_1).f5), .slice none 0 0]) ?_ 6 _ rfl; (with_reducible repeat (first | refine blk_drewN ?_ _ | refine blk_drew ?_ | refine blk_alloc ?_ _)); refine blk_put (cs := #[.string ((rd_T63 l0_1 x17_1).f0), .int .i64 ((rd_T63 l0_1 x17_1).f1), .int .i64 ((rd_T63 l0_1 x17_1).f2), .int .i64 ((rd_T63 l0_1 x17_1).f3), .int .i64 ((rd_T63 l0_1 x17_1).f4), .int .i64 0, .slice none 0 0]) ?_ 5 _ rfl; (with_reducible repeat (first | refine blk_drewN ?_ _ | refine blk_drew ?_ | refine blk_alloc ?_ _)); refine blk_put (cs := #[.string ((rd_T63 l0_1 x17_1).f0), .int .i64 ((rd_T63 l0_1 x17_1).f1), .int .i64 ((rd_T63 l0_1 x17_1).f2), .int .i64 ((rd_T63 l0_1 x17_1).f3), .int .i64 0, .int .i64 0, .slice none 0 0]) ?_ 4 _ rfl; (with_reducible repeat (first | refine blk_drewN ?_ _ | refine blk_drew ?_ | refine blk_alloc ?_ _)); refine blk_put (cs := #[.string ((rd_T63 l0_1 x17_1).f0), .int .i64 ((rd_T63 l0_1 x17_1).f1), .int .i64 ((rd_T63 l0_1 x17_1).f2), .int .i64 0, .int .i64 0, .int .i64 0, .slice none 0 0]) ?_ 3 _ rfl; (with_reducible repeat (first | refine blk_drewN ?_ _ | refine blk_drew ?_ | refine blk_alloc ?_ _)); refine blk_put (cs := #[.string ((rd_T63 l0_1 x17_1).f0), .int .i64 ((rd_T63 l0_1 x17_1).f1), .int .i64 0, .int .i64 0, .int .i64 0, .int .i64 0, .slice none 0 0]) ?_ 2 _ rfl; (with_reducible repeat (first | refine blk_drewN ?_ _ | refine blk_drew ?_ | refine blk_alloc ?_ _)); refine blk_put (cs := #[.string ((rd_T63 l0_1 x17_1).f0), .int .i64 0, .int .i64 0, .int .i64 0, .int .i64 0, .int .i64 0, .slice none 0 0]) ?_ 1 _ rfl; (with_reducible repeat (first | refine blk_drewN ?_ _ | refine blk_drew ?_ | refine blk_alloc ?_ _)); refine blk_put (cs := #[.string (⟨#[]⟩ : ByteArray), .int .i64 0, .int .i64 0, .int .i64 0, .int .i64 0, .int .i64 0, .slice none 0 0]) ?_ 0 _ rfl; (with_reducible repeat (first | refine blk_drewN ?_ _ | refine blk_drew ?_ | refine blk_alloc ?_ _)); exact BK159.out⟩, ⟨bBl HB.out⟩⟩
        case round =>
         clear H'; (try clear c1); (try clear p1); (try clear q1); (try clear hx1); (try clear p2 p2); (try clear c3); (try clear c3b0); (try clear c3b1); (try clear c4); (try clear c4b0); (try clear c4b1); (try clear c10); (try clear c10b0); (try clear c11); (try clear c11b0); (try clear c12); (try clear c12b0); (try clear c14); (try clear c15); (try clear p15); (try clear q15); (try clear hx15); (try clear u15_0 u15_1 u15_2 u15_3 u15_4 u15_5 u15_6); (try clear u6_0 u6_1 u6_2 u6_3 u6_4 u6_5 u6_6); (try clear u9_0 u9_1 u9_2 u9_3 u9_4 u9_5 u9_6); (try clear o15_0 o15_1 o15_2 o15_3 o15_4 o15_5 o15_6); (try clear o6_0 o6_1 o6_2 o6_3 o6_4 o6_5 o6_6); (try clear o9_0 o9_1 o9_2 o9_3 o9_4 o9_5 o9_6); (try clear hx158_0); (try clear hx158_1); (try clear hx158_2); (try clear hx158_3); (try clear hx158_4); (try clear hx158_5); (try clear hx158_6); (try clear p158); (try clear q158); obtain ⟨x5_2, x25_2, rfl, HA, HK2, HO_5, BK154, BK159, HB⟩ := hrel
         cases gk with
         | zero => exact absurd HA.out (by simp [batch_grams.l1])
         | succ k2 =>
          have H := HA.out; clear HA
          simp only [batch_grams.l1] at H
          by_cases c16 : x25_2 < (((rd_T63 l0_1 x17_1).f6).length : Int)
          ·rw [if_pos c16] at H
           have c16b0 : decide (x25_2 < (((rd_T63 l0_1 x17_1).f6).length : Int)) = true := decide_eq_true c16
           clear c16
           by_cases c17 : 0 ≤ x25_2
           ·rw [if_pos c17] at H
            have c17b0 : decide (0 ≤ x25_2) = true := decide_eq_true c17
            clear c17
            by_cases c18 : x25_2 < (((rd_T63 l0_1 x17_1).f6).length : Int)
            ·rw [if_pos c18] at H
             have c18b0 : decide (x25_2 < (((rd_T63 l0_1 x17_1).f6).length : Int)) = true := decide_eq_true c18
             clear c18
             by_cases c19 : x25_2 < (x5_2.length : Int)
             ·rw [if_pos c19] at H
              have c19b0 : decide (x25_2 < (x5_2.length : Int)) = true := decide_eq_true c19
              clear c19
              by_cases c20 : 0 ≤ x17_1
              ·rw [if_pos c20] at H
               have c20b0 : decide (0 ≤ x17_1) = true := decide_eq_true c20
               clear c20
               by_cases c21 : x17_1 < (l1.length : Int)
               ·rw [if_pos c21] at H
                have c21b0 : decide (x17_1 < (l1.length : Int)) = true := decide_eq_true c21
                clear c21
                obtain ⟨y164, hy164⟩ : ∃ y_ : List (S27), y_ = (x5_2.set (x25_2 : Int).toNat (⟨wrap64 (((rd_T27 x5_2 x25_2).f0) + (wrap64 ((rd l1 x17_1) * ((rd_T27 ((rd_T63 l0_1 x17_1).f6) x25_2).f0)))), (rd_T27 x5_2 x25_2).f1⟩ : S27)) := ⟨_, rfl⟩
                replace H : (batch_grams.l1 k2 l1 (y164.set (x25_2 : Int).toNat (⟨(rd_T27 y164 x25_2).f0, wrap64 (((rd_T27 y164 x25_2).f1) + (wrap64 ((rd l1 x17_1) * ((rd_T27 ((rd_T63 l0_1 x17_1).f6) x25_2).f1))))⟩ : S27)) x17_1 l0_1 (l0_1.length : Int) x17_1 ((rd_T63 l0_1 x17_1).f6) (((rd_T63 l0_1 x17_1).f6).length : Int) (wrap64 (x25_2 + 1))) = some r := by first | (rw [hy164]; with_reducible exact H) | (have H2_ := (Option.bind_some _ _).symm.trans H; rw [hy164]; with_reducible exact H2_) | (have H2_ := (Option.bind_some _ _).symm.trans H; with_reducible exact H2_) | with_reducible exact H | (rw [hy164]; exact H) | exact H
                have Ny164 := Sd.mk hy164; clear hy164
                obtain ⟨y167, hy167⟩ : ∃ y_ : List (S27), y_ = (y164.set (x25_2 : Int).toNat (⟨(rd_T27 y164 x25_2).f0, wrap64 (((rd_T27 y164 x25_2).f1) + (wrap64 ((rd l1 x17_1) * ((rd_T27 ((rd_T63 l0_1 x17_1).f6) x25_2).f1))))⟩ : S27)) := ⟨_, rfl⟩
                replace H : (batch_grams.l1 k2 l1 y167 x17_1 l0_1 (l0_1.length : Int) x17_1 ((rd_T63 l0_1 x17_1).f6) (((rd_T63 l0_1 x17_1).f6).length : Int) (wrap64 (x25_2 + 1))) = some r := by first | (rw [hy167]; with_reducible exact H) | (have H2_ := (Option.bind_some _ _).symm.trans H; rw [hy167]; with_reducible exact H2_) | (have H2_ := (Option.bind_some _ _).symm.trans H; with_reducible exact H2_) | with_reducible exact H | (rw [hy167]; exact H) | exact H
                have Ny167 := Sd.mk hy167; clear hy167; have H' := Sd.mk H; clear H
                have p160 : 0 ≤ (x25_2 : Int) := tB
                have q160 : x25_2 < (((rd_T63 l0_1 x17_1).f6).length : Int) := tB
                obtain ⟨ad160, e160, hx160_0, hx160_1⟩ := at_T27 HR158_6.out x25_2 p160 q160; cases e160; replace hx160_0 := cU HB hx160_0; replace hx160_1 := cU HB hx160_1; replace p160 := eq_true p160; replace q160 := eq_true q160
                try go_wp2_with (first | ((with_reducible refine gate_dst (N := 9) rfl ?_); refine box_event ?hg (N := 9) ?hd (cs := #[.int .i64 0, .int .i64 0]) (t := 27) ?hr ?_; (case hd => rfl); (case hg => rfl); (case hr => exact tG); intro gb161 hg w24 hbox hb; replace HO_5 := Sd.mk (Kd.R_below (Kd.R_elderB (by (with_reducible repeat (first | apply Kd.R_alloc | apply Kd.R_drewN | apply Kd.R_drew)); exact HO_5.out) gb161 (Nat.le_of_eq hg.symm)) hb); have BK161 := Sd.mk (hbox); have GW161 := Sd.mk (bSz hg (bBl HB.out)); have GE161 := Sd.mk (bSz hg (bBl HB.out)); replace HB := Sd.mk (below_step (bBl HB.out) hb); have NB154_161 := Sd.mk (bNl hg (bkA BK154.out)); have NB161_154 := Sd.mk (bNg hg (bkA BK154.out)); replace BK154 := Sd.mk (blk_below (bkA BK154.out) hb); have NB159_161 := Sd.mk (bNl hg (bkA BK159.out)); have NB161_159 := Sd.mk (bNg hg (bkA BK159.out)); replace BK159 := Sd.mk (blk_below (bkA BK159.out) hb); clear hb hbox hg; have hnb25 := NB161_154.out; have hnc25 := NB154_161.out; have hnb26 := NB161_159.out; have hnc26 := NB159_161.out; obtain ⟨u27_0, u27_1, o27_0, o27_1⟩ := bc2 (w := w24) BK161.out))
                have n0_ : Sd (Kd.R k27 27 ((w24.setCell ⟨gb161, 0, none⟩ (.int .i64 ((rd_T27 ((rd_T63 l0_1 x17_1).f6) x25_2).f0))).setCell ⟨gb161, 1, none⟩ (.int .i64 ((rd_T27 ((rd_T63 l0_1 x17_1).f6) x25_2).f1))) w.heap.size (fun k_ => k_ ≠ gb161) v156 x5_2) := ⟨by (with_reducible repeat (first | apply Kd.R_alloc | apply Kd.R_drewN | apply Kd.R_drew)); exact Kd.R_mono (Kd.R_far (p := ⟨gb161, 1, none⟩) (Kd.R_far (p := ⟨gb161, 0, none⟩) (Kd.R_mono HO_5.out (fun k_ hk => (⟨hk, hk.2⟩ : _ ∧ k_ ≠ gb161))) (fun _ hk => hk.2) (.int .i64 ((rd_T27 ((rd_T63 l0_1 x17_1).f6) x25_2).f0))) (fun _ hk => hk.2) (.int .i64 ((rd_T27 ((rd_T63 l0_1 x17_1).f6) x25_2).f1))) (fun _ hk => hk.1.2)⟩
                have n1_ : Sd (((w24.setCell ⟨gb161, 0, none⟩ (.int .i64 ((rd_T27 ((rd_T63 l0_1 x17_1).f6) x25_2).f0))).setCell ⟨gb161, 1, none⟩ (.int .i64 ((rd_T27 ((rd_T63 l0_1 x17_1).f6) x25_2).f1))).heap[gb154]? = some (.cells #[.slice A0_0 l0_0.length c0_0, .slice (some ad158) l0_1.length c0_1, .slice A0_2 l0_2.length c0_2, .slice A0_3 l0_3.length c0_3, .int .i64 a0_4, .int .i64 a0_5, .int .i64 a0_6] 29 (0, 0))) := ⟨by (with_reducible repeat (first | refine blk_drewN ?_ _ | refine blk_drew ?_ | refine blk_alloc ?_ _)); refine blk_far ?_ NB154_161.out _; (with_reducible repeat (first | refine blk_drewN ?_ _ | refine blk_drew ?_ | refine blk_alloc ?_ _)); refine blk_far ?_ NB154_161.out _; (with_reducible repeat (first | refine blk_drewN ?_ _ | refine blk_drew ?_ | refine blk_alloc ?_ _)); exact BK154.out⟩
                have n2_ : Sd (((w24.setCell ⟨gb161, 0, none⟩ (.int .i64 ((rd_T27 ((rd_T63 l0_1 x17_1).f6) x25_2).f0))).setCell ⟨gb161, 1, none⟩ (.int .i64 ((rd_T27 ((rd_T63 l0_1 x17_1).f6) x25_2).f1))).heap[gb159]? = some (.cells #[.string ((rd_T63 l0_1 x17_1).f0), .int .i64 ((rd_T63 l0_1 x17_1).f1), .int .i64 ((rd_T63 l0_1 x17_1).f2), .int .i64 ((rd_T63 l0_1 x17_1).f3), .int .i64 ((rd_T63 l0_1 x17_1).f4), .int .i64 ((rd_T63 l0_1 x17_1).f5), .slice (some ad160) ((rd_T63 l0_1 x17_1).f6).length c158_6] 63 (0, 0))) := ⟨by (with_reducible repeat (first | refine blk_drewN ?_ _ | refine blk_drew ?_ | refine blk_alloc ?_ _)); refine blk_far ?_ NB159_161.out _; (with_reducible repeat (first | refine blk_drewN ?_ _ | refine blk_drew ?_ | refine blk_alloc ?_ _)); refine blk_far ?_ NB159_161.out _; (with_reducible repeat (first | refine blk_drewN ?_ _ | refine blk_drew ?_ | refine blk_alloc ?_ _)); exact BK159.out⟩
                have n3_ : Sd (((w24.setCell ⟨gb161, 0, none⟩ (.int .i64 ((rd_T27 ((rd_T63 l0_1 x17_1).f6) x25_2).f0))).setCell ⟨gb161, 1, none⟩ (.int .i64 ((rd_T27 ((rd_T63 l0_1 x17_1).f6) x25_2).f1))).heap[gb161]? = some (.cells #[.int .i64 ((rd_T27 ((rd_T63 l0_1 x17_1).f6) x25_2).f0), .int .i64 ((rd_T27 ((rd_T63 l0_1 x17_1).f6) x25_2).f1)] 27 (0, 0))) := ⟨by (with_reducible repeat (first | refine blk_drewN ?_ _ | refine blk_drew ?_ | refine blk_alloc ?_ _)); refine blk_put (cs := #[.int .i64 ((rd_T27 ((rd_T63 l0_1 x17_1).f6) x25_2).f0), .int .i64 0]) ?_ 1 _ rfl; (with_reducible repeat (first | refine blk_drewN ?_ _ | refine blk_drew ?_ | refine blk_alloc ?_ _)); refine blk_put (cs := #[.int .i64 0, .int .i64 0]) ?_ 0 _ rfl; (with_reducible repeat (first | refine blk_drewN ?_ _ | refine blk_drew ?_ | refine blk_alloc ?_ _)); exact BK161.out⟩
                have n4_ : Sd (Below w.heap.size w ((w24.setCell ⟨gb161, 0, none⟩ (.int .i64 ((rd_T27 ((rd_T63 l0_1 x17_1).f6) x25_2).f0))).setCell ⟨gb161, 1, none⟩ (.int .i64 ((rd_T27 ((rd_T63 l0_1 x17_1).f6) x25_2).f1)))) := ⟨bBl HB.out⟩
                (try clear HO_5)
                (try clear BK154)
                (try clear BK159)
                (try clear BK161)
                (try clear HB)
                generalize ((w24.setCell ⟨gb161, 0, none⟩ (.int .i64 ((rd_T27 ((rd_T63 l0_1 x17_1).f6) x25_2).f0))).setCell ⟨gb161, 1, none⟩ (.int .i64 ((rd_T27 ((rd_T63 l0_1 x17_1).f6) x25_2).f1))) = w28 at n0_ n1_ n2_ n3_ n4_ ⊢
                have HO_5 := n0_; have BK154 := n1_; have BK159 := n2_; have BK161 := n3_; have HB := n4_; clear n0_ n1_ n2_ n3_ n4_; replace HO_5 := Sd.mk (Kd.R_drew HO_5.out); replace BK154 := Sd.mk (blk_drew BK154.out); replace BK159 := Sd.mk (blk_drew BK159.out); replace BK161 := Sd.mk (blk_drew BK161.out); replace HB := Sd.mk (below_drew1 HB.out); obtain ⟨Ao30, co30, eo30⟩ := Kd.R_slice HO_5.out
                (first | subst eo30 | (injection eo30 with f1_ f2_ f3_; have f4_ := f1_.symm; have f5_ := f3_.symm; clear f1_ f2_ f3_; subst f4_; subst f5_))
                have p162 : 0 ≤ (x25_2 : Int) := tB
                have q162 : x25_2 < (x5_2.length : Int) := tB
                obtain ⟨ad162, e162, hx162_0, hx162_1⟩ := at_T27 (Kd.R_reads' HO_5.out).2.2 x25_2 p162 q162; cases e162; replace p162 := eq_true p162; replace q162 := eq_true q162
                have p163 : 0 ≤ (x17_1 : Int) := tB
                have q163 : x17_1 < (l1.length : Int) := tB
                obtain ⟨ad163, e163, hx163_0⟩ := Kd.at_int HR1.out x17_1 p163 q163; have hw163_0 := hx163_0; cases e163; replace hx163_0 := cU HB hx163_0; replace p163 := eq_true p163; replace q163 := eq_true q163
                have p22 : 0 ≤ (x25_2 : Int) := tB
                have q22 : (x25_2 : Int) < ((x5_2.length : Int) : Int) := tB
                obtain ⟨go22, co22, eo22, gb22, gl22, cl22, HG22⟩ := Kd.R_form HO_5.out (by omega)
                (first | cases eo22 | (injection eo22 with ea_ en_ ec_; (first | subst ea_ | (injection ea_ with ea_; subst ea_)); subst ec_; clear en_))
                have GB22 := Sd.mk gb22; have GG22 := Sd.mk HG22; clear gb22 gl22 HG22
                (first | simp only [add_plain] at hx162_0 | skip)
                (first | simp only [add_plain] at hx162_1 | skip)
                obtain ⟨ce22, hcl22, hM22, hcc22, hfr22⟩ := Kd.R_elem HO_5.out z27 (x25_2 : Int) p22 q22; obtain rfl := k27_openM hM22
                have hx22_0 : World.cell? _ ⟨go22, (x25_2 : Int).toNat * 2, none⟩ = some (.int .i64 ((rd_T27 x5_2 x25_2).f0)) := hcc22 0 _ rfl
                have hx22_1 : World.cell? _ ⟨go22, (x25_2 : Int).toNat * 2 + 1, none⟩ = some (.int .i64 ((rd_T27 x5_2 x25_2).f1)) := hcc22 1 _ rfl
                have hf22_0 : World.frozen? _ ⟨go22, (x25_2 : Int).toNat * 2, none⟩ = false := hfr22 0
                have hf22_1 : World.frozen? _ ⟨go22, (x25_2 : Int).toNat * 2 + 1, none⟩ = false := hfr22 1
                clear hcl22 hcc22 hfr22 hM22; replace p22 := eq_true p22; replace q22 := eq_true q22
                obtain ⟨ce31, hcl31, hM31, hcc31, hfr31⟩ := Kd.R_elem HO_5.out z27 (x25_2 : Int) (tB) (by have h_ : (x25_2 : Int) < ((x5_2.length : Int) : Int) := tB; first | exact h_ | (have e_ := (Kd.R_reads' HO_5.out).1; omega) | simpa using h_)
                obtain rfl := k27_openM hM31
                have HP31 := (Kd.R_seg HO_5.out (x25_2 : Int) (tB) (by have h_ : (x25_2 : Int) < ((x5_2.length : Int) : Int) := tB; first | exact h_ | (have e_ := (Kd.R_reads' HO_5.out).1; omega) | simpa using h_) (seg := [.int .i64 (wrap64 (((rd_T27 x5_2 x25_2).f0) + (wrap64 ((rd l1 x17_1) * ((rd_T27 ((rd_T63 l0_1 x17_1).f6) x25_2).f0)))))]) (j := 0) hcl31 hcc31 (show 1 ≤ 2 from by decide) (x' := (⟨wrap64 (((rd_T27 x5_2 x25_2).f0) + (wrap64 ((rd l1 x17_1) * ((rd_T27 ((rd_T63 l0_1 x17_1).f6) x25_2).f0)))), (rd_T27 x5_2 x25_2).f1⟩ : S27)) (k27_mkM _ _ _ (⟨wrap64 (((rd_T27 x5_2 x25_2).f0) + (wrap64 ((rd l1 x17_1) * ((rd_T27 ((rd_T63 l0_1 x17_1).f6) x25_2).f0)))), (rd_T27 x5_2 x25_2).f1⟩ : S27) ) (fun _ hk => hk)).1
                rw [← Ny164.out] at HP31
                have HQ31 := Sd.mk HP31; clear hcl31 hcc31 hfr31 hM31 HP31
                refine start_ (n := 16) (S := fun w' => w'.cell? ⟨gb161, 0, none⟩ = some (.int .i64 ((rd_T27 ((rd_T63 l0_1 x17_1).f6) x25_2).f0)) ∧ w'.cell? ⟨gb161, 1, none⟩ = some (.int .i64 ((rd_T27 ((rd_T63 l0_1 x17_1).f6) x25_2).f1)) ∧ w'.cell? ⟨go22, ((x25_2).toNat * 2), none⟩ = some (.int .i64 ((rd_T27 x5_2 x25_2).f0)) ∧ w'.cell? ⟨go22, ((x25_2).toNat * 2) + 1, none⟩ = some (.int .i64 ((rd_T27 x5_2 x25_2).f1)) ∧ w'.cell? (ad163.add (x17_1).toNat) = some (.int .i64 (rd l1 x17_1))) (ds := [15]) #[false, false, false, false, false, false, false, false, false, false, false, false, false, false, false, false] (by kernel_rfl) rfl rfl ⟨(blk_cell BK161.out 0).trans rfl, (blk_cell BK161.out 1).trans rfl, hx162_0, hx162_1, ((HB.out.cell (World.block_lt_of_cell? w _ hw163_0)).trans hw163_0)⟩ (fun hHeld => ?_); refine with_tabW batch_grams.tab8 batch_grams.bits8 (fun HT_ HW_ => ?_)
                generalize w28.drew = w29 at HO_5 BK154 BK159 BK161 HB GG22 HQ31 hf22_0 hf22_1 hx162_0 hx162_1 hx163_0 hx22_0 hx22_1 hHeld ⊢
                refine pure_ (i := 0) (N := some 30) (v := ?_) (a' := ?_) #[true, false, false, false, false, false, false, false, false, false, false, false, false, false, false, false] rfl rfl (any_of HT_.out (by kernel_rfl)) (fun _ _ _ h => h) (Or.inl ⟨by rfl, ?_⟩) ?_ ?_
                rotate_left
                ·exact tW
                rotate_left
                ·exact tP
                refine pure_ (i := 1) (N := some 31) (v := ?_) (a' := ?_) #[true, true, false, false, false, false, false, false, false, false, false, false, false, false, false, false] rfl rfl (any_of HT_.out (by kernel_rfl)) (fun _ _ _ h => h) (Or.inl ⟨by rfl, ?_⟩) ?_ ?_
                rotate_left
                ·exact tW
                rotate_left
                ·exact tP
                refine pure_ (i := 2) (N := some 32) (v := ?_) (a' := ?_) #[true, true, true, false, false, false, false, false, false, false, false, false, false, false, false, false] rfl rfl (any_of HT_.out (by kernel_rfl)) (fun _ _ _ h => h) (Or.inl ⟨by rfl, ?_⟩) ?_ ?_
                rotate_left
                ·exact tW
                rotate_left
                ·exact tP
                refine pure_ (i := 3) (N := some 33) (v := ?_) (a' := ?_) #[true, true, true, true, false, false, false, false, false, false, false, false, false, false, false, false] rfl rfl (any_of HT_.out (by kernel_rfl)) (fun _ _ _ h => h) (Or.inl ⟨by rfl, ?_⟩) ?_ ?_
                rotate_left
                ·exact tW
                rotate_left
                ·exact tP
                refine pure_ (i := 5) (N := some 35) (v := ?_) (a' := ?_) #[true, true, true, true, false, true, false, false, false, false, false, false, false, false, false, false] rfl rfl (any_of HT_.out (by kernel_rfl)) (fun _ _ _ h => h) (Or.inl ⟨by rfl, ?_⟩) ?_ ?_
                rotate_left
                ·exact tW
                rotate_left
                ·exact tP
                refine pure_ (i := 6) (N := some 36) (v := ?_) (a' := ?_) #[true, true, true, true, false, true, true, false, false, false, false, false, false, false, false, false] rfl rfl (any_of HT_.out (by kernel_rfl)) (fun _ _ _ h => h) (Or.inl ⟨by rfl, ?_⟩) ?_ ?_
                rotate_left
                ·exact tW
                rotate_left
                ·exact tP
                refine pure_ (i := 7) (N := some 37) (v := ?_) (a' := ?_) #[true, true, true, true, false, true, true, true, false, false, false, false, false, false, false, false] rfl rfl (any_of HT_.out (by kernel_rfl)) (fun _ _ _ h => h) (Or.inl ⟨by rfl, ?_⟩) ?_ ?_
                rotate_left
                ·exact tW
                rotate_left
                ·exact tP
                refine pure_ (i := 9) (N := some 39) (v := ?_) (a' := ?_) #[true, true, true, true, false, true, true, true, false, true, false, false, false, false, false, false] rfl rfl (any_of HT_.out (by kernel_rfl)) (fun _ _ _ h => h) (Or.inl ⟨by rfl, ?_⟩) ?_ ?_
                rotate_left
                ·exact tW
                rotate_left
                ·exact tP
                refine take_ (i := 4) (N := some 34) (v := ?_) (a' := ?_) #[true, true, true, true, true, true, true, true, false, true, false, false, false, false, false, false] rfl rfl (take_ofW HT_.out HW_.out (by kernel_rfl)) (fun _ _ _ h => h) (Or.inl ⟨by rfl, ?_⟩) hHeld ?_ ?_
                rotate_left
                ·rintro w' ⟨s0, s1, s2, s3, s4⟩
                 go_simp
                 with_reducible rfl
                rotate_left
                ·exact tP
                refine take_ (i := 8) (N := some 38) (v := ?_) (a' := ?_) #[true, true, true, true, true, true, true, true, true, true, false, false, false, false, false, false] rfl rfl (take_ofW HT_.out HW_.out (by kernel_rfl)) (fun _ _ _ h => h) (Or.inl ⟨by rfl, ?_⟩) hHeld ?_ ?_
                rotate_left
                ·rintro w' ⟨s0, s1, s2, s3, s4⟩
                 go_simp
                 with_reducible rfl
                rotate_left
                ·exact tP
                refine take_ (i := 10) (N := some 40) (v := ?_) (a' := ?_) #[true, true, true, true, true, true, true, true, true, true, true, false, false, false, false, false] rfl rfl (take_ofW HT_.out HW_.out (by kernel_rfl)) (fun _ _ _ h => h) (Or.inl ⟨by rfl, ?_⟩) hHeld ?_ ?_
                rotate_left
                ·rintro w' ⟨s0, s1, s2, s3, s4⟩
                 go_simp
                 with_reducible rfl
                rotate_left
                ·exact tP
                refine pure_ (i := 11) (N := some 41) (v := ?_) (a' := ?_) #[true, true, true, true, true, true, true, true, true, true, true, true, false, false, false, false] rfl rfl (any_of HT_.out (by kernel_rfl)) (fun _ _ _ h => h) (Or.inl ⟨by rfl, ?_⟩) ?_ ?_
                rotate_left
                ·exact tW
                rotate_left
                ·exact tP
                refine pure_ (i := 12) (N := some 42) (v := ?_) (a' := ?_) #[true, true, true, true, true, true, true, true, true, true, true, true, true, false, false, false] rfl rfl (any_of HT_.out (by kernel_rfl)) (fun _ _ _ h => h) (Or.inl ⟨by rfl, ?_⟩) ?_ ?_
                rotate_left
                ·exact tW
                rotate_left
                ·exact tP
                refine pure_ (i := 13) (N := some 43) (v := ?_) (a' := ?_) #[true, true, true, true, true, true, true, true, true, true, true, true, true, true, false, false] rfl rfl (any_of HT_.out (by kernel_rfl)) (fun _ _ _ h => h) (Or.inl ⟨by rfl, ?_⟩) ?_ ?_
                rotate_left
                ·exact tW
                rotate_left
                ·exact tP
                refine pure_ (i := 14) (N := some 44) (v := ?_) (a' := ?_) #[true, true, true, true, true, true, true, true, true, true, true, true, true, true, true, false] rfl rfl (any_of HT_.out (by kernel_rfl)) (fun _ _ _ h => h) (Or.inl ⟨by rfl, ?_⟩) ?_ ?_
                rotate_left
                ·exact tW
                rotate_left
                ·exact tP
                refine last_ (i := 15) (N := none) #[true, true, true, true, true, true, true, true, true, true, true, true, true, true, true, true] rfl rfl (one_of HT_.out (by kernel_rfl)) (by decide) (fun K hK => ?_)
                refine skip_ (w1 := ?_) (by rfl) rfl ?_ ?_
                rotate_left
                ·go_simp
                 rfl
                refine hK.out _ _ ?_
                clear hK K
                refine done_ (done_of HT_.out (by kernel_rfl)) ?_
                try go_wp2
                have n0_ : Sd (Kd.R k27 27 (w29.setCell ⟨go22, (x25_2 : Int).toNat * 2, none⟩ (.int .i64 (wrap64 (((rd_T27 x5_2 x25_2).f0) + (wrap64 ((rd l1 x17_1) * ((rd_T27 ((rd_T63 l0_1 x17_1).f6) x25_2).f0))))))) w.heap.size (fun k_ => k_ ≠ gb161) (.slice (some ⟨go22, 0, none⟩) x5_2.length co30) y164) := ⟨by (with_reducible repeat (first | apply Kd.R_alloc | apply Kd.R_drewN | apply Kd.R_drew)); exact HQ31.out⟩
                have n1_ : Sd ((w29.setCell ⟨go22, (x25_2 : Int).toNat * 2, none⟩ (.int .i64 (wrap64 (((rd_T27 x5_2 x25_2).f0) + (wrap64 ((rd l1 x17_1) * ((rd_T27 ((rd_T63 l0_1 x17_1).f6) x25_2).f0))))))).heap[gb154]? = some (.cells #[.slice A0_0 l0_0.length c0_0, .slice (some ad158) l0_1.length c0_1, .slice A0_2 l0_2.length c0_2, .slice A0_3 l0_3.length c0_3, .int .i64 a0_4, .int .i64 a0_5, .int .i64 a0_6] 29 (0, 0))) := ⟨by (with_reducible repeat (first | refine blk_drewN ?_ _ | refine blk_drew ?_ | refine blk_alloc ?_ _)); refine blk_far ?_ (by have h_ := Kd.R_ne HO_5.out BK154.out (by decide); intro e_; exact h_ (by rw [e_]; rfl)) _; (with_reducible repeat (first | refine blk_drewN ?_ _ | refine blk_drew ?_ | refine blk_alloc ?_ _)); exact BK154.out⟩
                have n2_ : Sd ((w29.setCell ⟨go22, (x25_2 : Int).toNat * 2, none⟩ (.int .i64 (wrap64 (((rd_T27 x5_2 x25_2).f0) + (wrap64 ((rd l1 x17_1) * ((rd_T27 ((rd_T63 l0_1 x17_1).f6) x25_2).f0))))))).heap[gb159]? = some (.cells #[.string ((rd_T63 l0_1 x17_1).f0), .int .i64 ((rd_T63 l0_1 x17_1).f1), .int .i64 ((rd_T63 l0_1 x17_1).f2), .int .i64 ((rd_T63 l0_1 x17_1).f3), .int .i64 ((rd_T63 l0_1 x17_1).f4), .int .i64 ((rd_T63 l0_1 x17_1).f5), .slice (some ad160) ((rd_T63 l0_1 x17_1).f6).length c158_6] 63 (0, 0))) := ⟨by (with_reducible repeat (first | refine blk_drewN ?_ _ | refine blk_drew ?_ | refine blk_alloc ?_ _)); refine blk_far ?_ (by have h_ := Kd.R_ne HO_5.out BK159.out (by decide); intro e_; exact h_ (by rw [e_]; rfl)) _; (with_reducible repeat (first | refine blk_drewN ?_ _ | refine blk_drew ?_ | refine blk_alloc ?_ _)); exact BK159.out⟩
                have n3_ : Sd ((w29.setCell ⟨go22, (x25_2 : Int).toNat * 2, none⟩ (.int .i64 (wrap64 (((rd_T27 x5_2 x25_2).f0) + (wrap64 ((rd l1 x17_1) * ((rd_T27 ((rd_T63 l0_1 x17_1).f6) x25_2).f0))))))).heap[gb161]? = some (.cells #[.int .i64 ((rd_T27 ((rd_T63 l0_1 x17_1).f6) x25_2).f0), .int .i64 ((rd_T27 ((rd_T63 l0_1 x17_1).f6) x25_2).f1)] 27 (0, 0))) := ⟨by (with_reducible repeat (first | refine blk_drewN ?_ _ | refine blk_drew ?_ | refine blk_alloc ?_ _)); refine blk_far ?_ (by have h_ := Kd.R_away HO_5.out (fun _ hk => hk); intro e_; exact h_ (by rw [e_]; rfl)) _; (with_reducible repeat (first | refine blk_drewN ?_ _ | refine blk_drew ?_ | refine blk_alloc ?_ _)); exact BK161.out⟩
                have n4_ : Sd (Below w.heap.size w (w29.setCell ⟨go22, (x25_2 : Int).toNat * 2, none⟩ (.int .i64 (wrap64 (((rd_T27 x5_2 x25_2).f0) + (wrap64 ((rd l1 x17_1) * ((rd_T27 ((rd_T63 l0_1 x17_1).f6) x25_2).f0)))))))) := ⟨bBl HB.out⟩
                (try clear HO_5)
                (try clear BK154)
                (try clear BK159)
                (try clear BK161)
                (try clear HB)
                generalize (w29.setCell ⟨go22, (x25_2 : Int).toNat * 2, none⟩ (.int .i64 (wrap64 (((rd_T27 x5_2 x25_2).f0) + (wrap64 ((rd l1 x17_1) * ((rd_T27 ((rd_T63 l0_1 x17_1).f6) x25_2).f0))))))) = w32 at n0_ n1_ n2_ n3_ n4_ ⊢
                have HO_5 := n0_; have BK154 := n1_; have BK159 := n2_; have BK161 := n3_; have HB := n4_; clear n0_ n1_ n2_ n3_ n4_; replace HO_5 := Sd.mk (Kd.R_drew HO_5.out); replace BK154 := Sd.mk (blk_drew BK154.out); replace BK159 := Sd.mk (blk_drew BK159.out); replace BK161 := Sd.mk (blk_drew BK161.out); replace HB := Sd.mk (below_drew1 HB.out)
                have p165 : 0 ≤ (x25_2 : Int) := tB
                have q165 : x25_2 < (y164.length : Int) := (by have h_ : (x25_2 : Int) < ((x5_2.length : Int) : Int) := tB; first | (have e_ := (Kd.R_reads' HO_5.out).1; omega) | simpa only [Ny164.out, List.length_set] using h_)
                have ql165 : ((x25_2 : Int) < ((x5_2.length : Int) : Int)) = True := eq_true (tB)
                obtain ⟨ad165, e165, hx165_0, hx165_1⟩ := at_T27 (Kd.R_reads' HO_5.out).2.2 x25_2 p165 q165
                obtain rfl : (⟨go22, 0, none⟩ : Addr) = ad165 := (by injection e165)
                (first | simp only [add_plain] at hx165_0 | simp only [add_at] at hx165_0 | simp only [Addr.add, Nat.zero_add] at hx165_0 | skip)
                (first | simp only [add_plain] at hx165_1 | simp only [add_at] at hx165_1 | simp only [Addr.add, Nat.zero_add] at hx165_1 | skip)
                replace p165 := eq_true p165; replace q165 := eq_true q165
                have p166 : 0 ≤ (x17_1 : Int) := tB
                have q166 : x17_1 < (l1.length : Int) := tB
                obtain ⟨ad166, e166, hx166_0⟩ := Kd.at_int HR1.out x17_1 p166 q166; have hw166_0 := hx166_0
                obtain rfl : ad163 = ad166 := (by injection e166)
                replace hx166_0 := cU HB hx166_0; replace p166 := eq_true p166; replace q166 := eq_true q166
                have p23 : 0 ≤ (x25_2 : Int) := tB
                have q23 : (x25_2 : Int) < ((x5_2.length : Int) : Int) := tB
                obtain ⟨ce23, hcl23, hM23, hcc23, hfr23⟩ := Kd.R_elem HO_5.out z27 (x25_2 : Int) p23 q23; obtain rfl := k27_openM hM23
                have hx23_0 : World.cell? _ ⟨go22, (x25_2 : Int).toNat * 2, none⟩ = some (.int .i64 ((rd_T27 y164 x25_2).f0)) := hcc23 0 _ rfl
                have hx23_1 : World.cell? _ ⟨go22, (x25_2 : Int).toNat * 2 + 1, none⟩ = some (.int .i64 ((rd_T27 y164 x25_2).f1)) := hcc23 1 _ rfl
                have hf23_0 : World.frozen? _ ⟨go22, (x25_2 : Int).toNat * 2, none⟩ = false := hfr23 0
                have hf23_1 : World.frozen? _ ⟨go22, (x25_2 : Int).toNat * 2 + 1, none⟩ = false := hfr23 1
                clear hcl23 hcc23 hfr23 hM23; replace p23 := eq_true p23; replace q23 := eq_true q23
                obtain ⟨ce34, hcl34, hM34, hcc34, hfr34⟩ := Kd.R_elem HO_5.out z27 (x25_2 : Int) (tB) (by have h_ : (x25_2 : Int) < ((x5_2.length : Int) : Int) := tB; first | exact h_ | (have e_ := (Kd.R_reads' HO_5.out).1; omega) | simpa using h_)
                obtain rfl := k27_openM hM34
                have HP34 := (Kd.R_seg HO_5.out (x25_2 : Int) (tB) (by have h_ : (x25_2 : Int) < ((x5_2.length : Int) : Int) := tB; first | exact h_ | (have e_ := (Kd.R_reads' HO_5.out).1; omega) | simpa using h_) (seg := [.int .i64 (wrap64 (((rd_T27 y164 x25_2).f1) + (wrap64 ((rd l1 x17_1) * ((rd_T27 ((rd_T63 l0_1 x17_1).f6) x25_2).f1)))))]) (j := 1) hcl34 hcc34 (show 2 ≤ 2 from by decide) (x' := (⟨(rd_T27 y164 x25_2).f0, wrap64 (((rd_T27 y164 x25_2).f1) + (wrap64 ((rd l1 x17_1) * ((rd_T27 ((rd_T63 l0_1 x17_1).f6) x25_2).f1))))⟩ : S27)) (k27_mkM _ _ _ (⟨(rd_T27 y164 x25_2).f0, wrap64 (((rd_T27 y164 x25_2).f1) + (wrap64 ((rd l1 x17_1) * ((rd_T27 ((rd_T63 l0_1 x17_1).f6) x25_2).f1))))⟩ : S27) ) (fun _ hk => hk)).1
                rw [← Ny167.out] at HP34
                have HQ34 := Sd.mk HP34; clear hcl34 hcc34 hfr34 hM34 HP34
                refine start_ (n := 16) (S := fun w' => w'.cell? ⟨gb161, 0, none⟩ = some (.int .i64 ((rd_T27 ((rd_T63 l0_1 x17_1).f6) x25_2).f0)) ∧ w'.cell? ⟨gb161, 1, none⟩ = some (.int .i64 ((rd_T27 ((rd_T63 l0_1 x17_1).f6) x25_2).f1)) ∧ w'.cell? ⟨go22, (x25_2).toNat * 2, none⟩ = some (.int .i64 ((rd_T27 y164 x25_2).f0)) ∧ w'.cell? ⟨go22, (x25_2).toNat * 2 + 1, none⟩ = some (.int .i64 ((rd_T27 y164 x25_2).f1)) ∧ w'.cell? (ad163.add (x17_1).toNat) = some (.int .i64 (rd l1 x17_1))) (ds := [15]) #[false, false, false, false, false, false, false, false, false, false, false, false, false, false, false, false] (by kernel_rfl) rfl rfl ⟨(blk_cell BK161.out 0).trans rfl, (blk_cell BK161.out 1).trans rfl, hx165_0, hx165_1, ((HB.out.cell (World.block_lt_of_cell? w _ hw166_0)).trans hw166_0)⟩ (fun hHeld => ?_); refine with_tabW batch_grams.tab9 batch_grams.bits9 (fun HT_ HW_ => ?_)
                generalize w32.drew = w33 at HO_5 BK154 BK159 BK161 HB HQ31 HQ34 hf23_0 hf23_1 hx165_0 hx165_1 hx166_0 hx23_0 hx23_1 hHeld ⊢
                refine pure_ (i := 0) (N := some 45) (v := ?_) (a' := ?_) #[true, false, false, false, false, false, false, false, false, false, false, false, false, false, false, false] rfl rfl (any_of HT_.out (by kernel_rfl)) (fun _ _ _ h => h) (Or.inl ⟨by rfl, ?_⟩) ?_ ?_
                rotate_left
                ·exact tW
                rotate_left
                ·exact tP
                refine pure_ (i := 1) (N := some 46) (v := ?_) (a' := ?_) #[true, true, false, false, false, false, false, false, false, false, false, false, false, false, false, false] rfl rfl (any_of HT_.out (by kernel_rfl)) (fun _ _ _ h => h) (Or.inl ⟨by rfl, ?_⟩) ?_ ?_
                rotate_left
                ·exact tW
                rotate_left
                ·exact tP
                refine pure_ (i := 2) (N := some 47) (v := ?_) (a' := ?_) #[true, true, true, false, false, false, false, false, false, false, false, false, false, false, false, false] rfl rfl (any_of HT_.out (by kernel_rfl)) (fun _ _ _ h => h) (Or.inl ⟨by rfl, ?_⟩) ?_ ?_
                rotate_left
                ·exact tW
                rotate_left
                ·exact tP
                refine pure_ (i := 3) (N := some 48) (v := ?_) (a' := ?_) #[true, true, true, true, false, false, false, false, false, false, false, false, false, false, false, false] rfl rfl (any_of HT_.out (by kernel_rfl)) (fun _ _ _ h => h) (Or.inl ⟨by rfl, ?_⟩) ?_ ?_
                rotate_left
                ·exact tW
                rotate_left
                ·exact tP
                refine pure_ (i := 5) (N := some 50) (v := ?_) (a' := ?_) #[true, true, true, true, false, true, false, false, false, false, false, false, false, false, false, false] rfl rfl (any_of HT_.out (by kernel_rfl)) (fun _ _ _ h => h) (Or.inl ⟨by rfl, ?_⟩) ?_ ?_
                rotate_left
                ·exact tW
                rotate_left
                ·exact tP
                refine pure_ (i := 6) (N := some 51) (v := ?_) (a' := ?_) #[true, true, true, true, false, true, true, false, false, false, false, false, false, false, false, false] rfl rfl (any_of HT_.out (by kernel_rfl)) (fun _ _ _ h => h) (Or.inl ⟨by rfl, ?_⟩) ?_ ?_
                rotate_left
                ·exact tW
                rotate_left
                ·exact tP
                refine pure_ (i := 7) (N := some 52) (v := ?_) (a' := ?_) #[true, true, true, true, false, true, true, true, false, false, false, false, false, false, false, false] rfl rfl (any_of HT_.out (by kernel_rfl)) (fun _ _ _ h => h) (Or.inl ⟨by rfl, ?_⟩) ?_ ?_
                rotate_left
                ·exact tW
                rotate_left
                ·exact tP
                refine pure_ (i := 9) (N := some 54) (v := ?_) (a' := ?_) #[true, true, true, true, false, true, true, true, false, true, false, false, false, false, false, false] rfl rfl (any_of HT_.out (by kernel_rfl)) (fun _ _ _ h => h) (Or.inl ⟨by rfl, ?_⟩) ?_ ?_
                rotate_left
                ·exact tW
                rotate_left
                ·exact tP
                refine take_ (i := 4) (N := some 49) (v := ?_) (a' := ?_) #[true, true, true, true, true, true, true, true, false, true, false, false, false, false, false, false] rfl rfl (take_ofW HT_.out HW_.out (by kernel_rfl)) (fun _ _ _ h => h) (Or.inl ⟨by rfl, ?_⟩) hHeld ?_ ?_
                rotate_left
                ·rintro w' ⟨s0, s1, s2, s3, s4⟩
                 go_simp
                 with_reducible rfl
                rotate_left
                ·exact tP
                refine take_ (i := 8) (N := some 53) (v := ?_) (a' := ?_) #[true, true, true, true, true, true, true, true, true, true, false, false, false, false, false, false] rfl rfl (take_ofW HT_.out HW_.out (by kernel_rfl)) (fun _ _ _ h => h) (Or.inl ⟨by rfl, ?_⟩) hHeld ?_ ?_
                rotate_left
                ·rintro w' ⟨s0, s1, s2, s3, s4⟩
                 go_simp
                 with_reducible rfl
                rotate_left
                ·exact tP
                refine take_ (i := 10) (N := some 55) (v := ?_) (a' := ?_) #[true, true, true, true, true, true, true, true, true, true, true, false, false, false, false, false] rfl rfl (take_ofW HT_.out HW_.out (by kernel_rfl)) (fun _ _ _ h => h) (Or.inl ⟨by rfl, ?_⟩) hHeld ?_ ?_
                rotate_left
                ·rintro w' ⟨s0, s1, s2, s3, s4⟩
                 go_simp
                 with_reducible rfl
                rotate_left
                ·exact tP
                refine pure_ (i := 11) (N := some 56) (v := ?_) (a' := ?_) #[true, true, true, true, true, true, true, true, true, true, true, true, false, false, false, false] rfl rfl (any_of HT_.out (by kernel_rfl)) (fun _ _ _ h => h) (Or.inl ⟨by rfl, ?_⟩) ?_ ?_
                rotate_left
                ·exact tW
                rotate_left
                ·exact tP
                refine pure_ (i := 12) (N := some 57) (v := ?_) (a' := ?_) #[true, true, true, true, true, true, true, true, true, true, true, true, true, false, false, false] rfl rfl (any_of HT_.out (by kernel_rfl)) (fun _ _ _ h => h) (Or.inl ⟨by rfl, ?_⟩) ?_ ?_
                rotate_left
                ·exact tW
                rotate_left
                ·exact tP
                refine pure_ (i := 13) (N := some 58) (v := ?_) (a' := ?_) #[true, true, true, true, true, true, true, true, true, true, true, true, true, true, false, false] rfl rfl (any_of HT_.out (by kernel_rfl)) (fun _ _ _ h => h) (Or.inl ⟨by rfl, ?_⟩) ?_ ?_
                rotate_left
                ·exact tW
                rotate_left
                ·exact tP
                refine pure_ (i := 14) (N := some 59) (v := ?_) (a' := ?_) #[true, true, true, true, true, true, true, true, true, true, true, true, true, true, true, false] rfl rfl (any_of HT_.out (by kernel_rfl)) (fun _ _ _ h => h) (Or.inl ⟨by rfl, ?_⟩) ?_ ?_
                rotate_left
                ·exact tW
                rotate_left
                ·exact tP
                refine last_ (i := 15) (N := none) #[true, true, true, true, true, true, true, true, true, true, true, true, true, true, true, true] rfl rfl (one_of HT_.out (by kernel_rfl)) (by decide) (fun K hK => ?_)
                refine skip_ (w1 := ?_) (by rfl) rfl ?_ ?_
                rotate_left
                ·go_simp
                 rfl
                refine hK.out _ _ ?_
                clear hK K
                refine done_ (done_of HT_.out (by kernel_rfl)) ?_
                try go_wp2
                go_roundg k2
                case measure => have := HK1.out; have := HK2.out; omega
                case rel => exact ⟨(y167), (wrap64 (x25_2 + 1)), tS, H', ⟨by have := HK1.out; have := HK2.out; omega⟩, ⟨by (with_reducible repeat (first | apply Kd.R_alloc | apply Kd.R_drewN | apply Kd.R_drew)); exact Kd.R_mono HQ34.out (fun _ hk => trivial)⟩, ⟨by (with_reducible repeat (first | refine blk_drewN ?_ _ | refine blk_drew ?_ | refine blk_alloc ?_ _)); refine blk_far ?_ (by have h_ := Kd.R_ne HO_5.out BK154.out (by decide); intro e_; exact h_ (by rw [e_]; rfl)) _; (with_reducible repeat (first | refine blk_drewN ?_ _ | refine blk_drew ?_ | refine blk_alloc ?_ _)); exact BK154.out⟩, ⟨by (with_reducible repeat (first | refine blk_drewN ?_ _ | refine blk_drew ?_ | refine blk_alloc ?_ _)); refine blk_far ?_ (by have h_ := Kd.R_ne HO_5.out BK159.out (by decide); intro e_; exact h_ (by rw [e_]; rfl)) _; (with_reducible repeat (first | refine blk_drewN ?_ _ | refine blk_drew ?_ | refine blk_alloc ?_ _)); exact BK159.out⟩, ⟨bBl HB.out⟩⟩
               ·rw [if_neg c21] at H
                exact absurd H (by simp)
              ·rw [if_neg c20] at H
               exact absurd H (by simp)
             ·rw [if_neg c19] at H
              exact absurd H (by simp)
            ·rw [if_neg c18] at H
             exact absurd H (by simp)
           ·rw [if_neg c17] at H
            exact absurd H (by simp)
          ·rw [if_neg c16] at H
           have c16b0 : decide (x25_2 < (((rd_T63 l0_1 x17_1).f6).length : Int)) = false := decide_eq_false c16
           clear c16; have H' := Sd.mk H; clear H
           go_wp2
           go_roundg k2
           case measure => have := HK1.out; have := HK2.out; omega
           case rel => exact ⟨(x5_2), (wrap64 (x17_1 + 1)), tS, H', ⟨by have := HK1.out; have := HK2.out; omega⟩, ⟨by (with_reducible repeat (first | apply Kd.R_alloc | apply Kd.R_drewN | apply Kd.R_drew)); exact HO_5.out⟩, ⟨bkA BK154.out⟩, ⟨bBl HB.out⟩⟩
       ·rw [if_neg c12] at H
        exact absurd H (by simp)
      ·rw [if_neg c11] at H
       exact absurd H (by simp)
     ·rw [if_neg c10] at H
      have c10b0 : decide (x17_1 < (l0_1.length : Int)) = false := decide_eq_false c10
      clear c10; obtain rfl := Option.some.inj H
      go_wp2
      go_ret
      exact ⟨_, tE, by (with_reducible repeat (first | apply Kd.R_alloc | apply Kd.R_drewN | apply Kd.R_drew)); exact HO_5.out, bBl HB.out⟩
  ·rw [if_neg c4] at H
   exact absurd H (by simp)
 ·rw [if_neg c3] at H
  exact absurd H (by simp)
end Go.Proofs.Ytkjkokgbhepmoaa.PB

namespace Go.Proofs.Ytkjkokgbhepmoaa.PB
open Go.RowKit Go.Proofs.YtkjkokgbhepmoaaW.PrintWords Go.Proofs.YtkjkokgbhepmoaaW.PrintLast Go.Proofs.YtkjkokgbhepmoaaW.PrintMore
attribute [local go_sem] max2_int min2_int max_two min_two max_three min_three max_four min_four
end Go.Proofs.Ytkjkokgbhepmoaa.PB

namespace Go.Proofs.Ytkjkokgbhepmoaa.PB
open Go.RowKit Go.Proofs.YtkjkokgbhepmoaaW.PrintWords Go.Proofs.YtkjkokgbhepmoaaW.PrintLast Go.Proofs.YtkjkokgbhepmoaaW.PrintMore
attribute [local go_sem] max2_int min2_int max_two min_two max_three min_three max_four min_four
end Go.Proofs.Ytkjkokgbhepmoaa.PB

namespace Go.Proofs.Ytkjkokgbhepmoaa.PB
open Go.RowKit Go.Proofs.YtkjkokgbhepmoaaW.PrintWords Go.Proofs.YtkjkokgbhepmoaaW.PrintLast Go.Proofs.YtkjkokgbhepmoaaW.PrintMore
attribute [local go_sem] max2_int min2_int max_two min_two max_three min_three max_four min_four
end Go.Proofs.Ytkjkokgbhepmoaa.PB

namespace Go.Proofs.Ytkjkokgbhepmoaa.PB
open Go.RowKit Go.Proofs.YtkjkokgbhepmoaaW.PrintWords Go.Proofs.YtkjkokgbhepmoaaW.PrintLast Go.Proofs.YtkjkokgbhepmoaaW.PrintMore
def recV (mt : List S63) (r : List Int) : Int := if r.length = mt.length then (if r.any (outside 0 10000) = true then 1 else 0) else 1
section
variable (o : List ByteArray) (mt : List S63) (s : List S27) (p : List S65) (a4 a5 a6 : Int) (r : List Int)
def askV : Int := if checkV o mt s p a4 a5 a6 = 0 then recV mt r else checkV o mt s p a4 a5 a6
theorem basked : Ev (fun k => batch_asked.f k o mt s p a4 a5 a6 r) (askV o mt s p a4 a5 a6 r) := by
  unfold batch_asked.f askV
  refine Ev.bind (bcheck o mt s p a4 a5 a6) ?_
  by_cases h : checkV o mt s p a4 a5 a6 = 0
  · simp only [if_pos h, batch_checkRecipe.f, x_kilos.f, Option.bind_some]
    unfold recV
    by_cases h1 : r.length = mt.length
    · simp only [if_pos h1, if_pos (show (r.length : Int) = (mt.length : Int) by omega)]
      by_cases h2 : r.any (outside 0 10000) = true
      · simp only [if_pos h2, Option.bind_some]; exact Ev.const _
      · simp only [if_neg h2, Option.bind_some]; exact Ev.const _
    · simp only [if_neg h1, if_neg (show ¬ (r.length : Int) = (mt.length : Int) by omega), Option.bind_some]; exact Ev.const _
  · simp only [if_neg h]; exact Ev.const _
end
structure RecOk (mt : List S63) (r : List Int) : Prop where
  len : r.length = mt.length
  kilos : ∀ j : Nat, j < mt.length → 0 ≤ rd r (j : Int) ∧ rd r (j : Int) ≤ 10000
theorem ask_ok {o : List ByteArray} {mt : List S63} {s : List S27} {p : List S65} {a4 a5 a6 : Int} {r : List Int} (h : askV o mt s p a4 a5 a6 r = 0) : BatchOk o mt s p a4 a5 a6 ∧ RecOk mt r := by
  unfold askV at h
  by_cases h1 : checkV o mt s p a4 a5 a6 = 0
  · rw [if_pos h1] at h
    refine ⟨check_ok h1, ?_⟩
    unfold recV at h
    by_cases h2 : r.length = mt.length
    · rw [if_pos h2] at h
      by_cases h3 : r.any (outside 0 10000) = true
      · rw [if_pos h3] at h; omega
      · refine ⟨h2, fun j hj => ?_⟩
        have hm : rd r (j : Int) ∈ r := by
          have hlt : j < r.length := by omega
          have : rd r (j : Int) = r[j] := by simp [rd, hlt]
          rw [this]; exact List.getElem_mem hlt
        have hn : outside 0 10000 (rd r (j : Int)) = false := by
          cases ho : outside 0 10000 (rd r (j : Int)) with
          | false => rfl
          | true => exact absurd (List.any_eq_true.mpr ⟨_, hm, ho⟩) h3
        simp [outside] at hn; omega
    · rw [if_neg h2] at h; omega
  · rw [if_neg h1] at h; exact absurd h h1
def gS (F : S27 → Int) (mt : List S63) (r : List Int) (j : Nat) : Nat → Int
  | 0 => 0
  | n + 1 => gS F mt r j n + rd r (n : Int) * F (rd_T27 (rd_T63 mt (n : Int)).f6 (j : Int))
def stL (n : Nat) (mt : List S63) (r : List Int) (i jj : Nat) : List S27 := (List.range n).map fun j => if j < jj then ⟨gS S27.f0 mt r j (i + 1), gS S27.f1 mt r j (i + 1)⟩ else ⟨gS S27.f0 mt r j i, gS S27.f1 mt r j i⟩
theorem stL_len (n : Nat) (mt : List S63) (r : List Int) (i jj : Nat) : (stL n mt r i jj).length = n := by simp [stL]
theorem stL_get (n : Nat) (mt : List S63) (r : List Int) (i jj j : Nat) (h : j < n) : rd_T27 (stL n mt r i jj) (j : Int) = if j < jj then ⟨gS S27.f0 mt r j (i + 1), gS S27.f1 mt r j (i + 1)⟩ else ⟨gS S27.f0 mt r j i, gS S27.f1 mt r j i⟩ := by
  simp [rd_T27, stL, List.getD, h]
theorem stL_zero (n : Nat) (mt : List S63) (r : List Int) : List.replicate n z27 = stL n mt r 0 0 := by
  apply List.ext_getElem
  · simp [stL]
  · intro i h1 h2; simp [stL, gS, z27]
theorem stL_next (n : Nat) (mt : List S63) (r : List Int) (i : Nat) : stL n mt r i n = stL n mt r (i + 1) 0 := by
  apply List.ext_getElem
  · simp [stL]
  · intro j h1 h2
    have hj : j < n := by simpa [stL] using h1
    simp [stL, hj]
theorem stL_set (n : Nat) (mt : List S63) (r : List Int) (i jj : Nat) (h : jj < n) (x : S27) : ((stL n mt r i jj).set jj x).set jj ⟨gS S27.f0 mt r jj (i + 1), gS S27.f1 mt r jj (i + 1)⟩ = stL n mt r i (jj + 1) := by
  rw [List.set_set]
  apply List.ext_getElem
  · simp [stL]
  · intro j h1 h2
    have hj : j < n := by simpa [stL] using h1
    rw [List.getElem_set]
    by_cases hc : jj = j
    · subst hc; simp [stL]
    · have : j < jj ↔ j < jj + 1 := by omega
      simp [stL, hc, this]
theorem rd_T27_set (l : List S27) (j : Nat) (x : S27) (h : j < l.length) : rd_T27 (l.set j x) (j : Int) = x := by simp [rd_T27, List.getD, h]
theorem mul_bound {a b : Int} (h0 : 0 ≤ a) (h1 : a ≤ 10000) (h2 : 0 ≤ b) (h3 : b ≤ 1000) : 0 ≤ a * b ∧ a * b ≤ 10000000 := by
  have e1 := Int.mul_nonneg h0 h2
  have e2 := Int.mul_le_mul_of_nonneg_right h1 h2
  omega
theorem gS_bound {F : S27 → Int} {mt : List S63} {r : List Int} {n j : Nat} (hr : RecOk mt r) (hF : ∀ i : Nat, i < mt.length → 0 ≤ F (rd_T27 (rd_T63 mt (i : Int)).f6 (j : Int)) ∧ F (rd_T27 (rd_T63 mt (i : Int)).f6 (j : Int)) ≤ 1000) :
    ∀ n, n ≤ mt.length → 0 ≤ gS F mt r j n ∧ gS F mt r j n ≤ 10000000 * n := by
  intro n
  induction n with
  | zero => intro _; simp [gS]
  | succ n ih =>
    intro hn
    have h1 := ih (by omega)
    have h2 := hr.kilos n (by omega)
    have h3 := hF n (by omega)
    have h4 := mul_bound h2.1 h2.2 h3.1 h3.2
    simp only [gS]
    omega
section
variable {o : List ByteArray} {mt : List S63} {s : List S27} {p : List S65} {a4 a5 a6 : Int} {r : List Int}
theorem gram_new {F : S27 → Int} (hb : mt.length ≤ 12) (hr : RecOk mt r) {j : Nat} (hF : ∀ i : Nat, i < mt.length → 0 ≤ F (rd_T27 (rd_T63 mt (i : Int)).f6 (j : Int)) ∧ F (rd_T27 (rd_T63 mt (i : Int)).f6 (j : Int)) ≤ 1000) (i : Nat) (hi : i < mt.length) :
    wrap64 (gS F mt r j i + wrap64 (rd r (i : Int) * F (rd_T27 (rd_T63 mt (i : Int)).f6 (j : Int)))) = gS F mt r j (i + 1) := by
  have h1 := gS_bound (n := 0) hr hF i (by omega)
  have h2 := hr.kilos i hi
  have h3 := hF i hi
  have h4 := mul_bound h2.1 h2.2 h3.1 h3.2
  rw [wrap_id (x := rd r (i : Int) * F (rd_T27 (rd_T63 mt (i : Int)).f6 (j : Int))) (by omega) (by omega), wrap_id (by omega) (by omega)]
  rfl
theorem con0 (H : BatchOk o mt s p a4 a5 a6) {j : Nat} (hj : j < o.length) : ∀ i : Nat, i < mt.length → 0 ≤ S27.f0 (rd_T27 (rd_T63 mt (i : Int)).f6 (j : Int)) ∧ S27.f0 (rd_T27 (rd_T63 mt (i : Int)).f6 (j : Int)) ≤ 1000 := by
  intro i hi
  have := (H.mats i hi).con j hj
  omega
theorem con1 (H : BatchOk o mt s p a4 a5 a6) {j : Nat} (hj : j < o.length) : ∀ i : Nat, i < mt.length → 0 ≤ S27.f1 (rd_T27 (rd_T63 mt (i : Int)).f6 (j : Int)) ∧ S27.f1 (rd_T27 (rd_T63 mt (i : Int)).f6 (j : Int)) ≤ 1000 := by
  intro i hi
  have := (H.mats i hi).con j hj
  omega
def gramL (n : Nat) (mt : List S63) (r : List Int) : List S27 := stL n mt r mt.length 0
theorem bgram_l1 (H : BatchOk o mt s p a4 a5 a6) (hr : RecOk mt r) (i : Nat) (hi : i < mt.length) (ih : Ev (fun k => batch_grams.l0 k r (stL o.length mt r (i + 1) 0) mt (mt.length : Int) ((i + 1 : Nat) : Int)) (gramL o.length mt r)) :
    ∀ (m jj : Nat), jj + m = o.length → Ev (fun k => batch_grams.l1 k r (stL o.length mt r i jj) (i : Int) mt (mt.length : Int) (i : Int) (rd_T63 mt (i : Int)).f6 ((rd_T63 mt (i : Int)).f6.length : Int) (jj : Int)) (gramL o.length mt r)
  | 0, jj, hj => by
    have hl := (H.mats i hi).len
    have hm := H.m12
    apply Ev.step
    simp only [batch_grams.l1, if_neg (show ¬ (jj : Int) < ((rd_T63 mt (i : Int)).f6.length : Int) by omega), wrap_succ (i_pos i) (show (i : Int) ≤ 1000000000 by omega)]
    rw [show jj = o.length by omega, stL_next]
    exact ih
  | m + 1, jj, hj => by
    have hl := (H.mats i hi).len
    have hm := H.m12
    have ho := H.o12
    have hrl := hr.len
    have hlt : jj < o.length := by omega
    have ih' := bgram_l1 H hr i hi ih m (jj + 1) (by omega)
    apply Ev.step
    simp only [batch_grams.l1, if_pos (show (jj : Int) < ((rd_T63 mt (i : Int)).f6.length : Int) by omega), if_pos (i_pos jj), stL_len, if_pos (show (jj : Int) < (o.length : Int) by omega), if_pos (i_pos i), if_pos (show (i : Int) < (r.length : Int) by omega), Option.bind_some, Int.toNat_natCast,
      wrap_succ (i_pos jj) (show (jj : Int) ≤ 1000000000 by omega)]
    rw [rd_T27_set _ _ _ (by rw [stL_len]; exact hlt), stL_get _ _ _ _ _ _ hlt, if_neg (Nat.lt_irrefl jj)]
    dsimp only
    rw [gram_new hm hr (con0 H hlt) i hi, gram_new hm hr (con1 H hlt) i hi, stL_set _ _ _ _ _ hlt]
    exact ih'
theorem bgram_l0 (H : BatchOk o mt s p a4 a5 a6) (hr : RecOk mt r) : ∀ (m i : Nat), i + m = mt.length → Ev (fun k => batch_grams.l0 k r (stL o.length mt r i 0) mt (mt.length : Int) (i : Int)) (gramL o.length mt r)
  | 0, i, hi => by
    apply Ev.step
    simp only [batch_grams.l0, if_neg (show ¬ (i : Int) < (mt.length : Int) by omega)]
    rw [show i = mt.length by omega]
    exact Ev.const _
  | m + 1, i, hi => by
    have ih := bgram_l0 H hr m (i + 1) (by omega)
    apply Ev.step
    simp only [batch_grams.l0, if_pos (show (i : Int) < (mt.length : Int) by omega), if_pos (i_pos i)]
    exact bgram_l1 H hr i (by omega) ih o.length 0 (by omega)
theorem bgrams (H : BatchOk o mt s p a4 a5 a6) (hr : RecOk mt r) : Ev (fun k => batch_grams.f k o mt s p a4 a5 a6 r) (gramL o.length mt r) := by
  have ho := H.o12
  unfold batch_grams.f
  simp only [if_pos (i_pos o.length), Int.toNat_natCast, if_pos (show o.length ≤ 17592186044416 by omega)]
  rw [stL_zero o.length mt r]
  exact bgram_l0 H hr mt.length 0 (by omega)
theorem gramL_len (n : Nat) (mt : List S63) (r : List Int) : (gramL n mt r).length = n := stL_len _ _ _ _ _
theorem gramL_get (n : Nat) (mt : List S63) (r : List Int) (j : Nat) (h : j < n) : rd_T27 (gramL n mt r) (j : Int) = ⟨gS S27.f0 mt r j mt.length, gS S27.f1 mt r j mt.length⟩ := by
  unfold gramL; rw [stL_get _ _ _ _ _ _ h, if_neg (Nat.not_lt_zero _)]
theorem gS_le (H : BatchOk o mt s p a4 a5 a6) (hr : RecOk mt r) {j : Nat} (hj : j < o.length) : ∀ n, n ≤ mt.length → gS S27.f0 mt r j n ≤ gS S27.f1 mt r j n := by
  intro n
  induction n with
  | zero => intro _; simp [gS]
  | succ n ih =>
    intro hn
    have h1 := ih (by omega)
    have h2 := hr.kilos n (by omega)
    have h3 := (H.mats n (by omega)).con j hj
    have h4 := Int.mul_le_mul_of_nonneg_left h3.2.1 h2.1
    simp only [gS]
    omega
theorem gram_bounds (H : BatchOk o mt s p a4 a5 a6) (hr : RecOk mt r) {j : Nat} (hj : j < o.length) :
    0 ≤ (rd_T27 (gramL o.length mt r) (j : Int)).f0 ∧ (rd_T27 (gramL o.length mt r) (j : Int)).f0 ≤ (rd_T27 (gramL o.length mt r) (j : Int)).f1 ∧ (rd_T27 (gramL o.length mt r) (j : Int)).f1 ≤ 120000000 := by
  have hm := H.m12
  have h1 := gS_bound (n := 0) hr (con0 H hj) mt.length (Nat.le_refl _)
  have h2 := gS_bound (n := 0) hr (con1 H hj) mt.length (Nat.le_refl _)
  have h3 := gS_le H hr hj mt.length (Nat.le_refl _)
  rw [gramL_get _ _ _ _ hj]
  dsimp only
  omega
end
end Go.Proofs.Ytkjkokgbhepmoaa.PB

namespace Go.Proofs.Ytkjkokgbhepmoaa.PB
open Go.RowKit Go.Proofs.YtkjkokgbhepmoaaW.PrintWords Go.Proofs.YtkjkokgbhepmoaaW.PrintLast Go.Proofs.YtkjkokgbhepmoaaW.PrintMore
attribute [local go_sem] max2_int min2_int max_two min_two max_three min_three max_four min_four
def batch_weight.l0 : Nat → List (S27) → Int → Int → Int → Int → Option (Int × Int)
 | 0, _, _, _, _, _ => none
 | k + 1, x6, x7, x8, x175q0, x175q1 => if x8 < x7 then (if 0 ≤ x8 then (if x8 < (x6.length : Int) then (batch_weight.l0 k x6 x7 (wrap64 (x8 + 1)) (wrap64 (x175q0 + ((rd_T27 x6 x8).f0))) (wrap64 (x175q1 + ((rd_T27 x6 x8).f1)))) else (none)) else (none)) else (some (x175q0, x175q1))
def batch_weight.f (k : Nat) (l0 : List (S27)) : Option (Int × Int) := batch_weight.l0 k l0 (l0.length : Int) 0 0 0
set_option maxHeartbeats 8000000 in
set_option maxRecDepth 100000 in
theorem batch_weight.calls (k : Nat) (A0 : Option Addr) (c0 : Nat) (l0 : List (S27)) (r1 : Int) (r2 : Int) (w : World) (hr0 : Kd.C k27 w A0 l0.length l0) (hc0 : l0.length ≤ c0) (h : batch_weight.f k l0 = some (r1, r2)) :
  Calls Try.prog 57 #[.slice A0 l0.length c0] w fun e w' => e = .returned (.agg #[.int .i64 r1, .int .i64 r2]) ∧ Below w.heap.size w w' := by
 have hu27 := Try.underlying27; have HR0 := Sd.mk hr0; have HC0 := Sd.mk hc0; clear hr0 hc0; have HB := Sd.mk (Below.refl w.heap.size w)
 have H : (batch_weight.l0 k l0 (l0.length : Int) 0 0 0) = some (r1, r2) := h
 clear h; have H' := Sd.mk H; clear H
 go_enter Try.func57, Try.ntmps57
 go_wp2_with (first | ((with_reducible refine gate_dst (N := 2) rfl ?_); refine box_event ?hg (N := 2) ?hd (cs := #[.int .i64 0, .int .i64 0]) (t := 27) ?hr ?_; (case hd => rfl); (case hg => rfl); (case hr => exact tG); intro gb173 hg w2 hbox hb; have BK173 := Sd.mk (hbox); have GW173 := Sd.mk (bSz hg (bBl HB.out)); have GE173 := Sd.mk (bSz hg (bBl HB.out)); replace HB := Sd.mk (below_step (bBl HB.out) hb); clear hb hbox hg) | ((with_reducible refine gate_dst (N := 3) rfl ?_); refine box_event ?hg (N := 3) ?hd (cs := #[.int .i64 0, .int .i64 0]) (t := 27) ?hr ?_; (case hd => rfl); (case hg => rfl); (case hr => exact tG); intro gb174 hg w3 hbox hb; have BK174 := Sd.mk (hbox); have GW174 := Sd.mk (bSz hg (bBl HB.out)); have GE174 := Sd.mk (bSz hg (bBl HB.out)); replace HB := Sd.mk (below_step (bBl HB.out) hb); have NB173_174 := Sd.mk (bNl hg (bkA BK173.out)); have NB174_173 := Sd.mk (bNg hg (bkA BK173.out)); replace BK173 := Sd.mk (blk_below (bkA BK173.out) hb); clear hb hbox hg))
 go_loopg [8] k (fun kq v8 w' => ∃ (x8_1 : Int) (x175000_1 : Int) (x175001_1 : Int), v8 = .int .i64 x8_1 ∧ Sd (batch_weight.l0 kq l0 (l0.length : Int) x8_1 x175000_1 x175001_1 = some (r1, r2)) ∧ Sd (kq ≤ k) ∧ Sd (w'.heap[gb173]? = some (.cells #[.int .i64 0, .int .i64 0] 27 (0, 0))) ∧ Sd (w'.heap[gb174]? = some (.cells #[.int .i64 x175000_1, .int .i64 x175001_1] 27 (0, 0))) ∧ Sd (Below w.heap.size w w'))
 case atStart => exact ⟨(0), (0), (0), tS, H', ⟨Nat.le_refl _⟩, ⟨bkA BK173.out⟩, ⟨bkA BK174.out⟩, ⟨bBl HB.out⟩⟩
 case round =>
  clear H'; (try clear p2); obtain ⟨x8_1, x175000_1, x175001_1, rfl, HA, HK1, BK173, BK174, HB⟩ := hrel
  cases gk with
  | zero => exact absurd HA.out (by simp [batch_weight.l0])
  | succ k1 =>
   have H := HA.out; clear HA
   simp only [batch_weight.l0] at H
   by_cases c4 : x8_1 < (l0.length : Int)
   ·rw [if_pos c4] at H
    have c4b0 : decide (x8_1 < (l0.length : Int)) = true := decide_eq_true c4
    clear c4
    by_cases c5 : 0 ≤ x8_1
    ·rw [if_pos c5] at H
     have c5b0 : decide (0 ≤ x8_1) = true := decide_eq_true c5
     clear c5
     by_cases c6 : x8_1 < (l0.length : Int)
     ·rw [if_pos c6] at H
      have c6b0 : decide (x8_1 < (l0.length : Int)) = true := decide_eq_true c6
      clear c6; have H' := Sd.mk H; clear H
      have p175 : 0 ≤ (x8_1 : Int) := tB
      have q175 : x8_1 < (l0.length : Int) := tB
      obtain ⟨ad175, e175, hx175_0, hx175_1⟩ := at_T27 HR0.out x8_1 p175 q175; cases e175; replace hx175_0 := cU HB hx175_0; replace hx175_1 := cU HB hx175_1; replace p175 := eq_true p175; replace q175 := eq_true q175
      go_wp2_with (first | ((with_reducible refine gate_dst (N := 5) rfl ?_); refine box_event ?hg (N := 5) ?hd (cs := #[.int .i64 0, .int .i64 0]) (t := 27) ?hr ?_; (case hd => rfl); (case hg => rfl); (case hr => exact tG); intro gb176 hg w7 hbox hb; have BK176 := Sd.mk (hbox); have GW176 := Sd.mk (bSz hg (bBl HB.out)); have GE176 := Sd.mk (bSz hg (bBl HB.out)); replace HB := Sd.mk (below_step (bBl HB.out) hb); have NB173_176 := Sd.mk (bNl hg (bkA BK173.out)); have NB176_173 := Sd.mk (bNg hg (bkA BK173.out)); replace BK173 := Sd.mk (blk_below (bkA BK173.out) hb); have NB174_176 := Sd.mk (bNl hg (bkA BK174.out)); have NB176_174 := Sd.mk (bNg hg (bkA BK174.out)); replace BK174 := Sd.mk (blk_below (bkA BK174.out) hb); clear hb hbox hg; have hnb8 := NB176_173.out; have hnc8 := NB173_176.out; have hnb9 := NB176_174.out; have hnc9 := NB174_176.out; obtain ⟨u10_0, u10_1, o10_0, o10_1⟩ := bc2 (w := w7) BK176.out; have hnb11 := NB174_173.out; have hnc11 := NB173_174.out; obtain ⟨u12_0, u12_1, o12_0, o12_1⟩ := bc2 (w := w7) BK174.out))
      go_roundg k1
      case measure => have := HK1.out; omega
      case rel => exact ⟨(wrap64 (x8_1 + 1)), (wrap64 (x175000_1 + ((rd_T27 l0 x8_1).f0))), (wrap64 (x175001_1 + ((rd_T27 l0 x8_1).f1))), tS, H', ⟨by have := HK1.out; omega⟩, ⟨by (with_reducible repeat (first | refine blk_drewN ?_ _ | refine blk_drew ?_ | refine blk_alloc ?_ _)); refine blk_far ?_ NB173_174.out _; (with_reducible repeat (first | refine blk_drewN ?_ _ | refine blk_drew ?_ | refine blk_alloc ?_ _)); refine blk_far ?_ NB173_174.out _; (with_reducible repeat (first | refine blk_drewN ?_ _ | refine blk_drew ?_ | refine blk_alloc ?_ _)); refine blk_far ?_ NB173_176.out _; (with_reducible repeat (first | refine blk_drewN ?_ _ | refine blk_drew ?_ | refine blk_alloc ?_ _)); refine blk_far ?_ NB173_176.out _; (with_reducible repeat (first | refine blk_drewN ?_ _ | refine blk_drew ?_ | refine blk_alloc ?_ _)); exact BK173.out⟩, ⟨by (with_reducible repeat (first | refine blk_drewN ?_ _ | refine blk_drew ?_ | refine blk_alloc ?_ _)); refine blk_put (cs := #[.int .i64 (wrap64 (x175000_1 + ((rd_T27 l0 x8_1).f0))), .int .i64 x175001_1]) ?_ 1 _ rfl; (with_reducible repeat (first | refine blk_drewN ?_ _ | refine blk_drew ?_ | refine blk_alloc ?_ _)); refine blk_put (cs := #[.int .i64 x175000_1, .int .i64 x175001_1]) ?_ 0 _ rfl; (with_reducible repeat (first | refine blk_drewN ?_ _ | refine blk_drew ?_ | refine blk_alloc ?_ _)); refine blk_far ?_ NB174_176.out _; (with_reducible repeat (first | refine blk_drewN ?_ _ | refine blk_drew ?_ | refine blk_alloc ?_ _)); refine blk_far ?_ NB174_176.out _; (with_reducible repeat (first | refine blk_drewN ?_ _ | refine blk_drew ?_ | refine blk_alloc ?_ _)); exact BK174.out⟩, ⟨bBl HB.out⟩⟩
     ·rw [if_neg c6] at H
      exact absurd H (by simp)
    ·rw [if_neg c5] at H
     exact absurd H (by simp)
   ·rw [if_neg c4] at H
    have c4b0 : decide (x8_1 < (l0.length : Int)) = false := decide_eq_false c4
    clear c4
    simp only [Option.some.injEq, Prod.mk.injEq] at H
    obtain ⟨rfl, rfl⟩ := H; have hnb13 := NB174_173.out; have hnc13 := NB173_174.out; obtain ⟨u14_0, u14_1, o14_0, o14_1⟩ := bc2 (w := wr) BK174.out; obtain ⟨u15_0, u15_1, o15_0, o15_1⟩ := bc2 (w := wr) BK173.out
    go_wp2
    refine bodyPost_ret (results_cell_row rfl _ _ gb173 27 #[.int .i64 x175000_1, .int .i64 x175001_1] (0, 0) _ rfl (by (with_reducible repeat (first | refine blk_drewN ?_ _ | refine blk_drew ?_ | refine blk_alloc ?_ _)); refine blk_put (cs := #[.int .i64 x175000_1, .int .i64 0]) ?_ 1 _ rfl; (with_reducible repeat (first | refine blk_drewN ?_ _ | refine blk_drew ?_ | refine blk_alloc ?_ _)); refine blk_put (cs := #[.int .i64 0, .int .i64 0]) ?_ 0 _ rfl; (with_reducible repeat (first | refine blk_drewN ?_ _ | refine blk_drew ?_ | refine blk_alloc ?_ _)); exact BK173.out) Try.underlying27 rfl (by kernel_rfl)) rfl ?_
    exact ⟨tE, bBl HB.out⟩
end Go.Proofs.Ytkjkokgbhepmoaa.PB

namespace Go.Proofs.Ytkjkokgbhepmoaa.PB
open Go.RowKit Go.Proofs.YtkjkokgbhepmoaaW.PrintWords Go.Proofs.YtkjkokgbhepmoaaW.PrintLast Go.Proofs.YtkjkokgbhepmoaaW.PrintMore
attribute [local go_sem] max2_int min2_int max_two min_two max_three min_three max_four min_four
end Go.Proofs.Ytkjkokgbhepmoaa.PB

namespace Go.Proofs.Ytkjkokgbhepmoaa.PB
open Go.RowKit Go.Proofs.YtkjkokgbhepmoaaW.PrintWords Go.Proofs.YtkjkokgbhepmoaaW.PrintLast Go.Proofs.YtkjkokgbhepmoaaW.PrintMore
attribute [local go_sem] max2_int min2_int max_two min_two max_three min_three max_four min_four
end Go.Proofs.Ytkjkokgbhepmoaa.PB

namespace Go.Proofs.Ytkjkokgbhepmoaa.PB
open Go.RowKit Go.Proofs.YtkjkokgbhepmoaaW.PrintWords Go.Proofs.YtkjkokgbhepmoaaW.PrintLast Go.Proofs.YtkjkokgbhepmoaaW.PrintMore
attribute [local go_sem] max2_int min2_int max_two min_two max_three min_three max_four min_four
end Go.Proofs.Ytkjkokgbhepmoaa.PB

namespace Go.Proofs.Ytkjkokgbhepmoaa.PB
open Go.RowKit Go.Proofs.YtkjkokgbhepmoaaW.PrintWords Go.Proofs.YtkjkokgbhepmoaaW.PrintLast Go.Proofs.YtkjkokgbhepmoaaW.PrintMore
attribute [local go_sem] max2_int min2_int max_two min_two max_three min_three max_four min_four
end Go.Proofs.Ytkjkokgbhepmoaa.PB

