import Derived.Test.YtljfljekcpdpiaaGreatX5
import Derived.Shelf.Abstract
set_option linter.unusedVariables false
set_option linter.unusedSimpArgs false
set_option maxHeartbeats 8000000
set_option maxRecDepth 1000000
namespace Go.Proofs.YtljfljekcpdpiaaGreat.PB
open Go.RowKit Go.Shelf Go.Proofs.YtljfljekcpdpiaaGreatW.PrintWords Go.Proofs.YtljfljekcpdpiaaGreatW.PrintLast Go.Proofs.YtljfljekcpdpiaaGreatW.PrintMore
section
attribute [local go_sem] Oper.semAt_some
def cc1T : Bool × List (List Nat × List Nat) := (true, [([], []), ([0], [0]), ([1], [1]), ([2], [2]), ([2], [2]), ([4, 2], [2, 4]), ([3, 5, 2], [2, 3, 5]), ([6, 2], [2, 6]), ([7, 2], [2, 7]), ([2], [2]), ([9, 2], [2, 9]), ([8, 10, 2, 2], [2, 8, 10]), ([2], [2]), ([2], [2]), ([13, 2], [2, 13]), ([12, 14, 2], [2, 12, 14]), ([15, 2], [2, 15]), ([16, 2], [2, 16]), ([2], [2]), ([18, 2], [2, 18]), ([17, 19, 11, 2], [2, 17, 19]), ([11, 20, 2], [2, 11, 20]), ([21, 20, 2], [2, 21]), ([22, 2], [2, 22]), ([2, 23], [2, 23])])
def cc1B : List Nat := [0, 1, 3, 7, 7, 23, 63, 127, 255, 7, 519, 2047, 7, 7, 8199, 28679, 61447, 126983, 7, 262151, 1048575, 2097151, 4194303, 8388607, 16777215]
theorem cc1_tab : rtab .any (opsOf Tryz.f219 12) = cc1T := by kernel_rfl
theorem cc1_bits : waitsOk cc1T.2 cc1B = true := by kernel_rfl
def cc2T : Bool × List (List Nat × List Nat) := (true, [([], []), ([0], [0]), ([], []), ([2], [2]), ([1, 3], [1, 3]), ([4], [4]), ([5], [5]), ([6, 5], [5, 6]), ([7, 5, 5], [5, 7]), ([8, 5], [5, 8]), ([5, 9], [5, 9]), ([10, 8], [10]), ([11], [11]), ([12, 11], [11, 12]), ([13, 11, 11], [11, 13]), ([14, 11], [11, 14]), ([11, 15], [11, 15]), ([16, 14], [16]), ([17], [17]), ([18, 17], [17, 18]), ([19, 17, 17], [17, 19]), ([20], [20]), ([21, 20], [20, 21]), ([20], [20]), ([23, 20], [20, 23]), ([20], [20]), ([25, 20], [20, 25]), ([24, 26, 20], [20, 24, 26]), ([27, 20], [20, 27]), ([28, 20], [20, 28]), ([29, 20], [20, 29]), ([22, 30, 20], [20, 22, 30]), ([20, 31, 17], [17, 20, 31]), ([17, 32], [17, 32])])
def cc2B : List Nat := [0, 1, 0, 4, 15, 31, 63, 127, 255, 511, 1023, 2047, 4095, 8191, 16383, 32767, 65535, 131071, 262143, 524287, 1048575, 2097151, 4194303, 2097151, 10485759, 2097151, 35651583, 127926271, 262143999, 530579455, 1067450367, 2147483647, 4294967295, 8589934591]
theorem cc2_tab : rtab .any (opsOf Tryz.f219 17) = cc2T := by kernel_rfl
theorem cc2_bits : waitsOk cc2T.2 cc2B = true := by kernel_rfl
theorem checkCells_calls (A cap : Nat) (g : Addr) (c : Nat) (w : World) (h : CellR w A g c 1000 1000) :
  Calls Tryz.prog 219 #[.agg #[.int .i64 995, .int .i64 1005, .int .i64 3, .int .i64 4, .int .i64 0, .int .i64 10, .int .i64 1, .int .i64 2, .int .i64 1], .slice (some ⟨A, 0, none⟩) 1 cap] w fun e w' => e = .returned (.int .i64 0) ∧ Below w.heap.size w w' := by
 have HB := Sd.mk (below_alloc (Below.refl w.heap.size w) (.cells #[.int .i64 995, .int .i64 1005, .int .i64 3, .int .i64 4, .int .i64 0, .int .i64 10, .int .i64 1, .int .i64 2, .int .i64 1] 120))
 have HX := Sd.mk (blk_new w (.cells #[.int .i64 995, .int .i64 1005, .int .i64 3, .int .i64 4, .int .i64 0, .int .i64 10, .int .i64 1, .int .i64 2, .int .i64 1] 120))
 have HC := Sd.mk (h.below (below_alloc (Below.refl w.heap.size w) (.cells #[.int .i64 995, .int .i64 1005, .int .i64 3, .int .i64 4, .int .i64 0, .int .i64 10, .int .i64 1, .int .i64 2, .int .i64 1] 120)))
 clear h
 go_enter Tryz.func219, Tryz.ntmps219
 go_wp2
 generalize w.alloc (.cells #[.int .i64 995, .int .i64 1005, .int .i64 3, .int .i64 4, .int .i64 0, .int .i64 10, .int .i64 1, .int .i64 2, .int .i64 1] 120) = w1 at HB HX HC ⊢
 refine wp_loop_rounds 2 ?_
 rw [rounds_succ]
 have k0 := HC.out.c0
 have k1 := HC.out.c1
 have k2 := HC.out.c2
 go_upto_region 4 with (fail)
 clear k0 k1 k2
 have BR := Sd.mk (blk_new w1 (.cells #[.int .i64 0, .int .i64 5, .slice (some g) 1 c] 180))
 have HB2 := Sd.mk (below_alloc HB.out (.cells #[.int .i64 0, .int .i64 5, .slice (some g) 1 c] 180))
 have HX2 := Sd.mk (blk_alloc HX.out (.cells #[.int .i64 0, .int .i64 5, .slice (some g) 1 c] 180))
 have HC2 := Sd.mk (HC.out.below (below_alloc (Below.refl _ _) (.cells #[.int .i64 0, .int .i64 5, .slice (some g) 1 c] 180)))
 clear HB HX HC
 generalize w1.alloc (.cells #[.int .i64 0, .int .i64 5, .slice (some g) 1 c] 180) = w2 at BR HB2 HX2 HC2 ⊢
 have k2 : w2.cell? ⟨w1.heap.size, 2, none⟩ = some (.slice (some g) 1 c) := (blk_cell BR.out 2).trans rfl
 go_upto_region 7 with (fail)
 clear k2 BR
 rw [rounds_succ]
 go_upto_region 9 with (fail)
 refine wp_loop_rounds 2 ?_
 rw [rounds_succ]
 have k0 := HC2.out.c0
 have k1 := HC2.out.c1
 have k2 := HC2.out.c2
 go_upto_region 10 with (fail)
 clear k0 k1 k2
 have BR3 := Sd.mk (blk_new w2 (.cells #[.int .i64 0, .int .i64 5, .slice (some g) 1 c] 180))
 have HB3 := Sd.mk (below_alloc HB2.out (.cells #[.int .i64 0, .int .i64 5, .slice (some g) 1 c] 180))
 have HX3 := Sd.mk (blk_alloc HX2.out (.cells #[.int .i64 0, .int .i64 5, .slice (some g) 1 c] 180))
 have HC3 := Sd.mk (HC2.out.below (below_alloc (Below.refl _ _) (.cells #[.int .i64 0, .int .i64 5, .slice (some g) 1 c] 180)))
 clear HB2 HX2 HC2
 generalize w2.alloc (.cells #[.int .i64 0, .int .i64 5, .slice (some g) 1 c] 180) = w3 at BR3 HB3 HX3 HC3 ⊢
 generalize w2.heap.size = T8 at BR3 ⊢
 have r0 : w3.cell? ⟨T8, 0, none⟩ = some (.int .i64 0) := (blk_cell BR3.out 0).trans rfl
 have r1 : w3.cell? ⟨T8, 1, none⟩ = some (.int .i64 5) := (blk_cell BR3.out 1).trans rfl
 have r2 : w3.cell? ⟨T8, 2, none⟩ = some (.slice (some g) 1 c) := (blk_cell BR3.out 2).trans rfl
 have l0 : w3.cell? ⟨w.heap.size, 0, none⟩ = some (.int .i64 995) := (blk_cell HX3.out 0).trans rfl
 have l1 : w3.cell? ⟨w.heap.size, 1, none⟩ = some (.int .i64 1005) := (blk_cell HX3.out 1).trans rfl
 have l2 : w3.cell? ⟨w.heap.size, 2, none⟩ = some (.int .i64 3) := (blk_cell HX3.out 2).trans rfl
 have l3 : w3.cell? ⟨w.heap.size, 3, none⟩ = some (.int .i64 4) := (blk_cell HX3.out 3).trans rfl
 have l4 : w3.cell? ⟨w.heap.size, 4, none⟩ = some (.int .i64 0) := (blk_cell HX3.out 4).trans rfl
 have l5 : w3.cell? ⟨w.heap.size, 5, none⟩ = some (.int .i64 10) := (blk_cell HX3.out 5).trans rfl
 have l6 : w3.cell? ⟨w.heap.size, 6, none⟩ = some (.int .i64 1) := (blk_cell HX3.out 6).trans rfl
 have l7 : w3.cell? ⟨w.heap.size, 7, none⟩ = some (.int .i64 2) := (blk_cell HX3.out 7).trans rfl
 have l8 : w3.cell? ⟨w.heap.size, 8, none⟩ = some (.int .i64 1) := (blk_cell HX3.out 8).trans rfl
 have r0' : w3.cell? ⟨T8, 0, none⟩ = some (.int .i64 0) := (blk_cell BR3.out 0).trans rfl
 clear r0'
 go_upto_region 12 with (fail)
 go_at_call 201; refine (within_ok 0 0 0 (by kernel_rfl) _).mono ?_; rintro e w4 ⟨rfl, hb⟩
 clear r0 r1 r2 l0 l1 l2 l3 l4 l5 l6 l7 l8
 have BR4 := Sd.mk (blk_below BR3.out hb)
 have HB4 := Sd.mk (below_then HB3.out HB3.out.size hb)
 have HX4 := Sd.mk (blk_below HX3.out hb)
 have HC4 := Sd.mk (HC3.out.below hb)
 clear hb BR3 HB3 HX3 HC3
 have r0 : w4.cell? ⟨T8, 0, none⟩ = some (.int .i64 0) := (blk_cell BR4.out 0).trans rfl
 have r1 : w4.cell? ⟨T8, 1, none⟩ = some (.int .i64 5) := (blk_cell BR4.out 1).trans rfl
 have r2 : w4.cell? ⟨T8, 2, none⟩ = some (.slice (some g) 1 c) := (blk_cell BR4.out 2).trans rfl
 have l0 : w4.cell? ⟨w.heap.size, 0, none⟩ = some (.int .i64 995) := (blk_cell HX4.out 0).trans rfl
 have l1 : w4.cell? ⟨w.heap.size, 1, none⟩ = some (.int .i64 1005) := (blk_cell HX4.out 1).trans rfl
 have l2 : w4.cell? ⟨w.heap.size, 2, none⟩ = some (.int .i64 3) := (blk_cell HX4.out 2).trans rfl
 have l3 : w4.cell? ⟨w.heap.size, 3, none⟩ = some (.int .i64 4) := (blk_cell HX4.out 3).trans rfl
 have l4 : w4.cell? ⟨w.heap.size, 4, none⟩ = some (.int .i64 0) := (blk_cell HX4.out 4).trans rfl
 have l5 : w4.cell? ⟨w.heap.size, 5, none⟩ = some (.int .i64 10) := (blk_cell HX4.out 5).trans rfl
 have l6 : w4.cell? ⟨w.heap.size, 6, none⟩ = some (.int .i64 1) := (blk_cell HX4.out 6).trans rfl
 have l7 : w4.cell? ⟨w.heap.size, 7, none⟩ = some (.int .i64 2) := (blk_cell HX4.out 7).trans rfl
 have l8 : w4.cell? ⟨w.heap.size, 8, none⟩ = some (.int .i64 1) := (blk_cell HX4.out 8).trans rfl
 go_upto_region 12 with (fail)
 go_at_call 201; refine (within_ok 5 0 10 (by kernel_rfl) _).mono ?_; rintro e w5 ⟨rfl, hb⟩
 clear r0 r1 r2 l0 l1 l2 l3 l4 l5 l6 l7 l8
 have BR5 := Sd.mk (blk_below BR4.out hb)
 have HB5 := Sd.mk (below_then HB4.out HB4.out.size hb)
 have HX5 := Sd.mk (blk_below HX4.out hb)
 have HC5 := Sd.mk (HC4.out.below hb)
 clear hb BR4 HB4 HX4 HC4
 have r2 : w5.cell? ⟨T8, 2, none⟩ = some (.slice (some g) 1 c) := (blk_cell BR5.out 2).trans rfl
 go_upto_region 12 with (fail)
 clear r2
 refine start_ (n := 25) (S := fun w' => True) (ds := []) (bA 25 0) (by kernel_rfl) rfl rfl trivial (fun hHeld => ?_); refine with_tabW cc1_tab cc1_bits (fun HT_ HW_ => ?_)
 have BR6 := Sd.mk (blk_drew BR5.out)
 have HB6 := Sd.mk (below_drew1 HB5.out)
 have HC6 := Sd.mk (HC5.out.below (below_drew1 (Below.refl _ _)))
 clear BR5 HB5 HX5 HC5
 generalize w5.drew = w6 at BR6 HB6 HC6 hHeld ⊢
 refine pQ 0 (some 54) (bA 25 1) ?_
 refine pQ 1 (some 55) (bA 25 3) ?_
 refine pQ 2 (some 56) (bA 25 7) ?_
 refine pure_ (i := 3) (N := some 57) (v := undef) (a' := ?_) (bA 25 15) rfl rfl (any_of HT_.out (by kernel_rfl)) (fun _ _ _ h => h) (Or.inr ⟨by rfl, rfl⟩) ?_ ?_
 rotate_left
 ·exact tP
 refine pure_ (i := 4) (N := some 58) (v := undef) (a' := ?_) (bA 25 31) rfl rfl (any_of HT_.out (by kernel_rfl)) (fun _ _ _ h => h) (Or.inr ⟨by rfl, rfl⟩) ?_ ?_
 rotate_left
 ·exact tP
 refine pure_ (i := 5) (N := some 59) (v := undef) (a' := ?_) (bA 25 63) rfl rfl (any_of HT_.out (by kernel_rfl)) (fun _ _ _ h => h) (Or.inr ⟨by rfl, rfl⟩) ?_ ?_
 rotate_left
 ·exact tP
 refine pure_ (i := 6) (N := some 60) (v := undef) (a' := ?_) (bA 25 127) rfl rfl (any_of HT_.out (by kernel_rfl)) (fun _ _ _ h => h) (Or.inr ⟨by rfl, rfl⟩) ?_ ?_
 rotate_left
 ·exact tP
 refine pure_ (i := 7) (N := some 61) (v := undef) (a' := ?_) (bA 25 255) rfl rfl (any_of HT_.out (by kernel_rfl)) (fun _ _ _ h => h) (Or.inr ⟨by rfl, rfl⟩) ?_ ?_
 rotate_left
 ·exact tP
 refine pure_ (i := 8) (N := some 62) (v := undef) (a' := ?_) (bA 25 511) rfl rfl (any_of HT_.out (by kernel_rfl)) (fun _ _ _ h => h) (Or.inr ⟨by rfl, rfl⟩) ?_ ?_
 rotate_left
 ·exact tP
 refine pure_ (i := 9) (N := some 63) (v := undef) (a' := ?_) (bA 25 1023) rfl rfl (any_of HT_.out (by kernel_rfl)) (fun _ _ _ h => h) (Or.inr ⟨by rfl, rfl⟩) ?_ ?_
 rotate_left
 ·exact tP
 refine pure_ (i := 10) (N := some 64) (v := undef) (a' := ?_) (bA 25 2047) rfl rfl (any_of HT_.out (by kernel_rfl)) (fun _ _ _ h => h) (Or.inr ⟨by rfl, rfl⟩) ?_ ?_
 rotate_left
 ·exact tP
 refine pure_ (i := 11) (N := some 65) (v := undef) (a' := ?_) (bA 25 4095) rfl rfl (any_of HT_.out (by kernel_rfl)) (fun _ _ _ h => h) (Or.inr ⟨by rfl, rfl⟩) ?_ ?_
 rotate_left
 ·exact tP
 refine pure_ (i := 12) (N := some 66) (v := undef) (a' := ?_) (bA 25 8191) rfl rfl (any_of HT_.out (by kernel_rfl)) (fun _ _ _ h => h) (Or.inr ⟨by rfl, rfl⟩) ?_ ?_
 rotate_left
 ·exact tP
 refine pure_ (i := 13) (N := some 67) (v := undef) (a' := ?_) (bA 25 16383) rfl rfl (any_of HT_.out (by kernel_rfl)) (fun _ _ _ h => h) (Or.inr ⟨by rfl, rfl⟩) ?_ ?_
 rotate_left
 ·exact tP
 refine pure_ (i := 14) (N := some 68) (v := undef) (a' := ?_) (bA 25 32767) rfl rfl (any_of HT_.out (by kernel_rfl)) (fun _ _ _ h => h) (Or.inr ⟨by rfl, rfl⟩) ?_ ?_
 rotate_left
 ·exact tP
 refine pure_ (i := 15) (N := some 69) (v := undef) (a' := ?_) (bA 25 65535) rfl rfl (any_of HT_.out (by kernel_rfl)) (fun _ _ _ h => h) (Or.inr ⟨by rfl, rfl⟩) ?_ ?_
 rotate_left
 ·exact tP
 refine pure_ (i := 16) (N := some 70) (v := undef) (a' := ?_) (bA 25 131071) rfl rfl (any_of HT_.out (by kernel_rfl)) (fun _ _ _ h => h) (Or.inr ⟨by rfl, rfl⟩) ?_ ?_
 rotate_left
 ·exact tP
 refine pure_ (i := 17) (N := some 71) (v := undef) (a' := ?_) (bA 25 262143) rfl rfl (any_of HT_.out (by kernel_rfl)) (fun _ _ _ h => h) (Or.inr ⟨by rfl, rfl⟩) ?_ ?_
 rotate_left
 ·exact tP
 refine pure_ (i := 18) (N := some 72) (v := undef) (a' := ?_) (bA 25 524287) rfl rfl (any_of HT_.out (by kernel_rfl)) (fun _ _ _ h => h) (Or.inr ⟨by rfl, rfl⟩) ?_ ?_
 rotate_left
 ·exact tP
 refine pure_ (i := 19) (N := some 73) (v := undef) (a' := ?_) (bA 25 1048575) rfl rfl (any_of HT_.out (by kernel_rfl)) (fun _ _ _ h => h) (Or.inr ⟨by rfl, rfl⟩) ?_ ?_
 rotate_left
 ·exact tP
 refine pure_ (i := 20) (N := some 74) (v := undef) (a' := ?_) (bA 25 2097151) rfl rfl (any_of HT_.out (by kernel_rfl)) (fun _ _ _ h => h) (Or.inr ⟨by rfl, rfl⟩) ?_ ?_
 rotate_left
 ·exact tP
 refine pure_ (i := 21) (N := some 75) (v := undef) (a' := ?_) (bA 25 4194303) rfl rfl (any_of HT_.out (by kernel_rfl)) (fun _ _ _ h => h) (Or.inr ⟨by rfl, rfl⟩) ?_ ?_
 rotate_left
 ·exact tP
 refine pure_ (i := 22) (N := some 76) (v := undef) (a' := ?_) (bA 25 8388607) rfl rfl (any_of HT_.out (by kernel_rfl)) (fun _ _ _ h => h) (Or.inr ⟨by rfl, rfl⟩) ?_ ?_
 rotate_left
 ·exact tP
 refine pure_ (i := 23) (N := some 77) (v := undef) (a' := ?_) (bA 25 16777215) rfl rfl (any_of HT_.out (by kernel_rfl)) (fun _ _ _ h => h) (Or.inr ⟨by rfl, rfl⟩) ?_ ?_
 rotate_left
 ·exact tP
 refine pQ 24 (some 78) (bA 25 33554431) ?_
 refine done_ (done_of HT_.out (by kernel_rfl)) ?_
 clear HT_ HW_ hHeld
 have r2 : w6.cell? ⟨T8, 2, none⟩ = some (.slice (some g) 1 c) := (blk_cell BR6.out 2).trans rfl
 go_upto_region 15 with (fail)
 clear r2
 refine wp_loop_rounds 2 ?_
 rw [rounds_succ]
 obtain ⟨s0, s1⟩ := span_at HC6.out.sp
 go_upto_region 17 with (fail)
 clear s0 s1
 have BS7 := Sd.mk (blk_new w6 (.cells #[.int .i64 1000, .int .i64 1000] 27))
 have BR7 := Sd.mk (blk_alloc BR6.out (.cells #[.int .i64 1000, .int .i64 1000] 27))
 have HB7 := Sd.mk (below_alloc HB6.out (.cells #[.int .i64 1000, .int .i64 1000] 27))
 have HC7 := Sd.mk (HC6.out.below (below_alloc (Below.refl _ _) (.cells #[.int .i64 1000, .int .i64 1000] 27)))
 clear BR6 HB6 HC6
 generalize w6.alloc (.cells #[.int .i64 1000, .int .i64 1000] 27) = w7 at BS7 BR7 HB7 HC7 ⊢
 generalize w6.heap.size = T10 at BS7 ⊢
 refine start_ (n := 34) (S := fun w' => w'.heap[T10]? = some (.cells #[.int .i64 1000, .int .i64 1000] 27 (0, 0)) ∧ w'.heap[T8]? = some (.cells #[.int .i64 0, .int .i64 5, .slice (some g) 1 c] 180 (0, 0))) (ds := []) (bA 34 0) (by kernel_rfl) rfl rfl ⟨BS7.out, BR7.out⟩ (fun hHeld => ?_); refine with_tabW cc2_tab cc2_bits (fun HT_ HW_ => ?_)
 have HB8 := Sd.mk (below_drew1 HB7.out)
 have HC8 := Sd.mk (HC7.out.below (below_drew1 (Below.refl _ _)))
 clear BS7 BR7 HB7 HC7
 generalize w7.drew = w8 at HB8 HC8 hHeld ⊢
 refine pQ 0 (some 87) (bA 34 1) ?_
 refine take_ (i := 1) (N := some 88) (v := ?_) (a' := ?_) (bA 34 3) rfl rfl (take_ofW HT_.out HW_.out (by kernel_rfl)) (fun _ _ _ h => h) (Or.inl ⟨by rfl, ?_⟩) hHeld ?_ ?_
 rotate_left
 ·rintro w' ⟨hS, hR⟩
  have s0 : w'.cell? ⟨T10, 0, none⟩ = some (.int .i64 1000) := (blk_cell hS 0).trans rfl
  go_simp
  with_reducible rfl
 rotate_left
 ·exact tP
 refine pQ 2 (some 89) (bA 34 7) ?_
 refine take_ (i := 3) (N := some 90) (v := ?_) (a' := ?_) (bA 34 15) rfl rfl (take_ofW HT_.out HW_.out (by kernel_rfl)) (fun _ _ _ h => h) (Or.inl ⟨by rfl, ?_⟩) hHeld ?_ ?_
 rotate_left
 ·rintro w' ⟨hS, hR⟩
  have s0 : w'.cell? ⟨T10, 1, none⟩ = some (.int .i64 1000) := (blk_cell hS 1).trans rfl
  go_simp
  with_reducible rfl
 rotate_left
 ·exact tP
 refine pQ 4 (some 91) (bA 34 31) ?_
 refine pQ 5 (some 92) (bA 34 63) ?_
 refine pQ 6 (some 93) (bA 34 127) ?_
 refine take_ (i := 7) (N := some 94) (v := ?_) (a' := ?_) (bA 34 255) rfl rfl (take_ofW HT_.out HW_.out (by kernel_rfl)) (fun _ _ _ h => h) (Or.inl ⟨by rfl, ?_⟩) hHeld ?_ ?_
 rotate_left
 ·rintro w' ⟨hS, hR⟩
  have s0 : w'.cell? ⟨T10, 0, none⟩ = some (.int .i64 1000) := (blk_cell hS 0).trans rfl
  go_simp
  with_reducible rfl
 rotate_left
 ·exact tP
 refine one_ (i := 8) (N := some 95) (bA 34 511) rfl rfl (one_of HT_.out (by kernel_rfl)) (by decide) (fun K hK => ?_)
 refine goes_ Tryz.func239 (by kernel_rfl) rfl #[.int .i64 1000] (by (try simp only [Array.map_toArray, List.map_toArray, List.map_cons, List.map_nil]); rfl) rfl rfl (by (try simp only [List.map_toArray, List.map_cons, List.map_nil]); first | done | rfl) ?_
 refine (spare_ok 1000 (by kernel_rfl) _).mono ?_
 rintro e w9 ⟨rfl, hb⟩
 refine ⟨_, rfl, ?_⟩
 have HB9 := Sd.mk (below_then HB8.out HB8.out.size hb)
 have HC9 := Sd.mk (HC8.out.below hb)
 have hh := And.intro (blk_below hHeld.1 hb) (blk_below hHeld.2 hb)
 clear hb hHeld HB8 HC8
 refine hK.out _ _ hh (fun hHeld => ?_)
 clear hK K hh
 refine norm_ (a' := ?_) ?_ ?_
 rotate_left
 ·show Act.put _ (some 95) _ = _
  exact tP
 refine pQ 9 (some 96) (bA 34 1023) ?_
 refine pQ 10 (some 97) (bA 34 2047) ?_
 refine pQ 11 (some 98) (bA 34 4095) ?_
 refine pQ 12 (some 99) (bA 34 8191) ?_
 refine take_ (i := 13) (N := some 100) (v := ?_) (a' := ?_) (bA 34 16383) rfl rfl (take_ofW HT_.out HW_.out (by kernel_rfl)) (fun _ _ _ h => h) (Or.inl ⟨by rfl, ?_⟩) hHeld ?_ ?_
 rotate_left
 ·rintro w' ⟨hS, hR⟩
  have s0 : w'.cell? ⟨T10, 1, none⟩ = some (.int .i64 1000) := (blk_cell hS 1).trans rfl
  go_simp
  with_reducible rfl
 rotate_left
 ·exact tP
 refine one_ (i := 14) (N := some 101) (bA 34 32767) rfl rfl (one_of HT_.out (by kernel_rfl)) (by decide) (fun K hK => ?_)
 refine goes_ Tryz.func239 (by kernel_rfl) rfl #[.int .i64 1000] (by (try simp only [Array.map_toArray, List.map_toArray, List.map_cons, List.map_nil]); rfl) rfl rfl (by (try simp only [List.map_toArray, List.map_cons, List.map_nil]); first | done | rfl) ?_
 refine (spare_ok 1000 (by kernel_rfl) _).mono ?_
 rintro e w10 ⟨rfl, hb⟩
 refine ⟨_, rfl, ?_⟩
 have HB10 := Sd.mk (below_then HB9.out HB9.out.size hb)
 have HC10 := Sd.mk (HC9.out.below hb)
 have hh := And.intro (blk_below hHeld.1 hb) (blk_below hHeld.2 hb)
 clear hb hHeld HB9 HC9
 refine hK.out _ _ hh (fun hHeld => ?_)
 clear hK K hh
 refine norm_ (a' := ?_) ?_ ?_
 rotate_left
 ·show Act.put _ (some 101) _ = _
  exact tP
 refine pQ 15 (some 102) (bA 34 65535) ?_
 refine pQ 16 (some 103) (bA 34 131071) ?_
 refine pQ 17 (some 104) (bA 34 262143) ?_
 refine pQ 18 (some 105) (bA 34 524287) ?_
 refine pQ 19 (some 106) (bA 34 1048575) ?_
 refine pQ 20 (some 107) (bA 34 2097151) ?_
 refine pure_ (i := 21) (N := some 108) (v := undef) (a' := ?_) (bA 34 4194303) rfl rfl (any_of HT_.out (by kernel_rfl)) (fun _ _ _ h => h) (Or.inr ⟨by rfl, rfl⟩) ?_ ?_
 rotate_left
 ·exact tP
 refine pure_ (i := 22) (N := some 109) (v := undef) (a' := ?_) (bA 34 8388607) rfl rfl (any_of HT_.out (by kernel_rfl)) (fun _ _ _ h => h) (Or.inr ⟨by rfl, rfl⟩) ?_ ?_
 rotate_left
 ·exact tP
 refine pure_ (i := 23) (N := some 110) (v := undef) (a' := ?_) (bA 34 16777215) rfl rfl (any_of HT_.out (by kernel_rfl)) (fun _ _ _ h => h) (Or.inr ⟨by rfl, rfl⟩) ?_ ?_
 rotate_left
 ·exact tP
 refine pure_ (i := 24) (N := some 111) (v := undef) (a' := ?_) (bA 34 33554431) rfl rfl (any_of HT_.out (by kernel_rfl)) (fun _ _ _ h => h) (Or.inr ⟨by rfl, rfl⟩) ?_ ?_
 rotate_left
 ·exact tP
 refine pure_ (i := 25) (N := some 112) (v := undef) (a' := ?_) (bA 34 67108863) rfl rfl (any_of HT_.out (by kernel_rfl)) (fun _ _ _ h => h) (Or.inr ⟨by rfl, rfl⟩) ?_ ?_
 rotate_left
 ·exact tP
 refine pure_ (i := 26) (N := some 113) (v := undef) (a' := ?_) (bA 34 134217727) rfl rfl (any_of HT_.out (by kernel_rfl)) (fun _ _ _ h => h) (Or.inr ⟨by rfl, rfl⟩) ?_ ?_
 rotate_left
 ·exact tP
 refine pure_ (i := 27) (N := some 114) (v := undef) (a' := ?_) (bA 34 268435455) rfl rfl (any_of HT_.out (by kernel_rfl)) (fun _ _ _ h => h) (Or.inr ⟨by rfl, rfl⟩) ?_ ?_
 rotate_left
 ·exact tP
 refine pure_ (i := 28) (N := some 115) (v := undef) (a' := ?_) (bA 34 536870911) rfl rfl (any_of HT_.out (by kernel_rfl)) (fun _ _ _ h => h) (Or.inr ⟨by rfl, rfl⟩) ?_ ?_
 rotate_left
 ·exact tP
 refine pure_ (i := 29) (N := some 116) (v := undef) (a' := ?_) (bA 34 1073741823) rfl rfl (any_of HT_.out (by kernel_rfl)) (fun _ _ _ h => h) (Or.inr ⟨by rfl, rfl⟩) ?_ ?_
 rotate_left
 ·exact tP
 refine pure_ (i := 30) (N := some 117) (v := undef) (a' := ?_) (bA 34 2147483647) rfl rfl (any_of HT_.out (by kernel_rfl)) (fun _ _ _ h => h) (Or.inr ⟨by rfl, rfl⟩) ?_ ?_
 rotate_left
 ·exact tP
 refine pure_ (i := 31) (N := some 118) (v := undef) (a' := ?_) (bA 34 4294967295) rfl rfl (any_of HT_.out (by kernel_rfl)) (fun _ _ _ h => h) (Or.inr ⟨by rfl, rfl⟩) ?_ ?_
 rotate_left
 ·exact tP
 refine pQ 32 (some 119) (bA 34 8589934591) ?_
 refine pQ 33 (some 120) (bA 34 17179869183) ?_
 refine done_ (done_of HT_.out (by kernel_rfl)) ?_
 clear HT_ HW_ hHeld
 go_upto_region 20 with (fail)
 rw [rounds_succ]
 go_upto_region 21 with (fail)
 rw [rounds_succ]
 go_wp2
 go_ret
 exact ⟨rfl, HB10.out⟩
end
section
attribute [local go_sem] Oper.semAt_some
def ckbT : Bool × List (List Nat × List Nat) := (true, [([], []), ([0], [0]), ([1], [1]), ([2], [2]), ([3], [3]), ([4], [4]), ([5, 4], [4, 5]), ([6, 4], [4, 6]), ([4], [4]), ([8, 4], [4, 8]), ([9, 4], [4, 9]), ([7, 10, 4], [4, 7, 10]), ([4, 11], [4, 11]), ([12, 4], [12]), ([13], [13]), ([14, 13], [13, 14]), ([15, 13], [13, 15]), ([16, 13], [13, 16]), ([13, 17], [13, 17]), ([], []), ([19], [19]), ([20], [20]), ([21], [21]), ([22, 13], [22]), ([23], [23]), ([24, 23], [23, 24]), ([25, 23], [23, 25]), ([23], [23]), ([27, 23], [23, 27]), ([28, 23], [23, 28]), ([26, 29, 23], [23, 26, 29]), ([23, 30], [23, 30]), ([31, 23], [31]), ([32], [32]), ([33, 32], [32, 33]), ([34, 32], [32, 34]), ([35, 32], [32, 35]), ([32, 36], [32, 36]), ([], []), ([38], [38]), ([39], [39]), ([40], [40]), ([41, 32], [41]), ([42], [42]), ([43, 42], [42, 43]), ([44, 42], [42, 44]), ([42], [42]), ([46, 42], [42, 46]), ([47, 42], [42, 47]), ([45, 48, 42], [42, 45, 48]), ([42, 49], [42, 49]), ([50, 42], [50]), ([51], [51]), ([52, 51], [51, 52]), ([53, 51], [51, 53]), ([54, 51], [51, 54]), ([51, 55], [51, 55]), ([], []), ([57], [57]), ([58, 51], [58]), ([59, 59], [59]), ([60], [60]), ([61, 60], [60, 61]), ([62, 60, 60], [60, 62]), ([60, 63], [60, 63]), ([64, 63], [64]), ([65], [65]), ([66, 65], [65, 66]), ([67, 65, 65], [65, 67]), ([65, 68], [65, 68]), ([18, 37, 56, 69], [18, 37, 56, 69]), ([70], [70]), ([], [])])
def ckbB : List Nat := [0, 1, 3, 7, 15, 31, 63, 127, 31, 287, 799, 2047, 4095, 8191, 16383, 32767, 65535, 131071, 262143, 0, 524288, 1572864, 3670016, 7880703, 16269311, 33046527, 66600959, 16269311, 150487039, 418922495, 1073233919, 2146975743, 4294459391, 8589426687, 17179361279, 34359230463, 68718968831, 137438445567, 0, 274877906944, 824633720832, 1924145348608, 4131758030847, 8529804541951, 17325897564159, 34918083608575, 8529804541951, 78898548719615, 219636037074943, 562683664941055, 1125633618362367, 2251533525204991, 4503333338890239, 9006932966260735, 18014132221001727, 36028530730483711, 72057327749447679, 0, 144115188075855872, 436848897566457855, 1013309649869881343, 2166231154476728319, 4472074163690422271, 9083760182117810175, 18307132218972585983, 36753876292682137599, 73647364440101240831, 147434340734939447295, 295008293324615860223, 590156198503968686079, 1180591620717411303423, 2361183241434822606847, 0]
theorem ckb_tab : rtab .any (opsOf Tryz.f218 1) = ckbT := by kernel_rfl
theorem ckb_bits : waitsOk ckbT.2 ckbB = true := by kernel_rfl
theorem checkLoop_calls (w : World) : Calls Tryz.prog 218 #[.agg #[.int .i64 995, .int .i64 1005, .int .i64 3, .int .i64 4, .int .i64 0, .int .i64 10, .int .i64 1, .int .i64 2, .int .i64 1]] w fun e w' => e = .returned (.int .i64 0) ∧ Below w.heap.size w w' := by
 have HB := Sd.mk (below_alloc (Below.refl w.heap.size w) (.cells #[.int .i64 995, .int .i64 1005, .int .i64 3, .int .i64 4, .int .i64 0, .int .i64 10, .int .i64 1, .int .i64 2, .int .i64 1] 120))
 have HX := Sd.mk (blk_new w (.cells #[.int .i64 995, .int .i64 1005, .int .i64 3, .int .i64 4, .int .i64 0, .int .i64 10, .int .i64 1, .int .i64 2, .int .i64 1] 120))
 go_enter Tryz.func218, Tryz.ntmps218
 go_upto_region 1 with (fail)
 generalize w.alloc (.cells #[.int .i64 995, .int .i64 1005, .int .i64 3, .int .i64 4, .int .i64 0, .int .i64 10, .int .i64 1, .int .i64 2, .int .i64 1] 120) = w1 at HB HX ⊢
 refine start_ (n := 73) (S := fun w' => w'.heap[w.heap.size]? = some (.cells #[.int .i64 995, .int .i64 1005, .int .i64 3, .int .i64 4, .int .i64 0, .int .i64 10, .int .i64 1, .int .i64 2, .int .i64 1] 120 (0, 0))) (ds := []) (bA 73 0) (by kernel_rfl) rfl rfl HX.out (fun hHeld => ?_); refine with_tabW ckb_tab ckb_bits (fun HT_ HW_ => ?_)
 have HB1 := Sd.mk (below_drew1 HB.out)
 clear HB HX
 generalize w1.drew = w2 at HB1 hHeld ⊢
 refine pQ 0 (some 5) (bA 73 1) ?_
 refine pQ 1 (some 6) (bA 73 3) ?_
 refine take_ (i := 2) (N := some 7) (v := ?_) (a' := ?_) (bA 73 7) rfl rfl (take_ofW HT_.out HW_.out (by kernel_rfl)) (fun _ _ _ h => h) (Or.inl ⟨by rfl, ?_⟩) hHeld ?_ ?_
 rotate_left
 ·rintro w' hx
  have s0 : w'.cell? ⟨w.heap.size, 0, none⟩ = some (.int .i64 995) := (blk_cell hx 0).trans rfl
  go_simp
  with_reducible rfl
 rotate_left
 ·exact tP
 refine pQ 3 (some 8) (bA 73 15) ?_
 refine pQ 4 (some 9) (bA 73 31) ?_
 refine pQ 5 (some 10) (bA 73 63) ?_
 refine pQ 6 (some 11) (bA 73 127) ?_
 refine take_ (i := 7) (N := some 12) (v := ?_) (a' := ?_) (bA 73 255) rfl rfl (take_ofW HT_.out HW_.out (by kernel_rfl)) (fun _ _ _ h => h) (Or.inl ⟨by rfl, ?_⟩) hHeld ?_ ?_
 rotate_left
 ·rintro w' hx
  have s0 : w'.cell? ⟨w.heap.size, 0, none⟩ = some (.int .i64 995) := (blk_cell hx 0).trans rfl
  go_simp
  with_reducible rfl
 rotate_left
 ·exact tP
 refine pQ 8 (some 13) (bA 73 511) ?_
 refine pQ 9 (some 14) (bA 73 1023) ?_
 refine take_ (i := 10) (N := some 15) (v := ?_) (a' := ?_) (bA 73 2047) rfl rfl (take_ofW HT_.out HW_.out (by kernel_rfl)) (fun _ _ _ h => h) (Or.inl ⟨by rfl, ?_⟩) hHeld ?_ ?_
 rotate_left
 ·rintro w' hx
  have s0 : w'.cell? ⟨w.heap.size, 1, none⟩ = some (.int .i64 1005) := (blk_cell hx 1).trans rfl
  go_simp
  with_reducible rfl
 rotate_left
 ·exact tP
 refine pQ 11 (some 16) (bA 73 4095) ?_
 refine pQ 12 (some 17) (bA 73 8191) ?_
 refine pQ 13 (some 18) (bA 73 16383) ?_
 refine pQ 14 (some 19) (bA 73 32767) ?_
 refine pQ 15 (some 20) (bA 73 65535) ?_
 refine take_ (i := 16) (N := some 21) (v := ?_) (a' := ?_) (bA 73 131071) rfl rfl (take_ofW HT_.out HW_.out (by kernel_rfl)) (fun _ _ _ h => h) (Or.inl ⟨by rfl, ?_⟩) hHeld ?_ ?_
 rotate_left
 ·rintro w' hx
  have s0 : w'.cell? ⟨w.heap.size, 1, none⟩ = some (.int .i64 1005) := (blk_cell hx 1).trans rfl
  go_simp
  with_reducible rfl
 rotate_left
 ·exact tP
 refine pQ 17 (some 22) (bA 73 262143) ?_
 refine pQ 18 (some 23) (bA 73 524287) ?_
 refine pQ 19 (some 24) (bA 73 1048575) ?_
 refine pQ 20 (some 25) (bA 73 2097151) ?_
 refine take_ (i := 21) (N := some 26) (v := ?_) (a' := ?_) (bA 73 4194303) rfl rfl (take_ofW HT_.out HW_.out (by kernel_rfl)) (fun _ _ _ h => h) (Or.inl ⟨by rfl, ?_⟩) hHeld ?_ ?_
 rotate_left
 ·rintro w' hx
  have s0 : w'.cell? ⟨w.heap.size, 2, none⟩ = some (.int .i64 3) := (blk_cell hx 2).trans rfl
  go_simp
  with_reducible rfl
 rotate_left
 ·exact tP
 refine pQ 22 (some 27) (bA 73 8388607) ?_
 refine pQ 23 (some 28) (bA 73 16777215) ?_
 refine pQ 24 (some 29) (bA 73 33554431) ?_
 refine pQ 25 (some 30) (bA 73 67108863) ?_
 refine take_ (i := 26) (N := some 31) (v := ?_) (a' := ?_) (bA 73 134217727) rfl rfl (take_ofW HT_.out HW_.out (by kernel_rfl)) (fun _ _ _ h => h) (Or.inl ⟨by rfl, ?_⟩) hHeld ?_ ?_
 rotate_left
 ·rintro w' hx
  have s0 : w'.cell? ⟨w.heap.size, 2, none⟩ = some (.int .i64 3) := (blk_cell hx 2).trans rfl
  go_simp
  with_reducible rfl
 rotate_left
 ·exact tP
 refine pQ 27 (some 32) (bA 73 268435455) ?_
 refine pQ 28 (some 33) (bA 73 536870911) ?_
 refine take_ (i := 29) (N := some 34) (v := ?_) (a' := ?_) (bA 73 1073741823) rfl rfl (take_ofW HT_.out HW_.out (by kernel_rfl)) (fun _ _ _ h => h) (Or.inl ⟨by rfl, ?_⟩) hHeld ?_ ?_
 rotate_left
 ·rintro w' hx
  have s0 : w'.cell? ⟨w.heap.size, 3, none⟩ = some (.int .i64 4) := (blk_cell hx 3).trans rfl
  go_simp
  with_reducible rfl
 rotate_left
 ·exact tP
 refine pQ 30 (some 35) (bA 73 2147483647) ?_
 refine pQ 31 (some 36) (bA 73 4294967295) ?_
 refine pQ 32 (some 37) (bA 73 8589934591) ?_
 refine pQ 33 (some 38) (bA 73 17179869183) ?_
 refine pQ 34 (some 39) (bA 73 34359738367) ?_
 refine take_ (i := 35) (N := some 40) (v := ?_) (a' := ?_) (bA 73 68719476735) rfl rfl (take_ofW HT_.out HW_.out (by kernel_rfl)) (fun _ _ _ h => h) (Or.inl ⟨by rfl, ?_⟩) hHeld ?_ ?_
 rotate_left
 ·rintro w' hx
  have s0 : w'.cell? ⟨w.heap.size, 3, none⟩ = some (.int .i64 4) := (blk_cell hx 3).trans rfl
  go_simp
  with_reducible rfl
 rotate_left
 ·exact tP
 refine pQ 36 (some 41) (bA 73 137438953471) ?_
 refine pQ 37 (some 42) (bA 73 274877906943) ?_
 refine pQ 38 (some 43) (bA 73 549755813887) ?_
 refine pQ 39 (some 44) (bA 73 1099511627775) ?_
 refine take_ (i := 40) (N := some 45) (v := ?_) (a' := ?_) (bA 73 2199023255551) rfl rfl (take_ofW HT_.out HW_.out (by kernel_rfl)) (fun _ _ _ h => h) (Or.inl ⟨by rfl, ?_⟩) hHeld ?_ ?_
 rotate_left
 ·rintro w' hx
  have s0 : w'.cell? ⟨w.heap.size, 4, none⟩ = some (.int .i64 0) := (blk_cell hx 4).trans rfl
  go_simp
  with_reducible rfl
 rotate_left
 ·exact tP
 refine pQ 41 (some 46) (bA 73 4398046511103) ?_
 refine pQ 42 (some 47) (bA 73 8796093022207) ?_
 refine pQ 43 (some 48) (bA 73 17592186044415) ?_
 refine pQ 44 (some 49) (bA 73 35184372088831) ?_
 refine take_ (i := 45) (N := some 50) (v := ?_) (a' := ?_) (bA 73 70368744177663) rfl rfl (take_ofW HT_.out HW_.out (by kernel_rfl)) (fun _ _ _ h => h) (Or.inl ⟨by rfl, ?_⟩) hHeld ?_ ?_
 rotate_left
 ·rintro w' hx
  have s0 : w'.cell? ⟨w.heap.size, 4, none⟩ = some (.int .i64 0) := (blk_cell hx 4).trans rfl
  go_simp
  with_reducible rfl
 rotate_left
 ·exact tP
 refine pQ 46 (some 51) (bA 73 140737488355327) ?_
 refine pQ 47 (some 52) (bA 73 281474976710655) ?_
 refine take_ (i := 48) (N := some 53) (v := ?_) (a' := ?_) (bA 73 562949953421311) rfl rfl (take_ofW HT_.out HW_.out (by kernel_rfl)) (fun _ _ _ h => h) (Or.inl ⟨by rfl, ?_⟩) hHeld ?_ ?_
 rotate_left
 ·rintro w' hx
  have s0 : w'.cell? ⟨w.heap.size, 5, none⟩ = some (.int .i64 10) := (blk_cell hx 5).trans rfl
  go_simp
  with_reducible rfl
 rotate_left
 ·exact tP
 refine pQ 49 (some 54) (bA 73 1125899906842623) ?_
 refine pQ 50 (some 55) (bA 73 2251799813685247) ?_
 refine pQ 51 (some 56) (bA 73 4503599627370495) ?_
 refine pQ 52 (some 57) (bA 73 9007199254740991) ?_
 refine pQ 53 (some 58) (bA 73 18014398509481983) ?_
 refine take_ (i := 54) (N := some 59) (v := ?_) (a' := ?_) (bA 73 36028797018963967) rfl rfl (take_ofW HT_.out HW_.out (by kernel_rfl)) (fun _ _ _ h => h) (Or.inl ⟨by rfl, ?_⟩) hHeld ?_ ?_
 rotate_left
 ·rintro w' hx
  have s0 : w'.cell? ⟨w.heap.size, 5, none⟩ = some (.int .i64 10) := (blk_cell hx 5).trans rfl
  go_simp
  with_reducible rfl
 rotate_left
 ·exact tP
 refine pQ 55 (some 60) (bA 73 72057594037927935) ?_
 refine pQ 56 (some 61) (bA 73 144115188075855871) ?_
 refine pQ 57 (some 62) (bA 73 288230376151711743) ?_
 refine take_ (i := 58) (N := some 63) (v := ?_) (a' := ?_) (bA 73 576460752303423487) rfl rfl (take_ofW HT_.out HW_.out (by kernel_rfl)) (fun _ _ _ h => h) (Or.inl ⟨by rfl, ?_⟩) hHeld ?_ ?_
 rotate_left
 ·rintro w' hx
  have s0 : w'.cell? ⟨w.heap.size, 6, none⟩ = some (.int .i64 1) := (blk_cell hx 6).trans rfl
  go_simp
  with_reducible rfl
 rotate_left
 ·exact tP
 refine pQ 72 (some 77) (bA 73 4722942943621948637183) ?_
 refine one_ (i := 59) (N := some 64) (bA 73 4723519404374252060671) rfl rfl (one_of HT_.out (by kernel_rfl)) (by decide) (fun K hK => ?_)
 refine goes_ Tryz.func201 (by kernel_rfl) rfl #[.int .i64 1, .int .i64 0, .int .i64 1000] (by (try simp only [Array.map_toArray, List.map_toArray, List.map_cons, List.map_nil]); rfl) rfl rfl (by (try simp only [List.map_toArray, List.map_cons, List.map_nil]); first | done | rfl) ?_
 refine (within_ok 1 0 1000 (by kernel_rfl) _).mono ?_
 rintro e w3 ⟨rfl, hb⟩
 refine ⟨_, rfl, ?_⟩
 have HB2 := Sd.mk (below_then HB1.out HB1.out.size hb)
 have hh := blk_below hHeld hb
 clear hb hHeld HB1
 refine hK.out _ _ hh (fun hHeld => ?_)
 clear hK K hh
 refine norm_ (a' := ?_) ?_ ?_
 rotate_left
 ·show Act.put _ (some 64) _ = _
  exact tP
 refine pQ 60 (some 65) (bA 73 4724672325878858907647) ?_
 refine pQ 61 (some 66) (bA 73 4726978168888072601599) ?_
 refine take_ (i := 62) (N := some 67) (v := ?_) (a' := ?_) (bA 73 4731589854906499989503) rfl rfl (take_ofW HT_.out HW_.out (by kernel_rfl)) (fun _ _ _ h => h) (Or.inl ⟨by rfl, ?_⟩) hHeld ?_ ?_
 rotate_left
 ·rintro w' hx
  have s0 : w'.cell? ⟨w.heap.size, 7, none⟩ = some (.int .i64 2) := (blk_cell hx 7).trans rfl
  go_simp
  with_reducible rfl
 rotate_left
 ·exact tP
 refine one_ (i := 63) (N := some 68) (bA 73 4740813226943354765311) rfl rfl (one_of HT_.out (by kernel_rfl)) (by decide) (fun K hK => ?_)
 refine goes_ Tryz.func201 (by kernel_rfl) rfl #[.int .i64 2, .int .i64 0, .int .i64 1000] (by (try simp only [Array.map_toArray, List.map_toArray, List.map_cons, List.map_nil]); rfl) rfl rfl (by (try simp only [List.map_toArray, List.map_cons, List.map_nil]); first | done | rfl) ?_
 refine (within_ok 2 0 1000 (by kernel_rfl) _).mono ?_
 rintro e w4 ⟨rfl, hb⟩
 refine ⟨_, rfl, ?_⟩
 have HB3 := Sd.mk (below_then HB2.out HB2.out.size hb)
 have hh := blk_below hHeld hb
 clear hb hHeld HB2
 refine hK.out _ _ hh (fun hHeld => ?_)
 clear hK K hh
 refine norm_ (a' := ?_) ?_ ?_
 rotate_left
 ·show Act.put _ (some 68) _ = _
  exact tP
 refine pQ 64 (some 69) (bA 73 4759259971017064316927) ?_
 refine pQ 65 (some 70) (bA 73 4796153459164483420159) ?_
 refine pQ 66 (some 71) (bA 73 4869940435459321626623) ?_
 refine take_ (i := 67) (N := some 72) (v := ?_) (a' := ?_) (bA 73 5017514388048998039551) rfl rfl (take_ofW HT_.out HW_.out (by kernel_rfl)) (fun _ _ _ h => h) (Or.inl ⟨by rfl, ?_⟩) hHeld ?_ ?_
 rotate_left
 ·rintro w' hx
  have s0 : w'.cell? ⟨w.heap.size, 8, none⟩ = some (.int .i64 1) := (blk_cell hx 8).trans rfl
  go_simp
  with_reducible rfl
 rotate_left
 ·exact tP
 refine one_ (i := 68) (N := some 73) (bA 73 5312662293228350865407) rfl rfl (one_of HT_.out (by kernel_rfl)) (by decide) (fun K hK => ?_)
 refine goes_ Tryz.func201 (by kernel_rfl) rfl #[.int .i64 1, .int .i64 1, .int .i64 20] (by (try simp only [Array.map_toArray, List.map_toArray, List.map_cons, List.map_nil]); rfl) rfl rfl (by (try simp only [List.map_toArray, List.map_cons, List.map_nil]); first | done | rfl) ?_
 refine (within_ok 1 1 20 (by kernel_rfl) _).mono ?_
 rintro e w5 ⟨rfl, hb⟩
 refine ⟨_, rfl, ?_⟩
 have HB4 := Sd.mk (below_then HB3.out HB3.out.size hb)
 have hh := blk_below hHeld hb
 clear hb hHeld HB3
 refine hK.out _ _ hh (fun hHeld => ?_)
 clear hK K hh
 refine norm_ (a' := ?_) ?_ ?_
 rotate_left
 ·show Act.put _ (some 73) _ = _
  exact tP
 refine pQ 69 (some 74) (bA 73 5902958103587056517119) ?_
 refine one_ (i := 70) (N := some 75) (bA 73 7083549724304467820543) rfl rfl (one_of HT_.out (by kernel_rfl)) (by decide) (fun K hK => ?_)
 go_simp
 have BS := Sd.mk (blk_new w5 (.cells #[.bool true, .bool true, .bool true, .bool true] 4))
 have HB5 := Sd.mk (below_alloc HB4.out (.cells #[.bool true, .bool true, .bool true, .bool true] 4))
 have hh := blk_alloc hHeld (.cells #[.bool true, .bool true, .bool true, .bool true] 4)
 clear hHeld HB4
 refine hK.out _ _ hh (fun hHeld => ?_)
 clear hK K hh
 generalize w5.alloc (.cells #[.bool true, .bool true, .bool true, .bool true] 4) = w6 at BS HB5 hHeld ⊢
 generalize w5.heap.size = X at BS ⊢
 refine pQ 71 (some 76) (bA 73 9444732965739290427391) ?_
 refine done_ (done_of HT_.out (by kernel_rfl)) ?_
 clear HT_ HW_ hHeld
 go_upto_region 2 with (fail)
 refine wp_loop_rounds 5 ?_
 have x0 : w6.cell? ⟨X, 0, none⟩ = some (.bool true) := (blk_cell BS.out 0).trans rfl
 have x1 : w6.cell? ⟨X, 1, none⟩ = some (.bool true) := (blk_cell BS.out 1).trans rfl
 have x2 : w6.cell? ⟨X, 2, none⟩ = some (.bool true) := (blk_cell BS.out 2).trans rfl
 have x3 : w6.cell? ⟨X, 3, none⟩ = some (.bool true) := (blk_cell BS.out 3).trans rfl
 rw [rounds_succ]
 go_upto_region 7 with (fail)
 rw [rounds_succ]
 go_upto_region 7 with (fail)
 rw [rounds_succ]
 go_upto_region 7 with (fail)
 rw [rounds_succ]
 go_upto_region 7 with (fail)
 rw [rounds_succ]
 go_wp2
 go_ret
 exact ⟨rfl, HB5.out⟩
end
section
attribute [local go_sem] Oper.semAt_some
theorem asked_calls (A cap : Nat) (g : Addr) (c : Nat) (w : World) (h : CellR w A g c 1000 1000) :
  Calls Tryz.prog 200 #[.agg #[.int .i64 995, .int .i64 1005, .int .i64 3, .int .i64 4, .int .i64 0, .int .i64 10, .int .i64 1, .int .i64 2, .int .i64 1], .slice (some ⟨A, 0, none⟩) 1 cap] w fun e w' => e = .returned (.int .i64 0) ∧ Below w.heap.size w w' := by
 have HB := Sd.mk (below_alloc (Below.refl w.heap.size w) (.cells #[.int .i64 995, .int .i64 1005, .int .i64 3, .int .i64 4, .int .i64 0, .int .i64 10, .int .i64 1, .int .i64 2, .int .i64 1] 120))
 have HX := Sd.mk (blk_new w (.cells #[.int .i64 995, .int .i64 1005, .int .i64 3, .int .i64 4, .int .i64 0, .int .i64 10, .int .i64 1, .int .i64 2, .int .i64 1] 120))
 have HC := Sd.mk (h.below (below_alloc (Below.refl w.heap.size w) (.cells #[.int .i64 995, .int .i64 1005, .int .i64 3, .int .i64 4, .int .i64 0, .int .i64 10, .int .i64 1, .int .i64 2, .int .i64 1] 120)))
 clear h
 go_enter Tryz.func200, Tryz.ntmps200
 go_upto_region 1 with (fail)
 generalize w.alloc (.cells #[.int .i64 995, .int .i64 1005, .int .i64 3, .int .i64 4, .int .i64 0, .int .i64 10, .int .i64 1, .int .i64 2, .int .i64 1] 120) = w1 at HB HX HC ⊢
 have l0 : w1.cell? ⟨w.heap.size, 0, none⟩ = some (.int .i64 995) := (blk_cell HX.out 0).trans rfl
 have l1 : w1.cell? ⟨w.heap.size, 0 + 1, none⟩ = some (.int .i64 1005) := (blk_cell HX.out 1).trans rfl
 have l2 : w1.cell? ⟨w.heap.size, 0 + 2, none⟩ = some (.int .i64 3) := (blk_cell HX.out 2).trans rfl
 have l3 : w1.cell? ⟨w.heap.size, 0 + 3, none⟩ = some (.int .i64 4) := (blk_cell HX.out 3).trans rfl
 have l4 : w1.cell? ⟨w.heap.size, 0 + 4, none⟩ = some (.int .i64 0) := (blk_cell HX.out 4).trans rfl
 have l5 : w1.cell? ⟨w.heap.size, 0 + 5, none⟩ = some (.int .i64 10) := (blk_cell HX.out 5).trans rfl
 have l6 : w1.cell? ⟨w.heap.size, 0 + 6, none⟩ = some (.int .i64 1) := (blk_cell HX.out 6).trans rfl
 have l7 : w1.cell? ⟨w.heap.size, 0 + 7, none⟩ = some (.int .i64 2) := (blk_cell HX.out 7).trans rfl
 have l8 : w1.cell? ⟨w.heap.size, 0 + 8, none⟩ = some (.int .i64 1) := (blk_cell HX.out 8).trans rfl
 go_upto_region 2 with (go_at_call 218; refine (checkLoop_calls _).mono ?_; rintro e w2 ⟨rfl, hb⟩; have HB2 := Sd.mk (below_then HB.out HB.out.size hb); have HX2 := Sd.mk (blk_below HX.out hb); have HC2 := Sd.mk (HC.out.below hb); clear hb)
 clear l0 l1 l2 l3 l4 l5 l6 l7 l8
 go_upto_region 4 with (fail)
 have l0 : w2.cell? ⟨w.heap.size, 0, none⟩ = some (.int .i64 995) := (blk_cell HX2.out 0).trans rfl
 have l1 : w2.cell? ⟨w.heap.size, 0 + 1, none⟩ = some (.int .i64 1005) := (blk_cell HX2.out 1).trans rfl
 have l2 : w2.cell? ⟨w.heap.size, 0 + 2, none⟩ = some (.int .i64 3) := (blk_cell HX2.out 2).trans rfl
 have l3 : w2.cell? ⟨w.heap.size, 0 + 3, none⟩ = some (.int .i64 4) := (blk_cell HX2.out 3).trans rfl
 have l4 : w2.cell? ⟨w.heap.size, 0 + 4, none⟩ = some (.int .i64 0) := (blk_cell HX2.out 4).trans rfl
 have l5 : w2.cell? ⟨w.heap.size, 0 + 5, none⟩ = some (.int .i64 10) := (blk_cell HX2.out 5).trans rfl
 have l6 : w2.cell? ⟨w.heap.size, 0 + 6, none⟩ = some (.int .i64 1) := (blk_cell HX2.out 6).trans rfl
 have l7 : w2.cell? ⟨w.heap.size, 0 + 7, none⟩ = some (.int .i64 2) := (blk_cell HX2.out 7).trans rfl
 have l8 : w2.cell? ⟨w.heap.size, 0 + 8, none⟩ = some (.int .i64 1) := (blk_cell HX2.out 8).trans rfl
 go_wp2_with (go_at_call 219; refine (checkCells_calls A cap g c _ HC2.out).mono ?_; rintro e w3 ⟨rfl, hb⟩; have HB3 := Sd.mk (below_then HB2.out HB2.out.size hb); clear hb)
 go_ret
 exact ⟨rfl, HB3.out⟩
theorem none_ok (v : Value) (w : World) : Calls Tryz.prog 202 #[v, .int .i64 0] w fun e w' => e = .returned (.tuple #[v, .int .i64 0]) ∧ w' = w := by
 go_enter Tryz.func202, Tryz.ntmps202
 go_wp2
 refine bodyPost_ret (results_tmp2 rfl _ _ _) rfl ?_
 exact ⟨rfl, rfl⟩
theorem Reach_calls (A cap : Nat) (g : Addr) (c : Nat) (w : World) (h : CellR w A g c 1000 1000) :
  Calls Tryz.prog 161 #[.agg #[.int .i64 995, .int .i64 1005, .int .i64 3, .int .i64 4, .int .i64 0, .int .i64 10, .int .i64 1, .int .i64 2, .int .i64 1], .slice (some ⟨A, 0, none⟩) 1 cap, .int .i64 1] w fun e w' => ∃ A' cap', e = .returned (.tuple #[.slice (some ⟨A', 0, none⟩) 1 cap', .int .i64 0]) ∧ Kd.R k180 180 w' w.heap.size (fun _ => True) (.slice (some ⟨A', 0, none⟩) 1 cap') [⟨0, 5, [⟨999, 1001⟩]⟩] ∧ Below w.heap.size w w' := by
 have HB := Sd.mk (below_alloc (Below.refl w.heap.size w) (.cells #[.int .i64 995, .int .i64 1005, .int .i64 3, .int .i64 4, .int .i64 0, .int .i64 10, .int .i64 1, .int .i64 2, .int .i64 1] 120))
 have HX := Sd.mk (blk_new w (.cells #[.int .i64 995, .int .i64 1005, .int .i64 3, .int .i64 4, .int .i64 0, .int .i64 10, .int .i64 1, .int .i64 2, .int .i64 1] 120))
 have HC := Sd.mk (h.below (below_alloc (Below.refl w.heap.size w) (.cells #[.int .i64 995, .int .i64 1005, .int .i64 3, .int .i64 4, .int .i64 0, .int .i64 10, .int .i64 1, .int .i64 2, .int .i64 1] 120)))
 clear h
 go_enter Tryz.func161, Tryz.ntmps161
 go_upto_region 1 with (fail)
 generalize w.alloc (.cells #[.int .i64 995, .int .i64 1005, .int .i64 3, .int .i64 4, .int .i64 0, .int .i64 10, .int .i64 1, .int .i64 2, .int .i64 1] 120) = w1 at HB HX HC ⊢
 have l0 : w1.cell? ⟨w.heap.size, 0, none⟩ = some (.int .i64 995) := (blk_cell HX.out 0).trans rfl
 have l1 : w1.cell? ⟨w.heap.size, 0 + 1, none⟩ = some (.int .i64 1005) := (blk_cell HX.out 1).trans rfl
 have l2 : w1.cell? ⟨w.heap.size, 0 + 2, none⟩ = some (.int .i64 3) := (blk_cell HX.out 2).trans rfl
 have l3 : w1.cell? ⟨w.heap.size, 0 + 3, none⟩ = some (.int .i64 4) := (blk_cell HX.out 3).trans rfl
 have l4 : w1.cell? ⟨w.heap.size, 0 + 4, none⟩ = some (.int .i64 0) := (blk_cell HX.out 4).trans rfl
 have l5 : w1.cell? ⟨w.heap.size, 0 + 5, none⟩ = some (.int .i64 10) := (blk_cell HX.out 5).trans rfl
 have l6 : w1.cell? ⟨w.heap.size, 0 + 6, none⟩ = some (.int .i64 1) := (blk_cell HX.out 6).trans rfl
 have l7 : w1.cell? ⟨w.heap.size, 0 + 7, none⟩ = some (.int .i64 2) := (blk_cell HX.out 7).trans rfl
 have l8 : w1.cell? ⟨w.heap.size, 0 + 8, none⟩ = some (.int .i64 1) := (blk_cell HX.out 8).trans rfl
 go_upto_region 2 with (go_at_call 200; refine (asked_calls A cap g c _ HC.out).mono ?_; rintro e w2 ⟨rfl, hb⟩; have HB2 := Sd.mk (below_then HB.out HB.out.size hb); have HX2 := Sd.mk (blk_below HX.out hb); have HC2 := Sd.mk (HC.out.below hb); clear hb)
 clear l0 l1 l2 l3 l4 l5 l6 l7 l8
 go_upto_region 6 with (go_at_call 201; refine (within_ok 1 0 1000 (by kernel_rfl) _).mono ?_; rintro e w3 ⟨rfl, hb⟩; have HB3 := Sd.mk (below_then HB2.out HB2.out.size hb); have HX3 := Sd.mk (blk_below HX2.out hb); have HC3 := Sd.mk (HC2.out.below hb); clear hb)
 have l0 : w3.cell? ⟨w.heap.size, 0, none⟩ = some (.int .i64 995) := (blk_cell HX3.out 0).trans rfl
 have l1 : w3.cell? ⟨w.heap.size, 0 + 1, none⟩ = some (.int .i64 1005) := (blk_cell HX3.out 1).trans rfl
 have l2 : w3.cell? ⟨w.heap.size, 0 + 2, none⟩ = some (.int .i64 3) := (blk_cell HX3.out 2).trans rfl
 have l3 : w3.cell? ⟨w.heap.size, 0 + 3, none⟩ = some (.int .i64 4) := (blk_cell HX3.out 3).trans rfl
 have l4 : w3.cell? ⟨w.heap.size, 0 + 4, none⟩ = some (.int .i64 0) := (blk_cell HX3.out 4).trans rfl
 have l5 : w3.cell? ⟨w.heap.size, 0 + 5, none⟩ = some (.int .i64 10) := (blk_cell HX3.out 5).trans rfl
 have l6 : w3.cell? ⟨w.heap.size, 0 + 6, none⟩ = some (.int .i64 1) := (blk_cell HX3.out 6).trans rfl
 have l7 : w3.cell? ⟨w.heap.size, 0 + 7, none⟩ = some (.int .i64 2) := (blk_cell HX3.out 7).trans rfl
 have l8 : w3.cell? ⟨w.heap.size, 0 + 8, none⟩ = some (.int .i64 1) := (blk_cell HX3.out 8).trans rfl
 go_wp2_with (first | (go_at_call 203; refine (reach_calls A cap g c _ HC3.out).mono ?_; rintro e w4 ⟨A4, k4, rfl, hr, hb⟩; have HB4 := Sd.mk (below_then HB3.out HB3.out.size hb); have HR4 := Sd.mk (Kd.R_lower hr HB3.out.size); clear hb hr) | (go_at_call 202; refine (none_ok _ _).mono ?_; rintro e w5 ⟨rfl, rfl⟩))
 refine bodyPost_ret (results_tmp2 rfl _ _ _) rfl ?_
 exact ⟨A4, k4, rfl, HR4.out, HB4.out⟩
theorem Next_calls (A cap : Nat) (g : Addr) (c : Nat) (w : World) (h : CellR w A g c 1000 1000) :
  Calls Tryz.prog 80 #[.agg #[.int .i64 995, .int .i64 1005, .int .i64 3, .int .i64 4, .int .i64 0, .int .i64 10, .int .i64 1, .int .i64 2, .int .i64 1], .slice (some ⟨A, 0, none⟩) 1 cap] w fun e w' => ∃ A' cap', e = .returned (.tuple #[.slice (some ⟨A', 0, none⟩) 1 cap', .int .i64 0]) ∧ Kd.R k180 180 w' w.heap.size (fun _ => True) (.slice (some ⟨A', 0, none⟩) 1 cap') [⟨0, 5, [⟨999, 1001⟩]⟩] ∧ Below w.heap.size w w' := by
 have HB := Sd.mk (below_alloc (Below.refl w.heap.size w) (.cells #[.int .i64 995, .int .i64 1005, .int .i64 3, .int .i64 4, .int .i64 0, .int .i64 10, .int .i64 1, .int .i64 2, .int .i64 1] 120))
 have HX := Sd.mk (blk_new w (.cells #[.int .i64 995, .int .i64 1005, .int .i64 3, .int .i64 4, .int .i64 0, .int .i64 10, .int .i64 1, .int .i64 2, .int .i64 1] 120))
 have HC := Sd.mk (h.below (below_alloc (Below.refl w.heap.size w) (.cells #[.int .i64 995, .int .i64 1005, .int .i64 3, .int .i64 4, .int .i64 0, .int .i64 10, .int .i64 1, .int .i64 2, .int .i64 1] 120)))
 clear h
 go_enter Tryz.func80, Tryz.ntmps80
 go_upto_region 1 with (fail)
 generalize w.alloc (.cells #[.int .i64 995, .int .i64 1005, .int .i64 3, .int .i64 4, .int .i64 0, .int .i64 10, .int .i64 1, .int .i64 2, .int .i64 1] 120) = w1 at HB HX HC ⊢
 have l0 : w1.cell? ⟨w.heap.size, 0, none⟩ = some (.int .i64 995) := (blk_cell HX.out 0).trans rfl
 have l1 : w1.cell? ⟨w.heap.size, 0 + 1, none⟩ = some (.int .i64 1005) := (blk_cell HX.out 1).trans rfl
 have l2 : w1.cell? ⟨w.heap.size, 0 + 2, none⟩ = some (.int .i64 3) := (blk_cell HX.out 2).trans rfl
 have l3 : w1.cell? ⟨w.heap.size, 0 + 3, none⟩ = some (.int .i64 4) := (blk_cell HX.out 3).trans rfl
 have l4 : w1.cell? ⟨w.heap.size, 0 + 4, none⟩ = some (.int .i64 0) := (blk_cell HX.out 4).trans rfl
 have l5 : w1.cell? ⟨w.heap.size, 0 + 5, none⟩ = some (.int .i64 10) := (blk_cell HX.out 5).trans rfl
 have l6 : w1.cell? ⟨w.heap.size, 0 + 6, none⟩ = some (.int .i64 1) := (blk_cell HX.out 6).trans rfl
 have l7 : w1.cell? ⟨w.heap.size, 0 + 7, none⟩ = some (.int .i64 2) := (blk_cell HX.out 7).trans rfl
 have l8 : w1.cell? ⟨w.heap.size, 0 + 8, none⟩ = some (.int .i64 1) := (blk_cell HX.out 8).trans rfl
 go_wp2_with (go_at_call 161; refine (Reach_calls A cap g c _ HC.out).mono ?_; rintro e w4 ⟨A4, k4, rfl, hr, hb⟩; have HB4 := Sd.mk (below_then HB.out HB.out.size hb); have HR4 := Sd.mk (Kd.R_lower hr HB.out.size); clear hb hr)
 refine bodyPost_ret (results_tmp2 rfl _ _ _) rfl ?_
 exact ⟨A4, k4, rfl, HR4.out, HB4.out⟩
end
section
open Go.RowKit Go.Proofs.YtljfljekcpdpiaaGreatW.PrintWords Go.Proofs.YtljfljekcpdpiaaGreatW.PrintLast Go.Proofs.YtljfljekcpdpiaaGreatW.PrintMore
def culletlaw03_Example.f  : Option (Int × Int × Int × Int × Int × Int × Int × Int × Int) := some (995, 1005, 3, 4, 0, 10, 1, 2, 1)
theorem culletlaw03_Example.calls  (r1 : Int) (r2 : Int) (r3 : Int) (r4 : Int) (r5 : Int) (r6 : Int) (r7 : Int) (r8 : Int) (r9 : Int) (w : World) (h : culletlaw03_Example.f  = some (r1, r2, r3, r4, r5, r6, r7, r8, r9)) :
  Calls Tryz.prog 81 #[] w fun e w' => e = .returned (.agg #[.int .i64 r1, .int .i64 r2, .int .i64 r3, .int .i64 r4, .int .i64 r5, .int .i64 r6, .int .i64 r7, .int .i64 r8, .int .i64 r9]) ∧ Below w.heap.size w w' := by
 have hu120 := Tryz.underlying120; have hu27 := Tryz.underlying27; have HB := Sd.mk (Below.refl w.heap.size w)
 have H : (some (995, 1005, 3, 4, 0, 10, 1, 2, 1)) = some (r1, r2, r3, r4, r5, r6, r7, r8, r9) := h
 clear h
 simp only [Option.some.injEq, Prod.mk.injEq] at H
 obtain ⟨rfl, rfl, rfl, rfl, rfl, rfl, rfl, rfl, rfl⟩ := H
 go_enter Tryz.func81, Tryz.ntmps81
 go_wp2_with (first | ((with_reducible refine gate_dst (N := 0) rfl ?_); refine box_event ?hg (N := 0) ?hd (cs := #[.int .i64 0, .int .i64 0, .int .i64 0, .int .i64 0, .int .i64 0, .int .i64 0, .int .i64 0, .int .i64 0, .int .i64 0]) (t := 120) ?hr ?_; (case hd => rfl); (case hg => rfl); (case hr => exact tG); intro gb861 hg w1 hbox hb; have BK861 := Sd.mk (hbox); have GW861 := Sd.mk (bSz hg (bBl HB.out)); have GE861 := Sd.mk (bSz hg (bBl HB.out)); replace HB := Sd.mk (below_step (bBl HB.out) hb); clear hb hbox hg; obtain ⟨u2_0, u2_1, u2_2, u2_3, u2_4, u2_5, u2_6, u2_7, u2_8, o2_0, o2_1, o2_2, o2_3, o2_4, o2_5, o2_6, o2_7, o2_8⟩ := bc9 (w := w1) BK861.out))
 refine bodyPost_ret (results_cell_row rfl _ _ gb861 120 #[.int .i64 995, .int .i64 1005, .int .i64 3, .int .i64 4, .int .i64 0, .int .i64 10, .int .i64 1, .int .i64 2, .int .i64 1] (0, 0) _ rfl (by refine bkZ ?_; refine blk_put (cs := #[.int .i64 995, .int .i64 1005, .int .i64 3, .int .i64 4, .int .i64 0, .int .i64 10, .int .i64 1, .int .i64 2, .int .i64 0]) ?_ 8 _ rfl; refine bkZ ?_; refine blk_put (cs := #[.int .i64 995, .int .i64 1005, .int .i64 3, .int .i64 4, .int .i64 0, .int .i64 10, .int .i64 1, .int .i64 0, .int .i64 0]) ?_ 7 _ rfl; refine bkZ ?_; refine blk_put (cs := #[.int .i64 995, .int .i64 1005, .int .i64 3, .int .i64 4, .int .i64 0, .int .i64 10, .int .i64 0, .int .i64 0, .int .i64 0]) ?_ 6 _ rfl; refine bkZ ?_; refine blk_put (cs := #[.int .i64 995, .int .i64 1005, .int .i64 3, .int .i64 4, .int .i64 0, .int .i64 0, .int .i64 0, .int .i64 0, .int .i64 0]) ?_ 5 _ rfl; refine bkZ ?_; refine blk_put (cs := #[.int .i64 995, .int .i64 1005, .int .i64 3, .int .i64 4, .int .i64 0, .int .i64 0, .int .i64 0, .int .i64 0, .int .i64 0]) ?_ 4 _ rfl; refine bkZ ?_; refine blk_put (cs := #[.int .i64 995, .int .i64 1005, .int .i64 3, .int .i64 0, .int .i64 0, .int .i64 0, .int .i64 0, .int .i64 0, .int .i64 0]) ?_ 3 _ rfl; refine bkZ ?_; refine blk_put (cs := #[.int .i64 995, .int .i64 1005, .int .i64 0, .int .i64 0, .int .i64 0, .int .i64 0, .int .i64 0, .int .i64 0, .int .i64 0]) ?_ 2 _ rfl; refine bkZ ?_; refine blk_put (cs := #[.int .i64 995, .int .i64 0, .int .i64 0, .int .i64 0, .int .i64 0, .int .i64 0, .int .i64 0, .int .i64 0, .int .i64 0]) ?_ 1 _ rfl; refine bkZ ?_; refine blk_put (cs := #[.int .i64 0, .int .i64 0, .int .i64 0, .int .i64 0, .int .i64 0, .int .i64 0, .int .i64 0, .int .i64 0, .int .i64 0]) ?_ 0 _ rfl; refine bkZ ?_; exact BK861.out) Tryz.underlying120 rfl (by kernel_rfl)) rfl ?_
 exact ⟨tE, bBl HB.out⟩
end
section
open Go.RowKit Go.Proofs.YtljfljekcpdpiaaGreatW.PrintWords Go.Proofs.YtljfljekcpdpiaaGreatW.PrintLast Go.Proofs.YtljfljekcpdpiaaGreatW.PrintMore
def culletlaw03_One.f (a0 : Int) (a1 : Int) : Option ((List (S180))) := some (([(⟨0, a0, (([(⟨a1, a1⟩ : S27)] : List (S27)))⟩ : S180)] : List (S180)))
theorem culletlaw03_One.calls (a0 : Int) (a1 : Int) (r : List (S180)) (w : World) (h : culletlaw03_One.f a0 a1 = some r) :
  Calls Tryz.prog 82 #[.int .i64 a0, .int .i64 a1] w fun e w' => ∃ v0_ : Value, e = .returned (v0_) ∧ Kd.N k180 180 w' w.heap.size (fun k_ => (w.heap.size ≤ k_)) v0_ r ∧ Below w.heap.size w w' := by
 have hu27 := Tryz.underlying27; have hu180 := Tryz.underlying180; have HB := Sd.mk (Below.refl w.heap.size w)
 have H : (some (([(⟨0, a0, (([(⟨a1, a1⟩ : S27)] : List (S27)))⟩ : S180)] : List (S180)))) = some r := h
 clear h
 obtain ⟨y862, hy862⟩ : ∃ y_ : List (S27), y_ = (([(⟨a1, a1⟩ : S27)] : List (S27))) := ⟨_, rfl⟩
 replace H : (some (([(⟨0, a0, y862⟩ : S180)] : List (S180)))) = some r := by first | (rw [hy862]; with_reducible exact H) | (have H2_ := (Option.bind_some _ _).symm.trans H; rw [hy862]; with_reducible exact H2_) | (have H2_ := (Option.bind_some _ _).symm.trans H; with_reducible exact H2_) | with_reducible exact H | (rw [hy862]; exact H) | exact H
 have Ny862 := Sd.mk hy862; clear hy862
 obtain ⟨y865, hy865⟩ : ∃ y_ : List (S180), y_ = (([(⟨0, a0, y862⟩ : S180)] : List (S180))) := ⟨_, rfl⟩
 replace H : (some y865) = some r := by first | (rw [hy865]; with_reducible exact H) | (have H2_ := (Option.bind_some _ _).symm.trans H; rw [hy865]; with_reducible exact H2_) | (have H2_ := (Option.bind_some _ _).symm.trans H; with_reducible exact H2_) | with_reducible exact H | (rw [hy865]; exact H) | exact H
 have Ny865 := Sd.mk hy865; clear hy865; obtain rfl := Option.some.inj H
 go_enter Tryz.func82, Tryz.ntmps82
 go_wp2_with (first | ((with_reducible refine gate_dst (N := 9) rfl ?_); refine Kd.R_lit k27 _ 27 ?hg (N := 9) ?hd (xs := ([(⟨a1, a1⟩ : S27)] : List (S27))) (inner := [.int .i64 a1, .int .i64 a1]) (ok := fun _ => True) (okp := fun _ => True) ?hr ?hp (fun _ hk => hk) trivial (Below.refl _ _) (Nat.le_refl _) (by simp) ?_; (case hd => rfl); (case hg => rfl); (case hr => exact tG); (case hp => exact (Reps.c2 (show Kd.M k27 _ _ _ (⟨a1, a1⟩ : S27) [.int .i64 a1, .int .i64 a1] from (k27_mkM _ _ _ (⟨a1, a1⟩ : S27) )) (Reps.none _ _))); intro v863 w3 ho4 hb hg_ hnew_; clear hg_ hnew_; (first | rw [← Ny862.out] at ho4 | (simp only [Int.reduceToNat] at ho4; rw [← Ny862.out] at ho4)); have HO864 := Sd.mk (Kd.R_lower (Kd.R_newM (M := fun k_ => (w.heap.size ≤ k_)) ho4 (below_size (bBl HB.out)) (fun k_ h_ => h_)) (below_size (bBl HB.out))); replace HB := Sd.mk (below_step (bBl HB.out) hb); clear hb ho4; obtain ⟨Ao5, co5, eo5⟩ := Kd.R_slice HO864.out; subst eo5) | ((with_reducible refine gate_dst (N := 11) rfl ?_); refine Kd.N_lit k180 _ 180 ?hg (N' := 11) ?hd (xs := ([(⟨0, a0, y862⟩ : S180)] : List (S180))) (inner := [.int .i64 0, .int .i64 a0, .slice Ao5 y862.length co5]) (ok := (fun k_ => (w.heap.size ≤ k_))) (okp := (fun k_ => (w.heap.size ≤ k_))) ?hr ?hp (fun _ hk => hk) ((show ∀ k_, w3.heap.size ≤ k_ → (fun k_ => (w.heap.size ≤ k_)) k_ from fun k_ hk => (Nat.le_trans (below_size (bBl HB.out)) hk)) _ (Nat.le_refl _)) (Below.refl _ _) (Nat.le_refl _) (by simp) ?_; (case hd => rfl); (case hg => rfl); (case hr => exact tG); (case hp => exact (Reps.c3 (show Kd.FK k180 _ _ (⟨0, a0, y862⟩ : S180) [.int .i64 0, .int .i64 a0, .slice Ao5 y862.length co5] from (k180_mkF _ _ (⟨0, a0, y862⟩ : S180) (Kd.R_reads' (Kd.R_mono (ok' := (fun k_ => (w.heap.size ≤ k_))) (HO864.out) (fun k_ hk => hk.1))).2.1 (Kd.R_F (Kd.R_mono (ok' := (fun k_ => (w.heap.size ≤ k_))) (HO864.out) (fun k_ hk => hk.1))))) (Reps.none _ _))); intro v866 w6 ho7 hb hg_ hnew_; clear hg_ hnew_; (first | rw [← Ny865.out] at ho7 | (simp only [Int.reduceToNat] at ho7; rw [← Ny865.out] at ho7)); have HO867 := Sd.mk (Kd.N_lower ho7 (below_size (bBl HB.out))); replace HB := Sd.mk (below_step (bBl HB.out) hb); clear HO864; clear hb ho7))
 go_ret
 exact ⟨_, tE, by (with_reducible repeat (first | apply Kd.N_alloc | apply Kd.N_drewN | apply Kd.N_drew)); exact HO867.out, bBl HB.out⟩
end
section
attribute [local go_sem] Oper.semAt_some
theorem stands_calls (w : World) : Calls Tryz.prog 25 #[] w fun e w' => e = .returned (.bool true) ∧ Below w.heap.size w w' := by
 go_enter Tryz.func25, Tryz.ntmps25
 go_upto_region 2 with (fail)
 go_at_call 45; refine (Batch_x _).mono ?_; rintro e w1 ⟨Ao, co, Am, cm, As, cs, Ap, ca, rfl, hco, hcm, hcs, h0, h1, h2, hb⟩
 have h3 : Kd.C k89 w1 Ap ([] : List S89).length [] := ⟨rfl, by decide, fun hn => absurd hn (by decide)⟩
 have HP := Sd.mk (And.intro h0 (And.intro h1 (And.intro h2 h3)))
 have HB1 := Sd.mk hb
 clear h0 h1 h2 h3 hb
 go_upto_region 2 with (fail)
 go_at_call 28; refine (b_Best.calls 200 Ao co oxs Am cm mts As cs shs Ap ca [] (-9999) 9999 100 [80, 40] 240 true 0 _ HP.out.1 hco HP.out.2.1 hcm HP.out.2.2.1 hcs HP.out.2.2.2 (Nat.zero_le _) (by kernel_rfl)).mono ?_; rintro e w2 ⟨v2, rfl, hv2, hb⟩
 obtain ⟨A2, c2, rfl⟩ := Kd.R_slice hv2
 have HB2 := Sd.mk (below_then HB1.out HB1.out.size hb)
 clear HP HB1 hb hv2
 go_upto_region 3 with (fail)
 go_at_call 81; refine (culletlaw03_Example.calls 995 1005 3 4 0 10 1 2 1 _ (by kernel_rfl)).mono ?_; rintro e w3 ⟨rfl, hb⟩
 have HB3 := Sd.mk (below_then HB2.out HB2.out.size hb)
 clear HB2 hb
 go_upto_region 3 with (fail)
 go_at_call 82; refine (culletlaw03_One.calls 5 1000 [⟨0, 5, [⟨1000, 1000⟩]⟩] _ (by kernel_rfl)).mono ?_; rintro e w4 ⟨v4, rfl, hv4, hb⟩
 obtain ⟨X, c4, rfl⟩ : ∃ X c4, v4 = .slice (some ⟨X, 0, none⟩) 1 c4 := by
  obtain ⟨_, rows, hl, hR, _⟩ := hv4
  obtain ⟨X, c4, e, _⟩ := Kd.R_form hR (by rw [hl]; decide)
  rw [hl] at e
  exact ⟨X, c4, e⟩
 have HB4 := Sd.mk (below_then HB3.out HB3.out.size hb)
 obtain ⟨g4, q4, hcr⟩ := CellR.of hv4
 have HC4 := Sd.mk hcr
 clear HB3 hb hv4 hcr
 go_upto_region 3 with (fail)
 go_at_call 80; refine (Next_calls X c4 g4 q4 _ HC4.out).mono ?_; rintro e w5 ⟨A5, c5, rfl, hr5, hb⟩
 have HB5 := Sd.mk (below_then HB4.out HB4.out.size hb)
 clear HB4 hb HC4 hr5
 go_upto_region 4 with (fail)
 go_at_call 36; refine (Example_x _).mono ?_; rintro e w6 ⟨g6, c6, rfl, hc6, hv6, hb⟩
 have HB6 := Sd.mk (below_then HB5.out HB5.out.size hb)
 have HR6 := Sd.mk (Kd.R_reads' hv6).2.2
 clear HB5 hb hv6
 go_upto_region 4 with (fail)
 go_at_call 40; refine (Lightest_x _ c6 _ HR6.out).mono ?_; rintro e w7 ⟨rfl, hb⟩
 have HB7 := Sd.mk (below_then HB6.out HB6.out.size hb)
 clear HB6 hb HR6
 go_wp2
 go_ret
 exact ⟨rfl, HB7.out⟩
end
section
attribute [local go_sem] Oper.semAt_some
theorem mix_all (o : List ByteArray) (mt : List S70) (s : List S27) (p : List S89) (a4 a5 a6 : Int) (l0 l1 : List Int) (n d : Int) :
  (GlassV o mt s p a4 a5 a6 l0).2 = 0 → (GlassV o mt s p a4 a5 a6 l1).2 = 0 → (GlassV o mt s p a4 a5 a6 (mixR l0 l1 l0.length)).2 = 0 →
  (GlassV o mt s p a4 a5 a6 l0).1.length = (GlassV o mt s p a4 a5 a6 (mixR l0 l1 l0.length)).1.length ∧ (GlassV o mt s p a4 a5 a6 l1).1.length = (GlassV o mt s p a4 a5 a6 (mixR l0 l1 l0.length)).1.length ∧
  (∀ i : Nat, i < (GlassV o mt s p a4 a5 a6 (mixR l0 l1 l0.length)).1.length → min (rd_T27 (GlassV o mt s p a4 a5 a6 l0).1 (i : Int)).f0 (rd_T27 (GlassV o mt s p a4 a5 a6 l1).1 (i : Int)).f0 ≤ (rd_T27 (GlassV o mt s p a4 a5 a6 (mixR l0 l1 l0.length)).1 (i : Int)).f0 ∧
   (rd_T27 (GlassV o mt s p a4 a5 a6 (mixR l0 l1 l0.length)).1 (i : Int)).f1 ≤ max (rd_T27 (GlassV o mt s p a4 a5 a6 l0).1 (i : Int)).f1 (rd_T27 (GlassV o mt s p a4 a5 a6 l1).1 (i : Int)).f1) ∧
  ((PassV o mt s p a4 a5 a6 l0).2 = 0 ∧ (PassV o mt s p a4 a5 a6 l1).2 = 0 ∧ (PassV o mt s p a4 a5 a6 (mixR l0 l1 l0.length)).2 = 0) ∧ ((PassV o mt s p a4 a5 a6 l0).1 = true → (PassV o mt s p a4 a5 a6 l1).1 = true → (PassV o mt s p a4 a5 a6 (mixR l0 l1 l0.length)).1 = true) ∧
  ((shockV (ValV o mt s p a4 a5 a6 l0 n) d).2.2 = (shockV (ValV o mt s p a4 a5 a6 l1 n) d).2.2 ∧ (shockV (ValV o mt s p a4 a5 a6 l0 n) d).2.2 = (shockV (ValV o mt s p a4 a5 a6 (mixR l0 l1 l0.length) n) d).2.2) ∧
  (min (shockV (ValV o mt s p a4 a5 a6 l0 n) d).1 (shockV (ValV o mt s p a4 a5 a6 l1 n) d).1 ≤ (shockV (ValV o mt s p a4 a5 a6 (mixR l0 l1 l0.length) n) d).1 ∧
   (shockV (ValV o mt s p a4 a5 a6 (mixR l0 l1 l0.length) n) d).2.1 ≤ max (shockV (ValV o mt s p a4 a5 a6 l0 n) d).2.1 (shockV (ValV o mt s p a4 a5 a6 l1 n) d).2.1) := by
 intro h0 h1 hm
 have M : MixOk o mt s p a4 a5 a6 l0 l1 := ⟨h0, h1, hm⟩
 obtain ⟨e0, e1, em⟩ := mix_len M
 obtain ⟨p0, p1, pm, pp⟩ := mix_pass M
 exact ⟨by rw [e0, em], by rw [e1, em], fun i hi => mix_share M (by rw [em] at hi; exact hi), ⟨p0, p1, pm⟩, pp, mix_shock M n d⟩
def tm9T : Bool × List (List Nat × List Nat) := (true, [([], []), ([], []), ([1], [1]), ([], []), ([2, 3], [2, 3]), ([4], [4]), ([], []), ([6], [6]), ([], []), ([7, 8], [7, 8]), ([9], [9]), ([5, 10], [5, 10]), ([11], [11]), ([0, 12], [0, 12]), ([13, 13, 0, 1, 2, 3, 4, 5, 6, 7, 8, 9, 10, 11, 12, 13], [0, 13])])
def tm9B : List Nat := [0, 0, 2, 0, 14, 30, 0, 64, 0, 448, 960, 2046, 4094, 8191, 16383]
theorem tm9_tab : rtab .any (opsOf Tryz.f5 9) = tm9T := by kernel_rfl
theorem tm9_bits : waitsOk tm9T.2 tm9B = true := by kernel_rfl
def tm18T : Bool × List (List Nat × List Nat) := (true, [([], []), ([], []), ([0, 1], [0, 1]), ([2], [2]), ([3], [3]), ([], []), ([], []), ([5, 6], [5, 6]), ([7], [7]), ([8], [8]), ([], []), ([], []), ([10, 11], [10, 11]), ([12], [12]), ([13], [13]), ([9, 14], [9, 14]), ([4, 15], [4, 15]), ([16], [16]), ([17], [17]), ([17], [17]), ([18, 19, 17], [17, 18, 19]), ([20, 17], [17, 20]), ([21, 17], [17, 21]), ([17], [17]), ([17], [17]), ([23, 24, 17], [17, 23, 24]), ([25, 17], [17, 25]), ([26, 17], [17, 26]), ([17], [17]), ([17], [17]), ([28, 29, 17], [17, 28, 29]), ([30, 17], [17, 30]), ([31, 17], [17, 31]), ([27, 32, 17], [17, 27, 32]), ([22, 33, 17], [17, 22, 33]), ([17, 34], [17, 34])])
def tm18B : List Nat := [0, 0, 3, 7, 15, 0, 0, 96, 224, 480, 0, 0, 3072, 7168, 15360, 32736, 65535, 131071, 262143, 262143, 1048575, 2097151, 4194303, 262143, 262143, 25427967, 58982399, 126091263, 262143, 262143, 805568511, 1879310335, 4026793983, 8581808127, 17179869183, 34359738367]
theorem tm18_tab : rtab .any (opsOf Tryz.f5 18) = tm18T := by kernel_rfl
theorem tm18_bits : waitsOk tm18T.2 tm18B = true := by kernel_rfl
theorem mixed_walk (A0 : Option Addr) (c0 : Nat) (l0 : List ByteArray) (A1 : Option Addr) (c1 : Nat) (mt : List S70) (A2 : Option Addr) (c2 : Nat) (l2 : List S27) (A3 : Option Addr) (c3 : Nat) (l3 : List S89) (b4 b5 b6 : Int) (B0 : Option Addr) (x0 : Nat) (m0 : List Int) (B1 : Option Addr) (x1 : Nat) (m1 : List Int) (n2 n3 n4 : Int) (B5 : Option Addr) (x5 : Nat) (m5 : List Int) (dg : Int) (w : World)
  (hr0 : Kd.C Kd.string w A0 l0.length l0) (h00 : l0.length ≤ c0) (hr1 : Kd.C k70 w A1 mt.length mt) (h01 : mt.length ≤ c1) (hr2 : Kd.C k27 w A2 l2.length l2) (h02 : l2.length ≤ c2) (hr3 : Kd.C k89 w A3 l3.length l3) (h03 : l3.length ≤ c3)
  (s0 : Kd.C (Kd.int .i64) w B0 m0.length m0) (k0 : m0.length ≤ x0) (s1 : Kd.C (Kd.int .i64) w B1 m1.length m1) (k1 : m1.length ≤ x1) (s5 : Kd.C (Kd.int .i64) w B5 m5.length m5) (k5 : m5.length ≤ x5) :
  Calls Tryz.prog 5 #[.agg #[.slice A0 l0.length c0, .slice A1 mt.length c1, .slice A2 l2.length c2, .slice A3 l3.length c3, .int .i64 b4, .int .i64 b5, .int .i64 b6], .agg #[.slice B0 m0.length x0, .slice B1 m1.length x1, .int .i64 n2, .int .i64 n3, .int .i64 n4, .slice B5 m5.length x5], .int .i64 dg] w fun e w' => e = .returned (.bool true) ∧ Below w.heap.size w w' := by
 obtain ⟨q1, q2, hb0, hsz⟩ := blk_two w (.cells #[.slice A0 l0.length c0, .slice A1 mt.length c1, .slice A2 l2.length c2, .slice A3 l3.length c3, .int .i64 b4, .int .i64 b5, .int .i64 b6] 29) (.cells #[.slice B0 m0.length x0, .slice B1 m1.length x1, .int .i64 n2, .int .i64 n3, .int .i64 n4, .slice B5 m5.length x5] 34)
 have BX := Sd.mk q1
 have BY := Sd.mk q2
 have HB := Sd.mk hb0
 have HR := Sd.mk (And.intro hr0 (And.intro hr1 (And.intro hr2 (And.intro hr3 (And.intro s0 (And.intro s1 s5))))))
 clear q1 q2 hb0 hsz hr0 hr1 hr2 hr3 s0 s1 s5
 obtain ⟨bg, kg, hg⟩ := great l0 mt l2 l3 b4 b5 b6
 have HG := Sd.mk (hg kg (Nat.le_refl _))
 clear hg
 go_enter Tryz.func5, Tryz.ntmps5
 go_upto_region 1 with (fail)
 generalize (w.alloc (.cells #[.slice A0 l0.length c0, .slice A1 mt.length c1, .slice A2 l2.length c2, .slice A3 l3.length c3, .int .i64 b4, .int .i64 b5, .int .i64 b6] 29)).alloc (.cells #[.slice B0 m0.length x0, .slice B1 m1.length x1, .int .i64 n2, .int .i64 n3, .int .i64 n4, .slice B5 m5.length x5] 34) = W0 at BX BY HB ⊢
 obtain ⟨g0, g1, g2, g3, g4, g5, g6, _⟩ := bc7 BX.out; obtain ⟨y0, y1, y2, y3, y4, y5, _⟩ := bc6 BY.out
 by_cases hall : (bg || decide ((m0.length : Int) > 100) || !decide (m1.length = m0.length)) = true
 ·cases bg with
  | true => clear hall; go_wp2_with (first | (go_at_call 10; (refine (lw_Great.calls _ A0 c0 l0 A1 c1 mt A2 c2 l2 A3 c3 l3 b4 b5 b6 _ _ (Kd.C_below HR.out.1 HB.out) h00 (Kd.C_below HR.out.2.1 HB.out) h01 (Kd.C_below HR.out.2.2.1 HB.out) h02 (Kd.C_below HR.out.2.2.2.1 HB.out) h03 HG.out).mono ?_); rintro e W1 ⟨rfl, hb⟩; clear g0 g1 g2 g3 g4 g5 g6 y0 y1 y2 y3 y4 y5; replace BX := Sd.mk (blk_below BX.out hb); replace BY := Sd.mk (blk_below BY.out hb); replace HB := Sd.mk (below_then HB.out HB.out.size hb); clear hb; obtain ⟨g0, g1, g2, g3, g4, g5, g6, _⟩ := bc7 BX.out; obtain ⟨y0, y1, y2, y3, y4, y5, _⟩ := bc6 BY.out) | (go_at_call 25; (refine (stands_calls _).mono ?_); rintro e W2 ⟨rfl, hb⟩; clear g0 g1 g2 g3 g4 g5 g6 y0 y1 y2 y3 y4 y5; replace BX := Sd.mk (blk_below BX.out hb); replace BY := Sd.mk (blk_below BY.out hb); replace HB := Sd.mk (below_then HB.out HB.out.size hb); clear hb; obtain ⟨g0, g1, g2, g3, g4, g5, g6, _⟩ := bc7 BX.out; obtain ⟨y0, y1, y2, y3, y4, y5, _⟩ := bc6 BY.out)); go_ret; exact ⟨rfl, HB.out⟩
  | false =>
   by_cases h100 : (m0.length : Int) > 100
   ·have d1 : decide ((m0.length : Int) > 100) = true := decide_eq_true h100
    clear hall; go_wp2_with (first | (go_at_call 10; (refine (lw_Great.calls _ A0 c0 l0 A1 c1 mt A2 c2 l2 A3 c3 l3 b4 b5 b6 _ _ (Kd.C_below HR.out.1 HB.out) h00 (Kd.C_below HR.out.2.1 HB.out) h01 (Kd.C_below HR.out.2.2.1 HB.out) h02 (Kd.C_below HR.out.2.2.2.1 HB.out) h03 HG.out).mono ?_); rintro e W1 ⟨rfl, hb⟩; clear g0 g1 g2 g3 g4 g5 g6 y0 y1 y2 y3 y4 y5; replace BX := Sd.mk (blk_below BX.out hb); replace BY := Sd.mk (blk_below BY.out hb); replace HB := Sd.mk (below_then HB.out HB.out.size hb); clear hb; obtain ⟨g0, g1, g2, g3, g4, g5, g6, _⟩ := bc7 BX.out; obtain ⟨y0, y1, y2, y3, y4, y5, _⟩ := bc6 BY.out) | (go_at_call 25; (refine (stands_calls _).mono ?_); rintro e W2 ⟨rfl, hb⟩; clear g0 g1 g2 g3 g4 g5 g6 y0 y1 y2 y3 y4 y5; replace BX := Sd.mk (blk_below BX.out hb); replace BY := Sd.mk (blk_below BY.out hb); replace HB := Sd.mk (below_then HB.out HB.out.size hb); clear hb; obtain ⟨g0, g1, g2, g3, g4, g5, g6, _⟩ := bc7 BX.out; obtain ⟨y0, y1, y2, y3, y4, y5, _⟩ := bc6 BY.out)); go_ret; exact ⟨rfl, HB.out⟩
   ·have d1 : decide ((m0.length : Int) > 100) = false := decide_eq_false h100
    have hne : ¬ m1.length = m0.length := by intro e; simp [e] at hall; omega
    have d2 : ((m1.length : Int) != (m0.length : Int)) = true := bne_iff_ne.2 (by omega)
    clear hall; go_wp2_with (first | (go_at_call 10; (refine (lw_Great.calls _ A0 c0 l0 A1 c1 mt A2 c2 l2 A3 c3 l3 b4 b5 b6 _ _ (Kd.C_below HR.out.1 HB.out) h00 (Kd.C_below HR.out.2.1 HB.out) h01 (Kd.C_below HR.out.2.2.1 HB.out) h02 (Kd.C_below HR.out.2.2.2.1 HB.out) h03 HG.out).mono ?_); rintro e W1 ⟨rfl, hb⟩; clear g0 g1 g2 g3 g4 g5 g6 y0 y1 y2 y3 y4 y5; replace BX := Sd.mk (blk_below BX.out hb); replace BY := Sd.mk (blk_below BY.out hb); replace HB := Sd.mk (below_then HB.out HB.out.size hb); clear hb; obtain ⟨g0, g1, g2, g3, g4, g5, g6, _⟩ := bc7 BX.out; obtain ⟨y0, y1, y2, y3, y4, y5, _⟩ := bc6 BY.out) | (go_at_call 25; (refine (stands_calls _).mono ?_); rintro e W2 ⟨rfl, hb⟩; clear g0 g1 g2 g3 g4 g5 g6 y0 y1 y2 y3 y4 y5; replace BX := Sd.mk (blk_below BX.out hb); replace BY := Sd.mk (blk_below BY.out hb); replace HB := Sd.mk (below_then HB.out HB.out.size hb); clear hb; obtain ⟨g0, g1, g2, g3, g4, g5, g6, _⟩ := bc7 BX.out; obtain ⟨y0, y1, y2, y3, y4, y5, _⟩ := bc6 BY.out)); go_ret; exact ⟨rfl, HB.out⟩
 obtain ⟨rfl, h100, hlen⟩ : bg = false ∧ m0.length ≤ 100 ∧ m1.length = m0.length := by
  cases bg <;> simp at hall ⊢
  exact ⟨by omega, hall.2⟩
 clear hall
 have d1 : decide ((m0.length : Int) > 100) = false := decide_eq_false (by omega)
 have d2 : ((m1.length : Int) != (m0.length : Int)) = false := by rw [hlen]; exact bne_self_eq_false _
 have HLN := Sd.mk hlen
 have H100 := Sd.mk h100
 clear hlen h100
 go_upto_region 3 with (go_at_call 10; (refine (lw_Great.calls _ A0 c0 l0 A1 c1 mt A2 c2 l2 A3 c3 l3 b4 b5 b6 _ _ (Kd.C_below HR.out.1 HB.out) h00 (Kd.C_below HR.out.2.1 HB.out) h01 (Kd.C_below HR.out.2.2.1 HB.out) h02 (Kd.C_below HR.out.2.2.2.1 HB.out) h03 HG.out).mono ?_); rintro e W1 ⟨rfl, hb⟩; clear g0 g1 g2 g3 g4 g5 g6 y0 y1 y2 y3 y4 y5; replace BX := Sd.mk (blk_below BX.out hb); replace BY := Sd.mk (blk_below BY.out hb); replace HB := Sd.mk (below_then HB.out HB.out.size hb); clear hb; obtain ⟨g0, g1, g2, g3, g4, g5, g6, _⟩ := bc7 BX.out; obtain ⟨y0, y1, y2, y3, y4, y5, _⟩ := bc6 BY.out)
 clear d1 d2 HG
 go_upto_region 5 with (fail)
 clear g0 g1 g2 g3 g4 g5 g6 y0 y1 y2 y3 y4 y5
 have BX1 := BX
 have hy0 : W1.heap[w.heap.size + 1]? = some (.cells #[.slice B0 m0.length x0, .slice B1 m1.length x1, .int .i64 n2, .int .i64 n3, .int .i64 n4, .slice B5 m5.length x5] 34 (0, 0)) := BY.out
 go_loopg [8, 7] m0.length (fun kq v8 v7 W' => ∃ k : Nat, v8 = .int .i64 (k : Int) ∧ Sd (k + kq = m0.length ∧ Below W1.heap.size W1 W' ∧ Kd.R (Kd.int .i64) 3 W' W1.heap.size (fun _ => True) v7 (mixR m0 m1 k)))
 case atStart => exact ⟨0, by simp, ⟨Nat.zero_add _, Below.refl _ _, Kd.R_nil _ _ _ _ _⟩⟩
 case round =>
  obtain ⟨k, rfl, HI⟩ := hrel
  have HYr := Sd.mk (blk_below BY.out HI.out.2.1)
  cases gk with
  | succ kq =>
   have hk : k < m0.length := by rw [← HI.out.1]; exact Nat.lt_add_of_pos_right (Nat.succ_pos _)
   have hd : decide ((k : Int) < (m0.length : Int)) = true := decide_eq_true (Int.ofNat_lt.2 hk)
   have hk1 : k < m1.length := by rw [HLN.out]; exact hk
   have hd1 : decide ((k : Int) < (m1.length : Int)) = true := decide_eq_true (by have := HLN.out; omega)
   have hp : decide (0 ≤ (k : Int)) = true := decide_eq_true (Int.natCast_nonneg k)
   have HWK := Sd.mk (show wrap64 ((k : Int) + 1) = ((k + 1 : Nat) : Int) by have := H100.out; rw [wrap_id (by omega) (by omega)]; omega)
   obtain ⟨ad0, e0, q0⟩ := Kd.at_int HR.out.2.2.2.2.1 (k : Int) (Int.natCast_nonneg k) (Int.ofNat_lt.2 hk)
   obtain ⟨ad1, e1, q1⟩ := Kd.at_int HR.out.2.2.2.2.2.1 (k : Int) (Int.natCast_nonneg k) (by have := HLN.out; omega)
   simp only [Int.toNat_natCast] at q0 q1
   have Q0 := Sd.mk (cell_below q0 HB.out)
   have Q1 := Sd.mk (cell_below q1 HB.out)
   have Y0 := Sd.mk (show W1.cell? ⟨w.heap.size + 1, 0, none⟩ = some (.slice (some ad0) m0.length x0) from by rw [← e0]; exact (blk_cell BY.out 0).trans rfl)
   have Y1 := Sd.mk (show W1.cell? ⟨w.heap.size + 1, 1, none⟩ = some (.slice (some ad1) m1.length x1) from by rw [← e1]; exact (blk_cell BY.out 1).trans rfl)
   have E01 := Sd.mk (And.intro e0 e1)
   clear q0 q1 e0 e1
   have q0 := cell_below Q0.out HI.out.2.1
   have q1 := cell_below Q1.out HI.out.2.1
   have y0 := cell_below Y0.out HI.out.2.1
   have y1 := cell_below Y1.out HI.out.2.1
   have HBr := Sd.mk (below_then HB.out HB.out.size HI.out.2.1)
   by_cases hx : rd m0 (k : Int) > 10000
   ·have dx : decide (rd m0 (k : Int) > 10000) = true := decide_eq_true hx
    go_wp2_with (go_at_call 25; refine (stands_calls _).mono ?_; rintro e W2 ⟨rfl, hb⟩)
    go_ret
    exact ⟨rfl, below_then HBr.out HBr.out.size hb⟩
   have dx : decide (rd m0 (k : Int) > 10000) = false := decide_eq_false hx
   by_cases hz : rd m1 (k : Int) > 10000
   ·have dz : decide (rd m1 (k : Int) > 10000) = true := decide_eq_true hz
    go_wp2_with (go_at_call 25; refine (stands_calls _).mono ?_; rintro e W2 ⟨rfl, hb⟩)
    go_ret
    exact ⟨rfl, below_then HBr.out HBr.out.size hb⟩
   have dz : decide (rd m1 (k : Int) > 10000) = false := decide_eq_false hz
   go_upto_region 9 with (fail)
   clear q0 q1 y0 y1 dx dz hx hz
   refine start_ (n := 15) (S := fun w' => Below W1.heap.size W1 w') (ds := []) (bA 15 0) (by kernel_rfl) rfl rfl (below_drew1 HI.out.2.1) (fun hHeld => ?_); refine with_tabW tm9_tab tm9_bits (fun HT_ HW_ => ?_)
   have HRD := Sd.mk (Kd.R_drew HI.out.2.2)
   have HSR := Sd.mk (Nat.le_trans HI.out.2.1.size (Nat.le_refl wr.drew.heap.size))
   generalize wr.drew = wd at HRD HSR hHeld ⊢
   refine pQ 0 (some 62) (bA 15 1) ?_
   refine pQ 1 (some 63) (bA 15 3) ?_
   refine take_ (i := 2) (N := some 64) (v := ?_) (a' := ?_) (bA 15 7) rfl rfl (take_ofW HT_.out HW_.out (by kernel_rfl)) (fun _ _ _ h => h) (Or.inl ⟨by rfl, ?_⟩) hHeld ?_ ?_
   rotate_left
   ·rintro w' hh
    have s0 := cell_below Y0.out hh
    go_simp
    with_reducible rfl
   rotate_left
   ·exact tP
   refine pQ 3 (some 65) (bA 15 15) ?_
   refine pQ 4 (some 66) (bA 15 31) ?_
   refine take_ (i := 5) (N := some 67) (v := ?_) (a' := ?_) (bA 15 63) rfl rfl (take_ofW HT_.out HW_.out (by kernel_rfl)) (fun _ _ _ h => h) (Or.inl ⟨by rfl, ?_⟩) hHeld ?_ ?_
   rotate_left
   ·rintro w' hh
    have s0 := cell_below Q0.out hh
    go_simp
    with_reducible rfl
   rotate_left
   ·exact tP
   refine pQ 6 (some 68) (bA 15 127) ?_
   refine take_ (i := 7) (N := some 69) (v := ?_) (a' := ?_) (bA 15 255) rfl rfl (take_ofW HT_.out HW_.out (by kernel_rfl)) (fun _ _ _ h => h) (Or.inl ⟨by rfl, ?_⟩) hHeld ?_ ?_
   rotate_left
   ·rintro w' hh
    have s0 := cell_below Y1.out hh
    go_simp
    with_reducible rfl
   rotate_left
   ·exact tP
   refine pQ 8 (some 70) (bA 15 511) ?_
   refine pQ 9 (some 71) (bA 15 1023) ?_
   refine take_ (i := 10) (N := some 72) (v := ?_) (a' := ?_) (bA 15 2047) rfl rfl (take_ofW HT_.out HW_.out (by kernel_rfl)) (fun _ _ _ h => h) (Or.inl ⟨by rfl, ?_⟩) hHeld ?_ ?_
   rotate_left
   ·rintro w' hh
    have s0 := cell_below Q1.out hh
    go_simp
    with_reducible rfl
   rotate_left
   ·exact tP
   refine pQ 11 (some 73) (bA 15 4095) ?_
   refine one_ (i := 12) (N := some 74) (bA 15 8191) rfl rfl (one_of HT_.out (by kernel_rfl)) (by decide) (fun K hK => ?_)
   go_simp
   refine hK.out _ _ (below_alloc hHeld _) (fun hHeld2 => ?_)
   clear hK K
   refine one_ (i := 13) (N := some 75) (bA 15 16383) rfl rfl (one_of HT_.out (by kernel_rfl)) (by decide) (fun K hK => ?_)
   refine Kd.R_append_step (Kd.int .i64) (w0 := W1) (W := wd) W1.heap.size (by rfl) (.tmp 62) (.tmp 74) 30 3 (.int .i64 0) 8 rfl Tryz.underlying30 info3 rfl (by decide) (by omega) u7 (mixR m0 m1 k) (wrap64 (rd m0 (k : Int) + rd m1 (k : Int))) [.int .i64 (wrap64 (rd m0 (k : Int) + rd m1 (k : Int)))] (fun _ => True) (fun _ => False) rfl rfl rfl (fun _ hk => hk.elim) (fun _ _ => trivial) HRD.out hHeld HSR.out (by rw [mixR_len]; have := H100.out; omega) ?_
   intro v1 w6 ho hb hg hat
   rw [← mixR_succ] at ho
   have HO := Sd.mk ho
   clear ho hg hat hHeld2
   refine hK.out _ _ hb (fun hHeld3 => ?_)
   clear hK K
   refine norm_ (a' := ?_) ?_ ?_
   rotate_left
   ·show Act.put _ (some 75) _ = _
    exact tP
   refine pQ 14 (some 7) (bA 15 32767) ?_
   refine done_ (done_of HT_.out (by kernel_rfl)) ?_
   clear HT_ HW_ hHeld hHeld3
   go_wp2
   go_roundg kq
   case measure => exact Nat.lt_succ_self _
   case rel => exact ⟨k + 1, by first | rw [HWK.out] | rfl | (push_cast; rfl), ⟨by rw [← HI.out.1]; exact Nat.add_right_comm k 1 kq, hb, HO.out⟩⟩
  | zero =>
   obtain rfl : k = m0.length := HI.out.1
   have hb := HI.out.2.1
   have HV := Sd.mk HI.out.2.2
   replace BX := Sd.mk (blk_below BX.out hb)
   replace BY := Sd.mk (blk_below BY.out hb)
   replace HB := Sd.mk (below_then HB.out HB.out.size hb)
   clear hb HYr HI
   obtain ⟨A7, c7, rfl, hc7, hC7⟩ := Kd.R_reads HV.out
   have HM7 := Sd.mk hC7
   clear HV hC7
   obtain ⟨kx0, hx0⟩ := bGlass l0 mt l2 l3 b4 b5 b6 m0
   have hgl0 := hx0 kx0 (Nat.le_refl _)
   obtain ⟨kp0, hp0⟩ := bPasses l0 mt l2 l3 b4 b5 b6 m0
   have hps0 := hp0 kp0 (Nat.le_refl _)
   obtain ⟨ks0, hs0⟩ := xShock_ev l0 mt l2 l3 b4 b5 b6 m0 n2 dg
   have hsh0 := hs0 ks0 (Nat.le_refl _)
   clear hx0 hp0 hs0
   obtain ⟨kx1, hx1⟩ := bGlass l0 mt l2 l3 b4 b5 b6 m1
   have hgl1 := hx1 kx1 (Nat.le_refl _)
   obtain ⟨kp1, hp1⟩ := bPasses l0 mt l2 l3 b4 b5 b6 m1
   have hps1 := hp1 kp1 (Nat.le_refl _)
   obtain ⟨ks1, hs1⟩ := xShock_ev l0 mt l2 l3 b4 b5 b6 m1 n2 dg
   have hsh1 := hs1 ks1 (Nat.le_refl _)
   clear hx1 hp1 hs1
   obtain ⟨kx2, hx2⟩ := bGlass l0 mt l2 l3 b4 b5 b6 (mixR m0 m1 m0.length)
   have hgl2 := hx2 kx2 (Nat.le_refl _)
   obtain ⟨kp2, hp2⟩ := bPasses l0 mt l2 l3 b4 b5 b6 (mixR m0 m1 m0.length)
   have hps2 := hp2 kp2 (Nat.le_refl _)
   obtain ⟨ks2, hs2⟩ := xShock_ev l0 mt l2 l3 b4 b5 b6 (mixR m0 m1 m0.length) n2 dg
   have hsh2 := hs2 ks2 (Nat.le_refl _)
   clear hx2 hp2 hs2
   have hF := mix_all l0 mt l2 l3 b4 b5 b6 m0 m1 n2 dg
   generalize (GlassV l0 mt l2 l3 b4 b5 b6 m0) = vg0 at hgl0 hF
   generalize (PassV l0 mt l2 l3 b4 b5 b6 m0) = vp0 at hps0 hF
   generalize (shockV (ValV l0 mt l2 l3 b4 b5 b6 m0 n2) dg) = vs0 at hsh0 hF
   obtain ⟨gl0, ge0⟩ := vg0
   obtain ⟨pb0, pe0⟩ := vp0
   obtain ⟨sa0, sb0, se0⟩ := vs0
   have HGL0 := Sd.mk hgl0
   have HPS0 := Sd.mk hps0
   have HSH0 := Sd.mk hsh0
   clear hgl0 hps0 hsh0
   generalize (GlassV l0 mt l2 l3 b4 b5 b6 m1) = vg1 at hgl1 hF
   generalize (PassV l0 mt l2 l3 b4 b5 b6 m1) = vp1 at hps1 hF
   generalize (shockV (ValV l0 mt l2 l3 b4 b5 b6 m1 n2) dg) = vs1 at hsh1 hF
   obtain ⟨gl1, ge1⟩ := vg1
   obtain ⟨pb1, pe1⟩ := vp1
   obtain ⟨sa1, sb1, se1⟩ := vs1
   have HGL1 := Sd.mk hgl1
   have HPS1 := Sd.mk hps1
   have HSH1 := Sd.mk hsh1
   clear hgl1 hps1 hsh1
   generalize (GlassV l0 mt l2 l3 b4 b5 b6 (mixR m0 m1 m0.length)) = vg2 at hgl2 hF
   generalize (PassV l0 mt l2 l3 b4 b5 b6 (mixR m0 m1 m0.length)) = vp2 at hps2 hF
   generalize (shockV (ValV l0 mt l2 l3 b4 b5 b6 (mixR m0 m1 m0.length) n2) dg) = vs2 at hsh2 hF
   obtain ⟨gl2, ge2⟩ := vg2
   obtain ⟨pb2, pe2⟩ := vp2
   obtain ⟨sa2, sb2, se2⟩ := vs2
   have HGL2 := Sd.mk hgl2
   have HPS2 := Sd.mk hps2
   have HSH2 := Sd.mk hsh2
   clear hgl2 hps2 hsh2
   dsimp only at hF
   have HF := Sd.mk hF
   clear hF
   obtain ⟨g0, g1, g2, g3, g4, g5, g6, _⟩ := bc7 BX.out; obtain ⟨y0, y1, y2, y3, y4, y5, _⟩ := bc6 BY.out
   go_upto_region 11 with (go_at_call 26; (refine (x_Glass.calls kx0 A0 c0 l0 A1 c1 mt A2 c2 l2 A3 c3 l3 b4 b5 b6 B0 x0 m0 gl0 ge0 _ (Kd.C_below HR.out.1 HB.out) h00 (Kd.C_below HR.out.2.1 HB.out) h01 (Kd.C_below HR.out.2.2.1 HB.out) h02 (Kd.C_below HR.out.2.2.2.1 HB.out) h03 (Kd.C_below HR.out.2.2.2.2.1 HB.out) k0 HGL0.out).mono ?_); rintro e W3 ⟨uv0, rfl, hv0, hb⟩; clear g0 g1 g2 g3 g4 g5 g6 y0 y1 y2 y3 y4 y5; replace BX := Sd.mk (blk_below BX.out hb); replace BY := Sd.mk (blk_below BY.out hb); replace HB := Sd.mk (below_then HB.out HB.out.size hb); obtain ⟨GA0, gc0, rfl, gh0, gC0⟩ := Kd.R_reads hv0; replace HM7 := Sd.mk (Kd.C_below HM7.out hb); have HGR0 := Sd.mk gC0; clear hv0 gC0; clear hb; obtain ⟨g0, g1, g2, g3, g4, g5, g6, _⟩ := bc7 BX.out; obtain ⟨y0, y1, y2, y3, y4, y5, _⟩ := bc6 BY.out)
   go_upto_region 12 with (go_at_call 26; (refine (x_Glass.calls kx1 A0 c0 l0 A1 c1 mt A2 c2 l2 A3 c3 l3 b4 b5 b6 B1 x1 m1 gl1 ge1 _ (Kd.C_below HR.out.1 HB.out) h00 (Kd.C_below HR.out.2.1 HB.out) h01 (Kd.C_below HR.out.2.2.1 HB.out) h02 (Kd.C_below HR.out.2.2.2.1 HB.out) h03 (Kd.C_below HR.out.2.2.2.2.2.1 HB.out) k1 HGL1.out).mono ?_); rintro e W4 ⟨uv1, rfl, hv1, hb⟩; clear g0 g1 g2 g3 g4 g5 g6 y0 y1 y2 y3 y4 y5; replace BX := Sd.mk (blk_below BX.out hb); replace BY := Sd.mk (blk_below BY.out hb); replace HB := Sd.mk (below_then HB.out HB.out.size hb); obtain ⟨GA1, gc1, rfl, gh1, gC1⟩ := Kd.R_reads hv1; replace HM7 := Sd.mk (Kd.C_below HM7.out hb); replace HGR0 := Sd.mk (Kd.C_below HGR0.out hb); have HGR1 := Sd.mk gC1; clear hv1 gC1; clear hb; obtain ⟨g0, g1, g2, g3, g4, g5, g6, _⟩ := bc7 BX.out; obtain ⟨y0, y1, y2, y3, y4, y5, _⟩ := bc6 BY.out)
   go_upto_region 13 with (go_at_call 26; (refine (x_Glass.calls kx2 A0 c0 l0 A1 c1 mt A2 c2 l2 A3 c3 l3 b4 b5 b6 A7 c7 (mixR m0 m1 m0.length) gl2 ge2 _ (Kd.C_below HR.out.1 HB.out) h00 (Kd.C_below HR.out.2.1 HB.out) h01 (Kd.C_below HR.out.2.2.1 HB.out) h02 (Kd.C_below HR.out.2.2.2.1 HB.out) h03 HM7.out hc7 HGL2.out).mono ?_); rintro e W5 ⟨uv2, rfl, hv2, hb⟩; clear g0 g1 g2 g3 g4 g5 g6 y0 y1 y2 y3 y4 y5; replace BX := Sd.mk (blk_below BX.out hb); replace BY := Sd.mk (blk_below BY.out hb); replace HB := Sd.mk (below_then HB.out HB.out.size hb); obtain ⟨GA2, gc2, rfl, gh2, gC2⟩ := Kd.R_reads hv2; replace HM7 := Sd.mk (Kd.C_below HM7.out hb); replace HGR0 := Sd.mk (Kd.C_below HGR0.out hb); replace HGR1 := Sd.mk (Kd.C_below HGR1.out hb); have HGR2 := Sd.mk gC2; clear hv2 gC2; clear hb; obtain ⟨g0, g1, g2, g3, g4, g5, g6, _⟩ := bc7 BX.out; obtain ⟨y0, y1, y2, y3, y4, y5, _⟩ := bc6 BY.out)
   by_cases hn0 : ge0 = 0
   rotate_left
   ·have dn : (ge0 != 0) = true := by simp [hn0]
    go_wp2_with (go_at_call 25; refine (stands_calls _).mono ?_; rintro e W9 ⟨rfl, hb⟩); go_ret; exact ⟨rfl, below_then HB.out HB.out.size hb⟩
   have dn0 : (ge0 != 0) = false := by simp [hn0]
   by_cases hn1 : ge1 = 0
   rotate_left
   ·have dn : (ge1 != 0) = true := by simp [hn1]
    go_wp2_with (go_at_call 25; refine (stands_calls _).mono ?_; rintro e W9 ⟨rfl, hb⟩); go_ret; exact ⟨rfl, below_then HB.out HB.out.size hb⟩
   have dn1 : (ge1 != 0) = false := by simp [hn1]
   by_cases hn2 : ge2 = 0
   rotate_left
   ·have dn : (ge2 != 0) = true := by simp [hn2]
    go_wp2_with (go_at_call 25; refine (stands_calls _).mono ?_; rintro e W9 ⟨rfl, hb⟩); go_ret; exact ⟨rfl, below_then HB.out HB.out.size hb⟩
   have dn2 : (ge2 != 0) = false := by simp [hn2]
   obtain ⟨hl0, hl1, hsh, hpa, hpp, hse, hss⟩ := HF.out hn0 hn1 hn2
   have HLE := Sd.mk (And.intro hl0 hl1)
   have HSHR := Sd.mk hsh
   have HPA := Sd.mk hpa
   have HPP := Sd.mk hpp
   have HSE := Sd.mk hse
   have HSS := Sd.mk hss
   clear hl0 hl1 hsh hpa hpp hse hss HF hn0 hn1 hn2
   go_upto_region 16 with (fail)
   clear g0 g1 g2 g3 g4 g5 g6 y0 y1 y2 y3 y4 y5
   go_loopg [15] gl2.length (fun kq v15 W' => ∃ i : Nat, v15 = .int .i64 (i : Int) ∧ Sd (i + kq = gl2.length ∧ Below W5.heap.size W5 W'))
   case atStart => exact ⟨0, by simp, ⟨Nat.zero_add _, Below.refl _ _⟩⟩
   case round =>
    obtain ⟨i, rfl, HI⟩ := hrel
    cases gk with
    | succ kq =>
     have hi : i < gl2.length := by rw [← HI.out.1]; exact Nat.lt_add_of_pos_right (Nat.succ_pos _)
     have hi0 : i < gl0.length := by rw [HLE.out.1]; exact hi
     have hi1 : i < gl1.length := by rw [HLE.out.2]; exact hi
     have hd : decide ((i : Int) < (gl2.length : Int)) = true := decide_eq_true (Int.ofNat_lt.2 hi)
     have hp : decide (0 ≤ (i : Int)) = true := decide_eq_true (Int.natCast_nonneg i)
     have HWK := Sd.mk (show wrap64 ((i : Int) + 1) = ((i + 1 : Nat) : Int) by have := HGR2.out.2.1; rw [wrap_id (by omega) (by omega)]; omega)
     obtain ⟨ad0, e0, u0, v0⟩ := at_T27 HGR0.out (i : Int) (Int.natCast_nonneg i) (Int.ofNat_lt.2 hi0)
     cases e0
     simp only [Int.toNat_natCast] at u0 v0
     have U0 := Sd.mk u0
     have V0 := Sd.mk v0
     clear u0 v0
     obtain ⟨ad1, e1, u1, v1⟩ := at_T27 HGR1.out (i : Int) (Int.natCast_nonneg i) (Int.ofNat_lt.2 hi1)
     cases e1
     simp only [Int.toNat_natCast] at u1 v1
     have U1 := Sd.mk u1
     have V1 := Sd.mk v1
     clear u1 v1
     obtain ⟨ad2, e2, u2, v2⟩ := at_T27 HGR2.out (i : Int) (Int.natCast_nonneg i) (Int.ofNat_lt.2 hi)
     cases e2
     simp only [Int.toNat_natCast] at u2 v2
     have U2 := Sd.mk u2
     have V2 := Sd.mk v2
     clear u2 v2
     obtain ⟨q1, q2⟩ := HSHR.out i hi
     have dl : decide ((rd_T27 gl2 (i : Int)).f0 < min (rd_T27 gl0 (i : Int)).f0 (rd_T27 gl1 (i : Int)).f0) = false := decide_eq_false (by omega)
     have dh : decide ((rd_T27 gl2 (i : Int)).f1 > max (rd_T27 gl0 (i : Int)).f1 (rd_T27 gl1 (i : Int)).f1) = false := decide_eq_false (by omega)
     have DL := Sd.mk dl
     have DH := Sd.mk dh
     clear q1 q2 dl dh
     go_upto_region 18 with (fail)
     refine start_ (n := 36) (S := fun w' => Below W5.heap.size W5 w') (ds := []) (bA 36 0) (by kernel_rfl) rfl rfl (below_drew1 HI.out.2) (fun hHeld => ?_); refine with_tabW tm18_tab tm18_bits (fun HT_ HW_ => ?_)
     generalize wr.drew = wd at hHeld ⊢
     refine pQ 0 (some 113) (bA 36 1) ?_
     refine pQ 1 (some 114) (bA 36 3) ?_
     refine pQ 2 (some 115) (bA 36 7) ?_
     refine pQ 3 (some 116) (bA 36 15) ?_
     refine take_ (i := 4) (N := some 117) (v := ?_) (a' := ?_) (bA 36 31) rfl rfl (take_ofW HT_.out HW_.out (by kernel_rfl)) (fun _ _ _ h => h) (Or.inl ⟨by rfl, ?_⟩) hHeld ?_ ?_
     rotate_left
     ·rintro w' hh
      have s0 := cell_below U2.out hh
      go_simp
      with_reducible rfl
     rotate_left
     ·exact tP
     refine pQ 5 (some 118) (bA 36 63) ?_
     refine pQ 6 (some 119) (bA 36 127) ?_
     refine pQ 7 (some 120) (bA 36 255) ?_
     refine pQ 8 (some 121) (bA 36 511) ?_
     refine take_ (i := 9) (N := some 122) (v := ?_) (a' := ?_) (bA 36 1023) rfl rfl (take_ofW HT_.out HW_.out (by kernel_rfl)) (fun _ _ _ h => h) (Or.inl ⟨by rfl, ?_⟩) hHeld ?_ ?_
     rotate_left
     ·rintro w' hh
      have s0 := cell_below U0.out hh
      go_simp
      with_reducible rfl
     rotate_left
     ·exact tP
     refine pQ 10 (some 123) (bA 36 2047) ?_
     refine pQ 11 (some 124) (bA 36 4095) ?_
     refine pQ 12 (some 125) (bA 36 8191) ?_
     refine pQ 13 (some 126) (bA 36 16383) ?_
     refine take_ (i := 14) (N := some 127) (v := ?_) (a' := ?_) (bA 36 32767) rfl rfl (take_ofW HT_.out HW_.out (by kernel_rfl)) (fun _ _ _ h => h) (Or.inl ⟨by rfl, ?_⟩) hHeld ?_ ?_
     rotate_left
     ·rintro w' hh
      have s0 := cell_below U1.out hh
      go_simp
      with_reducible rfl
     rotate_left
     ·exact tP
     refine pQ 15 (some 128) (bA 36 65535) ?_
     refine pQ 16 (some 129) (bA 36 131071) ?_
     rw [DL.out]
     refine pQ 17 (some 130) (bA 36 262143) ?_
     refine pQ 18 (some 131) (bA 36 524287) ?_
     refine pQ 19 (some 132) (bA 36 1048575) ?_
     refine pQ 20 (some 133) (bA 36 2097151) ?_
     refine pQ 21 (some 134) (bA 36 4194303) ?_
     refine take_ (i := 22) (N := some 135) (v := ?_) (a' := ?_) (bA 36 8388607) rfl rfl (take_ofW HT_.out HW_.out (by kernel_rfl)) (fun _ _ _ h => h) (Or.inl ⟨by rfl, ?_⟩) hHeld ?_ ?_
     rotate_left
     ·rintro w' hh
      have s0 := cell_below V2.out hh
      go_simp
      with_reducible rfl
     rotate_left
     ·exact tP
     refine pQ 23 (some 136) (bA 36 16777215) ?_
     refine pQ 24 (some 137) (bA 36 33554431) ?_
     refine pQ 25 (some 138) (bA 36 67108863) ?_
     refine pQ 26 (some 139) (bA 36 134217727) ?_
     refine take_ (i := 27) (N := some 140) (v := ?_) (a' := ?_) (bA 36 268435455) rfl rfl (take_ofW HT_.out HW_.out (by kernel_rfl)) (fun _ _ _ h => h) (Or.inl ⟨by rfl, ?_⟩) hHeld ?_ ?_
     rotate_left
     ·rintro w' hh
      have s0 := cell_below V0.out hh
      go_simp
      with_reducible rfl
     rotate_left
     ·exact tP
     refine pQ 28 (some 141) (bA 36 536870911) ?_
     refine pQ 29 (some 142) (bA 36 1073741823) ?_
     refine pQ 30 (some 143) (bA 36 2147483647) ?_
     refine pQ 31 (some 144) (bA 36 4294967295) ?_
     refine take_ (i := 32) (N := some 145) (v := ?_) (a' := ?_) (bA 36 8589934591) rfl rfl (take_ofW HT_.out HW_.out (by kernel_rfl)) (fun _ _ _ h => h) (Or.inl ⟨by rfl, ?_⟩) hHeld ?_ ?_
     rotate_left
     ·rintro w' hh
      have s0 := cell_below V1.out hh
      go_simp
      with_reducible rfl
     rotate_left
     ·exact tP
     refine pQ 33 (some 146) (bA 36 17179869183) ?_
     refine pQ 34 (some 147) (bA 36 34359738367) ?_
     rw [DH.out]
     refine pQ 35 (some 148) (bA 36 68719476735) ?_
     refine done_ (done_of HT_.out (by kernel_rfl)) ?_
     clear HT_ HW_
     go_wp2
     go_roundg kq
     case measure => exact Nat.lt_succ_self _
     case rel => exact ⟨i + 1, by first | rw [HWK.out] | rfl | (push_cast; rfl), ⟨by rw [← HI.out.1]; exact Nat.add_right_comm i 1 kq, hHeld⟩⟩
    | zero =>
     obtain rfl : i = gl2.length := HI.out.1
     have hb := HI.out.2
     clear HI HGR0 HGR1 HGR2 HSHR HLE HGL0 HGL1 HGL2
     replace BX := Sd.mk (blk_below BX.out hb)
     replace BY := Sd.mk (blk_below BY.out hb)
     replace HM7 := Sd.mk (Kd.C_below HM7.out hb)
     replace HB := Sd.mk (below_then HB.out HB.out.size hb)
     clear hb
     obtain ⟨g0, g1, g2, g3, g4, g5, g6, _⟩ := bc7 BX.out; obtain ⟨y0, y1, y2, y3, y4, y5, _⟩ := bc6 BY.out
     go_upto_region 21 with (go_at_call 13; (refine (b_Passes.calls kp0 A0 c0 l0 A1 c1 mt A2 c2 l2 A3 c3 l3 b4 b5 b6 B0 x0 m0 pb0 pe0 _ (Kd.C_below HR.out.1 HB.out) h00 (Kd.C_below HR.out.2.1 HB.out) h01 (Kd.C_below HR.out.2.2.1 HB.out) h02 (Kd.C_below HR.out.2.2.2.1 HB.out) h03 (Kd.C_below HR.out.2.2.2.2.1 HB.out) k0 HPS0.out).mono ?_); rintro e W6 ⟨rfl, hb⟩; clear g0 g1 g2 g3 g4 g5 g6 y0 y1 y2 y3 y4 y5; replace BX := Sd.mk (blk_below BX.out hb); replace BY := Sd.mk (blk_below BY.out hb); replace HB := Sd.mk (below_then HB.out HB.out.size hb); replace HM7 := Sd.mk (Kd.C_below HM7.out hb); clear hb; obtain ⟨g0, g1, g2, g3, g4, g5, g6, _⟩ := bc7 BX.out; obtain ⟨y0, y1, y2, y3, y4, y5, _⟩ := bc6 BY.out)
     go_upto_region 22 with (go_at_call 13; (refine (b_Passes.calls kp1 A0 c0 l0 A1 c1 mt A2 c2 l2 A3 c3 l3 b4 b5 b6 B1 x1 m1 pb1 pe1 _ (Kd.C_below HR.out.1 HB.out) h00 (Kd.C_below HR.out.2.1 HB.out) h01 (Kd.C_below HR.out.2.2.1 HB.out) h02 (Kd.C_below HR.out.2.2.2.1 HB.out) h03 (Kd.C_below HR.out.2.2.2.2.2.1 HB.out) k1 HPS1.out).mono ?_); rintro e W7 ⟨rfl, hb⟩; clear g0 g1 g2 g3 g4 g5 g6 y0 y1 y2 y3 y4 y5; replace BX := Sd.mk (blk_below BX.out hb); replace BY := Sd.mk (blk_below BY.out hb); replace HB := Sd.mk (below_then HB.out HB.out.size hb); replace HM7 := Sd.mk (Kd.C_below HM7.out hb); clear hb; obtain ⟨g0, g1, g2, g3, g4, g5, g6, _⟩ := bc7 BX.out; obtain ⟨y0, y1, y2, y3, y4, y5, _⟩ := bc6 BY.out)
     go_upto_region 23 with (go_at_call 13; (refine (b_Passes.calls kp2 A0 c0 l0 A1 c1 mt A2 c2 l2 A3 c3 l3 b4 b5 b6 A7 c7 (mixR m0 m1 m0.length) pb2 pe2 _ (Kd.C_below HR.out.1 HB.out) h00 (Kd.C_below HR.out.2.1 HB.out) h01 (Kd.C_below HR.out.2.2.1 HB.out) h02 (Kd.C_below HR.out.2.2.2.1 HB.out) h03 HM7.out hc7 HPS2.out).mono ?_); rintro e W8 ⟨rfl, hb⟩; clear g0 g1 g2 g3 g4 g5 g6 y0 y1 y2 y3 y4 y5; replace BX := Sd.mk (blk_below BX.out hb); replace BY := Sd.mk (blk_below BY.out hb); replace HB := Sd.mk (below_then HB.out HB.out.size hb); replace HM7 := Sd.mk (Kd.C_below HM7.out hb); clear hb; obtain ⟨g0, g1, g2, g3, g4, g5, g6, _⟩ := bc7 BX.out; obtain ⟨y0, y1, y2, y3, y4, y5, _⟩ := bc6 BY.out)
     obtain rfl : pe0 = 0 := HPA.out.1
     obtain rfl : pe1 = 0 := HPA.out.2.1
     obtain rfl : pe2 = 0 := HPA.out.2.2
     clear HPA HPS0 HPS1 HPS2
     go_upto_region 23 with (fail)
     go_cut [188] (fun v188 wd => v188 = .bool false ∧ wd = W8)
     case first =>
      have hpp := HPP.out
      cases pb0 <;> cases pb1 <;> cases pb2 <;> first | exact absurd (hpp rfl rfl) (by decide) | (go_wp2; go_meet; case rel => exact ⟨rfl, rfl⟩)
     case rest =>
      obtain ⟨rfl, hwd⟩ := hcut
      subst hwd
      as_aux_lemma =>
      clear HPP
      go_upto_region 26 with (go_at_call 21; (refine (x_Shock.calls ks0 A0 c0 l0 A1 c1 mt A2 c2 l2 A3 c3 l3 b4 b5 b6 B0 x0 m0 n2 dg sa0 sb0 se0 _ (Kd.C_below HR.out.1 HB.out) h00 (Kd.C_below HR.out.2.1 HB.out) h01 (Kd.C_below HR.out.2.2.1 HB.out) h02 (Kd.C_below HR.out.2.2.2.1 HB.out) h03 (Kd.C_below HR.out.2.2.2.2.1 HB.out) k0 HSH0.out).mono ?_); rintro e W10 ⟨rfl, hb⟩; clear g0 g1 g2 g3 g4 g5 g6 y0 y1 y2 y3 y4 y5; replace BX := Sd.mk (blk_below BX.out hb); replace BY := Sd.mk (blk_below BY.out hb); replace HB := Sd.mk (below_then HB.out HB.out.size hb); replace HM7 := Sd.mk (Kd.C_below HM7.out hb); clear hb; obtain ⟨g0, g1, g2, g3, g4, g5, g6, _⟩ := bc7 BX.out; obtain ⟨y0, y1, y2, y3, y4, y5, _⟩ := bc6 BY.out)
      clear g0 g1 g2 g3 g4 g5 g6 y0 y1 y2 y3 y4 y5
      have BT0 := Sd.mk (blk_new W10 (.cells #[.int .i64 sa0, .int .i64 sb0] 27))
      replace BX := Sd.mk (blk_alloc BX.out (.cells #[.int .i64 sa0, .int .i64 sb0] 27))
      replace BY := Sd.mk (blk_alloc BY.out (.cells #[.int .i64 sa0, .int .i64 sb0] 27))
      replace HB := Sd.mk (below_alloc HB.out (.cells #[.int .i64 sa0, .int .i64 sb0] 27))
      replace HM7 := Sd.mk (Kd.C_below HM7.out (below_alloc (Below.refl _ _) (.cells #[.int .i64 sa0, .int .i64 sb0] 27)))
      generalize W10.alloc (.cells #[.int .i64 sa0, .int .i64 sb0] 27) = V0 at BX BY HB HM7 BT0 ⊢
      generalize W10.heap.size = T0 at BT0 ⊢
      obtain ⟨g0, g1, g2, g3, g4, g5, g6, _⟩ := bc7 BX.out; obtain ⟨y0, y1, y2, y3, y4, y5, _⟩ := bc6 BY.out
      go_upto_region 27 with (go_at_call 21; (refine (x_Shock.calls ks1 A0 c0 l0 A1 c1 mt A2 c2 l2 A3 c3 l3 b4 b5 b6 B1 x1 m1 n2 dg sa1 sb1 se1 _ (Kd.C_below HR.out.1 HB.out) h00 (Kd.C_below HR.out.2.1 HB.out) h01 (Kd.C_below HR.out.2.2.1 HB.out) h02 (Kd.C_below HR.out.2.2.2.1 HB.out) h03 (Kd.C_below HR.out.2.2.2.2.2.1 HB.out) k1 HSH1.out).mono ?_); rintro e W11 ⟨rfl, hb⟩; clear g0 g1 g2 g3 g4 g5 g6 y0 y1 y2 y3 y4 y5; replace BX := Sd.mk (blk_below BX.out hb); replace BY := Sd.mk (blk_below BY.out hb); replace HB := Sd.mk (below_then HB.out HB.out.size hb); replace HM7 := Sd.mk (Kd.C_below HM7.out hb); replace BT0 := Sd.mk (blk_below BT0.out hb); clear hb; obtain ⟨g0, g1, g2, g3, g4, g5, g6, _⟩ := bc7 BX.out; obtain ⟨y0, y1, y2, y3, y4, y5, _⟩ := bc6 BY.out)
      clear g0 g1 g2 g3 g4 g5 g6 y0 y1 y2 y3 y4 y5
      have BT1 := Sd.mk (blk_new W11 (.cells #[.int .i64 sa1, .int .i64 sb1] 27))
      replace BT0 := Sd.mk (blk_alloc BT0.out (.cells #[.int .i64 sa1, .int .i64 sb1] 27))
      replace BX := Sd.mk (blk_alloc BX.out (.cells #[.int .i64 sa1, .int .i64 sb1] 27))
      replace BY := Sd.mk (blk_alloc BY.out (.cells #[.int .i64 sa1, .int .i64 sb1] 27))
      replace HB := Sd.mk (below_alloc HB.out (.cells #[.int .i64 sa1, .int .i64 sb1] 27))
      replace HM7 := Sd.mk (Kd.C_below HM7.out (below_alloc (Below.refl _ _) (.cells #[.int .i64 sa1, .int .i64 sb1] 27)))
      generalize W11.alloc (.cells #[.int .i64 sa1, .int .i64 sb1] 27) = V1 at BX BY HB HM7 BT0 BT1 ⊢
      generalize W11.heap.size = T1 at BT1 ⊢
      obtain ⟨g0, g1, g2, g3, g4, g5, g6, _⟩ := bc7 BX.out; obtain ⟨y0, y1, y2, y3, y4, y5, _⟩ := bc6 BY.out
      go_upto_region 28 with (go_at_call 21; (refine (x_Shock.calls ks2 A0 c0 l0 A1 c1 mt A2 c2 l2 A3 c3 l3 b4 b5 b6 A7 c7 (mixR m0 m1 m0.length) n2 dg sa2 sb2 se2 _ (Kd.C_below HR.out.1 HB.out) h00 (Kd.C_below HR.out.2.1 HB.out) h01 (Kd.C_below HR.out.2.2.1 HB.out) h02 (Kd.C_below HR.out.2.2.2.1 HB.out) h03 HM7.out hc7 HSH2.out).mono ?_); rintro e W12 ⟨rfl, hb⟩; clear g0 g1 g2 g3 g4 g5 g6 y0 y1 y2 y3 y4 y5; replace BX := Sd.mk (blk_below BX.out hb); replace BY := Sd.mk (blk_below BY.out hb); replace HB := Sd.mk (below_then HB.out HB.out.size hb); replace HM7 := Sd.mk (Kd.C_below HM7.out hb); replace BT0 := Sd.mk (blk_below BT0.out hb); replace BT1 := Sd.mk (blk_below BT1.out hb); clear hb; obtain ⟨g0, g1, g2, g3, g4, g5, g6, _⟩ := bc7 BX.out; obtain ⟨y0, y1, y2, y3, y4, y5, _⟩ := bc6 BY.out)
      clear g0 g1 g2 g3 g4 g5 g6 y0 y1 y2 y3 y4 y5
      have BT2 := Sd.mk (blk_new W12 (.cells #[.int .i64 sa2, .int .i64 sb2] 27))
      replace BT0 := Sd.mk (blk_alloc BT0.out (.cells #[.int .i64 sa2, .int .i64 sb2] 27))
      replace BT1 := Sd.mk (blk_alloc BT1.out (.cells #[.int .i64 sa2, .int .i64 sb2] 27))
      replace BX := Sd.mk (blk_alloc BX.out (.cells #[.int .i64 sa2, .int .i64 sb2] 27))
      replace BY := Sd.mk (blk_alloc BY.out (.cells #[.int .i64 sa2, .int .i64 sb2] 27))
      replace HB := Sd.mk (below_alloc HB.out (.cells #[.int .i64 sa2, .int .i64 sb2] 27))
      replace HM7 := Sd.mk (Kd.C_below HM7.out (below_alloc (Below.refl _ _) (.cells #[.int .i64 sa2, .int .i64 sb2] 27)))
      generalize W12.alloc (.cells #[.int .i64 sa2, .int .i64 sb2] 27) = V2 at BX BY HB HM7 BT0 BT1 BT2 ⊢
      generalize W12.heap.size = T2 at BT2 ⊢
      obtain rfl : se0 = se1 := HSE.out.1
      obtain rfl : se0 = se2 := HSE.out.2
      have dq : (se0 != se0) = false := bne_self_eq_false _
      have da : decide (sa2 ≥ min sa0 sa1) = true := decide_eq_true HSS.out.1
      have db : decide (sb2 ≤ max sb0 sb1) = true := decide_eq_true HSS.out.2
      have a0 : V2.cell? ⟨T0, 0, none⟩ = some (.int .i64 sa0) := (blk_cell BT0.out 0).trans rfl
      have b0 : V2.cell? ⟨T0, 1, none⟩ = some (.int .i64 sb0) := (blk_cell BT0.out 1).trans rfl
      have a1 : V2.cell? ⟨T1, 0, none⟩ = some (.int .i64 sa1) := (blk_cell BT1.out 0).trans rfl
      have b1 : V2.cell? ⟨T1, 1, none⟩ = some (.int .i64 sb1) := (blk_cell BT1.out 1).trans rfl
      have a2 : V2.cell? ⟨T2, 0, none⟩ = some (.int .i64 sa2) := (blk_cell BT2.out 0).trans rfl
      have b2 : V2.cell? ⟨T2, 1, none⟩ = some (.int .i64 sb2) := (blk_cell BT2.out 1).trans rfl
      go_wp2_with (go_at_call 25; refine (stands_calls _).mono ?_; rintro e W14 ⟨rfl, hb⟩)
      go_ret
      exact ⟨rfl, below_then HB.out HB.out.size hb⟩
end
end Go.Proofs.YtljfljekcpdpiaaGreat.PB
