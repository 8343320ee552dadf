import Derived.Test.YtljfljekcpdpiaaGreatK3
import Derived.Shelf.Abstract
import Derived.Sort.CutIn
set_option linter.unusedVariables false
set_option linter.unusedSimpArgs false
set_option maxHeartbeats 8000000
set_option maxRecDepth 1000000
namespace Go.Proofs.YtljfljekcpdpiaaGreat.PB
open Go.RowKit Go.Proofs.YtljfljekcpdpiaaGreatW.PrintWords Go.Proofs.YtljfljekcpdpiaaGreatW.PrintLast Go.Proofs.YtljfljekcpdpiaaGreatW.PrintMore
section
section
variable (o : List ByteArray) (mt : List S70) (s : List S27) (p : List S89) (a4 a5 a6 : Int) (r : List Int)
end
def loadB (pr fo sp ot : Int) : Bool := inB pr 0 10000 && (inB fo 0 20000 && (inB sp 0 2000 && inB ot 0 10000000))
def thickB (ts : List S27) : Bool := ts.all fun t => spanB t.f0 t.f1 1 2000
def askLV (zs : List S92) (f1 f2 : Int) (ts : List S27) (pr fo sp ot : Int) : Int :=
  if bottleV zs f1 f2 = 0 then (if (decide (ts.length = zs.length) && thickB ts) = true then (if loadB pr fo sp ot = true then 0 else 1) else 1) else bottleV zs f1 f2
end
section
def st_down.f (a0 : Int) (a1 : Int) : Option (Int) := if a1 = 0 then (none) else (some (wrap64 (Int.tdiv a0 a1)))
theorem st_down.calls (a0 : Int) (a1 : Int) (r : Int) (w : World) (h : st_down.f a0 a1 = some r) :
  Calls Tryz.prog 198 #[.int .i64 a0, .int .i64 a1] w fun e w' => e = .returned (.int .i64 r) ∧ Drawn0 w w' := by
 have H : (if a1 = 0 then (none) else (some (wrap64 (Int.tdiv a0 a1)))) = some r := h
 clear h
 by_cases c3 : a1 = 0
 ·rw [if_pos c3] at H
  exact absurd H (by simp)
 ·rw [if_neg c3] at H
  have c3b0 : (a1 == 0) = false := beq_eq_false_iff_ne.mpr c3
  have c3b1 : (a1 != 0) = true := bne_iff_ne.mpr c3
  obtain rfl := Option.some.inj H
  go_enter Tryz.func198, Tryz.ntmps198
  go_wp2
  go_ret
  exact ⟨by first | rfl | (simp; done) | (simp [*]; done), by repeat (first | exact Drawn0.refl _ | apply Drawn0.step)⟩
end
section
def st_thickness.f (a0_0 : Int) (a0_1 : Int) (a0_2 : Int) (a0_3 : Int) (a0_4 : Int) (a0_5 : Int) (a0_6 : Int) (a0_7 : Int) (a0_8 : Int) (a0_9 : Int) (a1_0 : Int) (a1_1 : Int) : Option (Int × Int) := (st_down.f (wrap64 ((wrap64 ((wrap64 (200 * a1_0)) * a0_4)) * 113)) (wrap64 ((wrap64 (355 * a0_1)) * a0_3))).bind fun t363 => ((st_up.f (wrap64 ((wrap64 ((wrap64 (200 * a1_1)) * a0_5)) * 106)) (wrap64 ((wrap64 (333 * a0_0)) * a0_2))).bind fun t364 => (some (t363, t364)))
def st_thickness.T1 : Bool × List (List Nat × List Nat) := (true, [([], []), ([0], [0]), ([1], [1]), ([], []), ([3], [3]), ([4], [4]), ([2, 5], [2, 5]), ([6], [6]), ([], []), ([8], [8]), ([9], [9]), ([10], [10]), ([], []), ([12], [12]), ([13], [13]), ([11, 14], [11, 14]), ([7, 15], [7, 15]), ([], []), ([17], [17]), ([18], [18]), ([], []), ([20], [20]), ([21], [21]), ([19, 22], [19, 22]), ([23], [23]), ([], []), ([25], [25]), ([26], [26]), ([27], [27]), ([], []), ([29], [29]), ([30], [30]), ([28, 31], [28, 31]), ([24, 32, 16], [24, 32]), ([16, 33], [16, 33]), ([34, 33, 0, 1, 2, 3, 4, 5, 6, 7, 8, 9, 10, 11, 12, 13, 14, 15, 16, 17, 18, 19, 20, 21, 22, 23, 24, 25, 26, 27, 28, 29, 30, 31, 32, 33, 34], [34])])
def st_thickness.B1 : List Nat := [0, 1, 3, 0, 8, 24, 63, 127, 0, 256, 768, 1792, 0, 4096, 12288, 32512, 65535, 0, 131072, 393216, 0, 1048576, 3145728, 8257536, 16646144, 0, 33554432, 100663296, 234881024, 0, 536870912, 1610612736, 4261412864, 8589934591, 17179869183, 34359738367]
theorem st_thickness.tab1 : rtab .any (opsOf Tryz.f156 1) = st_thickness.T1 := by kernel_rfl
theorem st_thickness.bits1 : waitsOk st_thickness.T1.2 st_thickness.B1 = true := by kernel_rfl
theorem st_thickness.calls (a0_0 : Int) (a0_1 : Int) (a0_2 : Int) (a0_3 : Int) (a0_4 : Int) (a0_5 : Int) (a0_6 : Int) (a0_7 : Int) (a0_8 : Int) (a0_9 : Int) (a1_0 : Int) (a1_1 : Int) (r1 : Int) (r2 : Int) (w : World) (h : st_thickness.f a0_0 a0_1 a0_2 a0_3 a0_4 a0_5 a0_6 a0_7 a0_8 a0_9 a1_0 a1_1 = some (r1, r2)) :
  Calls Tryz.prog 156 #[.agg #[.int .i64 a0_0, .int .i64 a0_1, .int .i64 a0_2, .int .i64 a0_3, .int .i64 a0_4, .int .i64 a0_5, .int .i64 a0_6, .int .i64 a0_7, .int .i64 a0_8, .int .i64 a0_9], .agg #[.int .i64 a1_0, .int .i64 a1_1]] w fun e w' => e = .returned (.agg #[.int .i64 r1, .int .i64 r2]) ∧ Below w.heap.size w w' := by
 have hu92 := Tryz.underlying92; have hu27 := Tryz.underlying27; have HB := Sd.mk (Below.refl w.heap.size w)
 have H : ((st_down.f (wrap64 ((wrap64 ((wrap64 (200 * a1_0)) * a0_4)) * 113)) (wrap64 ((wrap64 (355 * a0_1)) * a0_3))).bind fun t363 => ((st_up.f (wrap64 ((wrap64 ((wrap64 (200 * a1_1)) * a0_5)) * 106)) (wrap64 ((wrap64 (333 * a0_0)) * a0_2))).bind fun t364 => (some (t363, t364)))) = some (r1, r2) := h
 clear h; replace H := Option.bind_eq_some_iff.mp H; obtain ⟨t363, A30, H⟩ := H
 try dsimp only at H
 have A3 := Sd.mk A30; clear A30; replace H := Option.bind_eq_some_iff.mp H; obtain ⟨t364, A40, H⟩ := H
 try dsimp only at H
 have A4 := Sd.mk A40; clear A40
 simp only [Option.some.injEq, Prod.mk.injEq] at H
 obtain ⟨rfl, rfl⟩ := H
 go_enter Tryz.func156, Tryz.ntmps156
 try go_wp2_with (first | ((with_reducible refine gate_dst (N := 2) rfl ?_); refine box_event ?hg (N := 2) ?hd (cs := #[.int .i64 a0_0, .int .i64 a0_1, .int .i64 a0_2, .int .i64 a0_3, .int .i64 a0_4, .int .i64 a0_5, .int .i64 a0_6, .int .i64 a0_7, .int .i64 a0_8, .int .i64 a0_9]) (t := 92) ?hr ?_; (case hd => rfl); (case hg => rfl); (case hr => exact tG); intro gb360 hg w5 hbox hb; have BK360 := Sd.mk (hbox); have GW360 := Sd.mk (bSz hg (bBl HB.out)); have GE360 := Sd.mk (bSz hg (bBl HB.out)); replace HB := Sd.mk (below_step (bBl HB.out) hb); clear hb hbox hg) | ((with_reducible refine gate_dst (N := 3) rfl ?_); refine box_event ?hg (N := 3) ?hd (cs := #[.int .i64 a1_0, .int .i64 a1_1]) (t := 27) ?hr ?_; (case hd => rfl); (case hg => rfl); (case hr => exact tG); intro gb361 hg w6 hbox hb; have BK361 := Sd.mk (hbox); have GW361 := Sd.mk (bSz hg (bBl HB.out)); have GE361 := Sd.mk (bSz hg (bBl HB.out)); replace HB := Sd.mk (below_step (bBl HB.out) hb); have NB360_361 := Sd.mk (bNl hg (bkA BK360.out)); have NB361_360 := Sd.mk (bNg hg (bkA BK360.out)); replace BK360 := Sd.mk (blk_below (bkA BK360.out) hb); clear hb hbox hg) | ((with_reducible refine gate_dst (N := 4) rfl ?_); refine box_event ?hg (N := 4) ?hd (cs := #[.int .i64 0, .int .i64 0]) (t := 27) ?hr ?_; (case hd => rfl); (case hg => rfl); (case hr => exact tG); intro gb362 hg w7 hbox hb; have BK362 := Sd.mk (hbox); have GW362 := Sd.mk (bSz hg (bBl HB.out)); have GE362 := Sd.mk (bSz hg (bBl HB.out)); replace HB := Sd.mk (below_step (bBl HB.out) hb); have NB360_362 := Sd.mk (bNl hg (bkA BK360.out)); have NB362_360 := Sd.mk (bNg hg (bkA BK360.out)); replace BK360 := Sd.mk (blk_below (bkA BK360.out) hb); have NB361_362 := Sd.mk (bNl hg (bkA BK361.out)); have NB362_361 := Sd.mk (bNg hg (bkA BK361.out)); replace BK361 := Sd.mk (blk_below (bkA BK361.out) hb); clear hb hbox hg))
 replace BK360 := Sd.mk (blk_drew BK360.out); replace BK361 := Sd.mk (blk_drew BK361.out); replace BK362 := Sd.mk (blk_drew BK362.out); replace HB := Sd.mk (below_drew1 HB.out)
 refine start_ (n := 36) (S := fun w' => w'.cell? ⟨gb361, 0, none⟩ = some (.int .i64 a1_0) ∧ w'.cell? ⟨gb361, 1, none⟩ = some (.int .i64 a1_1) ∧ w'.cell? ⟨gb360, 0, none⟩ = some (.int .i64 a0_0) ∧ w'.cell? ⟨gb360, 1, none⟩ = some (.int .i64 a0_1) ∧ w'.cell? ⟨gb360, 2, none⟩ = some (.int .i64 a0_2) ∧ w'.cell? ⟨gb360, 3, none⟩ = some (.int .i64 a0_3) ∧ w'.cell? ⟨gb360, 4, none⟩ = some (.int .i64 a0_4) ∧ w'.cell? ⟨gb360, 5, none⟩ = some (.int .i64 a0_5) ∧ w'.cell? ⟨gb360, 6, none⟩ = some (.int .i64 a0_6) ∧ w'.cell? ⟨gb360, 7, none⟩ = some (.int .i64 a0_7) ∧ w'.cell? ⟨gb360, 8, none⟩ = some (.int .i64 a0_8) ∧ w'.cell? ⟨gb360, 9, none⟩ = some (.int .i64 a0_9)) (ds := []) (bA 36 0) (by kernel_rfl) rfl rfl ⟨(blk_cell BK361.out 0).trans rfl, (blk_cell BK361.out 1).trans rfl, (blk_cell BK360.out 0).trans rfl, (blk_cell BK360.out 1).trans rfl, (blk_cell BK360.out 2).trans rfl, (blk_cell BK360.out 3).trans rfl, (blk_cell BK360.out 4).trans rfl, (blk_cell BK360.out 5).trans rfl, (blk_cell BK360.out 6).trans rfl, (blk_cell BK360.out 7).trans rfl, (blk_cell BK360.out 8).trans rfl, (blk_cell BK360.out 9).trans rfl⟩ (fun hHeld => ?_); refine with_tabW st_thickness.tab1 st_thickness.bits1 (fun HT_ HW_ => ?_)
 generalize w7.drew = w8 at BK360 BK361 BK362 HB hHeld ⊢
 refine pQ 0 (some 5) (bA 36 1) ?_
 refine pQ 3 (some 8) (bA 36 9) ?_
 refine pQ 4 (some 9) (bA 36 25) ?_
 refine pQ 8 (some 13) (bA 36 281) ?_
 refine pQ 9 (some 14) (bA 36 793) ?_
 refine pQ 12 (some 17) (bA 36 4889) ?_
 refine pQ 13 (some 18) (bA 36 13081) ?_
 refine pQ 17 (some 22) (bA 36 144153) ?_
 refine pQ 20 (some 25) (bA 36 1192729) ?_
 refine pQ 21 (some 26) (bA 36 3289881) ?_
 refine pQ 25 (some 30) (bA 36 36844313) ?_
 refine pQ 26 (some 31) (bA 36 103953177) ?_
 refine pQ 29 (some 34) (bA 36 640824089) ?_
 refine pQ 30 (some 35) (bA 36 1714565913) ?_
 refine tQ 1 (some 6) (bA 36 1714565915) ?_
 refine pQ 2 (some 7) (bA 36 1714565919) ?_
 refine tQ 5 (some 10) (bA 36 1714565951) ?_
 refine pQ 6 (some 11) (bA 36 1714566015) ?_
 refine pQ 7 (some 12) (bA 36 1714566143) ?_
 refine tQ 10 (some 15) (bA 36 1714567167) ?_
 refine pQ 11 (some 16) (bA 36 1714569215) ?_
 refine tQ 14 (some 19) (bA 36 1714585599) ?_
 refine pQ 15 (some 20) (bA 36 1714618367) ?_
 refine tQ 18 (some 23) (bA 36 1714880511) ?_
 refine pQ 19 (some 24) (bA 36 1715404799) ?_
 refine tQ 22 (some 27) (bA 36 1719599103) ?_
 refine pQ 23 (some 28) (bA 36 1727987711) ?_
 refine pQ 24 (some 29) (bA 36 1744764927) ?_
 refine tQ 27 (some 32) (bA 36 1878982655) ?_
 refine pQ 28 (some 33) (bA 36 2147418111) ?_
 refine tQ 31 (some 36) (bA 36 4294901759) ?_
 refine pQ 32 (some 37) (bA 36 8589869055) ?_
 refine one_ (i := 16) (N := some 21) (bA 36 8589934591) rfl rfl (one_of HT_.out (by kernel_rfl)) (by decide) (fun K hK => ?_)
 refine goes_ Tryz.func198 (by kernel_rfl) rfl #[.int .i64 (wrap64 ((wrap64 ((wrap64 (200 * a1_0)) * a0_4)) * 113)), .int .i64 (wrap64 ((wrap64 (355 * a0_1)) * a0_3))] (by rfl) rfl rfl tM ?_
 with_reducible refine (st_down.calls (wrap64 ((wrap64 ((wrap64 (200 * a1_0)) * a0_4)) * 113)) (wrap64 ((wrap64 (355 * a0_1)) * a0_3)) t363 _ A3.out).mono ?_
 rintro e w' ⟨rfl, ⟨nd, rfl⟩⟩
 refine ⟨_, rfl, ?_⟩
 refine hK.out _ _ ⟨(blk_cell BK361.out 0).trans rfl, (blk_cell BK361.out 1).trans rfl, (blk_cell BK360.out 0).trans rfl, (blk_cell BK360.out 1).trans rfl, (blk_cell BK360.out 2).trans rfl, (blk_cell BK360.out 3).trans rfl, (blk_cell BK360.out 4).trans rfl, (blk_cell BK360.out 5).trans rfl, (blk_cell BK360.out 6).trans rfl, (blk_cell BK360.out 7).trans rfl, (blk_cell BK360.out 8).trans rfl, (blk_cell BK360.out 9).trans rfl⟩ (fun hHeld => ?_)
 clear hK K
 refine norm_ (a' := ?_) ?_ ?_
 rotate_left
 ·show Act.put _ (some 21) _ = _
  exact tP
 refine one_ (i := 33) (N := some 38) (bA 36 17179869183) rfl rfl (one_of HT_.out (by kernel_rfl)) (by decide) (fun K hK => ?_)
 refine goes_ Tryz.func159 (by kernel_rfl) rfl #[.int .i64 (wrap64 ((wrap64 ((wrap64 (200 * a1_1)) * a0_5)) * 106)), .int .i64 (wrap64 ((wrap64 (333 * a0_0)) * a0_2))] (by rfl) rfl rfl tM ?_
 with_reducible refine (st_up.calls (wrap64 ((wrap64 ((wrap64 (200 * a1_1)) * a0_5)) * 106)) (wrap64 ((wrap64 (333 * a0_0)) * a0_2)) t364 _ A4.out).mono ?_
 rintro e w' ⟨rfl, ⟨nd, rfl⟩⟩
 refine ⟨_, rfl, ?_⟩
 refine hK.out _ _ ⟨(blk_cell BK361.out 0).trans rfl, (blk_cell BK361.out 1).trans rfl, (blk_cell BK360.out 0).trans rfl, (blk_cell BK360.out 1).trans rfl, (blk_cell BK360.out 2).trans rfl, (blk_cell BK360.out 3).trans rfl, (blk_cell BK360.out 4).trans rfl, (blk_cell BK360.out 5).trans rfl, (blk_cell BK360.out 6).trans rfl, (blk_cell BK360.out 7).trans rfl, (blk_cell BK360.out 8).trans rfl, (blk_cell BK360.out 9).trans rfl⟩ (fun hHeld => ?_)
 clear hK K
 refine norm_ (a' := ?_) ?_ ?_
 rotate_left
 ·show Act.put _ (some 38) _ = _
  exact tP
 refine pQ 34 (some 39) (bA 36 34359738367) ?_
 refine one_ (i := 35) (N := none) (bA 36 68719476735) rfl rfl (one_of HT_.out (by kernel_rfl)) (by decide) (fun K hK => ?_)
 have hs9 : w8.cell? ⟨gb362, 0, none⟩ = some (.int .i64 0) := (blk_cell BK362.out 0).trans rfl
 have hfs9 := blk_frozen BK362.out 0; have hns9_0 := NB360_362.out; have hns9_1 := NB361_362.out; have hms9_0 := NB362_360.out; have hms9_1 := NB362_361.out
 have hs10 : w8.cell? ⟨gb362, 1, none⟩ = some (.int .i64 0) := (blk_cell BK362.out 1).trans rfl
 have hfs10 := blk_frozen BK362.out 1; have hns10_0 := NB360_362.out; have hns10_1 := NB361_362.out; have hms10_0 := NB362_360.out; have hms10_1 := NB362_361.out
 refine skip_ (w1 := ?_) (by rfl) rfl ?_ ?_
 rotate_left
 ·go_simp
  rfl
 refine hK.out _ _ ⟨((cell_far (p := ⟨gb362, _, none⟩) NB361_362.out _).trans (((cell_far (p := ⟨gb362, _, none⟩) NB361_362.out _).trans (hHeld.1)))), ((cell_far (p := ⟨gb362, _, none⟩) NB361_362.out _).trans (((cell_far (p := ⟨gb362, _, none⟩) NB361_362.out _).trans (hHeld.2.1)))), ((cell_far (p := ⟨gb362, _, none⟩) NB360_362.out _).trans (((cell_far (p := ⟨gb362, _, none⟩) NB360_362.out _).trans (hHeld.2.2.1)))), ((cell_far (p := ⟨gb362, _, none⟩) NB360_362.out _).trans (((cell_far (p := ⟨gb362, _, none⟩) NB360_362.out _).trans (hHeld.2.2.2.1)))), ((cell_far (p := ⟨gb362, _, none⟩) NB360_362.out _).trans (((cell_far (p := ⟨gb362, _, none⟩) NB360_362.out _).trans (hHeld.2.2.2.2.1)))), ((cell_far (p := ⟨gb362, _, none⟩) NB360_362.out _).trans (((cell_far (p := ⟨gb362, _, none⟩) NB360_362.out _).trans (hHeld.2.2.2.2.2.1)))), ((cell_far (p := ⟨gb362, _, none⟩) NB360_362.out _).trans (((cell_far (p := ⟨gb362, _, none⟩) NB360_362.out _).trans (hHeld.2.2.2.2.2.2.1)))), ((cell_far (p := ⟨gb362, _, none⟩) NB360_362.out _).trans (((cell_far (p := ⟨gb362, _, none⟩) NB360_362.out _).trans (hHeld.2.2.2.2.2.2.2.1)))), ((cell_far (p := ⟨gb362, _, none⟩) NB360_362.out _).trans (((cell_far (p := ⟨gb362, _, none⟩) NB360_362.out _).trans (hHeld.2.2.2.2.2.2.2.2.1)))), ((cell_far (p := ⟨gb362, _, none⟩) NB360_362.out _).trans (((cell_far (p := ⟨gb362, _, none⟩) NB360_362.out _).trans (hHeld.2.2.2.2.2.2.2.2.2.1)))), ((cell_far (p := ⟨gb362, _, none⟩) NB360_362.out _).trans (((cell_far (p := ⟨gb362, _, none⟩) NB360_362.out _).trans (hHeld.2.2.2.2.2.2.2.2.2.2.1)))), ((cell_far (p := ⟨gb362, _, none⟩) NB360_362.out _).trans (((cell_far (p := ⟨gb362, _, none⟩) NB360_362.out _).trans (hHeld.2.2.2.2.2.2.2.2.2.2.2))))⟩ (fun hHeld => ?_)
 clear hK K
 refine done_ (done_of HT_.out (by kernel_rfl)) ?_
 try go_wp2
 refine bodyPost_ret (results_cell_row rfl _ _ gb362 27 #[.int .i64 t363, .int .i64 t364] (0, 0) _ rfl (by refine bkZ ?_; refine blk_put (cs := #[.int .i64 t363, .int .i64 0]) ?_ 1 _ rfl; refine bkZ ?_; refine blk_put (cs := #[.int .i64 0, .int .i64 0]) ?_ 0 _ rfl; refine bkZ ?_; exact BK362.out) Tryz.underlying27 rfl (by kernel_rfl)) rfl ?_
 exact ⟨tE, bBl HB.out⟩
end
section
open Go.RowKit Go.Shelf Go.Proofs.YtljfljekcpdpiaaGreatW.PrintWords Go.Proofs.YtljfljekcpdpiaaGreatW.PrintLast Go.Proofs.YtljfljekcpdpiaaGreatW.PrintMore
attribute [local go_sem] Oper.semAt_some
def thick1 (x : S92) (lo hi : Int) : Option (Int × Int) := st_thickness.f x.f0.f0 x.f0.f1 x.f1.f0 x.f1.f1 x.f2.f0 x.f2.f1 x.f3.f0 x.f3.f1 x.f4.f0 x.f4.f1 lo hi
def thickL (zs : List S92) (lo hi : Int) : Nat → Option (List S27)
  | 0 => some []
  | k + 1 => (thickL zs lo hi k).bind fun l => (thick1 (rd_T92 zs (k : Int)) lo hi).bind fun p => some (l ++ [⟨p.1, p.2⟩])
theorem thickL_some (zs : List S92) (lo hi : Int) : ∀ (n : Nat) (l : List S27), thickL zs lo hi n = some l → ∀ k, k < n → ∃ p, thick1 (rd_T92 zs (k : Int)) lo hi = some p
  | 0, l, h, k, hk => by omega
  | n + 1, l, h, k, hk => by
    simp only [thickL] at h
    obtain ⟨l', h1, h2⟩ := Option.bind_eq_some_iff.mp h
    obtain ⟨p, h3, _⟩ := Option.bind_eq_some_iff.mp h2
    by_cases e : k = n
    · subst e; exact ⟨p, h3⟩
    · exact thickL_some zs lo hi n l' h1 k (by omega)
theorem thickL_len (zs : List S92) (lo hi : Int) : ∀ (n : Nat) (l : List S27), thickL zs lo hi n = some l → l.length = n
  | 0, l, h => by simp [thickL] at h; subst h; rfl
  | n + 1, l, h => by
    simp only [thickL] at h
    obtain ⟨l', h1, h2⟩ := Option.bind_eq_some_iff.mp h
    obtain ⟨p, h3, h4⟩ := Option.bind_eq_some_iff.mp h2
    obtain rfl := Option.some.inj h4
    simp [thickL_len zs lo hi n l' h1]
def x_Thickness.f (l0_0 : List S92) (a0_1 a0_2 a1_0 a1_1 : Int) : Option (List S27 × Int) :=
  if bottleV l0_0 a0_1 a0_2 = 0 then (if spanB a1_0 a1_1 1 100000 = true then (thickL l0_0 a1_0 a1_1 l0_0.length).bind fun l => some (l, 0) else some ([], 1)) else some ([], bottleV l0_0 a0_1 a0_2)
theorem callsDIn_wide_of_wpS {P : Program} {n : Nat} {f : FuncId} {fn : Func} {c : Code} {args : Array Value} {u : FrameMode} {w : World} {R : Ending → FrameMode → World → Prop}
    (hf : P.funcs[f]? = some fn) (hb : fn.body = some c)
    (h : ∀ (c₀ : Frame) (cs : List Frame), c₀.mode = u →
      c.wpS P (bodyPostS P fn c₀ cs R) { tmps := args ++ Array.replicate (fn.ntmps - args.size) undef, defers := [] } (c₀ :: cs) w) :
    CallsDIn Fence.wide n P f args u w R := by
  refine ⟨trivial, fun c₀ cs hu _ => ?_⟩
  let b : Frame := { (default : Frame) with fn := f, kind := .deferred }
  have henter : Frame.enter P f args .deferred =
      b.at { tmps := args ++ Array.replicate (fn.ntmps - args.size) undef, defers := [] } [.code c] := by
    simp [Frame.enter, Frame.at, hf, hb, b]
  obtain ⟨e, a', cs', w', hq, harr⟩ := h c₀ cs hu b [] rfl rfl
  rw [← henter] at harr
  cases e with
  | normal =>
    obtain ⟨hd, u', rfl, v, hr, hR⟩ := hq
    exact ⟨.returned v, u', w', _, hR, comesIn_wide.2 (Steps.trans harr (.one step_end)), rfl, rfl, rfl, hd, fn, hf, hr⟩
  | ret =>
    obtain ⟨hd, u', rfl, v, hr, hR⟩ := hq
    obtain ⟨todo, hs⟩ := harr
    exact ⟨.returned v, u', w', _, hR, comesIn_wide.2 hs, rfl, rfl, rfl, hd, fn, hf, hr⟩
  | panic chain =>
    obtain ⟨hd, u', rfl, hR⟩ := hq
    obtain ⟨todo, hs⟩ := harr
    exact ⟨.panicked chain, u', w', _, hR, comesIn_wide.2 hs, rfl, rfl, rfl, hd, fn, hf⟩
  | exit id => exact hq.elim
  | goto l => exact hq.elim
  | outgrown =>
    obtain ⟨u', hR⟩ := hq
    exact ⟨.outgrown, u', w', b, hR, comesIn_wide.2 (harr.resolve_left (by simp [b])), rfl, rfl, trivial⟩
theorem door139I_fail (n : Nat) (B : Nat) (e x : Int) (older : List PanicEntry) (w : World) (hB : w.heap[B]? = some (.cells #[.int .i64 x] 38 (0, 0))) :
    CallsDIn Fence.wide n Tryz.prog 154 #[.pointer (some ⟨B, 0, none⟩)] (.panicking ({ v := failV e, recovered := false } :: older)) w fun en u' w' =>
      en = .returned (.tuple #[]) ∧ u' = .panicking ({ v := failV e, recovered := true } :: older) ∧ w' = (w.alloc (.cells #[.int .i64 e] 183)).setCell ⟨B, 0, none⟩ (.int .i64 e) := by
  refine callsDIn_wide_of_wpS Tryz.func154 rfl fun c₀ cs hu => ?_
  apply wpS_region
  simp [wpOpsS, go_sem, recoverD, hu, Tryz.ntmps154, Exit.thenS, failV]
  refine (caught_fail B e x w hB).mono ?_
  rintro e1 w1 ⟨rfl, rfl⟩
  simp [bodyPostS, results, Tryz.results154]
theorem door139I_ok (n : Nat) (B : Nat) (w : World) :
    CallsDIn Fence.wide n Tryz.prog 154 #[.pointer (some ⟨B, 0, none⟩)] .returning w fun en u' w' => en = .returned (.tuple #[]) ∧ u' = .returning ∧ w' = w := by
  refine callsDIn_wide_of_wpS Tryz.func154 rfl fun c₀ cs hu => ?_
  apply wpS_region
  simp [wpOpsS, go_sem, recoverD, hu, Tryz.ntmps154, Exit.thenS]
  refine (caught_nil ⟨B, 0, none⟩ w).mono ?_
  rintro e1 w1 ⟨rfl, rfl⟩
  cases c₀
  simp_all [bodyPostS, results, Tryz.results154]
theorem leavesInM_fn {P : Program} {n : Nat} {fn : Func} {tmps : Array Value} {R : Ending → World → Prop} {fv : Fn} {cap dargs : Array Value} {ds : List Deferred} {u : FrameMode}
    {w : World} {f : FuncId} {args : Array Value} (hu : u ≠ .run) (hi : (invoke (.fn fv cap) dargs).run P w = .ok (.enter f args) w)
    (h : CallsDIn Fence.wide (n - 1) P f args u w fun
      | .returned _, u', w' => LeavesInM Fence.wide n P fn tmps R ds (settle u') w'
      | .panicked chain, u', w' => LeavesInM Fence.wide n P fn tmps R ds (raised u' chain) w'
      | .outgrown, _, w' => R .outgrown w') :
    LeavesInM Fence.wide n P fn tmps R ({ target := .fn fv cap, args := dargs } :: ds) u w :=
  ⟨hu, .inr ⟨(fun h => nomatch h), fv, cap, f, args, rfl, hi, fun _ _ => trivial, h⟩⟩
theorem stepI_append_cells {F : Fence} {n : Nat} {P : Program} {ops : Array Oper} {o : Oper} {a : Act} {Q : Exit → Act → World → Prop} {K : Act → World → Prop} {w0 W : World} (base : Nat) {G : Prop} (hw : Region.wanted o (yielded ops a.tmps) = true) (s x : Operand) (t e : TypeId) (z : Value) (size bytes : Nat)
    (ho : o.op = .call { callee := .builtin .append, args := #[s, x], argTypes := #[t, t] })
    (ht : P.underlying t = some (.slice e)) (hinfo : (P.info? e).map (fun i => (i.zero, i.size, i.bytes)) = some (some z, size, bytes)) (hz : z.cells.size = size) (hs0 : 0 < size) (hb0 : 0 < bytes)
    (v : Value) (m : Nat) (xs ys : List Value) (hs : a.eval s = v) (hx : a.eval x = .slice (some ⟨W.heap.size, 0, none⟩) 1 1) (hys : ys.length = size) (h1 : ∀ u ∈ ys, u.oneCell' = true)
    (HO : W.ownsRow base e size v m xs) (HB : Below base w0 W) (hbase : base ≤ W.heap.size) (hl : (m + 1) * bytes ≤ 140737488355328)
    (h : ∀ v1 w1, w1.ownsRow base e size v1 (m + 1) (xs ++ ys) → Below base w0 w1 → W.grownBy w1 v.ownBlock → (v1.ownBlock = v.ownBlock ∨ ∃ b, v1.ownBlock = some b ∧ W.heap.size ≤ b) → K (a.put o.dst v1) w1) :
    if Region.wanted o (yielded ops a.tmps) = true then Oper.wpIn F n P o a (W.alloc (.cells ys.toArray e)) K Q else G := by
  obtain ⟨i0, hi, hzz⟩ := Option.map_eq_some_iff.1 hinfo
  simp only [Prod.mk.injEq] at hzz
  obtain ⟨hz0, hz1, hz2⟩ := hzz
  have hlen : m + 1 ≤ 140737488355328 := Nat.le_trans (Nat.le_mul_of_pos_right _ hb0) hl
  rw [if_pos hw]
  obtain ⟨v1, w1, hr, hown, hg, _, hat⟩ := run_append_own_at (P := P) (W.alloc (.cells ys.toArray e)) base t o.type e i0 z size bytes ht hi hz0 hz1 hz2 hz hs0 v m xs (HO.alloc _) ⟨W.heap.size, 0, none⟩ 1 1 ys (by rw [hys]; simp)
    (by simpa using World.news_of_block (cs := ys.toArray) (t := e) (fr := (0, 0)) (heap_alloc_new W (.cells ys.toArray e))) h1 (by simp only [maxLen]; omega) hl (by simp; omega)
  have hK : K (a.put o.dst v1) w1 := by
    refine h v1 w1 hown ((HB.alloc hbase _).grown hg (by simp; omega) (own_base HO)) (World.grownBy.trans (World.grownBy_alloc W _ _) hg) ?_
    rcases hat with hat | hat
    · exact .inl hat
    · exact .inr ⟨_, hat, by simp⟩
  unfold Oper.wpIn
  refine ⟨?_, ?_⟩
  · simp [Oper.about, ho, resolve, Target.leads, Sem.run_pure]
  · rw [Oper.semAt_plain F _ _ (by rw [ho]; intro c hc'; cases hc')]
    simp [execOp, ho, resolve, invoke, builtin, hs, hx, hr, Result.andThen]
    exact hK
structure ThI (A : Option Addr) (c : Nat) (zs : List S92) (f1 f2 lo hi : Int) (w : World) (g B : Nat) (k : Nat) (W : World) (v : Value) (l : List S27) : Prop where
  li : thickL zs lo hi k = some l
  bx : W.heap[w.heap.size]? = some (.cells #[.slice A zs.length c, .int .i64 f1, .int .i64 f2] 73 (0, 0))
  sp : W.heap[w.heap.size + 1]? = some (.cells #[.int .i64 lo, .int .i64 hi] 27 (0, 0))
  sl : W.heap[w.heap.size + 1 + 1]? = some (.cells #[v] 24 (0, 0))
  er : W.heap[w.heap.size + 1 + 1 + 1]? = some (.cells #[.int .i64 0] 38 (0, 0))
  rb : W.heap[g]? = some (.cells #[.slice A zs.length c, .int .i64 f1, .int .i64 f2] 73 (0, 0))
  be : Below w.heap.size w W
  ro : Kd.R k27 27 W (B + 2) (fun _ => True) v l
theorem R_put {W : World} {v : Value} {l : List S27} {B r : Nat} (h : Kd.R k27 27 W B (fun _ => True) v l) (hr : r < B) (o' : Obj) : Kd.R k27 27 (W.putObj r o') B (fun _ => True) v l := by
  refine Kd.R_mono (Kd.R_step (Kd.R_bound h) (fun k hk hlt => ?_)) (fun _ _ => trivial)
  exact World.putObj_heap_other (by have := hk.2.1; omega)
section
variable {A : Option Addr} {c : Nat} {zs : List S92} {f1 f2 lo hi : Int} {w : World} {g B k : Nat} {W : World} {v : Value} {l : List S27}
theorem ThI.alloc (h : ThI A c zs f1 f2 lo hi w g B k W v l) (o : Obj) : ThI A c zs f1 f2 lo hi w g B k (W.alloc o) v l :=
  ⟨h.li, blk_alloc h.bx o, blk_alloc h.sp o, blk_alloc h.sl o, blk_alloc h.er o, blk_alloc h.rb o, below_alloc h.be o, Kd.R_alloc h.ro o⟩
theorem ThI.put (h : ThI A c zs f1 f2 lo hi w g B k W v l) (o : Obj) (h1 : w.heap.size + 4 ≤ g) (h2 : g < B) (h3 : B + 1 < W.heap.size) : ThI A c zs f1 f2 lo hi w g B k (W.putObj (B + 1) o) v l :=
  ⟨h.li, putObj_heap_keep (by omega) h.bx, putObj_heap_keep (by omega) h.sp, putObj_heap_keep (by omega) h.sl, putObj_heap_keep (by omega) h.er, putObj_heap_keep (by omega) h.rb, below_putObj h.be (by omega) h3, R_put h.ro (by omega) o⟩
end
theorem stepI_R_append {F : Fence} {n : Nat} {P : Program} {ops : Array Oper} {o : Oper} {a : Act} {Q : Exit → Act → World → Prop} {K : Act → World → Prop} {α : Type} (d : Kd α) {w0 W : World} (base : Nat) {G : Prop} (hw : Region.wanted o (yielded ops a.tmps) = true) (s x : Operand) (t e : TypeId) (z : Value) (bytes : Nat)
    (ho : o.op = .call { callee := .builtin .append, args := #[s, x], argTypes := #[t, t] })
    (ht : P.underlying t = some (.slice e)) (hinfo : (P.info? e).map (fun i => (i.zero, i.size, i.bytes)) = some (some z, d.sz, bytes)) (hz : z.cells.size = d.sz) (hs0 : 0 < d.sz) (hb0 : 0 < bytes)
    (v : Value) (xs : List α) (p : α) (cs : List Value) (ok okp : Nat → Prop) (hs : a.eval s = v) (hx : a.eval x = .slice (some ⟨W.heap.size, 0, none⟩) 1 1) (hp : d.M W base okp p cs) (hokp : ∀ k, okp k → ok k ∧ some k ≠ v.ownBlock) (hfresh : ∀ k, W.heap.size ≤ k → ok k)
    (HO : d.R e W base ok v xs) (HB : Below base w0 W) (hbase : base ≤ W.heap.size) (hl : (xs.length + 1) * bytes ≤ 140737488355328)
    (h : ∀ v1 w1, d.R e w1 base ok v1 (xs ++ [p]) → Below base w0 w1 → K (a.put o.dst v1) w1) :
    if Region.wanted o (yielded ops a.tmps) = true then Oper.wpIn F n P o a (W.alloc (.cells cs.toArray e)) K Q else G := by
  obtain ⟨h0, inner, hown, hr⟩ := HO
  refine stepI_append_cells base hw s x t e z d.sz bytes ho ht hinfo hz hs0 hb0 v xs.length inner cs hs hx (d.K_len (d.K_of_M hp)) (d.K_one (d.K_of_M hp)) hown HB hbase hl ?_
  intro v1 w1 hown1 hb1 hg1 hat1
  exact h v1 w1 (Kd.R_appended h0 hr hp hokp hfresh hown1 hg1 hat1) hb1
theorem rings_b (v1 v2 v3 : Value) (w : World) :
    Calls Tryz.prog 111 #[.agg #[v1, v2, v3]] w fun e w' => ∃ g, e = .returned (.func (.func 187) #[] #[.pointer (some ⟨g, 0, none⟩)]) ∧ w.heap.size ≤ g ∧ w'.heap[g]? = some (.cells #[v1, v2, v3] 73 (0, 0)) ∧ Below w.heap.size w w' :=
  (callsIn_wide (n := 9)).1 ((rings_callsI Fence.wide 9 trivial rfl v1 v2 v3 w).mono fun e w' he => ⟨w.heap.size, he.1, Nat.le_refl _, by rw [he.2]; exact blk_new _ _, by rw [he.2]; exact below_alloc (Below.refl _ _) _⟩)
theorem Below5 {B : Nat} {w w1 : World} {g : Nat} {o : Obj} (hb : Below B w w1) (h : w.heap[g]? = some o) (hg : g < B) : w1.heap[g]? = some o := (hb.block g hg).trans h
theorem bottle_len {zs : List S92} {f1 f2 : Int} (h : bottleV zs f1 f2 = 0) : zs.length ≤ 24 := by
  unfold bottleV at h
  split at h
  · cases h
  · omega
theorem k27_E : k27.E = [] := rfl
theorem bottle_ok (A : Option Addr) (c : Nat) (zs : List S92) (f1 f2 : Int) (w : World) (hr : Kd.C k92 w A zs.length zs) (h : bottleV zs f1 f2 = 0) :
    Calls Tryz.prog 120 #[.agg #[.slice A zs.length c, .int .i64 f1, .int .i64 f2]] w fun en w' => en = .returned (.tuple #[]) ∧ Below w.heap.size w w' :=
  (bottle_calls A c zs f1 f2 w hr).mono fun e w' he => ⟨by rw [he.1, h]; rfl, he.2⟩
theorem bottle_no (A : Option Addr) (c : Nat) (zs : List S92) (f1 f2 : Int) (w : World) (hr : Kd.C k92 w A zs.length zs) (h : bottleV zs f1 f2 ≠ 0) :
    Calls Tryz.prog 120 #[.agg #[.slice A zs.length c, .int .i64 f1, .int .i64 f2]] w fun en w' => en = .panicked (failC (bottleV zs f1 f2)) ∧ Below w.heap.size w w' :=
  (bottle_calls A c zs f1 f2 w hr).mono fun e w' he => ⟨by rw [he.1, endF_ne h], he.2⟩
theorem run_var24 (w : World) (g : Nat) (v : Value) (h : w.heap[g]? = some (.cells #[v] 24 (0, 0))) : (loadVar 24 ⟨g, 0, none⟩).run Tryz.prog w = .ok v w := by
  have hc : w.cell? ⟨g, 0, none⟩ = some v := (blk_cell h 0).trans rfl
  simp [loadVar, go_sem, hc]
theorem x_Thickness.calls (A : Option Addr) (c : Nat) (zs : List S92) (f1 f2 lo hi : Int) (l2 : List S27) (r2 : Int) (w : World) (hr : Kd.C k92 w A zs.length zs) (hc : zs.length ≤ c) (h : x_Thickness.f zs f1 f2 lo hi = some (l2, r2)) :
    Calls Tryz.prog 61 #[.agg #[.slice A zs.length c, .int .i64 f1, .int .i64 f2], .agg #[.int .i64 lo, .int .i64 hi]] w fun e w' => ∃ v0_ : Value, e = .returned (.tuple #[v0_, .int .i64 r2]) ∧ Kd.R k27 27 w' w.heap.size (fun _ => True) v0_ l2 ∧ Below w.heap.size w w' := by
  have hmf := run_makeFunc_
  obtain ⟨b1, b2, b3, b4, hbl, hsz⟩ := blk_four w (.cells #[.slice A zs.length c, .int .i64 f1, .int .i64 f2] 73) (.cells #[.int .i64 lo, .int .i64 hi] 27) (.cells #[.slice none 0 0] 24) (.cells #[.int .i64 0] 38)
  have BX := Sd.mk b1
  have BS := Sd.mk b2
  have BL := Sd.mk b3
  have BE := Sd.mk b4
  have HSZ := Sd.mk hsz
  have HB := Sd.mk hbl
  have HR := Sd.mk (Kd.C_below hr hbl)
  have HR0 := Sd.mk hr
  have hb0 : ((((w.alloc (.cells #[.slice A zs.length c, .int .i64 f1, .int .i64 f2] 73)).alloc (.cells #[.int .i64 lo, .int .i64 hi] 27)).alloc (.cells #[.slice none 0 0] 24)).alloc (.cells #[.int .i64 0] 38)).cell? ⟨w.heap.size, 0, none⟩ = some (.slice A zs.length c) := (blk_cell b1 0).trans rfl
  have hb1 : ((((w.alloc (.cells #[.slice A zs.length c, .int .i64 f1, .int .i64 f2] 73)).alloc (.cells #[.int .i64 lo, .int .i64 hi] 27)).alloc (.cells #[.slice none 0 0] 24)).alloc (.cells #[.int .i64 0] 38)).cell? ⟨w.heap.size, 0 + 1, none⟩ = some (.int .i64 f1) := (blk_cell b1 1).trans rfl
  have hb2 : ((((w.alloc (.cells #[.slice A zs.length c, .int .i64 f1, .int .i64 f2] 73)).alloc (.cells #[.int .i64 lo, .int .i64 hi] 27)).alloc (.cells #[.slice none 0 0] 24)).alloc (.cells #[.int .i64 0] 38)).cell? ⟨w.heap.size, 0 + 2, none⟩ = some (.int .i64 f2) := (blk_cell b1 2).trans rfl
  clear b1 b2 b3 b4 hbl hsz hr
  unfold x_Thickness.f at h
  by_cases h0 : bottleV zs f1 f2 = 0
  · rw [if_pos h0] at h
    have H0 := Sd.mk h0
    clear h0
    cases hi' : spanB lo hi 1 100000 with
    | true =>
      rw [if_pos hi'] at h
      obtain ⟨l, hl, h⟩ := Option.bind_eq_some_iff.mp h
      simp only [Option.some.injEq, Prod.mk.injEq] at h
      obtain ⟨rfl, rfl⟩ := h
      have HI := Sd.mk hi'
      have HL := Sd.mk hl
      clear hi' hl
      refine (callsIn_wide (n := 9)).1 (callsIn_of_wp_marks Tryz.func61 rfl trivial ?_ rfl)
      simp only [Tryz.ntmps61, List.size_toArray, List.length_cons, List.length_nil, Nat.reduceAdd, Nat.reduceSub, Array.replicate_succ, Array.replicate_zero, List.push_toArray, List.append_toArray, List.nil_append, List.cons_append]
      gi_wp2_with (first | (refine ⟨trivial, ?_⟩; gi_at_call 120; refine (callsIn_wide.2 (bottle_ok A c zs f1 f2 _ HR.out H0.out)).mono ?_; rintro e w1 ⟨rfl, hw1⟩; have BX1 := Sd.mk (blk_below BX.out hw1); have BS1 := Sd.mk (blk_below BS.out hw1); have BL1 := Sd.mk (blk_below BL.out hw1); have BE1 := Sd.mk (blk_below BE.out hw1); have HB1 := Sd.mk (below_then HB.out (by have := HSZ.out; omega) hw1); have HSZ1 := Sd.mk (show w.heap.size + 4 ≤ w1.heap.size from Nat.le_trans (by have := HSZ.out; omega) hw1.size); clear hw1; have ht0 : w1.cell? ⟨w.heap.size + 1, 0, none⟩ = some (.int .i64 lo) := (blk_cell BS1.out 0).trans rfl; have ht1 : w1.cell? ⟨w.heap.size + 1, 0 + 1, none⟩ = some (.int .i64 hi) := (blk_cell BS1.out 1).trans rfl; have hb0 : w1.cell? ⟨w.heap.size, 0, none⟩ = some (.slice A zs.length c) := (blk_cell BX1.out 0).trans rfl; have hb1 : w1.cell? ⟨w.heap.size, 0 + 1, none⟩ = some (.int .i64 f1) := (blk_cell BX1.out 1).trans rfl; have hb2 : w1.cell? ⟨w.heap.size, 0 + 2, none⟩ = some (.int .i64 f2) := (blk_cell BX1.out 2).trans rfl) | (refine ⟨trivial, ?_⟩; gi_at_call 155; refine (callsIn_wide.2 (sspan_f _ _ _ _ _)).mono ?_; rw [HI.out]; rintro e w2 ⟨rfl, hw2⟩; have BX2 := BX1; have BS2 := BS1; clear BX1 BS1; have BX1 := Sd.mk (blk_below BX2.out hw2); have BS1 := Sd.mk (blk_below BS2.out hw2); have BL2 := Sd.mk (blk_below BL1.out hw2); have BE2 := Sd.mk (blk_below BE1.out hw2); have HB2 := Sd.mk (below_then HB1.out HB1.out.size hw2); have HSZ2 := Sd.mk (show w.heap.size + 4 ≤ w2.heap.size from Nat.le_trans HSZ1.out hw2.size); clear BX2 BS2 hw2; have hb0 : w2.cell? ⟨w.heap.size, 0, none⟩ = some (.slice A zs.length c) := (blk_cell BX1.out 0).trans rfl; have hb1 : w2.cell? ⟨w.heap.size, 0 + 1, none⟩ = some (.int .i64 f1) := (blk_cell BX1.out 1).trans rfl; have hb2 : w2.cell? ⟨w.heap.size, 0 + 2, none⟩ = some (.int .i64 f2) := (blk_cell BX1.out 2).trans rfl) | (refine ⟨trivial, ?_⟩; gi_at_call 65; (with_reducible refine (callsIn_wide.2 (demand_ok _ _)).mono ?_); rintro e w' ⟨rfl, rfl⟩) | (refine ⟨trivial, ?_⟩; gi_at_call 111; (with_reducible refine (callsIn_wide.2 (rings_b _ _ _ _)).mono ?_); rintro e w3 ⟨g, rfl, hg, hbk, hw3⟩; have RB3 := Sd.mk hbk; have HG := Sd.mk (show w.heap.size + 4 ≤ g from Nat.le_trans (by have := HSZ.out; have := BE2.out; have := HSZ2.out; omega) hg); have BX3 := Sd.mk (blk_below BX1.out hw3); have BS3 := Sd.mk (blk_below BS1.out hw3); have BL3 := Sd.mk (blk_below BL2.out hw3); have BE3 := Sd.mk (blk_below BE2.out hw3); have HB3 := Sd.mk (below_then HB2.out HB2.out.size hw3); have HG3 := Sd.mk (show g < w3.heap.size from blk_lt hbk); clear hbk hw3 hg))
      clear ht0 ht1 hb0 hb1 hb2
      have hll := thickL_some zs lo hi zs.length _ HL.out
      have HN := Sd.mk (bottle_len H0.out)
      refine wpIn_rangeFuncP (N := zs.length) (encs := fun k => #[.int .i64 (k : Int), ringV (rd_T92 zs k)]) rfl (by omega) (gf := 187) (lb := #[.pointer (some ⟨g, 0, none⟩)]) rfl trivial (enters_of Tryz.func187 (by kernel_rfl) rfl) (fun _ => rfl)
        (fun k W => ∃ v l, ThI A c zs f1 f2 lo hi w g w3.heap.size k W v l) (fun _ _ => False) (fun k W o ⟨v, l, h⟩ => ⟨v, l, h.alloc o⟩) (fun k W o r hl ⟨v, l, h⟩ => ⟨v, l, h.put o HG.out HG3.out (Array.getElem?_eq_some_iff.1 hl).1⟩) ⟨_, _, rfl, BX3.out, BS3.out, BL3.out, BE3.out, RB3.out, HB3.out, Kd.R_nil _ _ _ _ _⟩ ?seq ?round ?fn ?done ?panic
      case seq =>
        intro l1 J Jp W hJa hJI hY h0
        obtain ⟨v, l, hi0⟩ := hJI _ _ h0
        exact rings1_in Fence.wide (9 - 1) trivial rfl (by omega) l1 g A c _ _ zs J Jp W hi0.rb hJa (fun k W' h => by obtain ⟨v, l, h⟩ := hJI _ _ h; exact Kd.C_below HR0.out h.be) hY h0
      case round =>
        clear BX3 BS3 BL3 BE3 RB3 HB3 BX1 BS1 BL1 BE1 HB1 BL2 BE2 HB2 HB BX BS BL BE
        intro l k W hW _ hk hI st hst
        obtain ⟨v, l', hI⟩ := hI
        obtain ⟨p, hp⟩ := hll k hk
        generalize hx : rd_T92 zs (k : Int) = x at hp ⊢
        have HI1 := Sd.mk hI
        have HW := Sd.mk hW
        have HK := Sd.mk hk
        have HX := Sd.mk hx
        have HP := Sd.mk hp
        have HL1 := HL
        clear HL
        have HL := Sd.mk (thickL_len _ _ _ _ _ hI.li)
        clear hI hW hk hp hll
        clear hx
        unfold ringV
        simp only [List.zip_cons_cons, List.zip_nil_right, List.foldl_cons, List.foldl_nil]
        gi_wp2
        refine hst _ _ (by simp) (fun j h1 h2 => Below.heap_alloc W _ j (by have := HW.out; omega)) ?_
        clear hst
        intro o
        have hn2 : 1 ≤ 9 - 1 - 1 := by omega
        have CK : Sd (ThI A c zs f1 f2 lo hi w g w3.heap.size k ((W.alloc (.cells #[.int .i64 x.f0.f0, .int .i64 x.f0.f1, .int .i64 x.f1.f0, .int .i64 x.f1.f1, .int .i64 x.f2.f0, .int .i64 x.f2.f1, .int .i64 x.f3.f0, .int .i64 x.f3.f1, .int .i64 x.f4.f0, .int .i64 x.f4.f1] 92)).putObj (w3.heap.size + 1) o) v l') := ⟨(HI1.out.alloc _).put o HG.out HG3.out (by have := HW.out; simp; omega)⟩
        have RB : Sd (((W.alloc (.cells #[.int .i64 x.f0.f0, .int .i64 x.f0.f1, .int .i64 x.f1.f0, .int .i64 x.f1.f1, .int .i64 x.f2.f0, .int .i64 x.f2.f1, .int .i64 x.f3.f0, .int .i64 x.f3.f1, .int .i64 x.f4.f0, .int .i64 x.f4.f1] 92)).putObj (w3.heap.size + 1) o).heap[W.heap.size]? = some (.cells #[.int .i64 x.f0.f0, .int .i64 x.f0.f1, .int .i64 x.f1.f0, .int .i64 x.f1.f1, .int .i64 x.f2.f0, .int .i64 x.f2.f1, .int .i64 x.f3.f0, .int .i64 x.f3.f1, .int .i64 x.f4.f0, .int .i64 x.f4.f1] 92 (0, 0))) := ⟨putObj_heap_keep (by have := HW.out; omega) (blk_new _ _)⟩
        have WS : Sd (((W.alloc (.cells #[.int .i64 x.f0.f0, .int .i64 x.f0.f1, .int .i64 x.f1.f0, .int .i64 x.f1.f1, .int .i64 x.f2.f0, .int .i64 x.f2.f1, .int .i64 x.f3.f0, .int .i64 x.f3.f1, .int .i64 x.f4.f0, .int .i64 x.f4.f1] 92)).putObj (w3.heap.size + 1) o).heap.size = W.heap.size + 1) := ⟨by simp⟩
        generalize (W.alloc (.cells #[.int .i64 x.f0.f0, .int .i64 x.f0.f1, .int .i64 x.f1.f0, .int .i64 x.f1.f1, .int .i64 x.f2.f0, .int .i64 x.f2.f1, .int .i64 x.f3.f0, .int .i64 x.f3.f1, .int .i64 x.f4.f0, .int .i64 x.f4.f1] 92)).putObj (w3.heap.size + 1) o = Wb at CK RB WS ⊢
        have hmx : Tryz.prog.follows .mixedOrders = true := by kernel_rfl
        gi_wp2
        refine wpIn_region_any hmx ?_
        change wpAnyIn _ _ _ _ _ _ _ _ _ (World.drew _)
        have RBd : Sd (Wb.drew.heap[W.heap.size]? = some (.cells #[.int .i64 x.f0.f0, .int .i64 x.f0.f1, .int .i64 x.f1.f0, .int .i64 x.f1.f1, .int .i64 x.f2.f0, .int .i64 x.f2.f1, .int .i64 x.f3.f0, .int .i64 x.f3.f1, .int .i64 x.f4.f0, .int .i64 x.f4.f1] 92 (0, 0))) := ⟨RB.out⟩
        have SP : Sd (Wb.drew.heap[w.heap.size + 1]? = some (.cells #[.int .i64 lo, .int .i64 hi] 27 (0, 0))) := ⟨CK.out.sp⟩
        have SL : Sd (Wb.drew.heap[w.heap.size + 1 + 1]? = some (.cells #[v] 24 (0, 0))) := ⟨CK.out.sl⟩
        have RO : Sd (Kd.R k27 27 Wb.drew (w3.heap.size + 2) (fun _ => True) v l') := ⟨Kd.R_drew CK.out.ro⟩
        have HD2 : Sd (w3.heap.size + 2 ≤ Wb.drew.heap.size) := ⟨by have := HW.out; have := WS.out; show w3.heap.size + 2 ≤ Wb.heap.size; omega⟩
        have BD : Sd (Below (w3.heap.size + 2) Wb Wb.drew) := ⟨below_drew (Below.refl _ _)⟩
        have fin : ∀ (a' : Act) (w5 : World) (v1 : Value), Kd.R k27 27 w5 (w3.heap.size + 2) (fun _ => True) v1 (l' ++ [⟨p.1, p.2⟩]) → Below (w3.heap.size + 2) Wb.drew w5 → bodyPostP w3.heap.size (fun k W => ∃ v l, ThI A c zs f1 f2 lo hi w g w3.heap.size k W v l) (fun _ _ => False) (k + 1) Wb .normal a' (w5.setCell ⟨w.heap.size + 1 + 1, 0, none⟩ v1) := by
          intro a' w5 v1 hr5 hb5'
          have hb5 : Below (w3.heap.size + 2) Wb w5 := BD.out.trans hb5'
          have hg1 := HG.out
          have hg2 := HG3.out
          refine ⟨by simpa using hb5.size, fun j h1 h2 => (Below.heap_setCell _ _ _ j (by simp; omega)).trans (hb5.block j (by omega)), v1, l' ++ [⟨p.1, p.2⟩], ?_⟩
          have hp := HP.out
          exact ⟨by simp only [thickL, CK.out.li, HX.out]; rw [show thick1 x lo hi = some p from hp]; rfl, blk_far (Below5 hb5 CK.out.bx (by omega)) (p := ⟨w.heap.size + 1 + 1, 0, none⟩) (by simp; omega) _, blk_far (Below5 hb5 CK.out.sp (by omega)) (p := ⟨w.heap.size + 1 + 1, 0, none⟩) (by simp) _, blk_put (Below5 hb5 CK.out.sl (by omega)) 0 _ rfl, blk_far (Below5 hb5 CK.out.er (by omega)) (p := ⟨w.heap.size + 1 + 1, 0, none⟩) (by simp) _, blk_far (Below5 hb5 CK.out.rb (by omega)) (p := ⟨w.heap.size + 1 + 1, 0, none⟩) (by simp; omega) _, below_set (CK.out.be.trans (hb5.mono (by omega))) (by omega), Kd.R_set hr5 (Below5 hb5 CK.out.sl (by omega)) (by simp [k27_E]) 0 _⟩
        generalize Wb.drew = Wd at RBd SP SL RO HD2 BD fin ⊢
        clear RB
        have RB := RBd
        clear RBd
        have g0 : Wd.cell? ⟨W.heap.size, 0, none⟩ = some (.int .i64 x.f0.f0) := (blk_cell RB.out 0).trans rfl
        have g1 : Wd.cell? ⟨W.heap.size, 0 + 1, none⟩ = some (.int .i64 x.f0.f1) := (blk_cell RB.out 1).trans rfl
        have g2 : Wd.cell? ⟨W.heap.size, 0 + 2, none⟩ = some (.int .i64 x.f1.f0) := (blk_cell RB.out 2).trans rfl
        have g3 : Wd.cell? ⟨W.heap.size, 0 + 3, none⟩ = some (.int .i64 x.f1.f1) := (blk_cell RB.out 3).trans rfl
        have g4 : Wd.cell? ⟨W.heap.size, 0 + 4, none⟩ = some (.int .i64 x.f2.f0) := (blk_cell RB.out 4).trans rfl
        have g5 : Wd.cell? ⟨W.heap.size, 0 + 5, none⟩ = some (.int .i64 x.f2.f1) := (blk_cell RB.out 5).trans rfl
        have g6 : Wd.cell? ⟨W.heap.size, 0 + 6, none⟩ = some (.int .i64 x.f3.f0) := (blk_cell RB.out 6).trans rfl
        have g7 : Wd.cell? ⟨W.heap.size, 0 + 7, none⟩ = some (.int .i64 x.f3.f1) := (blk_cell RB.out 7).trans rfl
        have g8 : Wd.cell? ⟨W.heap.size, 0 + 8, none⟩ = some (.int .i64 x.f4.f0) := (blk_cell RB.out 8).trans rfl
        have g9 : Wd.cell? ⟨W.heap.size, 0 + 9, none⟩ = some (.int .i64 x.f4.f1) := (blk_cell RB.out 9).trans rfl
        have gt0 : Wd.cell? ⟨w.heap.size + 1, 0, none⟩ = some (.int .i64 lo) := (blk_cell SP.out 0).trans rfl
        have gt1 : Wd.cell? ⟨w.heap.size + 1, 0 + 1, none⟩ = some (.int .i64 hi) := (blk_cell SP.out 1).trans rfl
        have gv : Wd.cell? ⟨w.heap.size + 1 + 1, 0, none⟩ = some v := (blk_cell SL.out 0).trans rfl
        refine wpAnyIn_ready (rs := [0, 1, 2]) (by kernel_rfl) (by simp) ?_
        refine AllReadyIn.cons rfl (fun K hK => ?_) ?_
        · go_simp
          refine hK _ _ ?_
          clear hK K
          refine wpAnyIn_ready (rs := [1, 2]) (by kernel_rfl) (by simp) ?_
          refine AllReadyIn.cons rfl (fun K hK => ?_) ?_
          · go_simp
            refine hK _ _ ?_
            clear hK K
            refine wpAnyIn_ready (rs := [2]) (by kernel_rfl) (by simp) ?_
            refine AllReadyIn.cons rfl (fun K hK => ?_) ?_
            · go_simp
              refine hK _ _ ?_
              clear hK K
              refine wpAnyIn_ready (rs := [3]) (by kernel_rfl) (by simp) ?_
              refine AllReadyIn.cons rfl (fun K hK => ?_) ?_
              · go_simp
                gi_wp2_with (refine ⟨trivial, ?_⟩; gi_at_call 156; refine (CallsIn.inRound l (callsIn_wide.2 (st_thickness.calls _ _ _ _ _ _ _ _ _ _ _ _ p.1 p.2 _ HP.out))).mono ?_; rintro e w4 ⟨rfl, hw4⟩; have BW4 := Sd.mk (show Below (w3.heap.size + 2) Wd w4 from hw4.mono HD2.out); have SZ4 := Sd.mk (show w3.heap.size + 2 ≤ w4.heap.size from Nat.le_trans HD2.out hw4.size); have RO4 := Sd.mk (Kd.R_below RO.out hw4); have SL4 := Sd.mk (blk_below SL.out hw4); clear hw4; have gv4 : w4.cell? ⟨w.heap.size + 1 + 1, 0, none⟩ = some v := (blk_cell SL4.out 0).trans rfl; have gv5 : (w4.alloc (.cells #[.int .i64 p.1, .int .i64 p.2] 27)).cell? ⟨w.heap.size + 1 + 1, 0, none⟩ = some v := (blk_cell (blk_alloc SL4.out _) 0).trans rfl)
                refine wpAnyIn_ready (rs := [4]) (by kernel_rfl) (by simp) ?_
                refine AllReadyIn.cons rfl (fun K hK => ?_) ?_
                · go_simp
                  refine hK _ _ ?_
                  clear hK K
                  refine wpAnyIn_ready (rs := [5]) (by kernel_rfl) (by simp) ?_
                  refine AllReadyIn.cons rfl (fun K hK => ?_) ?_
                  · refine stepI_R_append k27 (w0 := Wd) (W := w4) (w3.heap.size + 2) (by go_simp) _ _ 24 27 (.agg #[.int .i64 0, .int .i64 0]) 16 rfl Tryz.underlying24 info27 rfl (by decide) (by decide) v l' ⟨p.1, p.2⟩ [.int .i64 p.1, .int .i64 p.2] (fun _ => True) (fun _ => False) rfl rfl (k27_mkM _ _ _ _) (fun _ h => h.elim) (fun _ _ => trivial) RO4.out BW4.out SZ4.out (by rw [HL.out]; have := HN.out; have := HK.out; omega) ?_
                    intro v1 w5 r5 b5
                    obtain ⟨As, cs5, hv5⟩ := Kd.R_slice r5
                    rw [List.length_append, List.length_singleton] at hv5
                    subst hv5
                    have R5 := Sd.mk r5
                    have B5 := Sd.mk b5
                    clear r5 b5
                    have gs : w5.cell? ⟨w.heap.size + 1 + 1, 0, none⟩ = some v := (blk_cell (Below5 B5.out SL.out (by have := HG.out; have := HG3.out; omega)) 0).trans rfl
                    have gs' := blk_frozen (Below5 B5.out SL.out (by have := HG.out; have := HG3.out; omega)) 0
                    refine hK _ _ ?_
                    clear hK K
                    refine wpAnyIn_ready (rs := [6]) (by kernel_rfl) (by simp) ?_
                    refine AllReadyIn.cons rfl (fun K hK => ?_) ?_
                    · go_simp
                      refine hK _ _ ?_
                      clear hK K
                      refine wpAnyIn_done (by kernel_rfl) ?_ _
                      exact fin { tmps := #[], defers := [] } _ _ R5.out B5.out
                    exact AllReadyIn.nil
                  exact AllReadyIn.nil
                exact AllReadyIn.nil
              exact AllReadyIn.nil
            exact AllReadyIn.nil
          refine AllReadyIn.cons rfl (fun K hK => ?_) ?_
          · go_simp
            refine hK _ _ ?_
            clear hK K
            refine wpAnyIn_ready (rs := [1]) (by kernel_rfl) (by simp) ?_
            refine AllReadyIn.cons rfl (fun K hK => ?_) ?_
            · go_simp
              refine hK _ _ ?_
              clear hK K
              refine wpAnyIn_ready (rs := [3]) (by kernel_rfl) (by simp) ?_
              refine AllReadyIn.cons rfl (fun K hK => ?_) ?_
              · go_simp
                gi_wp2_with (refine ⟨trivial, ?_⟩; gi_at_call 156; refine (CallsIn.inRound l (callsIn_wide.2 (st_thickness.calls _ _ _ _ _ _ _ _ _ _ _ _ p.1 p.2 _ HP.out))).mono ?_; rintro e w4 ⟨rfl, hw4⟩; have BW4 := Sd.mk (show Below (w3.heap.size + 2) Wd w4 from hw4.mono HD2.out); have SZ4 := Sd.mk (show w3.heap.size + 2 ≤ w4.heap.size from Nat.le_trans HD2.out hw4.size); have RO4 := Sd.mk (Kd.R_below RO.out hw4); have SL4 := Sd.mk (blk_below SL.out hw4); clear hw4; have gv4 : w4.cell? ⟨w.heap.size + 1 + 1, 0, none⟩ = some v := (blk_cell SL4.out 0).trans rfl; have gv5 : (w4.alloc (.cells #[.int .i64 p.1, .int .i64 p.2] 27)).cell? ⟨w.heap.size + 1 + 1, 0, none⟩ = some v := (blk_cell (blk_alloc SL4.out _) 0).trans rfl)
                refine wpAnyIn_ready (rs := [4]) (by kernel_rfl) (by simp) ?_
                refine AllReadyIn.cons rfl (fun K hK => ?_) ?_
                · go_simp
                  refine hK _ _ ?_
                  clear hK K
                  refine wpAnyIn_ready (rs := [5]) (by kernel_rfl) (by simp) ?_
                  refine AllReadyIn.cons rfl (fun K hK => ?_) ?_
                  · refine stepI_R_append k27 (w0 := Wd) (W := w4) (w3.heap.size + 2) (by go_simp) _ _ 24 27 (.agg #[.int .i64 0, .int .i64 0]) 16 rfl Tryz.underlying24 info27 rfl (by decide) (by decide) v l' ⟨p.1, p.2⟩ [.int .i64 p.1, .int .i64 p.2] (fun _ => True) (fun _ => False) rfl rfl (k27_mkM _ _ _ _) (fun _ h => h.elim) (fun _ _ => trivial) RO4.out BW4.out SZ4.out (by rw [HL.out]; have := HN.out; have := HK.out; omega) ?_
                    intro v1 w5 r5 b5
                    obtain ⟨As, cs5, hv5⟩ := Kd.R_slice r5
                    rw [List.length_append, List.length_singleton] at hv5
                    subst hv5
                    have R5 := Sd.mk r5
                    have B5 := Sd.mk b5
                    clear r5 b5
                    have gs : w5.cell? ⟨w.heap.size + 1 + 1, 0, none⟩ = some v := (blk_cell (Below5 B5.out SL.out (by have := HG.out; have := HG3.out; omega)) 0).trans rfl
                    have gs' := blk_frozen (Below5 B5.out SL.out (by have := HG.out; have := HG3.out; omega)) 0
                    refine hK _ _ ?_
                    clear hK K
                    refine wpAnyIn_ready (rs := [6]) (by kernel_rfl) (by simp) ?_
                    refine AllReadyIn.cons rfl (fun K hK => ?_) ?_
                    · go_simp
                      refine hK _ _ ?_
                      clear hK K
                      refine wpAnyIn_done (by kernel_rfl) ?_ _
                      exact fin { tmps := #[], defers := [] } _ _ R5.out B5.out
                    exact AllReadyIn.nil
                  exact AllReadyIn.nil
                exact AllReadyIn.nil
              exact AllReadyIn.nil
            exact AllReadyIn.nil
          exact AllReadyIn.nil
        refine AllReadyIn.cons rfl (fun K hK => ?_) ?_
        · go_simp
          refine hK _ _ ?_
          clear hK K
          refine wpAnyIn_ready (rs := [0, 2]) (by kernel_rfl) (by simp) ?_
          refine AllReadyIn.cons rfl (fun K hK => ?_) ?_
          · go_simp
            refine hK _ _ ?_
            clear hK K
            refine wpAnyIn_ready (rs := [2]) (by kernel_rfl) (by simp) ?_
            refine AllReadyIn.cons rfl (fun K hK => ?_) ?_
            · go_simp
              refine hK _ _ ?_
              clear hK K
              refine wpAnyIn_ready (rs := [3]) (by kernel_rfl) (by simp) ?_
              refine AllReadyIn.cons rfl (fun K hK => ?_) ?_
              · go_simp
                gi_wp2_with (refine ⟨trivial, ?_⟩; gi_at_call 156; refine (CallsIn.inRound l (callsIn_wide.2 (st_thickness.calls _ _ _ _ _ _ _ _ _ _ _ _ p.1 p.2 _ HP.out))).mono ?_; rintro e w4 ⟨rfl, hw4⟩; have BW4 := Sd.mk (show Below (w3.heap.size + 2) Wd w4 from hw4.mono HD2.out); have SZ4 := Sd.mk (show w3.heap.size + 2 ≤ w4.heap.size from Nat.le_trans HD2.out hw4.size); have RO4 := Sd.mk (Kd.R_below RO.out hw4); have SL4 := Sd.mk (blk_below SL.out hw4); clear hw4; have gv4 : w4.cell? ⟨w.heap.size + 1 + 1, 0, none⟩ = some v := (blk_cell SL4.out 0).trans rfl; have gv5 : (w4.alloc (.cells #[.int .i64 p.1, .int .i64 p.2] 27)).cell? ⟨w.heap.size + 1 + 1, 0, none⟩ = some v := (blk_cell (blk_alloc SL4.out _) 0).trans rfl)
                refine wpAnyIn_ready (rs := [4]) (by kernel_rfl) (by simp) ?_
                refine AllReadyIn.cons rfl (fun K hK => ?_) ?_
                · go_simp
                  refine hK _ _ ?_
                  clear hK K
                  refine wpAnyIn_ready (rs := [5]) (by kernel_rfl) (by simp) ?_
                  refine AllReadyIn.cons rfl (fun K hK => ?_) ?_
                  · refine stepI_R_append k27 (w0 := Wd) (W := w4) (w3.heap.size + 2) (by go_simp) _ _ 24 27 (.agg #[.int .i64 0, .int .i64 0]) 16 rfl Tryz.underlying24 info27 rfl (by decide) (by decide) v l' ⟨p.1, p.2⟩ [.int .i64 p.1, .int .i64 p.2] (fun _ => True) (fun _ => False) rfl rfl (k27_mkM _ _ _ _) (fun _ h => h.elim) (fun _ _ => trivial) RO4.out BW4.out SZ4.out (by rw [HL.out]; have := HN.out; have := HK.out; omega) ?_
                    intro v1 w5 r5 b5
                    obtain ⟨As, cs5, hv5⟩ := Kd.R_slice r5
                    rw [List.length_append, List.length_singleton] at hv5
                    subst hv5
                    have R5 := Sd.mk r5
                    have B5 := Sd.mk b5
                    clear r5 b5
                    have gs : w5.cell? ⟨w.heap.size + 1 + 1, 0, none⟩ = some v := (blk_cell (Below5 B5.out SL.out (by have := HG.out; have := HG3.out; omega)) 0).trans rfl
                    have gs' := blk_frozen (Below5 B5.out SL.out (by have := HG.out; have := HG3.out; omega)) 0
                    refine hK _ _ ?_
                    clear hK K
                    refine wpAnyIn_ready (rs := [6]) (by kernel_rfl) (by simp) ?_
                    refine AllReadyIn.cons rfl (fun K hK => ?_) ?_
                    · go_simp
                      refine hK _ _ ?_
                      clear hK K
                      refine wpAnyIn_done (by kernel_rfl) ?_ _
                      exact fin { tmps := #[], defers := [] } _ _ R5.out B5.out
                    exact AllReadyIn.nil
                  exact AllReadyIn.nil
                exact AllReadyIn.nil
              exact AllReadyIn.nil
            exact AllReadyIn.nil
          refine AllReadyIn.cons rfl (fun K hK => ?_) ?_
          · go_simp
            refine hK _ _ ?_
            clear hK K
            refine wpAnyIn_ready (rs := [0, 3]) (by kernel_rfl) (by simp) ?_
            refine AllReadyIn.cons rfl (fun K hK => ?_) ?_
            · go_simp
              refine hK _ _ ?_
              clear hK K
              refine wpAnyIn_ready (rs := [3]) (by kernel_rfl) (by simp) ?_
              refine AllReadyIn.cons rfl (fun K hK => ?_) ?_
              · go_simp
                gi_wp2_with (refine ⟨trivial, ?_⟩; gi_at_call 156; refine (CallsIn.inRound l (callsIn_wide.2 (st_thickness.calls _ _ _ _ _ _ _ _ _ _ _ _ p.1 p.2 _ HP.out))).mono ?_; rintro e w4 ⟨rfl, hw4⟩; have BW4 := Sd.mk (show Below (w3.heap.size + 2) Wd w4 from hw4.mono HD2.out); have SZ4 := Sd.mk (show w3.heap.size + 2 ≤ w4.heap.size from Nat.le_trans HD2.out hw4.size); have RO4 := Sd.mk (Kd.R_below RO.out hw4); have SL4 := Sd.mk (blk_below SL.out hw4); clear hw4; have gv4 : w4.cell? ⟨w.heap.size + 1 + 1, 0, none⟩ = some v := (blk_cell SL4.out 0).trans rfl; have gv5 : (w4.alloc (.cells #[.int .i64 p.1, .int .i64 p.2] 27)).cell? ⟨w.heap.size + 1 + 1, 0, none⟩ = some v := (blk_cell (blk_alloc SL4.out _) 0).trans rfl)
                refine wpAnyIn_ready (rs := [4]) (by kernel_rfl) (by simp) ?_
                refine AllReadyIn.cons rfl (fun K hK => ?_) ?_
                · go_simp
                  refine hK _ _ ?_
                  clear hK K
                  refine wpAnyIn_ready (rs := [5]) (by kernel_rfl) (by simp) ?_
                  refine AllReadyIn.cons rfl (fun K hK => ?_) ?_
                  · refine stepI_R_append k27 (w0 := Wd) (W := w4) (w3.heap.size + 2) (by go_simp) _ _ 24 27 (.agg #[.int .i64 0, .int .i64 0]) 16 rfl Tryz.underlying24 info27 rfl (by decide) (by decide) v l' ⟨p.1, p.2⟩ [.int .i64 p.1, .int .i64 p.2] (fun _ => True) (fun _ => False) rfl rfl (k27_mkM _ _ _ _) (fun _ h => h.elim) (fun _ _ => trivial) RO4.out BW4.out SZ4.out (by rw [HL.out]; have := HN.out; have := HK.out; omega) ?_
                    intro v1 w5 r5 b5
                    obtain ⟨As, cs5, hv5⟩ := Kd.R_slice r5
                    rw [List.length_append, List.length_singleton] at hv5
                    subst hv5
                    have R5 := Sd.mk r5
                    have B5 := Sd.mk b5
                    clear r5 b5
                    have gs : w5.cell? ⟨w.heap.size + 1 + 1, 0, none⟩ = some v := (blk_cell (Below5 B5.out SL.out (by have := HG.out; have := HG3.out; omega)) 0).trans rfl
                    have gs' := blk_frozen (Below5 B5.out SL.out (by have := HG.out; have := HG3.out; omega)) 0
                    refine hK _ _ ?_
                    clear hK K
                    refine wpAnyIn_ready (rs := [6]) (by kernel_rfl) (by simp) ?_
                    refine AllReadyIn.cons rfl (fun K hK => ?_) ?_
                    · go_simp
                      refine hK _ _ ?_
                      clear hK K
                      refine wpAnyIn_done (by kernel_rfl) ?_ _
                      exact fin { tmps := #[], defers := [] } _ _ R5.out B5.out
                    exact AllReadyIn.nil
                  exact AllReadyIn.nil
                exact AllReadyIn.nil
              exact AllReadyIn.nil
            refine AllReadyIn.cons rfl (fun K hK => ?_) ?_
            · go_simp
              gi_wp2_with (refine ⟨trivial, ?_⟩; gi_at_call 156; refine (CallsIn.inRound l (callsIn_wide.2 (st_thickness.calls _ _ _ _ _ _ _ _ _ _ _ _ p.1 p.2 _ HP.out))).mono ?_; rintro e w4 ⟨rfl, hw4⟩; have BW4 := Sd.mk (show Below (w3.heap.size + 2) Wd w4 from hw4.mono HD2.out); have SZ4 := Sd.mk (show w3.heap.size + 2 ≤ w4.heap.size from Nat.le_trans HD2.out hw4.size); have RO4 := Sd.mk (Kd.R_below RO.out hw4); have SL4 := Sd.mk (blk_below SL.out hw4); clear hw4; have gv4 : w4.cell? ⟨w.heap.size + 1 + 1, 0, none⟩ = some v := (blk_cell SL4.out 0).trans rfl; have gv5 : (w4.alloc (.cells #[.int .i64 p.1, .int .i64 p.2] 27)).cell? ⟨w.heap.size + 1 + 1, 0, none⟩ = some v := (blk_cell (blk_alloc SL4.out _) 0).trans rfl)
              refine wpAnyIn_ready (rs := [0, 4]) (by kernel_rfl) (by simp) ?_
              refine AllReadyIn.cons rfl (fun K hK => ?_) ?_
              · go_simp
                refine hK _ _ ?_
                clear hK K
                refine wpAnyIn_ready (rs := [4]) (by kernel_rfl) (by simp) ?_
                refine AllReadyIn.cons rfl (fun K hK => ?_) ?_
                · go_simp
                  refine hK _ _ ?_
                  clear hK K
                  refine wpAnyIn_ready (rs := [5]) (by kernel_rfl) (by simp) ?_
                  refine AllReadyIn.cons rfl (fun K hK => ?_) ?_
                  · refine stepI_R_append k27 (w0 := Wd) (W := w4) (w3.heap.size + 2) (by go_simp) _ _ 24 27 (.agg #[.int .i64 0, .int .i64 0]) 16 rfl Tryz.underlying24 info27 rfl (by decide) (by decide) v l' ⟨p.1, p.2⟩ [.int .i64 p.1, .int .i64 p.2] (fun _ => True) (fun _ => False) rfl rfl (k27_mkM _ _ _ _) (fun _ h => h.elim) (fun _ _ => trivial) RO4.out BW4.out SZ4.out (by rw [HL.out]; have := HN.out; have := HK.out; omega) ?_
                    intro v1 w5 r5 b5
                    obtain ⟨As, cs5, hv5⟩ := Kd.R_slice r5
                    rw [List.length_append, List.length_singleton] at hv5
                    subst hv5
                    have R5 := Sd.mk r5
                    have B5 := Sd.mk b5
                    clear r5 b5
                    have gs : w5.cell? ⟨w.heap.size + 1 + 1, 0, none⟩ = some v := (blk_cell (Below5 B5.out SL.out (by have := HG.out; have := HG3.out; omega)) 0).trans rfl
                    have gs' := blk_frozen (Below5 B5.out SL.out (by have := HG.out; have := HG3.out; omega)) 0
                    refine hK _ _ ?_
                    clear hK K
                    refine wpAnyIn_ready (rs := [6]) (by kernel_rfl) (by simp) ?_
                    refine AllReadyIn.cons rfl (fun K hK => ?_) ?_
                    · go_simp
                      refine hK _ _ ?_
                      clear hK K
                      refine wpAnyIn_done (by kernel_rfl) ?_ _
                      exact fin { tmps := #[], defers := [] } _ _ R5.out B5.out
                    exact AllReadyIn.nil
                  exact AllReadyIn.nil
                exact AllReadyIn.nil
              refine AllReadyIn.cons rfl (fun K hK => ?_) ?_
              · go_simp
                refine hK _ _ ?_
                clear hK K
                refine wpAnyIn_ready (rs := [0]) (by kernel_rfl) (by simp) ?_
                refine AllReadyIn.cons rfl (fun K hK => ?_) ?_
                · go_simp
                  refine hK _ _ ?_
                  clear hK K
                  refine wpAnyIn_ready (rs := [5]) (by kernel_rfl) (by simp) ?_
                  refine AllReadyIn.cons rfl (fun K hK => ?_) ?_
                  · refine stepI_R_append k27 (w0 := Wd) (W := w4) (w3.heap.size + 2) (by go_simp) _ _ 24 27 (.agg #[.int .i64 0, .int .i64 0]) 16 rfl Tryz.underlying24 info27 rfl (by decide) (by decide) v l' ⟨p.1, p.2⟩ [.int .i64 p.1, .int .i64 p.2] (fun _ => True) (fun _ => False) rfl rfl (k27_mkM _ _ _ _) (fun _ h => h.elim) (fun _ _ => trivial) RO4.out BW4.out SZ4.out (by rw [HL.out]; have := HN.out; have := HK.out; omega) ?_
                    intro v1 w5 r5 b5
                    obtain ⟨As, cs5, hv5⟩ := Kd.R_slice r5
                    rw [List.length_append, List.length_singleton] at hv5
                    subst hv5
                    have R5 := Sd.mk r5
                    have B5 := Sd.mk b5
                    clear r5 b5
                    have gs : w5.cell? ⟨w.heap.size + 1 + 1, 0, none⟩ = some v := (blk_cell (Below5 B5.out SL.out (by have := HG.out; have := HG3.out; omega)) 0).trans rfl
                    have gs' := blk_frozen (Below5 B5.out SL.out (by have := HG.out; have := HG3.out; omega)) 0
                    refine hK _ _ ?_
                    clear hK K
                    refine wpAnyIn_ready (rs := [6]) (by kernel_rfl) (by simp) ?_
                    refine AllReadyIn.cons rfl (fun K hK => ?_) ?_
                    · go_simp
                      refine hK _ _ ?_
                      clear hK K
                      refine wpAnyIn_done (by kernel_rfl) ?_ _
                      exact fin { tmps := #[], defers := [] } _ _ R5.out B5.out
                    exact AllReadyIn.nil
                  exact AllReadyIn.nil
                exact AllReadyIn.nil
              exact AllReadyIn.nil
            exact AllReadyIn.nil
          exact AllReadyIn.nil
        refine AllReadyIn.cons rfl (fun K hK => ?_) ?_
        · go_simp
          refine hK _ _ ?_
          clear hK K
          refine wpAnyIn_ready (rs := [0, 1]) (by kernel_rfl) (by simp) ?_
          refine AllReadyIn.cons rfl (fun K hK => ?_) ?_
          · go_simp
            refine hK _ _ ?_
            clear hK K
            refine wpAnyIn_ready (rs := [1]) (by kernel_rfl) (by simp) ?_
            refine AllReadyIn.cons rfl (fun K hK => ?_) ?_
            · go_simp
              refine hK _ _ ?_
              clear hK K
              refine wpAnyIn_ready (rs := [3]) (by kernel_rfl) (by simp) ?_
              refine AllReadyIn.cons rfl (fun K hK => ?_) ?_
              · go_simp
                gi_wp2_with (refine ⟨trivial, ?_⟩; gi_at_call 156; refine (CallsIn.inRound l (callsIn_wide.2 (st_thickness.calls _ _ _ _ _ _ _ _ _ _ _ _ p.1 p.2 _ HP.out))).mono ?_; rintro e w4 ⟨rfl, hw4⟩; have BW4 := Sd.mk (show Below (w3.heap.size + 2) Wd w4 from hw4.mono HD2.out); have SZ4 := Sd.mk (show w3.heap.size + 2 ≤ w4.heap.size from Nat.le_trans HD2.out hw4.size); have RO4 := Sd.mk (Kd.R_below RO.out hw4); have SL4 := Sd.mk (blk_below SL.out hw4); clear hw4; have gv4 : w4.cell? ⟨w.heap.size + 1 + 1, 0, none⟩ = some v := (blk_cell SL4.out 0).trans rfl; have gv5 : (w4.alloc (.cells #[.int .i64 p.1, .int .i64 p.2] 27)).cell? ⟨w.heap.size + 1 + 1, 0, none⟩ = some v := (blk_cell (blk_alloc SL4.out _) 0).trans rfl)
                refine wpAnyIn_ready (rs := [4]) (by kernel_rfl) (by simp) ?_
                refine AllReadyIn.cons rfl (fun K hK => ?_) ?_
                · go_simp
                  refine hK _ _ ?_
                  clear hK K
                  refine wpAnyIn_ready (rs := [5]) (by kernel_rfl) (by simp) ?_
                  refine AllReadyIn.cons rfl (fun K hK => ?_) ?_
                  · refine stepI_R_append k27 (w0 := Wd) (W := w4) (w3.heap.size + 2) (by go_simp) _ _ 24 27 (.agg #[.int .i64 0, .int .i64 0]) 16 rfl Tryz.underlying24 info27 rfl (by decide) (by decide) v l' ⟨p.1, p.2⟩ [.int .i64 p.1, .int .i64 p.2] (fun _ => True) (fun _ => False) rfl rfl (k27_mkM _ _ _ _) (fun _ h => h.elim) (fun _ _ => trivial) RO4.out BW4.out SZ4.out (by rw [HL.out]; have := HN.out; have := HK.out; omega) ?_
                    intro v1 w5 r5 b5
                    obtain ⟨As, cs5, hv5⟩ := Kd.R_slice r5
                    rw [List.length_append, List.length_singleton] at hv5
                    subst hv5
                    have R5 := Sd.mk r5
                    have B5 := Sd.mk b5
                    clear r5 b5
                    have gs : w5.cell? ⟨w.heap.size + 1 + 1, 0, none⟩ = some v := (blk_cell (Below5 B5.out SL.out (by have := HG.out; have := HG3.out; omega)) 0).trans rfl
                    have gs' := blk_frozen (Below5 B5.out SL.out (by have := HG.out; have := HG3.out; omega)) 0
                    refine hK _ _ ?_
                    clear hK K
                    refine wpAnyIn_ready (rs := [6]) (by kernel_rfl) (by simp) ?_
                    refine AllReadyIn.cons rfl (fun K hK => ?_) ?_
                    · go_simp
                      refine hK _ _ ?_
                      clear hK K
                      refine wpAnyIn_done (by kernel_rfl) ?_ _
                      exact fin { tmps := #[], defers := [] } _ _ R5.out B5.out
                    exact AllReadyIn.nil
                  exact AllReadyIn.nil
                exact AllReadyIn.nil
              exact AllReadyIn.nil
            exact AllReadyIn.nil
          refine AllReadyIn.cons rfl (fun K hK => ?_) ?_
          · go_simp
            refine hK _ _ ?_
            clear hK K
            refine wpAnyIn_ready (rs := [0, 3]) (by kernel_rfl) (by simp) ?_
            refine AllReadyIn.cons rfl (fun K hK => ?_) ?_
            · go_simp
              refine hK _ _ ?_
              clear hK K
              refine wpAnyIn_ready (rs := [3]) (by kernel_rfl) (by simp) ?_
              refine AllReadyIn.cons rfl (fun K hK => ?_) ?_
              · go_simp
                gi_wp2_with (refine ⟨trivial, ?_⟩; gi_at_call 156; refine (CallsIn.inRound l (callsIn_wide.2 (st_thickness.calls _ _ _ _ _ _ _ _ _ _ _ _ p.1 p.2 _ HP.out))).mono ?_; rintro e w4 ⟨rfl, hw4⟩; have BW4 := Sd.mk (show Below (w3.heap.size + 2) Wd w4 from hw4.mono HD2.out); have SZ4 := Sd.mk (show w3.heap.size + 2 ≤ w4.heap.size from Nat.le_trans HD2.out hw4.size); have RO4 := Sd.mk (Kd.R_below RO.out hw4); have SL4 := Sd.mk (blk_below SL.out hw4); clear hw4; have gv4 : w4.cell? ⟨w.heap.size + 1 + 1, 0, none⟩ = some v := (blk_cell SL4.out 0).trans rfl; have gv5 : (w4.alloc (.cells #[.int .i64 p.1, .int .i64 p.2] 27)).cell? ⟨w.heap.size + 1 + 1, 0, none⟩ = some v := (blk_cell (blk_alloc SL4.out _) 0).trans rfl)
                refine wpAnyIn_ready (rs := [4]) (by kernel_rfl) (by simp) ?_
                refine AllReadyIn.cons rfl (fun K hK => ?_) ?_
                · go_simp
                  refine hK _ _ ?_
                  clear hK K
                  refine wpAnyIn_ready (rs := [5]) (by kernel_rfl) (by simp) ?_
                  refine AllReadyIn.cons rfl (fun K hK => ?_) ?_
                  · refine stepI_R_append k27 (w0 := Wd) (W := w4) (w3.heap.size + 2) (by go_simp) _ _ 24 27 (.agg #[.int .i64 0, .int .i64 0]) 16 rfl Tryz.underlying24 info27 rfl (by decide) (by decide) v l' ⟨p.1, p.2⟩ [.int .i64 p.1, .int .i64 p.2] (fun _ => True) (fun _ => False) rfl rfl (k27_mkM _ _ _ _) (fun _ h => h.elim) (fun _ _ => trivial) RO4.out BW4.out SZ4.out (by rw [HL.out]; have := HN.out; have := HK.out; omega) ?_
                    intro v1 w5 r5 b5
                    obtain ⟨As, cs5, hv5⟩ := Kd.R_slice r5
                    rw [List.length_append, List.length_singleton] at hv5
                    subst hv5
                    have R5 := Sd.mk r5
                    have B5 := Sd.mk b5
                    clear r5 b5
                    have gs : w5.cell? ⟨w.heap.size + 1 + 1, 0, none⟩ = some v := (blk_cell (Below5 B5.out SL.out (by have := HG.out; have := HG3.out; omega)) 0).trans rfl
                    have gs' := blk_frozen (Below5 B5.out SL.out (by have := HG.out; have := HG3.out; omega)) 0
                    refine hK _ _ ?_
                    clear hK K
                    refine wpAnyIn_ready (rs := [6]) (by kernel_rfl) (by simp) ?_
                    refine AllReadyIn.cons rfl (fun K hK => ?_) ?_
                    · go_simp
                      refine hK _ _ ?_
                      clear hK K
                      refine wpAnyIn_done (by kernel_rfl) ?_ _
                      exact fin { tmps := #[], defers := [] } _ _ R5.out B5.out
                    exact AllReadyIn.nil
                  exact AllReadyIn.nil
                exact AllReadyIn.nil
              exact AllReadyIn.nil
            refine AllReadyIn.cons rfl (fun K hK => ?_) ?_
            · go_simp
              gi_wp2_with (refine ⟨trivial, ?_⟩; gi_at_call 156; refine (CallsIn.inRound l (callsIn_wide.2 (st_thickness.calls _ _ _ _ _ _ _ _ _ _ _ _ p.1 p.2 _ HP.out))).mono ?_; rintro e w4 ⟨rfl, hw4⟩; have BW4 := Sd.mk (show Below (w3.heap.size + 2) Wd w4 from hw4.mono HD2.out); have SZ4 := Sd.mk (show w3.heap.size + 2 ≤ w4.heap.size from Nat.le_trans HD2.out hw4.size); have RO4 := Sd.mk (Kd.R_below RO.out hw4); have SL4 := Sd.mk (blk_below SL.out hw4); clear hw4; have gv4 : w4.cell? ⟨w.heap.size + 1 + 1, 0, none⟩ = some v := (blk_cell SL4.out 0).trans rfl; have gv5 : (w4.alloc (.cells #[.int .i64 p.1, .int .i64 p.2] 27)).cell? ⟨w.heap.size + 1 + 1, 0, none⟩ = some v := (blk_cell (blk_alloc SL4.out _) 0).trans rfl)
              refine wpAnyIn_ready (rs := [0, 4]) (by kernel_rfl) (by simp) ?_
              refine AllReadyIn.cons rfl (fun K hK => ?_) ?_
              · go_simp
                refine hK _ _ ?_
                clear hK K
                refine wpAnyIn_ready (rs := [4]) (by kernel_rfl) (by simp) ?_
                refine AllReadyIn.cons rfl (fun K hK => ?_) ?_
                · go_simp
                  refine hK _ _ ?_
                  clear hK K
                  refine wpAnyIn_ready (rs := [5]) (by kernel_rfl) (by simp) ?_
                  refine AllReadyIn.cons rfl (fun K hK => ?_) ?_
                  · refine stepI_R_append k27 (w0 := Wd) (W := w4) (w3.heap.size + 2) (by go_simp) _ _ 24 27 (.agg #[.int .i64 0, .int .i64 0]) 16 rfl Tryz.underlying24 info27 rfl (by decide) (by decide) v l' ⟨p.1, p.2⟩ [.int .i64 p.1, .int .i64 p.2] (fun _ => True) (fun _ => False) rfl rfl (k27_mkM _ _ _ _) (fun _ h => h.elim) (fun _ _ => trivial) RO4.out BW4.out SZ4.out (by rw [HL.out]; have := HN.out; have := HK.out; omega) ?_
                    intro v1 w5 r5 b5
                    obtain ⟨As, cs5, hv5⟩ := Kd.R_slice r5
                    rw [List.length_append, List.length_singleton] at hv5
                    subst hv5
                    have R5 := Sd.mk r5
                    have B5 := Sd.mk b5
                    clear r5 b5
                    have gs : w5.cell? ⟨w.heap.size + 1 + 1, 0, none⟩ = some v := (blk_cell (Below5 B5.out SL.out (by have := HG.out; have := HG3.out; omega)) 0).trans rfl
                    have gs' := blk_frozen (Below5 B5.out SL.out (by have := HG.out; have := HG3.out; omega)) 0
                    refine hK _ _ ?_
                    clear hK K
                    refine wpAnyIn_ready (rs := [6]) (by kernel_rfl) (by simp) ?_
                    refine AllReadyIn.cons rfl (fun K hK => ?_) ?_
                    · go_simp
                      refine hK _ _ ?_
                      clear hK K
                      refine wpAnyIn_done (by kernel_rfl) ?_ _
                      exact fin { tmps := #[], defers := [] } _ _ R5.out B5.out
                    exact AllReadyIn.nil
                  exact AllReadyIn.nil
                exact AllReadyIn.nil
              refine AllReadyIn.cons rfl (fun K hK => ?_) ?_
              · go_simp
                refine hK _ _ ?_
                clear hK K
                refine wpAnyIn_ready (rs := [0]) (by kernel_rfl) (by simp) ?_
                refine AllReadyIn.cons rfl (fun K hK => ?_) ?_
                · go_simp
                  refine hK _ _ ?_
                  clear hK K
                  refine wpAnyIn_ready (rs := [5]) (by kernel_rfl) (by simp) ?_
                  refine AllReadyIn.cons rfl (fun K hK => ?_) ?_
                  · refine stepI_R_append k27 (w0 := Wd) (W := w4) (w3.heap.size + 2) (by go_simp) _ _ 24 27 (.agg #[.int .i64 0, .int .i64 0]) 16 rfl Tryz.underlying24 info27 rfl (by decide) (by decide) v l' ⟨p.1, p.2⟩ [.int .i64 p.1, .int .i64 p.2] (fun _ => True) (fun _ => False) rfl rfl (k27_mkM _ _ _ _) (fun _ h => h.elim) (fun _ _ => trivial) RO4.out BW4.out SZ4.out (by rw [HL.out]; have := HN.out; have := HK.out; omega) ?_
                    intro v1 w5 r5 b5
                    obtain ⟨As, cs5, hv5⟩ := Kd.R_slice r5
                    rw [List.length_append, List.length_singleton] at hv5
                    subst hv5
                    have R5 := Sd.mk r5
                    have B5 := Sd.mk b5
                    clear r5 b5
                    have gs : w5.cell? ⟨w.heap.size + 1 + 1, 0, none⟩ = some v := (blk_cell (Below5 B5.out SL.out (by have := HG.out; have := HG3.out; omega)) 0).trans rfl
                    have gs' := blk_frozen (Below5 B5.out SL.out (by have := HG.out; have := HG3.out; omega)) 0
                    refine hK _ _ ?_
                    clear hK K
                    refine wpAnyIn_ready (rs := [6]) (by kernel_rfl) (by simp) ?_
                    refine AllReadyIn.cons rfl (fun K hK => ?_) ?_
                    · go_simp
                      refine hK _ _ ?_
                      clear hK K
                      refine wpAnyIn_done (by kernel_rfl) ?_ _
                      exact fin { tmps := #[], defers := [] } _ _ R5.out B5.out
                    exact AllReadyIn.nil
                  exact AllReadyIn.nil
                exact AllReadyIn.nil
              exact AllReadyIn.nil
            exact AllReadyIn.nil
          exact AllReadyIn.nil
        exact AllReadyIn.nil
      case fn => intro ⟨_, _, h⟩; exact h.elim
      case panic => intro _ _ h; exact h.elim
      case done =>
        intro W hI hD
        obtain ⟨v, l9, hI⟩ := hI
        have hll' := hI.li
        rw [HL.out] at hll'
        have e9 := Option.some.inj hll'
        subst e9
        have HI2 := Sd.mk hI
        have HD := Sd.mk hD
        obtain ⟨As, cs5, rfl⟩ := Kd.R_slice hI.ro
        have gv : W.cell? ⟨w.heap.size + 1 + 1, 0, none⟩ = some (.slice As l.length cs5) := (blk_cell hI.sl 0).trans rfl
        have gv' := blk_frozen hI.sl 0
        have ge : (W.setCell ⟨w.heap.size + 1 + 1, 0, none⟩ (.slice As l.length cs5)).cell? ⟨w.heap.size + 1 + 1 + 1, 0, none⟩ = some (.int .i64 0) := (blk_cell (blk_far hI.er (p := ⟨w.heap.size + 1 + 1, 0, none⟩) (by simp) _) 0).trans rfl
        have ge' := blk_frozen (blk_far hI.er (p := ⟨w.heap.size + 1 + 1, 0, none⟩) (by simp) (.slice As l.length cs5)) 0
        clear hI hD BX3 BS3 BL3 BE3 RB3 HB3 BX1 BS1 BL1 BE1 HB1 BL2 BE2 HB2 HB BX BS BL BE
        gi_wp2
        have hg1 := HG.out
        have hg2 := HG3.out
        have hi2 := HI2.out
        refine ⟨by simp, .inl ⟨_, _, rfl, run_takeDeferred ((Below.heap_setCell _ _ _ _ (by simp; omega)).trans ((Below.heap_setCell _ _ _ _ (by simp; omega)).trans HD.out)), ?_⟩⟩
        refine leavesInM_fn (f := 154) (args := #[.pointer (some ⟨w.heap.size + 1 + 1 + 1, 0, none⟩)]) (by simp) (by simp [go_sem]) ?_
        refine (door139I_ok _ _ _).mono ?_
        rintro e u' w'' ⟨rfl, rfl, rfl⟩
        have hlt : w3.heap.size < W.heap.size := (Array.getElem?_eq_some_iff.1 HD.out).1
        refine ⟨_, results_ce rfl _ _ (w.heap.size + 1 + 1) (w.heap.size + 1 + 1 + 1) _ _ rfl (run_var24 _ _ _ (putObj_heap_keep (by omega) (blk_far (blk_put hi2.sl 0 _ rfl) (p := ⟨w.heap.size + 1 + 1 + 1, 0, none⟩) (by simp) _))) rfl (putObj_heap_keep (by omega) (blk_put (blk_far hi2.er (p := ⟨w.heap.size + 1 + 1, 0, none⟩) (by simp) _) 0 _ rfl)), _, rfl, ?_, below_putObj (below_set (below_set hi2.be (by omega)) (by omega)) (by omega) (by simpa using hlt)⟩
        exact Kd.R_lower (R_put (Kd.R_set (Kd.R_set hi2.ro hi2.sl (by simp [k27_E]) 0 _) (blk_far hi2.er (p := ⟨w.heap.size + 1 + 1, 0, none⟩) (by simp) _) (by simp [k27_E]) 0 _) (by omega) _) (by omega)
    | false =>
      rw [if_neg (by rw [hi']; simp)] at h
      simp only [Option.some.injEq, Prod.mk.injEq] at h
      obtain ⟨rfl, rfl⟩ := h
      have HI := Sd.mk hi'
      clear hi'
      refine (callsIn_wide (n := 9)).1 (callsIn_of_wp_marks Tryz.func61 rfl trivial ?_ rfl)
      simp only [Tryz.ntmps61, List.size_toArray, List.length_cons, List.length_nil, Nat.reduceAdd, Nat.reduceSub, Array.replicate_succ, Array.replicate_zero, List.push_toArray, List.append_toArray, List.nil_append, List.cons_append]
      gi_wp2_with (first | (refine ⟨trivial, ?_⟩; gi_at_call 120; refine (callsIn_wide.2 (bottle_ok A c zs f1 f2 _ HR.out H0.out)).mono ?_; rintro e w1 ⟨rfl, hw1⟩; have BX1 := Sd.mk (blk_below BX.out hw1); have BS1 := Sd.mk (blk_below BS.out hw1); have BL1 := Sd.mk (blk_below BL.out hw1); have BE1 := Sd.mk (blk_below BE.out hw1); have HB1 := Sd.mk (below_then HB.out (by have := HSZ.out; omega) hw1); have HSZ1 := Sd.mk (show w.heap.size + 4 ≤ w1.heap.size from Nat.le_trans (by have := HSZ.out; omega) hw1.size); clear hw1; have ht0 : w1.cell? ⟨w.heap.size + 1, 0, none⟩ = some (.int .i64 lo) := (blk_cell BS1.out 0).trans rfl; have ht1 : w1.cell? ⟨w.heap.size + 1, 0 + 1, none⟩ = some (.int .i64 hi) := (blk_cell BS1.out 1).trans rfl; have hb0 : w1.cell? ⟨w.heap.size, 0, none⟩ = some (.slice A zs.length c) := (blk_cell BX1.out 0).trans rfl; have hb1 : w1.cell? ⟨w.heap.size, 0 + 1, none⟩ = some (.int .i64 f1) := (blk_cell BX1.out 1).trans rfl; have hb2 : w1.cell? ⟨w.heap.size, 0 + 2, none⟩ = some (.int .i64 f2) := (blk_cell BX1.out 2).trans rfl) | (refine ⟨trivial, ?_⟩; gi_at_call 155; refine (callsIn_wide.2 (sspan_f _ _ _ _ _)).mono ?_; rw [HI.out]; rintro e w2 ⟨rfl, hw2⟩; have BX2 := BX1; have BS2 := BS1; clear BX1 BS1; have BX1 := Sd.mk (blk_below BX2.out hw2); have BS1 := Sd.mk (blk_below BS2.out hw2); have BL2 := Sd.mk (blk_below BL1.out hw2); have BE2 := Sd.mk (blk_below BE1.out hw2); have HB2 := Sd.mk (below_then HB1.out HB1.out.size hw2); have HSZ2 := Sd.mk (show w.heap.size + 4 ≤ w2.heap.size from Nat.le_trans HSZ1.out hw2.size); clear BX2 BS2 hw2; have hb0 : w2.cell? ⟨w.heap.size, 0, none⟩ = some (.slice A zs.length c) := (blk_cell BX1.out 0).trans rfl; have hb1 : w2.cell? ⟨w.heap.size, 0 + 1, none⟩ = some (.int .i64 f1) := (blk_cell BX1.out 1).trans rfl; have hb2 : w2.cell? ⟨w.heap.size, 0 + 2, none⟩ = some (.int .i64 f2) := (blk_cell BX1.out 2).trans rfl) | (refine ⟨trivial, ?_⟩; gi_at_call 65; (with_reducible refine (callsIn_wide.2 (demand_no _ _)).mono ?_); rintro e w' ⟨rfl, rfl⟩))
      refine leavesInM_fn (f := 154) (args := #[.pointer (some ⟨w.heap.size + 1 + 1 + 1, 0, none⟩)]) (by simp) (by simp [go_sem]) ?_
      refine (door139I_fail _ _ _ 0 [] _ BE2.out).mono ?_
      rintro e u' w'' ⟨rfl, rfl, rfl⟩
      exact ⟨_, results_ce rfl _ _ (w.heap.size + 1 + 1) (w.heap.size + 1 + 1 + 1) _ _ rfl (run_var24 _ _ _ (blk_far (blk_alloc BL2.out _) (p := ⟨w.heap.size + 1 + 1 + 1, 0, none⟩) (by simp) _)) rfl (blk_put (blk_alloc BE2.out _) 0 _ rfl), _, rfl, Kd.R_nil _ _ _ _ _, below_set (below_alloc HB2.out _) (by omega)⟩
  · rw [if_neg h0] at h
    simp only [Option.some.injEq, Prod.mk.injEq] at h
    obtain ⟨rfl, rfl⟩ := h
    have H0 := Sd.mk h0
    clear h0
    refine (callsIn_wide (n := 9)).1 (callsIn_of_wp_marks Tryz.func61 rfl trivial ?_ rfl)
    simp only [Tryz.ntmps61, List.size_toArray, List.length_cons, List.length_nil, Nat.reduceAdd, Nat.reduceSub, Array.replicate_succ, Array.replicate_zero, List.push_toArray, List.append_toArray, List.nil_append, List.cons_append]
    gi_wp2_with (first | (refine ⟨trivial, ?_⟩; gi_at_call 120; refine (callsIn_wide.2 (bottle_no A c zs f1 f2 _ HR.out H0.out)).mono ?_; rintro e w1 ⟨rfl, hw1⟩; have BX1 := Sd.mk (blk_below BX.out hw1); have BS1 := Sd.mk (blk_below BS.out hw1); have BL1 := Sd.mk (blk_below BL.out hw1); have BE1 := Sd.mk (blk_below BE.out hw1); have HB1 := Sd.mk (below_then HB.out (by have := HSZ.out; omega) hw1); have HSZ1 := Sd.mk (show w.heap.size + 4 ≤ w1.heap.size from Nat.le_trans (by have := HSZ.out; omega) hw1.size); clear hw1; have ht0 : w1.cell? ⟨w.heap.size + 1, 0, none⟩ = some (.int .i64 lo) := (blk_cell BS1.out 0).trans rfl; have ht1 : w1.cell? ⟨w.heap.size + 1, 0 + 1, none⟩ = some (.int .i64 hi) := (blk_cell BS1.out 1).trans rfl; have hb0 : w1.cell? ⟨w.heap.size, 0, none⟩ = some (.slice A zs.length c) := (blk_cell BX1.out 0).trans rfl; have hb1 : w1.cell? ⟨w.heap.size, 0 + 1, none⟩ = some (.int .i64 f1) := (blk_cell BX1.out 1).trans rfl; have hb2 : w1.cell? ⟨w.heap.size, 0 + 2, none⟩ = some (.int .i64 f2) := (blk_cell BX1.out 2).trans rfl))
    refine leavesInM_fn (f := 154) (args := #[.pointer (some ⟨w.heap.size + 1 + 1 + 1, 0, none⟩)]) (by simp) (by simp [go_sem]) ?_
    refine (door139I_fail _ _ _ 0 [] _ BE1.out).mono ?_
    rintro e u' w'' ⟨rfl, rfl, rfl⟩
    exact ⟨_, results_ce rfl _ _ (w.heap.size + 1 + 1) (w.heap.size + 1 + 1 + 1) _ _ rfl (run_var24 _ _ _ (blk_far (blk_alloc BL1.out _) (p := ⟨w.heap.size + 1 + 1 + 1, 0, none⟩) (by simp) _)) rfl (blk_put (blk_alloc BE1.out _) 0 _ rfl), _, rfl, Kd.R_nil _ _ _ _ _, below_set (below_alloc HB1.out _) (by omega)⟩
end
section
structure TurnsAt (p : Nat → Bool) (n c : Nat) : Prop where
  le : c ≤ n
  lo : ∀ t, t < c → p t = false
  hi : ∀ t, c ≤ t → t < n → p t = true
theorem turnsAt_ex (p : Nat → Bool) (hm : ∀ a b, a ≤ b → p a = true → p b = true) : ∀ n, ∃ c, TurnsAt p n c
  | 0 => ⟨0, ⟨Nat.le_refl 0, fun t h => by omega, fun t _ h => by omega⟩⟩
  | n + 1 => by
    obtain ⟨c, h⟩ := turnsAt_ex p hm n
    cases hp : p n with
    | false =>
      refine ⟨n + 1, ⟨Nat.le_refl _, fun t ht => ?_, fun t h1 h2 => by omega⟩⟩
      cases hq : p t with
      | false => rfl
      | true => rw [hm t n (by omega) hq] at hp; cases hp
    | true =>
      by_cases hc : c = n
      · exact ⟨c, ⟨by omega, h.lo, fun t h1 h2 => by rw [show t = n by omega]; exact hp⟩⟩
      · refine ⟨c, ⟨by have := h.le; omega, h.lo, fun t h1 h2 => ?_⟩⟩
        by_cases ht : t = n
        · rw [ht]; exact hp
        · exact h.hi t h1 (by omega)
theorem search_calls (g : Nat) (cb : Array Value) (n : Nat) (p : Nat → Bool) (c : Nat) (w : World) (eg : ∀ args w, (callFunc g args).run Tryz.prog w = .ok (.enter g args) w) (hn : n < 4611686018427387904) (ht : TurnsAt p n c)
    (hf : ∀ (W : World) (i : Nat), Below w.heap.size w W → i < n → Calls Tryz.prog g (#[.int .i64 i] ++ cb) W fun e w' => e = .returned (.bool (p i)) ∧ Below W.heap.size W w') :
    Calls Tryz.prog 189 #[.int .i64 n, .func (.func g) #[] cb] w fun e w' => e = .returned (.int .i64 (c : Nat)) ∧ Below w.heap.size w w' := by
  have HF := Sd.mk hf
  have HT := Sd.mk ht
  clear hf ht
  go_enter Tryz.func189, Tryz.ntmps189
  go_wp2
  go_loopg [5, 6] n (fun kx s5 s6 wr => ∃ lo hi : Nat, s5 = .int .i64 lo ∧ s6 = .int .i64 hi ∧ lo ≤ hi ∧ hi ≤ n ∧ hi - lo ≤ kx ∧ Sd (lo ≤ c ∧ c ≤ hi) ∧ Sd (Below w.heap.size w wr))
  case atStart => exact ⟨0, n, rfl, rfl, Nat.zero_le _, Nat.le_refl _, by omega, ⟨⟨Nat.zero_le _, HT.out.le⟩⟩, ⟨Below.refl _ _⟩⟩
  case round =>
    obtain ⟨lo, hi, rfl, rfl, hlh, hin, hg, I, HB⟩ := hrel
    by_cases hlt : lo < hi
    · have hc := HF.out wr ((lo + hi) / 2) HB.out (by omega)
      rw [show (((lo + hi) / 2 : Nat) : Int) = ((lo : Int) + (hi : Int)) / 2 by omega] at hc
      cases hp : p ((lo + hi) / 2) <;> rw [hp] at hc
      · have HP := Sd.mk hp
        clear hp
        go_wp2_with (go_at_fn g; refine hc.mono ?_; rintro e w1 ⟨rfl, hb1⟩)
        go_roundg (hi - ((lo + hi) / 2 + 1))
        case measure => omega
        case rel =>
          have I2 : Sd ((lo + hi) / 2 + 1 ≤ c ∧ c ≤ hi) := ⟨by
            have h1 := HT.out.hi ((lo + hi) / 2)
            rw [HP.out] at h1
            have := I.out
            refine ⟨?_, this.2⟩
            by_cases h2 : c ≤ (lo + hi) / 2
            · exact absurd (h1 h2 (by omega)) (by simp)
            · omega⟩
          exact ⟨(lo + hi) / 2 + 1, hi, by rw [show ((lo : Int) + (hi : Int)) / 2 + 1 = (((lo + hi) / 2 + 1 : Nat) : Int) by omega], rfl, by omega, hin, Nat.le_refl _, I2, ⟨below_trans' HB.out hb1⟩⟩
      · have HP := Sd.mk hp
        clear hp
        go_wp2_with (go_at_fn g; refine hc.mono ?_; rintro e w1 ⟨rfl, hb1⟩)
        go_roundg ((lo + hi) / 2 - lo)
        case measure => omega
        case rel =>
          have I2 : Sd (lo ≤ c ∧ c ≤ (lo + hi) / 2) := ⟨by
            have h1 := HT.out.lo ((lo + hi) / 2)
            rw [HP.out] at h1
            have := I.out
            refine ⟨this.1, ?_⟩
            by_cases h2 : (lo + hi) / 2 < c
            · exact absurd (h1 h2) (by simp)
            · omega⟩
          exact ⟨lo, (lo + hi) / 2, rfl, by rw [show ((lo : Int) + (hi : Int)) / 2 = (((lo + hi) / 2 : Nat) : Int) by omega], by omega, by omega, Nat.le_refl _, I2, ⟨below_trans' HB.out hb1⟩⟩
    · obtain rfl : hi = lo := by omega
      obtain rfl : c = hi := by have := I.out; omega
      go_wp2
      go_ret
      exact ⟨rfl, HB.out⟩
end
section
def st_parts_1.f (a0_0 : Int) (a0_1 : Int) (a0_2 : Int) (a0_3 : Int) (a0_4 : Int) (a0_5 : Int) (a0_6 : Int) (a0_7 : Int) (a0_8 : Int) (a0_9 : Int) (a1_0 : Int) (a1_1 : Int) (a2_0 : Int) (a2_1 : Int) (a2_2 : Int) (a2_3 : Int) : Option (Int × Int) := (st_down.f (wrap64 ((wrap64 (a2_0 * a0_0)) * a0_6)) (wrap64 (100 * a1_1))).bind fun t1015 => ((st_up.f (wrap64 ((wrap64 (a2_0 * a0_1)) * a0_7)) (wrap64 (100 * a1_0))).bind fun t1016 => (some (t1015, t1016)))
theorem st_parts_1.calls (a0_0 : Int) (a0_1 : Int) (a0_2 : Int) (a0_3 : Int) (a0_4 : Int) (a0_5 : Int) (a0_6 : Int) (a0_7 : Int) (a0_8 : Int) (a0_9 : Int) (a1_0 : Int) (a1_1 : Int) (a2_0 : Int) (a2_1 : Int) (a2_2 : Int) (a2_3 : Int) (r1 : Int) (r2 : Int) (w : World) (h : st_parts_1.f a0_0 a0_1 a0_2 a0_3 a0_4 a0_5 a0_6 a0_7 a0_8 a0_9 a1_0 a1_1 a2_0 a2_1 a2_2 a2_3 = some (r1, r2)) :
  Calls Tryz.prog 212 #[.agg #[.int .i64 a0_0, .int .i64 a0_1, .int .i64 a0_2, .int .i64 a0_3, .int .i64 a0_4, .int .i64 a0_5, .int .i64 a0_6, .int .i64 a0_7, .int .i64 a0_8, .int .i64 a0_9], .agg #[.int .i64 a1_0, .int .i64 a1_1], .agg #[.int .i64 a2_0, .int .i64 a2_1, .int .i64 a2_2, .int .i64 a2_3]] w fun e w' => e = .returned (.tuple #[.int .i64 r1, .int .i64 r2]) ∧ Below w.heap.size w w' := by
 have hu92 := Tryz.underlying92; have hu27 := Tryz.underlying27; have hu48 := Tryz.underlying48; have HB := Sd.mk (Below.refl w.heap.size w)
 have H : ((st_down.f (wrap64 ((wrap64 (a2_0 * a0_0)) * a0_6)) (wrap64 (100 * a1_1))).bind fun t1015 => ((st_up.f (wrap64 ((wrap64 (a2_0 * a0_1)) * a0_7)) (wrap64 (100 * a1_0))).bind fun t1016 => (some (t1015, t1016)))) = some (r1, r2) := h
 clear h; replace H := Option.bind_eq_some_iff.mp H; obtain ⟨t1015, A40, H⟩ := H
 try dsimp only at H
 have A4 := Sd.mk A40; clear A40; replace H := Option.bind_eq_some_iff.mp H; obtain ⟨t1016, A50, H⟩ := H
 try dsimp only at H
 have A5 := Sd.mk A50; clear A50
 simp only [Option.some.injEq, Prod.mk.injEq] at H
 obtain ⟨rfl, rfl⟩ := H
 go_enter Tryz.func212, Tryz.ntmps212
 go_wp2_with (first | ((with_reducible refine gate_dst (N := 3) rfl ?_); refine box_event ?hg (N := 3) ?hd (cs := #[.int .i64 a0_0, .int .i64 a0_1, .int .i64 a0_2, .int .i64 a0_3, .int .i64 a0_4, .int .i64 a0_5, .int .i64 a0_6, .int .i64 a0_7, .int .i64 a0_8, .int .i64 a0_9]) (t := 92) ?hr ?_; (case hd => rfl); (case hg => rfl); (case hr => exact tG); intro gb1012 hg w6 hbox hb; have BK1012 := Sd.mk (hbox); have GW1012 := Sd.mk (bSz hg (bBl HB.out)); have GE1012 := Sd.mk (bSz hg (bBl HB.out)); replace HB := Sd.mk (below_step (bBl HB.out) hb); clear hb hbox hg) | ((with_reducible refine gate_dst (N := 4) rfl ?_); refine box_event ?hg (N := 4) ?hd (cs := #[.int .i64 a1_0, .int .i64 a1_1]) (t := 27) ?hr ?_; (case hd => rfl); (case hg => rfl); (case hr => exact tG); intro gb1013 hg w7 hbox hb; have BK1013 := Sd.mk (hbox); have GW1013 := Sd.mk (bSz hg (bBl HB.out)); have GE1013 := Sd.mk (bSz hg (bBl HB.out)); replace HB := Sd.mk (below_step (bBl HB.out) hb); have NB1012_1013 := Sd.mk (bNl hg (bkA BK1012.out)); have NB1013_1012 := Sd.mk (bNg hg (bkA BK1012.out)); replace BK1012 := Sd.mk (blk_below (bkA BK1012.out) hb); clear hb hbox hg) | ((with_reducible refine gate_dst (N := 5) rfl ?_); refine box_event ?hg (N := 5) ?hd (cs := #[.int .i64 a2_0, .int .i64 a2_1, .int .i64 a2_2, .int .i64 a2_3]) (t := 48) ?hr ?_; (case hd => rfl); (case hg => rfl); (case hr => exact tG); intro gb1014 hg w8 hbox hb; have BK1014 := Sd.mk (hbox); have GW1014 := Sd.mk (bSz hg (bBl HB.out)); have GE1014 := Sd.mk (bSz hg (bBl HB.out)); replace HB := Sd.mk (below_step (bBl HB.out) hb); have NB1012_1014 := Sd.mk (bNl hg (bkA BK1012.out)); have NB1014_1012 := Sd.mk (bNg hg (bkA BK1012.out)); replace BK1012 := Sd.mk (blk_below (bkA BK1012.out) hb); have NB1013_1014 := Sd.mk (bNl hg (bkA BK1013.out)); have NB1014_1013 := Sd.mk (bNg hg (bkA BK1013.out)); replace BK1013 := Sd.mk (blk_below (bkA BK1013.out) hb); clear hb hbox hg; have hnb9 := NB1014_1012.out; have hnc9 := NB1012_1014.out; have hnb10 := NB1014_1013.out; have hnc10 := NB1013_1014.out; obtain ⟨u11_0, u11_1, u11_2, u11_3, o11_0, o11_1, o11_2, o11_3⟩ := bc4 (w := w8) BK1014.out; have hnb12 := NB1012_1013.out; have hnc12 := NB1013_1012.out; obtain ⟨u13_0, u13_1, u13_2, u13_3, u13_4, u13_5, u13_6, u13_7, u13_8, u13_9, o13_0, o13_1, o13_2, o13_3, o13_4, o13_5, o13_6, o13_7, o13_8, o13_9⟩ := bc10 (w := w8) BK1012.out; obtain ⟨u14_0, u14_1, o14_0, o14_1⟩ := bc2 (w := w8) BK1013.out) | ((with_reducible refine gate_callee (f := 198) rfl ?_); refine goesL_ (some 21) rfl rfl Tryz.func198 (by kernel_rfl) rfl #[.int .i64 (wrap64 ((wrap64 (a2_0 * a0_0)) * a0_6)), .int .i64 (wrap64 (100 * a1_1))] rfl tM ?_; (with_reducible refine (st_down.calls (wrap64 ((wrap64 (a2_0 * a0_0)) * a0_6)) (wrap64 (100 * a1_1)) t1015 _ A4.out).mono ?_); rintro e w' ⟨rfl, ⟨nd, rfl⟩⟩; refine ⟨_, rfl, ?_⟩) | ((with_reducible refine gate_callee (f := 159) rfl ?_); refine goesL_ (some 35) rfl rfl Tryz.func159 (by kernel_rfl) rfl #[.int .i64 (wrap64 ((wrap64 (a2_0 * a0_1)) * a0_7)), .int .i64 (wrap64 (100 * a1_0))] rfl tM ?_; (with_reducible refine (st_up.calls (wrap64 ((wrap64 (a2_0 * a0_1)) * a0_7)) (wrap64 (100 * a1_0)) t1016 _ A5.out).mono ?_); rintro e w' ⟨rfl, ⟨nd, rfl⟩⟩; refine ⟨_, rfl, ?_⟩))
 go_ret2
 exact ⟨tE, bBl HB.out⟩
end
section
def st_parts_2.f (a0_0 : Int) (a0_1 : Int) (a0_2 : Int) (a0_3 : Int) (a0_4 : Int) (a0_5 : Int) (a0_6 : Int) (a0_7 : Int) (a0_8 : Int) (a0_9 : Int) (a1_0 : Int) (a1_1 : Int) (a2_0 : Int) (a2_1 : Int) (a2_2 : Int) (a2_3 : Int) : Option (Int × Int) := (st_down.f (wrap64 ((wrap64 (500000 * a2_1)) * 113)) (wrap64 ((wrap64 (355 * a0_1)) * a1_1))).bind fun t1020 => ((st_up.f (wrap64 ((wrap64 (500000 * a2_1)) * 106)) (wrap64 ((wrap64 (333 * a0_0)) * a1_0))).bind fun t1021 => (some (t1020, t1021)))
theorem st_parts_2.calls (a0_0 : Int) (a0_1 : Int) (a0_2 : Int) (a0_3 : Int) (a0_4 : Int) (a0_5 : Int) (a0_6 : Int) (a0_7 : Int) (a0_8 : Int) (a0_9 : Int) (a1_0 : Int) (a1_1 : Int) (a2_0 : Int) (a2_1 : Int) (a2_2 : Int) (a2_3 : Int) (r1 : Int) (r2 : Int) (w : World) (h : st_parts_2.f a0_0 a0_1 a0_2 a0_3 a0_4 a0_5 a0_6 a0_7 a0_8 a0_9 a1_0 a1_1 a2_0 a2_1 a2_2 a2_3 = some (r1, r2)) :
  Calls Tryz.prog 213 #[.agg #[.int .i64 a0_0, .int .i64 a0_1, .int .i64 a0_2, .int .i64 a0_3, .int .i64 a0_4, .int .i64 a0_5, .int .i64 a0_6, .int .i64 a0_7, .int .i64 a0_8, .int .i64 a0_9], .agg #[.int .i64 a1_0, .int .i64 a1_1], .agg #[.int .i64 a2_0, .int .i64 a2_1, .int .i64 a2_2, .int .i64 a2_3]] w fun e w' => e = .returned (.tuple #[.int .i64 r1, .int .i64 r2]) ∧ Below w.heap.size w w' := by
 have hu92 := Tryz.underlying92; have hu27 := Tryz.underlying27; have hu48 := Tryz.underlying48; have HB := Sd.mk (Below.refl w.heap.size w)
 have H : ((st_down.f (wrap64 ((wrap64 (500000 * a2_1)) * 113)) (wrap64 ((wrap64 (355 * a0_1)) * a1_1))).bind fun t1020 => ((st_up.f (wrap64 ((wrap64 (500000 * a2_1)) * 106)) (wrap64 ((wrap64 (333 * a0_0)) * a1_0))).bind fun t1021 => (some (t1020, t1021)))) = some (r1, r2) := h
 clear h; replace H := Option.bind_eq_some_iff.mp H; obtain ⟨t1020, A40, H⟩ := H
 try dsimp only at H
 have A4 := Sd.mk A40; clear A40; replace H := Option.bind_eq_some_iff.mp H; obtain ⟨t1021, A50, H⟩ := H
 try dsimp only at H
 have A5 := Sd.mk A50; clear A50
 simp only [Option.some.injEq, Prod.mk.injEq] at H
 obtain ⟨rfl, rfl⟩ := H
 go_enter Tryz.func213, Tryz.ntmps213
 go_wp2_with (first | ((with_reducible refine gate_dst (N := 3) rfl ?_); refine box_event ?hg (N := 3) ?hd (cs := #[.int .i64 a0_0, .int .i64 a0_1, .int .i64 a0_2, .int .i64 a0_3, .int .i64 a0_4, .int .i64 a0_5, .int .i64 a0_6, .int .i64 a0_7, .int .i64 a0_8, .int .i64 a0_9]) (t := 92) ?hr ?_; (case hd => rfl); (case hg => rfl); (case hr => exact tG); intro gb1017 hg w6 hbox hb; have BK1017 := Sd.mk (hbox); have GW1017 := Sd.mk (bSz hg (bBl HB.out)); have GE1017 := Sd.mk (bSz hg (bBl HB.out)); replace HB := Sd.mk (below_step (bBl HB.out) hb); clear hb hbox hg) | ((with_reducible refine gate_dst (N := 4) rfl ?_); refine box_event ?hg (N := 4) ?hd (cs := #[.int .i64 a1_0, .int .i64 a1_1]) (t := 27) ?hr ?_; (case hd => rfl); (case hg => rfl); (case hr => exact tG); intro gb1018 hg w7 hbox hb; have BK1018 := Sd.mk (hbox); have GW1018 := Sd.mk (bSz hg (bBl HB.out)); have GE1018 := Sd.mk (bSz hg (bBl HB.out)); replace HB := Sd.mk (below_step (bBl HB.out) hb); have NB1017_1018 := Sd.mk (bNl hg (bkA BK1017.out)); have NB1018_1017 := Sd.mk (bNg hg (bkA BK1017.out)); replace BK1017 := Sd.mk (blk_below (bkA BK1017.out) hb); clear hb hbox hg) | ((with_reducible refine gate_dst (N := 5) rfl ?_); refine box_event ?hg (N := 5) ?hd (cs := #[.int .i64 a2_0, .int .i64 a2_1, .int .i64 a2_2, .int .i64 a2_3]) (t := 48) ?hr ?_; (case hd => rfl); (case hg => rfl); (case hr => exact tG); intro gb1019 hg w8 hbox hb; have BK1019 := Sd.mk (hbox); have GW1019 := Sd.mk (bSz hg (bBl HB.out)); have GE1019 := Sd.mk (bSz hg (bBl HB.out)); replace HB := Sd.mk (below_step (bBl HB.out) hb); have NB1017_1019 := Sd.mk (bNl hg (bkA BK1017.out)); have NB1019_1017 := Sd.mk (bNg hg (bkA BK1017.out)); replace BK1017 := Sd.mk (blk_below (bkA BK1017.out) hb); have NB1018_1019 := Sd.mk (bNl hg (bkA BK1018.out)); have NB1019_1018 := Sd.mk (bNg hg (bkA BK1018.out)); replace BK1018 := Sd.mk (blk_below (bkA BK1018.out) hb); clear hb hbox hg; have hnb9 := NB1019_1017.out; have hnc9 := NB1017_1019.out; have hnb10 := NB1019_1018.out; have hnc10 := NB1018_1019.out; obtain ⟨u11_0, u11_1, u11_2, u11_3, o11_0, o11_1, o11_2, o11_3⟩ := bc4 (w := w8) BK1019.out; have hnb12 := NB1017_1018.out; have hnc12 := NB1018_1017.out; obtain ⟨u13_0, u13_1, u13_2, u13_3, u13_4, u13_5, u13_6, u13_7, u13_8, u13_9, o13_0, o13_1, o13_2, o13_3, o13_4, o13_5, o13_6, o13_7, o13_8, o13_9⟩ := bc10 (w := w8) BK1017.out; obtain ⟨u14_0, u14_1, o14_0, o14_1⟩ := bc2 (w := w8) BK1018.out) | ((with_reducible refine gate_callee (f := 198) rfl ?_); refine goesL_ (some 19) rfl rfl Tryz.func198 (by kernel_rfl) rfl #[.int .i64 (wrap64 ((wrap64 (500000 * a2_1)) * 113)), .int .i64 (wrap64 ((wrap64 (355 * a0_1)) * a1_1))] rfl tM ?_; (with_reducible refine (st_down.calls (wrap64 ((wrap64 (500000 * a2_1)) * 113)) (wrap64 ((wrap64 (355 * a0_1)) * a1_1)) t1020 _ A4.out).mono ?_); rintro e w' ⟨rfl, ⟨nd, rfl⟩⟩; refine ⟨_, rfl, ?_⟩) | ((with_reducible refine gate_callee (f := 159) rfl ?_); refine goesL_ (some 31) rfl rfl Tryz.func159 (by kernel_rfl) rfl #[.int .i64 (wrap64 ((wrap64 (500000 * a2_1)) * 106)), .int .i64 (wrap64 ((wrap64 (333 * a0_0)) * a1_0))] rfl tM ?_; (with_reducible refine (st_up.calls (wrap64 ((wrap64 (500000 * a2_1)) * 106)) (wrap64 ((wrap64 (333 * a0_0)) * a1_0)) t1021 _ A5.out).mono ?_); rintro e w' ⟨rfl, ⟨nd, rfl⟩⟩; refine ⟨_, rfl, ?_⟩))
 go_ret2
 exact ⟨tE, bBl HB.out⟩
end
section
def st_parts_3.f (a0_0 : Int) (a0_1 : Int) (a0_2 : Int) (a0_3 : Int) (a0_4 : Int) (a0_5 : Int) (a0_6 : Int) (a0_7 : Int) (a0_8 : Int) (a0_9 : Int) (a1_0 : Int) (a1_1 : Int) (a2_0 : Int) (a2_1 : Int) (a2_2 : Int) (a2_3 : Int) : Option (Int × Int) := (st_down.f (wrap64 (a0_8 * a2_2)) a1_1).bind fun t1025 => ((st_up.f (wrap64 (a0_9 * a2_2)) a1_0).bind fun t1026 => (some (t1025, t1026)))
theorem st_parts_3.calls (a0_0 : Int) (a0_1 : Int) (a0_2 : Int) (a0_3 : Int) (a0_4 : Int) (a0_5 : Int) (a0_6 : Int) (a0_7 : Int) (a0_8 : Int) (a0_9 : Int) (a1_0 : Int) (a1_1 : Int) (a2_0 : Int) (a2_1 : Int) (a2_2 : Int) (a2_3 : Int) (r1 : Int) (r2 : Int) (w : World) (h : st_parts_3.f a0_0 a0_1 a0_2 a0_3 a0_4 a0_5 a0_6 a0_7 a0_8 a0_9 a1_0 a1_1 a2_0 a2_1 a2_2 a2_3 = some (r1, r2)) :
  Calls Tryz.prog 214 #[.agg #[.int .i64 a0_0, .int .i64 a0_1, .int .i64 a0_2, .int .i64 a0_3, .int .i64 a0_4, .int .i64 a0_5, .int .i64 a0_6, .int .i64 a0_7, .int .i64 a0_8, .int .i64 a0_9], .agg #[.int .i64 a1_0, .int .i64 a1_1], .agg #[.int .i64 a2_0, .int .i64 a2_1, .int .i64 a2_2, .int .i64 a2_3]] w fun e w' => e = .returned (.tuple #[.int .i64 r1, .int .i64 r2]) ∧ Below w.heap.size w w' := by
 have hu92 := Tryz.underlying92; have hu27 := Tryz.underlying27; have hu48 := Tryz.underlying48; have HB := Sd.mk (Below.refl w.heap.size w)
 have H : ((st_down.f (wrap64 (a0_8 * a2_2)) a1_1).bind fun t1025 => ((st_up.f (wrap64 (a0_9 * a2_2)) a1_0).bind fun t1026 => (some (t1025, t1026)))) = some (r1, r2) := h
 clear h; replace H := Option.bind_eq_some_iff.mp H; obtain ⟨t1025, A40, H⟩ := H
 try dsimp only at H
 have A4 := Sd.mk A40; clear A40; replace H := Option.bind_eq_some_iff.mp H; obtain ⟨t1026, A50, H⟩ := H
 try dsimp only at H
 have A5 := Sd.mk A50; clear A50
 simp only [Option.some.injEq, Prod.mk.injEq] at H
 obtain ⟨rfl, rfl⟩ := H
 go_enter Tryz.func214, Tryz.ntmps214
 go_wp2_with (first | ((with_reducible refine gate_dst (N := 3) rfl ?_); refine box_event ?hg (N := 3) ?hd (cs := #[.int .i64 a0_0, .int .i64 a0_1, .int .i64 a0_2, .int .i64 a0_3, .int .i64 a0_4, .int .i64 a0_5, .int .i64 a0_6, .int .i64 a0_7, .int .i64 a0_8, .int .i64 a0_9]) (t := 92) ?hr ?_; (case hd => rfl); (case hg => rfl); (case hr => exact tG); intro gb1022 hg w6 hbox hb; have BK1022 := Sd.mk (hbox); have GW1022 := Sd.mk (bSz hg (bBl HB.out)); have GE1022 := Sd.mk (bSz hg (bBl HB.out)); replace HB := Sd.mk (below_step (bBl HB.out) hb); clear hb hbox hg) | ((with_reducible refine gate_dst (N := 4) rfl ?_); refine box_event ?hg (N := 4) ?hd (cs := #[.int .i64 a1_0, .int .i64 a1_1]) (t := 27) ?hr ?_; (case hd => rfl); (case hg => rfl); (case hr => exact tG); intro gb1023 hg w7 hbox hb; have BK1023 := Sd.mk (hbox); have GW1023 := Sd.mk (bSz hg (bBl HB.out)); have GE1023 := Sd.mk (bSz hg (bBl HB.out)); replace HB := Sd.mk (below_step (bBl HB.out) hb); have NB1022_1023 := Sd.mk (bNl hg (bkA BK1022.out)); have NB1023_1022 := Sd.mk (bNg hg (bkA BK1022.out)); replace BK1022 := Sd.mk (blk_below (bkA BK1022.out) hb); clear hb hbox hg) | ((with_reducible refine gate_dst (N := 5) rfl ?_); refine box_event ?hg (N := 5) ?hd (cs := #[.int .i64 a2_0, .int .i64 a2_1, .int .i64 a2_2, .int .i64 a2_3]) (t := 48) ?hr ?_; (case hd => rfl); (case hg => rfl); (case hr => exact tG); intro gb1024 hg w8 hbox hb; have BK1024 := Sd.mk (hbox); have GW1024 := Sd.mk (bSz hg (bBl HB.out)); have GE1024 := Sd.mk (bSz hg (bBl HB.out)); replace HB := Sd.mk (below_step (bBl HB.out) hb); have NB1022_1024 := Sd.mk (bNl hg (bkA BK1022.out)); have NB1024_1022 := Sd.mk (bNg hg (bkA BK1022.out)); replace BK1022 := Sd.mk (blk_below (bkA BK1022.out) hb); have NB1023_1024 := Sd.mk (bNl hg (bkA BK1023.out)); have NB1024_1023 := Sd.mk (bNg hg (bkA BK1023.out)); replace BK1023 := Sd.mk (blk_below (bkA BK1023.out) hb); clear hb hbox hg; have hnb9 := NB1022_1023.out; have hnc9 := NB1023_1022.out; have hnb10 := NB1022_1024.out; have hnc10 := NB1024_1022.out; obtain ⟨u11_0, u11_1, u11_2, u11_3, u11_4, u11_5, u11_6, u11_7, u11_8, u11_9, o11_0, o11_1, o11_2, o11_3, o11_4, o11_5, o11_6, o11_7, o11_8, o11_9⟩ := bc10 (w := w8) BK1022.out; have hnb12 := NB1024_1023.out; have hnc12 := NB1023_1024.out; obtain ⟨u13_0, u13_1, u13_2, u13_3, o13_0, o13_1, o13_2, o13_3⟩ := bc4 (w := w8) BK1024.out; obtain ⟨u14_0, u14_1, o14_0, o14_1⟩ := bc2 (w := w8) BK1023.out) | (go_at_call 198; (with_reducible refine (st_down.calls (wrap64 (a0_8 * a2_2)) a1_1 t1025 _ A4.out).mono ?_); rintro e w' ⟨rfl, ⟨nd, rfl⟩⟩; (try exact tD)) | (go_at_call 159; (with_reducible refine (st_up.calls (wrap64 (a0_9 * a2_2)) a1_0 t1026 _ A5.out).mono ?_); rintro e w' ⟨rfl, ⟨nd, rfl⟩⟩; (try exact tD)))
 repeat (go_quiet (first | ((with_reducible refine gate_dst (N := 3) rfl ?_); refine box_event ?hg (N := 3) ?hd (cs := #[.int .i64 a0_0, .int .i64 a0_1, .int .i64 a0_2, .int .i64 a0_3, .int .i64 a0_4, .int .i64 a0_5, .int .i64 a0_6, .int .i64 a0_7, .int .i64 a0_8, .int .i64 a0_9]) (t := 92) ?hr ?_; (case hd => rfl); (case hg => rfl); (case hr => exact tG); intro gb1022 hg w6 hbox hb; have BK1022 := Sd.mk (hbox); have GW1022 := Sd.mk (bSz hg (bBl HB.out)); have GE1022 := Sd.mk (bSz hg (bBl HB.out)); replace HB := Sd.mk (below_step (bBl HB.out) hb); clear hb hbox hg) | ((with_reducible refine gate_dst (N := 4) rfl ?_); refine box_event ?hg (N := 4) ?hd (cs := #[.int .i64 a1_0, .int .i64 a1_1]) (t := 27) ?hr ?_; (case hd => rfl); (case hg => rfl); (case hr => exact tG); intro gb1023 hg w7 hbox hb; have BK1023 := Sd.mk (hbox); have GW1023 := Sd.mk (bSz hg (bBl HB.out)); have GE1023 := Sd.mk (bSz hg (bBl HB.out)); replace HB := Sd.mk (below_step (bBl HB.out) hb); have NB1022_1023 := Sd.mk (bNl hg (bkA BK1022.out)); have NB1023_1022 := Sd.mk (bNg hg (bkA BK1022.out)); replace BK1022 := Sd.mk (blk_below (bkA BK1022.out) hb); clear hb hbox hg) | ((with_reducible refine gate_dst (N := 5) rfl ?_); refine box_event ?hg (N := 5) ?hd (cs := #[.int .i64 a2_0, .int .i64 a2_1, .int .i64 a2_2, .int .i64 a2_3]) (t := 48) ?hr ?_; (case hd => rfl); (case hg => rfl); (case hr => exact tG); intro gb1024 hg w8 hbox hb; have BK1024 := Sd.mk (hbox); have GW1024 := Sd.mk (bSz hg (bBl HB.out)); have GE1024 := Sd.mk (bSz hg (bBl HB.out)); replace HB := Sd.mk (below_step (bBl HB.out) hb); have NB1022_1024 := Sd.mk (bNl hg (bkA BK1022.out)); have NB1024_1022 := Sd.mk (bNg hg (bkA BK1022.out)); replace BK1022 := Sd.mk (blk_below (bkA BK1022.out) hb); have NB1023_1024 := Sd.mk (bNl hg (bkA BK1023.out)); have NB1024_1023 := Sd.mk (bNg hg (bkA BK1023.out)); replace BK1023 := Sd.mk (blk_below (bkA BK1023.out) hb); clear hb hbox hg; have hnb9 := NB1022_1023.out; have hnc9 := NB1023_1022.out; have hnb10 := NB1022_1024.out; have hnc10 := NB1024_1022.out; obtain ⟨u11_0, u11_1, u11_2, u11_3, u11_4, u11_5, u11_6, u11_7, u11_8, u11_9, o11_0, o11_1, o11_2, o11_3, o11_4, o11_5, o11_6, o11_7, o11_8, o11_9⟩ := bc10 (w := w8) BK1022.out; have hnb12 := NB1024_1023.out; have hnc12 := NB1023_1024.out; obtain ⟨u13_0, u13_1, u13_2, u13_3, o13_0, o13_1, o13_2, o13_3⟩ := bc4 (w := w8) BK1024.out; obtain ⟨u14_0, u14_1, o14_0, o14_1⟩ := bc2 (w := w8) BK1023.out) | (go_at_call 198; (with_reducible refine (st_down.calls (wrap64 (a0_8 * a2_2)) a1_1 t1025 _ A4.out).mono ?_); rintro e w' ⟨rfl, ⟨nd, rfl⟩⟩; (try exact tD)) | (go_at_call 159; (with_reducible refine (st_up.calls (wrap64 (a0_9 * a2_2)) a1_0 t1026 _ A5.out).mono ?_); rintro e w' ⟨rfl, ⟨nd, rfl⟩⟩; (try exact tD))); try go_wp2_with (first | ((with_reducible refine gate_dst (N := 3) rfl ?_); refine box_event ?hg (N := 3) ?hd (cs := #[.int .i64 a0_0, .int .i64 a0_1, .int .i64 a0_2, .int .i64 a0_3, .int .i64 a0_4, .int .i64 a0_5, .int .i64 a0_6, .int .i64 a0_7, .int .i64 a0_8, .int .i64 a0_9]) (t := 92) ?hr ?_; (case hd => rfl); (case hg => rfl); (case hr => exact tG); intro gb1022 hg w6 hbox hb; have BK1022 := Sd.mk (hbox); have GW1022 := Sd.mk (bSz hg (bBl HB.out)); have GE1022 := Sd.mk (bSz hg (bBl HB.out)); replace HB := Sd.mk (below_step (bBl HB.out) hb); clear hb hbox hg) | ((with_reducible refine gate_dst (N := 4) rfl ?_); refine box_event ?hg (N := 4) ?hd (cs := #[.int .i64 a1_0, .int .i64 a1_1]) (t := 27) ?hr ?_; (case hd => rfl); (case hg => rfl); (case hr => exact tG); intro gb1023 hg w7 hbox hb; have BK1023 := Sd.mk (hbox); have GW1023 := Sd.mk (bSz hg (bBl HB.out)); have GE1023 := Sd.mk (bSz hg (bBl HB.out)); replace HB := Sd.mk (below_step (bBl HB.out) hb); have NB1022_1023 := Sd.mk (bNl hg (bkA BK1022.out)); have NB1023_1022 := Sd.mk (bNg hg (bkA BK1022.out)); replace BK1022 := Sd.mk (blk_below (bkA BK1022.out) hb); clear hb hbox hg) | ((with_reducible refine gate_dst (N := 5) rfl ?_); refine box_event ?hg (N := 5) ?hd (cs := #[.int .i64 a2_0, .int .i64 a2_1, .int .i64 a2_2, .int .i64 a2_3]) (t := 48) ?hr ?_; (case hd => rfl); (case hg => rfl); (case hr => exact tG); intro gb1024 hg w8 hbox hb; have BK1024 := Sd.mk (hbox); have GW1024 := Sd.mk (bSz hg (bBl HB.out)); have GE1024 := Sd.mk (bSz hg (bBl HB.out)); replace HB := Sd.mk (below_step (bBl HB.out) hb); have NB1022_1024 := Sd.mk (bNl hg (bkA BK1022.out)); have NB1024_1022 := Sd.mk (bNg hg (bkA BK1022.out)); replace BK1022 := Sd.mk (blk_below (bkA BK1022.out) hb); have NB1023_1024 := Sd.mk (bNl hg (bkA BK1023.out)); have NB1024_1023 := Sd.mk (bNg hg (bkA BK1023.out)); replace BK1023 := Sd.mk (blk_below (bkA BK1023.out) hb); clear hb hbox hg; have hnb9 := NB1022_1023.out; have hnc9 := NB1023_1022.out; have hnb10 := NB1022_1024.out; have hnc10 := NB1024_1022.out; obtain ⟨u11_0, u11_1, u11_2, u11_3, u11_4, u11_5, u11_6, u11_7, u11_8, u11_9, o11_0, o11_1, o11_2, o11_3, o11_4, o11_5, o11_6, o11_7, o11_8, o11_9⟩ := bc10 (w := w8) BK1022.out; have hnb12 := NB1024_1023.out; have hnc12 := NB1023_1024.out; obtain ⟨u13_0, u13_1, u13_2, u13_3, o13_0, o13_1, o13_2, o13_3⟩ := bc4 (w := w8) BK1024.out; obtain ⟨u14_0, u14_1, o14_0, o14_1⟩ := bc2 (w := w8) BK1023.out) | (go_at_call 198; (with_reducible refine (st_down.calls (wrap64 (a0_8 * a2_2)) a1_1 t1025 _ A4.out).mono ?_); rintro e w' ⟨rfl, ⟨nd, rfl⟩⟩; (try exact tD)) | (go_at_call 159; (with_reducible refine (st_up.calls (wrap64 (a0_9 * a2_2)) a1_0 t1026 _ A5.out).mono ?_); rintro e w' ⟨rfl, ⟨nd, rfl⟩⟩; (try exact tD))))
 go_ret2
 exact ⟨tE, bBl HB.out⟩
end
section
def st_parts_4.f (a0_0 : Int) (a0_1 : Int) (a0_2 : Int) (a0_3 : Int) (a0_4 : Int) (a0_5 : Int) (a0_6 : Int) (a0_7 : Int) (a0_8 : Int) (a0_9 : Int) (a1_0 : Int) (a1_1 : Int) (a2_0 : Int) (a2_1 : Int) (a2_2 : Int) (a2_3 : Int) : Option (Int × Int) := some (a2_3, a2_3)
theorem st_parts_4.calls (a0_0 : Int) (a0_1 : Int) (a0_2 : Int) (a0_3 : Int) (a0_4 : Int) (a0_5 : Int) (a0_6 : Int) (a0_7 : Int) (a0_8 : Int) (a0_9 : Int) (a1_0 : Int) (a1_1 : Int) (a2_0 : Int) (a2_1 : Int) (a2_2 : Int) (a2_3 : Int) (r1 : Int) (r2 : Int) (w : World) (h : st_parts_4.f a0_0 a0_1 a0_2 a0_3 a0_4 a0_5 a0_6 a0_7 a0_8 a0_9 a1_0 a1_1 a2_0 a2_1 a2_2 a2_3 = some (r1, r2)) :
  Calls Tryz.prog 215 #[.agg #[.int .i64 a0_0, .int .i64 a0_1, .int .i64 a0_2, .int .i64 a0_3, .int .i64 a0_4, .int .i64 a0_5, .int .i64 a0_6, .int .i64 a0_7, .int .i64 a0_8, .int .i64 a0_9], .agg #[.int .i64 a1_0, .int .i64 a1_1], .agg #[.int .i64 a2_0, .int .i64 a2_1, .int .i64 a2_2, .int .i64 a2_3]] w fun e w' => e = .returned (.tuple #[.int .i64 r1, .int .i64 r2]) ∧ Below w.heap.size w w' := by
 have hu92 := Tryz.underlying92; have hu27 := Tryz.underlying27; have hu48 := Tryz.underlying48; have HB := Sd.mk (Below.refl w.heap.size w)
 have H : (some (a2_3, a2_3)) = some (r1, r2) := h
 clear h
 simp only [Option.some.injEq, Prod.mk.injEq] at H
 obtain ⟨rfl, rfl⟩ := H
 go_enter Tryz.func215, Tryz.ntmps215
 go_wp2_with (first | ((with_reducible refine gate_dst (N := 3) rfl ?_); refine box_event ?hg (N := 3) ?hd (cs := #[.int .i64 a0_0, .int .i64 a0_1, .int .i64 a0_2, .int .i64 a0_3, .int .i64 a0_4, .int .i64 a0_5, .int .i64 a0_6, .int .i64 a0_7, .int .i64 a0_8, .int .i64 a0_9]) (t := 92) ?hr ?_; (case hd => rfl); (case hg => rfl); (case hr => exact tG); intro gb1027 hg w4 hbox hb; have BK1027 := Sd.mk (hbox); have GW1027 := Sd.mk (bSz hg (bBl HB.out)); have GE1027 := Sd.mk (bSz hg (bBl HB.out)); replace HB := Sd.mk (below_step (bBl HB.out) hb); clear hb hbox hg) | ((with_reducible refine gate_dst (N := 4) rfl ?_); refine box_event ?hg (N := 4) ?hd (cs := #[.int .i64 a1_0, .int .i64 a1_1]) (t := 27) ?hr ?_; (case hd => rfl); (case hg => rfl); (case hr => exact tG); intro gb1028 hg w5 hbox hb; have BK1028 := Sd.mk (hbox); have GW1028 := Sd.mk (bSz hg (bBl HB.out)); have GE1028 := Sd.mk (bSz hg (bBl HB.out)); replace HB := Sd.mk (below_step (bBl HB.out) hb); have NB1027_1028 := Sd.mk (bNl hg (bkA BK1027.out)); have NB1028_1027 := Sd.mk (bNg hg (bkA BK1027.out)); replace BK1027 := Sd.mk (blk_below (bkA BK1027.out) hb); clear hb hbox hg) | ((with_reducible refine gate_dst (N := 5) rfl ?_); refine box_event ?hg (N := 5) ?hd (cs := #[.int .i64 a2_0, .int .i64 a2_1, .int .i64 a2_2, .int .i64 a2_3]) (t := 48) ?hr ?_; (case hd => rfl); (case hg => rfl); (case hr => exact tG); intro gb1029 hg w6 hbox hb; have BK1029 := Sd.mk (hbox); have GW1029 := Sd.mk (bSz hg (bBl HB.out)); have GE1029 := Sd.mk (bSz hg (bBl HB.out)); replace HB := Sd.mk (below_step (bBl HB.out) hb); have NB1027_1029 := Sd.mk (bNl hg (bkA BK1027.out)); have NB1029_1027 := Sd.mk (bNg hg (bkA BK1027.out)); replace BK1027 := Sd.mk (blk_below (bkA BK1027.out) hb); have NB1028_1029 := Sd.mk (bNl hg (bkA BK1028.out)); have NB1029_1028 := Sd.mk (bNg hg (bkA BK1028.out)); replace BK1028 := Sd.mk (blk_below (bkA BK1028.out) hb); clear hb hbox hg; have hnb7 := NB1029_1027.out; have hnc7 := NB1027_1029.out; have hnb8 := NB1029_1028.out; have hnc8 := NB1028_1029.out; obtain ⟨u9_0, u9_1, u9_2, u9_3, o9_0, o9_1, o9_2, o9_3⟩ := bc4 (w := w6) BK1029.out))
 repeat (go_quiet (first | ((with_reducible refine gate_dst (N := 3) rfl ?_); refine box_event ?hg (N := 3) ?hd (cs := #[.int .i64 a0_0, .int .i64 a0_1, .int .i64 a0_2, .int .i64 a0_3, .int .i64 a0_4, .int .i64 a0_5, .int .i64 a0_6, .int .i64 a0_7, .int .i64 a0_8, .int .i64 a0_9]) (t := 92) ?hr ?_; (case hd => rfl); (case hg => rfl); (case hr => exact tG); intro gb1027 hg w4 hbox hb; have BK1027 := Sd.mk (hbox); have GW1027 := Sd.mk (bSz hg (bBl HB.out)); have GE1027 := Sd.mk (bSz hg (bBl HB.out)); replace HB := Sd.mk (below_step (bBl HB.out) hb); clear hb hbox hg) | ((with_reducible refine gate_dst (N := 4) rfl ?_); refine box_event ?hg (N := 4) ?hd (cs := #[.int .i64 a1_0, .int .i64 a1_1]) (t := 27) ?hr ?_; (case hd => rfl); (case hg => rfl); (case hr => exact tG); intro gb1028 hg w5 hbox hb; have BK1028 := Sd.mk (hbox); have GW1028 := Sd.mk (bSz hg (bBl HB.out)); have GE1028 := Sd.mk (bSz hg (bBl HB.out)); replace HB := Sd.mk (below_step (bBl HB.out) hb); have NB1027_1028 := Sd.mk (bNl hg (bkA BK1027.out)); have NB1028_1027 := Sd.mk (bNg hg (bkA BK1027.out)); replace BK1027 := Sd.mk (blk_below (bkA BK1027.out) hb); clear hb hbox hg) | ((with_reducible refine gate_dst (N := 5) rfl ?_); refine box_event ?hg (N := 5) ?hd (cs := #[.int .i64 a2_0, .int .i64 a2_1, .int .i64 a2_2, .int .i64 a2_3]) (t := 48) ?hr ?_; (case hd => rfl); (case hg => rfl); (case hr => exact tG); intro gb1029 hg w6 hbox hb; have BK1029 := Sd.mk (hbox); have GW1029 := Sd.mk (bSz hg (bBl HB.out)); have GE1029 := Sd.mk (bSz hg (bBl HB.out)); replace HB := Sd.mk (below_step (bBl HB.out) hb); have NB1027_1029 := Sd.mk (bNl hg (bkA BK1027.out)); have NB1029_1027 := Sd.mk (bNg hg (bkA BK1027.out)); replace BK1027 := Sd.mk (blk_below (bkA BK1027.out) hb); have NB1028_1029 := Sd.mk (bNl hg (bkA BK1028.out)); have NB1029_1028 := Sd.mk (bNg hg (bkA BK1028.out)); replace BK1028 := Sd.mk (blk_below (bkA BK1028.out) hb); clear hb hbox hg; have hnb7 := NB1029_1027.out; have hnc7 := NB1027_1029.out; have hnb8 := NB1029_1028.out; have hnc8 := NB1028_1029.out; obtain ⟨u9_0, u9_1, u9_2, u9_3, o9_0, o9_1, o9_2, o9_3⟩ := bc4 (w := w6) BK1029.out)); try go_wp2_with (first | ((with_reducible refine gate_dst (N := 3) rfl ?_); refine box_event ?hg (N := 3) ?hd (cs := #[.int .i64 a0_0, .int .i64 a0_1, .int .i64 a0_2, .int .i64 a0_3, .int .i64 a0_4, .int .i64 a0_5, .int .i64 a0_6, .int .i64 a0_7, .int .i64 a0_8, .int .i64 a0_9]) (t := 92) ?hr ?_; (case hd => rfl); (case hg => rfl); (case hr => exact tG); intro gb1027 hg w4 hbox hb; have BK1027 := Sd.mk (hbox); have GW1027 := Sd.mk (bSz hg (bBl HB.out)); have GE1027 := Sd.mk (bSz hg (bBl HB.out)); replace HB := Sd.mk (below_step (bBl HB.out) hb); clear hb hbox hg) | ((with_reducible refine gate_dst (N := 4) rfl ?_); refine box_event ?hg (N := 4) ?hd (cs := #[.int .i64 a1_0, .int .i64 a1_1]) (t := 27) ?hr ?_; (case hd => rfl); (case hg => rfl); (case hr => exact tG); intro gb1028 hg w5 hbox hb; have BK1028 := Sd.mk (hbox); have GW1028 := Sd.mk (bSz hg (bBl HB.out)); have GE1028 := Sd.mk (bSz hg (bBl HB.out)); replace HB := Sd.mk (below_step (bBl HB.out) hb); have NB1027_1028 := Sd.mk (bNl hg (bkA BK1027.out)); have NB1028_1027 := Sd.mk (bNg hg (bkA BK1027.out)); replace BK1027 := Sd.mk (blk_below (bkA BK1027.out) hb); clear hb hbox hg) | ((with_reducible refine gate_dst (N := 5) rfl ?_); refine box_event ?hg (N := 5) ?hd (cs := #[.int .i64 a2_0, .int .i64 a2_1, .int .i64 a2_2, .int .i64 a2_3]) (t := 48) ?hr ?_; (case hd => rfl); (case hg => rfl); (case hr => exact tG); intro gb1029 hg w6 hbox hb; have BK1029 := Sd.mk (hbox); have GW1029 := Sd.mk (bSz hg (bBl HB.out)); have GE1029 := Sd.mk (bSz hg (bBl HB.out)); replace HB := Sd.mk (below_step (bBl HB.out) hb); have NB1027_1029 := Sd.mk (bNl hg (bkA BK1027.out)); have NB1029_1027 := Sd.mk (bNg hg (bkA BK1027.out)); replace BK1027 := Sd.mk (blk_below (bkA BK1027.out) hb); have NB1028_1029 := Sd.mk (bNl hg (bkA BK1028.out)); have NB1029_1028 := Sd.mk (bNg hg (bkA BK1028.out)); replace BK1028 := Sd.mk (blk_below (bkA BK1028.out) hb); clear hb hbox hg; have hnb7 := NB1029_1027.out; have hnc7 := NB1027_1029.out; have hnb8 := NB1029_1028.out; have hnc8 := NB1028_1029.out; obtain ⟨u9_0, u9_1, u9_2, u9_3, o9_0, o9_1, o9_2, o9_3⟩ := bc4 (w := w6) BK1029.out)))
 go_ret2
 exact ⟨tE, bBl HB.out⟩
end
section
section
variable {P : Program} {ops : Array Oper} {rest : List Oper} {o : Oper} {a : Act} {Q : Exit → Act → World → Prop} {w : World}
theorem wp_loadrow_s (t : TypeId) (x : Operand) (ad : Addr) (v : Value) (hw : Region.wanted o (yielded ops a.tmps) = true) (ho : o.op = .load t x) (hx : a.eval x = .pointer (some ad)) (hr : (loadVar t ad).run P w = .ok v w) (h : wpList P ops Q rest (a.put o.dst v) w) : wpList P ops Q (o :: rest) a w := by
  refine wpList_step fun K hK => ?_
  rw [if_pos hw]
  unfold Oper.wp execOp
  simp only [ho, hx]
  simp only [Instr.loadAt, Instr.sureAddr, asAddr, Sem.run_bind, Sem.run_pure, hr, Result.andThen]
  exact hK _ _ h
end
def spanV (t : S27) : Value := .agg #[.int .i64 t.f0, .int .i64 t.f1]
def loadVv (pr fo sp ot : Int) : Value := .agg #[.int .i64 pr, .int .i64 fo, .int .i64 sp, .int .i64 ot]
def partF (x : S92) (t : S27) (pr fo sp ot : Int) : Nat → Option (Int × Int)
  | 0 => st_parts_1.f x.f0.f0 x.f0.f1 x.f1.f0 x.f1.f1 x.f2.f0 x.f2.f1 x.f3.f0 x.f3.f1 x.f4.f0 x.f4.f1 t.f0 t.f1 pr fo sp ot
  | 1 => st_parts_2.f x.f0.f0 x.f0.f1 x.f1.f0 x.f1.f1 x.f2.f0 x.f2.f1 x.f3.f0 x.f3.f1 x.f4.f0 x.f4.f1 t.f0 t.f1 pr fo sp ot
  | 2 => st_parts_3.f x.f0.f0 x.f0.f1 x.f1.f0 x.f1.f1 x.f2.f0 x.f2.f1 x.f3.f0 x.f3.f1 x.f4.f0 x.f4.f1 t.f0 t.f1 pr fo sp ot
  | _ => st_parts_4.f x.f0.f0 x.f0.f1 x.f1.f0 x.f1.f1 x.f2.f0 x.f2.f1 x.f3.f0 x.f3.f1 x.f4.f0 x.f4.f1 t.f0 t.f1 pr fo sp ot
def accP (lo : Nat → Int) : Nat → Int
  | 0 => 0
  | k + 1 => wrap64 (accP lo k + lo k)
theorem part_calls (k : Nat) (hk : k < 4) (x : S92) (t : S27) (pr fo sp ot lo hi : Int) (w : World) (h : partF x t pr fo sp ot k = some (lo, hi)) :
    Calls Tryz.prog (212 + k) #[ringV x, spanV t, loadVv pr fo sp ot] w fun e w' => e = .returned (.tuple #[.int .i64 lo, .int .i64 hi]) ∧ Below w.heap.size w w' :=
  match k, hk, h with
  | 0, _, h => st_parts_1.calls x.f0.f0 x.f0.f1 x.f1.f0 x.f1.f1 x.f2.f0 x.f2.f1 x.f3.f0 x.f3.f1 x.f4.f0 x.f4.f1 t.f0 t.f1 pr fo sp ot lo hi w h
  | 1, _, h => st_parts_2.calls x.f0.f0 x.f0.f1 x.f1.f0 x.f1.f1 x.f2.f0 x.f2.f1 x.f3.f0 x.f3.f1 x.f4.f0 x.f4.f1 t.f0 t.f1 pr fo sp ot lo hi w h
  | 2, _, h => st_parts_3.calls x.f0.f0 x.f0.f1 x.f1.f0 x.f1.f1 x.f2.f0 x.f2.f1 x.f3.f0 x.f3.f1 x.f4.f0 x.f4.f1 t.f0 t.f1 pr fo sp ot lo hi w h
  | 3, _, h => st_parts_4.calls x.f0.f0 x.f0.f1 x.f1.f0 x.f1.f1 x.f2.f0 x.f2.f1 x.f3.f0 x.f3.f1 x.f4.f0 x.f4.f1 t.f0 t.f1 pr fo sp ot lo hi w h
def partsC : Obj := .cells #[.func (.func 212) #[] #[], .func (.func 213) #[] #[], .func (.func 214) #[] #[], .func (.func 215) #[] #[]] 207
theorem parts_calls (w : World) : Calls Tryz.prog 188 #[] w fun e w' => e = .returned (.slice (some ⟨w.heap.size, 0, none⟩) 4 4) ∧ w' = w.alloc partsC := by
  go_enter Tryz.func188, Tryz.ntmps188
  go_wp2
  go_ret
  exact ⟨rfl, rfl⟩
structure StI (x : S92) (t : S27) (pr fo sp ot lo hi : Int) (w W : World) : Prop where
  bx : W.heap[w.heap.size]? = some (.cells #[.int .i64 x.f0.f0, .int .i64 x.f0.f1, .int .i64 x.f1.f0, .int .i64 x.f1.f1, .int .i64 x.f2.f0, .int .i64 x.f2.f1, .int .i64 x.f3.f0, .int .i64 x.f3.f1, .int .i64 x.f4.f0, .int .i64 x.f4.f1] 92 (0, 0))
  bt : W.heap[w.heap.size + 1]? = some (.cells #[.int .i64 t.f0, .int .i64 t.f1] 27 (0, 0))
  bl : W.heap[w.heap.size + 1 + 1]? = some (.cells #[.int .i64 pr, .int .i64 fo, .int .i64 sp, .int .i64 ot] 48 (0, 0))
  b6 : W.heap[w.heap.size + 1 + 1 + 1]? = some (.cells #[.int .i64 0, .int .i64 0] 27 (0, 0))
  b7 : W.heap[w.heap.size + 1 + 1 + 1 + 1]? = some (.cells #[.int .i64 lo, .int .i64 hi] 27 (0, 0))
  bp : W.heap[w.heap.size + 1 + 1 + 1 + 1 + 1]? = some (.cells #[.func (.func 212) #[] #[], .func (.func 213) #[] #[], .func (.func 214) #[] #[], .func (.func 215) #[] #[]] 207 (0, 0))
  be : Below w.heap.size w W
theorem StI.step {x : S92} {t : S27} {pr fo sp ot lo hi : Int} {w W W' : World} (h : StI x t pr fo sp ot lo hi w W) (hb : Below W.heap.size W W') : StI x t pr fo sp ot lo hi w W' :=
  ⟨blk_below h.bx hb, blk_below h.bt hb, blk_below h.bl hb, blk_below h.b6 hb, blk_below h.b7 hb, blk_below h.bp hb, below_then h.be h.be.size hb⟩
theorem StI.start (x : S92) (t : S27) (pr fo sp ot : Int) (w : World) : StI x t pr fo sp ot 0 0 w ((((((w.alloc (.cells #[.int .i64 x.f0.f0, .int .i64 x.f0.f1, .int .i64 x.f1.f0, .int .i64 x.f1.f1, .int .i64 x.f2.f0, .int .i64 x.f2.f1, .int .i64 x.f3.f0, .int .i64 x.f3.f1, .int .i64 x.f4.f0, .int .i64 x.f4.f1] 92)).alloc (.cells #[.int .i64 t.f0, .int .i64 t.f1] 27)).alloc (.cells #[.int .i64 pr, .int .i64 fo, .int .i64 sp, .int .i64 ot] 48)).alloc (.cells #[.int .i64 0, .int .i64 0] 27)).alloc (.cells #[.int .i64 0, .int .i64 0] 27)).alloc partsC) := by
  obtain ⟨b1, b2, b3, b4, hb, hs⟩ := blk_four w (.cells #[.int .i64 x.f0.f0, .int .i64 x.f0.f1, .int .i64 x.f1.f0, .int .i64 x.f1.f1, .int .i64 x.f2.f0, .int .i64 x.f2.f1, .int .i64 x.f3.f0, .int .i64 x.f3.f1, .int .i64 x.f4.f0, .int .i64 x.f4.f1] 92) (.cells #[.int .i64 t.f0, .int .i64 t.f1] 27) (.cells #[.int .i64 pr, .int .i64 fo, .int .i64 sp, .int .i64 ot] 48) (.cells #[.int .i64 0, .int .i64 0] 27)
  generalize (((w.alloc (.cells #[.int .i64 x.f0.f0, .int .i64 x.f0.f1, .int .i64 x.f1.f0, .int .i64 x.f1.f1, .int .i64 x.f2.f0, .int .i64 x.f2.f1, .int .i64 x.f3.f0, .int .i64 x.f3.f1, .int .i64 x.f4.f0, .int .i64 x.f4.f1] 92)).alloc (.cells #[.int .i64 t.f0, .int .i64 t.f1] 27)).alloc (.cells #[.int .i64 pr, .int .i64 fo, .int .i64 sp, .int .i64 ot] 48)).alloc (.cells #[.int .i64 0, .int .i64 0] 27) = W at *
  obtain ⟨c1, c2, hc, hs2⟩ := blk_two W (.cells #[.int .i64 0, .int .i64 0] 27) partsC
  rw [hs] at c1 c2
  exact ⟨blk_alloc (blk_alloc b1 _) _, blk_alloc (blk_alloc b2 _) _, blk_alloc (blk_alloc b3 _) _, blk_alloc (blk_alloc b4 _) _, c1, c2, below_alloc (below_alloc hb _) _⟩
theorem StI.set7 {x : S92} {t : S27} {pr fo sp ot lo hi : Int} {w W : World} (h : StI x t pr fo sp ot lo hi w W) (a b : Int) : StI x t pr fo sp ot a b w ((W.setCell ⟨w.heap.size + 1 + 1 + 1 + 1, 0, none⟩ (.int .i64 a)).setCell ⟨w.heap.size + 1 + 1 + 1 + 1, 1, none⟩ (.int .i64 b)) :=
  ⟨blk_far (blk_far h.bx (p := ⟨w.heap.size + 1 + 1 + 1 + 1, 0, none⟩) (by dsimp only; omega) _) (p := ⟨w.heap.size + 1 + 1 + 1 + 1, 1, none⟩) (by dsimp only; omega) _, blk_far (blk_far h.bt (p := ⟨w.heap.size + 1 + 1 + 1 + 1, 0, none⟩) (by dsimp only; omega) _) (p := ⟨w.heap.size + 1 + 1 + 1 + 1, 1, none⟩) (by dsimp only; omega) _, blk_far (blk_far h.bl (p := ⟨w.heap.size + 1 + 1 + 1 + 1, 0, none⟩) (by dsimp only; omega) _) (p := ⟨w.heap.size + 1 + 1 + 1 + 1, 1, none⟩) (by dsimp only; omega) _, blk_far (blk_far h.b6 (p := ⟨w.heap.size + 1 + 1 + 1 + 1, 0, none⟩) (by dsimp only; omega) _) (p := ⟨w.heap.size + 1 + 1 + 1 + 1, 1, none⟩) (by dsimp only; omega) _, blk_put (blk_put h.b7 0 _ rfl) 1 _ rfl, blk_far (blk_far h.bp (p := ⟨w.heap.size + 1 + 1 + 1 + 1, 0, none⟩) (by dsimp only; omega) _) (p := ⟨w.heap.size + 1 + 1 + 1 + 1, 1, none⟩) (by dsimp only; omega) _, below_set (below_set h.be (by omega)) (by omega)⟩
theorem stress_calls (x : S92) (t : S27) (pr fo sp ot : Int) (lo hi : Nat → Int) (w : World) (h : ∀ k, k < 4 → partF x t pr fo sp ot k = some (lo k, hi k)) :
    Calls Tryz.prog 112 #[ringV x, spanV t, loadVv pr fo sp ot] w fun e w' => e = .returned (.agg #[.int .i64 (accP lo 4), .int .i64 (accP hi 4)]) ∧ Below w.heap.size w w' := by
  have HP := Sd.mk h
  have S0 := Sd.mk (StI.start x t pr fo sp ot w)
  clear h
  unfold ringV spanV loadVv
  go_enter Tryz.func112, Tryz.ntmps112
  go_wp2_with (go_at_call 188; refine (parts_calls _).mono ?_; rintro e w1 ⟨rfl, rfl⟩)
  generalize (((((w.alloc (.cells #[.int .i64 x.f0.f0, .int .i64 x.f0.f1, .int .i64 x.f1.f0, .int .i64 x.f1.f1, .int .i64 x.f2.f0, .int .i64 x.f2.f1, .int .i64 x.f3.f0, .int .i64 x.f3.f1, .int .i64 x.f4.f0, .int .i64 x.f4.f1] 92)).alloc (.cells #[.int .i64 t.f0, .int .i64 t.f1] 27)).alloc (.cells #[.int .i64 pr, .int .i64 fo, .int .i64 sp, .int .i64 ot] 48)).alloc (.cells #[.int .i64 0, .int .i64 0] 27)).alloc (.cells #[.int .i64 0, .int .i64 0] 27)).alloc partsC = W0 at S0 ⊢
  go_loopg [14] 4 (fun gq v14 wr => ∃ k : Nat, v14 = .int .i64 k ∧ k ≤ 4 ∧ 4 - k ≤ gq ∧ Sd (StI x t pr fo sp ot (accP lo k) (accP hi k) w wr))
  case atStart => exact ⟨0, rfl, by omega, by omega, S0⟩
  case round =>
    as_aux_lemma =>
      clear S0
      obtain ⟨k, rfl, hk, hgk, S1⟩ := hrel
      by_cases hlt : k < 4
      · have hp := HP.out k hlt
        have HC := Sd.mk (fun W => part_calls k hlt x t pr fo sp ot (lo k) (hi k) W hp)
        have hy : wr.cell? ⟨w.heap.size + 1 + 1 + 1 + 1 + 1, k, none⟩ = some (.func (.func (212 + k)) #[] #[]) := by
          refine (blk_cell S1.out.bp k).trans ?_
          match k, hlt with
          | 0, _ => rfl
          | 1, _ => rfl
          | 2, _ => rfl
          | 3, _ => rfl
        have eg : ∀ args w, (callFunc (212 + k) args).run Tryz.prog w = .ok (.enter (212 + k) args) w :=
          match k, hlt with
          | 0, _ => enters_of Tryz.func212 (by kernel_rfl) rfl
          | 1, _ => enters_of Tryz.func213 (by kernel_rfl) rfl
          | 2, _ => enters_of Tryz.func214 (by kernel_rfl) rfl
          | 3, _ => enters_of Tryz.func215 (by kernel_rfl) rfl
        generalize hg : 212 + k = g at HC hy eg
        have HG := Sd.mk hg
        clear hg hp
        have HLX := Sd.mk (run_loadVar_row (P := Tryz.prog) _ _ 92 92 _ (0, 0) _ S1.out.bx Tryz.underlying92 rfl (by kernel_rfl))
        have HLT := Sd.mk (run_loadVar_row (P := Tryz.prog) _ _ 27 27 _ (0, 0) _ S1.out.bt Tryz.underlying27 rfl (by kernel_rfl))
        have HLL := Sd.mk (run_loadVar_row (P := Tryz.prog) _ _ 48 48 _ (0, 0) _ S1.out.bl Tryz.underlying48 rfl (by kernel_rfl))
        have hltz : (k : Int) < 4 := by omega
        unfold ringV spanV loadVv at HC
        go_wp2_with (first | (refine wp_loadrow_s 92 _ _ _ (by go_simp) rfl rfl HLX.out ?_) | (refine wp_loadrow_s 27 _ _ _ (by go_simp) rfl rfl HLT.out ?_) | (refine wp_loadrow_s 48 _ _ _ (by go_simp) rfl rfl HLL.out ?_) | (go_at_fn g; refine (HC.out _).mono ?_; rintro e w2 ⟨rfl, hb⟩; have S2 := Sd.mk (S1.out.step hb); clear hb HLX HLT HLL; have h70 : w2.cell? ⟨w.heap.size + 1 + 1 + 1 + 1, 0, none⟩ = some (.int .i64 (accP lo k)) := (blk_cell S2.out.b7 0).trans rfl; have h71 : w2.cell? ⟨w.heap.size + 1 + 1 + 1 + 1, 0 + 1, none⟩ = some (.int .i64 (accP hi k)) := (blk_cell S2.out.b7 1).trans rfl; have h7f := blk_frozen S2.out.b7 0; have h7g := blk_frozen S2.out.b7 1))
        go_roundg (4 - (k + 1))
        case measure => omega
        case rel => exact ⟨k + 1, by go_num, by omega, by omega, ⟨S2.out.set7 _ _⟩⟩
      · obtain rfl : k = 4 := by omega
        have HLO := Sd.mk (run_loadVar_row (P := Tryz.prog) _ _ 27 27 _ (0, 0) _ S1.out.b7 Tryz.underlying27 rfl (by kernel_rfl))
        have h60 : wr.cell? ⟨w.heap.size + 1 + 1 + 1, 0, none⟩ = some (.int .i64 0) := (blk_cell S1.out.b6 0).trans rfl
        have h61 : wr.cell? ⟨w.heap.size + 1 + 1 + 1, 0 + 1, none⟩ = some (.int .i64 0) := (blk_cell S1.out.b6 1).trans rfl
        have h6f := blk_frozen S1.out.b6 0
        have h6g := blk_frozen S1.out.b6 1
        go_wp2_with (refine wp_loadrow_s 27 _ _ _ (by go_simp) rfl rfl HLO.out ?_)
        refine bodyPost_ret (results_cell_row rfl _ _ (w.heap.size + 1 + 1 + 1) 27 #[.int .i64 (accP lo 4), .int .i64 (accP hi 4)] (0, 0) _ rfl (blk_put (cs := #[.int .i64 (accP lo 4), .int .i64 0]) (blk_put S1.out.b6 0 _ rfl) 1 _ rfl) Tryz.underlying27 rfl (by kernel_rfl)) rfl ?_
        exact ⟨rfl, below_set (below_set S1.out.be (by omega)) (by omega)⟩
end
section
theorem first1_calls (g : Nat) (cb : Array Value) (eg : ∀ args w, (callFunc g args).run Tryz.prog w = .ok (.enter g args) w) (low i : Int) (b : Bool) (X Y : Nat) (w : World) (hX : w.heap[X]? = some (.cells #[.func (.func g) #[] cb] 147 (0, 0))) (hY : w.heap[Y]? = some (.cells #[.int .i64 low] 3 (0, 0)))
    (hf : Calls Tryz.prog g (#[.int .i64 (wrap64 (low + i))] ++ cb) w fun e w' => e = .returned (.bool b) ∧ Below w.heap.size w w') :
    Calls Tryz.prog 190 #[.int .i64 i, .pointer (some ⟨X, 0, none⟩), .pointer (some ⟨Y, 0, none⟩)] w fun e w' => e = .returned (.bool b) ∧ Below w.heap.size w w' := by
  have hx : w.cell? ⟨X, 0, none⟩ = some (.func (.func g) #[] cb) := (blk_cell hX 0).trans rfl
  have hy : w.cell? ⟨Y, 0, none⟩ = some (.int .i64 low) := (blk_cell hY 0).trans rfl
  clear hX hY
  go_enter Tryz.func190, Tryz.ntmps190
  go_wp2_with (go_at_fn g; refine hf.mono ?_; rintro e w1 ⟨rfl, hb1⟩)
  go_ret
  exact ⟨rfl, hb1⟩
def firstT : Bool × List (List Nat × List Nat) := (true, [([], []), ([], []), ([], []), ([1, 2], [1, 2]), ([3], [3]), ([], []), ([4, 5], [4, 5]), ([0, 6], [0, 6]), ([7, 6, 0, 1, 2, 3, 4, 5, 6, 7], [7])])
def firstB : List Nat := [0, 0, 0, 6, 14, 0, 62, 127, 255]
theorem first_tab : rtab .any (opsOf Tryz.f115 1) = firstT := by kernel_rfl
theorem first_bits : waitsOk firstT.2 firstB = true := by kernel_rfl
theorem first_calls (g : Nat) (cb : Array Value) (eg : ∀ args w, (callFunc g args).run Tryz.prog w = .ok (.enter g args) w) (low high : Int) (n : Nat) (hn : wrap64 (wrap64 (high - low) + 1) = (n : Int)) (hn2 : n < 4611686018427387904) (p : Nat → Bool) (c : Nat) (ht : TurnsAt p n c) (w : World)
    (hf : ∀ (W : World) (i : Nat), Below w.heap.size w W → i < n → Calls Tryz.prog g (#[.int .i64 (wrap64 (low + (i : Int)))] ++ cb) W fun e w' => e = .returned (.bool (p i)) ∧ Below W.heap.size W w') :
    Calls Tryz.prog 115 #[.int .i64 low, .int .i64 high, .func (.func g) #[] cb] w fun e w' => e = .returned (.int .i64 (wrap64 (low + (c : Int)))) ∧ Below w.heap.size w w' := by
  obtain ⟨b1, b2, hb0, hsz⟩ := blk_two w (.cells #[.int .i64 low] 3) (.cells #[.func (.func g) #[] cb] 147)
  have BX := Sd.mk b1
  have BY := Sd.mk b2
  have HB := Sd.mk hb0
  have HF := Sd.mk hf
  have HTT := Sd.mk ht
  have HN := Sd.mk hn
  clear b1 b2 hb0 hf ht hsz hn
  go_enter Tryz.func115, Tryz.ntmps115
  go_upto_region 1 with (fail)
  generalize (w.alloc (.cells #[.int .i64 low] 3)).alloc (.cells #[.func (.func g) #[] cb] 147) = WX at *
  refine start_ (n := 9) (S := fun w' => w'.cell? ⟨w.heap.size, 0, none⟩ = some (.int .i64 low) ∧ w'.cell? ⟨w.heap.size + 1, 0, none⟩ = some (.func (.func g) #[] cb)) (ds := []) #[false, false, false, false, false, false, false, false, false] (by kernel_rfl) rfl rfl ⟨(blk_cell BX.out 0).trans rfl, (blk_cell BY.out 0).trans rfl⟩ (fun hHeld => ?_); refine with_tabW first_tab first_bits (fun HT_ HW_ => ?_)
  replace BX := Sd.mk (blk_drew BX.out)
  replace BY := Sd.mk (blk_drew BY.out)
  replace HB := Sd.mk (below_drew1 HB.out)
  generalize WX.drew = W0 at BX BY HB hHeld ⊢
  refine take_ (i := 0) (N := some 7) (v := ?_) (a' := ?_) #[true, false, false, false, false, false, false, false, false] rfl rfl (take_ofW HT_.out HW_.out (by kernel_rfl)) (fun _ _ _ h => h) (Or.inl ⟨by rfl, ?_⟩) hHeld ?_ ?_
  rotate_left
  · rintro w' ⟨s0, s1⟩
    go_simp
    with_reducible rfl
  rotate_left
  · simp only [Act.put, List.setIfInBounds_toArray, List.set_cons_zero, List.set_cons_succ, i64_w, i32_w]
    rfl
  refine pure_ (i := 1) (N := some 8) (v := ?_) (a' := ?_) #[true, true, false, false, false, false, false, false, false] rfl rfl (any_of HT_.out (by kernel_rfl)) (fun _ _ _ h => h) (Or.inl ⟨by rfl, ?_⟩) ?_ ?_
  rotate_left
  · intro w'
    go_simp
    with_reducible rfl
  rotate_left
  · simp only [Act.put, List.setIfInBounds_toArray, List.set_cons_zero, List.set_cons_succ, i64_w, i32_w]
    rfl
  refine take_ (i := 2) (N := some 9) (v := ?_) (a' := ?_) #[true, true, true, false, false, false, false, false, false] rfl rfl (take_ofW HT_.out HW_.out (by kernel_rfl)) (fun _ _ _ h => h) (Or.inl ⟨by rfl, ?_⟩) hHeld ?_ ?_
  rotate_left
  · rintro w' ⟨s0, s1⟩
    go_simp
    with_reducible rfl
  rotate_left
  · simp only [Act.put, List.setIfInBounds_toArray, List.set_cons_zero, List.set_cons_succ, i64_w, i32_w]
    rfl
  refine pure_ (i := 3) (N := some 10) (v := ?_) (a' := ?_) #[true, true, true, true, false, false, false, false, false] rfl rfl (any_of HT_.out (by kernel_rfl)) (fun _ _ _ h => h) (Or.inl ⟨by rfl, ?_⟩) ?_ ?_
  rotate_left
  · intro w'
    go_simp
    with_reducible rfl
  rotate_left
  · simp only [Act.put, List.setIfInBounds_toArray, List.set_cons_zero, List.set_cons_succ, i64_w, i32_w]
    rfl
  refine pure_ (i := 4) (N := some 11) (v := ?_) (a' := ?_) #[true, true, true, true, true, false, false, false, false] rfl rfl (any_of HT_.out (by kernel_rfl)) (fun _ _ _ h => h) (Or.inl ⟨by rfl, ?_⟩) ?_ ?_
  rotate_left
  · intro w'
    go_simp
    with_reducible rfl
  rotate_left
  · simp only [Act.put, List.setIfInBounds_toArray, List.set_cons_zero, List.set_cons_succ, i64_w, i32_w]
    rfl
  refine pure_ (i := 5) (N := some 12) (v := ?_) (a' := ?_) #[true, true, true, true, true, true, false, false, false] rfl rfl (any_of HT_.out (by kernel_rfl)) (fun _ _ _ h => h) (Or.inl ⟨by rfl, ?_⟩) ?_ ?_
  rotate_left
  · intro w'
    go_simp
    with_reducible rfl
  rotate_left
  · simp only [Act.put, List.setIfInBounds_toArray, List.set_cons_zero, List.set_cons_succ, i64_w, i32_w]
    rfl
  refine one_ (i := 6) (N := some 13) #[true, true, true, true, true, true, true, false, false] rfl rfl (one_of HT_.out (by kernel_rfl)) (by decide) (fun K hK => ?_)
  refine goes_ Tryz.func189 (by kernel_rfl) rfl #[.int .i64 (wrap64 (wrap64 (high - low) + 1)), .func (.func 190) #[] #[.pointer (some ⟨w.heap.size + 1, 0, none⟩), .pointer (some ⟨w.heap.size, 0, none⟩)]] (by (try simp only [Array.map_toArray, List.map_toArray, List.map_cons, List.map_nil]); rfl) rfl rfl (by (try simp only [List.map_toArray, List.map_cons, List.map_nil]); first | done | rfl) ?_
  rw [HN.out]
  refine (search_calls 190 #[.pointer (some ⟨w.heap.size + 1, 0, none⟩), .pointer (some ⟨w.heap.size, 0, none⟩)] n p c W0 (enters_of Tryz.func190 (by kernel_rfl) rfl) hn2 HTT.out (fun W i hW hi => first1_calls g cb eg low (i : Int) (p i) _ _ W (blk_below BY.out hW) (blk_below BX.out hW) (HF.out W i (below_then HB.out HB.out.size hW) hi))).mono ?_
  rintro e w4 ⟨rfl, hb⟩
  refine ⟨_, rfl, ?_⟩
  replace BX := Sd.mk (blk_below BX.out hb)
  replace BY := Sd.mk (blk_below BY.out hb)
  replace HB := Sd.mk (below_then HB.out HB.out.size hb)
  clear hb
  refine hK.out _ _ ⟨(blk_cell BX.out 0).trans rfl, (blk_cell BY.out 0).trans rfl⟩ (fun hHeld => ?_)
  clear hK K
  refine norm_ (a' := ?_) ?_ ?_
  rotate_left
  · show Act.put _ (some 13) _ = _
    simp only [Act.put, List.setIfInBounds_toArray, List.set_cons_zero, List.set_cons_succ, i64_w, i32_w]
    rfl
  refine pure_ (i := 7) (N := some 14) (v := ?_) (a' := ?_) #[true, true, true, true, true, true, true, true, false] rfl rfl (any_of HT_.out (by kernel_rfl)) (fun _ _ _ h => h) (Or.inl ⟨by rfl, ?_⟩) ?_ ?_
  rotate_left
  · intro w'
    go_simp
    with_reducible rfl
  rotate_left
  · simp only [Act.put, List.setIfInBounds_toArray, List.set_cons_zero, List.set_cons_succ, i64_w, i32_w]
    rfl
  refine pure_ (i := 8) (N := some 6) (v := ?_) (a' := ?_) #[true, true, true, true, true, true, true, true, true] rfl rfl (any_of HT_.out (by kernel_rfl)) (fun _ _ _ h => h) (Or.inl ⟨by rfl, ?_⟩) ?_ ?_
  rotate_left
  · intro w'
    go_simp
    with_reducible rfl
  rotate_left
  · simp only [Act.put, List.setIfInBounds_toArray, List.set_cons_zero, List.set_cons_succ, i64_w, i32_w]
    rfl
  refine done_ (done_of HT_.out (by kernel_rfl)) ?_
  go_wp2
  go_ret
  exact ⟨rfl, HB.out⟩
end
section
theorem swithin_e (x lo hi : Int) (w : World) : Calls Tryz.prog 66 #[.int .i64 x, .int .i64 lo, .int .i64 hi] w fun e w' => e = .returned (.bool (inB x lo hi)) ∧ w' = w :=
  (callsIn_wide (n := 9)).1 (withinI Fence.wide 9 trivial rfl x lo hi w)
theorem tells_thick (x : S27) (w : World) : Tells 186 #[] (.agg #[.int .i64 x.f0, .int .i64 x.f1]) (!spanB x.f0 x.f1 1 2000) w := by
  intro W _
  have H' := Sd.mk (fun W => sspan_f x.f0 x.f1 1 2000 W)
  show Calls Tryz.prog 186 #[.agg #[.int .i64 x.f0, .int .i64 x.f1]] W _
  generalize x.f0 = a at *
  generalize x.f1 = b at *
  go_enter Tryz.func186, Tryz.ntmps186
  go_wp2_with (go_at_call 155; refine (H'.out _).mono ?_; rintro e w1 ⟨rfl, hb⟩)
  go_ret
  exact ⟨rfl, below_trans' (below_alloc (Below.refl _ _) _) hb⟩
theorem thick_any (ts : List S27) : (ts.any fun x => !spanB x.f0 x.f1 1 2000) = !thickB ts := by
  unfold thickB
  induction ts with
  | nil => rfl
  | cons a l ih => rw [List.any_cons, List.all_cons, ih, Bool.not_and]
theorem thicks_calls (At : Option Addr) (ct : Nat) (ts : List S27) (w : World) (ht : Kd.C k27 w At ts.length ts) :
    Calls Tryz.prog 99 #[.slice At ts.length ct, .func (.func 186) #[] #[]] w fun e w' => e = .returned (.bool (!thickB ts)) ∧ Below w.heap.size w w' := by
  rw [← thick_any]
  exact containsFunc_span _ 186 #[] (enters_of Tryz.func186 (by kernel_rfl) rfl) At ct ts w ht (fun x _ => tells_thick x w)
theorem load_calls (pr fo sp ot : Int) (w : World) :
    Calls Tryz.prog 121 #[loadVv pr fo sp ot] w fun en w' => en = endF (if loadB pr fo sp ot = true then 0 else 1) ∧ Below w.heap.size w w' := by
  unfold loadVv loadB
  cases s1 : inB pr 0 10000 with
  | false =>
    go_enter Tryz.func121, Tryz.ntmps121
    go_wp2_with (first | (go_at_call 66; (with_reducible refine (swithin_e _ _ _ _).mono ?_); (first | rw [s1] | rw [s2] | rw [s3] | rw [s4]); rintro e w' ⟨rfl, rfl⟩) | (go_at_call 65; (with_reducible refine (demand_no _ _).mono ?_); rintro e w' ⟨rfl, rfl⟩))
    exact ⟨rfl, rfl, below_alloc (Below.refl _ _) _⟩
  | true =>
    cases s2 : inB fo 0 20000 with
    | false =>
      go_enter Tryz.func121, Tryz.ntmps121
      go_wp2_with (first | (go_at_call 66; (with_reducible refine (swithin_e _ _ _ _).mono ?_); (first | rw [s1] | rw [s2] | rw [s3] | rw [s4]); rintro e w' ⟨rfl, rfl⟩) | (go_at_call 65; (with_reducible refine (demand_no _ _).mono ?_); rintro e w' ⟨rfl, rfl⟩))
      exact ⟨rfl, rfl, below_alloc (Below.refl _ _) _⟩
    | true =>
      cases s3 : inB sp 0 2000 with
      | false =>
        go_enter Tryz.func121, Tryz.ntmps121
        go_wp2_with (first | (go_at_call 66; (with_reducible refine (swithin_e _ _ _ _).mono ?_); (first | rw [s1] | rw [s2] | rw [s3] | rw [s4]); rintro e w' ⟨rfl, rfl⟩) | (go_at_call 65; (with_reducible refine (demand_no _ _).mono ?_); rintro e w' ⟨rfl, rfl⟩))
        exact ⟨rfl, rfl, below_alloc (Below.refl _ _) _⟩
      | true =>
        cases s4 : inB ot 0 10000000 with
        | false =>
          go_enter Tryz.func121, Tryz.ntmps121
          go_wp2_with (first | (go_at_call 66; (with_reducible refine (swithin_e _ _ _ _).mono ?_); (first | rw [s1] | rw [s2] | rw [s3] | rw [s4]); rintro e w' ⟨rfl, rfl⟩) | (go_at_call 65; (with_reducible refine (demand_no _ _).mono ?_); rintro e w' ⟨rfl, rfl⟩))
          exact ⟨rfl, rfl, below_alloc (Below.refl _ _) _⟩
        | true =>
          go_enter Tryz.func121, Tryz.ntmps121
          go_wp2_with (first | (go_at_call 66; (with_reducible refine (swithin_e _ _ _ _).mono ?_); (first | rw [s1] | rw [s2] | rw [s3] | rw [s4]); rintro e w' ⟨rfl, rfl⟩) | (go_at_call 65; (with_reducible refine (demand_ok _ _).mono ?_); rintro e w' ⟨rfl, rfl⟩))
          go_end0
          exact ⟨rfl, below_alloc (Below.refl _ _) _⟩
theorem load_ok (pr fo sp ot : Int) (w : World) (h : loadB pr fo sp ot = true) :
    Calls Tryz.prog 121 #[.agg #[.int .i64 pr, .int .i64 fo, .int .i64 sp, .int .i64 ot]] w fun en w' => en = .returned (.tuple #[]) ∧ Below w.heap.size w w' :=
  (load_calls pr fo sp ot w).mono fun e w' he => ⟨by rw [he.1, if_pos h]; rfl, he.2⟩
theorem load_no (pr fo sp ot : Int) (w : World) (h : ¬ loadB pr fo sp ot = true) :
    Calls Tryz.prog 121 #[.agg #[.int .i64 pr, .int .i64 fo, .int .i64 sp, .int .i64 ot]] w fun en w' => en = .panicked (failC 1) ∧ Below w.heap.size w w' :=
  (load_calls pr fo sp ot w).mono fun e w' he => ⟨by rw [he.1, if_neg h]; rfl, he.2⟩
theorem askL_calls (A : Option Addr) (c : Nat) (zs : List S92) (f1 f2 : Int) (At : Option Addr) (ct : Nat) (ts : List S27) (pr fo sp ot : Int) (w : World) (hr : Kd.C k92 w A zs.length zs) (ht : Kd.C k27 w At ts.length ts) :
    Calls Tryz.prog 110 #[.agg #[.slice A zs.length c, .int .i64 f1, .int .i64 f2], .slice At ts.length ct, .agg #[.int .i64 pr, .int .i64 fo, .int .i64 sp, .int .i64 ot]] w fun en w' => en = endF (askLV zs f1 f2 ts pr fo sp ot) ∧ Below w.heap.size w w' := by
  obtain ⟨b1, b2, hb0, hsz⟩ := blk_two w (.cells #[.slice A zs.length c, .int .i64 f1, .int .i64 f2] 73) (.cells #[.int .i64 pr, .int .i64 fo, .int .i64 sp, .int .i64 ot] 48)
  have BX := Sd.mk b1
  have BL := Sd.mk b2
  have HSZ := Sd.mk hsz
  have HB := Sd.mk hb0
  have HR := Sd.mk (Kd.C_below hr hb0)
  have HT := Sd.mk (Kd.C_below ht hb0)
  clear b1 b2 hsz hb0 hr ht
  by_cases h0 : bottleV zs f1 f2 = 0
  · have H0 := Sd.mk h0
    clear h0
    have HV : Sd (askLV zs f1 f2 ts pr fo sp ot = if (decide (ts.length = zs.length) && thickB ts) = true then (if loadB pr fo sp ot = true then 0 else 1) else 1) := ⟨if_pos H0.out⟩
    by_cases hlen : ts.length = zs.length
    · have HE := Sd.mk hlen
      have hd : decide ((ts.length : Int) = (zs.length : Int)) = true := decide_eq_true (by omega)
      have hd2 : ((ts.length : Int) == (zs.length : Int)) = true := beq_iff_eq.mpr (by omega)
      have hd3 : decide (ts.length = zs.length) = true := decide_eq_true hlen
      clear hlen
      cases hth : thickB ts with
      | true =>
        have HTB := Sd.mk hth
        clear hth
        by_cases hl : loadB pr fo sp ot = true
        · have HL := Sd.mk hl
          clear hl
          go_enter Tryz.func110, Tryz.ntmps110
          go_wp2_with (first | (go_at_call 120; refine (bottle_ok A c zs f1 f2 _ HR.out H0.out).mono ?_; rintro e w1 ⟨rfl, hb1⟩; have BX1 := Sd.mk (blk_below BX.out hb1); have BL1 := Sd.mk (blk_below BL.out hb1); have HT1 := Sd.mk (Kd.C_below HT.out hb1); have HB1 := Sd.mk (below_then HB.out HB.out.size hb1); clear hb1; have hx0 : w1.cell? ⟨w.heap.size, 0, none⟩ = some (.slice A zs.length c) := (blk_cell BX1.out 0).trans rfl) | (go_at_call 99; refine (thicks_calls At ct ts _ HT1.out).mono ?_; rw [HTB.out]; rintro e w2 ⟨rfl, hb2⟩; have BL2 := Sd.mk (blk_below BL1.out hb2); have HB2 := Sd.mk (below_then HB1.out HB1.out.size hb2); clear hb2; have hq0 : w2.cell? ⟨w.heap.size + 1, 0, none⟩ = some (.int .i64 pr) := (blk_cell BL2.out 0).trans rfl; have hq1 : w2.cell? ⟨w.heap.size + 1, 0 + 1, none⟩ = some (.int .i64 fo) := (blk_cell BL2.out 1).trans rfl; have hq2 : w2.cell? ⟨w.heap.size + 1, 0 + 2, none⟩ = some (.int .i64 sp) := (blk_cell BL2.out 2).trans rfl; have hq3 : w2.cell? ⟨w.heap.size + 1, 0 + 3, none⟩ = some (.int .i64 ot) := (blk_cell BL2.out 3).trans rfl) | (go_at_call 65; (with_reducible refine (demand_ok _ _).mono ?_); rintro e w' ⟨rfl, rfl⟩) | (go_at_call 121; (with_reducible refine (load_ok _ _ _ _ _ HL.out).mono ?_); rintro e w3 ⟨rfl, hb3⟩))
          go_end0
          exact ⟨by rw [HV.out, if_pos (by simp [HE.out, HTB.out]), if_pos HL.out]; rfl, below_then HB2.out HB2.out.size hb3⟩
        · have HL := Sd.mk hl
          clear hl
          go_enter Tryz.func110, Tryz.ntmps110
          go_wp2_with (first | (go_at_call 120; refine (bottle_ok A c zs f1 f2 _ HR.out H0.out).mono ?_; rintro e w1 ⟨rfl, hb1⟩; have BX1 := Sd.mk (blk_below BX.out hb1); have BL1 := Sd.mk (blk_below BL.out hb1); have HT1 := Sd.mk (Kd.C_below HT.out hb1); have HB1 := Sd.mk (below_then HB.out HB.out.size hb1); clear hb1; have hx0 : w1.cell? ⟨w.heap.size, 0, none⟩ = some (.slice A zs.length c) := (blk_cell BX1.out 0).trans rfl) | (go_at_call 99; refine (thicks_calls At ct ts _ HT1.out).mono ?_; rw [HTB.out]; rintro e w2 ⟨rfl, hb2⟩; have BL2 := Sd.mk (blk_below BL1.out hb2); have HB2 := Sd.mk (below_then HB1.out HB1.out.size hb2); clear hb2; have hq0 : w2.cell? ⟨w.heap.size + 1, 0, none⟩ = some (.int .i64 pr) := (blk_cell BL2.out 0).trans rfl; have hq1 : w2.cell? ⟨w.heap.size + 1, 0 + 1, none⟩ = some (.int .i64 fo) := (blk_cell BL2.out 1).trans rfl; have hq2 : w2.cell? ⟨w.heap.size + 1, 0 + 2, none⟩ = some (.int .i64 sp) := (blk_cell BL2.out 2).trans rfl; have hq3 : w2.cell? ⟨w.heap.size + 1, 0 + 3, none⟩ = some (.int .i64 ot) := (blk_cell BL2.out 3).trans rfl) | (go_at_call 65; (with_reducible refine (demand_ok _ _).mono ?_); rintro e w' ⟨rfl, rfl⟩) | (go_at_call 121; (with_reducible refine (load_no _ _ _ _ _ HL.out).mono ?_); rintro e w3 ⟨rfl, hb3⟩))
          exact ⟨rfl, by rw [HV.out, if_pos (by simp [HE.out, HTB.out]), if_neg HL.out]; rfl, below_then HB2.out HB2.out.size hb3⟩
      | false =>
        have HTB := Sd.mk hth
        clear hth
        go_enter Tryz.func110, Tryz.ntmps110
        go_wp2_with (first | (go_at_call 120; refine (bottle_ok A c zs f1 f2 _ HR.out H0.out).mono ?_; rintro e w1 ⟨rfl, hb1⟩; have BX1 := Sd.mk (blk_below BX.out hb1); have BL1 := Sd.mk (blk_below BL.out hb1); have HT1 := Sd.mk (Kd.C_below HT.out hb1); have HB1 := Sd.mk (below_then HB.out HB.out.size hb1); clear hb1; have hx0 : w1.cell? ⟨w.heap.size, 0, none⟩ = some (.slice A zs.length c) := (blk_cell BX1.out 0).trans rfl) | (go_at_call 99; refine (thicks_calls At ct ts _ HT1.out).mono ?_; rw [HTB.out]; rintro e w2 ⟨rfl, hb2⟩; have BL2 := Sd.mk (blk_below BL1.out hb2); have HB2 := Sd.mk (below_then HB1.out HB1.out.size hb2); clear hb2; have hq0 : w2.cell? ⟨w.heap.size + 1, 0, none⟩ = some (.int .i64 pr) := (blk_cell BL2.out 0).trans rfl; have hq1 : w2.cell? ⟨w.heap.size + 1, 0 + 1, none⟩ = some (.int .i64 fo) := (blk_cell BL2.out 1).trans rfl; have hq2 : w2.cell? ⟨w.heap.size + 1, 0 + 2, none⟩ = some (.int .i64 sp) := (blk_cell BL2.out 2).trans rfl; have hq3 : w2.cell? ⟨w.heap.size + 1, 0 + 3, none⟩ = some (.int .i64 ot) := (blk_cell BL2.out 3).trans rfl) | (go_at_call 65; (with_reducible refine (demand_no _ _).mono ?_); rintro e w' ⟨rfl, rfl⟩))
        exact ⟨rfl, by rw [HV.out, if_neg (by simp [HTB.out])]; rfl, HB2.out⟩
    · have HE := Sd.mk hlen
      have hd : decide ((ts.length : Int) = (zs.length : Int)) = false := decide_eq_false (by omega)
      have hd2 : ((ts.length : Int) == (zs.length : Int)) = false := beq_eq_false_iff_ne.mpr (by omega)
      have hd3 : decide (ts.length = zs.length) = false := decide_eq_false hlen
      clear hlen
      go_enter Tryz.func110, Tryz.ntmps110
      go_wp2_with (first | (go_at_call 120; refine (bottle_ok A c zs f1 f2 _ HR.out H0.out).mono ?_; rintro e w1 ⟨rfl, hb1⟩; have BX1 := Sd.mk (blk_below BX.out hb1); have BL1 := Sd.mk (blk_below BL.out hb1); have HT1 := Sd.mk (Kd.C_below HT.out hb1); have HB1 := Sd.mk (below_then HB.out HB.out.size hb1); clear hb1; have hx0 : w1.cell? ⟨w.heap.size, 0, none⟩ = some (.slice A zs.length c) := (blk_cell BX1.out 0).trans rfl) | (go_at_call 65; (with_reducible refine (demand_no _ _).mono ?_); rintro e w' ⟨rfl, rfl⟩))
      exact ⟨rfl, by rw [HV.out, if_neg (by simp [HE.out])]; rfl, HB1.out⟩
  · have H0 := Sd.mk h0
    have HV : Sd (askLV zs f1 f2 ts pr fo sp ot = bottleV zs f1 f2) := ⟨if_neg h0⟩
    clear h0
    go_enter Tryz.func110, Tryz.ntmps110
    go_wp2_with (go_at_call 120; refine (bottle_no A c zs f1 f2 _ HR.out H0.out).mono ?_; rintro e w1 ⟨rfl, hb1⟩)
    exact ⟨rfl, by rw [HV.out, endF_ne H0.out], below_then HB.out HB.out.size hb1⟩
end
section
open Go.RowKit Go.Shelf Go.Proofs.YtljfljekcpdpiaaGreatW.PrintWords Go.Proofs.YtljfljekcpdpiaaGreatW.PrintLast Go.Proofs.YtljfljekcpdpiaaGreatW.PrintMore
attribute [local go_sem] Oper.semAt_some
section
variable {P : Program} {ops : Array Oper} {Q : Exit → Act → World → Prop} {md : Region.Mode} {S : World → Prop} {ds : List Nat}
theorem wpOpIn_of_wpOp {l n : Nat} {i : Nat} (hp : ∀ (i : Nat) (o : Oper), ops[i]? = some o → ∀ c, o.op ≠ .defer c) (hl : ¬ LetsOut Q) {K K' : Act → World → Prop} (hK : ∀ a w, K a w → K' a w) {a : Act} {w : World} (h : wpOp P ops Q i K a w) : wpOpIn (Fence.wide.inRound l) n P ops Q i K' a w := by
  unfold wpOp at h
  unfold wpOpIn
  cases ho : ops[i]? with
  | none => rw [ho] at h; exact hK _ _ h
  | some o =>
    rw [ho] at h
    simp only at h ⊢
    split
    · rename_i hw
      rw [if_pos hw] at h
      rcases h with h | h
      · refine ⟨fun f _ => trivial, ?_⟩
        rw [Oper.semAt_plain (Fence.wide.inRound l) _ _ (hp i o ho)]
        unfold Oper.wp at h
        generalize (execOp a.eval o).run P w = r at *
        cases r with
        | ok x w' =>
          cases x <;> simp only [Oper.upon, Oper.uponIn] at h ⊢
          case value => exact hK _ _ h
          case skip => exact hK _ _ h
          case defer => exact hK _ _ h
          case enter f args =>
            exact ⟨(fun h => by cases h), CallsIn.inRound l (callsIn_wide.2 (Calls.mono h (fun e w'' he => by cases e <;> first | exact hK _ _ he | exact he)))⟩
          case row f args =>
            refine ⟨(fun h => by cases h), fun c cs _ => ?_⟩
            obtain ⟨v, w2, h1, h2⟩ := h c cs
            exact ⟨v, w2, hK _ _ h1, stepsIn_wide.2 h2⟩
        | halt x w' => cases x <;> simp only [Oper.upon, Oper.uponIn] at h ⊢ <;> exact h
      · exact absurd h.2 hl
    · rename_i hw
      rw [if_neg hw] at h
      exact ⟨fun f _ => trivial, hK _ _ h⟩
theorem wpAnyIn_of_wpAny {l n : Nat} (hp : ∀ (i : Nat) (o : Oper), ops[i]? = some o → ∀ c, o.op ≠ .defer c) (hl : ¬ LetsOut Q) : ∀ (fuel : Nat) (listed : Array Bool) (a : Act) (w : World), wpAny P md ops Q fuel listed a w → wpAnyIn (Fence.wide.inRound l) n P md ops Q fuel listed a w
  | 0, _, _, _, h => h
  | fuel + 1, listed, a, w, h => ⟨h.1, fun i hi => wpOpIn_of_wpOp hp hl (fun a w => wpAnyIn_of_wpAny hp hl fuel _ a w) (h.2 i hi)⟩
def noDefer (ops : Array Oper) : Bool := ops.all fun o => match o.op with | .defer _ => false | _ => true
theorem noDefer_spec (h : noDefer ops = true) (i : Nat) (o : Oper) (ho : ops[i]? = some o) (c) : o.op ≠ .defer c := by
  unfold noDefer at h
  rw [Array.all_eq_true] at h
  obtain ⟨hi, he⟩ := Array.getElem?_eq_some_iff.1 ho
  have := h i hi
  rw [he] at this
  intro hc
  rw [hc] at this
  cases this
theorem start_In {id n m l : Nat} {a : Act} {w : World} (lst : Array Bool) (hm : P.follows .mixedOrders = true) (hd : noDefer ops = true) (hl : ¬ LetsOut Q) (hn : ops.size = n) (hls : Array.replicate n false = lst) (hS : S w.drew)
    (h : S w.drew → wpAnyLast P .any ops Q S ds n lst a w.drew) : (Code.region id ops true).wpIn (Fence.wide.inRound l) m P Q a w := by
  subst hn
  subst hls
  exact wpIn_region_any hm (wpAnyIn_of_wpAny (noDefer_spec hd) hl _ _ _ _ (wpAny_of_last _ _ _ _ (h hS)))
end
def holdN (hi : Nat → Int) (m : Int) : Nat → Bool
  | 0 => true
  | k + 1 => holdN hi m k && decide (hi k ≤ m)
def breakN (lo : Nat → Int) (m : Int) : Nat → Bool
  | 0 => false
  | k + 1 => breakN lo m k || decide (lo k > m)
def holdT : Bool × List (List Nat × List Nat) := (true, [([], []), ([], []), ([], []), ([1, 2], [1, 2]), ([3], [3]), ([], []), ([0, 4, 5], [0, 4, 5]), ([], []), ([7, 6, 6, 0, 1, 2, 3, 4, 5, 6, 7], [6, 7])])
def holdBits : List Nat := [0, 0, 0, 6, 14, 0, 63, 0, 255]
theorem hold_tab : rtab .any (opsOf Tryz.f117 6) = holdT := by kernel_rfl
theorem hold_bits : waitsOk holdT.2 holdBits = true := by kernel_rfl
structure HoI (A : Option Addr) (c : Nat) (zs : List S92) (f1 f2 : Int) (At : Option Addr) (ct : Nat) (ts : List S27) (pr fo sp ot m : Int) (b6 b7 : Bool) (w : World) (M g : Nat) (W : World) : Prop where
  bx : W.heap[w.heap.size]? = some (.cells #[.slice A zs.length c, .int .i64 f1, .int .i64 f2] 73 (0, 0))
  bt : W.heap[w.heap.size + 1]? = some (.cells #[.slice At ts.length ct] 24 (0, 0))
  bl : W.heap[w.heap.size + 1 + 1]? = some (.cells #[.int .i64 pr, .int .i64 fo, .int .i64 sp, .int .i64 ot] 48 (0, 0))
  b6 : W.heap[w.heap.size + 1 + 1 + 1]? = some (.cells #[.bool b6] 4 (0, 0))
  b7 : W.heap[w.heap.size + 1 + 1 + 1 + 1]? = some (.cells #[.bool b7] 4 (0, 0))
  b8 : W.heap[M]? = some (.cells #[.int .i64 m] 3 (0, 0))
  rb : W.heap[g]? = some (.cells #[.slice A zs.length c, .int .i64 f1, .int .i64 f2] 73 (0, 0))
  be : Below w.heap.size w W
section
variable {A : Option Addr} {c : Nat} {zs : List S92} {f1 f2 : Int} {At : Option Addr} {ct : Nat} {ts : List S27} {pr fo sp ot m : Int} {b6 b7 : Bool} {w : World} {M g : Nat} {W : World}
theorem HoI.alloc (h : HoI A c zs f1 f2 At ct ts pr fo sp ot m b6 b7 w M g W) (o : Obj) : HoI A c zs f1 f2 At ct ts pr fo sp ot m b6 b7 w M g (W.alloc o) :=
  ⟨blk_alloc h.bx o, blk_alloc h.bt o, blk_alloc h.bl o, blk_alloc h.b6 o, blk_alloc h.b7 o, blk_alloc h.b8 o, blk_alloc h.rb o, below_alloc h.be o⟩
theorem HoI.put (h : HoI A c zs f1 f2 At ct ts pr fo sp ot m b6 b7 w M g W) (o : Obj) {B : Nat} (h1 : w.heap.size + 5 ≤ M) (h2 : M < B) (h3 : w.heap.size + 5 ≤ g) (h4 : g < B) (h5 : B + 1 < W.heap.size) : HoI A c zs f1 f2 At ct ts pr fo sp ot m b6 b7 w M g (W.putObj (B + 1) o) :=
  ⟨putObj_heap_keep (by omega) h.bx, putObj_heap_keep (by omega) h.bt, putObj_heap_keep (by omega) h.bl, putObj_heap_keep (by omega) h.b6, putObj_heap_keep (by omega) h.b7, putObj_heap_keep (by omega) h.b8, putObj_heap_keep (by omega) h.rb, below_putObj h.be (by omega) h5⟩
theorem HoI.step (h : HoI A c zs f1 f2 At ct ts pr fo sp ot m b6 b7 w M g W) {W' : World} (hb : Below W.heap.size W W') : HoI A c zs f1 f2 At ct ts pr fo sp ot m b6 b7 w M g W' :=
  ⟨blk_below h.bx hb, blk_below h.bt hb, blk_below h.bl hb, blk_below h.b6 hb, blk_below h.b7 hb, blk_below h.b8 hb, blk_below h.rb hb, below_then h.be h.be.size hb⟩
theorem HoI.drew (h : HoI A c zs f1 f2 At ct ts pr fo sp ot m b6 b7 w M g W) : HoI A c zs f1 f2 At ct ts pr fo sp ot m b6 b7 w M g W.drew :=
  ⟨h.bx, h.bt, h.bl, h.b6, h.b7, h.b8, h.rb, below_drew1 h.be⟩
theorem HoI.set6 (h : HoI A c zs f1 f2 At ct ts pr fo sp ot m b6 b7 w M g W) (h1 : w.heap.size + 5 ≤ M) (h3 : g ≠ w.heap.size + 1 + 1 + 1) (b : Bool) : HoI A c zs f1 f2 At ct ts pr fo sp ot m b b7 w M g (W.setCell ⟨w.heap.size + 1 + 1 + 1, 0, none⟩ (.bool b)) :=
  ⟨blk_far h.bx (p := ⟨w.heap.size + 1 + 1 + 1, 0, none⟩) (by dsimp only; omega) _, blk_far h.bt (p := ⟨w.heap.size + 1 + 1 + 1, 0, none⟩) (by dsimp only; omega) _, blk_far h.bl (p := ⟨w.heap.size + 1 + 1 + 1, 0, none⟩) (by dsimp only; omega) _, blk_put h.b6 0 _ rfl, blk_far h.b7 (p := ⟨w.heap.size + 1 + 1 + 1, 0, none⟩) (by dsimp only; omega) _, blk_far h.b8 (p := ⟨w.heap.size + 1 + 1 + 1, 0, none⟩) (by dsimp only; omega) _, blk_far h.rb (p := ⟨w.heap.size + 1 + 1 + 1, 0, none⟩) (by dsimp only; omega) _, below_set h.be (by omega)⟩
theorem HoI.set7 (h : HoI A c zs f1 f2 At ct ts pr fo sp ot m b6 b7 w M g W) (h1 : w.heap.size + 5 ≤ M) (h3 : g ≠ w.heap.size + 1 + 1 + 1 + 1) (b : Bool) : HoI A c zs f1 f2 At ct ts pr fo sp ot m b6 b w M g (W.setCell ⟨w.heap.size + 1 + 1 + 1 + 1, 0, none⟩ (.bool b)) :=
  ⟨blk_far h.bx (p := ⟨w.heap.size + 1 + 1 + 1 + 1, 0, none⟩) (by dsimp only; omega) _, blk_far h.bt (p := ⟨w.heap.size + 1 + 1 + 1 + 1, 0, none⟩) (by dsimp only; omega) _, blk_far h.bl (p := ⟨w.heap.size + 1 + 1 + 1 + 1, 0, none⟩) (by dsimp only; omega) _, blk_far h.b6 (p := ⟨w.heap.size + 1 + 1 + 1 + 1, 0, none⟩) (by dsimp only; omega) _, blk_put h.b7 0 _ rfl, blk_far h.b8 (p := ⟨w.heap.size + 1 + 1 + 1 + 1, 0, none⟩) (by dsimp only; omega) _, blk_far h.rb (p := ⟨w.heap.size + 1 + 1 + 1 + 1, 0, none⟩) (by dsimp only; omega) _, below_set h.be (by omega)⟩
theorem HoI.far (h : HoI A c zs f1 f2 At ct ts pr fo sp ot m b6 b7 w M g W) {T : Nat} (h1 : w.heap.size + 5 ≤ T) (h2 : M ≠ T) (h3 : g ≠ T) (j : Nat) (v : Value) : HoI A c zs f1 f2 At ct ts pr fo sp ot m b6 b7 w M g (W.setCell ⟨T, j, none⟩ v) :=
  ⟨blk_far h.bx (p := ⟨T, j, none⟩) (by dsimp only; omega) _, blk_far h.bt (p := ⟨T, j, none⟩) (by dsimp only; omega) _, blk_far h.bl (p := ⟨T, j, none⟩) (by dsimp only; omega) _, blk_far h.b6 (p := ⟨T, j, none⟩) (by dsimp only; omega) _, blk_far h.b7 (p := ⟨T, j, none⟩) (by dsimp only; omega) _, blk_far h.b8 (p := ⟨T, j, none⟩) (by dsimp only; omega) _, blk_far h.rb (p := ⟨T, j, none⟩) (by dsimp only; omega) _, below_set h.be (by omega)⟩
theorem run_var4 (w : World) (g : Nat) (b : Bool) (h : w.heap[g]? = some (.cells #[.bool b] 4 (0, 0))) : (loadVar 4 ⟨g, 0, none⟩).run Tryz.prog w = .ok (.bool b) w := by
  have hc : w.cell? ⟨g, 0, none⟩ = some (.bool b) := (blk_cell h 0).trans rfl
  simp [loadVar, go_sem, hc]
theorem results_bb {fn : Func} {p p' : Tmp} (h : fn.results = #[.cell p 4, .cell p' 4]) (tmps : Array Value) (w : World) (g g' : Nat) (b b' : Bool)
    (hp : tmps.getD p undef = .pointer (some ⟨g, 0, none⟩)) (hg : w.heap[g]? = some (.cells #[.bool b] 4 (0, 0)))
    (hp' : tmps.getD p' undef = .pointer (some ⟨g', 0, none⟩)) (hg' : w.heap[g']? = some (.cells #[.bool b'] 4 (0, 0))) :
    (results fn tmps).run Tryz.prog w = .ok (.tuple #[.bool b, .bool b']) w := by
  have h1 : tmps[p]?.getD undef = .pointer (some ⟨g, 0, none⟩) := by simpa using hp
  have h2 : tmps[p']?.getD undef = .pointer (some ⟨g', 0, none⟩) := by simpa using hp'
  simp [results, h, h1, h2, asAddr, run_var4 w g b hg, run_var4 w g' b' hg']
end
theorem holds_calls (A : Option Addr) (c : Nat) (zs : List S92) (f1 f2 : Int) (At : Option Addr) (ct : Nat) (ts : List S27) (pr fo sp ot m : Int) (lo hi : Nat → Int) (w : World) (hr : Kd.C k92 w A zs.length zs) (ht : Kd.C k27 w At ts.length ts) (hlen : ts.length = zs.length)
    (hlim : ∀ W, Calls Tryz.prog 191 #[.agg #[.slice A zs.length c, .int .i64 f1, .int .i64 f2]] W fun e w' => e = .returned (.int .i64 m) ∧ Below W.heap.size W w')
    (hst : ∀ k : Nat, k < zs.length → ∀ W, Calls Tryz.prog 112 #[ringV (rd_T92 zs (k : Int)), spanV (rd_T27 ts (k : Int)), loadVv pr fo sp ot] W fun e w' => e = .returned (.agg #[.int .i64 (lo k), .int .i64 (hi k)]) ∧ Below W.heap.size W w') :
    Calls Tryz.prog 117 #[.agg #[.slice A zs.length c, .int .i64 f1, .int .i64 f2], .slice At ts.length ct, .agg #[.int .i64 pr, .int .i64 fo, .int .i64 sp, .int .i64 ot]] w fun e w' => e = .returned (.tuple #[.bool (holdN hi m zs.length), .bool (breakN lo m zs.length)]) ∧ Below w.heap.size w w' := by
  obtain ⟨b1, b2, b3, b4, hb0, hsz⟩ := blk_four w (.cells #[.slice A zs.length c, .int .i64 f1, .int .i64 f2] 73) (.cells #[.slice At ts.length ct] 24) (.cells #[.int .i64 pr, .int .i64 fo, .int .i64 sp, .int .i64 ot] 48) (.cells #[.bool false] 4)
  have BX := Sd.mk (blk_alloc b1 (.cells #[.bool false] 4))
  have BT := Sd.mk (blk_alloc b2 (.cells #[.bool false] 4))
  have BL := Sd.mk (blk_alloc b3 (.cells #[.bool false] 4))
  have B6 := Sd.mk (blk_alloc b4 (.cells #[.bool false] 4))
  have B7 := Sd.mk (show _ = _ from hsz ▸ blk_new ((((w.alloc (.cells #[.slice A zs.length c, .int .i64 f1, .int .i64 f2] 73)).alloc (.cells #[.slice At ts.length ct] 24)).alloc (.cells #[.int .i64 pr, .int .i64 fo, .int .i64 sp, .int .i64 ot] 48)).alloc (.cells #[.bool false] 4)) (.cells #[.bool false] 4))
  have HB := Sd.mk (below_alloc hb0 (.cells #[.bool false] 4))
  have HSZ := Sd.mk hsz
  have HR := Sd.mk hr
  have HTS := Sd.mk ht
  have HLEN := Sd.mk hlen
  have HLIM := Sd.mk hlim
  have HST := Sd.mk hst
  clear b1 b2 b3 b4 hb0 hsz hr ht hlen hlim hst
  refine (callsIn_wide (n := 9)).1 (callsIn_of_wp_marks Tryz.func117 rfl trivial ?_ rfl)
  simp only [Tryz.ntmps117, List.size_toArray, List.length_cons, List.length_nil, Nat.reduceAdd, Nat.reduceSub, Array.replicate_succ, Array.replicate_zero, List.push_toArray, List.append_toArray, List.nil_append, List.cons_append]
  gi_wp2_with (first | (refine ⟨trivial, ?_⟩; gi_at_call 191; refine (callsIn_wide.2 (HLIM.out _)).mono ?_; rintro e w1 ⟨rfl, hw1⟩; have HM := Sd.mk (show w.heap.size + 5 ≤ w1.heap.size from Nat.le_trans (by have := HSZ.out; simp only [World.size_alloc]; omega) hw1.size); have J1 : Sd (HoI A c zs f1 f2 At ct ts pr fo sp ot m false false w w1.heap.size w.heap.size (w1.alloc (.cells #[.int .i64 m] 3))) := ⟨⟨blk_alloc (blk_below BX.out hw1) _, blk_alloc (blk_below BT.out hw1) _, blk_alloc (blk_below BL.out hw1) _, blk_alloc (blk_below B6.out hw1) _, blk_alloc (blk_below B7.out hw1) _, blk_new w1 _, blk_alloc (blk_below BX.out hw1) _, below_alloc (below_then HB.out HB.out.size hw1) _⟩⟩; clear hw1; have J2 := Sd.mk (J1.out.set6 HM.out (by omega) true); have hf6 := blk_frozen J1.out.b6 0; have hc6 : (w1.alloc (.cells #[.int .i64 m] 3)).cell? ⟨w.heap.size + 1 + 1 + 1, 0, none⟩ = some (.bool false) := (blk_cell J1.out.b6 0).trans rfl; have hx0 : ((w1.alloc (.cells #[.int .i64 m] 3)).setCell ⟨w.heap.size + 1 + 1 + 1, 0, none⟩ (.bool true)).cell? ⟨w.heap.size, 0, none⟩ = some (.slice A zs.length c) := (blk_cell J2.out.bx 0).trans rfl; have hx1 : ((w1.alloc (.cells #[.int .i64 m] 3)).setCell ⟨w.heap.size + 1 + 1 + 1, 0, none⟩ (.bool true)).cell? ⟨w.heap.size, 0 + 1, none⟩ = some (.int .i64 f1) := (blk_cell J2.out.bx 1).trans rfl; have hx2 : ((w1.alloc (.cells #[.int .i64 m] 3)).setCell ⟨w.heap.size + 1 + 1 + 1, 0, none⟩ (.bool true)).cell? ⟨w.heap.size, 0 + 2, none⟩ = some (.int .i64 f2) := (blk_cell J2.out.bx 2).trans rfl) | (refine ⟨trivial, ?_⟩; gi_at_call 111; (with_reducible refine (callsIn_wide.2 (rings_b _ _ _ _)).mono ?_); rintro e w3 ⟨g, rfl, hg, hbk, hw3⟩; have J3 := Sd.mk (J2.out.step hw3); have I0 : Sd (HoI A c zs f1 f2 At ct ts pr fo sp ot m true false w w1.heap.size g w3) := ⟨⟨J3.out.bx, J3.out.bt, J3.out.bl, J3.out.b6, J3.out.b7, J3.out.b8, hbk, J3.out.be⟩⟩; have HG := Sd.mk (show w1.heap.size < g from Nat.lt_of_lt_of_le (by simp) hg); have HG3 := Sd.mk (show g < w3.heap.size from blk_lt hbk); clear hbk hw3 hg))
  clear hf6 hc6 hx0 hx1 hx2 BX BT BL B6 B7 HB J1 J2 J3
  generalize w1.heap.size = M at *
  refine wpIn_rangeFuncP (N := zs.length) (encs := fun k => #[.int .i64 (k : Int), ringV (rd_T92 zs k)]) rfl (by omega) (gf := 187) (lb := #[.pointer (some ⟨g, 0, none⟩)]) rfl trivial (enters_of Tryz.func187 (by kernel_rfl) rfl) (fun _ => rfl)
    (fun k W => HoI A c zs f1 f2 At ct ts pr fo sp ot m (holdN hi m k) (breakN lo m k) w M g W) (fun _ _ => False) (fun k W o h => h.alloc o) (fun k W o r hl h => h.put o HM.out (by have := HG.out; have := HG3.out; omega) (by have := HM.out; have := HG.out; omega) HG3.out (Array.getElem?_eq_some_iff.1 hl).1) I0.out ?seq ?round ?fn ?done ?panic
  case seq =>
    intro l1 J Jp W hJa hJI hY h0
    exact rings1_in Fence.wide (9 - 1) trivial rfl (by omega) l1 g A c _ _ zs J Jp W (hJI _ _ h0).rb hJa (fun k W' h => Kd.C_below HR.out (hJI _ _ h).be) hY h0
  case round =>
    clear I0
    intro l k W hW _ hk hI st hst
    have HI1 := Sd.mk hI
    have HW := Sd.mk hW
    have HK := Sd.mk hk
    have HSK := Sd.mk (HST.out k hk)
    obtain ⟨ad, eAt, hw0, hw1⟩ := at_T27 HTS.out (k : Int) (by omega) (by have := HLEN.out; omega)
    cases eAt
    simp only [Int.toNat_natCast] at hw0 hw1
    have HW0 := Sd.mk hw0
    have HW1 := Sd.mk hw1
    clear hI hW hk hw0 hw1
    generalize hx : rd_T92 zs (k : Int) = x at HSK ⊢
    generalize hy : rd_T27 ts (k : Int) = y at HSK HW0 HW1
    clear hx hy
    unfold ringV
    unfold ringV spanV loadVv at HSK
    simp only [List.zip_cons_cons, List.zip_nil_right, List.foldl_cons, List.foldl_nil]
    gi_wp2
    refine hst _ _ (by simp) (fun j h1 h2 => Below.heap_alloc W _ j (by have := HW.out; omega)) ?_
    clear hst
    intro o
    have CK : Sd (HoI A c zs f1 f2 (some ad) ct ts pr fo sp ot m (holdN hi m k) (breakN lo m k) w M g ((W.alloc (.cells #[.int .i64 x.f0.f0, .int .i64 x.f0.f1, .int .i64 x.f1.f0, .int .i64 x.f1.f1, .int .i64 x.f2.f0, .int .i64 x.f2.f1, .int .i64 x.f3.f0, .int .i64 x.f3.f1, .int .i64 x.f4.f0, .int .i64 x.f4.f1] 92)).putObj (w3.heap.size + 1) o)) := ⟨(HI1.out.alloc _).put o HM.out (by have := HG.out; have := HG3.out; omega) (by have := HM.out; have := HG.out; omega) HG3.out (by have := HW.out; simp; omega)⟩
    have RB : Sd (((W.alloc (.cells #[.int .i64 x.f0.f0, .int .i64 x.f0.f1, .int .i64 x.f1.f0, .int .i64 x.f1.f1, .int .i64 x.f2.f0, .int .i64 x.f2.f1, .int .i64 x.f3.f0, .int .i64 x.f3.f1, .int .i64 x.f4.f0, .int .i64 x.f4.f1] 92)).putObj (w3.heap.size + 1) o).heap[W.heap.size]? = some (.cells #[.int .i64 x.f0.f0, .int .i64 x.f0.f1, .int .i64 x.f1.f0, .int .i64 x.f1.f1, .int .i64 x.f2.f0, .int .i64 x.f2.f1, .int .i64 x.f3.f0, .int .i64 x.f3.f1, .int .i64 x.f4.f0, .int .i64 x.f4.f1] 92 (0, 0))) := ⟨putObj_heap_keep (by have := HW.out; omega) (blk_new _ _)⟩
    have WS : Sd (((W.alloc (.cells #[.int .i64 x.f0.f0, .int .i64 x.f0.f1, .int .i64 x.f1.f0, .int .i64 x.f1.f1, .int .i64 x.f2.f0, .int .i64 x.f2.f1, .int .i64 x.f3.f0, .int .i64 x.f3.f1, .int .i64 x.f4.f0, .int .i64 x.f4.f1] 92)).putObj (w3.heap.size + 1) o).heap.size = W.heap.size + 1) := ⟨by simp⟩
    generalize ((W.alloc (.cells #[.int .i64 x.f0.f0, .int .i64 x.f0.f1, .int .i64 x.f1.f0, .int .i64 x.f1.f1, .int .i64 x.f2.f0, .int .i64 x.f2.f1, .int .i64 x.f3.f0, .int .i64 x.f3.f1, .int .i64 x.f4.f0, .int .i64 x.f4.f1] 92)).putObj (w3.heap.size + 1) o) = Wb at CK RB WS ⊢
    have hmx : Tryz.prog.follows .mixedOrders = true := by kernel_rfl
    have hk1 : (k : Int) < (ts.length : Int) := by have := HK.out; have := HLEN.out; omega
    gi_wp2
    refine start_In (n := 9) (S := fun w' => HoI A c zs f1 f2 (some ad) ct ts pr fo sp ot m (holdN hi m k) (breakN lo m k) w M g w' ∧ w'.heap[W.heap.size]? = some (.cells #[.int .i64 x.f0.f0, .int .i64 x.f0.f1, .int .i64 x.f1.f0, .int .i64 x.f1.f1, .int .i64 x.f2.f0, .int .i64 x.f2.f1, .int .i64 x.f3.f0, .int .i64 x.f3.f1, .int .i64 x.f4.f0, .int .i64 x.f4.f1] 92 (0, 0))) (ds := []) #[false, false, false, false, false, false, false, false, false] hmx (by kernel_rfl) (fun ⟨_, _, h⟩ => h) rfl rfl ⟨CK.out.drew, RB.out⟩ (fun hHeld => ?_)
    refine with_tabW hold_tab hold_bits (fun HT_ HW_ => ?_)
    have CKd := Sd.mk CK.out.drew
    have RBd : Sd (Wb.drew.heap[W.heap.size]? = some (.cells #[.int .i64 x.f0.f0, .int .i64 x.f0.f1, .int .i64 x.f1.f0, .int .i64 x.f1.f1, .int .i64 x.f2.f0, .int .i64 x.f2.f1, .int .i64 x.f3.f0, .int .i64 x.f3.f1, .int .i64 x.f4.f0, .int .i64 x.f4.f1] 92 (0, 0))) := ⟨RB.out⟩
    have BD : Sd (Below Wb.heap.size Wb Wb.drew) := ⟨below_drew (Below.refl _ _)⟩
    clear CK RB
    generalize Wb.drew = Wd at CKd RBd BD hHeld ⊢
    refine take_ (i := 0) (N := some 18) (v := ?_) (a' := ?_) #[true, false, false, false, false, false, false, false, false] rfl rfl (take_ofW HT_.out HW_.out (by kernel_rfl)) (fun _ _ _ h => h) (Or.inl ⟨by rfl, ?_⟩) hHeld ?_ ?_
    rotate_left
    · rintro w' ⟨hI, hR⟩
      have s0 : w'.cell? ⟨W.heap.size, 0, none⟩ = some (.int .i64 x.f0.f0) := (blk_cell hR 0).trans rfl
      have s1 : w'.cell? ⟨W.heap.size, 0 + 1, none⟩ = some (.int .i64 x.f0.f1) := (blk_cell hR 1).trans rfl
      have s2 : w'.cell? ⟨W.heap.size, 0 + 2, none⟩ = some (.int .i64 x.f1.f0) := (blk_cell hR 2).trans rfl
      have s3 : w'.cell? ⟨W.heap.size, 0 + 3, none⟩ = some (.int .i64 x.f1.f1) := (blk_cell hR 3).trans rfl
      have s4 : w'.cell? ⟨W.heap.size, 0 + 4, none⟩ = some (.int .i64 x.f2.f0) := (blk_cell hR 4).trans rfl
      have s5 : w'.cell? ⟨W.heap.size, 0 + 5, none⟩ = some (.int .i64 x.f2.f1) := (blk_cell hR 5).trans rfl
      have s6 : w'.cell? ⟨W.heap.size, 0 + 6, none⟩ = some (.int .i64 x.f3.f0) := (blk_cell hR 6).trans rfl
      have s7 : w'.cell? ⟨W.heap.size, 0 + 7, none⟩ = some (.int .i64 x.f3.f1) := (blk_cell hR 7).trans rfl
      have s8 : w'.cell? ⟨W.heap.size, 0 + 8, none⟩ = some (.int .i64 x.f4.f0) := (blk_cell hR 8).trans rfl
      have s9 : w'.cell? ⟨W.heap.size, 0 + 9, none⟩ = some (.int .i64 x.f4.f1) := (blk_cell hR 9).trans rfl
      go_simp
      with_reducible rfl
    rotate_left
    · simp only [Act.put, List.setIfInBounds_toArray, List.set_cons_zero, List.set_cons_succ, i64_w, i32_w]
      rfl
    refine take_ (i := 1) (N := some 19) (v := ?_) (a' := ?_) #[true, true, false, false, false, false, false, false, false] rfl rfl (take_ofW HT_.out HW_.out (by kernel_rfl)) (fun _ _ _ h => h) (Or.inl ⟨by rfl, ?_⟩) hHeld ?_ ?_
    rotate_left
    · rintro w' ⟨hI, hR⟩
      have s0 : w'.cell? ⟨w.heap.size + 1, 0, none⟩ = some (.slice (some ad) ts.length ct) := (blk_cell hI.bt 0).trans rfl
      go_simp
      with_reducible rfl
    rotate_left
    · simp only [Act.put, List.setIfInBounds_toArray, List.set_cons_zero, List.set_cons_succ, i64_w, i32_w]
      rfl
    refine pure_ (i := 2) (N := some 20) (v := ?_) (a' := ?_) #[true, true, true, false, false, false, false, false, false] rfl rfl (any_of HT_.out (by kernel_rfl)) (fun _ _ _ h => h) (Or.inl ⟨by rfl, ?_⟩) ?_ ?_
    rotate_left
    · intro w'
      go_simp
      with_reducible rfl
    rotate_left
    · simp only [Act.put, List.setIfInBounds_toArray, List.set_cons_zero, List.set_cons_succ, i64_w, i32_w]
      rfl
    refine pure_ (i := 3) (N := some 21) (v := ?_) (a' := ?_) #[true, true, true, true, false, false, false, false, false] rfl rfl (any_of HT_.out (by kernel_rfl)) (fun _ _ _ h => h) (Or.inl ⟨by rfl, ?_⟩) ?_ ?_
    rotate_left
    · intro w'
      go_simp
      with_reducible rfl
    rotate_left
    · simp only [Act.put, List.setIfInBounds_toArray, List.set_cons_zero, List.set_cons_succ, i64_w, i32_w]
      rfl
    refine take_ (i := 4) (N := some 22) (v := ?_) (a' := ?_) #[true, true, true, true, true, false, false, false, false] rfl rfl (take_ofW HT_.out HW_.out (by kernel_rfl)) (fun _ _ _ h => h) (Or.inl ⟨by rfl, ?_⟩) hHeld ?_ ?_
    rotate_left
    · rintro w' ⟨hI, hR⟩
      have s0 : w'.cell? (ad.add (k * 2)) = some (.int .i64 y.f0) := (hI.be.cell (World.block_lt_of_cell? w _ HW0.out)).trans HW0.out
      have s1 : w'.cell? ⟨(ad.add (k * 2)).block, (ad.add (k * 2)).off + 1, none⟩ = some (.int .i64 y.f1) := (hI.be.cell (World.block_lt_of_cell? w _ HW1.out)).trans HW1.out
      go_simp
      with_reducible rfl
    rotate_left
    · simp only [Act.put, List.setIfInBounds_toArray, List.set_cons_zero, List.set_cons_succ, i64_w, i32_w]
      rfl
    refine take_ (i := 5) (N := some 23) (v := ?_) (a' := ?_) #[true, true, true, true, true, true, false, false, false] rfl rfl (take_ofW HT_.out HW_.out (by kernel_rfl)) (fun _ _ _ h => h) (Or.inl ⟨by rfl, ?_⟩) hHeld ?_ ?_
    rotate_left
    · rintro w' ⟨hI, hR⟩
      have s0 : w'.cell? ⟨w.heap.size + 1 + 1, 0, none⟩ = some (.int .i64 pr) := (blk_cell hI.bl 0).trans rfl
      have s1 : w'.cell? ⟨w.heap.size + 1 + 1, 0 + 1, none⟩ = some (.int .i64 fo) := (blk_cell hI.bl 1).trans rfl
      have s2 : w'.cell? ⟨w.heap.size + 1 + 1, 0 + 2, none⟩ = some (.int .i64 sp) := (blk_cell hI.bl 2).trans rfl
      have s3 : w'.cell? ⟨w.heap.size + 1 + 1, 0 + 3, none⟩ = some (.int .i64 ot) := (blk_cell hI.bl 3).trans rfl
      go_simp
      with_reducible rfl
    rotate_left
    · simp only [Act.put, List.setIfInBounds_toArray, List.set_cons_zero, List.set_cons_succ, i64_w, i32_w]
      rfl
    refine wpAnyLast_ready (rs := [6, 7]) (by kernel_rfl) (by simp) ?_
    refine AllReadyL.cons rfl (by simp) (fun K hK => ?_) ?_
    · refine goes_ Tryz.func112 (by kernel_rfl) rfl #[.agg #[.int .i64 x.f0.f0, .int .i64 x.f0.f1, .int .i64 x.f1.f0, .int .i64 x.f1.f1, .int .i64 x.f2.f0, .int .i64 x.f2.f1, .int .i64 x.f3.f0, .int .i64 x.f3.f1, .int .i64 x.f4.f0, .int .i64 x.f4.f1], .agg #[.int .i64 y.f0, .int .i64 y.f1], .agg #[.int .i64 pr, .int .i64 fo, .int .i64 sp, .int .i64 ot]] (by (try simp only [Array.map_toArray, List.map_toArray, List.map_cons, List.map_nil]); rfl) rfl rfl (by (try simp only [List.map_toArray, List.map_cons, List.map_nil]); first | done | rfl) ?_
      refine (HSK.out Wd).mono ?_
      rintro e w4 ⟨rfl, hb⟩
      refine ⟨_, rfl, ?_⟩
      have I4 := Sd.mk (CKd.out.step hb)
      have RB4 : Sd (w4.heap[W.heap.size]? = some (.cells #[.int .i64 x.f0.f0, .int .i64 x.f0.f1, .int .i64 x.f1.f0, .int .i64 x.f1.f1, .int .i64 x.f2.f0, .int .i64 x.f2.f1, .int .i64 x.f3.f0, .int .i64 x.f3.f1, .int .i64 x.f4.f0, .int .i64 x.f4.f1] 92 (0, 0))) := ⟨blk_below RBd.out hb⟩
      have BD4 := Sd.mk (below_then BD.out BD.out.size hb)
      clear hb
      refine hK.out _ _ ⟨I4.out, RB4.out⟩ (fun hHeld => ?_)
      clear hK K
      refine norm_ (a' := ?_) ?_ ?_
      rotate_left
      · show Act.put _ (some 24) _ = _
        simp only [Act.put, List.setIfInBounds_toArray, List.set_cons_zero, List.set_cons_succ, i64_w, i32_w]
        rfl
      refine one_ (i := 7) (N := some 11) #[true, true, true, true, true, true, true, true, false] rfl rfl (one_of HT_.out (by kernel_rfl)) (by decide) (fun K hK => ?_)
      go_simp
      refine hK.out _ _ ⟨I4.out.alloc _, blk_alloc RB4.out _⟩ (fun hHeld => ?_)
      clear hK K
      refine one_ (i := 8) (N := none) #[true, true, true, true, true, true, true, true, true] rfl rfl (one_of HT_.out (by kernel_rfl)) (by decide) (fun K hK => ?_)
      go_simp
      have I9 := Sd.mk (I4.out.alloc (.cells #[.int .i64 (lo k), .int .i64 (hi k)] 27))
      have RB9 := Sd.mk (blk_alloc RB4.out (.cells #[.int .i64 (lo k), .int .i64 (hi k)] 27))
      have T9 := Sd.mk (blk_new w4 (.cells #[.int .i64 (lo k), .int .i64 (hi k)] 27))
      have BD9 := Sd.mk (below_alloc BD4.out (.cells #[.int .i64 (lo k), .int .i64 (hi k)] 27))
      have HT9 := Sd.mk (show w3.heap.size + 1 < w4.heap.size from by have := BD4.out.size; have := WS.out; have := HW.out; omega)
      refine hK.out _ _ ⟨I9.out, RB9.out⟩ (fun hHeld => ?_)
      clear hK K
      refine done_ (done_of HT_.out (by kernel_rfl)) ?_
      clear hHeld HT_ HW_
      generalize w4.alloc (.cells #[.int .i64 (lo k), .int .i64 (hi k)] 27) = W9 at I9 T9 BD9 ⊢
      generalize w4.heap.size = T at HT9 T9 ⊢
      have hg3 := HG3.out
      have hg := HG.out
      have hm := HM.out
      have fin : ∀ (a' : Act) (v6 v7 : Bool), v6 = holdN hi m (k + 1) → v7 = breakN lo m (k + 1) → bodyPostP w3.heap.size (fun k W => HoI A c zs f1 f2 (some ad) ct ts pr fo sp ot m (holdN hi m k) (breakN lo m k) w M g W) (fun _ _ => False) (k + 1) Wb .normal a' ((W9.setCell ⟨w.heap.size + 1 + 1 + 1, 0, none⟩ (.bool v6)).setCell ⟨w.heap.size + 1 + 1 + 1 + 1, 0, none⟩ (.bool v7)) := by
        rintro a' _ _ rfl rfl
        refine ⟨by simpa using BD9.out.size, fun j h1 h2 => ?_, (I9.out.set6 hm (by omega) _).set7 hm (by omega) _⟩
        exact (Below.heap_setCell _ _ _ j (by dsimp only; omega)).trans ((Below.heap_setCell _ _ _ j (by dsimp only; omega)).trans (BD9.out.block j (by have := WS.out; have := HW.out; omega)))
      have E6 : holdN hi m (k + 1) = (holdN hi m k && decide (hi k ≤ m)) := rfl
      have E7 : breakN lo m (k + 1) = (breakN lo m k || decide (lo k > m)) := rfl
      generalize holdN hi m (k + 1) = n6 at E6 fin
      generalize breakN lo m (k + 1) = n7 at E7 fin
      generalize holdN hi m k = b6 at I9 E6
      generalize breakN lo m k = b7 at I9 E7
      subst E6
      subst E7
      have FINA := Sd.mk fin
      clear fin
      have I10 := fun v : Bool => I9.out.set6 hm (by omega) v
      have e6 : W9.cell? ⟨w.heap.size + 1 + 1 + 1, 0, none⟩ = some (.bool b6) := (blk_cell I9.out.b6 0).trans rfl
      have f6 := blk_frozen I9.out.b6 0
      have e8 : W9.cell? ⟨M, 0, none⟩ = some (.int .i64 m) := (blk_cell I9.out.b8 0).trans rfl
      have t0 : W9.cell? ⟨T, 0, none⟩ = some (.int .i64 (lo k)) := (blk_cell T9.out 0).trans rfl
      have t1 : W9.cell? ⟨T, 0 + 1, none⟩ = some (.int .i64 (hi k)) := (blk_cell T9.out 1).trans rfl
      have e7 := fun v : Bool => show (W9.setCell ⟨w.heap.size + 1 + 1 + 1, 0, none⟩ (.bool v)).cell? ⟨w.heap.size + 1 + 1 + 1 + 1, 0, none⟩ = some (.bool b7) from (blk_cell (I10 v).b7 0).trans rfl
      have f7 := fun v : Bool => blk_frozen (I10 v).b7 0
      have e8x := fun v : Bool => show (W9.setCell ⟨w.heap.size + 1 + 1 + 1, 0, none⟩ (.bool v)).cell? ⟨M, 0, none⟩ = some (.int .i64 m) from (blk_cell (I10 v).b8 0).trans rfl
      have t0x := fun v : Bool => show (W9.setCell ⟨w.heap.size + 1 + 1 + 1, 0, none⟩ (.bool v)).cell? ⟨T, 0, none⟩ = some (.int .i64 (lo k)) from (blk_cell (blk_far T9.out (p := ⟨w.heap.size + 1 + 1 + 1, 0, none⟩) (by have := HT9.out; dsimp only; omega) _) 0).trans rfl
      have et := e7 true; have ef := e7 false; have ft := f7 true; have ff := f7 false; have xt := e8x true; have xf := e8x false; have yt := t0x true; have yf := t0x false
      clear I10 e7 f7 e8x t0x I9 T9 BD9 CKd RBd BD
      (cases b6 <;> cases b7 <;> (by_cases c1 : hi k ≤ m) <;> (by_cases c2 : lo k > m) <;> (first | (have d1 : decide (hi k ≤ m) = true := decide_eq_true c1) | (have d1 : decide (hi k ≤ m) = false := decide_eq_false c1)) <;> (first | (have d2 : decide (lo k > m) = true := decide_eq_true c2; have d3 : decide (m < lo k) = true := decide_eq_true c2) | (have d2 : decide (lo k > m) = false := decide_eq_false c2; have d3 : decide (m < lo k) = false := decide_eq_false c2)) <;> clear c1 c2 <;> (have D1 := Sd.mk d1; have D2 := Sd.mk d2) <;> gi_wp2 <;> (refine FINA.out _ _ _ ?_ ?_ <;> (first | rw [D1.out] | rw [D2.out] | skip) <;> (first | rfl | simp [D1.out, D2.out])))
    refine AllReadyL.cons rfl (by simp) (fun K hK => ?_) ?_
    · go_simp
      refine hK.out _ _ ⟨CKd.out.alloc _, blk_alloc RBd.out _⟩ (fun hHeld => ?_)
      clear hK K
      refine one_ (i := 6) (N := some 24) #[true, true, true, true, true, true, true, true, false] rfl rfl (one_of HT_.out (by kernel_rfl)) (by decide) (fun K hK => ?_)
      refine goes_ Tryz.func112 (by kernel_rfl) rfl #[.agg #[.int .i64 x.f0.f0, .int .i64 x.f0.f1, .int .i64 x.f1.f0, .int .i64 x.f1.f1, .int .i64 x.f2.f0, .int .i64 x.f2.f1, .int .i64 x.f3.f0, .int .i64 x.f3.f1, .int .i64 x.f4.f0, .int .i64 x.f4.f1], .agg #[.int .i64 y.f0, .int .i64 y.f1], .agg #[.int .i64 pr, .int .i64 fo, .int .i64 sp, .int .i64 ot]] (by (try simp only [Array.map_toArray, List.map_toArray, List.map_cons, List.map_nil]); rfl) rfl rfl (by (try simp only [List.map_toArray, List.map_cons, List.map_nil]); first | done | rfl) ?_
      refine (HSK.out _).mono ?_
      rintro e w4 ⟨rfl, hb⟩
      refine ⟨_, rfl, ?_⟩
      have I4 := Sd.mk ((CKd.out.alloc (.cells #[.int .i64 0, .int .i64 0] 27)).step hb)
      have RB4 : Sd (w4.heap[W.heap.size]? = some (.cells #[.int .i64 x.f0.f0, .int .i64 x.f0.f1, .int .i64 x.f1.f0, .int .i64 x.f1.f1, .int .i64 x.f2.f0, .int .i64 x.f2.f1, .int .i64 x.f3.f0, .int .i64 x.f3.f1, .int .i64 x.f4.f0, .int .i64 x.f4.f1] 92 (0, 0))) := ⟨blk_below (blk_alloc RBd.out _) hb⟩
      have BT4 : Sd (w4.heap[Wd.heap.size]? = some (.cells #[.int .i64 0, .int .i64 0] 27 (0, 0))) := ⟨blk_below (blk_new Wd _) hb⟩
      have BD4 := Sd.mk (below_then (below_alloc BD.out (.cells #[.int .i64 0, .int .i64 0] 27)) (below_alloc BD.out (.cells #[.int .i64 0, .int .i64 0] 27)).size hb)
      clear hb
      refine hK.out _ _ ⟨I4.out, RB4.out⟩ (fun hHeld => ?_)
      clear hK K
      refine norm_ (a' := ?_) ?_ ?_
      rotate_left
      · show Act.put _ (some 24) _ = _
        simp only [Act.put, List.setIfInBounds_toArray, List.set_cons_zero, List.set_cons_succ, i64_w, i32_w]
        rfl
      refine one_ (i := 8) (N := none) #[true, true, true, true, true, true, true, true, true] rfl rfl (one_of HT_.out (by kernel_rfl)) (by decide) (fun K hK => ?_)
      have ht0 : w4.cell? ⟨Wd.heap.size, 0, none⟩ = some (.int .i64 0) := (blk_cell BT4.out 0).trans rfl
      have ht1 : w4.cell? ⟨Wd.heap.size, 0 + 1, none⟩ = some (.int .i64 0) := (blk_cell BT4.out 1).trans rfl
      have htf := blk_frozen BT4.out 0
      have htg := blk_frozen BT4.out 1
      go_simp
      have HT9 := Sd.mk (show w3.heap.size + 1 < Wd.heap.size from by have := BD.out.size; have := WS.out; have := HW.out; omega)
      have hq1 : w.heap.size + 5 ≤ Wd.heap.size := by have := HM.out; have := HG.out; have := HG3.out; have := HT9.out; omega
      have hq2 : M ≠ Wd.heap.size := by have := HM.out; have := HG.out; have := HG3.out; have := HT9.out; omega
      have hq3 : g ≠ Wd.heap.size := by have := HM.out; have := HG.out; have := HG3.out; have := HT9.out; omega
      have hq4 : W.heap.size ≠ Wd.heap.size := by have := BD.out.size; have := WS.out; omega
      have I9 := Sd.mk ((I4.out.far hq1 hq2 hq3 0 (.int .i64 (lo k))).far hq1 hq2 hq3 1 (.int .i64 (hi k)))
      have RB9 := Sd.mk (blk_far (blk_far RB4.out (p := ⟨Wd.heap.size, 0, none⟩) hq4 (.int .i64 (lo k))) (p := ⟨Wd.heap.size, 1, none⟩) hq4 (.int .i64 (hi k)))
      have T9 : Sd (((w4.setCell ⟨Wd.heap.size, 0, none⟩ (.int .i64 (lo k))).setCell ⟨Wd.heap.size, 1, none⟩ (.int .i64 (hi k))).heap[Wd.heap.size]? = some (.cells #[.int .i64 (lo k), .int .i64 (hi k)] 27 (0, 0))) := ⟨blk_put (blk_put BT4.out 0 _ rfl) 1 _ rfl⟩
      have BD9 := Sd.mk (below_set (below_set BD4.out (g := Wd.heap.size) (j := 0) (v := .int .i64 (lo k)) BD.out.size) (g := Wd.heap.size) (j := 1) (v := .int .i64 (hi k)) BD.out.size)
      clear hq1 hq2 hq3 hq4 ht0 ht1 htf htg
      refine hK.out _ _ ⟨I9.out, RB9.out⟩ (fun hHeld => ?_)
      clear hK K
      refine done_ (done_of HT_.out (by kernel_rfl)) ?_
      clear hHeld HT_ HW_
      generalize (w4.setCell ⟨Wd.heap.size, 0, none⟩ (.int .i64 (lo k))).setCell ⟨Wd.heap.size, 1, none⟩ (.int .i64 (hi k)) = W9 at I9 T9 BD9 ⊢
      generalize Wd.heap.size = T at HT9 T9 ⊢
      have hg3 := HG3.out
      have hg := HG.out
      have hm := HM.out
      have fin : ∀ (a' : Act) (v6 v7 : Bool), v6 = holdN hi m (k + 1) → v7 = breakN lo m (k + 1) → bodyPostP w3.heap.size (fun k W => HoI A c zs f1 f2 (some ad) ct ts pr fo sp ot m (holdN hi m k) (breakN lo m k) w M g W) (fun _ _ => False) (k + 1) Wb .normal a' ((W9.setCell ⟨w.heap.size + 1 + 1 + 1, 0, none⟩ (.bool v6)).setCell ⟨w.heap.size + 1 + 1 + 1 + 1, 0, none⟩ (.bool v7)) := by
        rintro a' _ _ rfl rfl
        refine ⟨by simpa using BD9.out.size, fun j h1 h2 => ?_, (I9.out.set6 hm (by omega) _).set7 hm (by omega) _⟩
        exact (Below.heap_setCell _ _ _ j (by dsimp only; omega)).trans ((Below.heap_setCell _ _ _ j (by dsimp only; omega)).trans (BD9.out.block j (by have := WS.out; have := HW.out; omega)))
      have E6 : holdN hi m (k + 1) = (holdN hi m k && decide (hi k ≤ m)) := rfl
      have E7 : breakN lo m (k + 1) = (breakN lo m k || decide (lo k > m)) := rfl
      generalize holdN hi m (k + 1) = n6 at E6 fin
      generalize breakN lo m (k + 1) = n7 at E7 fin
      generalize holdN hi m k = b6 at I9 E6
      generalize breakN lo m k = b7 at I9 E7
      subst E6
      subst E7
      have FINA := Sd.mk fin
      clear fin
      have I10 := fun v : Bool => I9.out.set6 hm (by omega) v
      have e6 : W9.cell? ⟨w.heap.size + 1 + 1 + 1, 0, none⟩ = some (.bool b6) := (blk_cell I9.out.b6 0).trans rfl
      have f6 := blk_frozen I9.out.b6 0
      have e8 : W9.cell? ⟨M, 0, none⟩ = some (.int .i64 m) := (blk_cell I9.out.b8 0).trans rfl
      have t0 : W9.cell? ⟨T, 0, none⟩ = some (.int .i64 (lo k)) := (blk_cell T9.out 0).trans rfl
      have t1 : W9.cell? ⟨T, 0 + 1, none⟩ = some (.int .i64 (hi k)) := (blk_cell T9.out 1).trans rfl
      have e7 := fun v : Bool => show (W9.setCell ⟨w.heap.size + 1 + 1 + 1, 0, none⟩ (.bool v)).cell? ⟨w.heap.size + 1 + 1 + 1 + 1, 0, none⟩ = some (.bool b7) from (blk_cell (I10 v).b7 0).trans rfl
      have f7 := fun v : Bool => blk_frozen (I10 v).b7 0
      have e8x := fun v : Bool => show (W9.setCell ⟨w.heap.size + 1 + 1 + 1, 0, none⟩ (.bool v)).cell? ⟨M, 0, none⟩ = some (.int .i64 m) from (blk_cell (I10 v).b8 0).trans rfl
      have t0x := fun v : Bool => show (W9.setCell ⟨w.heap.size + 1 + 1 + 1, 0, none⟩ (.bool v)).cell? ⟨T, 0, none⟩ = some (.int .i64 (lo k)) from (blk_cell (blk_far T9.out (p := ⟨w.heap.size + 1 + 1 + 1, 0, none⟩) (by have := HT9.out; dsimp only; omega) _) 0).trans rfl
      have et := e7 true; have ef := e7 false; have ft := f7 true; have ff := f7 false; have xt := e8x true; have xf := e8x false; have yt := t0x true; have yf := t0x false
      clear I10 e7 f7 e8x t0x I9 T9 BD9 CKd RBd BD
      (cases b6 <;> cases b7 <;> (by_cases c1 : hi k ≤ m) <;> (by_cases c2 : lo k > m) <;> (first | (have d1 : decide (hi k ≤ m) = true := decide_eq_true c1) | (have d1 : decide (hi k ≤ m) = false := decide_eq_false c1)) <;> (first | (have d2 : decide (lo k > m) = true := decide_eq_true c2; have d3 : decide (m < lo k) = true := decide_eq_true c2) | (have d2 : decide (lo k > m) = false := decide_eq_false c2; have d3 : decide (m < lo k) = false := decide_eq_false c2)) <;> clear c1 c2 <;> (have D1 := Sd.mk d1; have D2 := Sd.mk d2) <;> gi_wp2 <;> (refine FINA.out _ _ _ ?_ ?_ <;> (first | rw [D1.out] | rw [D2.out] | skip) <;> (first | rfl | simp [D1.out, D2.out])))
    exact AllReadyL.nil
  case fn => intro ⟨_, _, h⟩; exact h.elim
  case panic => intro _ _ h; exact h.elim
  case done =>
    intro W hI hD
    have HI2 := Sd.mk hI
    have HD := Sd.mk hD
    have hId := hI.drew
    have e6 : W.drew.cell? ⟨w.heap.size + 1 + 1 + 1, 0, none⟩ = some (.bool (holdN hi m zs.length)) := (blk_cell hId.b6 0).trans rfl
    have f6 := blk_frozen hId.b6 0
    have e7 : W.drew.cell? ⟨w.heap.size + 1 + 1 + 1 + 1, 0, none⟩ = some (.bool (breakN lo m zs.length)) := (blk_cell hId.b7 0).trans rfl
    have I10 := (hI.set6 HM.out (by have := HM.out; have := HG.out; omega) (holdN hi m zs.length)).drew
    have e7x : (W.setCell ⟨w.heap.size + 1 + 1 + 1, 0, none⟩ (.bool (holdN hi m zs.length))).drew.cell? ⟨w.heap.size + 1 + 1 + 1 + 1, 0, none⟩ = some (.bool (breakN lo m zs.length)) := (blk_cell I10.b7 0).trans rfl
    have f7 := blk_frozen I10.b7 0
    have J11 := Sd.mk ((hI.set6 HM.out (by have := HM.out; have := HG.out; omega) (holdN hi m zs.length)).set7 HM.out (by have := HM.out; have := HG.out; omega) (breakN lo m zs.length))
    clear hI hD hId I10 I0
    have hmx : Tryz.prog.follows .mixedOrders = true := by kernel_rfl
    generalize hb6 : holdN hi m zs.length = b6 at e6 f6 e7 e7x f7 HI2 J11
    generalize hb7 : breakN lo m zs.length = b7 at e7 e7x HI2 J11
    have HB6 := Sd.mk hb6
    have HB7 := Sd.mk hb7
    clear hb6 hb7
    gi_wp2
    gi_region
    clear e6 e7 e7x f6 f7
    gi_wp2
    have hm := HM.out
    have hg := HG.out
    have hg3 := HG3.out
    have J12 := J11.out.drew
    have hd : ((W.setCell ⟨w.heap.size + 1 + 1 + 1, 0, none⟩ (.bool b6)).setCell ⟨w.heap.size + 1 + 1 + 1 + 1, 0, none⟩ (.bool b7)).drew.heap[w3.heap.size]? = some (.deferred (some [])) := (Below.heap_setCell _ _ _ _ (by dsimp only; omega)).trans ((Below.heap_setCell _ _ _ _ (by dsimp only; omega)).trans HD.out)
    generalize ((W.setCell ⟨w.heap.size + 1 + 1 + 1, 0, none⟩ (.bool b6)).setCell ⟨w.heap.size + 1 + 1 + 1 + 1, 0, none⟩ (.bool b7)).drew = W9 at J12 hd ⊢
    refine ⟨by simp, .inl ⟨_, _, rfl, run_takeDeferred hd, ?_⟩⟩
    exact ⟨_, results_bb rfl _ _ (w.heap.size + 1 + 1 + 1) (w.heap.size + 1 + 1 + 1 + 1) b6 b7 rfl (putObj_heap_keep (by omega) J12.b6) rfl (putObj_heap_keep (by omega) J12.b7), by rw [HB6.out, HB7.out], below_putObj J12.be (by omega) (Array.getElem?_eq_some_iff.1 hd).1⟩
end
section
theorem limit1_calls (s n : Int) (X : Nat) (w : World) (hX : w.heap[X]? = some (.cells #[.int .i64 n] 3 (0, 0))) :
    Calls Tryz.prog 216 #[.int .i64 s, .pointer (some ⟨X, 0, none⟩)] w fun e w' => e = .returned (.bool (decide (wrap64 (s * s) > n))) ∧ Below w.heap.size w w' := by
  have hx : w.cell? ⟨X, 0, none⟩ = some (.int .i64 n) := (blk_cell hX 0).trans rfl
  clear hX
  go_enter Tryz.func216, Tryz.ntmps216
  go_wp2
  go_ret
  exact ⟨rfl, Below.refl _ _⟩
def limP (n : Int) (i : Nat) : Bool := decide ((i : Int) * (i : Int) > n)
theorem limP_mono (n : Int) (a b : Nat) (h : a ≤ b) (ha : limP n a = true) : limP n b = true := by
  simp only [limP, decide_eq_true_eq] at ha ⊢
  have h1 : (a : Int) ≤ (b : Int) := by omega
  have h2 := Int.mul_le_mul h1 h1 (by omega) (by omega)
  omega
theorem limP_w (n : Int) (i : Nat) (h : i < 40000001) : decide (wrap64 (wrap64 (0 + (i : Int)) * wrap64 (0 + (i : Int))) > n) = limP n i := by
  have h1 : (i : Int) ≤ 40000000 := by omega
  have h2 := Int.mul_le_mul h1 h1 (by omega) (by omega)
  have h3 : 0 ≤ (i : Int) * (i : Int) := Int.mul_nonneg (by omega) (by omega)
  rw [Int.zero_add, wsmall (x := (i : Int)) (by omega) (by omega), wsmall (x := (i : Int) * (i : Int)) (by omega) (by omega)]
  rfl
theorem lim_n : wrap64 (wrap64 (40000000 - 0) + 1) = ((40000001 : Nat) : Int) := by
  rw [wsmall (x := 40000000 - 0) (by omega) (by omega), wsmall (by omega) (by omega)]; omega
noncomputable def limC (n : Int) : Nat := Classical.choose (turnsAt_ex (limP n) (limP_mono n) 40000001)
theorem limC_spec (n : Int) : TurnsAt (limP n) 40000001 (limC n) := Classical.choose_spec (turnsAt_ex (limP n) (limP_mono n) 40000001)
noncomputable def limM (f1 f2 : Int) : Int := wrap64 (wrap64 (0 + (limC (wrap64 (Int.tdiv f2 f1)) : Int)) - 1)
theorem limit_calls (A : Option Addr) (c : Nat) (zs : List S92) (f1 f2 : Int) (hf : ¬ f1 = 0) (w : World) :
    Calls Tryz.prog 191 #[.agg #[.slice A zs.length c, .int .i64 f1, .int .i64 f2]] w fun e w' => e = .returned (.int .i64 (limM f1 f2)) ∧ Below w.heap.size w w' := by
  have hmf := run_makeFunc_
  have HM : Sd (limM f1 f2 = wrap64 (wrap64 (0 + (limC (wrap64 (Int.tdiv f2 f1)) : Int)) - 1)) := ⟨rfl⟩
  have hsp := limC_spec (wrap64 (Int.tdiv f2 f1))
  generalize limC (wrap64 (Int.tdiv f2 f1)) = cc at HM hsp
  have HSP := Sd.mk hsp
  clear hsp
  have hf' : (f1 == 0) = false := beq_eq_false_iff_ne.mpr hf
  obtain ⟨b1, b2, hb0, hsz⟩ := blk_two w (.cells #[.slice A zs.length c, .int .i64 f1, .int .i64 f2] 73) (.cells #[.int .i64 (wrap64 (Int.tdiv f2 f1))] 3)
  have BN := Sd.mk b2
  have HB := Sd.mk hb0
  have HSZ := Sd.mk hsz
  clear b1 b2 hb0 hsz
  go_enter Tryz.func191, Tryz.ntmps191
  go_wp2_with (go_at_call 115; go_loud (refine (first_calls 216 #[.pointer (some ⟨w.heap.size + 1, 0, none⟩)] (enters_of Tryz.func216 (by kernel_rfl) rfl) 0 40000000 40000001 lim_n (by decide) _ cc HSP.out _ (fun W i hW hi => (limit1_calls _ _ _ W (blk_below BN.out hW)).mono fun e w' he => ⟨by rw [he.1, limP_w _ i hi], he.2⟩)).mono ?_; rintro e w1 ⟨rfl, hb⟩))
  go_ret
  exact ⟨by rw [HM.out, Int.zero_add]; rfl, below_then HB.out HB.out.size hb⟩
theorem askL_ok (A : Option Addr) (c : Nat) (zs : List S92) (f1 f2 : Int) (At : Option Addr) (ct : Nat) (ts : List S27) (pr fo sp ot : Int) (w : World) (hr : Kd.C k92 w A zs.length zs) (ht : Kd.C k27 w At ts.length ts) (h : askLV zs f1 f2 ts pr fo sp ot = 0) :
    Calls Tryz.prog 110 #[.agg #[.slice A zs.length c, .int .i64 f1, .int .i64 f2], .slice At ts.length ct, .agg #[.int .i64 pr, .int .i64 fo, .int .i64 sp, .int .i64 ot]] w fun en w' => en = .returned (.tuple #[]) ∧ Below w.heap.size w w' :=
  (askL_calls A c zs f1 f2 At ct ts pr fo sp ot w hr ht).mono fun e w' he => ⟨by rw [he.1, h]; rfl, he.2⟩
theorem askLV_len {zs : List S92} {f1 f2 : Int} {ts : List S27} {pr fo sp ot : Int} (h : askLV zs f1 f2 ts pr fo sp ot = 0) : ts.length = zs.length := by
  revert h
  unfold askLV
  split
  · split
    · rename_i h1
      simp only [Bool.and_eq_true, decide_eq_true_eq] at h1
      exact fun _ => h1.1
    · intro h; cases h
  · intro h; exact absurd h (by assumption)
end
section
open Go.RowKit Go.Shelf Go.Proofs.YtljfljekcpdpiaaGreatW.PrintWords Go.Proofs.YtljfljekcpdpiaaGreatW.PrintLast Go.Proofs.YtljfljekcpdpiaaGreatW.PrintMore
theorem door113_ok (B : Nat) (w : World) :
    CallsD Tryz.prog 113 #[.pointer (some ⟨B, 0, none⟩)] .returning w fun en u' w' => en = .returned (.tuple #[]) ∧ u' = .returning ∧ w' = w := by
  refine callsD_of_wpS Tryz.func113 rfl fun c₀ cs hu => ?_
  apply wpS_region
  simp [wpOpsS, go_sem, recoverD, hu, Tryz.ntmps113, Exit.thenS]
  refine (caught_nil ⟨B, 0, none⟩ w).mono ?_
  rintro e1 w1 ⟨rfl, rfl⟩
  cases c₀
  simp_all [bodyPostS, results, Tryz.results113]
theorem door119_ok (B : Nat) (w : World) :
    CallsD Tryz.prog 119 #[.pointer (some ⟨B, 0, none⟩)] .returning w fun en u' w' => en = .returned (.tuple #[]) ∧ u' = .returning ∧ w' = w := by
  refine callsD_of_wpS Tryz.func119 rfl fun c₀ cs hu => ?_
  apply wpS_region
  simp [wpOpsS, go_sem, recoverD, hu, Tryz.ntmps119, Exit.thenS]
  refine (caught_nil ⟨B, 0, none⟩ w).mono ?_
  rintro e1 w1 ⟨rfl, rfl⟩
  cases c₀
  simp_all [bodyPostS, results, Tryz.results119]
theorem door123_ok (B : Nat) (w : World) :
    CallsD Tryz.prog 123 #[.pointer (some ⟨B, 0, none⟩)] .returning w fun en u' w' => en = .returned (.tuple #[]) ∧ u' = .returning ∧ w' = w := by
  refine callsD_of_wpS Tryz.func123 rfl fun c₀ cs hu => ?_
  apply wpS_region
  simp [wpOpsS, go_sem, recoverD, hu, Tryz.ntmps123, Exit.thenS]
  refine (caught_nil ⟨B, 0, none⟩ w).mono ?_
  rintro e1 w1 ⟨rfl, rfl⟩
  cases c₀
  simp_all [bodyPostS, results, Tryz.results123]
theorem door109I_ok (n : Nat) (B : Nat) (w : World) :
    CallsDIn Fence.wide n Tryz.prog 109 #[.pointer (some ⟨B, 0, none⟩)] .returning w fun en u' w' => en = .returned (.tuple #[]) ∧ u' = .returning ∧ w' = w := by
  refine callsDIn_wide_of_wpS Tryz.func109 rfl fun c₀ cs hu => ?_
  apply wpS_region
  simp [wpOpsS, go_sem, recoverD, hu, Tryz.ntmps109, Exit.thenS]
  refine (caught_nil ⟨B, 0, none⟩ w).mono ?_
  rintro e1 w1 ⟨rfl, rfl⟩
  cases c₀
  simp_all [bodyPostS, results, Tryz.results109]
theorem door132_fail (B : Nat) (e x : Int) (older : List PanicEntry) (w : World) (hB : w.heap[B]? = some (.cells #[.int .i64 x] 38 (0, 0))) :
    CallsD Tryz.prog 132 #[.pointer (some ⟨B, 0, none⟩)] (.panicking ({ v := failV e, recovered := false } :: older)) w fun en u' w' =>
      en = .returned (.tuple #[]) ∧ u' = .panicking ({ v := failV e, recovered := true } :: older) ∧ w' = (w.alloc (.cells #[.int .i64 e] 183)).setCell ⟨B, 0, none⟩ (.int .i64 e) := by
  refine callsD_of_wpS Tryz.func132 rfl fun c₀ cs hu => ?_
  apply wpS_region
  simp [wpOpsS, go_sem, recoverD, hu, Tryz.ntmps132, Exit.thenS, failV]
  refine (caught_fail B e x w hB).mono ?_
  rintro e1 w1 ⟨rfl, rfl⟩
  simp [bodyPostS, results, Tryz.results132]
theorem Check_no (A : Option Addr) (c : Nat) (zs : List S92) (f1 f2 : Int) (w : World) (hr : Kd.C k92 w A zs.length zs) (h : bottleV zs f1 f2 ≠ 0) :
    Calls Tryz.prog 47 #[.agg #[.slice A zs.length c, .int .i64 f1, .int .i64 f2]] w fun en w' => en = .returned (.int .i64 (bottleV zs f1 f2)) ∧ Below w.heap.size w w' := by
  have hmf := run_makeFunc_
  obtain ⟨b1, b2, hb0, hsz⟩ := blk_two w (.cells #[.slice A zs.length c, .int .i64 f1, .int .i64 f2] 73) (.cells #[.int .i64 0] 38)
  have BE := Sd.mk b2
  have HSZ := Sd.mk hsz
  have HR := Sd.mk (Kd.C_below hr hb0)
  have HB := Sd.mk hb0
  have H0 := Sd.mk h
  clear b1 b2 hb0 hsz hr h
  go_enter_defers Tryz.func47, Tryz.ntmps47
  go_wp2_with (go_at_call 120; refine (bottle_no A c zs f1 f2 _ HR.out H0.out).mono ?_; rintro e w1 ⟨rfl, hb1⟩)
  refine leaves_cons (f := 132) (args := #[.pointer (some ⟨w.heap.size + 1, 0, none⟩)]) (by simp) (by simp [go_sem]) ?_
  refine (door132_fail _ _ 0 [] _ (blk_below BE.out hb1)).mono ?_
  rintro e u' w'' ⟨rfl, rfl, rfl⟩
  refine ⟨_, results_e rfl _ _ (w.heap.size + 1) (bottleV zs f1 f2) rfl (blk_put (blk_alloc (blk_below BE.out hb1) _) 0 _ rfl), rfl, below_set (below_alloc (below_then HB.out (by have := HSZ.out; omega) hb1) _) (by omega)⟩
end
section
open Go.RowKit Go.Shelf Go.Proofs.YtljfljekcpdpiaaGreatW.PrintWords Go.Proofs.YtljfljekcpdpiaaGreatW.PrintLast Go.Proofs.YtljfljekcpdpiaaGreatW.PrintMore
attribute [local go_sem] Oper.semAt_some
theorem askLV_bottle {zs : List S92} {f1 f2 : Int} {ts : List S27} {pr fo sp ot : Int} (h : askLV zs f1 f2 ts pr fo sp ot = 0) : bottleV zs f1 f2 = 0 := by
  revert h
  unfold askLV
  split
  · intro; assumption
  · intro h; exact absurd h (by assumption)
def strL (lo hi : Nat → Int) : Nat → List S27
  | 0 => []
  | k + 1 => strL lo hi k ++ [⟨lo k, hi k⟩]
theorem strL_len (lo hi : Nat → Int) : ∀ k, (strL lo hi k).length = k
  | 0 => rfl
  | k + 1 => by simp [strL, strL_len lo hi k]
def strT : Bool × List (List Nat × List Nat) := (true, [([], []), ([], []), ([], []), ([], []), ([2, 3], [2, 3]), ([4], [4]), ([], []), ([1, 5, 6], [1, 5, 6]), ([7], [7]), ([0, 8, 7], [0, 8]), ([9, 9, 0, 1, 2, 3, 4, 5, 6, 7, 8, 9], [9])])
def strB : List Nat := [0, 0, 0, 0, 12, 28, 0, 126, 254, 511, 1023]
theorem str_tab : rtab .any (opsOf Tryz.f37 6) = strT := by kernel_rfl
theorem str_bits : waitsOk strT.2 strB = true := by kernel_rfl
structure SrI (A : Option Addr) (c : Nat) (zs : List S92) (f1 f2 : Int) (At : Option Addr) (ct : Nat) (ts : List S27) (pr fo sp ot : Int) (w : World) (g B : Nat) (W : World) (v : Value) (l : List S27) : Prop where
  bx : W.heap[w.heap.size]? = some (.cells #[.slice A zs.length c, .int .i64 f1, .int .i64 f2] 73 (0, 0))
  bt : W.heap[w.heap.size + 1]? = some (.cells #[.slice At ts.length ct] 24 (0, 0))
  bl : W.heap[w.heap.size + 1 + 1]? = some (.cells #[.int .i64 pr, .int .i64 fo, .int .i64 sp, .int .i64 ot] 48 (0, 0))
  sl : W.heap[w.heap.size + 1 + 1 + 1]? = some (.cells #[v] 24 (0, 0))
  er : W.heap[w.heap.size + 1 + 1 + 1 + 1]? = some (.cells #[.int .i64 0] 38 (0, 0))
  rb : W.heap[g]? = some (.cells #[.slice A zs.length c, .int .i64 f1, .int .i64 f2] 73 (0, 0))
  be : Below w.heap.size w W
  ro : Kd.R k27 27 W (B + 2) (fun _ => True) v l
section
variable {A : Option Addr} {c : Nat} {zs : List S92} {f1 f2 : Int} {At : Option Addr} {ct : Nat} {ts : List S27} {pr fo sp ot : Int} {w : World} {g B : Nat} {W : World} {v : Value} {l : List S27}
theorem SrI.alloc (h : SrI A c zs f1 f2 At ct ts pr fo sp ot w g B W v l) (o : Obj) : SrI A c zs f1 f2 At ct ts pr fo sp ot w g B (W.alloc o) v l :=
  ⟨blk_alloc h.bx o, blk_alloc h.bt o, blk_alloc h.bl o, blk_alloc h.sl o, blk_alloc h.er o, blk_alloc h.rb o, below_alloc h.be o, Kd.R_alloc h.ro o⟩
theorem SrI.put (h : SrI A c zs f1 f2 At ct ts pr fo sp ot w g B W v l) (o : Obj) (h1 : w.heap.size + 5 ≤ g) (h2 : g < B) (h3 : B + 1 < W.heap.size) : SrI A c zs f1 f2 At ct ts pr fo sp ot w g B (W.putObj (B + 1) o) v l :=
  ⟨putObj_heap_keep (by omega) h.bx, putObj_heap_keep (by omega) h.bt, putObj_heap_keep (by omega) h.bl, putObj_heap_keep (by omega) h.sl, putObj_heap_keep (by omega) h.er, putObj_heap_keep (by omega) h.rb, below_putObj h.be (by omega) h3, R_put h.ro (by omega) o⟩
theorem SrI.drew (h : SrI A c zs f1 f2 At ct ts pr fo sp ot w g B W v l) : SrI A c zs f1 f2 At ct ts pr fo sp ot w g B W.drew v l :=
  ⟨h.bx, h.bt, h.bl, h.sl, h.er, h.rb, below_drew1 h.be, Kd.R_drew h.ro⟩
theorem SrI.step (h : SrI A c zs f1 f2 At ct ts pr fo sp ot w g B W v l) {W' : World} (hb : Below W.heap.size W W') : SrI A c zs f1 f2 At ct ts pr fo sp ot w g B W' v l :=
  ⟨blk_below h.bx hb, blk_below h.bt hb, blk_below h.bl hb, blk_below h.sl hb, blk_below h.er hb, blk_below h.rb hb, below_then h.be h.be.size hb, Kd.R_below h.ro hb⟩
end
structure SrS (At : Option Addr) (ct : Nat) (ts : List S27) (pr fo sp ot : Int) (w : World) (v : Value) (x : S92) (r : Nat) (W : World) : Prop where
  bt : W.heap[w.heap.size + 1]? = some (.cells #[.slice At ts.length ct] 24 (0, 0))
  bl : W.heap[w.heap.size + 1 + 1]? = some (.cells #[.int .i64 pr, .int .i64 fo, .int .i64 sp, .int .i64 ot] 48 (0, 0))
  sl : W.heap[w.heap.size + 1 + 1 + 1]? = some (.cells #[v] 24 (0, 0))
  rr : W.heap[r]? = some (.cells #[.int .i64 x.f0.f0, .int .i64 x.f0.f1, .int .i64 x.f1.f0, .int .i64 x.f1.f1, .int .i64 x.f2.f0, .int .i64 x.f2.f1, .int .i64 x.f3.f0, .int .i64 x.f3.f1, .int .i64 x.f4.f0, .int .i64 x.f4.f1] 92 (0, 0))
  be : Below w.heap.size w W
section
variable {At : Option Addr} {ct : Nat} {ts : List S27} {pr fo sp ot : Int} {w : World} {v : Value} {x : S92} {r : Nat} {W : World}
theorem SrS.alloc (h : SrS At ct ts pr fo sp ot w v x r W) (o : Obj) : SrS At ct ts pr fo sp ot w v x r (W.alloc o) :=
  ⟨blk_alloc h.bt o, blk_alloc h.bl o, blk_alloc h.sl o, blk_alloc h.rr o, below_alloc h.be o⟩
theorem SrS.step (h : SrS At ct ts pr fo sp ot w v x r W) {W' : World} (hb : Below W.heap.size W W') : SrS At ct ts pr fo sp ot w v x r W' :=
  ⟨blk_below h.bt hb, blk_below h.bl hb, blk_below h.sl hb, blk_below h.rr hb, below_then h.be h.be.size hb⟩
theorem SrS.grown (h : SrS At ct ts pr fo sp ot w v x r W) {W' : World} {B : Nat} {ok : Nat → Prop} {l : List S27} (hr : Kd.R k27 27 W B ok v l) (hg : W.grownBy W' v.ownBlock) (hb : Below w.heap.size w W') : SrS At ct ts pr fo sp ot w v x r W' :=
  ⟨blk_grown h.bt hg (Kd.R_ne hr h.bt (by decide)), blk_grown h.bl hg (Kd.R_ne hr h.bl (by decide)), blk_grown h.sl hg (Kd.R_ne hr h.sl (by decide)), blk_grown h.rr hg (Kd.R_ne hr h.rr (by decide)), hb⟩
end
theorem Stress_ok (A : Option Addr) (c : Nat) (zs : List S92) (f1 f2 : Int) (At : Option Addr) (ct : Nat) (ts : List S27) (pr fo sp ot : Int) (lo hi : Nat → Int) (w : World) (hr : Kd.C k92 w A zs.length zs) (ht : Kd.C k27 w At ts.length ts) (h : askLV zs f1 f2 ts pr fo sp ot = 0)
    (hst : ∀ k : Nat, k < zs.length → ∀ W, Calls Tryz.prog 112 #[ringV (rd_T92 zs (k : Int)), spanV (rd_T27 ts (k : Int)), loadVv pr fo sp ot] W fun e w' => e = .returned (.agg #[.int .i64 (lo k), .int .i64 (hi k)]) ∧ Below W.heap.size W w') :
    Calls Tryz.prog 37 #[.agg #[.slice A zs.length c, .int .i64 f1, .int .i64 f2], .slice At ts.length ct, .agg #[.int .i64 pr, .int .i64 fo, .int .i64 sp, .int .i64 ot]] w fun e w' => ∃ v, e = .returned (.tuple #[v, .int .i64 0]) ∧ Kd.R k27 27 w' w.heap.size (fun _ => True) v (strL lo hi zs.length) ∧ Below w.heap.size w w' := by
  have hmf := run_makeFunc_
  obtain ⟨b1, b2, b3, b4, hb0, hsz⟩ := blk_four w (.cells #[.slice A zs.length c, .int .i64 f1, .int .i64 f2] 73) (.cells #[.slice At ts.length ct] 24) (.cells #[.int .i64 pr, .int .i64 fo, .int .i64 sp, .int .i64 ot] 48) (.cells #[.slice none 0 0] 24)
  have BX := Sd.mk (blk_alloc b1 (.cells #[.int .i64 0] 38))
  have BT := Sd.mk (blk_alloc b2 (.cells #[.int .i64 0] 38))
  have BL := Sd.mk (blk_alloc b3 (.cells #[.int .i64 0] 38))
  have BS := Sd.mk (blk_alloc b4 (.cells #[.int .i64 0] 38))
  have BE := Sd.mk (show _ = _ from hsz ▸ blk_new ((((w.alloc (.cells #[.slice A zs.length c, .int .i64 f1, .int .i64 f2] 73)).alloc (.cells #[.slice At ts.length ct] 24)).alloc (.cells #[.int .i64 pr, .int .i64 fo, .int .i64 sp, .int .i64 ot] 48)).alloc (.cells #[.slice none 0 0] 24)) (.cells #[.int .i64 0] 38))
  have HB := Sd.mk (below_alloc hb0 (.cells #[.int .i64 0] 38))
  have HSZ := Sd.mk hsz
  have HR := Sd.mk hr
  have HTS := Sd.mk ht
  have HA := Sd.mk h
  have HLEN := Sd.mk (askLV_len h)
  have HST := Sd.mk hst
  have HN := Sd.mk (bottle_len (askLV_bottle h))
  clear b1 b2 b3 b4 hb0 hsz hr ht h hst
  refine (callsIn_wide (n := 9)).1 (callsIn_of_wp_marks Tryz.func37 rfl trivial ?_ rfl)
  simp only [Tryz.ntmps37, List.size_toArray, List.length_cons, List.length_nil, Nat.reduceAdd, Nat.reduceSub, Array.replicate_succ, Array.replicate_zero, List.push_toArray, List.append_toArray, List.nil_append, List.cons_append]
  gi_wp2_with (first | (refine ⟨trivial, ?_⟩; gi_at_call 110; refine (callsIn_wide.2 (askL_ok A c zs f1 f2 At ct ts pr fo sp ot _ (Kd.C_below HR.out HB.out) (Kd.C_below HTS.out HB.out) HA.out)).mono ?_; rintro e w1 ⟨rfl, hw1⟩; have HB1 := Sd.mk (below_then HB.out HB.out.size hw1); have HS1 := Sd.mk (show w.heap.size + 5 ≤ w1.heap.size from Nat.le_trans (by have := HSZ.out; simp only [World.size_alloc]; omega) hw1.size); have BX1 := Sd.mk (blk_below BX.out hw1); have BT1 := Sd.mk (blk_below BT.out hw1); have BL1 := Sd.mk (blk_below BL.out hw1); have BS1 := Sd.mk (blk_below BS.out hw1); have BE1 := Sd.mk (blk_below BE.out hw1); clear hw1; have hx0 : w1.cell? ⟨w.heap.size, 0, none⟩ = some (.slice A zs.length c) := (blk_cell BX1.out 0).trans rfl; have hx1 : w1.cell? ⟨w.heap.size, 0 + 1, none⟩ = some (.int .i64 f1) := (blk_cell BX1.out 1).trans rfl; have hx2 : w1.cell? ⟨w.heap.size, 0 + 2, none⟩ = some (.int .i64 f2) := (blk_cell BX1.out 2).trans rfl) | (refine ⟨trivial, ?_⟩; gi_at_call 111; (with_reducible refine (callsIn_wide.2 (rings_b _ _ _ _)).mono ?_); rintro e w3 ⟨g, rfl, hg, hbk, hw3⟩; have I0 : Sd (SrI A c zs f1 f2 At ct ts pr fo sp ot w g w3.heap.size w3 (.slice none 0 0) []) := ⟨⟨blk_below BX1.out hw3, blk_below BT1.out hw3, blk_below BL1.out hw3, blk_below BS1.out hw3, blk_below BE1.out hw3, hbk, below_then HB1.out HB1.out.size hw3, Kd.R_nil _ _ _ _ _⟩⟩; have HG := Sd.mk (show w.heap.size + 5 ≤ g from Nat.le_trans HS1.out hg); have HG3 := Sd.mk (show g < w3.heap.size from blk_lt hbk); clear hbk hw3 hg))
  clear hx0 hx1 hx2 BX BT BL BS BE HB BX1 BT1 BL1 BS1 BE1 HB1 HS1
  refine wpIn_rangeFuncP (N := zs.length) (encs := fun k => #[.int .i64 (k : Int), ringV (rd_T92 zs k)]) rfl (by omega) (gf := 187) (lb := #[.pointer (some ⟨g, 0, none⟩)]) rfl trivial (enters_of Tryz.func187 (by kernel_rfl) rfl) (fun _ => rfl)
    (fun k W => ∃ v, SrI A c zs f1 f2 At ct ts pr fo sp ot w g w3.heap.size W v (strL lo hi k)) (fun _ _ => False) (fun k W o ⟨v, h⟩ => ⟨v, h.alloc o⟩) (fun k W o r hl ⟨v, h⟩ => ⟨v, h.put o HG.out HG3.out (Array.getElem?_eq_some_iff.1 hl).1⟩) ⟨_, I0.out⟩ ?seq ?round ?fn ?done ?panic
  case seq =>
    intro l1 J Jp W hJa hJI hY h0
    obtain ⟨v, hi0⟩ := hJI _ _ h0
    exact rings1_in Fence.wide (9 - 1) trivial rfl (by omega) l1 g A c _ _ zs J Jp W hi0.rb hJa (fun k W' h => by obtain ⟨v, h⟩ := hJI _ _ h; exact Kd.C_below HR.out h.be) hY h0
  case round =>
    clear I0
    intro l k W hW _ hk hI st hst
    obtain ⟨v, hI⟩ := hI
    have HI1 := Sd.mk hI
    have HW := Sd.mk hW
    have HK := Sd.mk hk
    have HSK := Sd.mk (HST.out k hk)
    obtain ⟨ad, eAt, hw0, hw1⟩ := at_T27 HTS.out (k : Int) (by omega) (by have := HLEN.out; omega)
    cases eAt
    simp only [Int.toNat_natCast] at hw0 hw1
    have HW0 := Sd.mk hw0
    have HW1 := Sd.mk hw1
    clear hI hW hk hw0 hw1
    generalize hx : rd_T92 zs (k : Int) = x at HSK ⊢
    generalize hy : rd_T27 ts (k : Int) = y at HSK HW0 HW1
    clear hx hy
    unfold ringV
    unfold ringV spanV loadVv at HSK
    simp only [List.zip_cons_cons, List.zip_nil_right, List.foldl_cons, List.foldl_nil]
    gi_wp2
    refine hst _ _ (by simp) (fun j h1 h2 => Below.heap_alloc W _ j (by have := HW.out; omega)) ?_
    clear hst
    intro o
    have CK : Sd (SrI A c zs f1 f2 (some ad) ct ts pr fo sp ot w g w3.heap.size ((W.alloc (.cells #[.int .i64 x.f0.f0, .int .i64 x.f0.f1, .int .i64 x.f1.f0, .int .i64 x.f1.f1, .int .i64 x.f2.f0, .int .i64 x.f2.f1, .int .i64 x.f3.f0, .int .i64 x.f3.f1, .int .i64 x.f4.f0, .int .i64 x.f4.f1] 92)).putObj (w3.heap.size + 1) o) v (strL lo hi k)) := ⟨(HI1.out.alloc _).put o HG.out HG3.out (by have := HW.out; simp; omega)⟩
    have RB : Sd (((W.alloc (.cells #[.int .i64 x.f0.f0, .int .i64 x.f0.f1, .int .i64 x.f1.f0, .int .i64 x.f1.f1, .int .i64 x.f2.f0, .int .i64 x.f2.f1, .int .i64 x.f3.f0, .int .i64 x.f3.f1, .int .i64 x.f4.f0, .int .i64 x.f4.f1] 92)).putObj (w3.heap.size + 1) o).heap[W.heap.size]? = some (.cells #[.int .i64 x.f0.f0, .int .i64 x.f0.f1, .int .i64 x.f1.f0, .int .i64 x.f1.f1, .int .i64 x.f2.f0, .int .i64 x.f2.f1, .int .i64 x.f3.f0, .int .i64 x.f3.f1, .int .i64 x.f4.f0, .int .i64 x.f4.f1] 92 (0, 0))) := ⟨putObj_heap_keep (by have := HW.out; omega) (blk_new _ _)⟩
    have WS : Sd (((W.alloc (.cells #[.int .i64 x.f0.f0, .int .i64 x.f0.f1, .int .i64 x.f1.f0, .int .i64 x.f1.f1, .int .i64 x.f2.f0, .int .i64 x.f2.f1, .int .i64 x.f3.f0, .int .i64 x.f3.f1, .int .i64 x.f4.f0, .int .i64 x.f4.f1] 92)).putObj (w3.heap.size + 1) o).heap.size = W.heap.size + 1) := ⟨by simp⟩
    generalize ((W.alloc (.cells #[.int .i64 x.f0.f0, .int .i64 x.f0.f1, .int .i64 x.f1.f0, .int .i64 x.f1.f1, .int .i64 x.f2.f0, .int .i64 x.f2.f1, .int .i64 x.f3.f0, .int .i64 x.f3.f1, .int .i64 x.f4.f0, .int .i64 x.f4.f1] 92)).putObj (w3.heap.size + 1) o) = Wb at CK RB WS ⊢
    have hmx : Tryz.prog.follows .mixedOrders = true := by kernel_rfl
    have hk1 : (k : Int) < (ts.length : Int) := by have := HK.out; have := HLEN.out; omega
    gi_wp2
    refine start_In (n := 11) (S := SrS (some ad) ct ts pr fo sp ot w v x W.heap.size) (ds := [10]) #[false, false, false, false, false, false, false, false, false, false, false] hmx (by kernel_rfl) (fun ⟨_, _, h⟩ => h) rfl rfl ⟨CK.out.bt, CK.out.bl, CK.out.sl, RB.out, below_drew1 CK.out.be⟩ (fun hHeld => ?_)
    refine with_tabW str_tab str_bits (fun HT_ HW_ => ?_)
    have CKd := Sd.mk CK.out.drew
    have HS2 : Sd (w3.heap.size + 2 ≤ Wb.drew.heap.size) := ⟨by have := HW.out; have := WS.out; show w3.heap.size + 2 ≤ Wb.heap.size; omega⟩
    have BD : Sd (Below (w3.heap.size + 2) Wb Wb.drew) := ⟨below_drew (Below.refl _ _)⟩
    have fin : ∀ (a' : Act) (w5 : World) (v1 : Value), Kd.R k27 27 w5 (w3.heap.size + 2) (fun _ => True) v1 (strL lo hi k ++ [⟨lo k, hi k⟩]) → Below (w3.heap.size + 2) Wb.drew w5 → bodyPostP w3.heap.size (fun k W => ∃ v, SrI A c zs f1 f2 (some ad) ct ts pr fo sp ot w g w3.heap.size W v (strL lo hi k)) (fun _ _ => False) (k + 1) Wb .normal a' (w5.setCell ⟨w.heap.size + 1 + 1 + 1, 0, none⟩ v1) := by
      intro a' w5 v1 hr5 hb5'
      have hb5 : Below (w3.heap.size + 2) Wb w5 := BD.out.trans hb5'
      have hg1 := HG.out
      have hg2 := HG3.out
      refine ⟨by simpa using hb5.size, fun j h1 h2 => (Below.heap_setCell _ _ _ j (by simp; omega)).trans (hb5.block j (by omega)), v1, ?_⟩
      exact ⟨blk_far (Below5 hb5 CK.out.bx (by omega)) (p := ⟨w.heap.size + 1 + 1 + 1, 0, none⟩) (by simp; omega) _, blk_far (Below5 hb5 CK.out.bt (by omega)) (p := ⟨w.heap.size + 1 + 1 + 1, 0, none⟩) (by simp) _, blk_far (Below5 hb5 CK.out.bl (by omega)) (p := ⟨w.heap.size + 1 + 1 + 1, 0, none⟩) (by simp) _, blk_put (Below5 hb5 CK.out.sl (by omega)) 0 _ rfl, blk_far (Below5 hb5 CK.out.er (by omega)) (p := ⟨w.heap.size + 1 + 1 + 1, 0, none⟩) (by simp) _, blk_far (Below5 hb5 CK.out.rb (by omega)) (p := ⟨w.heap.size + 1 + 1 + 1, 0, none⟩) (by simp; omega) _, below_set (CK.out.be.trans (hb5.mono (by omega))) (by omega), Kd.R_set hr5 (Below5 hb5 CK.out.sl (by omega)) (by simp [k27_E]) 0 _⟩
    clear CK RB
    have FIN := Sd.mk fin
    clear fin
    generalize Wb.drew = Wd at CKd HS2 BD FIN hHeld ⊢
    refine take_ (i := 0) (N := some 19) (v := ?_) (a' := ?_) #[true, false, false, false, false, false, false, false, false, false, false] rfl rfl (take_ofW HT_.out HW_.out (by kernel_rfl)) (fun _ _ _ h => h) (Or.inl ⟨by rfl, ?_⟩) hHeld ?_ ?_
    rotate_left
    · rintro w' hI
      have s0 : w'.cell? ⟨w.heap.size + 1 + 1 + 1, 0, none⟩ = some (v) := (blk_cell hI.sl 0).trans rfl
      go_simp
      with_reducible rfl
    rotate_left
    · simp only [Act.put, List.setIfInBounds_toArray, List.set_cons_zero, List.set_cons_succ, i64_w, i32_w]
      rfl
    refine take_ (i := 1) (N := some 20) (v := ?_) (a' := ?_) #[true, true, false, false, false, false, false, false, false, false, false] rfl rfl (take_ofW HT_.out HW_.out (by kernel_rfl)) (fun _ _ _ h => h) (Or.inl ⟨by rfl, ?_⟩) hHeld ?_ ?_
    rotate_left
    · rintro w' hI
      have s0 : w'.cell? ⟨W.heap.size, 0, none⟩ = some (.int .i64 x.f0.f0) := (blk_cell hI.rr 0).trans rfl
      have s1 : w'.cell? ⟨W.heap.size, 0 + 1, none⟩ = some (.int .i64 x.f0.f1) := (blk_cell hI.rr 1).trans rfl
      have s2 : w'.cell? ⟨W.heap.size, 0 + 2, none⟩ = some (.int .i64 x.f1.f0) := (blk_cell hI.rr 2).trans rfl
      have s3 : w'.cell? ⟨W.heap.size, 0 + 3, none⟩ = some (.int .i64 x.f1.f1) := (blk_cell hI.rr 3).trans rfl
      have s4 : w'.cell? ⟨W.heap.size, 0 + 4, none⟩ = some (.int .i64 x.f2.f0) := (blk_cell hI.rr 4).trans rfl
      have s5 : w'.cell? ⟨W.heap.size, 0 + 5, none⟩ = some (.int .i64 x.f2.f1) := (blk_cell hI.rr 5).trans rfl
      have s6 : w'.cell? ⟨W.heap.size, 0 + 6, none⟩ = some (.int .i64 x.f3.f0) := (blk_cell hI.rr 6).trans rfl
      have s7 : w'.cell? ⟨W.heap.size, 0 + 7, none⟩ = some (.int .i64 x.f3.f1) := (blk_cell hI.rr 7).trans rfl
      have s8 : w'.cell? ⟨W.heap.size, 0 + 8, none⟩ = some (.int .i64 x.f4.f0) := (blk_cell hI.rr 8).trans rfl
      have s9 : w'.cell? ⟨W.heap.size, 0 + 9, none⟩ = some (.int .i64 x.f4.f1) := (blk_cell hI.rr 9).trans rfl
      go_simp
      with_reducible rfl
    rotate_left
    · simp only [Act.put, List.setIfInBounds_toArray, List.set_cons_zero, List.set_cons_succ, i64_w, i32_w]
      rfl
    refine take_ (i := 2) (N := some 21) (v := ?_) (a' := ?_) #[true, true, true, false, false, false, false, false, false, false, false] rfl rfl (take_ofW HT_.out HW_.out (by kernel_rfl)) (fun _ _ _ h => h) (Or.inl ⟨by rfl, ?_⟩) hHeld ?_ ?_
    rotate_left
    · rintro w' hI
      have s0 : w'.cell? ⟨w.heap.size + 1, 0, none⟩ = some (.slice (some ad) ts.length ct) := (blk_cell hI.bt 0).trans rfl
      go_simp
      with_reducible rfl
    rotate_left
    · simp only [Act.put, List.setIfInBounds_toArray, List.set_cons_zero, List.set_cons_succ, i64_w, i32_w]
      rfl
    refine pure_ (i := 3) (N := some 22) (v := ?_) (a' := ?_) #[true, true, true, true, false, false, false, false, false, false, false] rfl rfl (any_of HT_.out (by kernel_rfl)) (fun _ _ _ h => h) (Or.inl ⟨by rfl, ?_⟩) ?_ ?_
    rotate_left
    · intro w'
      go_simp
      with_reducible rfl
    rotate_left
    · simp only [Act.put, List.setIfInBounds_toArray, List.set_cons_zero, List.set_cons_succ, i64_w, i32_w]
      rfl
    refine pure_ (i := 4) (N := some 23) (v := ?_) (a' := ?_) #[true, true, true, true, true, false, false, false, false, false, false] rfl rfl (any_of HT_.out (by kernel_rfl)) (fun _ _ _ h => h) (Or.inl ⟨by rfl, ?_⟩) ?_ ?_
    rotate_left
    · intro w'
      go_simp
      with_reducible rfl
    rotate_left
    · simp only [Act.put, List.setIfInBounds_toArray, List.set_cons_zero, List.set_cons_succ, i64_w, i32_w]
      rfl
    refine take_ (i := 5) (N := some 24) (v := ?_) (a' := ?_) #[true, true, true, true, true, true, false, false, false, false, false] rfl rfl (take_ofW HT_.out HW_.out (by kernel_rfl)) (fun _ _ _ h => h) (Or.inl ⟨by rfl, ?_⟩) hHeld ?_ ?_
    rotate_left
    · rintro w' hI
      have s0 : w'.cell? (ad.add (k * 2)) = some (.int .i64 y.f0) := (hI.be.cell (World.block_lt_of_cell? w _ HW0.out)).trans HW0.out
      have s1 : w'.cell? ⟨(ad.add (k * 2)).block, (ad.add (k * 2)).off + 1, none⟩ = some (.int .i64 y.f1) := (hI.be.cell (World.block_lt_of_cell? w _ HW1.out)).trans HW1.out
      go_simp
      with_reducible rfl
    rotate_left
    · simp only [Act.put, List.setIfInBounds_toArray, List.set_cons_zero, List.set_cons_succ, i64_w, i32_w]
      rfl
    refine take_ (i := 6) (N := some 25) (v := ?_) (a' := ?_) #[true, true, true, true, true, true, true, false, false, false, false] rfl rfl (take_ofW HT_.out HW_.out (by kernel_rfl)) (fun _ _ _ h => h) (Or.inl ⟨by rfl, ?_⟩) hHeld ?_ ?_
    rotate_left
    · rintro w' hI
      have s0 : w'.cell? ⟨w.heap.size + 1 + 1, 0, none⟩ = some (.int .i64 pr) := (blk_cell hI.bl 0).trans rfl
      have s1 : w'.cell? ⟨w.heap.size + 1 + 1, 0 + 1, none⟩ = some (.int .i64 fo) := (blk_cell hI.bl 1).trans rfl
      have s2 : w'.cell? ⟨w.heap.size + 1 + 1, 0 + 2, none⟩ = some (.int .i64 sp) := (blk_cell hI.bl 2).trans rfl
      have s3 : w'.cell? ⟨w.heap.size + 1 + 1, 0 + 3, none⟩ = some (.int .i64 ot) := (blk_cell hI.bl 3).trans rfl
      go_simp
      with_reducible rfl
    rotate_left
    · simp only [Act.put, List.setIfInBounds_toArray, List.set_cons_zero, List.set_cons_succ, i64_w, i32_w]
      rfl
    refine one_ (i := 7) (N := some 26) #[true, true, true, true, true, true, true, true, false, false, false] rfl rfl (one_of HT_.out (by kernel_rfl)) (by decide) (fun K hK => ?_)
    refine goes_ Tryz.func112 (by kernel_rfl) rfl #[.agg #[.int .i64 x.f0.f0, .int .i64 x.f0.f1, .int .i64 x.f1.f0, .int .i64 x.f1.f1, .int .i64 x.f2.f0, .int .i64 x.f2.f1, .int .i64 x.f3.f0, .int .i64 x.f3.f1, .int .i64 x.f4.f0, .int .i64 x.f4.f1], .agg #[.int .i64 y.f0, .int .i64 y.f1], .agg #[.int .i64 pr, .int .i64 fo, .int .i64 sp, .int .i64 ot]] (by (try simp only [Array.map_toArray, List.map_toArray, List.map_cons, List.map_nil]); rfl) rfl rfl (by (try simp only [List.map_toArray, List.map_cons, List.map_nil]); first | done | rfl) ?_
    refine (HSK.out Wd).mono ?_
    rintro e w4 ⟨rfl, hb⟩
    refine ⟨_, rfl, ?_⟩
    have I4 := Sd.mk (CKd.out.step hb)
    have S4 := Sd.mk (hHeld.step hb)
    have BD4 := Sd.mk (show Below (w3.heap.size + 2) Wd w4 from hb.mono HS2.out)
    have SZ4 := Sd.mk (show w3.heap.size + 2 ≤ w4.heap.size from Nat.le_trans HS2.out hb.size)
    clear hb hHeld
    refine hK.out _ _ S4.out (fun hHeld => ?_)
    clear hK K
    refine norm_ (a' := ?_) ?_ ?_
    rotate_left
    · show Act.put _ (some 26) _ = _
      simp only [Act.put, List.setIfInBounds_toArray, List.set_cons_zero, List.set_cons_succ, i64_w, i32_w]
      rfl
    refine one_ (i := 8) (N := some 27) #[true, true, true, true, true, true, true, true, true, false, false] rfl rfl (one_of HT_.out (by kernel_rfl)) (by decide) (fun K hK => ?_)
    refine value_ (w1 := ?_) (v := ?_) (by rfl) rfl ?_ ?_
    rotate_left 2
    · go_simp
      constructor
      · rfl
      · rfl
    refine hK.out _ _ (S4.out.alloc _) (fun hHeld => ?_)
    clear hK K
    refine norm_ (a' := ?_) ?_ ?_
    rotate_left
    · show Act.put _ (some 27) _ = _
      simp only [Act.put, List.setIfInBounds_toArray, List.set_cons_zero, List.set_cons_succ, i64_w, i32_w]
      rfl
    refine one_ (i := 9) (N := some 28) #[true, true, true, true, true, true, true, true, true, true, false] rfl rfl (one_of HT_.out (by kernel_rfl)) (by decide) (fun K hK => ?_)
    refine Kd.R_append_step k27 (w0 := Wd) (W := w4) (w3.heap.size + 2) (by rfl) (.tmp 19) (.tmp 27) 24 27 (.agg #[.int .i64 0, .int .i64 0]) 16 rfl Tryz.underlying24 info27 rfl (by decide) (by omega) v (strL lo hi k) ⟨lo k, hi k⟩ [.int .i64 (lo k), .int .i64 (hi k)] (fun _ => True) (fun _ => False) rfl rfl (k27_mkM _ _ _ _) (fun _ hk => hk.elim) (fun _ _ => trivial) I4.out.ro BD4.out SZ4.out (by rw [strL_len]; have := HN.out; have := HK.out; omega) ?_
    intro v1 w5 ho hb hg _
    have S5 := Sd.mk (S4.out.grown I4.out.ro hg (CKd.out.be.trans (hb.mono (by have := HG.out; have := HG3.out; omega))))
    have HO := Sd.mk ho
    have HB5 := Sd.mk hb
    clear ho hb hg
    refine hK.out _ _ S5.out (fun hHeld => ?_)
    clear hK K
    refine norm_ (a' := ?_) ?_ ?_
    rotate_left
    · show Act.put _ (some 28) _ = _
      simp only [Act.put, List.setIfInBounds_toArray, List.set_cons_zero, List.set_cons_succ, i64_w, i32_w]
      rfl
    refine last_ (i := 10) (N := none) #[true, true, true, true, true, true, true, true, true, true, true] rfl rfl (one_of HT_.out (by kernel_rfl)) (by decide) (fun K hK => ?_)
    have hv0 : w5.cell? ⟨w.heap.size + 1 + 1 + 1, 0, none⟩ = some v := (blk_cell S5.out.sl 0).trans rfl
    have hv1 := blk_frozen S5.out.sl 0
    obtain ⟨As, cs5, rfl⟩ := Kd.R_slice HO.out
    go_simp
    refine hK.out _ _ ?_
    clear hK K
    refine done_ (done_of HT_.out (by kernel_rfl)) ?_
    refine FIN.out { tmps := #[], defers := [] } _ _ ?_ HB5.out
    have ho := HO.out
    rw [List.length_append] at ho
    exact ho
  case fn => intro ⟨_, _, h⟩; exact h.elim
  case panic => intro _ _ h; exact h.elim
  case done =>
    intro W hI hD
    obtain ⟨v, hI⟩ := hI
    have HI2 := Sd.mk hI
    have HD := Sd.mk hD
    obtain ⟨As, cs5, rfl⟩ := Kd.R_slice hI.ro
    rw [strL_len] at *
    have gv : W.cell? ⟨w.heap.size + 1 + 1 + 1, 0, none⟩ = some (.slice As zs.length cs5) := (blk_cell hI.sl 0).trans rfl
    have gv' := blk_frozen hI.sl 0
    have ge : (W.setCell ⟨w.heap.size + 1 + 1 + 1, 0, none⟩ (.slice As zs.length cs5)).cell? ⟨w.heap.size + 1 + 1 + 1 + 1, 0, none⟩ = some (.int .i64 0) := (blk_cell (blk_far hI.er (p := ⟨w.heap.size + 1 + 1 + 1, 0, none⟩) (by simp) _) 0).trans rfl
    have ge' := blk_frozen (blk_far hI.er (p := ⟨w.heap.size + 1 + 1 + 1, 0, none⟩) (by simp) (.slice As zs.length cs5)) 0
    clear hI hD I0
    gi_wp2
    have hg1 := HG.out
    have hg2 := HG3.out
    have hi2 := HI2.out
    refine ⟨by simp, .inl ⟨_, _, rfl, run_takeDeferred ((Below.heap_setCell _ _ _ _ (by simp; omega)).trans ((Below.heap_setCell _ _ _ _ (by simp; omega)).trans HD.out)), ?_⟩⟩
    refine leavesInM_fn (f := 109) (args := #[.pointer (some ⟨w.heap.size + 1 + 1 + 1 + 1, 0, none⟩)]) (by simp) (by simp [go_sem]) ?_
    refine (door109I_ok _ _ _).mono ?_
    rintro e u' w'' ⟨rfl, rfl, rfl⟩
    have hlt : w3.heap.size < W.heap.size := (Array.getElem?_eq_some_iff.1 HD.out).1
    refine ⟨_, results_ce rfl _ _ (w.heap.size + 1 + 1 + 1) (w.heap.size + 1 + 1 + 1 + 1) _ _ rfl (run_var24 _ _ _ (putObj_heap_keep (by omega) (blk_far (blk_put hi2.sl 0 _ rfl) (p := ⟨w.heap.size + 1 + 1 + 1 + 1, 0, none⟩) (by simp) _))) rfl (putObj_heap_keep (by omega) (blk_put (blk_far hi2.er (p := ⟨w.heap.size + 1 + 1 + 1, 0, none⟩) (by simp) _) 0 _ rfl)), _, rfl, ?_, below_putObj (below_set (below_set hi2.be (by omega)) (by omega)) (by omega) (by simpa using hlt)⟩
    exact Kd.R_lower (R_put (Kd.R_set (Kd.R_set hi2.ro hi2.sl (by simp [k27_E]) 0 _) (blk_far hi2.er (p := ⟨w.heap.size + 1 + 1 + 1, 0, none⟩) (by simp) _) (by simp [k27_E]) 0 _) (by omega) _) (by omega)
end
section
open Go.RowKit Go.Shelf Go.Proofs.YtljfljekcpdpiaaGreatW.PrintWords Go.Proofs.YtljfljekcpdpiaaGreatW.PrintLast Go.Proofs.YtljfljekcpdpiaaGreatW.PrintMore
attribute [local go_sem] Oper.semAt_some
theorem goesU_ {P : Program} {ops : Array Oper} {Q : Exit → Act → World → Prop} {oi : Oper} {N : Option Tmp} {a : Act} {w : World} {K : Act → World → Prop} (f : FuncId) (lb : Array Value) (eg : ∀ args w, (callFunc f args).run P w = .ok (.enter f args) w)
    {t : Tmp} {as_ : Array Operand} {ts : Array TypeId} (args : Array Value) (hw : Region.wanted oi (yielded ops a.tmps) = true) (hN : oi.dst = N) (hop : oi.op = .call { callee := .value (.tmp t), args := as_, argTypes := ts })
    (ht : a.eval (.tmp t) = .func (.func f) #[] lb) (hargs : as_.map a.eval = args) (h : Calls P f (args ++ lb) w fun e w' => ∃ v, e = .returned v ∧ K (a.put N v) w') : if Region.wanted oi (yielded ops a.tmps) = true then Oper.wp P oi a w K Q else K (a.put N undef) w := by
  refine call_ f (args ++ lb) hw hN ?_ h
  have he := eg (args ++ lb) w
  have ht' : a.tmps.getD t undef = .func (.func f) #[] lb := ht
  unfold execOp
  simp [hop, resolve, Deferred.ofValue, invoke, Act.eval, ht', ht, hargs, he]
theorem with_calls (p pr fo sp ot : Int) (L : Nat) (w : World) (hL : w.heap[L]? = some (.cells #[.int .i64 pr, .int .i64 fo, .int .i64 sp, .int .i64 ot] 48 (0, 0))) :
    Calls Tryz.prog 114 #[.int .i64 p, .pointer (some ⟨L, 0, none⟩)] w fun e w' => e = .returned (.agg #[.int .i64 p, .int .i64 fo, .int .i64 sp, .int .i64 ot]) ∧ Below w.heap.size w w' := by
  have h0 : (w.alloc (.cells #[.int .i64 0, .int .i64 0, .int .i64 0, .int .i64 0] 48)).heap[L]? = some (.cells #[.int .i64 pr, .int .i64 fo, .int .i64 sp, .int .i64 ot] 48 (0, 0)) := blk_alloc hL _
  have s0 : (w.alloc (.cells #[.int .i64 0, .int .i64 0, .int .i64 0, .int .i64 0] 48)).cell? ⟨L, 0, none⟩ = some (.int .i64 pr) := (blk_cell h0 0).trans rfl
  have s1 : (w.alloc (.cells #[.int .i64 0, .int .i64 0, .int .i64 0, .int .i64 0] 48)).cell? ⟨L, 0 + 1, none⟩ = some (.int .i64 fo) := (blk_cell h0 1).trans rfl
  have s2 : (w.alloc (.cells #[.int .i64 0, .int .i64 0, .int .i64 0, .int .i64 0] 48)).cell? ⟨L, 0 + 2, none⟩ = some (.int .i64 sp) := (blk_cell h0 2).trans rfl
  have s3 : (w.alloc (.cells #[.int .i64 0, .int .i64 0, .int .i64 0, .int .i64 0] 48)).cell? ⟨L, 0 + 3, none⟩ = some (.int .i64 ot) := (blk_cell h0 3).trans rfl
  clear h0 hL
  go_enter Tryz.func114, Tryz.ntmps114
  go_wp2
  refine bodyPost_ret (results_cell_row rfl _ _ w.heap.size 48 #[.int .i64 p, .int .i64 fo, .int .i64 sp, .int .i64 ot] (0, 0) _ rfl (blk_alloc (blk_new w _) _) Tryz.underlying48 rfl (by kernel_rfl)) rfl ?_
  exact ⟨rfl, below_alloc (below_alloc (Below.refl _ _) _) _⟩
def buT : Bool × List (List Nat × List Nat) := (true, [([], []), ([], []), ([], []), ([], []), ([2, 3], [2, 3]), ([0, 1, 4, 4], [0, 1, 4]), ([5], [5]), ([6], [6]), ([6], [6]), ([7, 5, 0, 1, 2, 3, 4, 5, 6, 7], [7]), ([8, 9, 0, 1, 2, 3, 4, 5, 6, 7, 8, 9], [8])])
def buB : List Nat := [0, 0, 0, 0, 12, 31, 63, 127, 127, 255, 1023]
theorem bu_tab116 : rtab .any (opsOf Tryz.f116 1) = buT := by kernel_rfl
theorem bu_tab118 : rtab .any (opsOf Tryz.f118 1) = buT := by kernel_rfl
theorem bu_n : wrap64 (wrap64 (10000 - 0) + 1) = ((10001 : Nat) : Int) := by
  rw [wsmall (x := 10000 - 0) (by omega) (by omega), wsmall (by omega) (by omega)]; omega
theorem bu_bits : waitsOk buT.2 buB = true := by kernel_rfl
theorem burst3_calls (A : Option Addr) (c : Nat) (zs : List S92) (f1 f2 : Int) (At : Option Addr) (ct : Nat) (ts : List S27) (pr fo sp ot p : Int) (b6 b7 : Bool) (X Y L D : Nat) (w : World) (hX : w.heap[X]? = some (.cells #[.slice A zs.length c, .int .i64 f1, .int .i64 f2] 73 (0, 0))) (hY : w.heap[Y]? = some (.cells #[.slice At ts.length ct] 24 (0, 0))) (hL : w.heap[L]? = some (.cells #[.int .i64 pr, .int .i64 fo, .int .i64 sp, .int .i64 ot] 48 (0, 0))) (hD : w.heap[D]? = some (.cells #[.func (.func 114) #[] #[.pointer (some ⟨L, 0, none⟩)]] 153 (0, 0)))
    (hh : ∀ W, Below w.heap.size w W → Calls Tryz.prog 117 #[.agg #[.slice A zs.length c, .int .i64 f1, .int .i64 f2], .slice At ts.length ct, .agg #[.int .i64 p, .int .i64 fo, .int .i64 sp, .int .i64 ot]] W fun e w' => e = .returned (.tuple #[.bool b6, .bool b7]) ∧ Below W.heap.size W w') :
    Calls Tryz.prog 116 #[.int .i64 p, .pointer (some ⟨X, 0, none⟩), .pointer (some ⟨Y, 0, none⟩), .pointer (some ⟨D, 0, none⟩)] w fun e w' => e = .returned (.bool (!b6)) ∧ Below w.heap.size w w' := by
  have BX := Sd.mk hX
  have BY := Sd.mk hY
  have BL := Sd.mk hL
  have BD := Sd.mk hD
  have HH := Sd.mk hh
  clear hX hY hL hD hh
  go_enter Tryz.func116, Tryz.ntmps116
  go_upto_region 1 with (fail)
  refine start_ (n := 11) (S := fun w' => w'.heap[X]? = some (.cells #[.slice A zs.length c, .int .i64 f1, .int .i64 f2] 73 (0, 0)) ∧ w'.heap[Y]? = some (.cells #[.slice At ts.length ct] 24 (0, 0)) ∧ w'.heap[D]? = some (.cells #[.func (.func 114) #[] #[.pointer (some ⟨L, 0, none⟩)]] 153 (0, 0))) (ds := []) #[false, false, false, false, false, false, false, false, false, false, false] (by kernel_rfl) rfl rfl ⟨BX.out, BY.out, BD.out⟩ (fun hHeld => ?_); refine with_tabW bu_tab116 bu_bits (fun HT_ HW_ => ?_)
  have HB := Sd.mk (below_drew1 (Below.refl w.heap.size w))
  have BLd : Sd (w.drew.heap[L]? = some (.cells #[.int .i64 pr, .int .i64 fo, .int .i64 sp, .int .i64 ot] 48 (0, 0))) := ⟨BL.out⟩
  generalize w.drew = W0 at HB BLd hHeld ⊢
  refine take_ (i := 0) (N := some 9) (v := ?_) (a' := ?_) #[true, false, false, false, false, false, false, false, false, false, false] rfl rfl (take_ofW HT_.out HW_.out (by kernel_rfl)) (fun _ _ _ h => h) (Or.inl ⟨by rfl, ?_⟩) hHeld ?_ ?_
  rotate_left
  · rintro w' ⟨hx, hy, hd⟩
    have s0 : w'.cell? ⟨X, 0, none⟩ = some (.slice A zs.length c) := (blk_cell hx 0).trans rfl
    have s1 : w'.cell? ⟨X, 0 + 1, none⟩ = some (.int .i64 f1) := (blk_cell hx 1).trans rfl
    have s2 : w'.cell? ⟨X, 0 + 2, none⟩ = some (.int .i64 f2) := (blk_cell hx 2).trans rfl
    go_simp
    with_reducible rfl
  rotate_left
  · simp only [Act.put, List.setIfInBounds_toArray, List.set_cons_zero, List.set_cons_succ, i64_w, i32_w]
    rfl
  refine take_ (i := 1) (N := some 10) (v := ?_) (a' := ?_) #[true, true, false, false, false, false, false, false, false, false, false] rfl rfl (take_ofW HT_.out HW_.out (by kernel_rfl)) (fun _ _ _ h => h) (Or.inl ⟨by rfl, ?_⟩) hHeld ?_ ?_
  rotate_left
  · rintro w' ⟨hx, hy, hd⟩
    have s0 : w'.cell? ⟨Y, 0, none⟩ = some (.slice At ts.length ct) := (blk_cell hy 0).trans rfl
    go_simp
    with_reducible rfl
  rotate_left
  · simp only [Act.put, List.setIfInBounds_toArray, List.set_cons_zero, List.set_cons_succ, i64_w, i32_w]
    rfl
  refine take_ (i := 2) (N := some 11) (v := ?_) (a' := ?_) #[true, true, true, false, false, false, false, false, false, false, false] rfl rfl (take_ofW HT_.out HW_.out (by kernel_rfl)) (fun _ _ _ h => h) (Or.inl ⟨by rfl, ?_⟩) hHeld ?_ ?_
  rotate_left
  · rintro w' ⟨hx, hy, hd⟩
    have s0 : w'.cell? ⟨D, 0, none⟩ = some (.func (.func 114) #[] #[.pointer (some ⟨L, 0, none⟩)]) := (blk_cell hd 0).trans rfl
    go_simp
    with_reducible rfl
  rotate_left
  · simp only [Act.put, List.setIfInBounds_toArray, List.set_cons_zero, List.set_cons_succ, i64_w, i32_w]
    rfl
  refine pure_ (i := 3) (N := some 12) (v := ?_) (a' := ?_) #[true, true, true, true, false, false, false, false, false, false, false] rfl rfl (any_of HT_.out (by kernel_rfl)) (fun _ _ _ h => h) (Or.inl ⟨by rfl, ?_⟩) ?_ ?_
  rotate_left
  · intro w'
    go_simp
    with_reducible rfl
  rotate_left
  · simp only [Act.put, List.setIfInBounds_toArray, List.set_cons_zero, List.set_cons_succ, i64_w, i32_w]
    rfl
  refine one_ (i := 4) (N := some 13) #[true, true, true, true, true, false, false, false, false, false, false] rfl rfl (one_of HT_.out (by kernel_rfl)) (by decide) (fun K hK => ?_)
  refine goesU_ 114 #[.pointer (some ⟨L, 0, none⟩)] (enters_of Tryz.func114 (by kernel_rfl) rfl) #[.int .i64 p] (by rfl) rfl rfl (by rfl) (by (try simp only [List.map_toArray, List.map_cons, List.map_nil]); first | done | rfl) ?_
  refine (with_calls p pr fo sp ot L _ BLd.out).mono ?_
  rintro e w4 ⟨rfl, hb⟩
  refine ⟨_, rfl, ?_⟩
  obtain ⟨hx, hy, hd⟩ := hHeld
  have HB4 := Sd.mk (below_then HB.out HB.out.size hb)
  have S4 := Sd.mk (And.intro (blk_below hx hb) (And.intro (blk_below hy hb) (blk_below hd hb)))
  clear hb hx hy hd
  refine hK.out _ _ S4.out (fun hHeld => ?_)
  clear hK K
  refine norm_ (a' := ?_) ?_ ?_
  rotate_left
  · show Act.put _ (some 13) _ = _
    simp only [Act.put, List.setIfInBounds_toArray, List.set_cons_zero, List.set_cons_succ, i64_w, i32_w]
    rfl
  refine one_ (i := 5) (N := some 14) #[true, true, true, true, true, true, false, false, false, false, false] rfl rfl (one_of HT_.out (by kernel_rfl)) (by decide) (fun K hK => ?_)
  refine goes_ Tryz.func117 (by kernel_rfl) rfl #[.agg #[.slice A zs.length c, .int .i64 f1, .int .i64 f2], .slice At ts.length ct, .agg #[.int .i64 p, .int .i64 fo, .int .i64 sp, .int .i64 ot]] (by (try simp only [Array.map_toArray, List.map_toArray, List.map_cons, List.map_nil]); rfl) rfl rfl (by (try simp only [List.map_toArray, List.map_cons, List.map_nil]); first | done | rfl) ?_
  refine (HH.out _ HB4.out).mono ?_
  rintro e w5 ⟨rfl, hb⟩
  refine ⟨_, rfl, ?_⟩
  have HB5 := Sd.mk (below_then HB4.out HB4.out.size hb)
  have S5 := Sd.mk (And.intro (blk_below S4.out.1 hb) (And.intro (blk_below S4.out.2.1 hb) (blk_below S4.out.2.2 hb)))
  clear hb
  refine hK.out _ _ S5.out (fun hHeld => ?_)
  clear hK K
  refine norm_ (a' := ?_) ?_ ?_
  rotate_left
  · show Act.put _ (some 14) _ = _
    simp only [Act.put, List.setIfInBounds_toArray, List.set_cons_zero, List.set_cons_succ, i64_w, i32_w]
    rfl
  refine pure_ (i := 6) (N := some 8) (v := ?_) (a' := ?_) #[true, true, true, true, true, true, true, false, false, false, false] rfl rfl (any_of HT_.out (by kernel_rfl)) (fun _ _ _ h => h) (Or.inl ⟨by rfl, ?_⟩) ?_ ?_
  rotate_left
  · intro w'
    go_simp
    with_reducible rfl
  rotate_left
  · simp only [Act.put, List.setIfInBounds_toArray, List.set_cons_zero, List.set_cons_succ, i64_w, i32_w]
    rfl
  refine pure_ (i := 7) (N := some 15) (v := ?_) (a' := ?_) #[true, true, true, true, true, true, true, true, false, false, false] rfl rfl (any_of HT_.out (by kernel_rfl)) (fun _ _ _ h => h) (Or.inl ⟨by rfl, ?_⟩) ?_ ?_
  rotate_left
  · intro w'
    go_simp
    with_reducible rfl
  rotate_left
  · simp only [Act.put, List.setIfInBounds_toArray, List.set_cons_zero, List.set_cons_succ, i64_w, i32_w]
    rfl
  refine pure_ (i := 8) (N := some 16) (v := ?_) (a' := ?_) #[true, true, true, true, true, true, true, true, true, false, false] rfl rfl (any_of HT_.out (by kernel_rfl)) (fun _ _ _ h => h) (Or.inl ⟨by rfl, ?_⟩) ?_ ?_
  rotate_left
  · intro w'
    go_simp
    with_reducible rfl
  rotate_left
  · simp only [Act.put, List.setIfInBounds_toArray, List.set_cons_zero, List.set_cons_succ, i64_w, i32_w]
    rfl
  refine pure_ (i := 9) (N := some 6) (v := ?_) (a' := ?_) #[true, true, true, true, true, true, true, true, true, true, false] rfl rfl (any_of HT_.out (by kernel_rfl)) (fun _ _ _ h => h) (Or.inl ⟨by rfl, ?_⟩) ?_ ?_
  rotate_left
  · intro w'
    go_simp
    with_reducible rfl
  rotate_left
  · simp only [Act.put, List.setIfInBounds_toArray, List.set_cons_zero, List.set_cons_succ, i64_w, i32_w]
    rfl
  refine pure_ (i := 10) (N := some 7) (v := ?_) (a' := ?_) #[true, true, true, true, true, true, true, true, true, true, true] rfl rfl (any_of HT_.out (by kernel_rfl)) (fun _ _ _ h => h) (Or.inl ⟨by rfl, ?_⟩) ?_ ?_
  rotate_left
  · intro w'
    go_simp
    with_reducible rfl
  rotate_left
  · simp only [Act.put, List.setIfInBounds_toArray, List.set_cons_zero, List.set_cons_succ, i64_w, i32_w]
    rfl
  refine done_ (done_of HT_.out (by kernel_rfl)) ?_
  go_wp2
  go_ret
  exact ⟨rfl, HB5.out⟩
theorem burst4_calls (A : Option Addr) (c : Nat) (zs : List S92) (f1 f2 : Int) (At : Option Addr) (ct : Nat) (ts : List S27) (pr fo sp ot p : Int) (b6 b7 : Bool) (X Y L D : Nat) (w : World) (hX : w.heap[X]? = some (.cells #[.slice A zs.length c, .int .i64 f1, .int .i64 f2] 73 (0, 0))) (hY : w.heap[Y]? = some (.cells #[.slice At ts.length ct] 24 (0, 0))) (hL : w.heap[L]? = some (.cells #[.int .i64 pr, .int .i64 fo, .int .i64 sp, .int .i64 ot] 48 (0, 0))) (hD : w.heap[D]? = some (.cells #[.func (.func 114) #[] #[.pointer (some ⟨L, 0, none⟩)]] 153 (0, 0)))
    (hh : ∀ W, Below w.heap.size w W → Calls Tryz.prog 117 #[.agg #[.slice A zs.length c, .int .i64 f1, .int .i64 f2], .slice At ts.length ct, .agg #[.int .i64 p, .int .i64 fo, .int .i64 sp, .int .i64 ot]] W fun e w' => e = .returned (.tuple #[.bool b6, .bool b7]) ∧ Below W.heap.size W w') :
    Calls Tryz.prog 118 #[.int .i64 p, .pointer (some ⟨X, 0, none⟩), .pointer (some ⟨Y, 0, none⟩), .pointer (some ⟨D, 0, none⟩)] w fun e w' => e = .returned (.bool b7) ∧ Below w.heap.size w w' := by
  have BX := Sd.mk hX
  have BY := Sd.mk hY
  have BL := Sd.mk hL
  have BD := Sd.mk hD
  have HH := Sd.mk hh
  clear hX hY hL hD hh
  go_enter Tryz.func118, Tryz.ntmps118
  go_upto_region 1 with (fail)
  refine start_ (n := 11) (S := fun w' => w'.heap[X]? = some (.cells #[.slice A zs.length c, .int .i64 f1, .int .i64 f2] 73 (0, 0)) ∧ w'.heap[Y]? = some (.cells #[.slice At ts.length ct] 24 (0, 0)) ∧ w'.heap[D]? = some (.cells #[.func (.func 114) #[] #[.pointer (some ⟨L, 0, none⟩)]] 153 (0, 0))) (ds := []) #[false, false, false, false, false, false, false, false, false, false, false] (by kernel_rfl) rfl rfl ⟨BX.out, BY.out, BD.out⟩ (fun hHeld => ?_); refine with_tabW bu_tab118 bu_bits (fun HT_ HW_ => ?_)
  have HB := Sd.mk (below_drew1 (Below.refl w.heap.size w))
  have BLd : Sd (w.drew.heap[L]? = some (.cells #[.int .i64 pr, .int .i64 fo, .int .i64 sp, .int .i64 ot] 48 (0, 0))) := ⟨BL.out⟩
  generalize w.drew = W0 at HB BLd hHeld ⊢
  refine take_ (i := 0) (N := some 9) (v := ?_) (a' := ?_) #[true, false, false, false, false, false, false, false, false, false, false] rfl rfl (take_ofW HT_.out HW_.out (by kernel_rfl)) (fun _ _ _ h => h) (Or.inl ⟨by rfl, ?_⟩) hHeld ?_ ?_
  rotate_left
  · rintro w' ⟨hx, hy, hd⟩
    have s0 : w'.cell? ⟨X, 0, none⟩ = some (.slice A zs.length c) := (blk_cell hx 0).trans rfl
    have s1 : w'.cell? ⟨X, 0 + 1, none⟩ = some (.int .i64 f1) := (blk_cell hx 1).trans rfl
    have s2 : w'.cell? ⟨X, 0 + 2, none⟩ = some (.int .i64 f2) := (blk_cell hx 2).trans rfl
    go_simp
    with_reducible rfl
  rotate_left
  · simp only [Act.put, List.setIfInBounds_toArray, List.set_cons_zero, List.set_cons_succ, i64_w, i32_w]
    rfl
  refine take_ (i := 1) (N := some 10) (v := ?_) (a' := ?_) #[true, true, false, false, false, false, false, false, false, false, false] rfl rfl (take_ofW HT_.out HW_.out (by kernel_rfl)) (fun _ _ _ h => h) (Or.inl ⟨by rfl, ?_⟩) hHeld ?_ ?_
  rotate_left
  · rintro w' ⟨hx, hy, hd⟩
    have s0 : w'.cell? ⟨Y, 0, none⟩ = some (.slice At ts.length ct) := (blk_cell hy 0).trans rfl
    go_simp
    with_reducible rfl
  rotate_left
  · simp only [Act.put, List.setIfInBounds_toArray, List.set_cons_zero, List.set_cons_succ, i64_w, i32_w]
    rfl
  refine take_ (i := 2) (N := some 11) (v := ?_) (a' := ?_) #[true, true, true, false, false, false, false, false, false, false, false] rfl rfl (take_ofW HT_.out HW_.out (by kernel_rfl)) (fun _ _ _ h => h) (Or.inl ⟨by rfl, ?_⟩) hHeld ?_ ?_
  rotate_left
  · rintro w' ⟨hx, hy, hd⟩
    have s0 : w'.cell? ⟨D, 0, none⟩ = some (.func (.func 114) #[] #[.pointer (some ⟨L, 0, none⟩)]) := (blk_cell hd 0).trans rfl
    go_simp
    with_reducible rfl
  rotate_left
  · simp only [Act.put, List.setIfInBounds_toArray, List.set_cons_zero, List.set_cons_succ, i64_w, i32_w]
    rfl
  refine pure_ (i := 3) (N := some 12) (v := ?_) (a' := ?_) #[true, true, true, true, false, false, false, false, false, false, false] rfl rfl (any_of HT_.out (by kernel_rfl)) (fun _ _ _ h => h) (Or.inl ⟨by rfl, ?_⟩) ?_ ?_
  rotate_left
  · intro w'
    go_simp
    with_reducible rfl
  rotate_left
  · simp only [Act.put, List.setIfInBounds_toArray, List.set_cons_zero, List.set_cons_succ, i64_w, i32_w]
    rfl
  refine one_ (i := 4) (N := some 13) #[true, true, true, true, true, false, false, false, false, false, false] rfl rfl (one_of HT_.out (by kernel_rfl)) (by decide) (fun K hK => ?_)
  refine goesU_ 114 #[.pointer (some ⟨L, 0, none⟩)] (enters_of Tryz.func114 (by kernel_rfl) rfl) #[.int .i64 p] (by rfl) rfl rfl (by rfl) (by (try simp only [List.map_toArray, List.map_cons, List.map_nil]); first | done | rfl) ?_
  refine (with_calls p pr fo sp ot L _ BLd.out).mono ?_
  rintro e w4 ⟨rfl, hb⟩
  refine ⟨_, rfl, ?_⟩
  obtain ⟨hx, hy, hd⟩ := hHeld
  have HB4 := Sd.mk (below_then HB.out HB.out.size hb)
  have S4 := Sd.mk (And.intro (blk_below hx hb) (And.intro (blk_below hy hb) (blk_below hd hb)))
  clear hb hx hy hd
  refine hK.out _ _ S4.out (fun hHeld => ?_)
  clear hK K
  refine norm_ (a' := ?_) ?_ ?_
  rotate_left
  · show Act.put _ (some 13) _ = _
    simp only [Act.put, List.setIfInBounds_toArray, List.set_cons_zero, List.set_cons_succ, i64_w, i32_w]
    rfl
  refine one_ (i := 5) (N := some 14) #[true, true, true, true, true, true, false, false, false, false, false] rfl rfl (one_of HT_.out (by kernel_rfl)) (by decide) (fun K hK => ?_)
  refine goes_ Tryz.func117 (by kernel_rfl) rfl #[.agg #[.slice A zs.length c, .int .i64 f1, .int .i64 f2], .slice At ts.length ct, .agg #[.int .i64 p, .int .i64 fo, .int .i64 sp, .int .i64 ot]] (by (try simp only [Array.map_toArray, List.map_toArray, List.map_cons, List.map_nil]); rfl) rfl rfl (by (try simp only [List.map_toArray, List.map_cons, List.map_nil]); first | done | rfl) ?_
  refine (HH.out _ HB4.out).mono ?_
  rintro e w5 ⟨rfl, hb⟩
  refine ⟨_, rfl, ?_⟩
  have HB5 := Sd.mk (below_then HB4.out HB4.out.size hb)
  have S5 := Sd.mk (And.intro (blk_below S4.out.1 hb) (And.intro (blk_below S4.out.2.1 hb) (blk_below S4.out.2.2 hb)))
  clear hb
  refine hK.out _ _ S5.out (fun hHeld => ?_)
  clear hK K
  refine norm_ (a' := ?_) ?_ ?_
  rotate_left
  · show Act.put _ (some 14) _ = _
    simp only [Act.put, List.setIfInBounds_toArray, List.set_cons_zero, List.set_cons_succ, i64_w, i32_w]
    rfl
  refine pure_ (i := 6) (N := some 8) (v := ?_) (a' := ?_) #[true, true, true, true, true, true, true, false, false, false, false] rfl rfl (any_of HT_.out (by kernel_rfl)) (fun _ _ _ h => h) (Or.inl ⟨by rfl, ?_⟩) ?_ ?_
  rotate_left
  · intro w'
    go_simp
    with_reducible rfl
  rotate_left
  · simp only [Act.put, List.setIfInBounds_toArray, List.set_cons_zero, List.set_cons_succ, i64_w, i32_w]
    rfl
  refine pure_ (i := 7) (N := some 15) (v := ?_) (a' := ?_) #[true, true, true, true, true, true, true, true, false, false, false] rfl rfl (any_of HT_.out (by kernel_rfl)) (fun _ _ _ h => h) (Or.inl ⟨by rfl, ?_⟩) ?_ ?_
  rotate_left
  · intro w'
    go_simp
    with_reducible rfl
  rotate_left
  · simp only [Act.put, List.setIfInBounds_toArray, List.set_cons_zero, List.set_cons_succ, i64_w, i32_w]
    rfl
  refine pure_ (i := 8) (N := some 16) (v := ?_) (a' := ?_) #[true, true, true, true, true, true, true, true, true, false, false] rfl rfl (any_of HT_.out (by kernel_rfl)) (fun _ _ _ h => h) (Or.inl ⟨by rfl, ?_⟩) ?_ ?_
  rotate_left
  · intro w'
    go_simp
    with_reducible rfl
  rotate_left
  · simp only [Act.put, List.setIfInBounds_toArray, List.set_cons_zero, List.set_cons_succ, i64_w, i32_w]
    rfl
  refine pure_ (i := 9) (N := some 6) (v := ?_) (a' := ?_) #[true, true, true, true, true, true, true, true, true, true, false] rfl rfl (any_of HT_.out (by kernel_rfl)) (fun _ _ _ h => h) (Or.inl ⟨by rfl, ?_⟩) ?_ ?_
  rotate_left
  · intro w'
    go_simp
    with_reducible rfl
  rotate_left
  · simp only [Act.put, List.setIfInBounds_toArray, List.set_cons_zero, List.set_cons_succ, i64_w, i32_w]
    rfl
  refine pure_ (i := 10) (N := some 7) (v := ?_) (a' := ?_) #[true, true, true, true, true, true, true, true, true, true, true] rfl rfl (any_of HT_.out (by kernel_rfl)) (fun _ _ _ h => h) (Or.inl ⟨by rfl, ?_⟩) ?_ ?_
  rotate_left
  · intro w'
    go_simp
    with_reducible rfl
  rotate_left
  · simp only [Act.put, List.setIfInBounds_toArray, List.set_cons_zero, List.set_cons_succ, i64_w, i32_w]
    rfl
  refine done_ (done_of HT_.out (by kernel_rfl)) ?_
  go_wp2
  go_ret
  exact ⟨rfl, HB5.out⟩
theorem Burst_ok (A : Option Addr) (c : Nat) (zs : List S92) (f1 f2 : Int) (At : Option Addr) (ct : Nat) (ts : List S27) (pr fo sp ot m : Int) (lo hi : Nat → Nat → Int) (c1 c2 : Nat) (w : World) (hr : Kd.C k92 w A zs.length zs) (ht : Kd.C k27 w At ts.length ts) (h : askLV zs f1 f2 ts pr fo sp ot = 0)
    (hlim : ∀ W, Calls Tryz.prog 191 #[.agg #[.slice A zs.length c, .int .i64 f1, .int .i64 f2]] W fun e w' => e = .returned (.int .i64 m) ∧ Below W.heap.size W w')
    (hst : ∀ i : Nat, i < 10001 → ∀ k : Nat, k < zs.length → ∀ W, Calls Tryz.prog 112 #[ringV (rd_T92 zs (k : Int)), spanV (rd_T27 ts (k : Int)), loadVv (i : Int) fo sp ot] W fun e w' => e = .returned (.agg #[.int .i64 (lo i k), .int .i64 (hi i k)]) ∧ Below W.heap.size W w')
    (h1 : TurnsAt (fun i => !holdN (hi i) m zs.length) 10001 c1) (h2 : TurnsAt (fun i => breakN (lo i) m zs.length) 10001 c2) :
    Calls Tryz.prog 38 #[.agg #[.slice A zs.length c, .int .i64 f1, .int .i64 f2], .slice At ts.length ct, .agg #[.int .i64 pr, .int .i64 fo, .int .i64 sp, .int .i64 ot]] w fun e w' => e = .returned (.tuple #[.agg #[.int .i64 (wrap64 (wrap64 (c1 : Int) - 1)), .int .i64 (wrap64 (c2 : Int))], .int .i64 0]) ∧ Below w.heap.size w w' := by
  have hmf := run_makeFunc_
  obtain ⟨b1, b2, b3, b4, hb0, hsz⟩ := blk_four w (.cells #[.slice A zs.length c, .int .i64 f1, .int .i64 f2] 73) (.cells #[.slice At ts.length ct] 24) (.cells #[.int .i64 pr, .int .i64 fo, .int .i64 sp, .int .i64 ot] 48) (.cells #[.int .i64 0, .int .i64 0] 27)
  have BX := Sd.mk (blk_alloc b1 (.cells #[.int .i64 0] 38))
  have BT := Sd.mk (blk_alloc b2 (.cells #[.int .i64 0] 38))
  have BL := Sd.mk (blk_alloc b3 (.cells #[.int .i64 0] 38))
  have BS := Sd.mk (blk_alloc b4 (.cells #[.int .i64 0] 38))
  have BE := Sd.mk (show _ = _ from hsz ▸ blk_new ((((w.alloc (.cells #[.slice A zs.length c, .int .i64 f1, .int .i64 f2] 73)).alloc (.cells #[.slice At ts.length ct] 24)).alloc (.cells #[.int .i64 pr, .int .i64 fo, .int .i64 sp, .int .i64 ot] 48)).alloc (.cells #[.int .i64 0, .int .i64 0] 27)) (.cells #[.int .i64 0] 38))
  have HB := Sd.mk (below_alloc hb0 (.cells #[.int .i64 0] 38))
  have HSZ := Sd.mk hsz
  have HR := Sd.mk hr
  have HTS := Sd.mk ht
  have HA := Sd.mk h
  have HLEN := Sd.mk (askLV_len h)
  have HH := Sd.mk (fun (i : Nat) (hi' : i < 10001) W hr' ht' => holds_calls A c zs f1 f2 At ct ts (i : Int) fo sp ot m (lo i) (hi i) W hr' ht' (askLV_len h) hlim (fun k hk => hst i hi' k hk))
  have H1 := Sd.mk h1
  have H2 := Sd.mk h2
  clear b1 b2 b3 b4 hb0 hsz hr ht h hst hlim h1 h2
  have HF := Sd.mk (fun (W0 : World) (D : Nat) (hb : Below w.heap.size w W0) (hX : W0.heap[w.heap.size]? = some (.cells #[.slice A zs.length c, .int .i64 f1, .int .i64 f2] 73 (0, 0))) (hY : W0.heap[w.heap.size + 1]? = some (.cells #[.slice At ts.length ct] 24 (0, 0))) (hL : W0.heap[w.heap.size + 1 + 1]? = some (.cells #[.int .i64 pr, .int .i64 fo, .int .i64 sp, .int .i64 ot] 48 (0, 0))) (hD : W0.heap[D]? = some (.cells #[.func (.func 114) #[] #[.pointer (some ⟨w.heap.size + 1 + 1, 0, none⟩)]] 153 (0, 0))) (W : World) (i : Nat) (hW : Below W0.heap.size W0 W) (hi' : i < 10001) =>
    (show Calls Tryz.prog 116 #[.int .i64 (wrap64 (0 + (i : Int))), .pointer (some ⟨w.heap.size, 0, none⟩), .pointer (some ⟨w.heap.size + 1, 0, none⟩), .pointer (some ⟨D, 0, none⟩)] W (fun e w' => e = .returned (.bool ((fun i => !holdN (hi i) m zs.length) i)) ∧ Below W.heap.size W w') from by
      rw [show wrap64 (0 + (i : Int)) = (i : Int) from by rw [Int.zero_add, wsmall (by omega) (by omega)]]
      exact burst3_calls A c zs f1 f2 At ct ts pr fo sp ot (i : Int) _ _ _ _ _ D W (blk_below hX hW) (blk_below hY hW) (blk_below hL hW) (blk_below hD hW) (fun W' hW' => HH.out i hi' W' (Kd.C_below HR.out (below_then (below_then hb hb.size hW) (below_then hb hb.size hW).size hW')) (Kd.C_below HTS.out (below_then (below_then hb hb.size hW) (below_then hb hb.size hW).size hW')))))
  have HG := Sd.mk (fun (W0 : World) (D : Nat) (hb : Below w.heap.size w W0) (hX : W0.heap[w.heap.size]? = some (.cells #[.slice A zs.length c, .int .i64 f1, .int .i64 f2] 73 (0, 0))) (hY : W0.heap[w.heap.size + 1]? = some (.cells #[.slice At ts.length ct] 24 (0, 0))) (hL : W0.heap[w.heap.size + 1 + 1]? = some (.cells #[.int .i64 pr, .int .i64 fo, .int .i64 sp, .int .i64 ot] 48 (0, 0))) (hD : W0.heap[D]? = some (.cells #[.func (.func 114) #[] #[.pointer (some ⟨w.heap.size + 1 + 1, 0, none⟩)]] 153 (0, 0))) (W : World) (i : Nat) (hW : Below W0.heap.size W0 W) (hi' : i < 10001) =>
    (show Calls Tryz.prog 118 #[.int .i64 (wrap64 (0 + (i : Int))), .pointer (some ⟨w.heap.size, 0, none⟩), .pointer (some ⟨w.heap.size + 1, 0, none⟩), .pointer (some ⟨D, 0, none⟩)] W (fun e w' => e = .returned (.bool ((fun i => breakN (lo i) m zs.length) i)) ∧ Below W.heap.size W w') from by
      rw [show wrap64 (0 + (i : Int)) = (i : Int) from by rw [Int.zero_add, wsmall (by omega) (by omega)]]
      exact burst4_calls A c zs f1 f2 At ct ts pr fo sp ot (i : Int) _ _ _ _ _ D W (blk_below hX hW) (blk_below hY hW) (blk_below hL hW) (blk_below hD hW) (fun W' hW' => HH.out i hi' W' (Kd.C_below HR.out (below_then (below_then hb hb.size hW) (below_then hb hb.size hW).size hW')) (Kd.C_below HTS.out (below_then (below_then hb hb.size hW) (below_then hb hb.size hW).size hW')))))
  go_enter_defers Tryz.func38, Tryz.ntmps38
  go_wp2_with (first
    | (go_at_call 110; refine (askL_ok A c zs f1 f2 At ct ts pr fo sp ot _ (Kd.C_below HR.out HB.out) (Kd.C_below HTS.out HB.out) HA.out).mono ?_; rintro e w1 ⟨rfl, hw1⟩; have DD : Obj := .cells #[.func (.func 114) #[] #[.pointer (some ⟨w.heap.size + 1 + 1, 0, none⟩)]] 153; have BD1 := Sd.mk (blk_new w1 (.cells #[.func (.func 114) #[] #[.pointer (some ⟨w.heap.size + 1 + 1, 0, none⟩)]] 153)); have HB1 := Sd.mk (below_alloc (below_then HB.out HB.out.size hw1) (.cells #[.func (.func 114) #[] #[.pointer (some ⟨w.heap.size + 1 + 1, 0, none⟩)]] 153)); have BX1 := Sd.mk (blk_alloc (blk_below BX.out hw1) (.cells #[.func (.func 114) #[] #[.pointer (some ⟨w.heap.size + 1 + 1, 0, none⟩)]] 153)); have BT1 := Sd.mk (blk_alloc (blk_below BT.out hw1) (.cells #[.func (.func 114) #[] #[.pointer (some ⟨w.heap.size + 1 + 1, 0, none⟩)]] 153)); have BL1 := Sd.mk (blk_alloc (blk_below BL.out hw1) (.cells #[.func (.func 114) #[] #[.pointer (some ⟨w.heap.size + 1 + 1, 0, none⟩)]] 153)); have BS1 := Sd.mk (blk_alloc (blk_below BS.out hw1) (.cells #[.func (.func 114) #[] #[.pointer (some ⟨w.heap.size + 1 + 1, 0, none⟩)]] 153)); have BE1 := Sd.mk (blk_alloc (blk_below BE.out hw1) (.cells #[.func (.func 114) #[] #[.pointer (some ⟨w.heap.size + 1 + 1, 0, none⟩)]] 153)); have HD1 := Sd.mk (show w.heap.size + 5 ≤ w1.heap.size from Nat.le_trans (by have := HSZ.out; simp only [World.size_alloc]; omega) hw1.size); have TK : Sd True := ⟨trivial⟩; clear hw1 DD)
    | (clear TK; go_at_call 115; go_loud (refine (first_calls 116 #[.pointer (some ⟨w.heap.size, 0, none⟩), .pointer (some ⟨w.heap.size + 1, 0, none⟩), .pointer (some ⟨w1.heap.size, 0, none⟩)] (enters_of Tryz.func116 (by kernel_rfl) rfl) 0 10000 10001 bu_n (by decide) _ c1 H1.out _ (HF.out _ _ HB1.out BX1.out BT1.out BL1.out BD1.out)).mono ?_; rintro e w2 ⟨rfl, hw2⟩; have BD2 := Sd.mk (blk_far (blk_below BD1.out hw2) (p := ⟨w.heap.size + 1 + 1 + 1, 0, none⟩) (by have := HD1.out; dsimp only; omega) (.int .i64 (wrap64 (wrap64 (c1 : Int) - 1)))); have BX2 := Sd.mk (blk_far (blk_below BX1.out hw2) (p := ⟨w.heap.size + 1 + 1 + 1, 0, none⟩) (by dsimp only; omega) (.int .i64 (wrap64 (wrap64 (c1 : Int) - 1)))); have BT2 := Sd.mk (blk_far (blk_below BT1.out hw2) (p := ⟨w.heap.size + 1 + 1 + 1, 0, none⟩) (by dsimp only; omega) (.int .i64 (wrap64 (wrap64 (c1 : Int) - 1)))); have BL2 := Sd.mk (blk_far (blk_below BL1.out hw2) (p := ⟨w.heap.size + 1 + 1 + 1, 0, none⟩) (by dsimp only; omega) (.int .i64 (wrap64 (wrap64 (c1 : Int) - 1)))); have BE2 := Sd.mk (blk_far (blk_below BE1.out hw2) (p := ⟨w.heap.size + 1 + 1 + 1, 0, none⟩) (by dsimp only; omega) (.int .i64 (wrap64 (wrap64 (c1 : Int) - 1)))); have BS2 := Sd.mk (blk_put (blk_below BS1.out hw2) 0 (.int .i64 (wrap64 (wrap64 (c1 : Int) - 1))) rfl); have HB2 := Sd.mk (below_set (below_then HB1.out HB1.out.size hw2) (g := w.heap.size + 1 + 1 + 1) (j := 0) (v := .int .i64 (wrap64 (wrap64 (c1 : Int) - 1))) (by omega)); have hs0 : w2.cell? ⟨w.heap.size + 1 + 1 + 1, 0, none⟩ = some (.int .i64 0) := (blk_cell (blk_below BS1.out hw2) 0).trans rfl; have hs1 := blk_frozen (blk_below BS1.out hw2) 0; clear hw2))
    | (go_at_call 115; go_loud (refine (first_calls 118 #[.pointer (some ⟨w.heap.size, 0, none⟩), .pointer (some ⟨w.heap.size + 1, 0, none⟩), .pointer (some ⟨w1.heap.size, 0, none⟩)] (enters_of Tryz.func118 (by kernel_rfl) rfl) 0 10000 10001 bu_n (by decide) _ c2 H2.out _ (HG.out _ _ HB2.out BX2.out BT2.out BL2.out BD2.out)).mono ?_; rintro e w3 ⟨rfl, hw3⟩; have BS3 := Sd.mk (blk_below BS2.out hw3); have BS4 := Sd.mk (blk_put BS3.out 1 (.int .i64 (wrap64 (c2 : Int))) rfl); have BE3 := Sd.mk (blk_far (blk_below BE2.out hw3) (p := ⟨w.heap.size + 1 + 1 + 1, 1, none⟩) (by dsimp only; omega) (.int .i64 (wrap64 (c2 : Int)))); have HB3 := Sd.mk (below_set (below_then HB2.out HB2.out.size hw3) (g := w.heap.size + 1 + 1 + 1) (j := 1) (v := .int .i64 (wrap64 (c2 : Int))) (by omega)); have ht0 : w3.cell? ⟨w.heap.size + 1 + 1 + 1, 0 + 1, none⟩ = some (.int .i64 0) := (blk_cell BS3.out 1).trans rfl; have ht1 : w3.frozen? ⟨w.heap.size + 1 + 1 + 1, 0 + 1, none⟩ = false := blk_frozen BS3.out 1; have hu0 : w3.cell? ⟨w.heap.size + 1 + 1 + 1, 0, none⟩ = some (.int .i64 (wrap64 (wrap64 (c1 : Int) - 1))) := (blk_cell BS3.out 0).trans rfl; have hu1 : w3.frozen? ⟨w.heap.size + 1 + 1 + 1, 0, none⟩ = false := blk_frozen BS3.out 0; have hu2 : w3.cell? ⟨w.heap.size + 1 + 1 + 1 + 1, 0, none⟩ = some (.int .i64 0) := (blk_cell (blk_below BE2.out hw3) 0).trans rfl; have hu3 : w3.frozen? ⟨w.heap.size + 1 + 1 + 1 + 1, 0, none⟩ = false := blk_frozen (blk_below BE2.out hw3) 0; have hu4 : w3.cell? ⟨w.heap.size + 1 + 1 + 1, 1, none⟩ = some (.int .i64 0) := (blk_cell BS3.out 1).trans rfl; have hu5 : w3.frozen? ⟨w.heap.size + 1 + 1 + 1, 1, none⟩ = false := blk_frozen BS3.out 1; clear hw3)))
  refine leaves_cons (f := 113) (args := #[.pointer (some ⟨w.heap.size + 1 + 1 + 1 + 1, 0, none⟩)]) (by simp) (by simp [go_sem]) ?_
  refine (door113_ok _ _).mono ?_
  rintro e u' w'' ⟨rfl, rfl, rfl⟩
  have BS5 := blk_far (blk_put (blk_put BS4.out 0 (.int .i64 (wrap64 (wrap64 (c1 : Int) - 1))) rfl) 1 (.int .i64 (wrap64 (c2 : Int))) rfl) (p := ⟨w.heap.size + 1 + 1 + 1 + 1, 0, none⟩) (by dsimp only; omega) (.int .i64 0)
  have BE5 := blk_put (blk_far (blk_far BE3.out (p := ⟨w.heap.size + 1 + 1 + 1, 0, none⟩) (by dsimp only; omega) (.int .i64 (wrap64 (wrap64 (c1 : Int) - 1)))) (p := ⟨w.heap.size + 1 + 1 + 1, 1, none⟩) (by dsimp only; omega) (.int .i64 (wrap64 (c2 : Int)))) 0 (.int .i64 0) rfl
  exact ⟨_, results_ce rfl _ _ (w.heap.size + 1 + 1 + 1) (w.heap.size + 1 + 1 + 1 + 1) _ _ rfl (run_loadVar_row _ _ 27 27 _ (0, 0) _ BS5 Tryz.underlying27 rfl (by kernel_rfl)) rfl BE5, rfl, below_set (below_set (below_set HB3.out (by omega)) (by omega)) (by omega)⟩
end
end Go.Proofs.YtljfljekcpdpiaaGreat.PB
